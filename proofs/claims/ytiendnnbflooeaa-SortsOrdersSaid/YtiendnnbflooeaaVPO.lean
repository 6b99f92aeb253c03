/- The plain law of SortsOrders. -/
import Derived.Test.YtiendnnbflooeaaVO
import Derived.Test.YtiendnnbflooeaaVQ
namespace Go.Proofs.Ytiendnnbflooeaa.V
open Go.RowKit Go.Proofs.YtiendnnbflooeaaW.PrintWords Go.Proofs.YtiendnnbflooeaaW.PrintLast Go.Proofs.YtiendnnbflooeaaW.PrintMore
set_option linter.unusedVariables false
set_option linter.unusedSimpArgs false
theorem drop_dep_le : ∀ (l : List S24) (i : Nat), depL (l.drop i) ≤ depL l
  | [], i => by simp
  | x :: xs, 0 => by simp
  | x :: xs, i + 1 => by have h1 := drop_dep_le xs i; rw [List.drop_succ_cons]; show depL (xs.drop i) ≤ max (dep x) (depL xs); omega
theorem drop_rnk_le : ∀ (l : List S24) (i : Nat), rnkL (l.drop i) ≤ rnkL l
  | [], i => by simp
  | x :: xs, 0 => by simp
  | x :: xs, i + 1 => by have h1 := drop_rnk_le xs i; rw [List.drop_succ_cons]; show rnkL (xs.drop i) ≤ max (rnk x + 1) (rnkL xs); omega
theorem drop_few_of : ∀ (l : List S24) (i : Nat), fewL l = true → fewL (l.drop i) = true
  | [], i, h => by simp [fewL]
  | x :: xs, 0, h => by simpa using h
  | x :: xs, i + 1, h => by
    unfold fewL at h
    rw [Bool.and_eq_true] at h
    exact drop_few_of xs i h.2
mutual
theorem rnk_dep : ∀ x : S24, rnk x + 1 ≤ dep x
  | ⟨l⟩ => by have := rnkL_dep l; unfold rnk dep; omega
theorem rnkL_dep : ∀ l : List S24, rnkL l ≤ depL l
  | [] => by simp [rnkL, depL]
  | x :: xs => by have h1 := rnk_dep x; have h2 := rnkL_dep xs; unfold rnkL depL; omega
end
theorem isok_drop {l : List S24} (i : Nat) (h : isok l = true) : isok (l.drop i) = true := by
  unfold isok at h ⊢
  rw [Bool.and_eq_true, Bool.and_eq_true, decide_eq_true_eq, decide_eq_true_eq] at h ⊢
  obtain ⟨h1, h2, h3⟩ := h
  have a1 := drop_cnt_le l i
  have a2 := drop_dep_le l i
  refine ⟨by omega, by omega, ?_⟩
  have e : ∀ m : List S24, fewS ⟨m⟩ = (fewL m && decide (m.length ≤ 8)) := fun m => rfl
  rw [e, Bool.and_eq_true, decide_eq_true_eq] at h3 ⊢
  refine ⟨drop_few_of l i h3.1, ?_⟩
  rw [List.length_drop]; omega
theorem order_ok {l : List S24} (h : isok l = true) : Ev (fun k => sorts_Order.f k l) (rnkL l, 0) := by
  unfold sorts_Order.f
  rw [check_eq, h]
  simp only [Option.bind_some, if_true]
  exact Ev.bind (order_ev _ l (Nat.lt_succ_self _) (by have := isok_cnt h; omega)) (Ev.now _)
theorem same_self {x : List S24} (hx : cntL x ≤ 59) : sameB x x = true := by
  unfold sameB
  rw [eqL_refl, Bool.and_true, decide_eq_true_eq]
  omega
theorem pure_SortsOrders : ∀ (x0 : S24) (x1 : Int) (x2 : Int), (wf24 x0) → ((Lit.int .i64 x1).wf = true) → ((Lit.int .i64 x2).wf = true) → ∃ k, virgationlaw01_SortsOrders.f k x0.f0 x1 x2 = some true := by
  rintro ⟨l⟩ a b _ _ _
  refine Ev.rounds ?_
  unfold virgationlaw01_SortsOrders.f
  refine Ev.bind (beh_ev l a) ?_
  cases h : isok l
  · simp only [Bool.false_eq_true, if_false]
    exact Ev.ifn (by decide) (alive_true rfl)
  · simp only [if_true]
    by_cases ha : a < 0 ∨ a > (l.length : Int)
    · rw [if_pos ha]
      exact Ev.ifn (by decide) (alive_true rfl)
    · rw [if_neg ha]
      refine Ev.ifp rfl ?_
      have hc := isok_cnt h
      have hd := isok_drop a.toNat h
      have hl := cntL_ge l
      refine Ev.bind (order_ok h) ?_
      refine Ev.bind (order_ok hd) ?_
      rw [size_eq, if_pos (by omega)]
      simp only [Option.bind_some]
      refine Ev.ifp trivial (Ev.ifp trivial (Ev.ifn (by have := drop_rnk_le l a.toNat; omega) ?_))
      rw [show decide (1 + depL l ≤ rnkL l) = false from decide_eq_false (by have := rnkL_dep l; omega)]
      refine Ev.step (fun k => by rw [virgationlaw01_SortsOrders.j0]) ?_
      refine Ev.ifn (by simp) ?_
      refine Ev.bind (beh_ev (l.drop a.toNat) b) ?_
      rw [hd]
      simp only [if_true]
      by_cases hb : b < 0 ∨ b > ((l.drop a.toNat).length : Int)
      · rw [if_pos hb]
        exact Ev.ifn (by decide) (alive_true rfl)
      · rw [if_neg hb]
        refine Ev.ifp rfl ?_
        rw [List.length_drop] at hb
        rw [w64 _ (by omega)]
        refine Ev.bind (beh_ev l (a + b)) ?_
        rw [h]
        simp only [if_true]
        rw [if_neg (by omega)]
        refine Ev.ifp rfl ?_
        refine Ev.bind (same_ev' _ _) ?_
        rw [show (l.drop a.toNat).drop b.toNat = l.drop (a + b).toNat from by rw [List.drop_drop]; congr 1; omega]
        rw [same_self (by have := drop_cnt_le l (a + b).toNat; omega)]
        exact Ev.ifp rfl (alive_true rfl)
end Go.Proofs.Ytiendnnbflooeaa.V
