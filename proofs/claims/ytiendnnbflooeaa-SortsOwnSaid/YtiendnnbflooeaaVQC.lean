/- More of the plain laws of the sorts: what the package calls the same, the reference's copy. -/
import Derived.Test.YtiendnnbflooeaaV4
import Derived.Test.YtiendnnbflooeaaV6
import Derived.Test.YtiendnnbflooeaaVQS
namespace Go.Proofs.Ytiendnnbflooeaa.V
open Go.RowKit Go.Proofs.YtiendnnbflooeaaW.PrintWords Go.Proofs.YtiendnnbflooeaaW.PrintLast Go.Proofs.YtiendnnbflooeaaW.PrintMore
set_option linter.unusedVariables false
set_option linter.unusedSimpArgs false
theorem same_ev (N : Nat) : ∀ (l m : List S24), SizeOf.sizeOf l < N → cntL l ≤ 1000 → Ev (fun k => sorts_same.f k l m) (eqL l m) := by
  induction N with
  | zero => intro l m h; omega
  | succ N ih =>
  intro l m hN h1
  have hlen := cntL_ge l
  by_cases hlm : l.length = m.length
  · have loop : ∀ (n i : Nat), l.length - i = n → i ≤ l.length → Ev (fun k => sorts_same.l0 k (l.length : Int) (i : Int) l m) (eqL (l.drop i) (m.drop i)) := by
      intro n
      induction n with
      | zero =>
        intro i hn hi
        have hd : l.drop i = [] := List.drop_eq_nil_of_le (by omega)
        have hd2 : m.drop i = [] := List.drop_eq_nil_of_le (by omega)
        rw [hd, hd2]
        change Ev _ true
        exact Ev.step (fun k => by rw [sorts_same.l0, if_neg (by omega)]) (Ev.now _)
      | succ n ihn =>
        intro i hn hi
        have hil : i < l.length := by omega
        have hch := cnt_child l i hil
        refine Ev.step (fun k => by rw [sorts_same.l0, if_pos (by omega), if_pos (by omega), if_pos (by omega), if_pos (by omega)]) ?_
        refine Ev.bind (a := eqL (rd_T24 l (i : Int)).f0 (rd_T24 m (i : Int)).f0) ?_ ?_
        · exact ih _ _ (by have := rd_T24_mem l i hil; omega) (by omega)
        · rw [drop_eq l m i hil (by omega)]
          cases eqL (rd_T24 l (i : Int)).f0 (rd_T24 m (i : Int)).f0
          · exact Ev.now _
          · rw [w64 _ (by omega)]
            exact ihn (i + 1) (by omega) (by omega)
    refine Ev.step (fun k => by rw [sorts_same.f, if_pos (by omega)]) ?_
    have := loop l.length 0 (by omega) (by omega)
    rw [List.drop_zero, List.drop_zero] at this
    exact this
  · have : eqL l m = false := by
      cases h : eqL l m
      · rfl
      · exact absurd (eqL_len l m h) hlm
    rw [this]
    exact Ev.step (fun k => by rw [sorts_same.f, if_neg (by omega)]) (Ev.now _)
theorem same_ev' (l m : List S24) : Ev (fun k => sorts_Same.f k l m) (sameB l m) := by
  unfold sorts_Same.f sameB
  rw [size_eq, size_eq]
  simp only [Option.bind_some]
  by_cases h : 1 + cntL l ≤ 60
  · simp only [h, if_true, decide_true, Bool.true_and]
    by_cases h2 : 1 + cntL m ≤ 60
    · simp only [h2, if_true]
      by_cases h3 : 1 + cntL l = 1 + cntL m
      · refine Ev.ifp h3 ?_
        exact Ev.bind (same_ev _ l m (Nat.lt_succ_self _) (by omega)) (Ev.now _)
      · refine Ev.ifn h3 ?_
        have : eqL l m = false := by
          cases h4 : eqL l m
          · rfl
          · exact absurd (eqL_cnt l m h4) (by omega)
        rw [this]
        exact Ev.now _
    · simp only [h2, if_false]
      refine Ev.ifn (by omega) ?_
      have : eqL l m = false := by
        cases h4 : eqL l m
        · rfl
        · exact absurd (eqL_cnt l m h4) (by omega)
      rw [this]
      exact Ev.now _
  · simp only [h, if_false, decide_false, Bool.false_and]
    refine Ev.ifn (by decide) ?_
    exact Ev.now _
theorem refcopy_ev (N : Nat) : ∀ (l : List S24), SizeOf.sizeOf l < N → cntL l ≤ 1000 → Ev (fun k => virgationref01_Copy.f k l) l := by
  induction N with
  | zero => intro l h; omega
  | succ N ih =>
  intro l hN h1
  have hlen := cntL_ge l
  have loop : ∀ (n i : Nat) (x3 : List S24), l.length - i = n → i ≤ l.length → x3.length = i → Ev (fun k => virgationref01_Copy.l0 k l (l.length : Int) (i : Int) x3) (x3 ++ l.drop i) := by
    intro n
    induction n with
    | zero =>
      intro i x3 hn hi h2
      have hd : l.drop i = [] := List.drop_eq_nil_of_le (by omega)
      rw [hd, List.append_nil]
      exact Ev.step (fun k => by rw [virgationref01_Copy.l0, if_neg (by omega)]) (Ev.now _)
    | succ n ihn =>
      intro i x3 hn hi h2
      have hil : i < l.length := by omega
      have hch := cnt_child l i hil
      refine Ev.step (fun k => by rw [virgationref01_Copy.l0, if_pos (by omega), if_pos (by omega), if_pos (by omega)]) ?_
      refine Ev.bind (a := (rd_T24 l (i : Int)).f0) ?_ ?_
      · exact ih _ (by have := rd_T24_mem l i hil; omega) (by omega)
      · refine Ev.ifp (by omega) ?_
        rw [w64 _ (by omega), rd_T24_drop l i hil, show (⟨(rd_T24 l (i : Int)).f0⟩ : S24) = rd_T24 l (i : Int) from by cases rd_T24 l (i : Int); rfl]
        have := ihn (i + 1) (x3 ++ [rd_T24 l (i : Int)]) (by omega) (by omega) (by rw [List.length_append, h2]; rfl)
        rw [List.append_assoc, show ((i + 1 : Nat) : Int) = (i : Int) + 1 from rfl] at this
        exact this
  refine Ev.step (fun k => by rw [virgationref01_Copy.f]) ?_
  have := loop l.length 0 [] (by omega) (by omega) rfl
  rw [List.drop_zero] at this
  exact this
theorem order_ok {l : List S24} (h : isok l = true) : Ev (fun k => sorts_Order.f k l) (rnkL l, 0) := by
  unfold sorts_Order.f
  rw [check_eq, h]
  simp only [Option.bind_some, if_true]
  exact Ev.bind (order_ev _ l (Nat.lt_succ_self _) (by have := isok_cnt h; omega)) (Ev.now _)
end Go.Proofs.Ytiendnnbflooeaa.V
