/- The plain laws of the sorts: what the walks compute, told by counts. -/
import Derived.Test.YtiendnnbflooeaaV1
import Derived.Test.YtiendnnbflooeaaV2
import Derived.Test.YtiendnnbflooeaaVOT
namespace Go.Proofs.Ytiendnnbflooeaa.V
open Go.RowKit Go.Proofs.YtiendnnbflooeaaW.PrintWords Go.Proofs.YtiendnnbflooeaaW.PrintLast Go.Proofs.YtiendnnbflooeaaW.PrintMore
set_option linter.unusedVariables false
set_option linter.unusedSimpArgs false
mutual
def cnt : S24 → Int
  | ⟨l⟩ => 1 + cntL l
def cntL : List S24 → Int
  | [] => 0
  | x :: xs => cnt x + cntL xs
end
mutual
def dep : S24 → Int
  | ⟨l⟩ => 1 + depL l
def depL : List S24 → Int
  | [] => 0
  | x :: xs => max (dep x) (depL xs)
end
mutual
def rnk : S24 → Int
  | ⟨l⟩ => rnkL l
def rnkL : List S24 → Int
  | [] => 0
  | x :: xs => max (rnk x + 1) (rnkL xs)
end
mutual
def eqS : S24 → S24 → Bool
  | ⟨l⟩, y => eqL l y.f0
def eqL : List S24 → List S24 → Bool
  | [], m => m.isEmpty
  | _ :: _, [] => false
  | x :: xs, y :: ys => eqS x y && eqL xs ys
end
mutual
theorem cnt_ge : ∀ x : S24, 1 ≤ cnt x
  | ⟨l⟩ => by have := cntL_ge l; unfold cnt; omega
theorem cntL_ge : ∀ l : List S24, (l.length : Int) ≤ cntL l
  | [] => by simp [cntL]
  | x :: xs => by have h1 := cnt_ge x; have h2 := cntL_ge xs; unfold cntL; simp only [List.length_cons]; omega
end
mutual
theorem dep_bd : ∀ x : S24, 1 ≤ dep x ∧ dep x ≤ cnt x
  | ⟨l⟩ => by have := depL_bd l; unfold dep cnt; omega
theorem depL_bd : ∀ l : List S24, 0 ≤ depL l ∧ depL l ≤ cntL l
  | [] => by simp [depL, cntL]
  | x :: xs => by have h1 := dep_bd x; have h2 := depL_bd xs; have h3 := cnt_ge x; have h4 := cntL_ge xs; unfold depL cntL; omega
end
mutual
theorem rnk_bd : ∀ x : S24, 0 ≤ rnk x ∧ rnk x + 1 ≤ cnt x
  | ⟨l⟩ => by have := rnkL_bd l; unfold rnk cnt; omega
theorem rnkL_bd : ∀ l : List S24, 0 ≤ rnkL l ∧ rnkL l ≤ cntL l
  | [] => by simp [rnkL, cntL]
  | x :: xs => by have h1 := rnk_bd x; have h2 := rnkL_bd xs; have h3 := cnt_ge x; have h4 := cntL_ge xs; unfold rnkL cntL; omega
end
mutual
theorem eqS_refl : ∀ x : S24, eqS x x = true
  | ⟨l⟩ => by unfold eqS; exact eqL_refl l
theorem eqL_refl : ∀ l : List S24, eqL l l = true
  | [] => rfl
  | x :: xs => by unfold eqL; rw [eqS_refl x, eqL_refl xs]; rfl
end
theorem eqL_len : ∀ (l m : List S24), eqL l m = true → l.length = m.length
  | [], [], _ => rfl
  | [], _ :: _, h => by simp [eqL] at h
  | _ :: _, [], h => by simp [eqL] at h
  | x :: xs, y :: ys, h => by
    unfold eqL at h
    rw [Bool.and_eq_true] at h
    rw [List.length_cons, List.length_cons, eqL_len xs ys h.2]
theorem cnt_f0 (x : S24) : cnt x = 1 + cntL x.f0 := by cases x; rfl
theorem dep_f0 (x : S24) : dep x = 1 + depL x.f0 := by cases x; rfl
theorem rnk_f0 (x : S24) : rnk x = rnkL x.f0 := by cases x; rfl
theorem eqS_f0 (x y : S24) : eqS x y = eqL x.f0 y.f0 := by cases x; rfl
theorem fewS_f0 (x : S24) : fewS x = (fewL x.f0 && decide (x.f0.length ≤ 8)) := by cases x; rfl
theorem drop_cnt (l : List S24) (i : Nat) (h : i < l.length) : cntL (l.drop i) = 1 + cntL (rd_T24 l (i : Int)).f0 + cntL (l.drop (i + 1)) := by
  rw [rd_T24_drop l i h]; show cnt _ + cntL _ = _; rw [cnt_f0]
theorem drop_dep (l : List S24) (i : Nat) (h : i < l.length) : depL (l.drop i) = max (1 + depL (rd_T24 l (i : Int)).f0) (depL (l.drop (i + 1))) := by
  rw [rd_T24_drop l i h]; show max (dep _) (depL _) = _; rw [dep_f0]
theorem drop_rnk (l : List S24) (i : Nat) (h : i < l.length) : rnkL (l.drop i) = max (rnkL (rd_T24 l (i : Int)).f0 + 1) (rnkL (l.drop (i + 1))) := by
  rw [rd_T24_drop l i h]; show max (rnk _ + 1) (rnkL _) = _; rw [rnk_f0]
theorem drop_few (l : List S24) (i : Nat) (h : i < l.length) : fewL (l.drop i) = ((fewL (rd_T24 l (i : Int)).f0 && decide ((rd_T24 l (i : Int)).f0.length ≤ 8)) && fewL (l.drop (i + 1))) := by
  rw [rd_T24_drop l i h]; show (fewS _ && fewL _) = _; rw [fewS_f0]
theorem drop_eq (l m : List S24) (i : Nat) (h : i < l.length) (h2 : i < m.length) : eqL (l.drop i) (m.drop i) = (eqL (rd_T24 l (i : Int)).f0 (rd_T24 m (i : Int)).f0 && eqL (l.drop (i + 1)) (m.drop (i + 1))) := by
  rw [rd_T24_drop l i h, rd_T24_drop m i h2]; show (eqS _ _ && eqL _ _) = _; rw [eqS_f0]
theorem drop_cnt_le : ∀ (l : List S24) (i : Nat), cntL (l.drop i) ≤ cntL l
  | [], i => by simp
  | x :: xs, 0 => by simp
  | x :: xs, i + 1 => by have h1 := drop_cnt_le xs i; have h2 := cnt_ge x; rw [List.drop_succ_cons]; show cntL (xs.drop i) ≤ cnt x + cntL xs; omega
theorem cnt_child (l : List S24) (i : Nat) (h : i < l.length) : cntL (rd_T24 l (i : Int)).f0 < cntL l := by
  have h1 := drop_cnt l i h; have h2 := drop_cnt_le l i; have h3 := cntL_ge (l.drop (i + 1)); omega
theorem w64 (x : Int) (h : -1000000 ≤ x ∧ x ≤ 1000000) : wrap64 x = x := by unfold wrap64; omega
theorem Ev.ifp {α : Type} {c : Prop} [Decidable c] {f g : Nat → Option α} {r : α} (h : c) (k : Ev f r) : Ev (fun n => if c then f n else g n) r := by
  simp only [if_pos h]; exact k
theorem Ev.ifn {α : Type} {c : Prop} [Decidable c] {f g : Nat → Option α} {r : α} (h : ¬ c) (k : Ev g r) : Ev (fun n => if c then f n else g n) r := by
  simp only [if_neg h]; exact k
theorem mx_max (a b : Int) : mx a b = max a b := by unfold mx; split <;> omega

/-! measure's answer -/
mutual
theorem meas_eq : ∀ (x : S24) (left : Int), 0 ≤ left → (if cnt x ≤ left then meas x left = (dep x, left - cnt x) else (meas x left).2 < 0)
  | ⟨l⟩, left, h => by
    have := measL_eq l (left - 1) 0 (by omega) (by omega)
    unfold cnt meas dep
    split at this
    · rw [if_pos (by omega), this]
      have h1 := depL_bd l
      rw [show max 0 (depL l) + 1 = 1 + depL l from by omega, show left - 1 - cntL l = left - (1 + cntL l) from by omega]
    · rw [if_neg (by omega)]; exact this
theorem measL_eq : ∀ (l : List S24) (left d : Int), -1 ≤ left → 0 ≤ d → (if cntL l ≤ left then measL l left d = (max d (depL l) + 1, left - cntL l) else (measL l left d).2 < 0)
  | [], left, d, h, hd => by
    unfold cntL measL depL
    split
    · rw [show max d 0 = d from by omega, show left - 0 = left from by omega]
    · simp only; omega
  | x :: xs, left, d, h, hd => by
    have hc := cnt_ge x
    have hl := cntL_ge xs
    unfold cntL measL depL
    by_cases hn : left < 0
    · rw [if_pos hn, if_neg (by omega)]; exact hn
    · rw [if_neg hn]
      have h1 := meas_eq x left (by omega)
      have hb := meas_bd x left (by omega)
      have h2 := measL_eq xs (meas x left).2 (mx d (meas x left).1) (by omega) (by rw [mx_max]; omega)
      split at h1
      · rw [h1] at h2
        simp only at h2
        rw [h1]
        simp only
        split at h2
        · rw [if_pos (by omega), h2, mx_max, show max (max d (dep x)) (depL xs) = max d (max (dep x) (depL xs)) from by omega, show left - cnt x - cntL xs = left - (cnt x + cntL xs) from by omega]
        · rw [if_neg (by omega)]; exact h2
      · rw [if_neg (by omega)]
        rw [if_neg (by omega)] at h2
        exact h2
end
theorem size_eq (l : List S24) : sorts_Size.f l = some (if 1 + cntL l ≤ 60 then (1 + cntL l, 1 + depL l) else (61, 0)) := by
  have h := meas_eq ⟨l⟩ 60 (by omega)
  have hc : cnt ⟨l⟩ = 1 + cntL l := rfl
  have hd : dep ⟨l⟩ = 1 + depL l := rfl
  rw [hc, hd] at h
  unfold sorts_Size.f
  split at h
  · rename_i hle
    have h3 : ¬ (60 - (1 + cntL l) < 0) := by omega
    rw [h, if_pos hle]
    simp only [if_neg h3]
    rw [show 60 - (60 - (1 + cntL l)) = 1 + cntL l from by omega]
  · rename_i hle
    rw [if_neg hle, if_pos h]
/-- Is it a sort that the package takes? -/
def isok (l : List S24) : Bool := decide (1 + cntL l ≤ 60) && (decide (1 + depL l ≤ 30) && fewS ⟨l⟩)
theorem check_eq (l : List S24) : sorts_Check.f l = some (if isok l = true then 0 else 6) := by
  have h := meas_eq ⟨l⟩ 60 (by omega)
  have hc : cnt ⟨l⟩ = 1 + cntL l := rfl
  have hd : dep ⟨l⟩ = 1 + depL l := rfl
  rw [hc, hd] at h
  unfold sorts_Check.f isok
  split at h
  · rename_i hle
    rw [h]
    simp only [hle, decide_true, Bool.true_and, Bool.and_eq_true, decide_eq_true_eq]
    by_cases h1 : 1 + depL l ≤ 30
    · cases h2 : fewS ⟨l⟩
      · rw [if_pos (.inr (.inr rfl)), if_neg (by simp)]
      · rw [if_neg (by simp only [reduceCtorEq, or_false, not_or]; omega), if_pos ⟨h1, rfl⟩]
    · rw [if_pos (.inr (.inl (by omega))), if_neg (by intro hh; exact h1 hh.1)]
  · rename_i hle
    rw [if_pos (.inl h)]
    simp [hle]

/-! the reference's loops -/
theorem nodes_ev (N : Nat) : ∀ (l : List S24) (most : Int), SizeOf.sizeOf l < N → 0 ≤ most → most ≤ 1000 → Ev (fun k => virgationref01_Nodes.f k l most) (min (1 + cntL l) (most + 1)) := by
  induction N with
  | zero => intro l most h; omega
  | succ N ih =>
  intro l most hN h0 h1
  have loop : ∀ (n i : Nat) (x5 : Int), l.length - i = n → i ≤ l.length → 1 ≤ x5 → x5 ≤ most + 1 → (i : Int) ≤ x5 → Ev (fun k => virgationref01_Nodes.l0 k most x5 (i : Int) l) (min (x5 + cntL (l.drop i)) (most + 1)) := by
    intro n
    induction n with
    | zero =>
      intro i x5 hn hi h2 h3 h4
      have hd : l.drop i = [] := List.drop_eq_nil_of_le (by omega)
      rw [hd, show min (x5 + cntL []) (most + 1) = x5 from by unfold cntL; omega]
      exact Ev.step (fun k => by rw [virgationref01_Nodes.l0, if_neg (by omega)]) (Ev.now _)
    | succ n ihn =>
      intro i x5 hn hi h2 h3 h4
      have hil : i < l.length := by omega
      have hc := cntL_ge (l.drop (i + 1))
      have hx := cntL_ge (rd_T24 l (i : Int)).f0
      by_cases hm : x5 ≤ most
      · refine Ev.step (fun k => by rw [virgationref01_Nodes.l0, if_pos (by omega), if_pos hm, if_pos (by omega)]) ?_
        refine Ev.bind (a := min (1 + cntL (rd_T24 l (i : Int)).f0) (most - x5 + 1)) ?_ ?_
        · rw [w64 (most - x5) (by omega)]
          exact ih _ _ (by have := rd_T24_mem l i hil; omega) (by omega) (by omega)
        · rw [w64 _ (by omega), w64 _ (by omega)]
          have := ihn (i + 1) (x5 + min (1 + cntL (rd_T24 l (i : Int)).f0) (most - x5 + 1)) (by omega) (by omega) (by omega) (by omega) (by omega)
          rw [drop_cnt l i hil]
          rw [show ((i + 1 : Nat) : Int) = (i : Int) + 1 from rfl] at this
          rw [show min (x5 + (1 + cntL (rd_T24 l (i : Int)).f0 + cntL (l.drop (i + 1)))) (most + 1) = min (x5 + min (1 + cntL (rd_T24 l (i : Int)).f0) (most - x5 + 1) + cntL (l.drop (i + 1))) (most + 1) from by omega]
          exact this
      · rw [show min (x5 + cntL (l.drop i)) (most + 1) = x5 from by have := cntL_ge (l.drop i); omega]
        exact Ev.step (fun k => by rw [virgationref01_Nodes.l0, if_pos (by omega), if_neg hm]) (Ev.now _)
  refine Ev.step (fun k => by rw [virgationref01_Nodes.f]) ?_
  have := loop l.length 0 1 (by omega) (by omega) (by omega) (by omega) (by omega)
  rw [List.drop_zero] at this
  exact this
theorem nodes60 (l : List S24) : Ev (fun k => virgationref01_Nodes.f k l 60) (min (1 + cntL l) 61) := nodes_ev _ l 60 (Nat.lt_succ_self _) (by omega) (by omega)
theorem depth_ev (N : Nat) : ∀ (l : List S24), SizeOf.sizeOf l < N → cntL l ≤ 1000 → Ev (fun k => virgationref01_depth.f k l) (1 + depL l) := by
  induction N with
  | zero => intro l h; omega
  | succ N ih =>
  intro l hN h1
  have hlen := cntL_ge l
  have loop : ∀ (n i : Nat) (x3 : Int), l.length - i = n → i ≤ l.length → 0 ≤ x3 → x3 ≤ 1000 → Ev (fun k => virgationref01_depth.l0 k x3 l (l.length : Int) (i : Int)) (1 + max x3 (depL (l.drop i))) := by
    intro n
    induction n with
    | zero =>
      intro i x3 hn hi h2 h3
      have hd : l.drop i = [] := List.drop_eq_nil_of_le (by omega)
      rw [hd, show 1 + max x3 (depL []) = x3 + 1 from by unfold depL; omega]
      exact Ev.step (fun k => by rw [virgationref01_depth.l0, if_neg (by omega), w64 _ (by omega)]) (Ev.now _)
    | succ n ihn =>
      intro i x3 hn hi h2 h3
      have hil : i < l.length := by omega
      have hch := cnt_child l i hil
      have hdb := depL_bd (rd_T24 l (i : Int)).f0
      refine Ev.step (fun k => by rw [virgationref01_depth.l0, if_pos (by omega), if_pos (by omega), if_pos (by omega)]) ?_
      refine Ev.bind (a := 1 + depL (rd_T24 l (i : Int)).f0) ?_ ?_
      · exact ih _ (by have := rd_T24_mem l i hil; omega) (by omega)
      · rw [w64 _ (by omega), mx_max, drop_dep l i hil]
        have := ihn (i + 1) (max x3 (1 + depL (rd_T24 l (i : Int)).f0)) (by omega) (by omega) (by omega) (by omega)
        rw [show ((i + 1 : Nat) : Int) = (i : Int) + 1 from rfl] at this
        rw [show 1 + max x3 (max (1 + depL (rd_T24 l (i : Int)).f0) (depL (l.drop (i + 1)))) = 1 + max (max x3 (1 + depL (rd_T24 l (i : Int)).f0)) (depL (l.drop (i + 1))) from by omega]
        exact this
  refine Ev.step (fun k => by rw [virgationref01_depth.f]) ?_
  have := loop l.length 0 0 (by omega) (by omega) (by omega) (by omega)
  rw [List.drop_zero, show max 0 (depL l) = depL l from by have := depL_bd l; omega] at this
  exact this
theorem depth60 {l : List S24} (h : cntL l ≤ 60) : Ev (fun k => virgationref01_depth.f k l) (1 + depL l) := depth_ev _ l (Nat.lt_succ_self _) (by omega)
theorem order_ev (N : Nat) : ∀ (l : List S24), SizeOf.sizeOf l < N → cntL l ≤ 1000 → Ev (fun k => sorts_order.f k l) (rnkL l) := by
  induction N with
  | zero => intro l h; omega
  | succ N ih =>
  intro l hN h1
  have hlen := cntL_ge l
  have loop : ∀ (n i : Nat) (x3 : Int), l.length - i = n → i ≤ l.length → 0 ≤ x3 → x3 ≤ 1000 → Ev (fun k => sorts_order.l0 k x3 l (l.length : Int) (i : Int)) (max x3 (rnkL (l.drop i))) := by
    intro n
    induction n with
    | zero =>
      intro i x3 hn hi h2 h3
      have hd : l.drop i = [] := List.drop_eq_nil_of_le (by omega)
      rw [hd, show max x3 (rnkL []) = x3 from by unfold rnkL; omega]
      exact Ev.step (fun k => by rw [sorts_order.l0, if_neg (by omega)]) (Ev.now _)
    | succ n ihn =>
      intro i x3 hn hi h2 h3
      have hil : i < l.length := by omega
      have hch := cnt_child l i hil
      have hdb := rnkL_bd (rd_T24 l (i : Int)).f0
      refine Ev.step (fun k => by rw [sorts_order.l0, if_pos (by omega), if_pos (by omega), if_pos (by omega)]) ?_
      refine Ev.bind (a := rnkL (rd_T24 l (i : Int)).f0) ?_ ?_
      · exact ih _ (by have := rd_T24_mem l i hil; omega) (by omega)
      · rw [w64 _ (by omega), w64 _ (by omega), mx_max, drop_rnk l i hil]
        have := ihn (i + 1) (max x3 (rnkL (rd_T24 l (i : Int)).f0 + 1)) (by omega) (by omega) (by omega) (by omega)
        rw [show ((i + 1 : Nat) : Int) = (i : Int) + 1 from rfl] at this
        rw [show max x3 (max (rnkL (rd_T24 l (i : Int)).f0 + 1) (rnkL (l.drop (i + 1)))) = max (max x3 (rnkL (rd_T24 l (i : Int)).f0 + 1)) (rnkL (l.drop (i + 1))) from by omega]
        exact this
  refine Ev.step (fun k => by rw [sorts_order.f]) ?_
  have := loop l.length 0 0 (by omega) (by omega) (by omega) (by omega)
  rw [List.drop_zero, show max 0 (rnkL l) = rnkL l from by have := rnkL_bd l; omega] at this
  exact this
theorem few_ev (N : Nat) : ∀ (l : List S24), SizeOf.sizeOf l < N → cntL l ≤ 1000 → Ev (fun k => virgationref01_few.f k l) (fewS ⟨l⟩) := by
  induction N with
  | zero => intro l h; omega
  | succ N ih =>
  intro l hN h1
  have hlen := cntL_ge l
  have loop : ∀ (n i : Nat), l.length - i = n → i ≤ l.length → Ev (fun k => virgationref01_few.l0 k l (l.length : Int) (i : Int) l) (fewL (l.drop i) && decide (l.length ≤ 8)) := by
    intro n
    induction n with
    | zero =>
      intro i hn hi
      have hd : l.drop i = [] := List.drop_eq_nil_of_le (by omega)
      rw [hd, show (fewL [] && decide (l.length ≤ 8)) = decide ((l.length : Int) ≤ 8) from by show (true && _) = _; rw [Bool.true_and]; exact decide_eq_decide.2 (by omega)]
      exact Ev.step (fun k => by rw [virgationref01_few.l0, if_neg (by omega)]) (Ev.now _)
    | succ n ihn =>
      intro i hn hi
      have hil : i < l.length := by omega
      have hch := cnt_child l i hil
      refine Ev.step (fun k => by rw [virgationref01_few.l0, if_pos (by omega), if_pos (by omega), if_pos (by omega)]) ?_
      refine Ev.bind (a := fewS ⟨(rd_T24 l (i : Int)).f0⟩) ?_ ?_
      · exact ih _ (by have := rd_T24_mem l i hil; omega) (by omega)
      · have e : fewS ⟨(rd_T24 l (i : Int)).f0⟩ = (fewL (rd_T24 l (i : Int)).f0 && decide ((rd_T24 l (i : Int)).f0.length ≤ 8)) := rfl
        rw [drop_few l i hil, ← e]
        cases hb : fewS ⟨(rd_T24 l (i : Int)).f0⟩
        · exact Ev.now _
        · have := ihn (i + 1) (by omega) (by omega)
          rw [show ((i + 1 : Nat) : Int) = (i : Int) + 1 from rfl] at this
          rw [w64 _ (by omega)]
          exact this
  refine Ev.step (fun k => by rw [virgationref01_few.f]) ?_
  have := loop l.length 0 (by omega) (by omega)
  rw [List.drop_zero] at this
  exact this
theorem is_ev (l : List S24) : Ev (fun k => virgationref01_Is.f k l) (isok l) := by
  unfold virgationref01_Is.f isok
  refine Ev.bind (nodes60 l) ?_
  by_cases h : 1 + cntL l ≤ 60
  · refine Ev.ifp (by omega) ?_
    refine Ev.bind (depth60 (by omega)) ?_
    by_cases h2 : 1 + depL l ≤ 30
    · refine Ev.ifp h2 ?_
      refine Ev.bind (few_ev _ l (Nat.lt_succ_self _) (by omega)) ?_
      simp only [h, h2, decide_true, Bool.true_and]
      exact Ev.now _
    · refine Ev.ifn h2 ?_
      simp only [h, h2, decide_true, decide_false, Bool.true_and, Bool.false_and]
      exact Ev.now _
  · refine Ev.ifn (by omega) ?_
    simp only [h, decide_false, Bool.false_and]
    exact Ev.now _
theorem refsize_ev (l : List S24) : Ev (fun k => virgationref01_Size.f k l) (if 1 + cntL l ≤ 60 then (1 + cntL l, 1 + depL l) else (61, 0)) := by
  unfold virgationref01_Size.f
  refine Ev.bind (nodes60 l) ?_
  by_cases h : 1 + cntL l ≤ 60
  · rw [if_pos h]
    refine Ev.ifn (by omega) ?_
    refine Ev.bind (depth60 (by omega)) ?_
    rw [show min (1 + cntL l) 61 = 1 + cntL l from by omega]
    exact Ev.now _
  · rw [if_neg h]
    refine Ev.ifp (by omega) ?_
    exact Ev.now _
theorem isok_cnt {l : List S24} (h : isok l = true) : cntL l ≤ 59 := by
  unfold isok at h
  rw [Bool.and_eq_true, decide_eq_true_eq] at h
  omega
theorem alive_ev : Ev (fun k => virgationlaw01_alive.f k) true := Ev.of virgationlaw01_alive.mono (k := 20) (by decide +kernel)
theorem alive_true {g : Nat → Option Bool} (h : g = fun k => (virgationlaw01_alive.f k).bind fun t => some t) : Ev g true := by
  subst h
  exact Ev.bind alive_ev (Ev.now _)
theorem copied_ev (N : Nat) : ∀ (l : List S24), SizeOf.sizeOf l < N → cntL l ≤ 1000 → Ev (fun k => sorts_copied.f k l) l := by
  induction N with
  | zero => intro l h; omega
  | succ N ih =>
  intro l hN h1
  have hlen := cntL_ge l
  have loop : ∀ (n i : Nat) (x3 : List S24), l.length - i = n → i ≤ l.length → x3.length = i → Ev (fun k => sorts_copied.l0 k x3 l (l.length : Int) (i : Int)) (x3 ++ l.drop i) := by
    intro n
    induction n with
    | zero =>
      intro i x3 hn hi h2
      have hd : l.drop i = [] := List.drop_eq_nil_of_le (by omega)
      rw [hd, List.append_nil]
      exact Ev.step (fun k => by rw [sorts_copied.l0, if_neg (by omega)]) (Ev.now _)
    | succ n ihn =>
      intro i x3 hn hi h2
      have hil : i < l.length := by omega
      have hch := cnt_child l i hil
      refine Ev.step (fun k => by rw [sorts_copied.l0, if_pos (by omega), if_pos (by omega), if_pos (by omega)]) ?_
      refine Ev.bind (a := (rd_T24 l (i : Int)).f0) ?_ ?_
      · exact ih _ (by have := rd_T24_mem l i hil; omega) (by omega)
      · refine Ev.ifp (by omega) ?_
        rw [w64 _ (by omega), rd_T24_drop l i hil, show (⟨(rd_T24 l (i : Int)).f0⟩ : S24) = rd_T24 l (i : Int) from by cases rd_T24 l (i : Int); rfl]
        have := ihn (i + 1) (x3 ++ [rd_T24 l (i : Int)]) (by omega) (by omega) (by rw [List.length_append, h2]; rfl)
        rw [List.append_assoc, show ((i + 1 : Nat) : Int) = (i : Int) + 1 from rfl] at this
        exact this
  refine Ev.step (fun k => by rw [sorts_copied.f]) ?_
  have := loop l.length 0 [] (by omega) (by omega) rfl
  rw [List.drop_zero] at this
  exact this
mutual
theorem eqS_cnt : ∀ (x y : S24), eqS x y = true → cnt x = cnt y
  | ⟨l⟩, ⟨m⟩, h => by unfold cnt; rw [eqL_cnt l m h]
theorem eqL_cnt : ∀ (l m : List S24), eqL l m = true → cntL l = cntL m
  | [], [], _ => rfl
  | [], _ :: _, h => by simp [eqL] at h
  | _ :: _, [], h => by simp [eqL] at h
  | x :: xs, y :: ys, h => by
    unfold eqL at h
    rw [Bool.and_eq_true] at h
    unfold cntL
    rw [eqS_cnt x y h.1, eqL_cnt xs ys h.2]
end
/-- What both programs mean by 'the same'. -/
def sameB (l m : List S24) : Bool := decide (1 + cntL l ≤ 60) && eqL l m
theorem beh_ev (l : List S24) (a : Int) : Ev (fun k => sorts_Behind.f k l a) (if isok l = true then (if a < 0 ∨ a > (l.length : Int) then ([], 2) else (l.drop a.toNat, 0)) else ([], 6)) := by
  unfold sorts_Behind.f
  rw [check_eq]
  simp only [Option.bind_some]
  cases h : isok l
  · exact Ev.now _
  · simp only [if_true]
    by_cases h1 : a < 0
    · rw [if_pos (.inl h1)]; refine Ev.ifp h1 ?_; exact Ev.now _
    · by_cases h2 : a > (l.length : Int)
      · rw [if_pos (.inr h2)]; refine Ev.ifn h1 (Ev.ifp h2 ?_); exact Ev.now _
      · rw [if_neg (by omega)]
        refine Ev.ifn h1 (Ev.ifn h2 (Ev.ifp (by omega) (Ev.ifp (by omega) ?_)))
        refine Ev.bind (copied_ev _ _ (Nat.lt_succ_self _) ?_) (Ev.now _)
        have h3 := drop_cnt_le l a.toNat
        have h4 := isok_cnt h
        omega
end Go.Proofs.Ytiendnnbflooeaa.V
