/- Plain laws of terms: nodes, depth, heads, as the package and the reference tell them. -/
import Derived.Test.YtfhgoebgnilfaaaIH6
import Derived.Test.YtfhgoebgnilfaaaI3
import Derived.Test.YtfhgoebgnilfaaaI4
namespace Go.Proofs.Ytfhgoebgnilfaaa.I
open Go.RowKit Go.Proofs.YtfhgoebgnilfaaaW.PrintWords Go.Proofs.YtfhgoebgnilfaaaW.PrintLast Go.Proofs.YtfhgoebgnilfaaaW.PrintMore
set_option linter.unusedVariables false
set_option maxRecDepth 100000
set_option linter.unusedSimpArgs false
mutual
def tcnt : S44 → Int
  | ⟨_, _, l⟩ => 1 + tcntL l
def tcntL : List S44 → Int
  | [] => 0
  | x :: xs => tcnt x + tcntL xs
end
mutual
def tdep : S44 → Int
  | ⟨_, _, l⟩ => 1 + tdepL l
def tdepL : List S44 → Int
  | [] => 0
  | x :: xs => max (tdep x) (tdepL xs)
end
mutual
theorem tcnt_ge : ∀ x : S44, 1 ≤ tcnt x
  | ⟨_, _, l⟩ => by have := tcntL_ge l; unfold tcnt; omega
theorem tcntL_ge : ∀ l : List S44, (l.length : Int) ≤ tcntL l
  | [] => by simp [tcntL]
  | x :: xs => by have h1 := tcnt_ge x; have h2 := tcntL_ge xs; unfold tcntL; simp only [List.length_cons]; omega
end
mutual
theorem tdep_bd : ∀ x : S44, 1 ≤ tdep x ∧ tdep x ≤ tcnt x
  | ⟨_, _, l⟩ => by have := tdepL_bd l; unfold tdep tcnt; omega
theorem tdepL_bd : ∀ l : List S44, 0 ≤ tdepL l ∧ tdepL l ≤ tcntL l
  | [] => by simp [tdepL, tcntL]
  | x :: xs => by have h1 := tdep_bd x; have h2 := tdepL_bd xs; have h3 := tcnt_ge x; have h4 := tcntL_ge xs; unfold tdepL tcntL; omega
end
theorem tcnt_f2 (x : S44) : tcnt x = 1 + tcntL x.f2 := by cases x; rfl
theorem tdep_f2 (x : S44) : tdep x = 1 + tdepL x.f2 := by cases x; rfl
theorem tdrop_cnt (l : List S44) (i : Nat) (h : i < l.length) : tcntL (l.drop i) = 1 + tcntL (rd_T44 l (i : Int)).f2 + tcntL (l.drop (i + 1)) := by
  rw [rd_T44_drop l i h]; show tcnt _ + tcntL _ = _; rw [tcnt_f2]
theorem tdrop_dep (l : List S44) (i : Nat) (h : i < l.length) : tdepL (l.drop i) = max (1 + tdepL (rd_T44 l (i : Int)).f2) (tdepL (l.drop (i + 1))) := by
  rw [rd_T44_drop l i h]; show max (tdep _) (tdepL _) = _; rw [tdep_f2]
theorem tdrop_cnt_le : ∀ (l : List S44) (i : Nat), tcntL (l.drop i) ≤ tcntL l
  | [], i => by simp
  | x :: xs, 0 => by simp
  | x :: xs, i + 1 => by have h1 := tdrop_cnt_le xs i; have h2 := tcnt_ge x; rw [List.drop_succ_cons]; show tcntL (xs.drop i) ≤ tcnt x + tcntL xs; omega
theorem tcnt_child (l : List S44) (i : Nat) (h : i < l.length) : tcntL (rd_T44 l (i : Int)).f2 < tcntL l := by
  have h1 := tdrop_cnt l i h; have h2 := tdrop_cnt_le l i; have h3 := tcntL_ge (l.drop (i + 1)); omega
theorem mx_max (a b : Int) : mx a b = max a b := by unfold mx; split <;> omega
mutual
theorem tmeas_eq : ∀ (x : S44) (left : Int), 0 ≤ left → (if tcnt x ≤ left then tmeas x left = (tdep x, left - tcnt x) else (tmeas x left).2 < 0)
  | ⟨_, _, l⟩, left, h => by
    have := tmeasL_eq l (left - 1) 0 (by omega) (by omega)
    unfold tcnt tmeas tdep
    split at this
    · rw [if_pos (by omega), this]
      have h1 := tdepL_bd l
      rw [show max 0 (tdepL l) + 1 = 1 + tdepL l from by omega, show left - 1 - tcntL l = left - (1 + tcntL l) from by omega]
    · rw [if_neg (by omega)]; exact this
theorem tmeasL_eq : ∀ (l : List S44) (left d : Int), -1 ≤ left → 0 ≤ d → (if tcntL l ≤ left then tmeasL l left d = (max d (tdepL l) + 1, left - tcntL l) else (tmeasL l left d).2 < 0)
  | [], left, d, h, hd => by
    unfold tcntL tmeasL tdepL
    split
    · rw [show max d 0 = d from by omega, show left - 0 = left from by omega]
    · simp only; omega
  | x :: xs, left, d, h, hd => by
    have hc := tcnt_ge x
    have hl := tcntL_ge xs
    unfold tcntL tmeasL tdepL
    by_cases hn : left < 0
    · rw [if_pos hn, if_neg (by omega)]; exact hn
    · rw [if_neg hn]
      have h1 := tmeas_eq x left (by omega)
      have hb := tmeas_bd x left (by omega)
      have h2 := tmeasL_eq xs (tmeas x left).2 (mx d (tmeas x left).1) (by omega) (by rw [mx_max]; omega)
      split at h1
      · rw [h1] at h2
        simp only at h2
        rw [h1]
        simp only
        split at h2
        · rw [if_pos (by omega), h2, mx_max, show max (max d (tdep x)) (tdepL xs) = max d (max (tdep x) (tdepL xs)) from by omega, show left - tcnt x - tcntL xs = left - (tcnt x + tcntL xs) from by omega]
        · rw [if_neg (by omega)]; exact h2
      · rw [if_neg (by omega)]
        rw [if_neg (by omega)] at h2
        exact h2
end
/-- Is a body too great? -/
def big (x : S44) : Bool := decide (400 < tcnt x) || decide (30 < tdep x)
theorem szT_big (x : S44) : (decide (400 < (szT x).1) || decide (30 < (szT x).2)) = big x := by
  have h := tmeas_eq x 100000 (by omega)
  unfold szT big
  by_cases hc : tcnt x ≤ 100000
  · rw [if_pos hc] at h
    rw [h]
    simp only
    rw [if_neg (by omega)]
    simp only
    rw [show 100000 - (100000 - tcnt x) = tcnt x from by omega]
  · rw [if_neg hc] at h
    rw [if_pos h]
    rw [decide_eq_true (by omega : (400 : Int) < 100001), decide_eq_true (by omega : 400 < tcnt x)]
    rfl
theorem tnodes_ev (N : Nat) : ∀ (a b : Int) (l : List S44) (most : Int), SizeOf.sizeOf l < N → 0 ≤ most → most ≤ 1000 → Ev (fun k => virgationref02_Nodes.f k a b l most) (min (1 + tcntL l) (most + 1)) := by
  induction N with
  | zero => intro a b l most h; omega
  | succ N ih =>
  intro a b l most hN h0 h1
  have loop : ∀ (n i : Nat) (x5 : Int), l.length - i = n → i ≤ l.length → 1 ≤ x5 → x5 ≤ most + 1 → (i : Int) ≤ x5 → Ev (fun k => virgationref02_Nodes.l0 k most x5 (i : Int) a b l) (min (x5 + tcntL (l.drop i)) (most + 1)) := by
    intro n
    induction n with
    | zero =>
      intro i x5 hn hi h2 h3 h4
      have hd : l.drop i = [] := List.drop_eq_nil_of_le (by omega)
      rw [hd, show min (x5 + tcntL []) (most + 1) = x5 from by unfold tcntL; omega]
      exact Ev.step (fun k => by rw [virgationref02_Nodes.l0, if_neg (by omega)]) (Ev.now _)
    | succ n ihn =>
      intro i x5 hn hi h2 h3 h4
      have hil : i < l.length := by omega
      have hc := tcntL_ge (l.drop (i + 1))
      have hx := tcntL_ge (rd_T44 l (i : Int)).f2
      by_cases hm : x5 ≤ most
      · refine Ev.step (fun k => by rw [virgationref02_Nodes.l0, if_pos (by omega), if_pos hm, if_pos (by omega)]) ?_
        refine Ev.bind (a := min (1 + tcntL (rd_T44 l (i : Int)).f2) (most - x5 + 1)) ?_ ?_
        · rw [w64 (most - x5) (by omega)]
          exact ih _ _ _ _ (by have := rd_T44_mem l i hil; omega) (by omega) (by omega)
        · rw [w64 _ (by omega), w64 _ (by omega)]
          have := ihn (i + 1) (x5 + min (1 + tcntL (rd_T44 l (i : Int)).f2) (most - x5 + 1)) (by omega) (by omega) (by omega) (by omega) (by omega)
          rw [tdrop_cnt l i hil]
          rw [show ((i + 1 : Nat) : Int) = (i : Int) + 1 from rfl] at this
          rw [show min (x5 + (1 + tcntL (rd_T44 l (i : Int)).f2 + tcntL (l.drop (i + 1)))) (most + 1) = min (x5 + min (1 + tcntL (rd_T44 l (i : Int)).f2) (most - x5 + 1) + tcntL (l.drop (i + 1))) (most + 1) from by omega]
          exact this
      · rw [show min (x5 + tcntL (l.drop i)) (most + 1) = x5 from by have := tcntL_ge (l.drop i); omega]
        exact Ev.step (fun k => by rw [virgationref02_Nodes.l0, if_pos (by omega), if_neg hm]) (Ev.now _)
  refine Ev.step (fun k => by rw [virgationref02_Nodes.f]) ?_
  have := loop l.length 0 1 (by omega) (by omega) (by omega) (by omega) (by omega)
  rw [List.drop_zero] at this
  exact this
theorem tdepth_ev (N : Nat) : ∀ (a b : Int) (l : List S44), SizeOf.sizeOf l < N → tcntL l ≤ 1000 → Ev (fun k => virgationref02_Depth.f k a b l) (1 + tdepL l) := by
  induction N with
  | zero => intro a b l h; omega
  | succ N ih =>
  intro a b l hN h1
  have hlen := tcntL_ge l
  have loop : ∀ (n i : Nat) (x3 : Int), l.length - i = n → i ≤ l.length → 0 ≤ x3 → x3 ≤ 1000 → Ev (fun k => virgationref02_Depth.l0 k x3 l (l.length : Int) (i : Int)) (1 + max x3 (tdepL (l.drop i))) := by
    intro n
    induction n with
    | zero =>
      intro i x3 hn hi h2 h3
      have hd : l.drop i = [] := List.drop_eq_nil_of_le (by omega)
      rw [hd, show 1 + max x3 (tdepL []) = x3 + 1 from by unfold tdepL; omega]
      exact Ev.step (fun k => by rw [virgationref02_Depth.l0, if_neg (by omega), w64 _ (by omega)]) (Ev.now _)
    | succ n ihn =>
      intro i x3 hn hi h2 h3
      have hil : i < l.length := by omega
      have hch := tcnt_child l i hil
      have hdb := tdepL_bd (rd_T44 l (i : Int)).f2
      refine Ev.step (fun k => by rw [virgationref02_Depth.l0, if_pos (by omega), if_pos (by omega), if_pos (by omega)]) ?_
      refine Ev.bind (a := 1 + tdepL (rd_T44 l (i : Int)).f2) ?_ ?_
      · exact ih _ _ _ (by have := rd_T44_mem l i hil; omega) (by omega)
      · rw [w64 _ (by omega), mx_max, tdrop_dep l i hil]
        have := ihn (i + 1) (max x3 (1 + tdepL (rd_T44 l (i : Int)).f2)) (by omega) (by omega) (by omega) (by omega)
        rw [show ((i + 1 : Nat) : Int) = (i : Int) + 1 from rfl] at this
        rw [show 1 + max x3 (max (1 + tdepL (rd_T44 l (i : Int)).f2) (tdepL (l.drop (i + 1)))) = 1 + max (max x3 (1 + tdepL (rd_T44 l (i : Int)).f2)) (tdepL (l.drop (i + 1))) from by omega]
        exact this
  refine Ev.step (fun k => by rw [virgationref02_Depth.f]) ?_
  have := loop l.length 0 0 (by omega) (by omega) (by omega) (by omega)
  rw [List.drop_zero, show max 0 (tdepL l) = tdepL l from by have := tdepL_bd l; omega] at this
  exact this
end Go.Proofs.Ytfhgoebgnilfaaa.I
