/- Texts of this session's proof, laid together: IP2, I5, IP3, IAe, IA, I6, IPC. -/
import Derived.Deep.RegionHeld3
import Derived.Test.YtfhgoebgnilfaaaZ4
namespace Go.Proofs.Ytfhgoebgnilfaaa.I
open Go.RowKit Go.Proofs.YtfhgoebgnilfaaaW.PrintWords Go.Proofs.YtfhgoebgnilfaaaW.PrintLast Go.Proofs.YtfhgoebgnilfaaaW.PrintMore
set_option linter.unusedVariables false
set_option maxRecDepth 100000
set_option linter.unusedSimpArgs false
theorem exist_j0 {p f s m kd n : Int} {l : List S44} {r : Bool} (h : Ev (fun k => virgationref04_exist.l0 k p f s l (l.length : Int) 0) r) :
    Ev (fun k => virgationref04_exist.j0 k p f s m kd n l) ((decide (0 ≤ n) && decide (n < m)) && r) := by
  refine Ev.step (fun k => by rw [virgationref04_exist.j0]) ?_
  by_cases h1 : n < 0
  · rw [decide_eq_false (by omega : ¬ 0 ≤ n), Bool.false_and, Bool.false_and]
    exact Ev.ifp h1 (Ev.step (fun k => by rw [virgationref04_exist.j1, if_pos rfl]) (Ev.now _))
  · rw [decide_eq_true (by omega : 0 ≤ n), Bool.true_and]
    refine Ev.ifn h1 ?_
    by_cases h2 : n ≥ m
    · rw [decide_eq_true h2, decide_eq_false (by omega : ¬ n < m), Bool.false_and]
      exact Ev.step (fun k => by rw [virgationref04_exist.j1, if_pos rfl]) (Ev.now _)
    · rw [decide_eq_false h2, decide_eq_true (by omega : n < m), Bool.true_and]
      exact Ev.step (fun k => by rw [virgationref04_exist.j1, if_neg (by simp)]) h
theorem exist_ev (N : Nat) : ∀ (kd n : Int) (l : List S44) (p f s : Int), SizeOf.sizeOf l < N → tcntL l ≤ 1000 → Ev (fun k => virgationref04_exist.f k kd n l p f s) (knownS ⟨kd, n, l⟩ p f s) := by
  induction N with
  | zero => intro kd n l p f s h; omega
  | succ N ih =>
  intro kd n l p f s hN h1
  have hlen := tcntL_ge l
  have loop : ∀ (m i : Nat), l.length - i = m → i ≤ l.length → Ev (fun k => virgationref04_exist.l0 k p f s l (l.length : Int) (i : Int)) (knownL (l.drop i) p f s) := by
    intro m
    induction m with
    | zero =>
      intro i hn hi
      have hd : l.drop i = [] := List.drop_eq_nil_of_le (by omega)
      rw [hd]
      change Ev _ true
      exact Ev.step (fun k => by rw [virgationref04_exist.l0, if_neg (by omega)]) (Ev.now _)
    | succ m ihm =>
      intro i hn hi
      have hil : i < l.length := by omega
      have hch := tcnt_child l i hil
      refine Ev.step (fun k => by rw [virgationref04_exist.l0, if_pos (by omega), if_pos (by omega), if_pos (by omega)]) ?_
      refine Ev.bind (ih _ _ _ p f s (by have := rd_T44_mem l i hil; omega) (by omega)) ?_
      rw [rd_T44_drop l i hil]
      have e : (⟨(rd_T44 l (i : Int)).f0, (rd_T44 l (i : Int)).f1, (rd_T44 l (i : Int)).f2⟩ : S44) = rd_T44 l (i : Int) := by cases rd_T44 l (i : Int); rfl
      rw [e]
      show Ev _ (knownS _ _ _ _ && knownL _ _ _ _)
      cases knownS (rd_T44 l (i : Int)) p f s
      · exact Ev.ifn (by simp) (Ev.now _)
      · refine Ev.ifp rfl ?_
        rw [w64 _ (by omega)]
        exact ihm (i + 1) (by omega) (by omega)
  have h0 := loop l.length 0 (by omega) (by omega)
  rw [List.drop_zero] at h0
  refine Ev.step (fun k => by rw [virgationref04_exist.f]) ?_
  have e : knownS ⟨kd, n, l⟩ p f s = ((isK kd && (decide (0 ≤ n) && decide (n < manyK kd p f s))) && knownL l p f s) := rfl
  rw [e]
  by_cases k0 : kd = 0
  · subst k0
    exact Ev.ifp rfl (exist_j0 h0)
  · refine Ev.ifn k0 ?_
    by_cases k1 : kd = 1
    · subst k1
      exact Ev.ifp rfl (exist_j0 h0)
    · refine Ev.ifn k1 ?_
      by_cases k2 : kd = 2
      · subst k2
        exact Ev.ifp rfl (exist_j0 h0)
      · have hk : isK kd = false := by unfold isK; exact decide_eq_false (by omega)
        rw [hk, Bool.false_and, Bool.false_and]
        refine Ev.ifn k2 ?_
        have := exist_j0 (p := p) (f := f) (s := s) (m := 0) (kd := kd) (n := n) h0
        have e2 : ((decide (0 ≤ n) && decide (n < 0)) && knownL l p f s) = false := by
          by_cases hn : 0 ≤ n
          · rw [decide_eq_false (by omega : ¬ n < 0), Bool.and_false, Bool.false_and]
          · rw [decide_eq_false hn, Bool.false_and, Bool.false_and]
        rw [e2] at this
        exact this
theorem isIn_cons (x : ByteArray) (L : List ByteArray) (s : ByteArray) : isIn (x :: L) s = (x.data.toList == s.data.toList || isIn L s) := rfl
/-- The loop over the symbols ahead. -/
theorem sym_inner {l : List S59} {i : Nat} {nm : ByteArray} {rk : Int} {R : Bool} (y : List S59) (hy : y.length ≤ 1000) (hR : Ev (fun k => virgationref02_Symbols.l0 k l l (l.length : Int) (wrap64 ((i : Int) + 1))) R) :
    ∀ (m j : Nat), y.length - j = m → j ≤ y.length → Ev (fun k => virgationref02_Symbols.l1 k l l (l.length : Int) (i : Int) y (y.length : Int) (j : Int) nm rk) (if isIn (names59 (y.drop j)) nm = true then false else R) := by
  intro m
  induction m with
  | zero =>
    intro j hn hj
    have hd : y.drop j = [] := List.drop_eq_nil_of_le (by omega)
    rw [hd, if_neg (by simp [names59, isIn])]
    exact Ev.step (fun k => by rw [virgationref02_Symbols.l1, if_neg (by omega)]) hR
  | succ m ihm =>
    intro j hn hj
    have hjl : j < y.length := by omega
    refine Ev.step (fun k => by rw [virgationref02_Symbols.l1, if_pos (by omega), if_pos (by omega), if_pos (by omega)]) ?_
    rw [rd_T59_drop y j hjl]
    show Ev _ (if isIn ((rd_T59 y (j : Int)).f0 :: names59 (y.drop (j + 1))) nm = true then false else R)
    rw [isIn_cons]
    by_cases he : nm.toList = (rd_T59 y (j : Int)).f0.toList
    · have : ((rd_T59 y (j : Int)).f0.data.toList == nm.data.toList) = true := by rw [beq_iff_eq, ← Go.ByteArray.toList_eq, ← Go.ByteArray.toList_eq]; exact he.symm
      rw [this, Bool.true_or, if_pos rfl]
      exact Ev.ifp he (Ev.now _)
    · have : ((rd_T59 y (j : Int)).f0.data.toList == nm.data.toList) = false := by
        rw [beq_eq_false_iff_ne, ← Go.ByteArray.toList_eq, ← Go.ByteArray.toList_eq]
        exact fun h => he h.symm
      rw [this, Bool.false_or]
      refine Ev.ifn he ?_
      rw [w64 _ (by omega)]
      exact ihm (j + 1) (by omega) (by omega)
theorem sym_j1 {l : List S59} {i : Nat} {nm : ByteArray} {rk : Int} {R : Bool} (hl : l.length ≤ 24) (hi : i < l.length) (b : Bool) (hR : Ev (fun k => virgationref02_Symbols.l0 k l l (l.length : Int) (wrap64 ((i : Int) + 1))) R) :
    Ev (fun k => virgationref02_Symbols.j1 k l (i : Int) l (l.length : Int) (i : Int) b nm rk) (if (b || isIn (names59 (l.take i)) nm) = true then false else R) := by
  cases b with
  | true => exact Ev.step (fun k => by rw [virgationref02_Symbols.j1, if_pos rfl]; rfl) (Ev.now _)
  | false =>
    rw [Bool.false_or]
    refine Ev.step (fun k => by rw [virgationref02_Symbols.j1, if_neg (by simp), if_pos (by omega), if_pos (by omega)]) ?_
    simp only [Option.bind_some, Int.toNat_natCast]
    have := sym_inner (nm := nm) (rk := rk) (l.take i) (by rw [List.length_take]; omega) hR (l.take i).length 0 (by omega) (by omega)
    rw [List.drop_zero] at this
    exact this
theorem symbols_ev (l : List S59) : Ev (fun k => virgationref02_Symbols.f k l) (symsL l [] && decide (l.length ≤ 24)) := by
  unfold virgationref02_Symbols.f
  by_cases h : (l.length : Int) > 24
  · rw [decide_eq_false (by omega : ¬ l.length ≤ 24), Bool.and_false]
    exact Ev.ifp h (Ev.now _)
  · rw [decide_eq_true (by omega : l.length ≤ 24), Bool.and_true]
    refine Ev.ifn h ?_
    have loop : ∀ (m i : Nat), l.length - i = m → i ≤ l.length → Ev (fun k => virgationref02_Symbols.l0 k l l (l.length : Int) (i : Int)) (symsL (l.drop i) (names59 (l.take i))) := by
      intro m
      induction m with
      | zero =>
        intro i hn hi
        have hd : l.drop i = [] := List.drop_eq_nil_of_le (by omega)
        rw [hd]
        change Ev _ true
        exact Ev.step (fun k => by rw [virgationref02_Symbols.l0, if_neg (by omega)]) (Ev.now _)
      | succ m ihm =>
        intro i hn hi
        have hil : i < l.length := by omega
        have hR : Ev (fun k => virgationref02_Symbols.l0 k l l (l.length : Int) (wrap64 ((i : Int) + 1))) (symsL (l.drop (i + 1)) (names59 (l.take (i + 1)))) := by
          rw [w64 _ (by omega)]
          exact ihm (i + 1) (by omega) (by omega)
        refine Ev.step (fun k => by rw [virgationref02_Symbols.l0, if_pos (by omega), if_pos (by omega), if_pos (by omega)]) ?_
        refine Ev.bind (refname_ev _) ?_
        rw [rd_T59_drop l i hil]
        show Ev _ (if symBad (rd_T59 l (i : Int)) (names59 (l.take i)) = true then false else symsL (l.drop (i + 1)) (names59 (l.take i) ++ [(rd_T59 l (i : Int)).f0]))
        rw [rd_T59_take l i hil]
        unfold symBad
        cases hn1 : nameOk (rd_T59 l (i : Int)).f0
        · refine Ev.ifn (by simp) ?_
          have := sym_j1 (nm := (rd_T59 l (i : Int)).f0) (rk := (rd_T59 l (i : Int)).f1) (by omega) hil true hR
          simpa using this
        · refine Ev.ifp rfl ?_
          by_cases h0 : (rd_T59 l (i : Int)).f1 < 0
          · refine Ev.ifp h0 ?_
            have := sym_j1 (nm := (rd_T59 l (i : Int)).f0) (rk := (rd_T59 l (i : Int)).f1) (by omega) hil true hR
            simpa [h0] using this
          · refine Ev.ifn h0 ?_
            have := sym_j1 (nm := (rd_T59 l (i : Int)).f0) (rk := (rd_T59 l (i : Int)).f1) (by omega) hil (decide ((rd_T59 l (i : Int)).f1 > 4)) hR
            rw [decide_eq_false h0, Bool.not_true, Bool.false_or, Bool.false_or, Bool.or_comm]
            exact this
    exact loop l.length 0 (by omega) (by omega)
end Go.Proofs.Ytfhgoebgnilfaaa.I
namespace Go.Proofs.Ytfhgoebgnilfaaa.I
open Go.RowKit Go.Proofs.YtfhgoebgnilfaaaW.PrintWords Go.Proofs.YtfhgoebgnilfaaaW.PrintLast Go.Proofs.YtfhgoebgnilfaaaW.PrintMore
attribute [local go_sem] max2_int min2_int max_two min_two max_three min_three max_four min_four   -- for this text's walks alone
set_option linter.unusedVariables false
set_option linter.unusedSimpArgs false
mutual
def virgationref04_Check.j0 : Nat → List (S59) → List (S56) → Bool → Option (Int)
  | 0, _, _, _ => none
  | k + 1, x0, x1, x26 => if x26 = true then (some 4) else (virgationref04_Check.l0 k x0 x1 x1 (x1.length : Int) 0)
def virgationref04_Check.l0 : Nat → List (S59) → List (S56) → List (S56) → Int → Int → Option (Int)
  | 0, _, _, _, _, _ => none
  | k + 1, x0, x1, x27, x28, x29 => if x29 < x28 then (if 0 ≤ x29 then (if x29 < (x27.length : Int) then ((virgationref02_Name.f k ((rd_T56 x27 x29).f0)).bind fun t147 => (if t147 = true then (if ((rd_T56 x27 x29).f1) < 0 then (virgationref04_Check.j2 k x0 x1 x29 x27 x28 x29 true ((rd_T56 x27 x29).f0) ((rd_T56 x27 x29).f1) ((rd_T56 x27 x29).f2.f0) ((rd_T56 x27 x29).f2.f1) ((rd_T56 x27 x29).f2.f2)) else (if ((rd_T56 x27 x29).f1) > 8 then (virgationref04_Check.j2 k x0 x1 x29 x27 x28 x29 true ((rd_T56 x27 x29).f0) ((rd_T56 x27 x29).f1) ((rd_T56 x27 x29).f2.f0) ((rd_T56 x27 x29).f2.f1) ((rd_T56 x27 x29).f2.f2)) else ((virgationref02_Nodes.f k ((rd_T56 x27 x29).f2.f0) ((rd_T56 x27 x29).f2.f1) ((rd_T56 x27 x29).f2.f2) 400).bind fun t148 => (if t148 > 400 then (virgationref04_Check.j2 k x0 x1 x29 x27 x28 x29 true ((rd_T56 x27 x29).f0) ((rd_T56 x27 x29).f1) ((rd_T56 x27 x29).f2.f0) ((rd_T56 x27 x29).f2.f1) ((rd_T56 x27 x29).f2.f2)) else ((virgationref02_Depth.f k ((rd_T56 x27 x29).f2.f0) ((rd_T56 x27 x29).f2.f1) ((rd_T56 x27 x29).f2.f2)).bind fun t149 => (if t149 > 30 then (virgationref04_Check.j2 k x0 x1 x29 x27 x28 x29 true ((rd_T56 x27 x29).f0) ((rd_T56 x27 x29).f1) ((rd_T56 x27 x29).f2.f0) ((rd_T56 x27 x29).f2.f1) ((rd_T56 x27 x29).f2.f2)) else ((virgationref04_exist.f k ((rd_T56 x27 x29).f2.f0) ((rd_T56 x27 x29).f2.f1) ((rd_T56 x27 x29).f2.f2) ((rd_T56 x27 x29).f1) (x1.length : Int) (x0.length : Int)).bind fun t150 => (virgationref04_Check.j2 k x0 x1 x29 x27 x28 x29 (!t150) ((rd_T56 x27 x29).f0) ((rd_T56 x27 x29).f1) ((rd_T56 x27 x29).f2.f0) ((rd_T56 x27 x29).f2.f1) ((rd_T56 x27 x29).f2.f2))))))))) else (virgationref04_Check.j2 k x0 x1 x29 x27 x28 x29 true ((rd_T56 x27 x29).f0) ((rd_T56 x27 x29).f1) ((rd_T56 x27 x29).f2.f0) ((rd_T56 x27 x29).f2.f1) ((rd_T56 x27 x29).f2.f2)))) else (none)) else (none)) else (some 0)
def virgationref04_Check.j2 : Nat → List (S59) → List (S56) → Int → List (S56) → Int → Int → Bool → ByteArray → Int → Int → Int → List (S44) → Option (Int)
  | 0, _, _, _, _, _, _, _, _, _, _, _, _ => none
  | k + 1, x0, x1, x5, x27, x28, x29, x71, x147000, x147001, x147002, x147003, x147004 => if x71 = true then (some 4) else (if 0 ≤ x5 then (if x5 ≤ (x1.length : Int) then ((some (x1.take (x5 : Int).toNat : List (S56))).bind fun y151 => (virgationref04_Check.l1 k x0 x1 x27 x28 x29 y151 (y151.length : Int) 0 x147000 x147001 x147002 x147003 x147004)) else (none)) else (none))
def virgationref04_Check.l1 : Nat → List (S59) → List (S56) → List (S56) → Int → Int → List (S56) → Int → Int → ByteArray → Int → Int → Int → List (S44) → Option (Int)
  | 0, _, _, _, _, _, _, _, _, _, _, _, _, _ => none
  | k + 1, x0, x1, x27, x28, x29, x74, x75, x76, x147000, x147001, x147002, x147003, x147004 => if x76 < x75 then (if 0 ≤ x76 then (if x76 < (x74.length : Int) then (if x147000.toList = ((rd_T56 x74 x76).f0).toList then (some 4) else (virgationref04_Check.l1 k x0 x1 x27 x28 x29 x74 x75 (wrap64 (x76 + 1)) x147000 x147001 x147002 x147003 x147004)) else (none)) else (none)) else (virgationref04_Check.l0 k x0 x1 x27 x28 (wrap64 (x29 + 1)))
end
def virgationref04_Check.f (k : Nat) (l0 : List (S59)) (l1 : List (S56)) : Option (Int) := (virgationref02_Symbols.f k l0).bind fun t143 => (if t143 = true then (if (l1.length : Int) < 1 then (virgationref04_Check.j0 k l0 l1 true) else (if (l1.length : Int) > 64 then (virgationref04_Check.j0 k l0 l1 true) else (if 0 < (l1.length : Int) then (virgationref04_Check.j0 k l0 l1 (((rd_T56 l1 0).f1) != 0)) else (none)))) else (some 2))
theorem virgationref04_Check.mono_l : ∀ k, (∀ y0 y1 y2, LeO (virgationref04_Check.j0 k y0 y1 y2) (virgationref04_Check.j0 (k + 1) y0 y1 y2)) ∧ (∀ y0 y1 y2 y3 y4, LeO (virgationref04_Check.l0 k y0 y1 y2 y3 y4) (virgationref04_Check.l0 (k + 1) y0 y1 y2 y3 y4)) ∧ (∀ y0 y1 y2 y3 y4 y5 y6 y7 y8 y9 y10 y11, LeO (virgationref04_Check.j2 k y0 y1 y2 y3 y4 y5 y6 y7 y8 y9 y10 y11) (virgationref04_Check.j2 (k + 1) y0 y1 y2 y3 y4 y5 y6 y7 y8 y9 y10 y11)) ∧ (∀ y0 y1 y2 y3 y4 y5 y6 y7 y8 y9 y10 y11 y12, LeO (virgationref04_Check.l1 k y0 y1 y2 y3 y4 y5 y6 y7 y8 y9 y10 y11 y12) (virgationref04_Check.l1 (k + 1) y0 y1 y2 y3 y4 y5 y6 y7 y8 y9 y10 y11 y12))
  | 0 => ⟨fun _ _ _ r h => by simp [virgationref04_Check.j0] at h, fun _ _ _ _ _ r h => by simp [virgationref04_Check.l0] at h, fun _ _ _ _ _ _ _ _ _ _ _ _ r h => by simp [virgationref04_Check.j2] at h, fun _ _ _ _ _ _ _ _ _ _ _ _ _ r h => by simp [virgationref04_Check.l1] at h⟩
  | k + 1 => by
    obtain ⟨ih0, ih1, ih2, ih3⟩ := virgationref04_Check.mono_l k
    refine ⟨?_, ?_, ?_, ?_⟩
    · intro y0 y1 y2
      unfold virgationref04_Check.j0
      repeat' first
      | (with_reducible exact ih0 _ _ _)
      | (with_reducible exact ih1 _ _ _ _ _)
      | (with_reducible exact ih2 _ _ _ _ _ _ _ _ _ _ _ _)
      | (with_reducible exact ih3 _ _ _ _ _ _ _ _ _ _ _ _ _)
      | (with_reducible exact virgationref02_Depth.mono _ _ _ _)
      | (with_reducible exact virgationref02_Name.mono _ _)
      | (with_reducible exact virgationref02_Nodes.mono _ _ _ _ _)
      | (with_reducible exact virgationref02_Symbols.mono _ _)
      | (with_reducible exact virgationref04_exist.mono _ _ _ _ _ _ _)
      | (with_reducible exact LeO.refl _)
      | (with_reducible exact LeO.none _)
      | (with_reducible refine LeO.ite ?_ ?_)
      | (with_reducible refine LeO.bind ?_ (fun _ => ?_))
      | exact ih0 _ _ _
      | exact ih1 _ _ _ _ _
      | exact ih2 _ _ _ _ _ _ _ _ _ _ _ _
      | exact ih3 _ _ _ _ _ _ _ _ _ _ _ _ _
      | exact virgationref02_Depth.mono _ _ _ _
      | exact virgationref02_Name.mono _ _
      | exact virgationref02_Nodes.mono _ _ _ _ _
      | exact virgationref02_Symbols.mono _ _
      | exact virgationref04_exist.mono _ _ _ _ _ _ _
      | exact LeO.none _
      | refine LeO.ite ?_ ?_
      | refine LeO.bind ?_ (fun _ => ?_)
    · intro y0 y1 y2 y3 y4
      unfold virgationref04_Check.l0
      repeat' first
      | (with_reducible exact ih0 _ _ _)
      | (with_reducible exact ih1 _ _ _ _ _)
      | (with_reducible exact ih2 _ _ _ _ _ _ _ _ _ _ _ _)
      | (with_reducible exact ih3 _ _ _ _ _ _ _ _ _ _ _ _ _)
      | (with_reducible exact virgationref02_Depth.mono _ _ _ _)
      | (with_reducible exact virgationref02_Name.mono _ _)
      | (with_reducible exact virgationref02_Nodes.mono _ _ _ _ _)
      | (with_reducible exact virgationref02_Symbols.mono _ _)
      | (with_reducible exact virgationref04_exist.mono _ _ _ _ _ _ _)
      | (with_reducible exact LeO.refl _)
      | (with_reducible exact LeO.none _)
      | (with_reducible refine LeO.ite ?_ ?_)
      | (with_reducible refine LeO.bind ?_ (fun _ => ?_))
      | exact ih0 _ _ _
      | exact ih1 _ _ _ _ _
      | exact ih2 _ _ _ _ _ _ _ _ _ _ _ _
      | exact ih3 _ _ _ _ _ _ _ _ _ _ _ _ _
      | exact virgationref02_Depth.mono _ _ _ _
      | exact virgationref02_Name.mono _ _
      | exact virgationref02_Nodes.mono _ _ _ _ _
      | exact virgationref02_Symbols.mono _ _
      | exact virgationref04_exist.mono _ _ _ _ _ _ _
      | exact LeO.none _
      | refine LeO.ite ?_ ?_
      | refine LeO.bind ?_ (fun _ => ?_)
    · intro y0 y1 y2 y3 y4 y5 y6 y7 y8 y9 y10 y11
      unfold virgationref04_Check.j2
      repeat' first
      | (with_reducible exact ih0 _ _ _)
      | (with_reducible exact ih1 _ _ _ _ _)
      | (with_reducible exact ih2 _ _ _ _ _ _ _ _ _ _ _ _)
      | (with_reducible exact ih3 _ _ _ _ _ _ _ _ _ _ _ _ _)
      | (with_reducible exact virgationref02_Depth.mono _ _ _ _)
      | (with_reducible exact virgationref02_Name.mono _ _)
      | (with_reducible exact virgationref02_Nodes.mono _ _ _ _ _)
      | (with_reducible exact virgationref02_Symbols.mono _ _)
      | (with_reducible exact virgationref04_exist.mono _ _ _ _ _ _ _)
      | (with_reducible exact LeO.refl _)
      | (with_reducible exact LeO.none _)
      | (with_reducible refine LeO.ite ?_ ?_)
      | (with_reducible refine LeO.bind ?_ (fun _ => ?_))
      | exact ih0 _ _ _
      | exact ih1 _ _ _ _ _
      | exact ih2 _ _ _ _ _ _ _ _ _ _ _ _
      | exact ih3 _ _ _ _ _ _ _ _ _ _ _ _ _
      | exact virgationref02_Depth.mono _ _ _ _
      | exact virgationref02_Name.mono _ _
      | exact virgationref02_Nodes.mono _ _ _ _ _
      | exact virgationref02_Symbols.mono _ _
      | exact virgationref04_exist.mono _ _ _ _ _ _ _
      | exact LeO.none _
      | refine LeO.ite ?_ ?_
      | refine LeO.bind ?_ (fun _ => ?_)
    · intro y0 y1 y2 y3 y4 y5 y6 y7 y8 y9 y10 y11 y12
      unfold virgationref04_Check.l1
      repeat' first
      | (with_reducible exact ih0 _ _ _)
      | (with_reducible exact ih1 _ _ _ _ _)
      | (with_reducible exact ih2 _ _ _ _ _ _ _ _ _ _ _ _)
      | (with_reducible exact ih3 _ _ _ _ _ _ _ _ _ _ _ _ _)
      | (with_reducible exact virgationref02_Depth.mono _ _ _ _)
      | (with_reducible exact virgationref02_Name.mono _ _)
      | (with_reducible exact virgationref02_Nodes.mono _ _ _ _ _)
      | (with_reducible exact virgationref02_Symbols.mono _ _)
      | (with_reducible exact virgationref04_exist.mono _ _ _ _ _ _ _)
      | (with_reducible exact LeO.refl _)
      | (with_reducible exact LeO.none _)
      | (with_reducible refine LeO.ite ?_ ?_)
      | (with_reducible refine LeO.bind ?_ (fun _ => ?_))
      | exact ih0 _ _ _
      | exact ih1 _ _ _ _ _
      | exact ih2 _ _ _ _ _ _ _ _ _ _ _ _
      | exact ih3 _ _ _ _ _ _ _ _ _ _ _ _ _
      | exact virgationref02_Depth.mono _ _ _ _
      | exact virgationref02_Name.mono _ _
      | exact virgationref02_Nodes.mono _ _ _ _ _
      | exact virgationref02_Symbols.mono _ _
      | exact virgationref04_exist.mono _ _ _ _ _ _ _
      | exact LeO.none _
      | refine LeO.ite ?_ ?_
      | refine LeO.bind ?_ (fun _ => ?_)
theorem virgationref04_Check.mono : ∀ a0 a1 k, LeO (virgationref04_Check.f k a0 a1) (virgationref04_Check.f (k + 1) a0 a1) := by
  intro a0 a1 k
  obtain ⟨ih0, ih1, ih2, ih3⟩ := virgationref04_Check.mono_l k
  unfold virgationref04_Check.f
  repeat' first
      | (with_reducible exact ih0 _ _ _)
      | (with_reducible exact ih1 _ _ _ _ _)
      | (with_reducible exact ih2 _ _ _ _ _ _ _ _ _ _ _ _)
      | (with_reducible exact ih3 _ _ _ _ _ _ _ _ _ _ _ _ _)
      | (with_reducible exact virgationref02_Depth.mono _ _ _ _)
      | (with_reducible exact virgationref02_Name.mono _ _)
      | (with_reducible exact virgationref02_Nodes.mono _ _ _ _ _)
      | (with_reducible exact virgationref02_Symbols.mono _ _)
      | (with_reducible exact virgationref04_exist.mono _ _ _ _ _ _ _)
      | (with_reducible exact LeO.refl _)
      | (with_reducible exact LeO.none _)
      | (with_reducible refine LeO.ite ?_ ?_)
      | (with_reducible refine LeO.bind ?_ (fun _ => ?_))
      | exact ih0 _ _ _
      | exact ih1 _ _ _ _ _
      | exact ih2 _ _ _ _ _ _ _ _ _ _ _ _
      | exact ih3 _ _ _ _ _ _ _ _ _ _ _ _ _
      | exact virgationref02_Depth.mono _ _ _ _
      | exact virgationref02_Name.mono _ _
      | exact virgationref02_Nodes.mono _ _ _ _ _
      | exact virgationref02_Symbols.mono _ _
      | exact virgationref04_exist.mono _ _ _ _ _ _ _
      | exact LeO.none _
      | refine LeO.ite ?_ ?_
      | refine LeO.bind ?_ (fun _ => ?_)
set_option maxHeartbeats 8000000 in
set_option maxRecDepth 100000 in
theorem virgationref04_Check.calls (k : Nat) (A0 : Option Addr) (c0 : Nat) (l0 : List (S59)) (A1 : Option Addr) (c1 : Nat) (l1 : List (S56)) (r : Int) (w : World) (hr0 : Kd.C k59 w A0 l0.length l0) (hc0 : l0.length ≤ c0) (hr1 : Kd.C k56 w A1 l1.length l1) (hc1 : l1.length ≤ c1) (h : virgationref04_Check.f k l0 l1 = some r) :
    Calls Try.prog 12 #[.slice A0 l0.length c0, .slice A1 l1.length c1] w fun e w' => e = .returned (.int .i64 r) ∧ Below w.heap.size w w' := by
  have hu56 := Try.underlying56
  have hu44 := Try.underlying44
  have HR0 := Aside0.mk hr0
  have HC0 := Aside0.mk hc0
  clear hr0 hc0
  have HR1 := Aside0.mk hr1
  have HC1 := Aside0.mk hc1
  clear hr1 hc1
  have HB := Aside0.mk (Below.refl w.heap.size w)
  have H : ((virgationref02_Symbols.f k l0).bind fun t143 => (if t143 = true then (if (l1.length : Int) < 1 then (virgationref04_Check.j0 k l0 l1 true) else (if (l1.length : Int) > 64 then (virgationref04_Check.j0 k l0 l1 true) else (if 0 < (l1.length : Int) then (virgationref04_Check.j0 k l0 l1 (((rd_T56 l1 0).f1) != 0)) else (none)))) else (some 2))) = some r := h
  clear h
  replace H := Option.bind_eq_some_iff.mp H
  obtain ⟨t143, A30, H⟩ := H
  replace H : (if t143 = true then (if (l1.length : Int) < 1 then (virgationref04_Check.j0 k l0 l1 true) else (if (l1.length : Int) > 64 then (virgationref04_Check.j0 k l0 l1 true) else (if 0 < (l1.length : Int) then (virgationref04_Check.j0 k l0 l1 (((rd_T56 l1 0).f1) != 0)) else (none)))) else (some 2)) = some r := H
  have A3 := Aside0.mk A30
  clear A30
  by_cases c4 : t143 = true
  · subst c4
    have H1 : (if (l1.length : Int) < 1 then (virgationref04_Check.j0 k l0 l1 true) else (if (l1.length : Int) > 64 then (virgationref04_Check.j0 k l0 l1 true) else (if 0 < (l1.length : Int) then (virgationref04_Check.j0 k l0 l1 (((rd_T56 l1 0).f1) != 0)) else (none)))) = some r := by rw [if_pos rfl] at H; exact H
    clear H
    have H := H1
    clear H1
    have HC5 := Aside0.mk H
    clear H
    go_enter Try.func12, Try.ntmps12
    go_upto_region 3 with (first | ((with_reducible refine gate_callee (f := 32) rfl ?_); refine goesL_ (some 10) rfl rfl Try.func32 (by kernel_rfl) rfl #[.slice A0 l0.length c0] rfl (by (try simp only [List.map_toArray, List.map_cons, List.map_nil]); first | done | rfl | (simp only [List.length_drop, List.length_take]; rfl)) ?_; (with_reducible refine (virgationref02_Symbols.calls k _ _ l0 true _ ?side1 ?side2 A3.out).mono ?_); (case side1 => repeat (first | exact HR0.out | (with_reducible refine Kd.C_alloc ?_ _) | (with_reducible refine Kd.C_drewN ?_ _) | (with_reducible refine Kd.C_drew ?_))); (case side2 => exact HC0.out); rintro e w6 ⟨rfl, hb⟩; refine ⟨_, rfl, ?_⟩; have n0_ := Aside0.mk (below_step (by repeat (first | (with_reducible first | exact HB.out | apply below_alloc | apply pw_below_drewN | apply below_drew1) | exact HB.out)) hb); clear HB; have HB := n0_; clear n0_; (try clear hb); (try clear hb2); (try clear hk); (try clear hi)))
    (try simp only [Act.put, List.setIfInBounds_toArray, List.set_cons_zero, List.set_cons_succ])
    go_cut [26] (fun v26 wc => ∃ (kq : Nat) (x26_4 : Bool), v26 = .bool x26_4 ∧ Aside0 (virgationref04_Check.j0 kq l0 l1 x26_4 = some r) ∧ Aside0 (kq ≤ k) ∧ Aside0 (Below w.heap.size w wc))
    case first =>
      have H := HC5.out
      clear HC5
      by_cases c7 : (l1.length : Int) < 1
      · rw [if_pos c7] at H
        have c7b0 : decide ((l1.length : Int) < 1) = true := decide_eq_true c7
        have c7b1 : decide (l1.length < 1) = true := decide_eq_true (by omega)
        clear c7
        (first | rw [c7b0] | (simp only [i64_w, i32_w]; rw [c7b0]) | skip)
        have H' := Aside0.mk H
        clear H
        go_wp2
        go_meet
        case rel => exact ⟨_, (true), (by first | rfl | (simp; done) | (simp [*]; done)), H', ⟨by first | omega | exact Nat.le_refl _⟩, ⟨by repeat (first | (with_reducible first | exact HB.out | apply below_alloc | apply pw_below_drewN | apply below_drew1) | exact HB.out)⟩⟩
      · rw [if_neg c7] at H
        have c7b0 : decide ((l1.length : Int) < 1) = false := decide_eq_false c7
        have c7b1 : decide (l1.length < 1) = false := decide_eq_false (by omega)
        clear c7
        (first | rw [c7b0] | (simp only [i64_w, i32_w]; rw [c7b0]) | skip)
        by_cases c8 : (l1.length : Int) > 64
        · rw [if_pos c8] at H
          have c8b0 : decide (64 < (l1.length : Int)) = true := decide_eq_true c8
          have c8b1 : decide (64 < l1.length) = true := decide_eq_true (by omega)
          clear c8
          have H' := Aside0.mk H
          clear H
          go_wp2
          go_meet
          case rel => exact ⟨_, (true), (by first | rfl | (simp; done) | (simp [*]; done)), H', ⟨by first | omega | exact Nat.le_refl _⟩, ⟨by repeat (first | (with_reducible first | exact HB.out | apply below_alloc | apply pw_below_drewN | apply below_drew1) | exact HB.out)⟩⟩
        · rw [if_neg c8] at H
          have c8b0 : decide (64 < (l1.length : Int)) = false := decide_eq_false c8
          have c8b1 : decide (64 < l1.length) = false := decide_eq_false (by omega)
          clear c8
          by_cases c9 : 0 < (l1.length : Int)
          · rw [if_pos c9] at H
            have c9b0 : decide (0 < (l1.length : Int)) = true := decide_eq_true c9
            have c9b1 : decide (0 < l1.length) = true := decide_eq_true (by omega)
            clear c9
            have H' := Aside0.mk H
            clear H
            have p144 : 0 ≤ (0 : Int) := (by omega)
            have q144 : 0 < (l1.length : Int) := of_decide_eq_true (by first | (with_reducible assumption) | assumption)
            obtain ⟨ad144, A144_4, c144_4, e144, hx144_0, hx144_1, hx144_2, hx144_3, hx144_4, hl144_4, hi144_4⟩ := at_T56 HR1.out 0 p144 q144
            cases e144
            have qi144 : (0 < l1.length) = True := eq_true (by omega)
            (try rw [show ((0 : Int)).toNat = 0 from rfl] at hx144_0)
            (try rw [show 0 * 5 = 0 from rfl] at hx144_0)
            (try rw [Addr.add_zero'] at hx144_0)
            (try rw [show ((0 : Int)).toNat = 0 from rfl] at hx144_1)
            (try rw [show 0 * 5 = 0 from rfl] at hx144_1)
            (try rw [Addr.add_zero'] at hx144_1)
            (try rw [show ((0 : Int)).toNat = 0 from rfl] at hx144_2)
            (try rw [show 0 * 5 = 0 from rfl] at hx144_2)
            (try rw [Addr.add_zero'] at hx144_2)
            (try rw [show ((0 : Int)).toNat = 0 from rfl] at hx144_3)
            (try rw [show 0 * 5 = 0 from rfl] at hx144_3)
            (try rw [Addr.add_zero'] at hx144_3)
            (try rw [show ((0 : Int)).toNat = 0 from rfl] at hx144_4)
            (try rw [show 0 * 5 = 0 from rfl] at hx144_4)
            (try rw [Addr.add_zero'] at hx144_4)
            replace hx144_0 := (HB.out.cell (World.block_lt_of_cell? w _ hx144_0)).trans hx144_0
            replace hx144_1 := (HB.out.cell (World.block_lt_of_cell? w _ hx144_1)).trans hx144_1
            replace hx144_2 := (HB.out.cell (World.block_lt_of_cell? w _ hx144_2)).trans hx144_2
            replace hx144_3 := (HB.out.cell (World.block_lt_of_cell? w _ hx144_3)).trans hx144_3
            replace hx144_4 := (HB.out.cell (World.block_lt_of_cell? w _ hx144_4)).trans hx144_4
            have HR144_4 := Aside0.mk hi144_4
            have HC144_4 := Aside0.mk hl144_4
            clear hi144_4 hl144_4
            replace p144 := eq_true p144
            replace q144 := eq_true q144
            go_wp2
            go_meet
            case rel => exact ⟨_, ((((rd_T56 l1 0).f1) != 0)), (by first | rfl | (simp; done) | (simp [*]; done)), H', ⟨by first | omega | exact Nat.le_refl _⟩, ⟨by repeat (first | (with_reducible first | exact HB.out | apply below_alloc | apply pw_below_drewN | apply below_drew1) | exact HB.out)⟩⟩
          · rw [if_neg c9] at H
            exact absurd H (by simp)
    case rest =>
      clear HC5
      try clear c1
      try clear p1
      try clear q1
      try clear hx1
      try clear qi1
      try clear p2
      try clear c3
      try clear c4
      try clear c7
      try clear c7b0
      try clear c7b1
      try clear c8
      try clear c8b0
      try clear c8b1
      try clear c9
      try clear c9b0
      try clear c9b1
      try clear hx144_0
      try clear hx144_1
      try clear hx144_2
      try clear hx144_3
      try clear hx144_4
      try clear p144
      try clear q144
      obtain ⟨kq, x26_4, rfl, HA, HJ4, HB⟩ := hcut
      cases kq with
      | zero => exact absurd HA.out (by simp [virgationref04_Check.j0])
      | succ kj4 =>
        have H := HA.out
        clear HA
        simp only [virgationref04_Check.j0] at H
        by_cases c10 : x26_4 = true
        · subst c10
          have H1 : (some 4) = some r := by rw [if_pos rfl] at H; exact H
          clear H
          have H := H1
          clear H1
          obtain rfl := Option.some.inj H
          go_wp2
          go_ret
          exact ⟨by first | rfl | (simp [errW_none, errW_some] <;> rfl) | (simp [*, errW_none, errW_some] <;> rfl), by repeat (first | (with_reducible first | exact HB.out | apply below_alloc | apply pw_below_drewN | apply below_drew1) | exact HB.out)⟩
        · replace c10 := Bool.eq_false_iff.mpr c10
          subst c10
          have H1 : (virgationref04_Check.l0 kj4 l0 l1 l1 (l1.length : Int) 0) = some r := by rw [if_neg (show ¬ (false = true) by decide)] at H; exact H
          clear H
          have H := H1
          clear H1
          have H' := Aside0.mk H
          clear H
          go_wp2
          go_loopg [29] kj4 (fun kq v29 w' => ∃ (x29_2 : Int), v29 = .int .i64 x29_2 ∧ Aside0 (virgationref04_Check.l0 kq l0 l1 l1 (l1.length : Int) x29_2 = some r) ∧ Aside0 (kq ≤ kj4) ∧ Aside0 (Below w.heap.size w w'))
          case atStart => exact ⟨(0), (by first | rfl | (simp; done) | (simp [*]; done)), H', ⟨Nat.le_refl _⟩, ⟨by repeat (first | (with_reducible first | exact HB.out | apply below_alloc | apply pw_below_drewN | apply below_drew1) | exact HB.out)⟩⟩
          case round =>
            clear H'
            try clear c1
            try clear p1
            try clear q1
            try clear hx1
            try clear qi1
            try clear p2
            try clear c3
            try clear c4
            try clear c7
            try clear c7b0
            try clear c7b1
            try clear c8
            try clear c8b0
            try clear c8b1
            try clear c9
            try clear c9b0
            try clear c9b1
            try clear c10
            try clear hx144_0
            try clear hx144_1
            try clear hx144_2
            try clear hx144_3
            try clear hx144_4
            try clear p1
            try clear p144
            try clear p2
            try clear q1
            try clear q144
            obtain ⟨x29_2, rfl, HA, HK2, HB⟩ := hrel
            cases gk with
            | zero => exact absurd HA.out (by simp [virgationref04_Check.l0])
            | succ k2 =>
              have H := HA.out
              clear HA
              simp only [virgationref04_Check.l0] at H
              by_cases c11 : x29_2 < (l1.length : Int)
              · rw [if_pos c11] at H
                have c11b0 : decide (x29_2 < (l1.length : Int)) = true := decide_eq_true c11
                clear c11
                by_cases c12 : 0 ≤ x29_2
                · rw [if_pos c12] at H
                  have c12b0 : decide (0 ≤ x29_2) = true := decide_eq_true c12
                  clear c12
                  by_cases c13 : x29_2 < (l1.length : Int)
                  · rw [if_pos c13] at H
                    have c13b0 : decide (x29_2 < (l1.length : Int)) = true := decide_eq_true c13
                    clear c13
                    have HC14 := Aside0.mk H
                    clear H
                    have p145 : 0 ≤ (x29_2 : Int) := of_decide_eq_true (by first | (with_reducible assumption) | assumption)
                    have q145 : x29_2 < (l1.length : Int) := of_decide_eq_true (by first | (with_reducible assumption) | assumption)
                    obtain ⟨ad145, A145_4, c145_4, e145, hx145_0, hx145_1, hx145_2, hx145_3, hx145_4, hl145_4, hi145_4⟩ := at_T56 HR1.out x29_2 p145 q145
                    cases e145
                    replace hx145_0 := (HB.out.cell (World.block_lt_of_cell? w _ hx145_0)).trans hx145_0
                    replace hx145_1 := (HB.out.cell (World.block_lt_of_cell? w _ hx145_1)).trans hx145_1
                    replace hx145_2 := (HB.out.cell (World.block_lt_of_cell? w _ hx145_2)).trans hx145_2
                    replace hx145_3 := (HB.out.cell (World.block_lt_of_cell? w _ hx145_3)).trans hx145_3
                    replace hx145_4 := (HB.out.cell (World.block_lt_of_cell? w _ hx145_4)).trans hx145_4
                    have HR145_4 := Aside0.mk hi145_4
                    have HC145_4 := Aside0.mk hl145_4
                    clear hi145_4 hl145_4
                    replace p145 := eq_true p145
                    replace q145 := eq_true q145
                    go_upto_region 8 with (first | ((with_reducible refine gate_dst (N := 6) rfl ?_); (try (refine gate_guard (by rfl) ?_; dsimp only)); refine box_event ?hg (N := 6) ?hd (cs := #[.string (⟨#[]⟩ : ByteArray), .int .i64 0, .int .i64 0, .int .i64 0, .slice none 0 0]) (t := 56) ?hr ?_; (case hd => rfl); (case hg => rfl); (case hr => first | (go_simp; done) | (go_simp; rfl)); intro gb146 hg w15 hbox hb; have n0_ := Aside0.mk (below_step (by repeat (first | (with_reducible first | exact HB.out | apply below_alloc | apply pw_below_drewN | apply below_drew1) | exact HB.out)) hb); have n1_ := Aside0.mk (hbox); have n2_ := Aside0.mk ((by rw [hg]; exact (below_size (by repeat (first | (with_reducible first | exact HB.out | apply below_alloc | apply pw_below_drewN | apply below_drew1) | exact HB.out))) : w.heap.size ≤ gb146)); have n3_ := Aside0.mk ((by rw [hg]; exact (below_size (by repeat (first | (with_reducible first | exact HB.out | apply below_alloc | apply pw_below_drewN | apply below_drew1) | exact HB.out))) : w.heap.size ≤ gb146)); clear HB; have HB := n0_; have BK146 := n1_; have GW146 := n2_; have GE146 := n3_; clear n0_ n1_ n2_ n3_; clear hb hbox hg; have hcz16_0 : w15.cell? ⟨gb146, 0, none⟩ = some (.string (⟨#[]⟩ : ByteArray)) := (blk_cell BK146.out 0).trans rfl; have hcz16_1 : w15.cell? ⟨gb146, 1, none⟩ = some (.int .i64 0) := (blk_cell BK146.out 1).trans rfl; have hcz16_2 : w15.cell? ⟨gb146, 2, none⟩ = some (.int .i64 0) := (blk_cell BK146.out 2).trans rfl; have hcz16_3 : w15.cell? ⟨gb146, 3, none⟩ = some (.int .i64 0) := (blk_cell BK146.out 3).trans rfl; have hcz16_4 : w15.cell? ⟨gb146, 4, none⟩ = some (.slice none 0 0) := (blk_cell BK146.out 4).trans rfl; have hfz16_0 := blk_frozen BK146.out 0; have hfz16_1 := blk_frozen BK146.out 1; have hfz16_2 := blk_frozen BK146.out 2; have hfz16_3 := blk_frozen BK146.out 3; have hfz16_4 := blk_frozen BK146.out 4))
                    (try simp only [Act.put, List.setIfInBounds_toArray, List.set_cons_zero, List.set_cons_succ])
                    go_cut [71] (fun v71 wc => ∃ (kq : Nat) (x71_13 : Bool), v71 = .bool x71_13 ∧ Aside0 (virgationref04_Check.j2 kq l0 l1 x29_2 l1 (l1.length : Int) x29_2 x71_13 ((rd_T56 l1 x29_2).f0) ((rd_T56 l1 x29_2).f1) ((rd_T56 l1 x29_2).f2.f0) ((rd_T56 l1 x29_2).f2.f1) ((rd_T56 l1 x29_2).f2.f2) = some r) ∧ Aside0 (kq ≤ k2) ∧ Aside0 (wc.heap[gb146]? = some (.cells #[.string ((rd_T56 l1 x29_2).f0), .int .i64 ((rd_T56 l1 x29_2).f1), .int .i64 ((rd_T56 l1 x29_2).f2.f0), .int .i64 ((rd_T56 l1 x29_2).f2.f1), (.slice A145_4 ((rd_T56 l1 x29_2).f2.f2).length c145_4)] 56 (0, 0))) ∧ Aside0 (Below w.heap.size w wc))
                    case first =>
                      have H := HC14.out
                      clear HC14
                      replace H := Option.bind_eq_some_iff.mp H
                      obtain ⟨t147, A170, H⟩ := H
                      replace H : (if t147 = true then (if ((rd_T56 l1 x29_2).f1) < 0 then (virgationref04_Check.j2 k2 l0 l1 x29_2 l1 (l1.length : Int) x29_2 true ((rd_T56 l1 x29_2).f0) ((rd_T56 l1 x29_2).f1) ((rd_T56 l1 x29_2).f2.f0) ((rd_T56 l1 x29_2).f2.f1) ((rd_T56 l1 x29_2).f2.f2)) else (if ((rd_T56 l1 x29_2).f1) > 8 then (virgationref04_Check.j2 k2 l0 l1 x29_2 l1 (l1.length : Int) x29_2 true ((rd_T56 l1 x29_2).f0) ((rd_T56 l1 x29_2).f1) ((rd_T56 l1 x29_2).f2.f0) ((rd_T56 l1 x29_2).f2.f1) ((rd_T56 l1 x29_2).f2.f2)) else ((virgationref02_Nodes.f k2 ((rd_T56 l1 x29_2).f2.f0) ((rd_T56 l1 x29_2).f2.f1) ((rd_T56 l1 x29_2).f2.f2) 400).bind fun t148 => (if t148 > 400 then (virgationref04_Check.j2 k2 l0 l1 x29_2 l1 (l1.length : Int) x29_2 true ((rd_T56 l1 x29_2).f0) ((rd_T56 l1 x29_2).f1) ((rd_T56 l1 x29_2).f2.f0) ((rd_T56 l1 x29_2).f2.f1) ((rd_T56 l1 x29_2).f2.f2)) else ((virgationref02_Depth.f k2 ((rd_T56 l1 x29_2).f2.f0) ((rd_T56 l1 x29_2).f2.f1) ((rd_T56 l1 x29_2).f2.f2)).bind fun t149 => (if t149 > 30 then (virgationref04_Check.j2 k2 l0 l1 x29_2 l1 (l1.length : Int) x29_2 true ((rd_T56 l1 x29_2).f0) ((rd_T56 l1 x29_2).f1) ((rd_T56 l1 x29_2).f2.f0) ((rd_T56 l1 x29_2).f2.f1) ((rd_T56 l1 x29_2).f2.f2)) else ((virgationref04_exist.f k2 ((rd_T56 l1 x29_2).f2.f0) ((rd_T56 l1 x29_2).f2.f1) ((rd_T56 l1 x29_2).f2.f2) ((rd_T56 l1 x29_2).f1) (l1.length : Int) (l0.length : Int)).bind fun t150 => (virgationref04_Check.j2 k2 l0 l1 x29_2 l1 (l1.length : Int) x29_2 (!t150) ((rd_T56 l1 x29_2).f0) ((rd_T56 l1 x29_2).f1) ((rd_T56 l1 x29_2).f2.f0) ((rd_T56 l1 x29_2).f2.f1) ((rd_T56 l1 x29_2).f2.f2))))))))) else (virgationref04_Check.j2 k2 l0 l1 x29_2 l1 (l1.length : Int) x29_2 true ((rd_T56 l1 x29_2).f0) ((rd_T56 l1 x29_2).f1) ((rd_T56 l1 x29_2).f2.f0) ((rd_T56 l1 x29_2).f2.f1) ((rd_T56 l1 x29_2).f2.f2))) = some r := H
                      have A17 := Aside0.mk A170
                      clear A170
                      by_cases c18 : t147 = true
                      · subst c18
                        have H1 : (if ((rd_T56 l1 x29_2).f1) < 0 then (virgationref04_Check.j2 k2 l0 l1 x29_2 l1 (l1.length : Int) x29_2 true ((rd_T56 l1 x29_2).f0) ((rd_T56 l1 x29_2).f1) ((rd_T56 l1 x29_2).f2.f0) ((rd_T56 l1 x29_2).f2.f1) ((rd_T56 l1 x29_2).f2.f2)) else (if ((rd_T56 l1 x29_2).f1) > 8 then (virgationref04_Check.j2 k2 l0 l1 x29_2 l1 (l1.length : Int) x29_2 true ((rd_T56 l1 x29_2).f0) ((rd_T56 l1 x29_2).f1) ((rd_T56 l1 x29_2).f2.f0) ((rd_T56 l1 x29_2).f2.f1) ((rd_T56 l1 x29_2).f2.f2)) else ((virgationref02_Nodes.f k2 ((rd_T56 l1 x29_2).f2.f0) ((rd_T56 l1 x29_2).f2.f1) ((rd_T56 l1 x29_2).f2.f2) 400).bind fun t148 => (if t148 > 400 then (virgationref04_Check.j2 k2 l0 l1 x29_2 l1 (l1.length : Int) x29_2 true ((rd_T56 l1 x29_2).f0) ((rd_T56 l1 x29_2).f1) ((rd_T56 l1 x29_2).f2.f0) ((rd_T56 l1 x29_2).f2.f1) ((rd_T56 l1 x29_2).f2.f2)) else ((virgationref02_Depth.f k2 ((rd_T56 l1 x29_2).f2.f0) ((rd_T56 l1 x29_2).f2.f1) ((rd_T56 l1 x29_2).f2.f2)).bind fun t149 => (if t149 > 30 then (virgationref04_Check.j2 k2 l0 l1 x29_2 l1 (l1.length : Int) x29_2 true ((rd_T56 l1 x29_2).f0) ((rd_T56 l1 x29_2).f1) ((rd_T56 l1 x29_2).f2.f0) ((rd_T56 l1 x29_2).f2.f1) ((rd_T56 l1 x29_2).f2.f2)) else ((virgationref04_exist.f k2 ((rd_T56 l1 x29_2).f2.f0) ((rd_T56 l1 x29_2).f2.f1) ((rd_T56 l1 x29_2).f2.f2) ((rd_T56 l1 x29_2).f1) (l1.length : Int) (l0.length : Int)).bind fun t150 => (virgationref04_Check.j2 k2 l0 l1 x29_2 l1 (l1.length : Int) x29_2 (!t150) ((rd_T56 l1 x29_2).f0) ((rd_T56 l1 x29_2).f1) ((rd_T56 l1 x29_2).f2.f0) ((rd_T56 l1 x29_2).f2.f1) ((rd_T56 l1 x29_2).f2.f2))))))))) = some r := by rw [if_pos rfl] at H; exact H
                        clear H
                        have H := H1
                        clear H1
                        by_cases c19 : ((rd_T56 l1 x29_2).f1) < 0
                        · rw [if_pos c19] at H
                          have c19b0 : decide (((rd_T56 l1 x29_2).f1) < 0) = true := decide_eq_true c19
                          clear c19
                          (first | rw [c19b0] | (simp only [i64_w, i32_w]; rw [c19b0]) | skip)
                          have H' := Aside0.mk H
                          clear H
                          have hcz20_0 : w15.cell? ⟨gb146, 0, none⟩ = some (.string (⟨#[]⟩ : ByteArray)) := (blk_cell BK146.out 0).trans rfl
                          have hcz20_1 : w15.cell? ⟨gb146, 1, none⟩ = some (.int .i64 0) := (blk_cell BK146.out 1).trans rfl
                          have hcz20_2 : w15.cell? ⟨gb146, 2, none⟩ = some (.int .i64 0) := (blk_cell BK146.out 2).trans rfl
                          have hcz20_3 : w15.cell? ⟨gb146, 3, none⟩ = some (.int .i64 0) := (blk_cell BK146.out 3).trans rfl
                          have hcz20_4 : w15.cell? ⟨gb146, 4, none⟩ = some (.slice none 0 0) := (blk_cell BK146.out 4).trans rfl
                          have hfz20_0 := blk_frozen BK146.out 0
                          have hfz20_1 := blk_frozen BK146.out 1
                          have hfz20_2 := blk_frozen BK146.out 2
                          have hfz20_3 := blk_frozen BK146.out 3
                          have hfz20_4 := blk_frozen BK146.out 4
                          go_wp2_with (first | ((with_reducible refine gate_callee (f := 33) rfl ?_); refine goesL_ (some 36) rfl rfl Try.func33 (by kernel_rfl) rfl #[.string ((rd_T56 l1 x29_2).f0)] rfl (by (try simp only [List.map_toArray, List.map_cons, List.map_nil]); first | done | rfl | (simp only [List.length_drop, List.length_take]; rfl)) ?_; (with_reducible refine (virgationref02_Name.calls k2 ((rd_T56 l1 x29_2).f0) true _ A17.out).mono ?_); rintro e w' ⟨rfl, ⟨nd, rfl⟩⟩; refine ⟨_, rfl, ?_⟩))
                          go_meet
                          case rel => exact ⟨_, (true), (by first | rfl | (simp; done) | (simp [*]; done)), H', ⟨by have := HJ4.out; have := HK2.out; first | omega | exact Nat.le_refl _⟩, ⟨by (with_reducible repeat (first | refine blk_drewN ?_ _ | refine blk_drew ?_ | refine blk_alloc ?_ _)); refine blk_put (cs := #[.string ((rd_T56 l1 x29_2).f0), .int .i64 ((rd_T56 l1 x29_2).f1), .int .i64 ((rd_T56 l1 x29_2).f2.f0), .int .i64 ((rd_T56 l1 x29_2).f2.f1), .slice none 0 0]) ?_ 4 _ rfl; (with_reducible repeat (first | refine blk_drewN ?_ _ | refine blk_drew ?_ | refine blk_alloc ?_ _)); refine blk_put (cs := #[.string ((rd_T56 l1 x29_2).f0), .int .i64 ((rd_T56 l1 x29_2).f1), .int .i64 ((rd_T56 l1 x29_2).f2.f0), .int .i64 0, .slice none 0 0]) ?_ 3 _ rfl; (with_reducible repeat (first | refine blk_drewN ?_ _ | refine blk_drew ?_ | refine blk_alloc ?_ _)); refine blk_put (cs := #[.string ((rd_T56 l1 x29_2).f0), .int .i64 ((rd_T56 l1 x29_2).f1), .int .i64 0, .int .i64 0, .slice none 0 0]) ?_ 2 _ rfl; (with_reducible repeat (first | refine blk_drewN ?_ _ | refine blk_drew ?_ | refine blk_alloc ?_ _)); refine blk_put (cs := #[.string ((rd_T56 l1 x29_2).f0), .int .i64 0, .int .i64 0, .int .i64 0, .slice none 0 0]) ?_ 1 _ rfl; (with_reducible repeat (first | refine blk_drewN ?_ _ | refine blk_drew ?_ | refine blk_alloc ?_ _)); refine blk_put (cs := #[.string (⟨#[]⟩ : ByteArray), .int .i64 0, .int .i64 0, .int .i64 0, .slice none 0 0]) ?_ 0 _ rfl; (with_reducible repeat (first | refine blk_drewN ?_ _ | refine blk_drew ?_ | refine blk_alloc ?_ _)); exact BK146.out⟩, ⟨by repeat (first | (with_reducible first | exact HB.out | apply below_alloc | apply pw_below_drewN | apply below_drew1 | refine below_set ?_ GE146.out) | exact HB.out)⟩⟩
                        · rw [if_neg c19] at H
                          have c19b0 : decide (((rd_T56 l1 x29_2).f1) < 0) = false := decide_eq_false c19
                          clear c19
                          (first | rw [c19b0] | (simp only [i64_w, i32_w]; rw [c19b0]) | skip)
                          by_cases c21 : ((rd_T56 l1 x29_2).f1) > 8
                          · rw [if_pos c21] at H
                            have c21b0 : decide (8 < ((rd_T56 l1 x29_2).f1)) = true := decide_eq_true c21
                            clear c21
                            have H' := Aside0.mk H
                            clear H
                            have hcz22_0 : w15.cell? ⟨gb146, 0, none⟩ = some (.string (⟨#[]⟩ : ByteArray)) := (blk_cell BK146.out 0).trans rfl
                            have hcz22_1 : w15.cell? ⟨gb146, 1, none⟩ = some (.int .i64 0) := (blk_cell BK146.out 1).trans rfl
                            have hcz22_2 : w15.cell? ⟨gb146, 2, none⟩ = some (.int .i64 0) := (blk_cell BK146.out 2).trans rfl
                            have hcz22_3 : w15.cell? ⟨gb146, 3, none⟩ = some (.int .i64 0) := (blk_cell BK146.out 3).trans rfl
                            have hcz22_4 : w15.cell? ⟨gb146, 4, none⟩ = some (.slice none 0 0) := (blk_cell BK146.out 4).trans rfl
                            have hfz22_0 := blk_frozen BK146.out 0
                            have hfz22_1 := blk_frozen BK146.out 1
                            have hfz22_2 := blk_frozen BK146.out 2
                            have hfz22_3 := blk_frozen BK146.out 3
                            have hfz22_4 := blk_frozen BK146.out 4
                            go_wp2_with (first | ((with_reducible refine gate_callee (f := 33) rfl ?_); refine goesL_ (some 36) rfl rfl Try.func33 (by kernel_rfl) rfl #[.string ((rd_T56 l1 x29_2).f0)] rfl (by (try simp only [List.map_toArray, List.map_cons, List.map_nil]); first | done | rfl | (simp only [List.length_drop, List.length_take]; rfl)) ?_; (with_reducible refine (virgationref02_Name.calls k2 ((rd_T56 l1 x29_2).f0) true _ A17.out).mono ?_); rintro e w' ⟨rfl, ⟨nd, rfl⟩⟩; refine ⟨_, rfl, ?_⟩))
                            go_meet
                            case rel => exact ⟨_, (true), (by first | rfl | (simp; done) | (simp [*]; done)), H', ⟨by have := HJ4.out; have := HK2.out; first | omega | exact Nat.le_refl _⟩, ⟨by (with_reducible repeat (first | refine blk_drewN ?_ _ | refine blk_drew ?_ | refine blk_alloc ?_ _)); refine blk_put (cs := #[.string ((rd_T56 l1 x29_2).f0), .int .i64 ((rd_T56 l1 x29_2).f1), .int .i64 ((rd_T56 l1 x29_2).f2.f0), .int .i64 ((rd_T56 l1 x29_2).f2.f1), .slice none 0 0]) ?_ 4 _ rfl; (with_reducible repeat (first | refine blk_drewN ?_ _ | refine blk_drew ?_ | refine blk_alloc ?_ _)); refine blk_put (cs := #[.string ((rd_T56 l1 x29_2).f0), .int .i64 ((rd_T56 l1 x29_2).f1), .int .i64 ((rd_T56 l1 x29_2).f2.f0), .int .i64 0, .slice none 0 0]) ?_ 3 _ rfl; (with_reducible repeat (first | refine blk_drewN ?_ _ | refine blk_drew ?_ | refine blk_alloc ?_ _)); refine blk_put (cs := #[.string ((rd_T56 l1 x29_2).f0), .int .i64 ((rd_T56 l1 x29_2).f1), .int .i64 0, .int .i64 0, .slice none 0 0]) ?_ 2 _ rfl; (with_reducible repeat (first | refine blk_drewN ?_ _ | refine blk_drew ?_ | refine blk_alloc ?_ _)); refine blk_put (cs := #[.string ((rd_T56 l1 x29_2).f0), .int .i64 0, .int .i64 0, .int .i64 0, .slice none 0 0]) ?_ 1 _ rfl; (with_reducible repeat (first | refine blk_drewN ?_ _ | refine blk_drew ?_ | refine blk_alloc ?_ _)); refine blk_put (cs := #[.string (⟨#[]⟩ : ByteArray), .int .i64 0, .int .i64 0, .int .i64 0, .slice none 0 0]) ?_ 0 _ rfl; (with_reducible repeat (first | refine blk_drewN ?_ _ | refine blk_drew ?_ | refine blk_alloc ?_ _)); exact BK146.out⟩, ⟨by repeat (first | (with_reducible first | exact HB.out | apply below_alloc | apply pw_below_drewN | apply below_drew1 | refine below_set ?_ GE146.out) | exact HB.out)⟩⟩
                          · rw [if_neg c21] at H
                            have c21b0 : decide (8 < ((rd_T56 l1 x29_2).f1)) = false := decide_eq_false c21
                            clear c21
                            replace H := Option.bind_eq_some_iff.mp H
                            obtain ⟨t148, A230, H⟩ := H
                            replace H : (if t148 > 400 then (virgationref04_Check.j2 k2 l0 l1 x29_2 l1 (l1.length : Int) x29_2 true ((rd_T56 l1 x29_2).f0) ((rd_T56 l1 x29_2).f1) ((rd_T56 l1 x29_2).f2.f0) ((rd_T56 l1 x29_2).f2.f1) ((rd_T56 l1 x29_2).f2.f2)) else ((virgationref02_Depth.f k2 ((rd_T56 l1 x29_2).f2.f0) ((rd_T56 l1 x29_2).f2.f1) ((rd_T56 l1 x29_2).f2.f2)).bind fun t149 => (if t149 > 30 then (virgationref04_Check.j2 k2 l0 l1 x29_2 l1 (l1.length : Int) x29_2 true ((rd_T56 l1 x29_2).f0) ((rd_T56 l1 x29_2).f1) ((rd_T56 l1 x29_2).f2.f0) ((rd_T56 l1 x29_2).f2.f1) ((rd_T56 l1 x29_2).f2.f2)) else ((virgationref04_exist.f k2 ((rd_T56 l1 x29_2).f2.f0) ((rd_T56 l1 x29_2).f2.f1) ((rd_T56 l1 x29_2).f2.f2) ((rd_T56 l1 x29_2).f1) (l1.length : Int) (l0.length : Int)).bind fun t150 => (virgationref04_Check.j2 k2 l0 l1 x29_2 l1 (l1.length : Int) x29_2 (!t150) ((rd_T56 l1 x29_2).f0) ((rd_T56 l1 x29_2).f1) ((rd_T56 l1 x29_2).f2.f0) ((rd_T56 l1 x29_2).f2.f1) ((rd_T56 l1 x29_2).f2.f2)))))) = some r := H
                            have A23 := Aside0.mk A230
                            clear A230
                            by_cases c24 : t148 > 400
                            · rw [if_pos c24] at H
                              have c24b0 : decide (400 < t148) = true := decide_eq_true c24
                              clear c24
                              have H' := Aside0.mk H
                              clear H
                              have hcz25_0 : w15.cell? ⟨gb146, 0, none⟩ = some (.string (⟨#[]⟩ : ByteArray)) := (blk_cell BK146.out 0).trans rfl
                              have hcz25_1 : w15.cell? ⟨gb146, 1, none⟩ = some (.int .i64 0) := (blk_cell BK146.out 1).trans rfl
                              have hcz25_2 : w15.cell? ⟨gb146, 2, none⟩ = some (.int .i64 0) := (blk_cell BK146.out 2).trans rfl
                              have hcz25_3 : w15.cell? ⟨gb146, 3, none⟩ = some (.int .i64 0) := (blk_cell BK146.out 3).trans rfl
                              have hcz25_4 : w15.cell? ⟨gb146, 4, none⟩ = some (.slice none 0 0) := (blk_cell BK146.out 4).trans rfl
                              have hfz25_0 := blk_frozen BK146.out 0
                              have hfz25_1 := blk_frozen BK146.out 1
                              have hfz25_2 := blk_frozen BK146.out 2
                              have hfz25_3 := blk_frozen BK146.out 3
                              have hfz25_4 := blk_frozen BK146.out 4
                              go_wp2_with (first | ((with_reducible refine gate_callee (f := 33) rfl ?_); refine goesL_ (some 36) rfl rfl Try.func33 (by kernel_rfl) rfl #[.string ((rd_T56 l1 x29_2).f0)] rfl (by (try simp only [List.map_toArray, List.map_cons, List.map_nil]); first | done | rfl | (simp only [List.length_drop, List.length_take]; rfl)) ?_; (with_reducible refine (virgationref02_Name.calls k2 ((rd_T56 l1 x29_2).f0) true _ A17.out).mono ?_); rintro e w' ⟨rfl, ⟨nd, rfl⟩⟩; refine ⟨_, rfl, ?_⟩) | (go_at_call 34; (with_reducible refine (virgationref02_Nodes.calls k2 ((rd_T56 l1 x29_2).f2.f0) ((rd_T56 l1 x29_2).f2.f1) _ _ ((rd_T56 l1 x29_2).f2.f2) 400 t148 _ ?side1 ?side2 A23.out).mono ?_); (case side1 => exact Kd.C_below HR145_4.out (by repeat (first | (with_reducible first | exact HB.out | apply below_alloc | apply pw_below_drewN | apply below_drew1 | refine below_set ?_ GE146.out) | exact HB.out))); (case side2 => exact HC145_4.out); rintro e w26 ⟨rfl, hb⟩; have n0_ := Aside0.mk (blk_below (g := gb146) (o := .cells #[.string ((rd_T56 l1 x29_2).f0), .int .i64 ((rd_T56 l1 x29_2).f1), .int .i64 ((rd_T56 l1 x29_2).f2.f0), .int .i64 ((rd_T56 l1 x29_2).f2.f1), .slice A145_4 ((rd_T56 l1 x29_2).f2.f2).length c145_4] 56 (0, 0)) (by (with_reducible repeat (first | refine blk_drewN ?_ _ | refine blk_drew ?_ | refine blk_alloc ?_ _)); refine blk_put (cs := #[.string ((rd_T56 l1 x29_2).f0), .int .i64 ((rd_T56 l1 x29_2).f1), .int .i64 ((rd_T56 l1 x29_2).f2.f0), .int .i64 ((rd_T56 l1 x29_2).f2.f1), .slice none 0 0]) ?_ 4 _ rfl; (with_reducible repeat (first | refine blk_drewN ?_ _ | refine blk_drew ?_ | refine blk_alloc ?_ _)); refine blk_put (cs := #[.string ((rd_T56 l1 x29_2).f0), .int .i64 ((rd_T56 l1 x29_2).f1), .int .i64 ((rd_T56 l1 x29_2).f2.f0), .int .i64 0, .slice none 0 0]) ?_ 3 _ rfl; (with_reducible repeat (first | refine blk_drewN ?_ _ | refine blk_drew ?_ | refine blk_alloc ?_ _)); refine blk_put (cs := #[.string ((rd_T56 l1 x29_2).f0), .int .i64 ((rd_T56 l1 x29_2).f1), .int .i64 0, .int .i64 0, .slice none 0 0]) ?_ 2 _ rfl; (with_reducible repeat (first | refine blk_drewN ?_ _ | refine blk_drew ?_ | refine blk_alloc ?_ _)); refine blk_put (cs := #[.string ((rd_T56 l1 x29_2).f0), .int .i64 0, .int .i64 0, .int .i64 0, .slice none 0 0]) ?_ 1 _ rfl; (with_reducible repeat (first | refine blk_drewN ?_ _ | refine blk_drew ?_ | refine blk_alloc ?_ _)); refine blk_put (cs := #[.string (⟨#[]⟩ : ByteArray), .int .i64 0, .int .i64 0, .int .i64 0, .slice none 0 0]) ?_ 0 _ rfl; (with_reducible repeat (first | refine blk_drewN ?_ _ | refine blk_drew ?_ | refine blk_alloc ?_ _)); exact BK146.out) hb); have n1_ := Aside0.mk (below_step (by repeat (first | (with_reducible first | exact HB.out | apply below_alloc | apply pw_below_drewN | apply below_drew1 | refine below_set ?_ GE146.out) | exact HB.out)) hb); clear BK146; clear HB; have BK146 := n0_; have HB := n1_; clear n0_ n1_; (try clear hb); (try clear hb2); (try clear hk); (try clear hi)))
                              go_meet
                              case rel => exact ⟨_, (true), (by first | rfl | (simp; done) | (simp [*]; done)), H', ⟨by have := HJ4.out; have := HK2.out; first | omega | exact Nat.le_refl _⟩, ⟨by (with_reducible repeat (first | refine blk_drewN ?_ _ | refine blk_drew ?_ | refine blk_alloc ?_ _)); exact BK146.out⟩, ⟨by repeat (first | (with_reducible first | exact HB.out | apply below_alloc | apply pw_below_drewN | apply below_drew1 | refine below_set ?_ GE146.out) | exact HB.out)⟩⟩
                            · rw [if_neg c24] at H
                              have c24b0 : decide (400 < t148) = false := decide_eq_false c24
                              clear c24
                              replace H := Option.bind_eq_some_iff.mp H
                              obtain ⟨t149, A270, H⟩ := H
                              replace H : (if t149 > 30 then (virgationref04_Check.j2 k2 l0 l1 x29_2 l1 (l1.length : Int) x29_2 true ((rd_T56 l1 x29_2).f0) ((rd_T56 l1 x29_2).f1) ((rd_T56 l1 x29_2).f2.f0) ((rd_T56 l1 x29_2).f2.f1) ((rd_T56 l1 x29_2).f2.f2)) else ((virgationref04_exist.f k2 ((rd_T56 l1 x29_2).f2.f0) ((rd_T56 l1 x29_2).f2.f1) ((rd_T56 l1 x29_2).f2.f2) ((rd_T56 l1 x29_2).f1) (l1.length : Int) (l0.length : Int)).bind fun t150 => (virgationref04_Check.j2 k2 l0 l1 x29_2 l1 (l1.length : Int) x29_2 (!t150) ((rd_T56 l1 x29_2).f0) ((rd_T56 l1 x29_2).f1) ((rd_T56 l1 x29_2).f2.f0) ((rd_T56 l1 x29_2).f2.f1) ((rd_T56 l1 x29_2).f2.f2)))) = some r := H
                              have A27 := Aside0.mk A270
                              clear A270
                              by_cases c28 : t149 > 30
                              · rw [if_pos c28] at H
                                have c28b0 : decide (30 < t149) = true := decide_eq_true c28
                                clear c28
                                have H' := Aside0.mk H
                                clear H
                                have hcz29_0 : w15.cell? ⟨gb146, 0, none⟩ = some (.string (⟨#[]⟩ : ByteArray)) := (blk_cell BK146.out 0).trans rfl
                                have hcz29_1 : w15.cell? ⟨gb146, 1, none⟩ = some (.int .i64 0) := (blk_cell BK146.out 1).trans rfl
                                have hcz29_2 : w15.cell? ⟨gb146, 2, none⟩ = some (.int .i64 0) := (blk_cell BK146.out 2).trans rfl
                                have hcz29_3 : w15.cell? ⟨gb146, 3, none⟩ = some (.int .i64 0) := (blk_cell BK146.out 3).trans rfl
                                have hcz29_4 : w15.cell? ⟨gb146, 4, none⟩ = some (.slice none 0 0) := (blk_cell BK146.out 4).trans rfl
                                have hfz29_0 := blk_frozen BK146.out 0
                                have hfz29_1 := blk_frozen BK146.out 1
                                have hfz29_2 := blk_frozen BK146.out 2
                                have hfz29_3 := blk_frozen BK146.out 3
                                have hfz29_4 := blk_frozen BK146.out 4
                                go_wp2_with (first | ((with_reducible refine gate_callee (f := 33) rfl ?_); refine goesL_ (some 36) rfl rfl Try.func33 (by kernel_rfl) rfl #[.string ((rd_T56 l1 x29_2).f0)] rfl (by (try simp only [List.map_toArray, List.map_cons, List.map_nil]); first | done | rfl | (simp only [List.length_drop, List.length_take]; rfl)) ?_; (with_reducible refine (virgationref02_Name.calls k2 ((rd_T56 l1 x29_2).f0) true _ A17.out).mono ?_); rintro e w' ⟨rfl, ⟨nd, rfl⟩⟩; refine ⟨_, rfl, ?_⟩) | (go_at_call 34; (with_reducible refine (virgationref02_Nodes.calls k2 ((rd_T56 l1 x29_2).f2.f0) ((rd_T56 l1 x29_2).f2.f1) _ _ ((rd_T56 l1 x29_2).f2.f2) 400 t148 _ ?side1 ?side2 A23.out).mono ?_); (case side1 => exact Kd.C_below HR145_4.out (by repeat (first | (with_reducible first | exact HB.out | apply below_alloc | apply pw_below_drewN | apply below_drew1 | refine below_set ?_ GE146.out) | exact HB.out))); (case side2 => exact HC145_4.out); rintro e w30 ⟨rfl, hb⟩; have n0_ := Aside0.mk (blk_below (g := gb146) (o := .cells #[.string ((rd_T56 l1 x29_2).f0), .int .i64 ((rd_T56 l1 x29_2).f1), .int .i64 ((rd_T56 l1 x29_2).f2.f0), .int .i64 ((rd_T56 l1 x29_2).f2.f1), .slice A145_4 ((rd_T56 l1 x29_2).f2.f2).length c145_4] 56 (0, 0)) (by (with_reducible repeat (first | refine blk_drewN ?_ _ | refine blk_drew ?_ | refine blk_alloc ?_ _)); refine blk_put (cs := #[.string ((rd_T56 l1 x29_2).f0), .int .i64 ((rd_T56 l1 x29_2).f1), .int .i64 ((rd_T56 l1 x29_2).f2.f0), .int .i64 ((rd_T56 l1 x29_2).f2.f1), .slice none 0 0]) ?_ 4 _ rfl; (with_reducible repeat (first | refine blk_drewN ?_ _ | refine blk_drew ?_ | refine blk_alloc ?_ _)); refine blk_put (cs := #[.string ((rd_T56 l1 x29_2).f0), .int .i64 ((rd_T56 l1 x29_2).f1), .int .i64 ((rd_T56 l1 x29_2).f2.f0), .int .i64 0, .slice none 0 0]) ?_ 3 _ rfl; (with_reducible repeat (first | refine blk_drewN ?_ _ | refine blk_drew ?_ | refine blk_alloc ?_ _)); refine blk_put (cs := #[.string ((rd_T56 l1 x29_2).f0), .int .i64 ((rd_T56 l1 x29_2).f1), .int .i64 0, .int .i64 0, .slice none 0 0]) ?_ 2 _ rfl; (with_reducible repeat (first | refine blk_drewN ?_ _ | refine blk_drew ?_ | refine blk_alloc ?_ _)); refine blk_put (cs := #[.string ((rd_T56 l1 x29_2).f0), .int .i64 0, .int .i64 0, .int .i64 0, .slice none 0 0]) ?_ 1 _ rfl; (with_reducible repeat (first | refine blk_drewN ?_ _ | refine blk_drew ?_ | refine blk_alloc ?_ _)); refine blk_put (cs := #[.string (⟨#[]⟩ : ByteArray), .int .i64 0, .int .i64 0, .int .i64 0, .slice none 0 0]) ?_ 0 _ rfl; (with_reducible repeat (first | refine blk_drewN ?_ _ | refine blk_drew ?_ | refine blk_alloc ?_ _)); exact BK146.out) hb); have n1_ := Aside0.mk (below_step (by repeat (first | (with_reducible first | exact HB.out | apply below_alloc | apply pw_below_drewN | apply below_drew1 | refine below_set ?_ GE146.out) | exact HB.out)) hb); clear BK146; clear HB; have BK146 := n0_; have HB := n1_; clear n0_ n1_; (try clear hb); (try clear hb2); (try clear hk); (try clear hi); have hcz31_0 : w30.cell? ⟨gb146, 0, none⟩ = some (.string ((rd_T56 l1 x29_2).f0)) := (blk_cell BK146.out 0).trans rfl; have hcz31_1 : w30.cell? ⟨gb146, 1, none⟩ = some (.int .i64 ((rd_T56 l1 x29_2).f1)) := (blk_cell BK146.out 1).trans rfl; have hcz31_2 : w30.cell? ⟨gb146, 2, none⟩ = some (.int .i64 ((rd_T56 l1 x29_2).f2.f0)) := (blk_cell BK146.out 2).trans rfl; have hcz31_3 : w30.cell? ⟨gb146, 3, none⟩ = some (.int .i64 ((rd_T56 l1 x29_2).f2.f1)) := (blk_cell BK146.out 3).trans rfl; have hcz31_4 : w30.cell? ⟨gb146, 4, none⟩ = some (.slice A145_4 ((rd_T56 l1 x29_2).f2.f2).length c145_4) := (blk_cell BK146.out 4).trans rfl; have hfz31_0 := blk_frozen BK146.out 0; have hfz31_1 := blk_frozen BK146.out 1; have hfz31_2 := blk_frozen BK146.out 2; have hfz31_3 := blk_frozen BK146.out 3; have hfz31_4 := blk_frozen BK146.out 4) | (go_at_call 35; (with_reducible refine (virgationref02_Depth.calls k2 ((rd_T56 l1 x29_2).f2.f0) ((rd_T56 l1 x29_2).f2.f1) _ _ ((rd_T56 l1 x29_2).f2.f2) t149 _ ?side1 ?side2 A27.out).mono ?_); (case side1 => repeat (first | exact (Kd.C_below HR145_4.out HB.out) | (with_reducible refine Kd.C_alloc ?_ _) | (with_reducible refine Kd.C_drewN ?_ _) | (with_reducible refine Kd.C_drew ?_))); (case side2 => exact HC145_4.out); rintro e w32 ⟨rfl, hb⟩; have n0_ := Aside0.mk (blk_below (g := gb146) (o := .cells #[.string ((rd_T56 l1 x29_2).f0), .int .i64 ((rd_T56 l1 x29_2).f1), .int .i64 ((rd_T56 l1 x29_2).f2.f0), .int .i64 ((rd_T56 l1 x29_2).f2.f1), .slice A145_4 ((rd_T56 l1 x29_2).f2.f2).length c145_4] 56 (0, 0)) (by (with_reducible repeat (first | refine blk_drewN ?_ _ | refine blk_drew ?_ | refine blk_alloc ?_ _)); exact BK146.out) hb); have n1_ := Aside0.mk (below_step (by repeat (first | (with_reducible first | exact HB.out | apply below_alloc | apply pw_below_drewN | apply below_drew1 | refine below_set ?_ GE146.out) | exact HB.out)) hb); clear BK146; clear HB; have BK146 := n0_; have HB := n1_; clear n0_ n1_; (try clear hb); (try clear hb2); (try clear hk); (try clear hi)))
                                go_meet
                                case rel => exact ⟨_, (true), (by first | rfl | (simp; done) | (simp [*]; done)), H', ⟨by have := HJ4.out; have := HK2.out; first | omega | exact Nat.le_refl _⟩, ⟨by (with_reducible repeat (first | refine blk_drewN ?_ _ | refine blk_drew ?_ | refine blk_alloc ?_ _)); exact BK146.out⟩, ⟨by repeat (first | (with_reducible first | exact HB.out | apply below_alloc | apply pw_below_drewN | apply below_drew1 | refine below_set ?_ GE146.out) | exact HB.out)⟩⟩
                              · rw [if_neg c28] at H
                                have c28b0 : decide (30 < t149) = false := decide_eq_false c28
                                clear c28
                                replace H := Option.bind_eq_some_iff.mp H
                                obtain ⟨t150, A330, H⟩ := H
                                replace H : (virgationref04_Check.j2 k2 l0 l1 x29_2 l1 (l1.length : Int) x29_2 (!t150) ((rd_T56 l1 x29_2).f0) ((rd_T56 l1 x29_2).f1) ((rd_T56 l1 x29_2).f2.f0) ((rd_T56 l1 x29_2).f2.f1) ((rd_T56 l1 x29_2).f2.f2)) = some r := H
                                have A33 := Aside0.mk A330
                                clear A330
                                have H' := Aside0.mk H
                                clear H
                                have hcz34_0 : w15.cell? ⟨gb146, 0, none⟩ = some (.string (⟨#[]⟩ : ByteArray)) := (blk_cell BK146.out 0).trans rfl
                                have hcz34_1 : w15.cell? ⟨gb146, 1, none⟩ = some (.int .i64 0) := (blk_cell BK146.out 1).trans rfl
                                have hcz34_2 : w15.cell? ⟨gb146, 2, none⟩ = some (.int .i64 0) := (blk_cell BK146.out 2).trans rfl
                                have hcz34_3 : w15.cell? ⟨gb146, 3, none⟩ = some (.int .i64 0) := (blk_cell BK146.out 3).trans rfl
                                have hcz34_4 : w15.cell? ⟨gb146, 4, none⟩ = some (.slice none 0 0) := (blk_cell BK146.out 4).trans rfl
                                have hfz34_0 := blk_frozen BK146.out 0
                                have hfz34_1 := blk_frozen BK146.out 1
                                have hfz34_2 := blk_frozen BK146.out 2
                                have hfz34_3 := blk_frozen BK146.out 3
                                have hfz34_4 := blk_frozen BK146.out 4
                                go_wp2_with (first | ((with_reducible refine gate_callee (f := 33) rfl ?_); refine goesL_ (some 36) rfl rfl Try.func33 (by kernel_rfl) rfl #[.string ((rd_T56 l1 x29_2).f0)] rfl (by (try simp only [List.map_toArray, List.map_cons, List.map_nil]); first | done | rfl | (simp only [List.length_drop, List.length_take]; rfl)) ?_; (with_reducible refine (virgationref02_Name.calls k2 ((rd_T56 l1 x29_2).f0) true _ A17.out).mono ?_); rintro e w' ⟨rfl, ⟨nd, rfl⟩⟩; refine ⟨_, rfl, ?_⟩) | (go_at_call 34; (with_reducible refine (virgationref02_Nodes.calls k2 ((rd_T56 l1 x29_2).f2.f0) ((rd_T56 l1 x29_2).f2.f1) _ _ ((rd_T56 l1 x29_2).f2.f2) 400 t148 _ ?side1 ?side2 A23.out).mono ?_); (case side1 => exact Kd.C_below HR145_4.out (by repeat (first | (with_reducible first | exact HB.out | apply below_alloc | apply pw_below_drewN | apply below_drew1 | refine below_set ?_ GE146.out) | exact HB.out))); (case side2 => exact HC145_4.out); rintro e w35 ⟨rfl, hb⟩; have n0_ := Aside0.mk (blk_below (g := gb146) (o := .cells #[.string ((rd_T56 l1 x29_2).f0), .int .i64 ((rd_T56 l1 x29_2).f1), .int .i64 ((rd_T56 l1 x29_2).f2.f0), .int .i64 ((rd_T56 l1 x29_2).f2.f1), .slice A145_4 ((rd_T56 l1 x29_2).f2.f2).length c145_4] 56 (0, 0)) (by (with_reducible repeat (first | refine blk_drewN ?_ _ | refine blk_drew ?_ | refine blk_alloc ?_ _)); refine blk_put (cs := #[.string ((rd_T56 l1 x29_2).f0), .int .i64 ((rd_T56 l1 x29_2).f1), .int .i64 ((rd_T56 l1 x29_2).f2.f0), .int .i64 ((rd_T56 l1 x29_2).f2.f1), .slice none 0 0]) ?_ 4 _ rfl; (with_reducible repeat (first | refine blk_drewN ?_ _ | refine blk_drew ?_ | refine blk_alloc ?_ _)); refine blk_put (cs := #[.string ((rd_T56 l1 x29_2).f0), .int .i64 ((rd_T56 l1 x29_2).f1), .int .i64 ((rd_T56 l1 x29_2).f2.f0), .int .i64 0, .slice none 0 0]) ?_ 3 _ rfl; (with_reducible repeat (first | refine blk_drewN ?_ _ | refine blk_drew ?_ | refine blk_alloc ?_ _)); refine blk_put (cs := #[.string ((rd_T56 l1 x29_2).f0), .int .i64 ((rd_T56 l1 x29_2).f1), .int .i64 0, .int .i64 0, .slice none 0 0]) ?_ 2 _ rfl; (with_reducible repeat (first | refine blk_drewN ?_ _ | refine blk_drew ?_ | refine blk_alloc ?_ _)); refine blk_put (cs := #[.string ((rd_T56 l1 x29_2).f0), .int .i64 0, .int .i64 0, .int .i64 0, .slice none 0 0]) ?_ 1 _ rfl; (with_reducible repeat (first | refine blk_drewN ?_ _ | refine blk_drew ?_ | refine blk_alloc ?_ _)); refine blk_put (cs := #[.string (⟨#[]⟩ : ByteArray), .int .i64 0, .int .i64 0, .int .i64 0, .slice none 0 0]) ?_ 0 _ rfl; (with_reducible repeat (first | refine blk_drewN ?_ _ | refine blk_drew ?_ | refine blk_alloc ?_ _)); exact BK146.out) hb); have n1_ := Aside0.mk (below_step (by repeat (first | (with_reducible first | exact HB.out | apply below_alloc | apply pw_below_drewN | apply below_drew1 | refine below_set ?_ GE146.out) | exact HB.out)) hb); clear BK146; clear HB; have BK146 := n0_; have HB := n1_; clear n0_ n1_; (try clear hb); (try clear hb2); (try clear hk); (try clear hi); have hcz36_0 : w35.cell? ⟨gb146, 0, none⟩ = some (.string ((rd_T56 l1 x29_2).f0)) := (blk_cell BK146.out 0).trans rfl; have hcz36_1 : w35.cell? ⟨gb146, 1, none⟩ = some (.int .i64 ((rd_T56 l1 x29_2).f1)) := (blk_cell BK146.out 1).trans rfl; have hcz36_2 : w35.cell? ⟨gb146, 2, none⟩ = some (.int .i64 ((rd_T56 l1 x29_2).f2.f0)) := (blk_cell BK146.out 2).trans rfl; have hcz36_3 : w35.cell? ⟨gb146, 3, none⟩ = some (.int .i64 ((rd_T56 l1 x29_2).f2.f1)) := (blk_cell BK146.out 3).trans rfl; have hcz36_4 : w35.cell? ⟨gb146, 4, none⟩ = some (.slice A145_4 ((rd_T56 l1 x29_2).f2.f2).length c145_4) := (blk_cell BK146.out 4).trans rfl; have hfz36_0 := blk_frozen BK146.out 0; have hfz36_1 := blk_frozen BK146.out 1; have hfz36_2 := blk_frozen BK146.out 2; have hfz36_3 := blk_frozen BK146.out 3; have hfz36_4 := blk_frozen BK146.out 4) | (go_at_call 35; (with_reducible refine (virgationref02_Depth.calls k2 ((rd_T56 l1 x29_2).f2.f0) ((rd_T56 l1 x29_2).f2.f1) _ _ ((rd_T56 l1 x29_2).f2.f2) t149 _ ?side1 ?side2 A27.out).mono ?_); (case side1 => repeat (first | exact (Kd.C_below HR145_4.out HB.out) | (with_reducible refine Kd.C_alloc ?_ _) | (with_reducible refine Kd.C_drewN ?_ _) | (with_reducible refine Kd.C_drew ?_))); (case side2 => exact HC145_4.out); rintro e w37 ⟨rfl, hb⟩; have n0_ := Aside0.mk (blk_below (g := gb146) (o := .cells #[.string ((rd_T56 l1 x29_2).f0), .int .i64 ((rd_T56 l1 x29_2).f1), .int .i64 ((rd_T56 l1 x29_2).f2.f0), .int .i64 ((rd_T56 l1 x29_2).f2.f1), .slice A145_4 ((rd_T56 l1 x29_2).f2.f2).length c145_4] 56 (0, 0)) (by (with_reducible repeat (first | refine blk_drewN ?_ _ | refine blk_drew ?_ | refine blk_alloc ?_ _)); exact BK146.out) hb); have n1_ := Aside0.mk (below_step (by repeat (first | (with_reducible first | exact HB.out | apply below_alloc | apply pw_below_drewN | apply below_drew1 | refine below_set ?_ GE146.out) | exact HB.out)) hb); clear BK146; clear HB; have BK146 := n0_; have HB := n1_; clear n0_ n1_; (try clear hb); (try clear hb2); (try clear hk); (try clear hi); have hcz38_0 : w37.cell? ⟨gb146, 0, none⟩ = some (.string ((rd_T56 l1 x29_2).f0)) := (blk_cell BK146.out 0).trans rfl; have hcz38_1 : w37.cell? ⟨gb146, 1, none⟩ = some (.int .i64 ((rd_T56 l1 x29_2).f1)) := (blk_cell BK146.out 1).trans rfl; have hcz38_2 : w37.cell? ⟨gb146, 2, none⟩ = some (.int .i64 ((rd_T56 l1 x29_2).f2.f0)) := (blk_cell BK146.out 2).trans rfl; have hcz38_3 : w37.cell? ⟨gb146, 3, none⟩ = some (.int .i64 ((rd_T56 l1 x29_2).f2.f1)) := (blk_cell BK146.out 3).trans rfl; have hcz38_4 : w37.cell? ⟨gb146, 4, none⟩ = some (.slice A145_4 ((rd_T56 l1 x29_2).f2.f2).length c145_4) := (blk_cell BK146.out 4).trans rfl; have hfz38_0 := blk_frozen BK146.out 0; have hfz38_1 := blk_frozen BK146.out 1; have hfz38_2 := blk_frozen BK146.out 2; have hfz38_3 := blk_frozen BK146.out 3; have hfz38_4 := blk_frozen BK146.out 4) | (go_at_call 36; (with_reducible refine (virgationref04_exist.calls k2 ((rd_T56 l1 x29_2).f2.f0) ((rd_T56 l1 x29_2).f2.f1) _ _ ((rd_T56 l1 x29_2).f2.f2) ((rd_T56 l1 x29_2).f1) (l1.length : Int) (l0.length : Int) t150 _ ?side1 ?side2 A33.out).mono ?_); (case side1 => repeat (first | exact (Kd.C_below HR145_4.out HB.out) | (with_reducible refine Kd.C_alloc ?_ _) | (with_reducible refine Kd.C_drewN ?_ _) | (with_reducible refine Kd.C_drew ?_))); (case side2 => exact HC145_4.out); rintro e w39 ⟨rfl, hb⟩; have n0_ := Aside0.mk (blk_below (g := gb146) (o := .cells #[.string ((rd_T56 l1 x29_2).f0), .int .i64 ((rd_T56 l1 x29_2).f1), .int .i64 ((rd_T56 l1 x29_2).f2.f0), .int .i64 ((rd_T56 l1 x29_2).f2.f1), .slice A145_4 ((rd_T56 l1 x29_2).f2.f2).length c145_4] 56 (0, 0)) (by (with_reducible repeat (first | refine blk_drewN ?_ _ | refine blk_drew ?_ | refine blk_alloc ?_ _)); exact BK146.out) hb); have n1_ := Aside0.mk (below_step (by repeat (first | (with_reducible first | exact HB.out | apply below_alloc | apply pw_below_drewN | apply below_drew1 | refine below_set ?_ GE146.out) | exact HB.out)) hb); clear BK146; clear HB; have BK146 := n0_; have HB := n1_; clear n0_ n1_; (try clear hb); (try clear hb2); (try clear hk); (try clear hi)))
                                go_meet
                                case rel => exact ⟨_, (!t150), (by first | rfl | (simp; done) | (simp [*]; done)), H', ⟨by have := HJ4.out; have := HK2.out; first | omega | exact Nat.le_refl _⟩, ⟨by (with_reducible repeat (first | refine blk_drewN ?_ _ | refine blk_drew ?_ | refine blk_alloc ?_ _)); exact BK146.out⟩, ⟨by repeat (first | (with_reducible first | exact HB.out | apply below_alloc | apply pw_below_drewN | apply below_drew1 | refine below_set ?_ GE146.out) | exact HB.out)⟩⟩
                      · replace c18 := Bool.eq_false_iff.mpr c18
                        subst c18
                        have H1 : (virgationref04_Check.j2 k2 l0 l1 x29_2 l1 (l1.length : Int) x29_2 true ((rd_T56 l1 x29_2).f0) ((rd_T56 l1 x29_2).f1) ((rd_T56 l1 x29_2).f2.f0) ((rd_T56 l1 x29_2).f2.f1) ((rd_T56 l1 x29_2).f2.f2)) = some r := by rw [if_neg (show ¬ (false = true) by decide)] at H; exact H
                        clear H
                        have H := H1
                        clear H1
                        have H' := Aside0.mk H
                        clear H
                        have hcz40_0 : w15.cell? ⟨gb146, 0, none⟩ = some (.string (⟨#[]⟩ : ByteArray)) := (blk_cell BK146.out 0).trans rfl
                        have hcz40_1 : w15.cell? ⟨gb146, 1, none⟩ = some (.int .i64 0) := (blk_cell BK146.out 1).trans rfl
                        have hcz40_2 : w15.cell? ⟨gb146, 2, none⟩ = some (.int .i64 0) := (blk_cell BK146.out 2).trans rfl
                        have hcz40_3 : w15.cell? ⟨gb146, 3, none⟩ = some (.int .i64 0) := (blk_cell BK146.out 3).trans rfl
                        have hcz40_4 : w15.cell? ⟨gb146, 4, none⟩ = some (.slice none 0 0) := (blk_cell BK146.out 4).trans rfl
                        have hfz40_0 := blk_frozen BK146.out 0
                        have hfz40_1 := blk_frozen BK146.out 1
                        have hfz40_2 := blk_frozen BK146.out 2
                        have hfz40_3 := blk_frozen BK146.out 3
                        have hfz40_4 := blk_frozen BK146.out 4
                        go_wp2_with (first | ((with_reducible refine gate_callee (f := 33) rfl ?_); refine goesL_ (some 36) rfl rfl Try.func33 (by kernel_rfl) rfl #[.string ((rd_T56 l1 x29_2).f0)] rfl (by (try simp only [List.map_toArray, List.map_cons, List.map_nil]); first | done | rfl | (simp only [List.length_drop, List.length_take]; rfl)) ?_; (with_reducible refine (virgationref02_Name.calls k2 ((rd_T56 l1 x29_2).f0) false _ A17.out).mono ?_); rintro e w' ⟨rfl, ⟨nd, rfl⟩⟩; refine ⟨_, rfl, ?_⟩))
                        go_meet
                        case rel => exact ⟨_, (true), (by first | rfl | (simp; done) | (simp [*]; done)), H', ⟨by have := HJ4.out; have := HK2.out; first | omega | exact Nat.le_refl _⟩, ⟨by (with_reducible repeat (first | refine blk_drewN ?_ _ | refine blk_drew ?_ | refine blk_alloc ?_ _)); refine blk_put (cs := #[.string ((rd_T56 l1 x29_2).f0), .int .i64 ((rd_T56 l1 x29_2).f1), .int .i64 ((rd_T56 l1 x29_2).f2.f0), .int .i64 ((rd_T56 l1 x29_2).f2.f1), .slice none 0 0]) ?_ 4 _ rfl; (with_reducible repeat (first | refine blk_drewN ?_ _ | refine blk_drew ?_ | refine blk_alloc ?_ _)); refine blk_put (cs := #[.string ((rd_T56 l1 x29_2).f0), .int .i64 ((rd_T56 l1 x29_2).f1), .int .i64 ((rd_T56 l1 x29_2).f2.f0), .int .i64 0, .slice none 0 0]) ?_ 3 _ rfl; (with_reducible repeat (first | refine blk_drewN ?_ _ | refine blk_drew ?_ | refine blk_alloc ?_ _)); refine blk_put (cs := #[.string ((rd_T56 l1 x29_2).f0), .int .i64 ((rd_T56 l1 x29_2).f1), .int .i64 0, .int .i64 0, .slice none 0 0]) ?_ 2 _ rfl; (with_reducible repeat (first | refine blk_drewN ?_ _ | refine blk_drew ?_ | refine blk_alloc ?_ _)); refine blk_put (cs := #[.string ((rd_T56 l1 x29_2).f0), .int .i64 0, .int .i64 0, .int .i64 0, .slice none 0 0]) ?_ 1 _ rfl; (with_reducible repeat (first | refine blk_drewN ?_ _ | refine blk_drew ?_ | refine blk_alloc ?_ _)); refine blk_put (cs := #[.string (⟨#[]⟩ : ByteArray), .int .i64 0, .int .i64 0, .int .i64 0, .slice none 0 0]) ?_ 0 _ rfl; (with_reducible repeat (first | refine blk_drewN ?_ _ | refine blk_drew ?_ | refine blk_alloc ?_ _)); exact BK146.out⟩, ⟨by repeat (first | (with_reducible first | exact HB.out | apply below_alloc | apply pw_below_drewN | apply below_drew1 | refine below_set ?_ GE146.out) | exact HB.out)⟩⟩
                    case rest =>
                      clear HC14
                      try clear c1
                      try clear p1
                      try clear q1
                      try clear hx1
                      try clear qi1
                      try clear c2
                      try clear p2
                      try clear c3
                      try clear c4
                      try clear c7
                      try clear c7b0
                      try clear c7b1
                      try clear c8
                      try clear c8b0
                      try clear c8b1
                      try clear c9
                      try clear c9b0
                      try clear c9b1
                      try clear c10
                      try clear c11
                      try clear c11b0
                      try clear c12
                      try clear c12b0
                      try clear c13
                      try clear c13b0
                      try clear c14
                      try clear p14
                      try clear q14
                      try clear hx14
                      try clear qi14
                      try clear c18
                      try clear c19
                      try clear c19b0
                      try clear c21
                      try clear c21b0
                      try clear c24
                      try clear c24b0
                      try clear c28
                      try clear c28b0
                      try clear c32
                      try clear c33
                      try clear hcz16_0
                      try clear hcz16_1
                      try clear hcz16_2
                      try clear hcz16_3
                      try clear hcz16_4
                      try clear hcz20_0
                      try clear hcz20_1
                      try clear hcz20_2
                      try clear hcz20_3
                      try clear hcz20_4
                      try clear hcz22_0
                      try clear hcz22_1
                      try clear hcz22_2
                      try clear hcz22_3
                      try clear hcz22_4
                      try clear hcz25_0
                      try clear hcz25_1
                      try clear hcz25_2
                      try clear hcz25_3
                      try clear hcz25_4
                      try clear hcz29_0
                      try clear hcz29_1
                      try clear hcz29_2
                      try clear hcz29_3
                      try clear hcz29_4
                      try clear hcz31_0
                      try clear hcz31_1
                      try clear hcz31_2
                      try clear hcz31_3
                      try clear hcz31_4
                      try clear hcz34_0
                      try clear hcz34_1
                      try clear hcz34_2
                      try clear hcz34_3
                      try clear hcz34_4
                      try clear hcz36_0
                      try clear hcz36_1
                      try clear hcz36_2
                      try clear hcz36_3
                      try clear hcz36_4
                      try clear hcz38_0
                      try clear hcz38_1
                      try clear hcz38_2
                      try clear hcz38_3
                      try clear hcz38_4
                      try clear hcz40_0
                      try clear hcz40_1
                      try clear hcz40_2
                      try clear hcz40_3
                      try clear hcz40_4
                      try clear hfz16_0
                      try clear hfz16_1
                      try clear hfz16_2
                      try clear hfz16_3
                      try clear hfz16_4
                      try clear hfz20_0
                      try clear hfz20_1
                      try clear hfz20_2
                      try clear hfz20_3
                      try clear hfz20_4
                      try clear hfz22_0
                      try clear hfz22_1
                      try clear hfz22_2
                      try clear hfz22_3
                      try clear hfz22_4
                      try clear hfz25_0
                      try clear hfz25_1
                      try clear hfz25_2
                      try clear hfz25_3
                      try clear hfz25_4
                      try clear hfz29_0
                      try clear hfz29_1
                      try clear hfz29_2
                      try clear hfz29_3
                      try clear hfz29_4
                      try clear hfz31_0
                      try clear hfz31_1
                      try clear hfz31_2
                      try clear hfz31_3
                      try clear hfz31_4
                      try clear hfz34_0
                      try clear hfz34_1
                      try clear hfz34_2
                      try clear hfz34_3
                      try clear hfz34_4
                      try clear hfz36_0
                      try clear hfz36_1
                      try clear hfz36_2
                      try clear hfz36_3
                      try clear hfz36_4
                      try clear hfz38_0
                      try clear hfz38_1
                      try clear hfz38_2
                      try clear hfz38_3
                      try clear hfz38_4
                      try clear hfz40_0
                      try clear hfz40_1
                      try clear hfz40_2
                      try clear hfz40_3
                      try clear hfz40_4
                      try clear hx144_0
                      try clear hx144_1
                      try clear hx144_2
                      try clear hx144_3
                      try clear hx144_4
                      try clear hx145_0
                      try clear hx145_1
                      try clear hx145_2
                      try clear hx145_3
                      try clear hx145_4
                      try clear p1
                      try clear p144
                      try clear p145
                      try clear p2
                      try clear q1
                      try clear q144
                      try clear q145
                      obtain ⟨kq, x71_13, rfl, HA, HJ13, BK146, HB⟩ := hcut
                      cases kq with
                      | zero => exact absurd HA.out (by simp [virgationref04_Check.j2])
                      | succ kj13 =>
                        have H := HA.out
                        clear HA
                        simp only [virgationref04_Check.j2] at H
                        by_cases c41 : x71_13 = true
                        · subst c41
                          have H1 : (some 4) = some r := by rw [if_pos rfl] at H; exact H
                          clear H
                          have H := H1
                          clear H1
                          obtain rfl := Option.some.inj H
                          go_wp2
                          go_ret
                          exact ⟨by first | rfl | (simp [errW_none, errW_some] <;> rfl) | (simp [*, errW_none, errW_some] <;> rfl), by repeat (first | (with_reducible first | exact HB.out | apply below_alloc | apply pw_below_drewN | apply below_drew1 | refine below_set ?_ GE146.out) | exact HB.out)⟩
                        · replace c41 := Bool.eq_false_iff.mpr c41
                          subst c41
                          have H1 : (if 0 ≤ x29_2 then (if x29_2 ≤ (l1.length : Int) then ((some (l1.take (x29_2 : Int).toNat : List (S56))).bind fun y151 => (virgationref04_Check.l1 kj13 l0 l1 l1 (l1.length : Int) x29_2 y151 (y151.length : Int) 0 ((rd_T56 l1 x29_2).f0) ((rd_T56 l1 x29_2).f1) ((rd_T56 l1 x29_2).f2.f0) ((rd_T56 l1 x29_2).f2.f1) ((rd_T56 l1 x29_2).f2.f2))) else (none)) else (none)) = some r := by rw [if_neg (show ¬ (false = true) by decide)] at H; exact H
                          clear H
                          have H := H1
                          clear H1
                          by_cases c42 : 0 ≤ x29_2
                          · rw [if_pos c42] at H
                            have c42b0 := eq_true c42
                            have c42b1 : decide (0 ≤ x29_2) = true := decide_eq_true c42
                            clear c42
                            by_cases c43 : x29_2 ≤ (l1.length : Int)
                            · rw [if_pos c43] at H
                              have c43b0 := eq_true c43
                              have c43b1 : decide (x29_2 ≤ (l1.length : Int)) = true := decide_eq_true c43
                              clear c43
                              obtain ⟨y151, hy151⟩ : ∃ y_ : List (S56), y_ = (l1.take (x29_2 : Int).toNat) := ⟨_, rfl⟩
                              replace H : (virgationref04_Check.l1 kj13 l0 l1 l1 (l1.length : Int) x29_2 y151 (y151.length : Int) 0 ((rd_T56 l1 x29_2).f0) ((rd_T56 l1 x29_2).f1) ((rd_T56 l1 x29_2).f2.f0) ((rd_T56 l1 x29_2).f2.f1) ((rd_T56 l1 x29_2).f2.f2)) = some r := by first | (rw [hy151]; with_reducible exact H) | (have H2_ := (Option.bind_some _ _).symm.trans H; rw [hy151]; with_reducible exact H2_) | (have H2_ := (Option.bind_some _ _).symm.trans H; with_reducible exact H2_) | with_reducible exact H | (rw [hy151]; exact H) | exact H
                              have Ny151 := Aside0.mk hy151
                              clear hy151
                              have H' := Aside0.mk H
                              clear H
                              have q44 : (x29_2 : Int) ≤ ((l1.length : Int) : Int) := of_decide_eq_true (by first | (with_reducible assumption) | assumption)
                              obtain ⟨i044, hi044, _, hsz44, _⟩ := info_parts info56
                              have hroom44 : l1.length ≤ c1 := HC1.out
                              have hC44 : Kd.C k56 _ (some ad145) l1.length l1 := HR1.out
                              have hcut44 := cut_to (P := Try.prog) 23 56 .i64 Try.underlying23 hi044 (some ad145) l1.length c1 x29_2 (of_decide_eq_true (by first | (with_reducible assumption) | assumption)) q44 hroom44
                              have hr44 := Kd.C_take (m := (x29_2 : Int).toNat) hC44 (by omega)
                              have hy44 : y151.length = (x29_2 : Int).toNat := (by rw [Ny151.out, List.length_take]; omega)
                              rw [← Ny151.out] at hr44
                              rw [← hy44] at hcut44
                              have HR154 := Aside0.mk hr44
                              have HC154 := Aside0.mk (show y151.length ≤ c1 from by omega)
                              clear hr44 hC44 hroom44 hi044 hsz44
                              have KY44 := Aside0.mk hy44
                              clear hy44
                              replace q44 := eq_true q44
                              go_wp2
                              go_loopg [76] kj13 (fun kq v76 w' => ∃ (x76_4 : Int), v76 = .int .i64 x76_4 ∧ Aside0 (virgationref04_Check.l1 kq l0 l1 l1 (l1.length : Int) x29_2 y151 (y151.length : Int) x76_4 ((rd_T56 l1 x29_2).f0) ((rd_T56 l1 x29_2).f1) ((rd_T56 l1 x29_2).f2.f0) ((rd_T56 l1 x29_2).f2.f1) ((rd_T56 l1 x29_2).f2.f2) = some r) ∧ Aside0 (kq ≤ kj13) ∧ Aside0 (w'.heap[gb146]? = some (.cells #[.string ((rd_T56 l1 x29_2).f0), .int .i64 ((rd_T56 l1 x29_2).f1), .int .i64 ((rd_T56 l1 x29_2).f2.f0), .int .i64 ((rd_T56 l1 x29_2).f2.f1), (.slice A145_4 ((rd_T56 l1 x29_2).f2.f2).length c145_4)] 56 (0, 0))) ∧ Aside0 (Below w.heap.size w w'))
                              case atStart => exact ⟨(0), (by first | rfl | (simp; done) | (simp [*]; done)), H', ⟨Nat.le_refl _⟩, ⟨by (with_reducible repeat (first | refine blk_drewN ?_ _ | refine blk_drew ?_ | refine blk_alloc ?_ _)); exact BK146.out⟩, ⟨by repeat (first | (with_reducible first | exact HB.out | apply below_alloc | apply pw_below_drewN | apply below_drew1 | refine below_set ?_ GE146.out) | exact HB.out)⟩⟩
                              case round =>
                                clear H'
                                try clear c1
                                try clear p1
                                try clear q1
                                try clear hx1
                                try clear qi1
                                try clear c2
                                try clear p2
                                try clear c3
                                try clear c4
                                try clear q4
                                try clear c7
                                try clear c7b0
                                try clear c7b1
                                try clear c8
                                try clear c8b0
                                try clear c8b1
                                try clear c9
                                try clear c9b0
                                try clear c9b1
                                try clear c10
                                try clear c11
                                try clear c11b0
                                try clear c12
                                try clear c12b0
                                try clear c13
                                try clear c13b0
                                try clear c14
                                try clear p14
                                try clear q14
                                try clear hx14
                                try clear qi14
                                try clear c18
                                try clear c19
                                try clear c19b0
                                try clear c21
                                try clear c21b0
                                try clear c24
                                try clear c24b0
                                try clear c28
                                try clear c28b0
                                try clear c32
                                try clear c33
                                try clear c41
                                try clear c42
                                try clear c42b0
                                try clear c42b1
                                try clear c43
                                try clear c43b0
                                try clear c43b1
                                try clear q44
                                try clear hcz16_0
                                try clear hcz16_1
                                try clear hcz16_2
                                try clear hcz16_3
                                try clear hcz16_4
                                try clear hcz20_0
                                try clear hcz20_1
                                try clear hcz20_2
                                try clear hcz20_3
                                try clear hcz20_4
                                try clear hcz22_0
                                try clear hcz22_1
                                try clear hcz22_2
                                try clear hcz22_3
                                try clear hcz22_4
                                try clear hcz25_0
                                try clear hcz25_1
                                try clear hcz25_2
                                try clear hcz25_3
                                try clear hcz25_4
                                try clear hcz29_0
                                try clear hcz29_1
                                try clear hcz29_2
                                try clear hcz29_3
                                try clear hcz29_4
                                try clear hcz31_0
                                try clear hcz31_1
                                try clear hcz31_2
                                try clear hcz31_3
                                try clear hcz31_4
                                try clear hcz34_0
                                try clear hcz34_1
                                try clear hcz34_2
                                try clear hcz34_3
                                try clear hcz34_4
                                try clear hcz36_0
                                try clear hcz36_1
                                try clear hcz36_2
                                try clear hcz36_3
                                try clear hcz36_4
                                try clear hcz38_0
                                try clear hcz38_1
                                try clear hcz38_2
                                try clear hcz38_3
                                try clear hcz38_4
                                try clear hcz40_0
                                try clear hcz40_1
                                try clear hcz40_2
                                try clear hcz40_3
                                try clear hcz40_4
                                try clear hfz16_0
                                try clear hfz16_1
                                try clear hfz16_2
                                try clear hfz16_3
                                try clear hfz16_4
                                try clear hfz20_0
                                try clear hfz20_1
                                try clear hfz20_2
                                try clear hfz20_3
                                try clear hfz20_4
                                try clear hfz22_0
                                try clear hfz22_1
                                try clear hfz22_2
                                try clear hfz22_3
                                try clear hfz22_4
                                try clear hfz25_0
                                try clear hfz25_1
                                try clear hfz25_2
                                try clear hfz25_3
                                try clear hfz25_4
                                try clear hfz29_0
                                try clear hfz29_1
                                try clear hfz29_2
                                try clear hfz29_3
                                try clear hfz29_4
                                try clear hfz31_0
                                try clear hfz31_1
                                try clear hfz31_2
                                try clear hfz31_3
                                try clear hfz31_4
                                try clear hfz34_0
                                try clear hfz34_1
                                try clear hfz34_2
                                try clear hfz34_3
                                try clear hfz34_4
                                try clear hfz36_0
                                try clear hfz36_1
                                try clear hfz36_2
                                try clear hfz36_3
                                try clear hfz36_4
                                try clear hfz38_0
                                try clear hfz38_1
                                try clear hfz38_2
                                try clear hfz38_3
                                try clear hfz38_4
                                try clear hfz40_0
                                try clear hfz40_1
                                try clear hfz40_2
                                try clear hfz40_3
                                try clear hfz40_4
                                try clear hx144_0
                                try clear hx144_1
                                try clear hx144_2
                                try clear hx144_3
                                try clear hx144_4
                                try clear hx145_0
                                try clear hx145_1
                                try clear hx145_2
                                try clear hx145_3
                                try clear hx145_4
                                try clear p1
                                try clear p14
                                try clear p144
                                try clear p145
                                try clear p2
                                try clear q1
                                try clear q14
                                try clear q144
                                try clear q145
                                try clear q44
                                obtain ⟨x76_4, rfl, HA, HK4, BK146, HB⟩ := hrel
                                cases gk with
                                | zero => exact absurd HA.out (by simp [virgationref04_Check.l1])
                                | succ k4 =>
                                  have H := HA.out
                                  clear HA
                                  simp only [virgationref04_Check.l1] at H
                                  by_cases c45 : x76_4 < (y151.length : Int)
                                  · rw [if_pos c45] at H
                                    have c45b0 : decide (x76_4 < (y151.length : Int)) = true := decide_eq_true c45
                                    clear c45
                                    by_cases c46 : 0 ≤ x76_4
                                    · rw [if_pos c46] at H
                                      have c46b0 : decide (0 ≤ x76_4) = true := decide_eq_true c46
                                      clear c46
                                      by_cases c47 : x76_4 < (y151.length : Int)
                                      · rw [if_pos c47] at H
                                        have c47b0 : decide (x76_4 < (y151.length : Int)) = true := decide_eq_true c47
                                        clear c47
                                        by_cases c48 : ((rd_T56 l1 x29_2).f0).toList = ((rd_T56 y151 x76_4).f0).toList
                                        · rw [if_pos c48] at H
                                          have c48b0 : (((rd_T56 l1 x29_2).f0).toList == ((rd_T56 y151 x76_4).f0).toList) = true := beq_iff_eq.mpr c48
                                          have c48b1 : (((rd_T56 l1 x29_2).f0).toList != ((rd_T56 y151 x76_4).f0).toList) = false := bne_eq_false_iff_eq.mpr c48
                                          clear c48
                                          obtain rfl := Option.some.inj H
                                          have p155 : 0 ≤ (x76_4 : Int) := of_decide_eq_true (by first | (with_reducible assumption) | assumption)
                                          have q155 : x76_4 < (y151.length : Int) := of_decide_eq_true (by first | (with_reducible assumption) | assumption)
                                          obtain ⟨ad155, A155_4, c155_4, e155, hx155_0, hx155_1, hx155_2, hx155_3, hx155_4, hl155_4, hi155_4⟩ := at_T56 HR154.out x76_4 p155 q155
                                          obtain rfl : ad145 = ad155 := (by injection e155)
                                          replace hx155_0 := (HB.out.cell (World.block_lt_of_cell? w _ hx155_0)).trans hx155_0
                                          replace hx155_1 := (HB.out.cell (World.block_lt_of_cell? w _ hx155_1)).trans hx155_1
                                          replace hx155_2 := (HB.out.cell (World.block_lt_of_cell? w _ hx155_2)).trans hx155_2
                                          replace hx155_3 := (HB.out.cell (World.block_lt_of_cell? w _ hx155_3)).trans hx155_3
                                          replace hx155_4 := (HB.out.cell (World.block_lt_of_cell? w _ hx155_4)).trans hx155_4
                                          have HR155_4 := Aside0.mk hi155_4
                                          have HC155_4 := Aside0.mk hl155_4
                                          clear hi155_4 hl155_4
                                          replace p155 := eq_true p155
                                          replace q155 := eq_true q155
                                          go_wp2_with (first | ((with_reducible refine gate_dst (N := 8) rfl ?_); (try (refine gate_guard (by rfl) ?_; dsimp only)); refine box_event ?hg (N := 8) ?hd (cs := #[.string (⟨#[]⟩ : ByteArray), .int .i64 0, .int .i64 0, .int .i64 0, .slice none 0 0]) (t := 56) ?hr ?_; (case hd => rfl); (case hg => rfl); (case hr => first | (go_simp; done) | (go_simp; rfl)); intro gb156 hg w49 hbox hb; have n0_ := Aside0.mk (blk_below (g := gb146) (o := .cells #[.string ((rd_T56 l1 x29_2).f0), .int .i64 ((rd_T56 l1 x29_2).f1), .int .i64 ((rd_T56 l1 x29_2).f2.f0), .int .i64 ((rd_T56 l1 x29_2).f2.f1), .slice A145_4 ((rd_T56 l1 x29_2).f2.f2).length c145_4] 56 (0, 0)) (by (with_reducible repeat (first | refine blk_drewN ?_ _ | refine blk_drew ?_ | refine blk_alloc ?_ _)); exact BK146.out) hb); have n1_ := Aside0.mk (below_step (by repeat (first | (with_reducible first | exact HB.out | apply below_alloc | apply pw_below_drewN | apply below_drew1 | refine below_set ?_ GE146.out) | exact HB.out)) hb); have n2_ := Aside0.mk (hbox); have n3_ := Aside0.mk ((by rw [hg]; exact (below_size (by repeat (first | (with_reducible first | exact HB.out | apply below_alloc | apply pw_below_drewN | apply below_drew1 | refine below_set ?_ GE146.out) | exact HB.out))) : w.heap.size ≤ gb156)); have n4_ := Aside0.mk ((by rw [hg]; exact (below_size (by repeat (first | (with_reducible first | exact HB.out | apply below_alloc | apply pw_below_drewN | apply below_drew1 | refine below_set ?_ GE146.out) | exact HB.out))) : w.heap.size ≤ gb156)); have n5_ := Aside0.mk ((by rw [hg]; exact Nat.ne_of_lt (blk_lt (g := gb146) (o := .cells #[.string ((rd_T56 l1 x29_2).f0), .int .i64 ((rd_T56 l1 x29_2).f1), .int .i64 ((rd_T56 l1 x29_2).f2.f0), .int .i64 ((rd_T56 l1 x29_2).f2.f1), .slice A145_4 ((rd_T56 l1 x29_2).f2.f2).length c145_4] 56 (0, 0)) (by (with_reducible repeat (first | refine blk_drewN ?_ _ | refine blk_drew ?_ | refine blk_alloc ?_ _)); exact BK146.out)) : gb146 ≠ gb156)); have n6_ := Aside0.mk ((by rw [hg]; exact Nat.ne_of_gt (blk_lt (g := gb146) (o := .cells #[.string ((rd_T56 l1 x29_2).f0), .int .i64 ((rd_T56 l1 x29_2).f1), .int .i64 ((rd_T56 l1 x29_2).f2.f0), .int .i64 ((rd_T56 l1 x29_2).f2.f1), .slice A145_4 ((rd_T56 l1 x29_2).f2.f2).length c145_4] 56 (0, 0)) (by (with_reducible repeat (first | refine blk_drewN ?_ _ | refine blk_drew ?_ | refine blk_alloc ?_ _)); exact BK146.out)) : gb156 ≠ gb146)); clear BK146; clear HB; have BK146 := n0_; have HB := n1_; have BK156 := n2_; have GW156 := n3_; have GE156 := n4_; have NB146_156 := n5_; have NB156_146 := n6_; clear n0_ n1_ n2_ n3_ n4_ n5_ n6_; clear hb hbox hg; have hnb50 := NB156_146.out; have hnc50 := NB146_156.out; have hcz51_0 : w49.cell? ⟨gb156, 0, none⟩ = some (.string (⟨#[]⟩ : ByteArray)) := (blk_cell BK156.out 0).trans rfl; have hcz51_1 : w49.cell? ⟨gb156, 1, none⟩ = some (.int .i64 0) := (blk_cell BK156.out 1).trans rfl; have hcz51_2 : w49.cell? ⟨gb156, 2, none⟩ = some (.int .i64 0) := (blk_cell BK156.out 2).trans rfl; have hcz51_3 : w49.cell? ⟨gb156, 3, none⟩ = some (.int .i64 0) := (blk_cell BK156.out 3).trans rfl; have hcz51_4 : w49.cell? ⟨gb156, 4, none⟩ = some (.slice none 0 0) := (blk_cell BK156.out 4).trans rfl; have hfz51_0 := blk_frozen BK156.out 0; have hfz51_1 := blk_frozen BK156.out 1; have hfz51_2 := blk_frozen BK156.out 2; have hfz51_3 := blk_frozen BK156.out 3; have hfz51_4 := blk_frozen BK156.out 4; have hcz52_0 : w49.cell? ⟨gb146, 0, none⟩ = some (.string ((rd_T56 l1 x29_2).f0)) := (blk_cell BK146.out 0).trans rfl; have hcz52_1 : w49.cell? ⟨gb146, 1, none⟩ = some (.int .i64 ((rd_T56 l1 x29_2).f1)) := (blk_cell BK146.out 1).trans rfl; have hcz52_2 : w49.cell? ⟨gb146, 2, none⟩ = some (.int .i64 ((rd_T56 l1 x29_2).f2.f0)) := (blk_cell BK146.out 2).trans rfl; have hcz52_3 : w49.cell? ⟨gb146, 3, none⟩ = some (.int .i64 ((rd_T56 l1 x29_2).f2.f1)) := (blk_cell BK146.out 3).trans rfl; have hcz52_4 : w49.cell? ⟨gb146, 4, none⟩ = some (.slice A145_4 ((rd_T56 l1 x29_2).f2.f2).length c145_4) := (blk_cell BK146.out 4).trans rfl; have hfz52_0 := blk_frozen BK146.out 0; have hfz52_1 := blk_frozen BK146.out 1; have hfz52_2 := blk_frozen BK146.out 2; have hfz52_3 := blk_frozen BK146.out 3; have hfz52_4 := blk_frozen BK146.out 4))
                                          go_ret
                                          exact ⟨by first | rfl | (simp [errW_none, errW_some] <;> rfl) | (simp [*, errW_none, errW_some] <;> rfl), by repeat (first | (with_reducible first | exact HB.out | apply below_alloc | apply pw_below_drewN | apply below_drew1 | refine below_set ?_ GE146.out | refine below_set ?_ GE156.out) | exact HB.out)⟩
                                        · rw [if_neg c48] at H
                                          have c48b0 : (((rd_T56 l1 x29_2).f0).toList == ((rd_T56 y151 x76_4).f0).toList) = false := beq_eq_false_iff_ne.mpr c48
                                          have c48b1 : (((rd_T56 l1 x29_2).f0).toList != ((rd_T56 y151 x76_4).f0).toList) = true := bne_iff_ne.mpr c48
                                          have H' := Aside0.mk H
                                          clear H
                                          have p155 : 0 ≤ (x76_4 : Int) := of_decide_eq_true (by first | (with_reducible assumption) | assumption)
                                          have q155 : x76_4 < (y151.length : Int) := of_decide_eq_true (by first | (with_reducible assumption) | assumption)
                                          obtain ⟨ad155, A155_4, c155_4, e155, hx155_0, hx155_1, hx155_2, hx155_3, hx155_4, hl155_4, hi155_4⟩ := at_T56 HR154.out x76_4 p155 q155
                                          obtain rfl : ad145 = ad155 := (by injection e155)
                                          replace hx155_0 := (HB.out.cell (World.block_lt_of_cell? w _ hx155_0)).trans hx155_0
                                          replace hx155_1 := (HB.out.cell (World.block_lt_of_cell? w _ hx155_1)).trans hx155_1
                                          replace hx155_2 := (HB.out.cell (World.block_lt_of_cell? w _ hx155_2)).trans hx155_2
                                          replace hx155_3 := (HB.out.cell (World.block_lt_of_cell? w _ hx155_3)).trans hx155_3
                                          replace hx155_4 := (HB.out.cell (World.block_lt_of_cell? w _ hx155_4)).trans hx155_4
                                          have HR155_4 := Aside0.mk hi155_4
                                          have HC155_4 := Aside0.mk hl155_4
                                          clear hi155_4 hl155_4
                                          replace p155 := eq_true p155
                                          replace q155 := eq_true q155
                                          go_wp2_with (first | ((with_reducible refine gate_dst (N := 8) rfl ?_); (try (refine gate_guard (by rfl) ?_; dsimp only)); refine box_event ?hg (N := 8) ?hd (cs := #[.string (⟨#[]⟩ : ByteArray), .int .i64 0, .int .i64 0, .int .i64 0, .slice none 0 0]) (t := 56) ?hr ?_; (case hd => rfl); (case hg => rfl); (case hr => first | (go_simp; done) | (go_simp; rfl)); intro gb156 hg w53 hbox hb; have n0_ := Aside0.mk (blk_below (g := gb146) (o := .cells #[.string ((rd_T56 l1 x29_2).f0), .int .i64 ((rd_T56 l1 x29_2).f1), .int .i64 ((rd_T56 l1 x29_2).f2.f0), .int .i64 ((rd_T56 l1 x29_2).f2.f1), .slice A145_4 ((rd_T56 l1 x29_2).f2.f2).length c145_4] 56 (0, 0)) (by (with_reducible repeat (first | refine blk_drewN ?_ _ | refine blk_drew ?_ | refine blk_alloc ?_ _)); exact BK146.out) hb); have n1_ := Aside0.mk (below_step (by repeat (first | (with_reducible first | exact HB.out | apply below_alloc | apply pw_below_drewN | apply below_drew1 | refine below_set ?_ GE146.out) | exact HB.out)) hb); have n2_ := Aside0.mk (hbox); have n3_ := Aside0.mk ((by rw [hg]; exact (below_size (by repeat (first | (with_reducible first | exact HB.out | apply below_alloc | apply pw_below_drewN | apply below_drew1 | refine below_set ?_ GE146.out) | exact HB.out))) : w.heap.size ≤ gb156)); have n4_ := Aside0.mk ((by rw [hg]; exact (below_size (by repeat (first | (with_reducible first | exact HB.out | apply below_alloc | apply pw_below_drewN | apply below_drew1 | refine below_set ?_ GE146.out) | exact HB.out))) : w.heap.size ≤ gb156)); have n5_ := Aside0.mk ((by rw [hg]; exact Nat.ne_of_lt (blk_lt (g := gb146) (o := .cells #[.string ((rd_T56 l1 x29_2).f0), .int .i64 ((rd_T56 l1 x29_2).f1), .int .i64 ((rd_T56 l1 x29_2).f2.f0), .int .i64 ((rd_T56 l1 x29_2).f2.f1), .slice A145_4 ((rd_T56 l1 x29_2).f2.f2).length c145_4] 56 (0, 0)) (by (with_reducible repeat (first | refine blk_drewN ?_ _ | refine blk_drew ?_ | refine blk_alloc ?_ _)); exact BK146.out)) : gb146 ≠ gb156)); have n6_ := Aside0.mk ((by rw [hg]; exact Nat.ne_of_gt (blk_lt (g := gb146) (o := .cells #[.string ((rd_T56 l1 x29_2).f0), .int .i64 ((rd_T56 l1 x29_2).f1), .int .i64 ((rd_T56 l1 x29_2).f2.f0), .int .i64 ((rd_T56 l1 x29_2).f2.f1), .slice A145_4 ((rd_T56 l1 x29_2).f2.f2).length c145_4] 56 (0, 0)) (by (with_reducible repeat (first | refine blk_drewN ?_ _ | refine blk_drew ?_ | refine blk_alloc ?_ _)); exact BK146.out)) : gb156 ≠ gb146)); clear BK146; clear HB; have BK146 := n0_; have HB := n1_; have BK156 := n2_; have GW156 := n3_; have GE156 := n4_; have NB146_156 := n5_; have NB156_146 := n6_; clear n0_ n1_ n2_ n3_ n4_ n5_ n6_; clear hb hbox hg; have hnb54 := NB156_146.out; have hnc54 := NB146_156.out; have hcz55_0 : w53.cell? ⟨gb156, 0, none⟩ = some (.string (⟨#[]⟩ : ByteArray)) := (blk_cell BK156.out 0).trans rfl; have hcz55_1 : w53.cell? ⟨gb156, 1, none⟩ = some (.int .i64 0) := (blk_cell BK156.out 1).trans rfl; have hcz55_2 : w53.cell? ⟨gb156, 2, none⟩ = some (.int .i64 0) := (blk_cell BK156.out 2).trans rfl; have hcz55_3 : w53.cell? ⟨gb156, 3, none⟩ = some (.int .i64 0) := (blk_cell BK156.out 3).trans rfl; have hcz55_4 : w53.cell? ⟨gb156, 4, none⟩ = some (.slice none 0 0) := (blk_cell BK156.out 4).trans rfl; have hfz55_0 := blk_frozen BK156.out 0; have hfz55_1 := blk_frozen BK156.out 1; have hfz55_2 := blk_frozen BK156.out 2; have hfz55_3 := blk_frozen BK156.out 3; have hfz55_4 := blk_frozen BK156.out 4; have hcz56_0 : w53.cell? ⟨gb146, 0, none⟩ = some (.string ((rd_T56 l1 x29_2).f0)) := (blk_cell BK146.out 0).trans rfl; have hcz56_1 : w53.cell? ⟨gb146, 1, none⟩ = some (.int .i64 ((rd_T56 l1 x29_2).f1)) := (blk_cell BK146.out 1).trans rfl; have hcz56_2 : w53.cell? ⟨gb146, 2, none⟩ = some (.int .i64 ((rd_T56 l1 x29_2).f2.f0)) := (blk_cell BK146.out 2).trans rfl; have hcz56_3 : w53.cell? ⟨gb146, 3, none⟩ = some (.int .i64 ((rd_T56 l1 x29_2).f2.f1)) := (blk_cell BK146.out 3).trans rfl; have hcz56_4 : w53.cell? ⟨gb146, 4, none⟩ = some (.slice A145_4 ((rd_T56 l1 x29_2).f2.f2).length c145_4) := (blk_cell BK146.out 4).trans rfl; have hfz56_0 := blk_frozen BK146.out 0; have hfz56_1 := blk_frozen BK146.out 1; have hfz56_2 := blk_frozen BK146.out 2; have hfz56_3 := blk_frozen BK146.out 3; have hfz56_4 := blk_frozen BK146.out 4))
                                          go_roundg k4
                                          case measure => have := HJ4.out; have := HK2.out; have := HJ13.out; have := HK4.out; omega
                                          case rel => exact ⟨(wrap64 (x76_4 + 1)), (by first | rfl | (simp; done) | (simp [*]; done)), H', ⟨by have := HJ4.out; have := HK2.out; have := HJ13.out; have := HK4.out; omega⟩, ⟨by (with_reducible repeat (first | refine blk_drewN ?_ _ | refine blk_drew ?_ | refine blk_alloc ?_ _)); refine blk_far ?_ NB146_156.out _; (with_reducible repeat (first | refine blk_drewN ?_ _ | refine blk_drew ?_ | refine blk_alloc ?_ _)); refine blk_far ?_ NB146_156.out _; (with_reducible repeat (first | refine blk_drewN ?_ _ | refine blk_drew ?_ | refine blk_alloc ?_ _)); refine blk_far ?_ NB146_156.out _; (with_reducible repeat (first | refine blk_drewN ?_ _ | refine blk_drew ?_ | refine blk_alloc ?_ _)); refine blk_far ?_ NB146_156.out _; (with_reducible repeat (first | refine blk_drewN ?_ _ | refine blk_drew ?_ | refine blk_alloc ?_ _)); refine blk_far ?_ NB146_156.out _; (with_reducible repeat (first | refine blk_drewN ?_ _ | refine blk_drew ?_ | refine blk_alloc ?_ _)); exact BK146.out⟩, ⟨by repeat (first | (with_reducible first | exact HB.out | apply below_alloc | apply pw_below_drewN | apply below_drew1 | refine below_set ?_ GE146.out | refine below_set ?_ GE156.out) | exact HB.out)⟩⟩
                                      · rw [if_neg c47] at H
                                        exact absurd H (by simp)
                                    · rw [if_neg c46] at H
                                      exact absurd H (by simp)
                                  · rw [if_neg c45] at H
                                    have c45b0 : decide (x76_4 < (y151.length : Int)) = false := decide_eq_false c45
                                    clear c45
                                    have H' := Aside0.mk H
                                    clear H
                                    go_wp2
                                    go_roundg k4
                                    case measure => have := HJ4.out; have := HK2.out; have := HJ13.out; have := HK4.out; omega
                                    case rel => exact ⟨(wrap64 (x29_2 + 1)), (by first | rfl | (simp; done) | (simp [*]; done)), H', ⟨by have := HJ4.out; have := HK2.out; have := HJ13.out; have := HK4.out; omega⟩, ⟨by repeat (first | (with_reducible first | exact HB.out | apply below_alloc | apply pw_below_drewN | apply below_drew1 | refine below_set ?_ GE146.out) | exact HB.out)⟩⟩
                            · rw [if_neg c43] at H
                              exact absurd H (by simp)
                          · rw [if_neg c42] at H
                            exact absurd H (by simp)
                  · rw [if_neg c13] at H
                    exact absurd H (by simp)
                · rw [if_neg c12] at H
                  exact absurd H (by simp)
              · rw [if_neg c11] at H
                have c11b0 : decide (x29_2 < (l1.length : Int)) = false := decide_eq_false c11
                clear c11
                obtain rfl := Option.some.inj H
                go_wp2
                go_ret
                exact ⟨by first | rfl | (simp [errW_none, errW_some] <;> rfl) | (simp [*, errW_none, errW_some] <;> rfl), by repeat (first | (with_reducible first | exact HB.out | apply below_alloc | apply pw_below_drewN | apply below_drew1) | exact HB.out)⟩
  · replace c4 := Bool.eq_false_iff.mpr c4
    subst c4
    have H1 : (some 2) = some r := by rw [if_neg (show ¬ (false = true) by decide)] at H; exact H
    clear H
    have H := H1
    clear H1
    obtain rfl := Option.some.inj H
    go_enter Try.func12, Try.ntmps12
    go_wp2_with (first | ((with_reducible refine gate_callee (f := 32) rfl ?_); refine goesL_ (some 10) rfl rfl Try.func32 (by kernel_rfl) rfl #[.slice A0 l0.length c0] rfl (by (try simp only [List.map_toArray, List.map_cons, List.map_nil]); first | done | rfl | (simp only [List.length_drop, List.length_take]; rfl)) ?_; (with_reducible refine (virgationref02_Symbols.calls k _ _ l0 false _ ?side1 ?side2 A3.out).mono ?_); (case side1 => repeat (first | exact HR0.out | (with_reducible refine Kd.C_alloc ?_ _) | (with_reducible refine Kd.C_drewN ?_ _) | (with_reducible refine Kd.C_drew ?_))); (case side2 => exact HC0.out); rintro e w57 ⟨rfl, hb⟩; refine ⟨_, rfl, ?_⟩; have n0_ := Aside0.mk (below_step (by repeat (first | (with_reducible first | exact HB.out | apply below_alloc | apply pw_below_drewN | apply below_drew1) | exact HB.out)) hb); clear HB; have HB := n0_; clear n0_; (try clear hb); (try clear hb2); (try clear hk); (try clear hi)))
    go_ret
    exact ⟨by first | rfl | (simp [errW_none, errW_some] <;> rfl) | (simp [*, errW_none, errW_some] <;> rfl), by repeat (first | (with_reducible first | exact HB.out | apply below_alloc | apply pw_below_drewN | apply below_drew1) | exact HB.out)⟩
end Go.Proofs.Ytfhgoebgnilfaaa.I
namespace Go.Proofs.Ytfhgoebgnilfaaa.I
open Go.RowKit Go.Proofs.YtfhgoebgnilfaaaW.PrintWords Go.Proofs.YtfhgoebgnilfaaaW.PrintLast Go.Proofs.YtfhgoebgnilfaaaW.PrintMore
set_option linter.unusedVariables false
set_option maxRecDepth 100000
set_option linter.unusedSimpArgs false
def to48 (x : S56) : S48 := ⟨x.f0, x.f1, x.f2⟩
def names56 (l : List S56) : List ByteArray := l.map (fun x => x.f0)
theorem rd_T56_drop (l : List S56) (i : Nat) (h : i < l.length) : l.drop i = rd_T56 l (i : Int) :: l.drop (i + 1) := by
  rw [List.drop_eq_getElem_cons h]
  simp [rd_T56, List.getD_eq_getElem?_getD, List.getElem?_eq_getElem h]
theorem rd_T56_take (l : List S56) (i : Nat) (h : i < l.length) : names56 (l.take i) ++ [(rd_T56 l (i : Int)).f0] = names56 (l.take (i + 1)) := by
  have e : l.take (i + 1) = l.take i ++ [l[i]] := by rw [List.take_add_one, List.getElem?_eq_getElem h]; rfl
  have e2 : rd_T56 l (i : Int) = l[i] := by unfold rd_T56; rw [Int.toNat_natCast, List.getD_eq_getElem?_getD, List.getElem?_eq_getElem h]; rfl
  rw [e, e2]
  unfold names56
  rw [List.map_append]
  rfl
theorem chk_inner {s : List S59} {l : List S56} {i : Nat} {nm : ByteArray} {pr kd n : Int} {t : List S44} {R : Int} (y : List S56) (hy : y.length ≤ 1000) (hR : Ev (fun k => virgationref04_Check.l0 k s l l (l.length : Int) (wrap64 ((i : Int) + 1))) R) :
    ∀ (m j : Nat), y.length - j = m → j ≤ y.length → Ev (fun k => virgationref04_Check.l1 k s l l (l.length : Int) (i : Int) y (y.length : Int) (j : Int) nm pr kd n t) (if isIn (names56 (y.drop j)) nm = true then 4 else R) := by
  intro m
  induction m with
  | zero =>
    intro j hn hj
    have hd : y.drop j = [] := List.drop_eq_nil_of_le (by omega)
    rw [hd, if_neg (by simp [names56, isIn])]
    exact Ev.step (fun k => by rw [virgationref04_Check.l1, if_neg (by omega)]) hR
  | succ m ihm =>
    intro j hn hj
    have hjl : j < y.length := by omega
    refine Ev.step (fun k => by rw [virgationref04_Check.l1, if_pos (by omega), if_pos (by omega), if_pos (by omega)]) ?_
    rw [rd_T56_drop y j hjl]
    show Ev _ (if isIn ((rd_T56 y (j : Int)).f0 :: names56 (y.drop (j + 1))) nm = true then 4 else R)
    rw [isIn_cons]
    by_cases he : nm.toList = (rd_T56 y (j : Int)).f0.toList
    · have : ((rd_T56 y (j : Int)).f0.data.toList == nm.data.toList) = true := by rw [beq_iff_eq, ← Go.ByteArray.toList_eq, ← Go.ByteArray.toList_eq]; exact he.symm
      rw [this, Bool.true_or, if_pos rfl]
      exact Ev.ifp he (Ev.now _)
    · have : ((rd_T56 y (j : Int)).f0.data.toList == nm.data.toList) = false := by
        rw [beq_eq_false_iff_ne, ← Go.ByteArray.toList_eq, ← Go.ByteArray.toList_eq]
        exact fun h => he h.symm
      rw [this, Bool.false_or]
      refine Ev.ifn he ?_
      rw [w64 _ (by omega)]
      exact ihm (j + 1) (by omega) (by omega)
theorem chk_j2 {s : List S59} {l : List S56} {i : Nat} {nm : ByteArray} {pr kd n : Int} {t : List S44} {R : Int} (hl : l.length ≤ 64) (hi : i < l.length) (b : Bool) (hR : Ev (fun k => virgationref04_Check.l0 k s l l (l.length : Int) (wrap64 ((i : Int) + 1))) R) :
    Ev (fun k => virgationref04_Check.j2 k s l (i : Int) l (l.length : Int) (i : Int) b nm pr kd n t) (if (b || isIn (names56 (l.take i)) nm) = true then 4 else R) := by
  cases b with
  | true => exact Ev.step (fun k => by rw [virgationref04_Check.j2, if_pos rfl]; rfl) (Ev.now _)
  | false =>
    rw [Bool.false_or]
    refine Ev.step (fun k => by rw [virgationref04_Check.j2, if_neg (by simp), if_pos (by omega), if_pos (by omega)]) ?_
    simp only [Option.bind_some, Int.toNat_natCast]
    have := chk_inner (s := s) (nm := nm) (pr := pr) (kd := kd) (n := n) (t := t) (l.take i) (by rw [List.length_take]; omega) hR (l.take i).length 0 (by omega) (by omega)
    rw [List.drop_zero] at this
    exact this
theorem loose_eq (x : S48) (nf ns : Int) (L : List ByteArray) : looseBad x nf ns L = ((!nameOk x.f0 || (decide (x.f1 < 0) || (decide (8 < x.f1) || (big x.f2 || !knownS x.f2 x.f1 nf ns)))) || isIn L x.f0) := by
  have e : (⟨x.f2.f0, x.f2.f1, x.f2.f2⟩ : S44) = x.f2 := by cases x.f2; rfl
  have hb := szT_big x.f2
  unfold looseBad
  rw [e, ← hb]
  cases nameOk x.f0 <;> cases isIn L x.f0 <;> cases decide (x.f1 < 0) <;> cases decide (8 < x.f1) <;> cases decide (400 < (szT x.f2).1) <;> cases decide (30 < (szT x.f2).2) <;> cases knownS x.f2 x.f1 nf ns <;> rfl
theorem check_loop (s : List S59) (l : List S56) (hl : l.length ≤ 64) : ∀ (m i : Nat), l.length - i = m → i ≤ l.length →
    Ev (fun k => virgationref04_Check.l0 k s l l (l.length : Int) (i : Int)) (if looseL ((l.drop i).map to48) (l.length : Int) (s.length : Int) (names56 (l.take i)) = true then 0 else 4) := by
  intro m
  induction m with
  | zero =>
    intro i hn hi
    have hd : l.drop i = [] := List.drop_eq_nil_of_le (by omega)
    rw [hd]
    change Ev _ 0
    exact Ev.step (fun k => by rw [virgationref04_Check.l0, if_neg (by omega)]) (Ev.now _)
  | succ m ihm =>
    intro i hn hi
    have hil : i < l.length := by omega
    have hR := ihm (i + 1) (by omega) (by omega)
    rw [show ((i + 1 : Nat) : Int) = wrap64 ((i : Int) + 1) from by rw [w64 _ (by omega)]; rfl] at hR
    refine Ev.step (fun k => by rw [virgationref04_Check.l0, if_pos (by omega), if_pos (by omega), if_pos (by omega)]) ?_
    refine Ev.bind (refname_ev _) ?_
    rw [rd_T56_drop l i hil]
    rw [← rd_T56_take l i hil] at hR
    generalize rd_T56 l (i : Int) = x at hR ⊢
    have hxe : (⟨x.f2.f0, x.f2.f1, x.f2.f2⟩ : S44) = x.f2 := by cases x.f2; rfl
    have ht : (if looseL ((x :: l.drop (i + 1)).map to48) (l.length : Int) (s.length : Int) (names56 (l.take i)) = true then (0 : Int) else 4) =
        (if ((!nameOk x.f0 || (decide (x.f1 < 0) || (decide (8 < x.f1) || (big x.f2 || !knownS x.f2 x.f1 (l.length : Int) (s.length : Int))))) || isIn (names56 (l.take i)) x.f0) = true then 4 else (if looseL ((l.drop (i + 1)).map to48) (l.length : Int) (s.length : Int) (names56 (l.take i) ++ [x.f0]) = true then 0 else 4)) := by
      rw [List.map_cons]
      show (if (if looseBad (to48 x) _ _ _ = true then false else looseL _ _ _ (_ ++ [(to48 x).f0])) = true then (0 : Int) else 4) = _
      rw [loose_eq]
      show (if (if ((!nameOk x.f0 || (decide (x.f1 < 0) || (decide (8 < x.f1) || (big x.f2 || !knownS x.f2 x.f1 (l.length : Int) (s.length : Int))))) || isIn (names56 (l.take i)) x.f0) = true then false else _) = true then (0 : Int) else 4) = _
      split
      · rfl
      · rfl
    rw [ht]
    have key : ∀ (b : Bool) (nm : ByteArray) (pr kd n : Int) (t : List S44), nm = x.f0 → b = (!nameOk x.f0 || (decide (x.f1 < 0) || (decide (8 < x.f1) || (big x.f2 || !knownS x.f2 x.f1 (l.length : Int) (s.length : Int))))) →
        Ev (fun k => virgationref04_Check.j2 k s l (i : Int) l (l.length : Int) (i : Int) b nm pr kd n t) (if ((!nameOk x.f0 || (decide (x.f1 < 0) || (decide (8 < x.f1) || (big x.f2 || !knownS x.f2 x.f1 (l.length : Int) (s.length : Int))))) || isIn (names56 (l.take i)) x.f0) = true then 4 else (if looseL ((l.drop (i + 1)).map to48) (l.length : Int) (s.length : Int) (names56 (l.take i) ++ [x.f0]) = true then 0 else 4)) := by
      intro b nm pr kd n t h1 h2
      rw [← h2, ← h1]
      rw [← h1] at hR
      exact chk_j2 hl hil b hR
    cases hn1 : nameOk x.f0
    · rw [hn1] at key
      exact Ev.ifn (by simp) (key true _ _ _ _ _ rfl (by simp))
    · refine Ev.ifp rfl ?_
      rw [hn1] at key
      by_cases h0 : x.f1 < 0
      · exact Ev.ifp h0 (key true _ _ _ _ _ rfl (by simp [h0]))
      · refine Ev.ifn h0 ?_
        by_cases h8 : x.f1 > 8
        · exact Ev.ifp h8 (key true _ _ _ _ _ rfl (by simp [show (8 : Int) < x.f1 from h8]))
        · refine Ev.ifn h8 ?_
          have hc := tcnt_f2 x.f2
          have hd := tdep_f2 x.f2
          refine Ev.bind (tnodes_ev _ _ _ _ 400 (Nat.lt_succ_self _) (by omega) (by omega)) ?_
          by_cases h4 : 400 < tcnt x.f2
          · exact Ev.ifp (by omega) (key true _ _ _ _ _ rfl (by simp [big, h4]))
          · refine Ev.ifn (by omega) ?_
            refine Ev.bind (tdepth_ev _ _ _ _ (Nat.lt_succ_self _) (by omega)) ?_
            by_cases h3 : 30 < tdep x.f2
            · exact Ev.ifp (by omega) (key true _ _ _ _ _ rfl (by simp [big, h3]))
            · refine Ev.ifn (by omega) ?_
              refine Ev.bind (exist_ev _ _ _ _ x.f1 (l.length : Int) (s.length : Int) (Nat.lt_succ_self _) (by omega)) ?_
              rw [hxe]
              exact key _ _ _ _ _ _ rfl (by
                have hb : big x.f2 = false := by unfold big; rw [decide_eq_false h4, decide_eq_false h3]; rfl
                rw [hb, decide_eq_false h0, decide_eq_false (show ¬ (8 : Int) < x.f1 from h8)]
                rfl)
/-- Both Checks are one. -/
theorem check_ev (s : List S59) (l : List S56) : ∃ r, chkF s (l.map to48) = some r ∧ Ev (fun k => virgationref04_Check.f k s l) r := by
  refine ⟨_, rfl, ?_⟩
  unfold virgationref04_Check.f
  refine Ev.bind (symbols_ev s) ?_
  have e48 : ∀ (h : 0 < l.length), (rd_T48 (l.map to48) 0).f1 = (rd_T56 l 0).f1 := by
    intro h
    cases l with
    | nil => simp at h
    | cons x xs => rfl
  by_cases ha : 24 < s.length
  · rw [if_pos (.inl ha), decide_eq_false (by omega : ¬ s.length ≤ 24), Bool.and_false]
    exact Ev.ifn (by simp) (Ev.now _)
  · rw [decide_eq_true (by omega : s.length ≤ 24), Bool.and_true]
    cases hs : symsL s []
    · rw [if_pos (.inr rfl)]
      exact Ev.ifn (by simp) (Ev.now _)
    · rw [if_neg (by simp; omega)]
      refine Ev.ifp rfl ?_
      rw [List.length_map]
      have no : Ev (fun k => virgationref04_Check.j0 k s l true) 4 := Ev.step (fun k => by rw [virgationref04_Check.j0, if_pos rfl]) (Ev.now _)
      by_cases h1 : (l.length : Int) < 1
      · rw [if_pos (.inl (by omega))]
        exact Ev.ifp h1 no
      · refine Ev.ifn h1 ?_
        by_cases h2 : (l.length : Int) > 64
        · rw [if_pos (.inr (.inl (by omega)))]
          exact Ev.ifp h2 no
        · refine Ev.ifn h2 (Ev.ifp (by omega) ?_)
          rw [e48 (by omega)]
          by_cases h3 : (rd_T56 l 0).f1 = 0
          · rw [if_neg (by rw [h3]; omega), show ((rd_T56 l 0).f1 != 0) = false from by rw [h3]; rfl]
            refine Ev.step (fun k => by rw [virgationref04_Check.j0, if_neg (by simp)]) ?_
            have := check_loop s l (by omega) l.length 0 (by omega) (by omega)
            rw [List.drop_zero] at this
            exact this
          · rw [if_pos (.inr (.inr h3)), show ((rd_T56 l 0).f1 != 0) = true from bne_iff_ne.2 h3]
            exact no
end Go.Proofs.Ytfhgoebgnilfaaa.I
namespace Go.Proofs.Ytfhgoebgnilfaaa.I
open Go.RowKit
def x0 : S44 := ⟨0, 0, []⟩
def x1 : S44 := ⟨2, 1, [x0]⟩
def x2 : S44 := ⟨1, 1, [x1]⟩
def x3 : S44 := ⟨2, 0, [x0, x2]⟩
def xc : S44 := ⟨2, 2, []⟩
def exSyms : List S59 := [⟨⟨#[97]⟩, 2⟩, ⟨⟨#[98]⟩, 1⟩, ⟨⟨#[99]⟩, 0⟩]
def ex1 : List S48 := [⟨⟨#[115]⟩, 0, ⟨1, 1, [xc]⟩⟩, ⟨⟨#[102]⟩, 1, x3⟩]
def ex2 : List S48 := [⟨⟨#[115]⟩, 0, xc⟩, ⟨⟨#[102]⟩, 1, ⟨0, 0, [x0]⟩⟩]
def ex3 : List S48 := [⟨⟨#[115]⟩, 0, xc⟩, ⟨⟨#[107]⟩, 2, x0⟩]
theorem ev1 : infer_Sorts.f 40 exSyms ex1 = some ([⟨[]⟩, ⟨[⟨[]⟩]⟩], 0) := by kernel_rfl
theorem ev2 : infer_Sorts.f 40 exSyms ex2 = some ([], 6) := by kernel_rfl
theorem ev3 : infer_Sorts.f 40 exSyms ex3 = some ([⟨[]⟩, ⟨[⟨[]⟩, ⟨[]⟩]⟩], 0) := by kernel_rfl
end Go.Proofs.Ytfhgoebgnilfaaa.I
namespace Go.Proofs.Ytfhgoebgnilfaaa.I
open Go.RowKit Go.Proofs.YtfhgoebgnilfaaaW.PrintWords Go.Proofs.YtfhgoebgnilfaaaW.PrintLast Go.Proofs.YtfhgoebgnilfaaaW.PrintMore
attribute [local go_sem] max2_int min2_int max_two min_two max_three min_three max_four min_four
set_option linter.unusedVariables false
set_option maxRecDepth 100000
set_option linter.unusedSimpArgs false
set_option maxHeartbeats 8000000 in
/-- A head, applied to arguments: the same words. -/
theorem term_ex (a0 a1 : Int) (A : Option Addr) (n c : Nat) (w : World) :
    Calls Try.prog 27 #[.int .i64 a0, .int .i64 a1, .slice A n c] w fun e w' => e = .returned (.agg #[.int .i64 a0, .int .i64 a1, .slice A n c]) ∧ Below w.heap.size w w' := by
  have hu44 := Try.underlying44
  go_enter Try.func27, Try.ntmps27
  go_wp2_with (
    (with_reducible refine gate_dst (N := 6) rfl ?_)
    refine box_event ?hg (N := 6) ?hd (cs := #[.int .i64 0, .int .i64 0, .slice none 0 0]) (t := 44) ?hr ?_
    (case hd => rfl)
    (case hg => rfl)
    (case hr => first | (go_simp; done) | (go_simp; rfl))
    intro gi hgi w3 hbox hb3
    have hg := Nat.le_of_eq hgi.symm
    have HB := Aside0.mk (below_set (g := gi) (j := 2) (v := .slice A n c) (below_set (g := gi) (j := 1) (v := .int .i64 a1) (below_set (g := gi) (j := 0) (v := .int .i64 a0) hb3 hg) hg) hg)
    have Hgi := Aside0.mk (blk_put (cs' := #[.int .i64 a0, .int .i64 a1, .slice A n c]) (blk_put (cs' := #[.int .i64 a0, .int .i64 a1, .slice none 0 0]) (blk_put (cs' := #[.int .i64 a0, .int .i64 0, .slice none 0 0]) hbox 0 (.int .i64 a0) rfl) 1 (.int .i64 a1) rfl) 2 (.slice A n c) rfl)
    have hcz0 := (blk_cell hbox 0).trans rfl
    have hcz1 := (blk_cell hbox 1).trans rfl
    have hcz2 := (blk_cell hbox 2).trans rfl
    have hfz0 := blk_frozen hbox 0
    have hfz1 := blk_frozen hbox 1
    have hfz2 := blk_frozen hbox 2
    clear hbox hb3 hgi hg)
  refine bodyPost_ret (results_cell_row rfl _ _ gi 44 #[.int .i64 a0, .int .i64 a1, .slice A n c] (0, 0) _ rfl Hgi.out Try.underlying44 rfl (by kernel_rfl)) rfl ?_
  exact ⟨rfl, HB.out⟩
/-- A new block, read as a row. -/
theorem C_cel {α : Type} {d : Kd α} {w : World} {g : Nat} {cs : List Value} {xs : List α} (ccs : List (List Value)) (hb : ∀ (j : Nat) (u : Value), cs[j]? = some u → w.cell? ⟨g, j, none⟩ = some u) (hcs : cs = ccs.flatten) (hl : ccs.length = xs.length) (hm : xs.length ≤ 1000) (hK : ∀ (j : Nat) (x : α) (c : List Value), xs[j]? = some x → ccs[j]? = some c → d.K w x c) :
    d.C w (some ⟨g, 0, none⟩) xs.length xs := by
  refine ⟨rfl, by omega, fun _ => ⟨_, rfl, fun j x hj => ?_⟩⟩
  have hjl : j < ccs.length := by rw [hl]; exact (List.getElem?_eq_some_iff.1 hj).1
  have hk := hK j x ccs[j] hj (List.getElem?_eq_getElem hjl)
  have hlen : ∀ c ∈ ccs, c.length = d.sz := fun c hc => by
    obtain ⟨i, hi, e⟩ := List.getElem_of_mem hc
    have hx : xs[i]? = some (xs[i]'(by rw [← hl]; exact hi)) := List.getElem?_eq_getElem _
    rw [← e]
    exact d.K_len (hK i _ _ hx (List.getElem?_eq_getElem hi))
  refine ⟨ccs[j], d.K_len hk, hk, fun i u hu => ?_⟩
  have hil : i < ccs[j].length := (List.getElem?_eq_some_iff.1 hu).1
  have key : ∀ (l : List (List Value)) (sz : Nat), (∀ c ∈ l, c.length = sz) → ∀ (j i : Nat) (c : List Value) (u : Value), l[j]? = some c → c[i]? = some u → l.flatten[j * sz + i]? = some u := by
    intro l sz
    induction l with
    | nil => intro _ j i c u hj; simp at hj
    | cons a l ih =>
      intro hs j i c u hj hi
      have ha := hs a List.mem_cons_self
      cases j with
      | zero =>
        injection hj with hj
        subst hj
        rw [List.flatten_cons, Nat.zero_mul, Nat.zero_add, List.getElem?_append_left (List.getElem?_eq_some_iff.1 hi).1]
        exact hi
      | succ j =>
        rw [List.flatten_cons, List.getElem?_append_right (by rw [ha, Nat.succ_mul]; omega), ha, Nat.succ_mul, show j * sz + sz + i - sz = j * sz + i from by omega]
        exact ih (fun c hc => hs c (List.mem_cons_of_mem _ hc)) j i c u hj hi
  have h2 := key ccs d.sz hlen j i _ u (List.getElem?_eq_getElem hjl) hu
  rw [← hcs] at h2
  have e : (⟨g, 0, none⟩ : Addr).add (j * d.sz + i) = ⟨g, j * d.sz + i, none⟩ := by unfold Addr.add; simp; omega
  rw [e]
  exact hb _ _ h2
theorem C_blk {α : Type} {d : Kd α} {w : World} {g : Nat} {t : TypeId} {cs : List Value} {xs : List α} (ccs : List (List Value)) (hb : w.heap[g]? = some (.cells cs.toArray t (0, 0))) (hcs : cs = ccs.flatten) (hl : ccs.length = xs.length) (hm : xs.length ≤ 1000) (hK : ∀ (j : Nat) (x : α) (c : List Value), xs[j]? = some x → ccs[j]? = some c → d.K w x c) :
    d.C w (some ⟨g, 0, none⟩) xs.length xs :=
  C_cel ccs (fun j u hu => (blk_cell hb j).trans (by simpa using hu)) hcs hl hm hK
theorem C_cel1 {α : Type} {d : Kd α} {w : World} {g : Nat} {x : α} (c : List Value) (hb : ∀ (j : Nat) (u : Value), c[j]? = some u → w.cell? ⟨g, j, none⟩ = some u) (hK : d.K w x c) : d.C w (some ⟨g, 0, none⟩) 1 [x] :=
  C_cel (xs := [x]) [c] hb (by simp) rfl (by simp) (fun j y e h1 h2 => by
    cases j with
    | zero => injection h1 with h1; injection h2 with h2; subst h1 h2; exact hK
    | succ j => cases h1)
theorem C_cel2 {α : Type} {d : Kd α} {w : World} {g : Nat} {x x' : α} (c c' : List Value) (hb : ∀ (j : Nat) (u : Value), (c ++ c')[j]? = some u → w.cell? ⟨g, j, none⟩ = some u) (hK : d.K w x c) (hK' : d.K w x' c') : d.C w (some ⟨g, 0, none⟩) 2 [x, x'] :=
  C_cel (xs := [x, x']) [c, c'] hb (by simp) rfl (by simp) (fun j y e h1 h2 => by
    match j with
    | 0 => injection h1 with h1; injection h2 with h2; subst h1 h2; exact hK
    | 1 => injection h1 with h1; injection h2 with h2; subst h1 h2; exact hK'
    | j + 2 => cases h1)
theorem C_blk3 {α : Type} {d : Kd α} {w : World} {g : Nat} {t : TypeId} {x x' x'' : α} (c c' c'' : List Value) (hb : w.heap[g]? = some (.cells (c ++ c' ++ c'').toArray t (0, 0))) (hK : d.K w x c) (hK' : d.K w x' c') (hK'' : d.K w x'' c'') : d.C w (some ⟨g, 0, none⟩) 3 [x, x', x''] :=
  C_blk (xs := [x, x', x'']) [c, c', c''] hb (by simp) rfl (by simp) (fun j y e h1 h2 => by
    match j with
    | 0 => injection h1 with h1; injection h2 with h2; subst h1 h2; exact hK
    | 1 => injection h1 with h1; injection h2 with h2; subst h1 h2; exact hK'
    | 2 => injection h1 with h1; injection h2 with h2; subst h1 h2; exact hK''
    | j + 3 => cases h1)
theorem cel3 {w : World} {g : Nat} {a b c : Value} (h0 : w.cell? ⟨g, 0, none⟩ = some a) (h1 : w.cell? ⟨g, 1, none⟩ = some b) (h2 : w.cell? ⟨g, 2, none⟩ = some c) : ∀ (j : Nat) (u : Value), [a, b, c][j]? = some u → w.cell? ⟨g, j, none⟩ = some u
  | 0, u, h => by injection h with h; rw [← h]; exact h0
  | 1, u, h => by injection h with h; rw [← h]; exact h1
  | 2, u, h => by injection h with h; rw [← h]; exact h2
  | j + 3, u, h => by cases h
theorem cel6 {w : World} {g : Nat} {a b c d e f : Value} (h0 : w.cell? ⟨g, 0, none⟩ = some a) (h1 : w.cell? ⟨g, 1, none⟩ = some b) (h2 : w.cell? ⟨g, 2, none⟩ = some c) (h3 : w.cell? ⟨g, 3, none⟩ = some d) (h4 : w.cell? ⟨g, 4, none⟩ = some e) (h5 : w.cell? ⟨g, 5, none⟩ = some f) : ∀ (j : Nat) (u : Value), ([a, b, c] ++ [d, e, f])[j]? = some u → w.cell? ⟨g, j, none⟩ = some u
  | 0, u, h => by injection h with h; rw [← h]; exact h0
  | 1, u, h => by injection h with h; rw [← h]; exact h1
  | 2, u, h => by injection h with h; rw [← h]; exact h2
  | 3, u, h => by injection h with h; rw [← h]; exact h3
  | 4, u, h => by injection h with h; rw [← h]; exact h4
  | 5, u, h => by injection h with h; rw [← h]; exact h5
  | j + 6, u, h => by cases h
theorem C_blk1 {α : Type} {d : Kd α} {w : World} {g : Nat} {t : TypeId} {x : α} (c : List Value) (hb : w.heap[g]? = some (.cells c.toArray t (0, 0))) (hK : d.K w x c) : d.C w (some ⟨g, 0, none⟩) 1 [x] :=
  C_blk (xs := [x]) [c] hb (by simp) rfl (by simp) (fun j y e h1 h2 => by
    cases j with
    | zero => injection h1 with h1; injection h2 with h2; subst h1 h2; exact hK
    | succ j => cases h1)
theorem C_blk2 {α : Type} {d : Kd α} {w : World} {g : Nat} {t : TypeId} {x x' : α} (c c' : List Value) (hb : w.heap[g]? = some (.cells (c ++ c').toArray t (0, 0))) (hK : d.K w x c) (hK' : d.K w x' c') : d.C w (some ⟨g, 0, none⟩) 2 [x, x'] :=
  C_blk (xs := [x, x']) [c, c'] hb (by simp) rfl (by simp) (fun j y e h1 h2 => by
    match j with
    | 0 => injection h1 with h1; injection h2 with h2; subst h1 h2; exact hK
    | 1 => injection h1 with h1; injection h2 with h2; subst h1 h2; exact hK'
    | j + 2 => cases h1)
theorem C_nil {α : Type} (d : Kd α) (w : World) : d.C w none 0 [] := ⟨rfl, by omega, fun h => absurd h (by omega)⟩
theorem bcell {W w1 : World} (hb : Below W.heap.size W w1) : (∀ b o, b < W.heap.size → w1.cell? ⟨b, o, none⟩ = W.cell? ⟨b, o, none⟩) ∧ (∀ b o, b < W.heap.size → w1.frozen? ⟨b, o, none⟩ = W.frozen? ⟨b, o, none⟩) :=
  ⟨fun b o h => hb.cell (p := ⟨b, o, none⟩) h, fun b o h => hb.frozen (p := ⟨b, o, none⟩) h⟩
theorem blk_new1 (w : World) (o o' : Obj) : ((w.alloc o).alloc o').heap[w.heap.size + 1]? = some o' := by
  have h := blk_new (w.alloc o) o'
  have e : (w.alloc o).heap.size = w.heap.size + 1 := Array.size_push _
  rw [e] at h
  exact h
theorem cell_alloc_lt (w : World) (o : Obj) (b j : Nat) (h : b < w.heap.size) : (w.alloc o).cell? ⟨b, j, none⟩ = w.cell? ⟨b, j, none⟩ :=
  ((below_alloc (Below.refl w.heap.size w) o).cell (p := ⟨b, j, none⟩) h)
theorem cell_alloc_at (w : World) (cs : Array Value) (t : TypeId) (j : Nat) : (w.alloc (.cells cs t (0, 0))).cell? ⟨w.heap.size, j, none⟩ = cs[j]? := blk_cell (blk_new w _) j
theorem cell_alloc_at1 (w : World) (o : Obj) (cs : Array Value) (t : TypeId) (j : Nat) : ((w.alloc o).alloc (.cells cs t (0, 0))).cell? ⟨w.heap.size + 1, j, none⟩ = cs[j]? := blk_cell (blk_new1 w o _) j
theorem cell_set_far (w : World) (g i b j : Nat) (v : Value) (h : b ≠ g) : (w.setCell ⟨g, i, none⟩ v).cell? ⟨b, j, none⟩ = w.cell? ⟨b, j, none⟩ :=
  World.cell?_of_block (Below.heap_setCell w ⟨g, i, none⟩ v b h)
theorem cell_drew0 (w : World) (p : Addr) : w.drew.cell? p = w.cell? p := rfl
theorem cell_set3 {w : World} {g : Nat} {u0 u1 u2 : Value} (v0 v1 v2 : Value) (h0 : w.cell? ⟨g, 0, none⟩ = some u0) (h1 : w.cell? ⟨g, 1, none⟩ = some u1) (h2 : w.cell? ⟨g, 2, none⟩ = some u2) :
    (((w.setCell ⟨g, 0, none⟩ v0).setCell ⟨g, 1, none⟩ v1).setCell ⟨g, 2, none⟩ v2).cell? ⟨g, 0, none⟩ = some v0 ∧ (((w.setCell ⟨g, 0, none⟩ v0).setCell ⟨g, 1, none⟩ v1).setCell ⟨g, 2, none⟩ v2).cell? ⟨g, 1, none⟩ = some v1 ∧ (((w.setCell ⟨g, 0, none⟩ v0).setCell ⟨g, 1, none⟩ v1).setCell ⟨g, 2, none⟩ v2).cell? ⟨g, 2, none⟩ = some v2 := by
  have n01 : (⟨g, 0, none⟩ : Addr) ≠ ⟨g, 1, none⟩ := by simp
  have n02 : (⟨g, 0, none⟩ : Addr) ≠ ⟨g, 2, none⟩ := by simp
  have n12 : (⟨g, 1, none⟩ : Addr) ≠ ⟨g, 2, none⟩ := by simp
  refine ⟨?_, ?_, ?_⟩
  · rw [World.cell?_setCell_other (h := n02.symm), World.cell?_setCell_other (h := n01.symm)]
    exact World.cell?_setCell_same _ _ _ h0
  · rw [World.cell?_setCell_other (h := n12.symm)]
    exact World.cell?_setCell_same _ _ _ ((World.cell?_setCell_other _ _ _ _ n01).trans h1)
  · exact World.cell?_setCell_same _ _ _ ((World.cell?_setCell_other _ _ _ _ n12).trans ((World.cell?_setCell_other _ _ _ _ n02).trans h2))
theorem sorts_ex (k : Nat) (A0 : Option Addr) (n0 c0 : Nat) (l0 : List S59) (A1 : Option Addr) (n1 c1 : Nat) (l1 : List S48) (r1 : List S41) (r2 : Int) (w : World) (hn0 : l0.length = n0) (hn1 : l1.length = n1) (hr0 : Kd.C k59 w A0 n0 l0) (hc0 : n0 ≤ c0) (hr1 : Kd.C k48 w A1 n1 l1) (hc1 : n1 ≤ c1) (h : infer_Sorts.f k l0 l1 = some (r1, r2)) :
    Calls Try.prog 13 #[.slice A0 n0 c0, .slice A1 n1 c1] w fun e w' => ∃ (A : Option Addr) (c : Nat), e = .returned (.tuple #[.slice A r1.length c, .int .i64 r2]) ∧ k41.C w' A r1.length r1 ∧ Below w.heap.size w w' := by
  subst hn0 hn1
  refine (infer_Sorts.calls k A0 c0 l0 A1 c1 l1 r1 r2 w hr0 hc0 hr1 hc1 h).mono ?_
  rintro e w' ⟨v, rfl, hR, hb⟩
  obtain ⟨A, c, rfl⟩ := Kd.R_slice hR
  exact ⟨A, c, rfl, (Kd.R_reads' hR).2.2, hb⟩
theorem k41_at {w : World} {A : Option Addr} {n : Nat} {xs : List S41} (h : k41.C w A n xs) {i : Nat} {x : S41} (hx : xs[i]? = some x) : ∃ (ad : Addr) (A' : Option Addr) (c' : Nat), A = some ad ∧ w.cell? (ad.add i) = some (.slice A' x.f0.length c') ∧ k41.C w A' x.f0.length x.f0 := by
  have hl := (List.getElem?_eq_some_iff.1 hx).1
  obtain ⟨ad, c, e, hc, hk, hcc⟩ := Kd.C_get h ⟨[]⟩ (i : Int) (by omega) (by have := h.1; omega)
  rw [Int.toNat_natCast, List.getD_eq_getElem?_getD, hx] at hk
  obtain ⟨A', c', rfl, _, hC⟩ := k41_open hk
  refine ⟨ad, A', c', e, ?_, hC⟩
  have := hcc 0 _ rfl
  rw [Int.toNat_natCast] at this
  exact (congrArg w.cell? (congrArg ad.add (show i = i * (k41).sz + 0 from by show i = i * 1 + 0; omega))).trans this
set_option maxHeartbeats 8000000 in
theorem alive_calls (w : World) : Calls Try.prog 9 #[] w fun e w' => e = .returned (.bool true) ∧ Below w.heap.size w w' := by
  have hu44 := Try.underlying44
  have hu48 := Try.underlying48
  have hu59 := Try.underlying59
  have hu41 := Try.underlying41
  go_enter Try.func9, Try.ntmps9
  go_upto_region 2 with (fail)
  have Hsy := Aside0.mk (blk_new w (.cells #[.string ⟨#[97]⟩, .int .i64 2, .string ⟨#[98]⟩, .int .i64 1, .string ⟨#[99]⟩, .int .i64 0] 59 (0, 0)))
  have HB1 := Aside0.mk (below_alloc (Below.refl w.heap.size w) (.cells #[.string ⟨#[97]⟩, .int .i64 2, .string ⟨#[98]⟩, .int .i64 1, .string ⟨#[99]⟩, .int .i64 0] 59 (0, 0)))
  generalize hgs : w.heap.size = gs at *
  generalize (w.alloc (.cells #[.string ⟨#[97]⟩, .int .i64 2, .string ⟨#[98]⟩, .int .i64 1, .string ⟨#[99]⟩, .int .i64 0] 59 (0, 0))) = w1 at *
  have Hgs := Aside0.mk hgs
  clear hgs
  go_wp2_with fail
  (with_reducible refine (term_ex 0 0 none 0 0 w1).mono ?_)
  rintro e w2 ⟨rfl, hb2⟩
  have HB2 := Aside0.mk hb2
  clear hb2
  go_upto_region 3 with (
    (with_reducible refine gate_dst (N := 2) rfl ?_)
    refine box_event ?hg (N := 2) ?hd (cs := #[.int .i64 0, .int .i64 0, .slice none 0 0]) (t := 44) ?hr ?_
    (case hd => rfl)
    (case hg => rfl)
    (case hr => first | (go_simp; done) | (go_simp; rfl))
    intro gx hgx w3 hbox hb3
    have hg := Nat.le_of_eq hgx.symm
    have HB3 := Aside0.mk (below_step HB2.out (below_set (g := gx) (j := 2) (v := .slice none 0 0) (below_set (g := gx) (j := 1) (v := .int .i64 0) (below_set (g := gx) (j := 0) (v := .int .i64 0) hb3 hg) hg) hg))
    have Hgx := Aside0.mk (blk_put (cs' := #[.int .i64 0, .int .i64 0, .slice none 0 0]) (blk_put (cs' := #[.int .i64 0, .int .i64 0, .slice none 0 0]) (blk_put (cs' := #[.int .i64 0, .int .i64 0, .slice none 0 0]) hbox 0 (.int .i64 0) rfl) 1 (.int .i64 0) rfl) 2 (.slice none 0 0) rfl)
    have hcz0 := (blk_cell hbox 0).trans rfl
    have hcz1 := (blk_cell hbox 1).trans rfl
    have hcz2 := (blk_cell hbox 2).trans rfl
    have hfz0 := blk_frozen hbox 0
    have hfz1 := blk_frozen hbox 1
    have hfz2 := blk_frozen hbox 2
    clear hbox hb3 hgx hg)
  clear hcz0 hcz1 hcz2 hfz0 hfz1 hfz2
  generalize ((w3.setCell { block := gx, off := 0 } (.int .i64 0)).setCell { block := gx, off := 1 } (.int .i64 0)).setCell { block := gx, off := 2 } (.slice none 0 0) = w4 at *
  have c0 : w4.cell? ⟨gx, 0, none⟩ = some (.int .i64 0) := (blk_cell Hgx.out 0).trans rfl
  have c1 : w4.cell? ⟨gx, 1, none⟩ = some (.int .i64 0) := (blk_cell Hgx.out 1).trans rfl
  have c2 : w4.cell? ⟨gx, 2, none⟩ = some (.slice none 0 0) := (blk_cell Hgx.out 2).trans rfl
  have HB4 := Aside0.mk HB3.out
  clear HB3 HB2
  go_cut [3] (fun v3 wc => ∃ (gb gA gB gC : Nat), v3 = .pointer (some ⟨gb, 0, none⟩) ∧ Aside0 (wc.cell? ⟨gb, 0, none⟩ = some (.int .i64 2)) ∧ Aside0 (wc.cell? ⟨gb, 1, none⟩ = some (.int .i64 0)) ∧ Aside0 (wc.cell? ⟨gb, 2, none⟩ = some (.slice (some ⟨gC, 0, none⟩) 2 2)) ∧ Aside0 (wc.cell? ⟨gA, 0, none⟩ = some (.int .i64 0)) ∧ Aside0 (wc.cell? ⟨gA, 1, none⟩ = some (.int .i64 0)) ∧ Aside0 (wc.cell? ⟨gA, 2, none⟩ = some (.slice none 0 0)) ∧ Aside0 (wc.cell? ⟨gB, 0, none⟩ = some (.int .i64 2)) ∧ Aside0 (wc.cell? ⟨gB, 1, none⟩ = some (.int .i64 1)) ∧ Aside0 (wc.cell? ⟨gB, 2, none⟩ = some (.slice (some ⟨gA, 0, none⟩) 1 1)) ∧ Aside0 (wc.cell? ⟨gC, 0, none⟩ = some (.int .i64 0)) ∧ Aside0 (wc.cell? ⟨gC, 1, none⟩ = some (.int .i64 0)) ∧ Aside0 (wc.cell? ⟨gC, 2, none⟩ = some (.slice none 0 0)) ∧ Aside0 (wc.cell? ⟨gC, 3, none⟩ = some (.int .i64 1)) ∧ Aside0 (wc.cell? ⟨gC, 4, none⟩ = some (.int .i64 1)) ∧ Aside0 (wc.cell? ⟨gC, 5, none⟩ = some (.slice (some ⟨gB, 0, none⟩) 1 1)) ∧ Aside0 (Below w4.heap.size w4 wc))
  case first =>
    have Hgxl := Aside0.mk (blk_lt Hgx.out)
    have m40 : w4.heap.size ≠ gx := by have := Hgxl.out; omega
    have m41 : w4.heap.size + 1 ≠ gx := by have := Hgxl.out; omega
    go_region_held3 (fun w' => w'.cell? ⟨gx, 0, none⟩ = some (.int .i64 0) ∧ w'.cell? ⟨gx, 1, none⟩ = some (.int .i64 0) ∧ w'.cell? ⟨gx, 2, none⟩ = some (.slice none 0 0)) (go_keep)
      (first
        | (go_at_call 27; (with_reducible refine (term_ex 2 1 _ _ _ _).mono ?_); rintro e wA ⟨rfl, hbA⟩; have a0 : wA.cell? ⟨gx, 0, none⟩ = some (.int .i64 0) := cell_up hbA (by go_keep); have a1 : wA.cell? ⟨gx, 1, none⟩ = some (.int .i64 0) := cell_up hbA (by go_keep); have a2 : wA.cell? ⟨gx, 2, none⟩ = some (.slice none 0 0) := cell_up hbA (by go_keep); have HbA := Aside0.mk (show Below w4.heap.size w4 wA from below_step (by repeat (first | (with_reducible first | exact Below.refl _ _ | apply below_alloc | apply pw_below_drewN | apply below_drew1) | exact Below.refl _ _)) hbA); have yA := hbA.size; simp at yA; have tA4 : w4.heap.size < wA.heap.size := (by omega); (try have uA4 : w4.heap.size + 1 < wA.heap.size := (by omega)); obtain ⟨zcA, zfA⟩ := bcell hbA; have mA0 : wA.heap.size ≠ gx := (by have := Hgxl.out; have := HbA.out.size; omega); have mA1 : wA.heap.size + 1 ≠ gx := (by have := Hgxl.out; have := HbA.out.size; omega); clear hbA)
        | (go_at_call 27; (with_reducible refine (term_ex 1 1 _ _ _ _).mono ?_); rintro e wB ⟨rfl, hbB⟩; have b0 : wB.cell? ⟨gx, 0, none⟩ = some (.int .i64 0) := cell_up hbB (by go_keep); have b1 : wB.cell? ⟨gx, 1, none⟩ = some (.int .i64 0) := cell_up hbB (by go_keep); have b2 : wB.cell? ⟨gx, 2, none⟩ = some (.slice none 0 0) := cell_up hbB (by go_keep); have HbB := Aside0.mk (show Below w4.heap.size w4 wB from below_step (by repeat (first | (with_reducible first | exact Below.refl _ _ | exact HbA.out | apply below_alloc | apply pw_below_drewN | apply below_drew1) | exact Below.refl _ _ | exact HbA.out)) hbB); have yB := hbB.size; simp at yB; have tB4 : w4.heap.size < wB.heap.size := (by omega); (try have uB4 : w4.heap.size + 1 < wB.heap.size := (by omega)); have tBA : wA.heap.size < wB.heap.size := (by omega); (try have uBA : wA.heap.size + 1 < wB.heap.size := (by omega)); obtain ⟨zcB, zfB⟩ := bcell hbB; have mB0 : wB.heap.size ≠ gx := (by have := Hgxl.out; have := HbB.out.size; omega); have mB1 : wB.heap.size + 1 ≠ gx := (by have := Hgxl.out; have := HbB.out.size; omega); clear hbB)
        | (go_at_call 27; (with_reducible refine (term_ex 2 0 _ _ _ _).mono ?_); rintro e wC ⟨rfl, hbC⟩; have c0 : wC.cell? ⟨gx, 0, none⟩ = some (.int .i64 0) := cell_up hbC (by go_keep); have c1 : wC.cell? ⟨gx, 1, none⟩ = some (.int .i64 0) := cell_up hbC (by go_keep); have c2 : wC.cell? ⟨gx, 2, none⟩ = some (.slice none 0 0) := cell_up hbC (by go_keep); have HbC := Aside0.mk (show Below w4.heap.size w4 wC from below_step (by repeat (first | (with_reducible first | exact Below.refl _ _ | exact HbA.out | exact HbB.out | apply below_alloc | apply pw_below_drewN | apply below_drew1) | exact Below.refl _ _ | exact HbA.out | exact HbB.out)) hbC); have yC := hbC.size; simp at yC; have tC4 : w4.heap.size < wC.heap.size := (by omega); (try have uC4 : w4.heap.size + 1 < wC.heap.size := (by omega)); have tCA : wA.heap.size < wC.heap.size := (by omega); (try have uCA : wA.heap.size + 1 < wC.heap.size := (by omega)); have tCB : wB.heap.size < wC.heap.size := (by omega); (try have uCB : wB.heap.size + 1 < wC.heap.size := (by omega)); obtain ⟨zcC, zfC⟩ := bcell hbC; have mC0 : wC.heap.size ≠ gx := (by have := Hgxl.out; have := HbC.out.size; omega); have mC1 : wC.heap.size + 1 ≠ gx := (by have := Hgxl.out; have := HbC.out.size; omega); clear hbC))
    all_goals go_wp2_with fail
    all_goals go_meet
    all_goals first
      | (refine ⟨_, w4.heap.size, wA.heap.size, wB.heap.size, rfl, ?_, ?_, ?_, ?_, ?_, ?_, ?_, ?_, ?_, ?_, ?_, ?_, ?_, ?_, ?_, ⟨(by repeat (first | (with_reducible first | exact HbC.out | apply below_alloc | apply pw_below_drewN | apply below_drew1 | refine below_set ?_ (by have := HbC.out.size; have := HbA.out.size; have := HbB.out.size; omega)) | exact HbC.out))⟩⟩ <;> (refine ⟨?_⟩; first | (go_simp; done) | (simp (disch := first | omega | (simp; omega)) only [zcC, zcB, zcA, cell_alloc_lt, cell_alloc_at, cell_alloc_at1, cell_set_far, cell_drew0]; first | done | rfl | (go_simp; done))))
      | (have G0 : wC.cell? ⟨wB.heap.size, 0, none⟩ = some (.int .i64 0) := (by simp (disch := first | omega | (simp; omega)) only [zcC, zcB, zcA, cell_alloc_lt, cell_alloc_at, cell_alloc_at1, cell_set_far, cell_drew0]; first | done | rfl | (go_simp; done)); have G1 : wC.cell? ⟨wB.heap.size, 1, none⟩ = some (.int .i64 0) := (by simp (disch := first | omega | (simp; omega)) only [zcC, zcB, zcA, cell_alloc_lt, cell_alloc_at, cell_alloc_at1, cell_set_far, cell_drew0]; first | done | rfl | (go_simp; done)); have G2 : wC.cell? ⟨wB.heap.size, 2, none⟩ = some (.slice none 0 0) := (by simp (disch := first | omega | (simp; omega)) only [zcC, zcB, zcA, cell_alloc_lt, cell_alloc_at, cell_alloc_at1, cell_set_far, cell_drew0]; first | done | rfl | (go_simp; done)); refine ⟨wB.heap.size, w4.heap.size, wA.heap.size, wB.heap.size + 1, rfl, ⟨(cell_set3 (.int .i64 2) (.int .i64 0) (.slice (some ⟨wB.heap.size + 1, 0, none⟩) 2 2) G0 G1 G2).1⟩, ⟨(cell_set3 (.int .i64 2) (.int .i64 0) (.slice (some ⟨wB.heap.size + 1, 0, none⟩) 2 2) G0 G1 G2).2.1⟩, ⟨(cell_set3 (.int .i64 2) (.int .i64 0) (.slice (some ⟨wB.heap.size + 1, 0, none⟩) 2 2) G0 G1 G2).2.2⟩, ?_, ?_, ?_, ?_, ?_, ?_, ?_, ?_, ?_, ?_, ?_, ?_, ⟨(by repeat (first | (with_reducible first | exact HbC.out | apply below_alloc | apply pw_below_drewN | apply below_drew1 | refine below_set ?_ (by have := HbC.out.size; have := HbA.out.size; have := HbB.out.size; omega)) | exact HbC.out))⟩⟩ <;> (refine ⟨?_⟩; first | (go_simp; done) | (simp (disch := first | omega | (simp; omega)) only [zcC, zcB, zcA, cell_alloc_lt, cell_alloc_at, cell_alloc_at1, cell_set_far, cell_drew0]; first | done | rfl | (go_simp; done))))
      | (have G0 : wC.cell? ⟨wA.heap.size, 0, none⟩ = some (.int .i64 0) := (by simp (disch := first | omega | (simp; omega)) only [zcC, zcB, zcA, cell_alloc_lt, cell_alloc_at, cell_alloc_at1, cell_set_far, cell_drew0]; first | done | rfl | (go_simp; done)); have G1 : wC.cell? ⟨wA.heap.size, 1, none⟩ = some (.int .i64 0) := (by simp (disch := first | omega | (simp; omega)) only [zcC, zcB, zcA, cell_alloc_lt, cell_alloc_at, cell_alloc_at1, cell_set_far, cell_drew0]; first | done | rfl | (go_simp; done)); have G2 : wC.cell? ⟨wA.heap.size, 2, none⟩ = some (.slice none 0 0) := (by simp (disch := first | omega | (simp; omega)) only [zcC, zcB, zcA, cell_alloc_lt, cell_alloc_at, cell_alloc_at1, cell_set_far, cell_drew0]; first | done | rfl | (go_simp; done)); refine ⟨wA.heap.size, w4.heap.size, wA.heap.size + 1, wB.heap.size, rfl, ⟨(cell_set3 (.int .i64 2) (.int .i64 0) (.slice (some ⟨wB.heap.size, 0, none⟩) 2 2) G0 G1 G2).1⟩, ⟨(cell_set3 (.int .i64 2) (.int .i64 0) (.slice (some ⟨wB.heap.size, 0, none⟩) 2 2) G0 G1 G2).2.1⟩, ⟨(cell_set3 (.int .i64 2) (.int .i64 0) (.slice (some ⟨wB.heap.size, 0, none⟩) 2 2) G0 G1 G2).2.2⟩, ?_, ?_, ?_, ?_, ?_, ?_, ?_, ?_, ?_, ?_, ?_, ?_, ⟨(by repeat (first | (with_reducible first | exact HbC.out | apply below_alloc | apply pw_below_drewN | apply below_drew1 | refine below_set ?_ (by have := HbC.out.size; have := HbA.out.size; have := HbB.out.size; omega)) | exact HbC.out))⟩⟩ <;> (refine ⟨?_⟩; first | (go_simp; done) | (simp (disch := first | omega | (simp; omega)) only [zcC, zcB, zcA, cell_alloc_lt, cell_alloc_at, cell_alloc_at1, cell_set_far, cell_drew0]; first | done | rfl | (go_simp; done))))
      | (have G0 : wC.cell? ⟨w4.heap.size, 0, none⟩ = some (.int .i64 0) := (by simp (disch := first | omega | (simp; omega)) only [zcC, zcB, zcA, cell_alloc_lt, cell_alloc_at, cell_alloc_at1, cell_set_far, cell_drew0]; first | done | rfl | (go_simp; done)); have G1 : wC.cell? ⟨w4.heap.size, 1, none⟩ = some (.int .i64 0) := (by simp (disch := first | omega | (simp; omega)) only [zcC, zcB, zcA, cell_alloc_lt, cell_alloc_at, cell_alloc_at1, cell_set_far, cell_drew0]; first | done | rfl | (go_simp; done)); have G2 : wC.cell? ⟨w4.heap.size, 2, none⟩ = some (.slice none 0 0) := (by simp (disch := first | omega | (simp; omega)) only [zcC, zcB, zcA, cell_alloc_lt, cell_alloc_at, cell_alloc_at1, cell_set_far, cell_drew0]; first | done | rfl | (go_simp; done)); refine ⟨w4.heap.size, w4.heap.size + 1, wA.heap.size, wB.heap.size, rfl, ⟨(cell_set3 (.int .i64 2) (.int .i64 0) (.slice (some ⟨wB.heap.size, 0, none⟩) 2 2) G0 G1 G2).1⟩, ⟨(cell_set3 (.int .i64 2) (.int .i64 0) (.slice (some ⟨wB.heap.size, 0, none⟩) 2 2) G0 G1 G2).2.1⟩, ⟨(cell_set3 (.int .i64 2) (.int .i64 0) (.slice (some ⟨wB.heap.size, 0, none⟩) 2 2) G0 G1 G2).2.2⟩, ?_, ?_, ?_, ?_, ?_, ?_, ?_, ?_, ?_, ?_, ?_, ?_, ⟨(by repeat (first | (with_reducible first | exact HbC.out | apply below_alloc | apply pw_below_drewN | apply below_drew1 | refine below_set ?_ (by have := HbC.out.size; have := HbA.out.size; have := HbB.out.size; omega)) | exact HbC.out))⟩⟩ <;> (refine ⟨?_⟩; first | (go_simp; done) | (simp (disch := first | omega | (simp; omega)) only [zcC, zcB, zcA, cell_alloc_lt, cell_alloc_at, cell_alloc_at1, cell_set_far, cell_drew0]; first | done | rfl | (go_simp; done))))
  case rest =>
    obtain ⟨gb, gA, gB, gC, rfl, B0, B1, B2, A0, A1, A2, D0, D1, D2, E0, E1, E2, E3, E4, E5, HBc⟩ := hcut
    have K0 := C_cel1 (d := k44) (x := x0) _ (cel3 A0.out A1.out A2.out) (k44_mk _ x0 (Nat.zero_le _) (C_nil k44 _))
    have K1 := C_cel1 (d := k44) (x := x1) _ (cel3 D0.out D1.out D2.out) (k44_mk _ x1 (Nat.le_refl _) K0)
    have K2 := C_cel2 (d := k44) (x := x0) (x' := x2) _ _ (cel6 E0.out E1.out E2.out E3.out E4.out E5.out) (k44_mk _ x0 (Nat.zero_le _) (C_nil k44 _)) (k44_mk _ x2 (Nat.le_refl _) K1)
    have HK2 := Aside0.mk K2
    have Hgxc := Aside0.mk (blk_below Hgx.out HBc.out)
    have HB5 := Aside0.mk (below_step HB4.out HBc.out)
    have Hsyc := Aside0.mk (C_blk3 (d := k59) (x := ⟨⟨#[97]⟩, 2⟩) (x' := ⟨⟨#[98]⟩, 1⟩) (x'' := ⟨⟨#[99]⟩, 0⟩) [.string ⟨#[97]⟩, .int .i64 2] [.string ⟨#[98]⟩, .int .i64 1] [.string ⟨#[99]⟩, .int .i64 0] Hsy.out (k59_mk _ _) (k59_mk _ _) (k59_mk _ _))
    have b0 := B0.out
    have b1 := B1.out
    have b2 := B2.out
    clear K0 K1 K2 c0 c1 c2 B0 B1 B2 A0 A1 A2 D0 D1 D2 E0 E1 E2 E3 E4 E5 Hgx HB4 HBc
    go_upto_region 4 with (fail)
    go_region_held3 (fun w' => w'.cell? ⟨gb, 0, none⟩ = some (.int .i64 2) ∧ w'.cell? ⟨gb, 1, none⟩ = some (.int .i64 0) ∧ w'.cell? ⟨gb, 2, none⟩ = some (.slice (some ⟨gC, 0, none⟩) 2 2)) (go_keep)
      (first
        | (go_at_call 27; (with_reducible refine (term_ex 2 2 _ _ _ _).mono ?_); rintro e wF ⟨rfl, hbF⟩; have f0 := cell_up hbF b0; have f1 := cell_up hbF b1; have f2 := cell_up hbF b2; have HbF := Aside0.mk (show Below wc.heap.size wc wF from below_step (below_drew (Below.refl _ _)) hbF); clear hbF)
        | (go_at_call 27; (with_reducible refine (term_ex 1 1 _ _ _ _).mono ?_); rintro e wG ⟨rfl, hbG⟩; have g0 := cell_up hbG ((cell_alloc_lt _ _ _ _ (World.block_lt_of_cell? _ _ f0)).trans f0); have g1 := cell_up hbG ((cell_alloc_lt _ _ _ _ (World.block_lt_of_cell? _ _ f1)).trans f1); have g2 := cell_up hbG ((cell_alloc_lt _ _ _ _ (World.block_lt_of_cell? _ _ f2)).trans f2); have HCG := Aside0.mk (Kd.C_below (C_blk1 (d := k44) (x := xc) [.int .i64 2, .int .i64 2, .slice none 0 0] (blk_new wF _) (k44_mk _ xc (Nat.zero_le _) (C_nil k44 _))) hbG); have HbG := Aside0.mk (show Below wc.heap.size wc wG from below_step (below_alloc HbF.out _) hbG); clear hbG)
        | (go_at_call 13; (with_reducible refine (sorts_ex 40 _ 3 3 exSyms _ 2 2 ex1 _ 0 _ rfl rfl (Kd.C_below Hsyc.out (below_alloc (below_step HB5.out HbG.out) _)) (by omega) (C_blk2 (d := k48) (x := ⟨⟨#[115]⟩, 0, ⟨1, 1, [xc]⟩⟩) (x' := ⟨⟨#[102]⟩, 1, x3⟩) [.string ⟨#[115]⟩, .int .i64 0, .int .i64 1, .int .i64 1, .slice (some ⟨wF.heap.size, 0, none⟩) 1 1] [.string ⟨#[102]⟩, .int .i64 1, .int .i64 2, .int .i64 0, .slice (some ⟨gC, 0, none⟩) 2 2] (blk_new wG _) (k48_mk _ _ (Nat.le_refl _) (Kd.C_below HCG.out (below_alloc (Below.refl _ _) _))) (k48_mk _ _ (Nat.le_refl _) (Kd.C_below HK2.out (below_alloc HbG.out _)))) (by omega) ev1).mono ?_); rintro e wS ⟨A4, c4, rfl, hC4, hbS⟩; have s0 := cell_up hbS ((cell_alloc_lt _ _ _ _ (World.block_lt_of_cell? _ _ g0)).trans g0); have s1 := cell_up hbS ((cell_alloc_lt _ _ _ _ (World.block_lt_of_cell? _ _ g1)).trans g1); have s2 := cell_up hbS ((cell_alloc_lt _ _ _ _ (World.block_lt_of_cell? _ _ g2)).trans g2); have HbS := Aside0.mk (show Below wc.heap.size wc wS from below_step (below_alloc HbG.out _) hbS); have HC4 := Aside0.mk hC4; clear hbS hC4))
    clear f0 f1 f2 g0 g1 g2 s0 s1 s2 b0 b1 b2
    have HB6 := Aside0.mk (below_step HB5.out HbS.out)
    have Hgxs := Aside0.mk (blk_below Hgxc.out HbS.out)
    clear HB5 HbS HbF HbG HCG HK2 Hgxc
    go_upto_region 5 with (fail)
    go_cut [6, 7] (fun v6 v7 wd => ∃ (A6 : Option Addr) (c6 : Nat), v6 = .slice A6 0 c6 ∧ v7 = .int .i64 6 ∧ Aside0 (Below wS.heap.size wS wd))
    case first =>
      have b0 : wS.cell? ⟨gx, 0, none⟩ = some (.int .i64 0) := (blk_cell Hgxs.out 0).trans rfl
      have b1 : wS.cell? ⟨gx, 1, none⟩ = some (.int .i64 0) := (blk_cell Hgxs.out 1).trans rfl
      have b2 : wS.cell? ⟨gx, 2, none⟩ = some (.slice none 0 0) := (blk_cell Hgxs.out 2).trans rfl
      go_region_held3 (fun w' => w'.cell? ⟨gx, 0, none⟩ = some (.int .i64 0) ∧ w'.cell? ⟨gx, 1, none⟩ = some (.int .i64 0) ∧ w'.cell? ⟨gx, 2, none⟩ = some (.slice none 0 0)) (go_keep)
        (first
          | (go_at_call 27; (with_reducible refine (term_ex 2 2 _ _ _ _).mono ?_); rintro e wF ⟨rfl, hbF⟩; have f0 := cell_up hbF (by first | exact b0 | exact ((cell_alloc_lt _ _ _ _ (World.block_lt_of_cell? _ _ b0)).trans b0)); have f1 := cell_up hbF (by first | exact b1 | exact ((cell_alloc_lt _ _ _ _ (World.block_lt_of_cell? _ _ b1)).trans b1)); have f2 := cell_up hbF (by first | exact b2 | exact ((cell_alloc_lt _ _ _ _ (World.block_lt_of_cell? _ _ b2)).trans b2)); have HF := Aside0.mk (show Below wS.heap.size wS wF from below_step (by repeat (first | (with_reducible first | exact Below.refl _ _ | apply below_alloc | apply pw_below_drewN | apply below_drew1) | exact Below.refl _ _)) hbF); have HbF := Aside0.mk hbF; clear hbF)
          | (go_at_call 27; (with_reducible refine (term_ex 0 0 _ _ _ _).mono ?_); rintro e wG ⟨rfl, hbG⟩; have g0 := cell_up hbG (by first | exact f0 | exact ((cell_alloc_lt _ _ _ _ (World.block_lt_of_cell? _ _ f0)).trans f0)); have g1 := cell_up hbG (by first | exact f1 | exact ((cell_alloc_lt _ _ _ _ (World.block_lt_of_cell? _ _ f1)).trans f1)); have g2 := cell_up hbG (by first | exact f2 | exact ((cell_alloc_lt _ _ _ _ (World.block_lt_of_cell? _ _ f2)).trans f2)); have HG := Aside0.mk (show Below wS.heap.size wS wG from below_step (by repeat (first | (with_reducible first | exact Below.refl _ _ | exact HF.out | apply below_alloc | apply pw_below_drewN | apply below_drew1) | exact Below.refl _ _)) hbG); (first | have HCG := Aside0.mk (Kd.C_below (C_blk1 (d := k44) (x := x0) [.int .i64 0, .int .i64 0, .slice none 0 0] (blk_new wF _) (k44_mk _ x0 (Nat.zero_le _) (C_nil k44 _))) hbG) | have HCG := Aside0.mk (Kd.C_below (Kd.C_below (C_blk1 (d := k44) (x := x0) [.int .i64 0, .int .i64 0, .slice none 0 0] (blk_drew (blk_new wS _)) (k44_mk _ x0 (Nat.zero_le _) (C_nil k44 _))) HbF.out) hbG) | have HCG := Aside0.mk (Kd.C_below (Kd.C_below (C_blk1 (d := k44) (x := x0) [.int .i64 0, .int .i64 0, .slice none 0 0] (blk_new wS.drew _) (k44_mk _ x0 (Nat.zero_le _) (C_nil k44 _))) HbF.out) hbG)); clear hbG)
          | (go_at_call 13; (with_reducible refine (sorts_ex 40 _ 3 3 exSyms _ 2 2 ex2 _ 6 _ rfl rfl (Kd.C_below Hsyc.out (below_alloc (below_step HB6.out HG.out) _)) (by omega) (C_blk2 (d := k48) (x := ⟨⟨#[115]⟩, 0, xc⟩) (x' := ⟨⟨#[102]⟩, 1, ⟨0, 0, [x0]⟩⟩) [.string ⟨#[115]⟩, .int .i64 0, .int .i64 2, .int .i64 2, .slice none 0 0] [.string ⟨#[102]⟩, .int .i64 1, .int .i64 0, .int .i64 0, .slice (some ⟨_, 0, none⟩) 1 1] (blk_new wG _) (k48_mk _ _ (Nat.zero_le _) (C_nil k44 _)) (k48_mk _ ⟨⟨#[102]⟩, 1, ⟨0, 0, [x0]⟩⟩ (Nat.le_refl _) (Kd.C_below HCG.out (below_alloc (Below.refl _ _) _)))) (by omega) ev2).mono ?_); rintro e wT ⟨A6, c6, rfl, hC6, hbT⟩; have t0 := cell_up hbT (by first | exact g0 | exact ((cell_alloc_lt _ _ _ _ (World.block_lt_of_cell? _ _ g0)).trans g0)); have t1 := cell_up hbT (by first | exact g1 | exact ((cell_alloc_lt _ _ _ _ (World.block_lt_of_cell? _ _ g1)).trans g1)); have t2 := cell_up hbT (by first | exact g2 | exact ((cell_alloc_lt _ _ _ _ (World.block_lt_of_cell? _ _ g2)).trans g2)); have HT := Aside0.mk (show Below wS.heap.size wS wT from below_step (below_alloc HG.out _) hbT); clear hbT hC6))
      all_goals go_wp2_with fail
      all_goals go_meet
      all_goals (case rel => exact ⟨A6, c6, rfl, rfl, HT⟩)
    case rest =>
      obtain ⟨A6, c6, rfl, rfl, HBd⟩ := hcut
      have HB7 := Aside0.mk (below_step HB6.out HBd.out)
      have Hgxd := Aside0.mk (blk_below Hgxs.out HBd.out)
      have HC4d := Aside0.mk (Kd.C_below HC4.out HBd.out)
      clear HB6 HBd Hgxs HC4
      generalize wc = wd at *
      go_upto_region 6 with (fail)
      have b0 : wd.cell? ⟨gx, 0, none⟩ = some (.int .i64 0) := (blk_cell Hgxd.out 0).trans rfl
      have b1 : wd.cell? ⟨gx, 1, none⟩ = some (.int .i64 0) := (blk_cell Hgxd.out 1).trans rfl
      have b2 : wd.cell? ⟨gx, 2, none⟩ = some (.slice none 0 0) := (blk_cell Hgxd.out 2).trans rfl
      go_region_held3 (fun w' => w'.cell? ⟨gx, 0, none⟩ = some (.int .i64 0) ∧ w'.cell? ⟨gx, 1, none⟩ = some (.int .i64 0) ∧ w'.cell? ⟨gx, 2, none⟩ = some (.slice none 0 0)) (go_keep)
        (first
          | (go_at_call 27; (with_reducible refine (term_ex 2 2 _ _ _ _).mono ?_); rintro e wF ⟨rfl, hbF⟩; have f0 := cell_up hbF (by first | exact b0 | exact ((cell_alloc_lt _ _ _ _ (World.block_lt_of_cell? _ _ b0)).trans b0)); have f1 := cell_up hbF (by first | exact b1 | exact ((cell_alloc_lt _ _ _ _ (World.block_lt_of_cell? _ _ b1)).trans b1)); have f2 := cell_up hbF (by first | exact b2 | exact ((cell_alloc_lt _ _ _ _ (World.block_lt_of_cell? _ _ b2)).trans b2)); have HF := Aside0.mk (show Below wd.heap.size wd wF from below_step (by repeat (first | (with_reducible first | exact Below.refl _ _ | apply below_alloc | apply pw_below_drewN | apply below_drew1) | exact Below.refl _ _)) hbF); clear hbF)
          | (go_at_call 13; (with_reducible refine (sorts_ex 40 _ 3 3 exSyms _ 2 2 ex3 _ 0 _ rfl rfl (Kd.C_below Hsyc.out (below_alloc (below_step HB7.out HF.out) _)) (by omega) (C_blk2 (d := k48) (x := ⟨⟨#[115]⟩, 0, xc⟩) (x' := ⟨⟨#[107]⟩, 2, x0⟩) [.string ⟨#[115]⟩, .int .i64 0, .int .i64 2, .int .i64 2, .slice none 0 0] [.string ⟨#[107]⟩, .int .i64 2, .int .i64 0, .int .i64 0, .slice none 0 0] (blk_new wF _) (k48_mk _ _ (Nat.zero_le _) (C_nil k44 _)) (k48_mk _ ⟨⟨#[107]⟩, 2, x0⟩ (Nat.zero_le _) (C_nil k44 _))) (by omega) ev3).mono ?_); rintro e wU ⟨A8, c8, rfl, hC8, hbU⟩; have q0 := cell_up hbU (by first | exact f0 | exact ((cell_alloc_lt _ _ _ _ (World.block_lt_of_cell? _ _ f0)).trans f0)); have q1 := cell_up hbU (by first | exact f1 | exact ((cell_alloc_lt _ _ _ _ (World.block_lt_of_cell? _ _ f1)).trans f1)); have q2 := cell_up hbU (by first | exact f2 | exact ((cell_alloc_lt _ _ _ _ (World.block_lt_of_cell? _ _ f2)).trans f2)); have HU := Aside0.mk (show Below wd.heap.size wd wU from below_step (below_alloc HF.out _) hbU); have HC8 := Aside0.mk hC8; clear hbU hC8))
      have HB8 := Aside0.mk (below_step HB7.out HU.out)
      have HC4u := Aside0.mk (Kd.C_below HC4d.out HU.out)
      clear b0 b1 b2 f0 f1 f2 q0 q1 q2 HB7 HC4d HU HF Hgxd
      obtain ⟨ad4, Aa, ca, e4, hz0, _⟩ := k41_at (i := 0) (x := ⟨[]⟩) HC4u.out rfl
      obtain ⟨ad4', Ab, cb, e4', hz1, hCb⟩ := k41_at (i := 1) (x := ⟨[⟨[]⟩]⟩) HC4u.out rfl
      rw [e4] at e4'
      injection e4' with e4'
      subst e4' e4
      obtain ⟨adb, Ac, cc, eb, hz2, _⟩ := k41_at (i := 0) (x := ⟨[]⟩) hCb rfl
      subst eb
      obtain ⟨ad8, Ad, cd, e8, hz3, _⟩ := k41_at (i := 1) (x := ⟨[⟨[]⟩, ⟨[]⟩]⟩) HC8.out rfl
      subst e8
      clear hCb HC8 HC4u
      simp only [List.length_cons, List.length_nil, Nat.zero_add, Nat.reduceAdd] at hz0 hz1 hz2 hz3
      have hfin := Aside0.mk (show Below w.heap.size w wU from by
        have h1 := HB1.out
        have h2 := HB8.out
        have e := Hgs.out
        rw [← e] at h1
        exact below_step h1 h2)
      have add0 : ∀ a : Addr, a.add 0 = a := fun a => by unfold Addr.add; split <;> simp_all
      rw [add0] at hz0 hz2
      clear add0
      simp only [Addr.add] at hz1 hz3
      simp at hz1 hz3
      go_wp2_with fail
      go_ret
      exact ⟨rfl, hfin.out⟩
def virgationlaw04_alive.f : Option Bool := some true
end Go.Proofs.Ytfhgoebgnilfaaa.I
namespace Go.Proofs.Ytfhgoebgnilfaaa.I
open Go.RowKit Go.Proofs.YtfhgoebgnilfaaaW.PrintWords Go.Proofs.YtfhgoebgnilfaaaW.PrintLast Go.Proofs.YtfhgoebgnilfaaaW.PrintMore
attribute [local go_sem] max2_int min2_int max_two min_two max_three min_three max_four min_four   -- for this text's walks alone
set_option linter.unusedVariables false
set_option linter.unusedSimpArgs false
def virgationlaw04_InferCheck.f (k : Nat) (l0 : List (S59)) (l1 : List (S56)) : Option (Bool) := if (l1.length : Int) > 1000 then ((virgationlaw04_alive.f).bind fun t157 => (some t157)) else ((virgationlaw04_given.f k l1).bind fun t158 => ((infer_Check.f l0 t158).bind fun t161 => ((virgationref04_Check.f k l0 l1).bind fun t162 => (if t161 = t162 then ((virgationlaw04_alive.f).bind fun t163 => (some t163)) else (some false)))))
theorem virgationlaw04_InferCheck.mono : ∀ a0 a1 k, LeO (virgationlaw04_InferCheck.f k a0 a1) (virgationlaw04_InferCheck.f (k + 1) a0 a1) := by
  intro a0 a1 k
  unfold virgationlaw04_InferCheck.f
  repeat' first
      | (with_reducible exact virgationlaw04_given.mono _ _)
      | (with_reducible exact virgationref04_Check.mono _ _ _)
      | (with_reducible exact LeO.refl _)
      | (with_reducible exact LeO.none _)
      | (with_reducible refine LeO.ite ?_ ?_)
      | (with_reducible refine LeO.bind ?_ (fun _ => ?_))
      | exact virgationlaw04_given.mono _ _
      | exact virgationref04_Check.mono _ _ _
      | exact LeO.none _
      | refine LeO.ite ?_ ?_
      | refine LeO.bind ?_ (fun _ => ?_)
mutual
def virgationref01_Nodes.l0 : Nat → Int → Int → Int → List (S41) → Option (Int)
  | 0, _, _, _, _ => none
  | k + 1, x1, x5, x6, x165000 => if x6 < (x165000.length : Int) then (if x5 ≤ x1 then (if 0 ≤ x6 then ((virgationref01_Nodes.f k ((rd_T41 x165000 x6).f0) (wrap64 (x1 - x5))).bind fun t166 => (virgationref01_Nodes.l0 k x1 (wrap64 (x5 + t166)) (wrap64 (x6 + 1)) x165000)) else (none)) else (some x5)) else (some x5)
def virgationref01_Nodes.f : Nat → List (S41) → Int → Option (Int)
  | 0, _, _ => none
  | k + 1, l0_0, a1 => virgationref01_Nodes.l0 k a1 1 0 l0_0
end
theorem virgationref01_Nodes.mono_l : ∀ k, (∀ y0 y1, LeO (virgationref01_Nodes.f k y0 y1) (virgationref01_Nodes.f (k + 1) y0 y1)) ∧ (∀ y0 y1 y2 y3, LeO (virgationref01_Nodes.l0 k y0 y1 y2 y3) (virgationref01_Nodes.l0 (k + 1) y0 y1 y2 y3))
  | 0 => ⟨fun _ _ r h => by simp [virgationref01_Nodes.f] at h, fun _ _ _ _ r h => by simp [virgationref01_Nodes.l0] at h⟩
  | k + 1 => by
    obtain ⟨ih0, ih1⟩ := virgationref01_Nodes.mono_l k
    refine ⟨?_, ?_⟩
    · intro y0 y1
      unfold virgationref01_Nodes.f
      repeat' first
      | (with_reducible exact ih0 _ _)
      | (with_reducible exact ih1 _ _ _ _)
      | (with_reducible exact LeO.refl _)
      | (with_reducible exact LeO.none _)
      | (with_reducible refine LeO.ite ?_ ?_)
      | (with_reducible refine LeO.bind ?_ (fun _ => ?_))
      | exact ih0 _ _
      | exact ih1 _ _ _ _
      | exact LeO.none _
      | refine LeO.ite ?_ ?_
      | refine LeO.bind ?_ (fun _ => ?_)
    · intro y0 y1 y2 y3
      unfold virgationref01_Nodes.l0
      repeat' first
      | (with_reducible exact ih0 _ _)
      | (with_reducible exact ih1 _ _ _ _)
      | (with_reducible exact LeO.refl _)
      | (with_reducible exact LeO.none _)
      | (with_reducible refine LeO.ite ?_ ?_)
      | (with_reducible refine LeO.bind ?_ (fun _ => ?_))
      | exact ih0 _ _
      | exact ih1 _ _ _ _
      | exact LeO.none _
      | refine LeO.ite ?_ ?_
      | refine LeO.bind ?_ (fun _ => ?_)
theorem virgationref01_Nodes.mono : ∀ a0 a1 k, LeO (virgationref01_Nodes.f k a0 a1) (virgationref01_Nodes.f (k + 1) a0 a1) := by
  intro a0 a1 k
  obtain ⟨ih0, ih1⟩ := virgationref01_Nodes.mono_l k
  exact ih0 a0 a1
mutual
def virgationref01_depth.l0 : Nat → Int → List (S41) → Int → Int → Option (Int)
  | 0, _, _, _, _ => none
  | k + 1, x3, x7, x8, x9 => if x9 < x8 then (if 0 ≤ x9 then (if x9 < (x7.length : Int) then ((virgationref01_depth.f k ((rd_T41 x7 x9).f0)).bind fun t170 => (virgationref01_depth.l0 k (mx x3 t170) x7 x8 (wrap64 (x9 + 1)))) else (none)) else (none)) else (some (wrap64 (x3 + 1)))
def virgationref01_depth.f : Nat → List (S41) → Option (Int)
  | 0, _ => none
  | k + 1, l0_0 => virgationref01_depth.l0 k 0 l0_0 (l0_0.length : Int) 0
end
theorem virgationref01_depth.mono_l : ∀ k, (∀ y0, LeO (virgationref01_depth.f k y0) (virgationref01_depth.f (k + 1) y0)) ∧ (∀ y0 y1 y2 y3, LeO (virgationref01_depth.l0 k y0 y1 y2 y3) (virgationref01_depth.l0 (k + 1) y0 y1 y2 y3))
  | 0 => ⟨fun _ r h => by simp [virgationref01_depth.f] at h, fun _ _ _ _ r h => by simp [virgationref01_depth.l0] at h⟩
  | k + 1 => by
    obtain ⟨ih0, ih1⟩ := virgationref01_depth.mono_l k
    refine ⟨?_, ?_⟩
    · intro y0
      unfold virgationref01_depth.f
      repeat' first
      | (with_reducible exact ih0 _)
      | (with_reducible exact ih1 _ _ _ _)
      | (with_reducible exact LeO.refl _)
      | (with_reducible exact LeO.none _)
      | (with_reducible refine LeO.ite ?_ ?_)
      | (with_reducible refine LeO.bind ?_ (fun _ => ?_))
      | exact ih0 _
      | exact ih1 _ _ _ _
      | exact LeO.none _
      | refine LeO.ite ?_ ?_
      | refine LeO.bind ?_ (fun _ => ?_)
    · intro y0 y1 y2 y3
      unfold virgationref01_depth.l0
      repeat' first
      | (with_reducible exact ih0 _)
      | (with_reducible exact ih1 _ _ _ _)
      | (with_reducible exact LeO.refl _)
      | (with_reducible exact LeO.none _)
      | (with_reducible refine LeO.ite ?_ ?_)
      | (with_reducible refine LeO.bind ?_ (fun _ => ?_))
      | exact ih0 _
      | exact ih1 _ _ _ _
      | exact LeO.none _
      | refine LeO.ite ?_ ?_
      | refine LeO.bind ?_ (fun _ => ?_)
theorem virgationref01_depth.mono : ∀ a0 k, LeO (virgationref01_depth.f k a0) (virgationref01_depth.f (k + 1) a0) := by
  intro a0 k
  obtain ⟨ih0, ih1⟩ := virgationref01_depth.mono_l k
  exact ih0 a0
mutual
def virgationref01_few.l0 : Nat → List (S41) → Int → Int → List (S41) → Option (Bool)
  | 0, _, _, _, _ => none
  | k + 1, x6, x7, x8, x172000 => if x8 < x7 then (if 0 ≤ x8 then (if x8 < (x6.length : Int) then ((virgationref01_few.f k ((rd_T41 x6 x8).f0)).bind fun t174 => (if t174 = true then (virgationref01_few.l0 k x6 x7 (wrap64 (x8 + 1)) x172000) else (some false))) else (none)) else (none)) else (some (decide ((x172000.length : Int) ≤ 8)))
def virgationref01_few.f : Nat → List (S41) → Option (Bool)
  | 0, _ => none
  | k + 1, l0_0 => virgationref01_few.l0 k l0_0 (l0_0.length : Int) 0 l0_0
end
theorem virgationref01_few.mono_l : ∀ k, (∀ y0, LeO (virgationref01_few.f k y0) (virgationref01_few.f (k + 1) y0)) ∧ (∀ y0 y1 y2 y3, LeO (virgationref01_few.l0 k y0 y1 y2 y3) (virgationref01_few.l0 (k + 1) y0 y1 y2 y3))
  | 0 => ⟨fun _ r h => by simp [virgationref01_few.f] at h, fun _ _ _ _ r h => by simp [virgationref01_few.l0] at h⟩
  | k + 1 => by
    obtain ⟨ih0, ih1⟩ := virgationref01_few.mono_l k
    refine ⟨?_, ?_⟩
    · intro y0
      unfold virgationref01_few.f
      repeat' first
      | (with_reducible exact ih0 _)
      | (with_reducible exact ih1 _ _ _ _)
      | (with_reducible exact LeO.refl _)
      | (with_reducible exact LeO.none _)
      | (with_reducible refine LeO.ite ?_ ?_)
      | (with_reducible refine LeO.bind ?_ (fun _ => ?_))
      | exact ih0 _
      | exact ih1 _ _ _ _
      | exact LeO.none _
      | refine LeO.ite ?_ ?_
      | refine LeO.bind ?_ (fun _ => ?_)
    · intro y0 y1 y2 y3
      unfold virgationref01_few.l0
      repeat' first
      | (with_reducible exact ih0 _)
      | (with_reducible exact ih1 _ _ _ _)
      | (with_reducible exact LeO.refl _)
      | (with_reducible exact LeO.none _)
      | (with_reducible refine LeO.ite ?_ ?_)
      | (with_reducible refine LeO.bind ?_ (fun _ => ?_))
      | exact ih0 _
      | exact ih1 _ _ _ _
      | exact LeO.none _
      | refine LeO.ite ?_ ?_
      | refine LeO.bind ?_ (fun _ => ?_)
theorem virgationref01_few.mono : ∀ a0 k, LeO (virgationref01_few.f k a0) (virgationref01_few.f (k + 1) a0) := by
  intro a0 k
  obtain ⟨ih0, ih1⟩ := virgationref01_few.mono_l k
  exact ih0 a0
def virgationref01_Is.f (k : Nat) (l0_0 : List (S41)) : Option (Bool) := (virgationref01_Nodes.f k l0_0 60).bind fun t176 => (if t176 ≤ 60 then ((virgationref01_depth.f k l0_0).bind fun t177 => (if t177 ≤ 30 then ((virgationref01_few.f k l0_0).bind fun t178 => (some t178)) else (some false))) else (some false))
theorem virgationref01_Is.mono : ∀ a0 k, LeO (virgationref01_Is.f k a0) (virgationref01_Is.f (k + 1) a0) := by
  intro a0 k
  unfold virgationref01_Is.f
  repeat' first
      | (with_reducible exact virgationref01_Nodes.mono _ _ _)
      | (with_reducible exact virgationref01_depth.mono _ _)
      | (with_reducible exact virgationref01_few.mono _ _)
      | (with_reducible exact LeO.refl _)
      | (with_reducible exact LeO.none _)
      | (with_reducible refine LeO.ite ?_ ?_)
      | (with_reducible refine LeO.bind ?_ (fun _ => ?_))
      | exact virgationref01_Nodes.mono _ _ _
      | exact virgationref01_depth.mono _ _
      | exact virgationref01_few.mono _ _
      | exact LeO.none _
      | refine LeO.ite ?_ ?_
      | refine LeO.bind ?_ (fun _ => ?_)
end Go.Proofs.Ytfhgoebgnilfaaa.I
namespace Go.Proofs.Ytfhgoebgnilfaaa.I
open Go.RowKit Go.Proofs.YtfhgoebgnilfaaaW.PrintWords
set_option linter.unusedVariables false
mutual
theorem wf44_twf : ∀ {x : S44}, wf44 x → twfB x = true
  | ⟨k, n, l⟩, h => by
    unfold wf44 at h
    unfold twfB
    rw [Bool.and_eq_true]
    exact ⟨h.1, wf44L_twf h.2.2.2⟩
theorem wf44L_twf : ∀ {l : List S44}, wf44L l → twfBL l = true
  | [], _ => rfl
  | x :: xs, h => by
    unfold wf44L at h
    unfold twfBL
    rw [Bool.and_eq_true]
    exact ⟨wf44_twf h.1, wf44L_twf h.2⟩
end
theorem looseWf_to48 {l : List S56} (h : ∀ y_, y_ ∈ l → wf56 y_) : looseWf (l.map to48) = true := by
  unfold looseWf
  rw [List.all_eq_true]
  intro x hx
  obtain ⟨y, hy, rfl⟩ := List.mem_map.1 hx
  exact wf44_twf (h y hy).2.2
theorem given_loop (l : List S56) (hl : l.length ≤ 1000) : ∀ (m i : Nat), l.length - i = m → i ≤ l.length → Ev (fun k => virgationlaw04_given.l0 k ((l.take i).map to48) l (l.length : Int) (i : Int)) (l.map to48) := by
  intro m
  induction m with
  | zero =>
    intro i hm hi
    have hie : i = l.length := by omega
    subst hie
    refine Ev.step (fun k => by rw [virgationlaw04_given.l0, if_neg (by omega)]) ?_
    rw [List.take_length]
    exact Ev.now _
  | succ m ih =>
    intro i hm hi
    have hlt : i < l.length := by omega
    refine Ev.step (fun k => by
      rw [virgationlaw04_given.l0, if_pos (by omega), if_pos (by omega), if_pos (by omega), if_pos (by rw [List.length_map, List.length_take]; omega)]) ?_
    have e : wrap64 ((i : Int) + 1) = ((i + 1 : Nat) : Int) := by unfold wrap64; omega
    have e2 : (l.take i).map to48 ++ [(⟨(rd_T56 l (i : Int)).f0, (rd_T56 l (i : Int)).f1, (⟨(rd_T56 l (i : Int)).f2.f0, (rd_T56 l (i : Int)).f2.f1, (rd_T56 l (i : Int)).f2.f2⟩ : S44)⟩ : S48)] = (l.take (i + 1)).map to48 := by
      have e3 : l.take (i + 1) = l.take i ++ [l[i]] := by rw [List.take_add_one, List.getElem?_eq_getElem hlt]; rfl
      have e4 : rd_T56 l (i : Int) = l[i] := by unfold rd_T56; rw [Int.toNat_natCast, List.getD_eq_getElem?_getD, List.getElem?_eq_getElem hlt]; rfl
      rw [e3, List.map_append, e4]
      generalize l[i] = x
      obtain ⟨a, b, c, d, f⟩ := x
      rfl
    rw [e, e2]
    exact ih (i + 1) (by omega) (by omega)
theorem given_ev (l : List S56) (hl : l.length ≤ 1000) : Ev (fun k => virgationlaw04_given.f k l) (l.map to48) := by
  have h := given_loop l hl l.length 0 (by omega) (by omega)
  rw [List.take_zero] at h
  exact h
end Go.Proofs.Ytfhgoebgnilfaaa.I
