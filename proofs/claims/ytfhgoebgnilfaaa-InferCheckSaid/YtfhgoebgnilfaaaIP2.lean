/- Plain laws: heads that exist, and lists of symbols, as the package and the reference tell them. -/
import Derived.Test.YtfhgoebgnilfaaaIP1
namespace Go.Proofs.Ytfhgoebgnilfaaa.I
open Go.RowKit Go.Proofs.YtfhgoebgnilfaaaW.PrintWords Go.Proofs.YtfhgoebgnilfaaaW.PrintLast Go.Proofs.YtfhgoebgnilfaaaW.PrintMore
set_option linter.unusedVariables false
set_option maxRecDepth 100000
set_option linter.unusedSimpArgs false
theorem exist_j0 {p f s m kd n : Int} {l : List S44} {r : Bool} (h : Ev (fun k => virgationref04_exist.l0 k p f s l (l.length : Int) 0) r) :
    Ev (fun k => virgationref04_exist.j0 k p f s m kd n l) ((decide (0 ≤ n) && decide (n < m)) && r) := by
  refine Ev.step (fun k => by rw [virgationref04_exist.j0]) ?_
  by_cases h1 : n < 0
  · rw [decide_eq_false (by omega : ¬ 0 ≤ n), Bool.false_and, Bool.false_and]
    exact Ev.ifp h1 (Ev.step (fun k => by rw [virgationref04_exist.j1, if_pos rfl]) (Ev.now _))
  · rw [decide_eq_true (by omega : 0 ≤ n), Bool.true_and]
    refine Ev.ifn h1 ?_
    by_cases h2 : n ≥ m
    · rw [decide_eq_true h2, decide_eq_false (by omega : ¬ n < m), Bool.false_and]
      exact Ev.step (fun k => by rw [virgationref04_exist.j1, if_pos rfl]) (Ev.now _)
    · rw [decide_eq_false h2, decide_eq_true (by omega : n < m), Bool.true_and]
      exact Ev.step (fun k => by rw [virgationref04_exist.j1, if_neg (by simp)]) h
theorem exist_ev (N : Nat) : ∀ (kd n : Int) (l : List S44) (p f s : Int), SizeOf.sizeOf l < N → tcntL l ≤ 1000 → Ev (fun k => virgationref04_exist.f k kd n l p f s) (knownS ⟨kd, n, l⟩ p f s) := by
  induction N with
  | zero => intro kd n l p f s h; omega
  | succ N ih =>
  intro kd n l p f s hN h1
  have hlen := tcntL_ge l
  have loop : ∀ (m i : Nat), l.length - i = m → i ≤ l.length → Ev (fun k => virgationref04_exist.l0 k p f s l (l.length : Int) (i : Int)) (knownL (l.drop i) p f s) := by
    intro m
    induction m with
    | zero =>
      intro i hn hi
      have hd : l.drop i = [] := List.drop_eq_nil_of_le (by omega)
      rw [hd]
      change Ev _ true
      exact Ev.step (fun k => by rw [virgationref04_exist.l0, if_neg (by omega)]) (Ev.now _)
    | succ m ihm =>
      intro i hn hi
      have hil : i < l.length := by omega
      have hch := tcnt_child l i hil
      refine Ev.step (fun k => by rw [virgationref04_exist.l0, if_pos (by omega), if_pos (by omega), if_pos (by omega)]) ?_
      refine Ev.bind (ih _ _ _ p f s (by have := rd_T44_mem l i hil; omega) (by omega)) ?_
      rw [rd_T44_drop l i hil]
      have e : (⟨(rd_T44 l (i : Int)).f0, (rd_T44 l (i : Int)).f1, (rd_T44 l (i : Int)).f2⟩ : S44) = rd_T44 l (i : Int) := by cases rd_T44 l (i : Int); rfl
      rw [e]
      show Ev _ (knownS _ _ _ _ && knownL _ _ _ _)
      cases knownS (rd_T44 l (i : Int)) p f s
      · exact Ev.ifn (by simp) (Ev.now _)
      · refine Ev.ifp rfl ?_
        rw [w64 _ (by omega)]
        exact ihm (i + 1) (by omega) (by omega)
  have h0 := loop l.length 0 (by omega) (by omega)
  rw [List.drop_zero] at h0
  refine Ev.step (fun k => by rw [virgationref04_exist.f]) ?_
  have e : knownS ⟨kd, n, l⟩ p f s = ((isK kd && (decide (0 ≤ n) && decide (n < manyK kd p f s))) && knownL l p f s) := rfl
  rw [e]
  by_cases k0 : kd = 0
  · subst k0
    exact Ev.ifp rfl (exist_j0 h0)
  · refine Ev.ifn k0 ?_
    by_cases k1 : kd = 1
    · subst k1
      exact Ev.ifp rfl (exist_j0 h0)
    · refine Ev.ifn k1 ?_
      by_cases k2 : kd = 2
      · subst k2
        exact Ev.ifp rfl (exist_j0 h0)
      · have hk : isK kd = false := by unfold isK; exact decide_eq_false (by omega)
        rw [hk, Bool.false_and, Bool.false_and]
        refine Ev.ifn k2 ?_
        have := exist_j0 (p := p) (f := f) (s := s) (m := 0) (kd := kd) (n := n) h0
        have e2 : ((decide (0 ≤ n) && decide (n < 0)) && knownL l p f s) = false := by
          by_cases hn : 0 ≤ n
          · rw [decide_eq_false (by omega : ¬ n < 0), Bool.and_false, Bool.false_and]
          · rw [decide_eq_false hn, Bool.false_and, Bool.false_and]
        rw [e2] at this
        exact this
theorem isIn_cons (x : ByteArray) (L : List ByteArray) (s : ByteArray) : isIn (x :: L) s = (x.data.toList == s.data.toList || isIn L s) := rfl
/-- The loop over the symbols ahead. -/
theorem sym_inner {l : List S59} {i : Nat} {nm : ByteArray} {rk : Int} {R : Bool} (y : List S59) (hy : y.length ≤ 1000) (hR : Ev (fun k => virgationref02_Symbols.l0 k l l (l.length : Int) (wrap64 ((i : Int) + 1))) R) :
    ∀ (m j : Nat), y.length - j = m → j ≤ y.length → Ev (fun k => virgationref02_Symbols.l1 k l l (l.length : Int) (i : Int) y (y.length : Int) (j : Int) nm rk) (if isIn (names59 (y.drop j)) nm = true then false else R) := by
  intro m
  induction m with
  | zero =>
    intro j hn hj
    have hd : y.drop j = [] := List.drop_eq_nil_of_le (by omega)
    rw [hd, if_neg (by simp [names59, isIn])]
    exact Ev.step (fun k => by rw [virgationref02_Symbols.l1, if_neg (by omega)]) hR
  | succ m ihm =>
    intro j hn hj
    have hjl : j < y.length := by omega
    refine Ev.step (fun k => by rw [virgationref02_Symbols.l1, if_pos (by omega), if_pos (by omega), if_pos (by omega)]) ?_
    rw [rd_T59_drop y j hjl]
    show Ev _ (if isIn ((rd_T59 y (j : Int)).f0 :: names59 (y.drop (j + 1))) nm = true then false else R)
    rw [isIn_cons]
    by_cases he : nm.toList = (rd_T59 y (j : Int)).f0.toList
    · have : ((rd_T59 y (j : Int)).f0.data.toList == nm.data.toList) = true := by rw [beq_iff_eq, ← Go.ByteArray.toList_eq, ← Go.ByteArray.toList_eq]; exact he.symm
      rw [this, Bool.true_or, if_pos rfl]
      exact Ev.ifp he (Ev.now _)
    · have : ((rd_T59 y (j : Int)).f0.data.toList == nm.data.toList) = false := by
        rw [beq_eq_false_iff_ne, ← Go.ByteArray.toList_eq, ← Go.ByteArray.toList_eq]
        exact fun h => he h.symm
      rw [this, Bool.false_or]
      refine Ev.ifn he ?_
      rw [w64 _ (by omega)]
      exact ihm (j + 1) (by omega) (by omega)
theorem sym_j1 {l : List S59} {i : Nat} {nm : ByteArray} {rk : Int} {R : Bool} (hl : l.length ≤ 24) (hi : i < l.length) (b : Bool) (hR : Ev (fun k => virgationref02_Symbols.l0 k l l (l.length : Int) (wrap64 ((i : Int) + 1))) R) :
    Ev (fun k => virgationref02_Symbols.j1 k l (i : Int) l (l.length : Int) (i : Int) b nm rk) (if (b || isIn (names59 (l.take i)) nm) = true then false else R) := by
  cases b with
  | true => exact Ev.step (fun k => by rw [virgationref02_Symbols.j1, if_pos rfl]; rfl) (Ev.now _)
  | false =>
    rw [Bool.false_or]
    refine Ev.step (fun k => by rw [virgationref02_Symbols.j1, if_neg (by simp), if_pos (by omega), if_pos (by omega)]) ?_
    simp only [Option.bind_some, Int.toNat_natCast]
    have := sym_inner (nm := nm) (rk := rk) (l.take i) (by rw [List.length_take]; omega) hR (l.take i).length 0 (by omega) (by omega)
    rw [List.drop_zero] at this
    exact this
theorem symbols_ev (l : List S59) : Ev (fun k => virgationref02_Symbols.f k l) (symsL l [] && decide (l.length ≤ 24)) := by
  unfold virgationref02_Symbols.f
  by_cases h : (l.length : Int) > 24
  · rw [decide_eq_false (by omega : ¬ l.length ≤ 24), Bool.and_false]
    exact Ev.ifp h (Ev.now _)
  · rw [decide_eq_true (by omega : l.length ≤ 24), Bool.and_true]
    refine Ev.ifn h ?_
    have loop : ∀ (m i : Nat), l.length - i = m → i ≤ l.length → Ev (fun k => virgationref02_Symbols.l0 k l l (l.length : Int) (i : Int)) (symsL (l.drop i) (names59 (l.take i))) := by
      intro m
      induction m with
      | zero =>
        intro i hn hi
        have hd : l.drop i = [] := List.drop_eq_nil_of_le (by omega)
        rw [hd]
        change Ev _ true
        exact Ev.step (fun k => by rw [virgationref02_Symbols.l0, if_neg (by omega)]) (Ev.now _)
      | succ m ihm =>
        intro i hn hi
        have hil : i < l.length := by omega
        have hR : Ev (fun k => virgationref02_Symbols.l0 k l l (l.length : Int) (wrap64 ((i : Int) + 1))) (symsL (l.drop (i + 1)) (names59 (l.take (i + 1)))) := by
          rw [w64 _ (by omega)]
          exact ihm (i + 1) (by omega) (by omega)
        refine Ev.step (fun k => by rw [virgationref02_Symbols.l0, if_pos (by omega), if_pos (by omega), if_pos (by omega)]) ?_
        refine Ev.bind (refname_ev _) ?_
        rw [rd_T59_drop l i hil]
        show Ev _ (if symBad (rd_T59 l (i : Int)) (names59 (l.take i)) = true then false else symsL (l.drop (i + 1)) (names59 (l.take i) ++ [(rd_T59 l (i : Int)).f0]))
        rw [rd_T59_take l i hil]
        unfold symBad
        cases hn1 : nameOk (rd_T59 l (i : Int)).f0
        · refine Ev.ifn (by simp) ?_
          have := sym_j1 (nm := (rd_T59 l (i : Int)).f0) (rk := (rd_T59 l (i : Int)).f1) (by omega) hil true hR
          simpa using this
        · refine Ev.ifp rfl ?_
          by_cases h0 : (rd_T59 l (i : Int)).f1 < 0
          · refine Ev.ifp h0 ?_
            have := sym_j1 (nm := (rd_T59 l (i : Int)).f0) (rk := (rd_T59 l (i : Int)).f1) (by omega) hil true hR
            simpa [h0] using this
          · refine Ev.ifn h0 ?_
            have := sym_j1 (nm := (rd_T59 l (i : Int)).f0) (rk := (rd_T59 l (i : Int)).f1) (by omega) hil (decide ((rd_T59 l (i : Int)).f1 > 4)) hR
            rw [decide_eq_false h0, Bool.not_true, Bool.false_or, Bool.false_or, Bool.or_comm]
            exact this
    exact loop l.length 0 (by omega) (by omega)
end Go.Proofs.Ytfhgoebgnilfaaa.I
