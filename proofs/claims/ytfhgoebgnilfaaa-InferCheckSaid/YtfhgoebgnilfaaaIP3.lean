/- Plain law: the package and the reference say the same of loose functions. -/
import Derived.Test.YtfhgoebgnilfaaaIP2
import Derived.Test.YtfhgoebgnilfaaaI5
namespace Go.Proofs.Ytfhgoebgnilfaaa.I
open Go.RowKit Go.Proofs.YtfhgoebgnilfaaaW.PrintWords Go.Proofs.YtfhgoebgnilfaaaW.PrintLast Go.Proofs.YtfhgoebgnilfaaaW.PrintMore
set_option linter.unusedVariables false
set_option maxRecDepth 100000
set_option linter.unusedSimpArgs false
def to48 (x : S56) : S48 := ⟨x.f0, x.f1, x.f2⟩
def names56 (l : List S56) : List ByteArray := l.map (fun x => x.f0)
theorem names_to48 (l : List S56) : names48 (l.map to48) = names56 l := by
  unfold names48 names56
  rw [List.map_map]
  rfl
theorem rd_T56_drop (l : List S56) (i : Nat) (h : i < l.length) : l.drop i = rd_T56 l (i : Int) :: l.drop (i + 1) := by
  rw [List.drop_eq_getElem_cons h]
  simp [rd_T56, List.getD_eq_getElem?_getD, List.getElem?_eq_getElem h]
theorem rd_T56_take (l : List S56) (i : Nat) (h : i < l.length) : names56 (l.take i) ++ [(rd_T56 l (i : Int)).f0] = names56 (l.take (i + 1)) := by
  have e : l.take (i + 1) = l.take i ++ [l[i]] := by rw [List.take_add_one, List.getElem?_eq_getElem h]; rfl
  have e2 : rd_T56 l (i : Int) = l[i] := by unfold rd_T56; rw [Int.toNat_natCast, List.getD_eq_getElem?_getD, List.getElem?_eq_getElem h]; rfl
  rw [e, e2]
  unfold names56
  rw [List.map_append]
  rfl
theorem chk_inner {s : List S59} {l : List S56} {i : Nat} {nm : ByteArray} {pr kd n : Int} {t : List S44} {R : Int} (y : List S56) (hy : y.length ≤ 1000) (hR : Ev (fun k => virgationref04_Check.l0 k s l l (l.length : Int) (wrap64 ((i : Int) + 1))) R) :
    ∀ (m j : Nat), y.length - j = m → j ≤ y.length → Ev (fun k => virgationref04_Check.l1 k s l l (l.length : Int) (i : Int) y (y.length : Int) (j : Int) nm pr kd n t) (if isIn (names56 (y.drop j)) nm = true then 4 else R) := by
  intro m
  induction m with
  | zero =>
    intro j hn hj
    have hd : y.drop j = [] := List.drop_eq_nil_of_le (by omega)
    rw [hd, if_neg (by simp [names56, isIn])]
    exact Ev.step (fun k => by rw [virgationref04_Check.l1, if_neg (by omega)]) hR
  | succ m ihm =>
    intro j hn hj
    have hjl : j < y.length := by omega
    refine Ev.step (fun k => by rw [virgationref04_Check.l1, if_pos (by omega), if_pos (by omega), if_pos (by omega)]) ?_
    rw [rd_T56_drop y j hjl]
    show Ev _ (if isIn ((rd_T56 y (j : Int)).f0 :: names56 (y.drop (j + 1))) nm = true then 4 else R)
    rw [isIn_cons]
    by_cases he : nm.toList = (rd_T56 y (j : Int)).f0.toList
    · have : ((rd_T56 y (j : Int)).f0.data.toList == nm.data.toList) = true := by rw [beq_iff_eq, ← Go.ByteArray.toList_eq, ← Go.ByteArray.toList_eq]; exact he.symm
      rw [this, Bool.true_or, if_pos rfl]
      exact Ev.ifp he (Ev.now _)
    · have : ((rd_T56 y (j : Int)).f0.data.toList == nm.data.toList) = false := by
        rw [beq_eq_false_iff_ne, ← Go.ByteArray.toList_eq, ← Go.ByteArray.toList_eq]
        exact fun h => he h.symm
      rw [this, Bool.false_or]
      refine Ev.ifn he ?_
      rw [w64 _ (by omega)]
      exact ihm (j + 1) (by omega) (by omega)
theorem chk_j2 {s : List S59} {l : List S56} {i : Nat} {nm : ByteArray} {pr kd n : Int} {t : List S44} {R : Int} (hl : l.length ≤ 64) (hi : i < l.length) (b : Bool) (hR : Ev (fun k => virgationref04_Check.l0 k s l l (l.length : Int) (wrap64 ((i : Int) + 1))) R) :
    Ev (fun k => virgationref04_Check.j2 k s l (i : Int) l (l.length : Int) (i : Int) b nm pr kd n t) (if (b || isIn (names56 (l.take i)) nm) = true then 4 else R) := by
  cases b with
  | true => exact Ev.step (fun k => by rw [virgationref04_Check.j2, if_pos rfl]; rfl) (Ev.now _)
  | false =>
    rw [Bool.false_or]
    refine Ev.step (fun k => by rw [virgationref04_Check.j2, if_neg (by simp), if_pos (by omega), if_pos (by omega)]) ?_
    simp only [Option.bind_some, Int.toNat_natCast]
    have := chk_inner (s := s) (nm := nm) (pr := pr) (kd := kd) (n := n) (t := t) (l.take i) (by rw [List.length_take]; omega) hR (l.take i).length 0 (by omega) (by omega)
    rw [List.drop_zero] at this
    exact this
theorem loose_eq (x : S48) (nf ns : Int) (L : List ByteArray) : looseBad x nf ns L = ((!nameOk x.f0 || (decide (x.f1 < 0) || (decide (8 < x.f1) || (big x.f2 || !knownS x.f2 x.f1 nf ns)))) || isIn L x.f0) := by
  have e : (⟨x.f2.f0, x.f2.f1, x.f2.f2⟩ : S44) = x.f2 := by cases x.f2; rfl
  have hb := szT_big x.f2
  unfold looseBad
  rw [e, ← hb]
  cases nameOk x.f0 <;> cases isIn L x.f0 <;> cases decide (x.f1 < 0) <;> cases decide (8 < x.f1) <;> cases decide (400 < (szT x.f2).1) <;> cases decide (30 < (szT x.f2).2) <;> cases knownS x.f2 x.f1 nf ns <;> rfl
theorem check_loop (s : List S59) (l : List S56) (hl : l.length ≤ 64) : ∀ (m i : Nat), l.length - i = m → i ≤ l.length →
    Ev (fun k => virgationref04_Check.l0 k s l l (l.length : Int) (i : Int)) (if looseL ((l.drop i).map to48) (l.length : Int) (s.length : Int) (names56 (l.take i)) = true then 0 else 4) := by
  intro m
  induction m with
  | zero =>
    intro i hn hi
    have hd : l.drop i = [] := List.drop_eq_nil_of_le (by omega)
    rw [hd]
    change Ev _ 0
    exact Ev.step (fun k => by rw [virgationref04_Check.l0, if_neg (by omega)]) (Ev.now _)
  | succ m ihm =>
    intro i hn hi
    have hil : i < l.length := by omega
    have hR := ihm (i + 1) (by omega) (by omega)
    rw [show ((i + 1 : Nat) : Int) = wrap64 ((i : Int) + 1) from by rw [w64 _ (by omega)]; rfl] at hR
    refine Ev.step (fun k => by rw [virgationref04_Check.l0, if_pos (by omega), if_pos (by omega), if_pos (by omega)]) ?_
    refine Ev.bind (refname_ev _) ?_
    rw [rd_T56_drop l i hil]
    rw [← rd_T56_take l i hil] at hR
    generalize rd_T56 l (i : Int) = x at hR ⊢
    have hxe : (⟨x.f2.f0, x.f2.f1, x.f2.f2⟩ : S44) = x.f2 := by cases x.f2; rfl
    have ht : (if looseL ((x :: l.drop (i + 1)).map to48) (l.length : Int) (s.length : Int) (names56 (l.take i)) = true then (0 : Int) else 4) =
        (if ((!nameOk x.f0 || (decide (x.f1 < 0) || (decide (8 < x.f1) || (big x.f2 || !knownS x.f2 x.f1 (l.length : Int) (s.length : Int))))) || isIn (names56 (l.take i)) x.f0) = true then 4 else (if looseL ((l.drop (i + 1)).map to48) (l.length : Int) (s.length : Int) (names56 (l.take i) ++ [x.f0]) = true then 0 else 4)) := by
      rw [List.map_cons]
      show (if (if looseBad (to48 x) _ _ _ = true then false else looseL _ _ _ (_ ++ [(to48 x).f0])) = true then (0 : Int) else 4) = _
      rw [loose_eq]
      show (if (if ((!nameOk x.f0 || (decide (x.f1 < 0) || (decide (8 < x.f1) || (big x.f2 || !knownS x.f2 x.f1 (l.length : Int) (s.length : Int))))) || isIn (names56 (l.take i)) x.f0) = true then false else _) = true then (0 : Int) else 4) = _
      split
      · rfl
      · rfl
    rw [ht]
    have key : ∀ (b : Bool) (nm : ByteArray) (pr kd n : Int) (t : List S44), nm = x.f0 → b = (!nameOk x.f0 || (decide (x.f1 < 0) || (decide (8 < x.f1) || (big x.f2 || !knownS x.f2 x.f1 (l.length : Int) (s.length : Int))))) →
        Ev (fun k => virgationref04_Check.j2 k s l (i : Int) l (l.length : Int) (i : Int) b nm pr kd n t) (if ((!nameOk x.f0 || (decide (x.f1 < 0) || (decide (8 < x.f1) || (big x.f2 || !knownS x.f2 x.f1 (l.length : Int) (s.length : Int))))) || isIn (names56 (l.take i)) x.f0) = true then 4 else (if looseL ((l.drop (i + 1)).map to48) (l.length : Int) (s.length : Int) (names56 (l.take i) ++ [x.f0]) = true then 0 else 4)) := by
      intro b nm pr kd n t h1 h2
      rw [← h2, ← h1]
      rw [← h1] at hR
      exact chk_j2 hl hil b hR
    cases hn1 : nameOk x.f0
    · rw [hn1] at key
      exact Ev.ifn (by simp) (key true _ _ _ _ _ rfl (by simp))
    · refine Ev.ifp rfl ?_
      rw [hn1] at key
      by_cases h0 : x.f1 < 0
      · exact Ev.ifp h0 (key true _ _ _ _ _ rfl (by simp [h0]))
      · refine Ev.ifn h0 ?_
        by_cases h8 : x.f1 > 8
        · exact Ev.ifp h8 (key true _ _ _ _ _ rfl (by simp [show (8 : Int) < x.f1 from h8]))
        · refine Ev.ifn h8 ?_
          have hc := tcnt_f2 x.f2
          have hd := tdep_f2 x.f2
          refine Ev.bind (tnodes_ev _ _ _ _ 400 (Nat.lt_succ_self _) (by omega) (by omega)) ?_
          by_cases h4 : 400 < tcnt x.f2
          · exact Ev.ifp (by omega) (key true _ _ _ _ _ rfl (by simp [big, h4]))
          · refine Ev.ifn (by omega) ?_
            refine Ev.bind (tdepth_ev _ _ _ _ (Nat.lt_succ_self _) (by omega)) ?_
            by_cases h3 : 30 < tdep x.f2
            · exact Ev.ifp (by omega) (key true _ _ _ _ _ rfl (by simp [big, h3]))
            · refine Ev.ifn (by omega) ?_
              refine Ev.bind (exist_ev _ _ _ _ x.f1 (l.length : Int) (s.length : Int) (Nat.lt_succ_self _) (by omega)) ?_
              rw [hxe]
              exact key _ _ _ _ _ _ rfl (by
                have hb : big x.f2 = false := by unfold big; rw [decide_eq_false h4, decide_eq_false h3]; rfl
                rw [hb, decide_eq_false h0, decide_eq_false (show ¬ (8 : Int) < x.f1 from h8)]
                rfl)
/-- Both Checks are one. -/
theorem check_ev (s : List S59) (l : List S56) : ∃ r, chkF s (l.map to48) = some r ∧ Ev (fun k => virgationref04_Check.f k s l) r := by
  refine ⟨_, rfl, ?_⟩
  unfold virgationref04_Check.f
  refine Ev.bind (symbols_ev s) ?_
  have e48 : ∀ (h : 0 < l.length), (rd_T48 (l.map to48) 0).f1 = (rd_T56 l 0).f1 := by
    intro h
    cases l with
    | nil => simp at h
    | cons x xs => rfl
  by_cases ha : 24 < s.length
  · rw [if_pos (.inl ha), decide_eq_false (by omega : ¬ s.length ≤ 24), Bool.and_false]
    exact Ev.ifn (by simp) (Ev.now _)
  · rw [decide_eq_true (by omega : s.length ≤ 24), Bool.and_true]
    cases hs : symsL s []
    · rw [if_pos (.inr rfl)]
      exact Ev.ifn (by simp) (Ev.now _)
    · rw [if_neg (by simp; omega)]
      refine Ev.ifp rfl ?_
      rw [List.length_map]
      have no : Ev (fun k => virgationref04_Check.j0 k s l true) 4 := Ev.step (fun k => by rw [virgationref04_Check.j0, if_pos rfl]) (Ev.now _)
      by_cases h1 : (l.length : Int) < 1
      · rw [if_pos (.inl (by omega))]
        exact Ev.ifp h1 no
      · refine Ev.ifn h1 ?_
        by_cases h2 : (l.length : Int) > 64
        · rw [if_pos (.inr (.inl (by omega)))]
          exact Ev.ifp h2 no
        · refine Ev.ifn h2 (Ev.ifp (by omega) ?_)
          rw [e48 (by omega)]
          by_cases h3 : (rd_T56 l 0).f1 = 0
          · rw [if_neg (by rw [h3]; omega), show ((rd_T56 l 0).f1 != 0) = false from by rw [h3]; rfl]
            refine Ev.step (fun k => by rw [virgationref04_Check.j0, if_neg (by simp)]) ?_
            have := check_loop s l (by omega) l.length 0 (by omega) (by omega)
            rw [List.drop_zero] at this
            exact this
          · rw [if_pos (.inr (.inr h3)), show ((rd_T56 l 0).f1 != 0) = true from bne_iff_ne.2 h3]
            exact no
end Go.Proofs.Ytfhgoebgnilfaaa.I
