/- The plain laws of SortsGet, SortsRound and SortsTexts. -/
import Derived.Test.YtiendnnbflooeaaVQS
import Derived.Test.YtiendnnbflooeaaV8
namespace Go.Proofs.Ytiendnnbflooeaa.V
open Go.RowKit Go.Proofs.YtiendnnbflooeaaW.PrintWords Go.Proofs.YtiendnnbflooeaaW.PrintLast Go.Proofs.YtiendnnbflooeaaW.PrintMore
set_option linter.unusedVariables false
set_option linter.unusedSimpArgs false
/-- What stands in a string from an index on. -/
def D (s : ByteArray) (i : Nat) : List UInt8 := s.data.toList.drop i
theorem D_add {s : ByteArray} {i : Nat} {a b : List UInt8} (h : D s i = a ++ b) : D s (i + a.length) = b := by
  unfold D at h ⊢
  rw [← List.drop_drop, h, List.drop_left]
theorem pre_D {s : ByteArray} {i : Nat} {wd : List UInt8} (h : pre s i wd = true) : D s i = wd ++ D s (i + wd.length) := by
  unfold pre at h
  rw [isPrefixOf_take, decide_eq_true_eq] at h
  unfold D
  rw [← List.drop_drop]
  conv => lhs; rw [← List.take_append_drop wd.length (s.data.toList.drop i), h]
theorem pre_of {s : ByteArray} {i : Nat} {wd b : List UInt8} (h : D s i = wd ++ b) : pre s i wd = true := by
  unfold D at h
  unfold pre
  rw [h, List.isPrefixOf_iff_prefix]
  exact List.prefix_append _ _
theorem pre_not {s : ByteArray} {i : Nat} {c d : UInt8} {wd b : List UInt8} (h : D s i = c :: b) (hne : d ≠ c) : pre s i (d :: wd) = false := by
  unfold D at h
  unfold pre
  rw [h]
  simp [List.isPrefixOf, hne]
theorem pre_two {s : ByteArray} {i : Nat} {c d : UInt8} {wd wd' : List UInt8} (h : pre s i (c :: wd) = true) (hne : d ≠ c) : pre s i (d :: wd') = false := pre_not (pre_D h) hne
theorem D_len {s : ByteArray} {i : Nat} (h : i ≤ s.size) : (D s i).length = s.size - i := by
  unfold D; rw [List.length_drop, ← ba_size]
theorem D_nil {s : ByteArray} {i : Nat} (h : D s i = []) : s.size ≤ i := by
  unfold D at h
  have := List.drop_eq_nil_iff.1 h
  rw [← ba_size] at this
  exact this

/-- The reader always ends. -/
theorem rs_total (s : ByteArray) (hs : s.size ≤ 1000000) : ∀ (k i : Nat) (acc : List S24), i ≤ s.size → s.size - i < k → acc.length ≤ i → ∃ r, rs s k i acc = some r ∧ i ≤ r.2 ∧ r.2 ≤ s.size
  | 0, i, acc, hi, h, _ => by omega
  | k + 1, i, acc, hi, h, ha => by
    rw [rs]
    by_cases h1 : pre s i [40] = true
    · rw [if_pos h1]
      have hl := pre_len h1 hi
      simp only [List.length_cons, List.length_nil] at hl
      obtain ⟨⟨o, j⟩, hr, hj1, hj2⟩ := rs_total s hs k (i + 1) [] (by omega) (by omega) (by simp)
      rw [hr]
      cases o with
      | none => exact ⟨_, rfl, by simp only at hj1 ⊢; omega, hj2⟩
      | some l =>
        simp only at hj1 hj2 ⊢
        by_cases hz : l.length = 0
        · rw [if_pos hz]; exact ⟨_, rfl, by simp only; omega, hj2⟩
        · rw [if_neg hz]
          by_cases h2 : pre s j [41, 32, 62, 32] = true
          · rw [if_pos h2]
            have hl2 := pre_len h2 hj2
            simp only [List.length_cons, List.length_nil] at hl2
            rw [if_pos (by omega)]
            obtain ⟨r, hr2, g1, g2⟩ := rs_total s hs k (j + 4) (acc ++ [⟨l⟩]) (by omega) (by omega) (by rw [List.length_append]; simp only [List.length_cons, List.length_nil]; omega)
            exact ⟨r, hr2, by omega, g2⟩
          · rw [if_neg h2]; exact ⟨_, rfl, by simp only; omega, hj2⟩
    · rw [if_neg h1]
      by_cases h2 : pre s i [111] = true
      · rw [if_pos h2]
        have hl := pre_len h2 hi
        simp only [List.length_cons, List.length_nil] at hl
        by_cases h3 : pre s (i + 1) [32, 62, 32] = true
        · rw [if_pos h3]
          have hl2 := pre_len h3 (by omega)
          simp only [List.length_cons, List.length_nil] at hl2
          rw [if_pos (by omega)]
          obtain ⟨r, hr2, g1, g2⟩ := rs_total s hs k (i + 4) (acc ++ [⟨[]⟩]) (by omega) (by omega) (by rw [List.length_append]; simp only [List.length_cons, List.length_nil]; omega)
          exact ⟨r, hr2, by omega, g2⟩
        · rw [if_neg h3]; exact ⟨_, rfl, by simp only; omega, by simp only; omega⟩
      · rw [if_neg h2]; exact ⟨_, rfl, Nat.le_refl _, hi⟩

/-- What is read is the string of what it is read as. -/
theorem rs_text (s : ByteArray) : ∀ (k i : Nat) (acc l : List S24) (j : Nat), rs s k i acc = some (some l, j) → ∃ l', l = acc ++ l' ∧ D s i = txtL l' ++ ([111] ++ D s j)
  | 0, i, acc, l, j, h => by simp [rs] at h
  | k + 1, i, acc, l, j, h => by
    rw [rs] at h
    by_cases h1 : pre s i [40] = true
    · rw [if_pos h1] at h
      have hd := pre_D h1
      cases hr : rs s k (i + 1) [] with
      | none => rw [hr] at h; cases h
      | some q =>
        rw [hr] at h
        obtain ⟨o, j1⟩ := q
        cases o with
        | none => injection h with h; injection h with h _; cases h
        | some l1 =>
          simp only at h
          by_cases hz : l1.length = 0
          · rw [if_pos hz] at h; injection h with h; injection h with h _; cases h
          · rw [if_neg hz] at h
            by_cases h2 : pre s j1 [41, 32, 62, 32] = true
            · rw [if_pos h2] at h
              have hd2 := pre_D h2
              split at h
              · obtain ⟨l1', e1, t1⟩ := rs_text s k (i + 1) [] l1 j1 hr
                obtain ⟨l2', e2, t2⟩ := rs_text s k (j1 + 4) _ l j h
                rw [List.nil_append] at e1
                subst e1
                refine ⟨⟨l1⟩ :: l2', by rw [e2, List.append_assoc]; rfl, ?_⟩
                rw [hd, txtL, if_pos (show 0 < l1.length from by omega)]
                simp only [List.length_cons, List.length_nil] at hd2 ⊢
                rw [t1, hd2, t2, txt]
                simp only [List.append_assoc, List.cons_append, List.nil_append]
              · cases h
            · rw [if_neg h2] at h; injection h with h; injection h with h _; cases h
    · rw [if_neg h1] at h
      by_cases h2 : pre s i [111] = true
      · rw [if_pos h2] at h
        have hd := pre_D h2
        by_cases h3 : pre s (i + 1) [32, 62, 32] = true
        · rw [if_pos h3] at h
          have hd3 := pre_D h3
          split at h
          · obtain ⟨l2', e2, t2⟩ := rs_text s k (i + 4) _ l j h
            refine ⟨⟨[]⟩ :: l2', by rw [e2, List.append_assoc]; rfl, ?_⟩
            rw [hd, txtL, if_neg (by simp)]
            simp only [List.length_cons, List.length_nil] at hd3 ⊢
            rw [hd3, t2, txt, txtL]
            simp only [List.append_assoc, List.cons_append, List.nil_append]
          · cases h
        · rw [if_neg h3] at h
          injection h with h
          injection h with h e
          injection h with h
          subst h e
          exact ⟨[], by simp, by rw [hd, txtL]; simp⟩
      · rw [if_neg h2] at h; injection h with h; injection h with h _; cases h

/-- The string of a sort is read as that sort. -/
theorem rs_round (s : ByteArray) (N : Nat) : ∀ (l : List S24) (i : Nat) (acc : List S24) (rest : List UInt8), SizeOf.sizeOf l < N → D s i = txtL l ++ ([111] ++ rest) → (∀ b, rest ≠ 32 :: b) → acc.length + cntL l < 5864062014805 →
    Ev (fun k => rs s k i acc) (some (acc ++ l), i + (txtL l).length + 1) := by
  induction N with
  | zero => intro l i acc rest h; omega
  | succ N ih =>
  intro l i acc rest hN hd hrest hlim
  cases l with
  | nil =>
    rw [txtL, List.nil_append] at hd
    have h1 : pre s i [40] = false := pre_not hd (by decide)
    have h2 : pre s i [111] = true := pre_of hd
    have hd2 := D_add hd
    have h3 : pre s (i + 1) [32, 62, 32] = false := by
      cases hb : pre s (i + 1) [32, 62, 32]
      · rfl
      · have := pre_D hb
        rw [show i + 1 = i + [(111 : UInt8)].length from rfl, hd2] at this
        exact absurd this (hrest _)
    refine ⟨1, fun k hk => ?_⟩
    cases k with
    | zero => omega
    | succ k =>
      show rs s (k + 1) i acc = _
      rw [rs, h1, h2, h3]
      simp [txtL]
  | cons x xs =>
    have hsz : SizeOf.sizeOf xs < N := by have : SizeOf.sizeOf (x :: xs) = 1 + SizeOf.sizeOf x + SizeOf.sizeOf xs := rfl; omega
    have hs1 : SizeOf.sizeOf (x :: xs) = 1 + SizeOf.sizeOf x + SizeOf.sizeOf xs := rfl
    have hs2 : SizeOf.sizeOf x = 1 + SizeOf.sizeOf x.f0 := by cases x; simp
    have hsx : SizeOf.sizeOf x.f0 < N := by omega
    have hcx := cnt_ge x
    have hclx := cntL_ge x.f0
    have hclxs := cntL_ge xs
    have hcf := cnt_f0 x
    have hlim2 : acc.length + (1 + cntL x.f0 + cntL xs) < 5864062014805 := by rw [← hcf]; exact hlim
    by_cases hz : 0 < x.f0.length
    · rw [txtL, if_pos hz] at hd
      have htx : txt x = txtL x.f0 ++ [111] := by cases x; rfl
      rw [htx] at hd
      simp only [List.append_assoc] at hd
      have h1 : pre s i [40] = true := pre_of hd
      have hd1 := D_add hd
      have hc := ih x.f0 (i + 1) [] _ hsx hd1 (by intro b hb; simp at hb) (by simp only [List.length_nil]; omega)
      rw [List.nil_append] at hc
      have hdj := D_add (s := s) (i := i + 1 + (txtL x.f0).length) (a := [111]) (b := [41] ++ ([32, 62, 32] ++ (txtL xs ++ ([111] ++ rest)))) (D_add hd1)
      have hdj2 : D s (i + 1 + (txtL x.f0).length + 1) = [41, 32, 62, 32] ++ (txtL xs ++ ([111] ++ rest)) := by rw [show i + 1 + (txtL x.f0).length + 1 = i + 1 + (txtL x.f0).length + [(111 : UInt8)].length from rfl, hdj]; rfl
      have h2 : pre s (i + 1 + (txtL x.f0).length + 1) [41, 32, 62, 32] = true := pre_of hdj2
      have hr := ih xs (i + 1 + (txtL x.f0).length + 1 + 4) (acc ++ [⟨x.f0⟩]) rest hsz (D_add hdj2) hrest (by rw [List.length_append]; simp only [List.length_cons, List.length_nil]; omega)
      obtain ⟨K1, hK1⟩ := hc
      obtain ⟨K2, hK2⟩ := hr
      refine ⟨max K1 K2 + 1, fun k hk => ?_⟩
      cases k with
      | zero => omega
      | succ k =>
        show rs s (k + 1) i acc = _
        have e1 := hK1 k (by omega)
        have e2 := hK2 k (by omega)
        simp only at e1 e2
        rw [rs, if_pos h1, e1]
        simp only
        rw [if_neg (by omega), if_pos h2, if_pos (by omega), e2, txtL, if_pos hz, htx]
        simp only [Option.some.injEq, Prod.mk.injEq, List.length_append, List.length_cons, List.length_nil, List.append_assoc, List.cons_append, List.nil_append]
        exact ⟨by rw [show (⟨x.f0⟩ : S24) = x from by cases x; rfl], by omega⟩
    · rw [txtL, if_neg hz] at hd
      have hx0 : x.f0 = [] := List.eq_nil_of_length_eq_zero (by omega)
      have hxe : x = ⟨[]⟩ := by cases x; simp only at hx0; rw [hx0]
      subst hxe
      have htx : txt ⟨[]⟩ = [111] := rfl
      rw [htx] at hd
      simp only [List.append_assoc] at hd
      have h1 : pre s i [40] = false := pre_not hd (by decide)
      have h2 : pre s i [111] = true := pre_of hd
      have hd2 := D_add hd
      have h3 : pre s (i + 1) [32, 62, 32] = true := pre_of hd2
      have hr := ih xs (i + 1 + 3) (acc ++ [⟨[]⟩]) rest hsz (D_add hd2) hrest (by rw [List.length_append]; simp only [List.length_cons, List.length_nil]; omega)
      obtain ⟨K2, hK2⟩ := hr
      refine ⟨K2 + 1, fun k hk => ?_⟩
      cases k with
      | zero => omega
      | succ k =>
        show rs s (k + 1) i acc = _
        have e2 := hK2 k (by omega)
        simp only at e2
        rw [rs, h1, if_neg (by simp), if_pos h2, if_pos h3, if_pos (by omega), show i + 4 = i + 1 + 3 from rfl, e2, txtL, if_neg hz, htx]
        simp only [Option.some.injEq, Prod.mk.injEq, List.length_append, List.length_cons, List.length_nil, List.append_assoc, List.cons_append, List.nil_append]
        exact ⟨trivial, by omega⟩

/-- The reference looks for a word as the reader does. -/
theorem begins_eq (s : ByteArray) (i : Nat) (wd : List UInt8) (hi : i ≤ s.size) (hs : s.size ≤ 100000) (hw : wd.length ≤ 10) : virgationref01_begins.f s (i : Int) ⟨wd.toArray⟩ = some (pre s i wd) := by
  unfold virgationref01_begins.f
  have hsz : ((⟨wd.toArray⟩ : ByteArray).size : Int) = (wd.length : Int) := by rw [ba_size]
  rw [hsz, w64 _ (by omega), w64 _ (by omega)]
  by_cases h : (s.size : Int) - (i : Int) ≥ (wd.length : Int)
  · rw [if_pos h, if_pos (by omega), if_pos (by omega), if_pos (by omega)]
    rw [Int.toNat_natCast, show ((i : Int) + (wd.length : Int)).toNat = i + wd.length from by omega, extract_toList, Go.ByteArray.toList_eq]
    simp only [Option.some.injEq]
    unfold pre
    rw [isPrefixOf_take, Nat.add_sub_cancel_left, Bool.eq_iff_iff, beq_iff_eq, decide_eq_true_eq]
  · rw [if_neg h]
    simp only [Option.some.injEq]
    cases hp : pre s i wd
    · rfl
    · have := pre_len hp hi; omega
theorem w1 (m : Nat) (h : m ≤ 100000) : wrap64 ((m : Int) + 1) = ((m + 1 : Nat) : Int) := by rw [w64 _ (by omega)]; omega
theorem w3 (m : Nat) (h : m ≤ 100000) : wrap64 ((m : Int) + 3) = ((m + 3 : Nat) : Int) := by rw [w64 _ (by omega)]; omega
theorem w4 (m : Nat) (h : m ≤ 100000) : wrap64 ((m : Int) + 4) = ((m + 4 : Nat) : Int) := by rw [w64 _ (by omega)]; omega
set_option maxHeartbeats 2000000 in
theorem parse_ev (s : ByteArray) (hs : s.size ≤ 65536) (k : Nat) : ∀ (i : Nat) (acc : List S24) (o : Option (List S24)) (j : Nat), i ≤ s.size → rs s k i acc = some (o, j) →
    ∃ q, Ev (fun k => virgationref01_Parse.l0 k s (i : Int) acc) q ∧ (match o with | some l => q = (l, (j : Int), true) | none => q.2.2 = false) := by
  induction k with
  | zero =>
    intro i acc o j hi h
    simp [rs] at h
  | succ k ih =>
    intro i acc o j hi h
    rw [rs] at h
    by_cases h1 : pre s i [40] = true
    · rw [if_pos h1] at h
      have h2 : pre s i [111] = false := pre_two h1 (by decide)
      have hl := pre_len h1 hi
      simp only [List.length_cons, List.length_nil] at hl
      have b1 : virgationref01_begins.f s (i : Int) ⟨#[111]⟩ = some false := (begins_eq s i [111] hi (by omega) (by decide)).trans (by rw [h2])
      have b2 : virgationref01_begins.f s (i : Int) ⟨#[40]⟩ = some true := (begins_eq s i [40] hi (by omega) (by decide)).trans (by rw [h1])
      have st : ∀ {q : List S24 × Int × Bool}, Ev (fun k => (virgationref01_Parse.f k s ((i + 1 : Nat) : Int)).bind fun bt341 => (if bt341.2.2 = true then (if (bt341.1.length : Int) = 0 then (some (acc, (i : Int), false)) else ((virgationref01_begins.f s bt341.2.1 (⟨#[41, 32, 62, 32]⟩ : ByteArray)).bind fun t347 => (if t347 = true then (if acc.length < 5864062014805 then (virgationref01_Parse.l0 k s (wrap64 (bt341.2.1 + 4)) (acc ++ [(⟨bt341.1⟩ : S24)])) else (none)) else (some (acc, (i : Int), false))))) else (some (acc, (i : Int), false)))) q → Ev (fun k => virgationref01_Parse.l0 k s (i : Int) acc) q := by
        intro q hq
        refine Ev.step (fun k => ?_) hq
        rw [virgationref01_Parse.l0, b1]
        simp only [Option.bind_some, Bool.false_eq_true, if_false]
        rw [b2]
        simp only [Option.bind_some, if_true]
        rw [show wrap64 ((i : Int) + 1) = ((i + 1 : Nat) : Int) from w1 i (by omega)]
      cases hr : rs s k (i + 1) [] with
      | none => rw [hr] at h; cases h
      | some p =>
        obtain ⟨o1, j1⟩ := p
        obtain ⟨q1, hq1, hm1⟩ := ih (i + 1) [] o1 j1 (by omega) hr
        have hf1 : Ev (fun k => virgationref01_Parse.f k s ((i + 1 : Nat) : Int)) q1 := Ev.step (fun k => by rw [virgationref01_Parse.f]) hq1
        have hj1 := rs_le s k (i + 1) [] _ (by omega) hr
        rw [hr] at h
        cases o1 with
        | none =>
          injection h with h
          injection h with e1 e2
          subst e1
          simp only at hm1
          exact ⟨(acc, (i : Int), false), st (Ev.bind hf1 (Ev.ifn (by rw [hm1]; decide) (Ev.now _))), rfl⟩
        | some l1 =>
          simp only at hm1 hj1 h
          subst hm1
          by_cases hz : l1.length = 0
          · rw [if_pos hz] at h
            injection h with h
            injection h with e1 e2
            subst e1
            exact ⟨(acc, (i : Int), false), st (Ev.bind hf1 (Ev.ifp rfl (Ev.ifp (by simp only; omega) (Ev.now _)))), rfl⟩
          · rw [if_neg hz] at h
            have b3 := begins_eq s j1 [41, 32, 62, 32] hj1 (by omega) (by decide)
            by_cases h3 : pre s j1 [41, 32, 62, 32] = true
            · rw [if_pos h3] at h
              have hl3 := pre_len h3 hj1
              simp only [List.length_cons, List.length_nil] at hl3
              rw [h3] at b3
              by_cases h4 : acc.length < 5864062014805
              · rw [if_pos h4] at h
                obtain ⟨q2, hq2, hm2⟩ := ih (j1 + 4) _ o j (by omega) h
                refine ⟨q2, st (Ev.bind hf1 (Ev.ifp rfl (Ev.ifn (by simp only; omega) ?_))), hm2⟩
                simp only
                rw [show (⟨#[41, 32, 62, 32]⟩ : ByteArray) = ⟨([41, 32, 62, 32] : List UInt8).toArray⟩ from rfl, b3]
                simp only [Option.bind_some, if_true]
                refine Ev.ifp h4 ?_
                rw [show wrap64 ((j1 : Int) + 4) = ((j1 + 4 : Nat) : Int) from w4 j1 (by omega)]
                exact hq2
              · rw [if_neg h4] at h; cases h
            · rw [if_neg h3] at h
              injection h with h
              injection h with e1 e2
              subst e1
              rw [Bool.eq_false_iff.2 h3] at b3
              refine ⟨(acc, (i : Int), false), st (Ev.bind hf1 (Ev.ifp rfl (Ev.ifn (by simp only; omega) ?_))), rfl⟩
              simp only
              rw [show (⟨#[41, 32, 62, 32]⟩ : ByteArray) = ⟨([41, 32, 62, 32] : List UInt8).toArray⟩ from rfl, b3]
              simp only [Option.bind_some, Bool.false_eq_true, if_false]
              exact Ev.now _
    · rw [if_neg h1] at h
      have b1 := begins_eq s i [111] hi (by omega) (by decide)
      have b2 := begins_eq s i [40] hi (by omega) (by decide)
      rw [Bool.eq_false_iff.2 h1] at b2
      by_cases h2 : pre s i [111] = true
      · rw [if_pos h2] at h
        rw [h2] at b1
        have hl := pre_len h2 hi
        simp only [List.length_cons, List.length_nil] at hl
        have b3 := begins_eq s (i + 1) [32, 62, 32] (by omega) (by omega) (by decide)
        have e0 : wrap64 ((i : Int) + 1) = ((i + 1 : Nat) : Int) := w1 i (by omega)
        by_cases h3 : pre s (i + 1) [32, 62, 32] = true
        · rw [if_pos h3] at h
          rw [h3] at b3
          have hl3 := pre_len h3 (by omega)
          simp only [List.length_cons, List.length_nil] at hl3
          by_cases h4 : acc.length < 5864062014805
          · rw [if_pos h4] at h
            obtain ⟨q2, hq2, hm2⟩ := ih (i + 4) _ o j (by omega) h
            refine ⟨q2, Ev.step (fun k => by rw [virgationref01_Parse.l0]) ?_, hm2⟩
            refine Ev.bind (a := true) (by rw [show (⟨#[111]⟩ : ByteArray) = ⟨([111] : List UInt8).toArray⟩ from rfl, b1]; exact Ev.now _) (Ev.ifp rfl ?_)
            refine Ev.bind (a := true) (by rw [e0, show (⟨#[32, 62, 32]⟩ : ByteArray) = ⟨([32, 62, 32] : List UInt8).toArray⟩ from rfl, b3]; exact Ev.now _) ?_
            refine Ev.ifp rfl (Ev.ifp h4 ?_)
            rw [e0, w3 (i + 1) (by omega)]
            exact hq2
          · rw [if_neg h4] at h; cases h
        · rw [if_neg h3] at h
          injection h with h
          injection h with e1 e2
          subst e1 e2
          rw [Bool.eq_false_iff.2 h3] at b3
          refine ⟨(acc, ((i + 1 : Nat) : Int), true), Ev.step (fun k => by rw [virgationref01_Parse.l0]) ?_, rfl⟩
          refine Ev.bind (a := true) (by rw [show (⟨#[111]⟩ : ByteArray) = ⟨([111] : List UInt8).toArray⟩ from rfl, b1]; exact Ev.now _) (Ev.ifp rfl ?_)
          refine Ev.bind (a := false) (by rw [e0, show (⟨#[32, 62, 32]⟩ : ByteArray) = ⟨([32, 62, 32] : List UInt8).toArray⟩ from rfl, b3]; exact Ev.now _) ?_
          exact Ev.ifn (by decide) (by rw [e0]; exact Ev.now _)
      · rw [if_neg h2] at h
        injection h with h
        injection h with e1 e2
        subst e1
        rw [Bool.eq_false_iff.2 h2] at b1
        refine ⟨_, Ev.step (fun k => ?_) (Ev.now (acc, (i : Int), false)), rfl⟩
        rw [virgationref01_Parse.l0, show (⟨#[111]⟩ : ByteArray) = ⟨([111] : List UInt8).toArray⟩ from rfl, b1]
        simp only [Option.bind_some, Bool.false_eq_true, if_false]
        rw [show (⟨#[40]⟩ : ByteArray) = ⟨([40] : List UInt8).toArray⟩ from rfl, b2]
        simp only [Option.bind_some, Bool.false_eq_true, if_false]
/-- Get's answer out of the reader's. -/
theorem get_ev {s : ByteArray} (hs : s.size ≤ 65536) {r : Option (List S24) × Nat} {k : Nat} (hr : rs s k 0 [] = some r) {q : List S24 × Int} (hq : getEnd s r = some q) : Ev (fun k => sorts_Get.f k s) q := by
  refine Ev.of (sorts_Get.mono s) (k := k) ?_
  unfold sorts_Get.f
  rw [if_neg (by omega), hr]
  exact hq
theorem get_long {s : ByteArray} (hs : s.size > 65536) : Ev (fun k => sorts_Get.f k s) ([], 3) := by
  unfold sorts_Get.f
  exact Ev.ifp hs (Ev.now _)
theorem getEnd_ok (s : ByteArray) (l : List S24) (j : Nat) : getEnd s (some l, j) = some (if j = s.size then (if isok l = true then (l, 0) else ([], 6)) else ([], 4)) := by
  unfold getEnd
  simp only
  rw [check_eq]
  cases isok l
  · simp only [Bool.false_eq_true, if_false, Option.some.injEq, show (6 : Int) ≠ 0 from by decide]
    split <;> rfl
  · simp only [if_true]
    split <;> rfl
theorem nil_same : sameB [] [] = true := by decide +kernel
theorem self_same {x : List S24} (hx : cntL x ≤ 59) : sameB x x = true := by
  unfold sameB
  rw [eqL_refl, Bool.and_true, decide_eq_true_eq]
  omega
theorem pure_SortsGet : ∀ (x0 : ByteArray), (x0.size ≤ 9223372036854775807) → ∃ k, virgationlaw01_SortsGet.f k x0 = some true := by
  intro s _
  refine Ev.rounds ?_
  unfold virgationlaw01_SortsGet.f
  by_cases hz : s.size > 65536
  · refine Ev.bind (get_long hz) ?_
    refine Ev.bind (a := ([], 3)) ?_ ?_
    · unfold virgationref01_Get.f
      exact Ev.ifp (by omega) (Ev.now _)
    · refine Ev.ifp rfl (Ev.bind (refsame_ev _ _) ?_)
      exact Ev.ifp nil_same (alive_true rfl)
  · obtain ⟨⟨o, j⟩, hr, hj1, hj2⟩ := rs_total s (by omega) (s.size + 1) 0 [] (by omega) (by omega) (by simp)
    obtain ⟨q, hq, hm⟩ := parse_ev s (by omega) _ 0 [] o j (by omega) hr
    have hq0 : Ev (fun k => virgationref01_Parse.l0 k s 0 []) q := hq
    have hf : Ev (fun k => virgationref01_Parse.f k s 0) q := Ev.step (fun k => by rw [virgationref01_Parse.f]) hq0
    cases o with
    | none =>
      simp only at hm
      refine Ev.bind (get_ev (by omega) hr (q := ([], 4)) rfl) ?_
      refine Ev.bind (a := ([], 4)) ?_ ?_
      · unfold virgationref01_Get.f
        refine Ev.ifn (by omega) (Ev.bind hf (Ev.ifn (by rw [hm]; decide) ?_))
        exact Ev.step (fun k => by rw [virgationref01_Get.j0, if_pos rfl]) (Ev.now _)
      · refine Ev.ifp rfl (Ev.bind (refsame_ev _ _) ?_)
        exact Ev.ifp nil_same (alive_true rfl)
    | some l =>
      simp only at hm hj1 hj2
      subst hm
      refine Ev.bind (get_ev (by omega) hr (getEnd_ok s l j)) ?_
      refine Ev.bind (a := (if j = s.size then (if isok l = true then (l, 0) else ([], 6)) else ([], 4))) ?_ ?_
      · unfold virgationref01_Get.f
        refine Ev.ifn (by omega) (Ev.bind hf (Ev.ifp rfl ?_))
        by_cases hj : j = s.size
        · rw [if_pos hj]
          refine Ev.step (fun k => by rw [virgationref01_Get.j0, if_neg (by simp only [bne_iff_ne, ne_eq, Decidable.not_not]; omega)]) ?_
          refine Ev.bind (is_ev l) ?_
          cases isok l
          · exact Ev.now _
          · exact Ev.now _
        · rw [if_neg hj]
          exact Ev.step (fun k => by rw [virgationref01_Get.j0, if_pos (by simp only [bne_iff_ne, ne_eq]; omega)]) (Ev.now _)
      · refine Ev.ifp rfl (Ev.bind (refsame_ev _ _) ?_)
        refine Ev.ifp ?_ (alive_true rfl)
        refine self_same ?_
        split
        · cases h : isok l
          · simp [cntL]
          · have := isok_cnt h; simpa using this
        · simp [cntL]
theorem pure_SortsTexts : ∀ (x0 : ByteArray), (x0.size ≤ 9223372036854775807) → ∃ k, virgationlaw01_SortsTexts.f k x0 = some true := by
  intro s _
  refine Ev.rounds ?_
  unfold virgationlaw01_SortsTexts.f
  by_cases hz : s.size > 65536
  · refine Ev.bind (get_long hz) ?_
    exact Ev.ifn (by decide) (Ev.ifp rfl (alive_true rfl))
  · obtain ⟨⟨o, j⟩, hr, hj1, hj2⟩ := rs_total s (by omega) (s.size + 1) 0 [] (by omega) (by omega) (by simp)
    cases o with
    | none =>
      refine Ev.bind (get_ev (by omega) hr (q := ([], 4)) rfl) ?_
      exact Ev.ifn (by decide) (Ev.ifp rfl (alive_true rfl))
    | some l =>
      refine Ev.bind (get_ev (by omega) hr (getEnd_ok s l j)) ?_
      by_cases hj : j = s.size
      · rw [if_pos hj]
        cases h : isok l
        · exact Ev.ifn (by simp) (Ev.ifp rfl (alive_true rfl))
        · simp only [if_true]
          obtain ⟨l', e1, t1⟩ := rs_text s _ 0 [] l j hr
          rw [List.nil_append] at e1
          subst e1
          have hd : D s j = [] := by unfold D; exact List.drop_eq_nil_of_le (by rw [← ba_size]; omega)
          rw [hd] at t1
          have hp : sorts_Put.f l = some (⟨(txt ⟨l⟩).toArray⟩, 0) := by
            unfold sorts_Put.f
            rw [check_eq, h]
            rfl
          rw [hp]
          simp only [Option.bind_some, if_true]
          refine Ev.ifp ?_ (alive_true rfl)
          rw [Go.ByteArray.toList_eq, Go.ByteArray.toList_eq]
          exact t1.symm
      · rw [if_neg hj]
        exact Ev.ifn (by decide) (Ev.ifp rfl (alive_true rfl))
theorem pure_SortsRound : ∀ (x0 : S24), (wf24 x0) → ∃ k, virgationlaw01_SortsRound.f k x0.f0 = some true := by
  rintro ⟨l⟩ _
  refine Ev.rounds ?_
  unfold virgationlaw01_SortsRound.f
  cases h : isok l
  · have hp : sorts_Put.f l = some (⟨#[]⟩, 6) := by
      unfold sorts_Put.f
      rw [check_eq, h]
      rfl
    rw [hp]
    simp only [Option.bind_some]
    refine Ev.ifn (by decide) (Ev.bind (is_ev l) ?_)
    rw [h]
    exact Ev.ifn (by decide) (Ev.ifp (by rw [Go.ByteArray.toList_eq]) (alive_true rfl))
  · have hp : sorts_Put.f l = some (⟨(txt ⟨l⟩).toArray⟩, 0) := by
      unfold sorts_Put.f
      rw [check_eq, h]
      rfl
    rw [hp]
    simp only [Option.bind_some, if_true]
    have hc := isok_cnt h
    have hm := meas_eq ⟨l⟩ 60 (by omega)
    have e : cnt ⟨l⟩ = 1 + cntL l := rfl
    rw [e, if_pos (by omega)] at hm
    have h2 := txt_len ⟨l⟩ 60 (by omega) (by rw [hm]; simp only; omega)
    rw [hm] at h2
    simp only at h2
    have hcl := cntL_ge l
    have hsz : (⟨(txt ⟨l⟩).toArray⟩ : ByteArray).size = (txt ⟨l⟩).length := by rw [ba_size]
    have hsz2 : (txt ⟨l⟩).length = (txtL l).length + 1 := by rw [txt, List.length_append]; rfl
    obtain ⟨K, hK⟩ := rs_round ⟨(txt ⟨l⟩).toArray⟩ _ l 0 [] [] (Nat.lt_succ_self _) (by unfold D; rw [List.drop_zero]; rfl) (by intro b hb; cases hb) (by simp only [List.length_nil]; omega)
    have hr := hK K (Nat.le_refl _)
    simp only [List.nil_append] at hr
    refine Ev.bind (get_ev (by omega) hr (getEnd_ok _ _ _)) ?_
    rw [if_pos (by omega), if_pos h]
    refine Ev.ifp rfl (Ev.bind (refsame_ev _ _) ?_)
    exact Ev.ifp (self_same hc) (alive_true rfl)
end Go.Proofs.Ytiendnnbflooeaa.V
