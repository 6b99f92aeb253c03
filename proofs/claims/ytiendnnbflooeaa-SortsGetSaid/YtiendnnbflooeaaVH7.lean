/- Contract of sorts' reader, by hand: it may panic. -/
import Derived.Test.YtiendnnbflooeaaVH5
import Derived.Test.YtiendnnbflooeaaVH6
import Derived.Test.YtiendnnbflooeaaT1
import Derived.Laws.Strings
import Derived.WalkSmall
namespace Go.Proofs.Ytiendnnbflooeaa.V
open Go.RowKit Go.Proofs.YtiendnnbflooeaaW.PrintWords Go.Proofs.YtiendnnbflooeaaW.PrintLast Go.Proofs.YtiendnnbflooeaaW.PrintMore Go.Proofs.Ytiendnnbflooeaa.T
attribute [local go_sem] max2_int min2_int max_two min_two max_three min_three max_four min_four
set_option linter.unusedVariables false
set_option linter.unusedSimpArgs false

/-- Does a word stand at an index? -/
def pre (s : ByteArray) (i : Nat) (wd : List UInt8) : Bool := wd.isPrefixOf (s.data.toList.drop i)
theorem isPrefixOf_take (wd l : List UInt8) : wd.isPrefixOf l = decide (l.take wd.length = wd) := by
  rw [Bool.eq_iff_iff, List.isPrefixOf_iff_prefix, decide_eq_true_eq]
  constructor
  · intro h
    exact (List.prefix_iff_eq_take.1 h).symm
  · intro h
    exact List.prefix_iff_eq_take.2 h.symm
theorem extract_toList (s : ByteArray) (i j : Nat) : (s.extract i j).toList = (s.data.toList.drop i).take (j - i) := by
  rw [Go.ByteArray.toList_eq, ByteArray.data_extract]
  simp [List.extract_eq_take_drop]
theorem pre_len {s : ByteArray} {i : Nat} {wd : List UInt8} (h : pre s i wd = true) (hi : i ≤ s.size) : i + wd.length ≤ s.size := by
  unfold pre at h
  rw [List.isPrefixOf_iff_prefix] at h
  have := h.length_le
  rw [List.length_drop, ← ba_size] at this
  omega
theorem has_prefix (a b : ByteArray) : strings_HasPrefix.f a b = some (b.data.toList.isPrefixOf a.data.toList) := by
  unfold strings_HasPrefix.f stringslite_HasPrefix.f
  by_cases h : (a.size : Int) ≥ (b.size : Int)
  · rw [if_pos h, if_pos (by omega), if_pos (by omega)]
    simp only [Option.bind_some, Option.some.injEq]
    rw [Int.toNat_natCast, extract_toList, Go.ByteArray.toList_eq, isPrefixOf_take, List.drop_zero, Nat.sub_zero, ba_size b]
    rw [Bool.eq_iff_iff, beq_iff_eq, decide_eq_true_eq]
  · rw [if_neg h]
    simp only [Option.bind_some, Option.some.injEq]
    symm
    rw [isPrefixOf_take, decide_eq_false_iff_not]
    intro he
    have := congrArg List.length he
    rw [List.length_take, ← ba_size, ← ba_size] at this
    omega
theorem take_eq (s : ByteArray) (i : Nat) (wd : List UInt8) (hi : i ≤ s.size) (hs : s.size ≤ 1000000000) :
    sorts_reader_take.f s (i : Int) ⟨wd.toArray⟩ = some (pre s i wd, s, ((if pre s i wd then i + wd.length else i : Nat) : Int)) := by
  unfold sorts_reader_take.f
  rw [if_pos (by omega), if_pos (by omega), has_prefix]
  have e : (s.extract (i : Int).toNat s.size).data.toList = s.data.toList.drop i := by
    rw [← Go.ByteArray.toList_eq, extract_toList, Int.toNat_natCast]
    apply List.take_of_length_le
    rw [List.length_drop, ← ba_size]; omega
  rw [e]
  simp only [Option.bind_some]
  show (if pre s i wd = true then _ else _) = _
  by_cases h : pre s i wd = true
  · have h2 := pre_len h hi
    rw [if_pos h, h, if_pos rfl]
    have : ((⟨wd.toArray⟩ : ByteArray).size : Int) = (wd.length : Int) := by rw [ba_size]
    rw [this, show wrap64 ((i : Int) + (wd.length : Int)) = (i : Int) + (wd.length : Int) from by unfold wrap64; omega, Int.natCast_add]
  · have h' : pre s i wd = false := by simpa using h
    rw [if_neg h, h']
    rfl

/-- The reader, with a number of rounds: none: it has had too few; (none, i): it panics, standing at i. -/
def rs (s : ByteArray) : Nat → Nat → List S24 → Option (Option (List S24) × Nat)
  | 0, _, _ => none
  | k + 1, i, acc =>
    if pre s i [40] then
      match rs s k (i + 1) [] with
      | none => none
      | some (none, j) => some (none, j)
      | some (some l, j) =>
        if l.length = 0 then some (none, j)
        else if pre s j [41, 32, 62, 32] then (if acc.length < 5864062014805 then rs s k (j + 4) (acc ++ [⟨l⟩]) else none)
        else some (none, j)
    else if pre s i [111] then
      (if pre s (i + 1) [32, 62, 32] then (if acc.length < 5864062014805 then rs s k (i + 4) (acc ++ [⟨[]⟩]) else none) else some (some acc, i + 1))
    else some (none, i)
theorem rs_le (s : ByteArray) : ∀ (k i : Nat) (acc : List S24) (r : Option (List S24) × Nat), i ≤ s.size → rs s k i acc = some r → r.2 ≤ s.size
  | 0, i, acc, r, hi, h => by simp [rs] at h
  | k + 1, i, acc, r, hi, h => by
    unfold rs at h
    by_cases h1 : pre s i [40] = true
    · rw [if_pos h1] at h
      have := pre_len h1 hi
      cases hr : rs s k (i + 1) [] with
      | none => rw [hr] at h; cases h
      | some q =>
        obtain ⟨o, j⟩ := q
        have hj := rs_le s k (i + 1) [] _ (by simpa using this) hr
        rw [hr] at h
        cases o with
        | none => injection h with h; subst h; exact hj
        | some l =>
          simp only at h
          by_cases hl : l.length = 0
          · rw [if_pos hl] at h; injection h with h; subst h; exact hj
          · rw [if_neg hl] at h
            by_cases h2 : pre s j [41, 32, 62, 32] = true
            · rw [if_pos h2] at h
              have := pre_len h2 hj
              split at h
              · exact rs_le s k (j + 4) _ r (by simpa using this) h
              · cases h
            · rw [if_neg h2] at h; injection h with h; subst h; exact hj
    · rw [if_neg h1] at h
      by_cases h2 : pre s i [111] = true
      · rw [if_pos h2] at h
        have := pre_len h2 hi
        by_cases h3 : pre s (i + 1) [32, 62, 32] = true
        · rw [if_pos h3] at h
          have := pre_len h3 (by simpa using this)
          split at h
          · exact rs_le s k (i + 4) _ r (by simpa using this) h
          · cases h
        · rw [if_neg h3] at h; injection h with h; subst h; simpa using this
      · rw [if_neg h2] at h; injection h with h; subst h; exact hi

theorem isS63 {w0 W : World} {g : Nat} {s : ByteArray} {i : Int} (h1 : W.heap[g]? = some (.cells #[.string s, .int .i64 i] 63 (0, 0))) (h2 : w0.heap.size ≤ g) : IsS63 w0 W g s i := ⟨h1, h2⟩
/-- A goal at which the walk stands still. -/
def Hold (p : Prop) : Prop := p
theorem hold {p : Prop} (h : Hold p) : p := h
/-- How a call of the reader ends. -/
def RsPost (s : ByteArray) (g : Nat) (r : Option (List S24) × Nat) (w0 w : World) (e : Ending) (w' : World) : Prop :=
  w'.heap[g]? = some (.cells #[.string s, .int .i64 (r.2 : Int)] 63 (0, 0)) ∧ Below w0.heap.size w0 w' ∧ KeepBut w w' g none ∧
  match r.1 with
  | some l => ∃ v, e = .returned (.agg #[v]) ∧ Kd.R k24 24 w' w.heap.size (fun _ => True) v l
  | none => e = .panicked [{ v := .iface 59 (.agg #[]), recovered := false }]

set_option maxHeartbeats 4000000 in
theorem rs_calls (s : ByteArray) (hs : s.size ≤ 1000000000) (k : Nat) : ∀ (i g : Nat) (r : Option (List S24) × Nat) (w0 w : World) (hi : i ≤ s.size) (hr : rs s k i [] = some r) (hg : w0.heap.size ≤ g) (hb : w.heap[g]? = some (.cells #[.string s, .int .i64 (i : Int)] 63 (0, 0))) (hB : Below w0.heap.size w0 w),
    Calls Try.prog 47 #[.pointer (some ⟨g, 0, none⟩)] w (RsPost s g r w0 w) := by
  induction k using Nat.strongRecOn with
  | _ k ih =>
  intro i g r w0 w hi hr hg hb hB
  have hu24 := Try.underlying24
  have hu59 := Try.underlying59
  have HR := Aside0.mk hr
  have HB := Aside0.mk hB
  have HG := Aside0.mk hg
  have St := Aside0.mk hb
  have IH := Aside0.mk ih
  have Hi := Aside0.mk hi
  have hgl := blk_lt hb
  clear hr hB hg hb ih hi
  go_enter Try.func47, Try.ntmps47
  go_wp2_with (first
   | ((with_reducible refine gate_dst (N := 2) rfl ?_)
      refine box_event ?hg (N := 2) ?hd (cs := #[.slice none 0 0]) (t := 24) ?hr ?_
      (case hd => rfl)
      (case hg => rfl)
      (case hr => first | (go_simp; done) | (go_simp; rfl))
      intro gr hgr w2 hbox hb2
      have St2 := Aside0.mk (blk_below St.out hb2)
      have Gr2 := Aside0.mk hbox
      have HB2 := Aside0.mk (below_step HB.out hb2)
      have HK2 := Aside0.mk (KeepBut.of_below hb2 g none)
      have hgr2 := blk_lt hbox
      have hne1 : gr ≠ g := by omega
      clear hbox hb2)
   | ((with_reducible refine gate_dst (N := 3) rfl ?_)
      refine box_event ?hg (N := 3) ?hd (cs := #[.slice none 0 0]) (t := 24) ?hr ?_
      (case hd => rfl)
      (case hg => rfl)
      (case hr => first | (go_simp; done) | (go_simp; rfl))
      intro gs hgs w3 hbox hb3
      have St3 := Aside0.mk (blk_below St2.out hb3)
      have Gr3 := Aside0.mk (blk_below Gr2.out hb3)
      have Gs3 := Aside0.mk hbox
      have HB3 := Aside0.mk (below_step HB2.out hb3)
      have HK3 := Aside0.mk (KeepBut.trans HK2.out (KeepBut.of_below hb3 g none) (.inl rfl))
      have hne2 : gs ≠ g := by omega
      have hne3 : gs ≠ gr := by omega
      have hgw : w.heap.size ≤ gr := by omega
      have hgw2 : w.heap.size ≤ gs := by omega
      clear hbox hb3 hgr hgs hgr2))
  clear St St2 Gr2 HB HB2 HK2
  simp only [Act.put, List.setIfInBounds_toArray, List.set_cons_zero, List.set_cons_succ]
  go_loopg [] k (fun kq wr => ∃ (i : Nat) (acc : List S24) (v : Value), Aside0 (kq ≤ k) ∧ Aside0 (i ≤ s.size) ∧ Aside0 (rs s kq i acc = some r) ∧ Aside0 (wr.heap[g]? = some (.cells #[.string s, .int .i64 (i : Int)] 63 (0, 0))) ∧ Aside0 (wr.heap[gr]? = some (.cells #[.slice none 0 0] 24 (0, 0))) ∧ Aside0 (wr.heap[gs]? = some (.cells #[v] 24 (0, 0))) ∧ Aside0 (Kd.R k24 24 wr w.heap.size (fun k => k ≠ g ∧ k ≠ gr ∧ k ≠ gs) v acc) ∧ Aside0 (Below w0.heap.size w0 wr) ∧ Aside0 (KeepBut w wr g none))
  case atStart => exact ⟨i, [], .slice none 0 0, ⟨Nat.le_refl _⟩, Hi, HR, St3, Gr3, Gs3, ⟨Kd.R_nil _ _ _ _ _⟩, HB3, HK3⟩
  case round =>
    clear St3 Gr3 Gs3 HB3 HK3 HR Hi
    obtain ⟨i, acc, v, Hk, Hi, HR, St, Gr, Gs, HO, HB, HK⟩ := hrel
    cases gk with
    | zero => exact absurd HR.out (by simp [rs])
    | succ k1 =>
    have hrr := HR.out
    unfold rs at hrr
    have hcs0 : wr.cell? ⟨gs, 0, none⟩ = some v := (blk_cell Gs.out 0).trans rfl
    clear hcs0
    by_cases h1 : pre s i [40] = true
    · rw [if_pos h1] at hrr
      have L1 := Aside0.mk (show i + 1 ≤ s.size from pre_len h1 Hi.out)
      have T1 := Aside0.mk (show sorts_reader_take.f s ((i : Nat) : Int) ⟨#[40]⟩ = some (true, s, ((i + 1 : Nat) : Int)) from by rw [show (⟨#[40]⟩ : ByteArray) = ⟨([40] : List UInt8).toArray⟩ from rfl, take_eq s _ [40] Hi.out hs, if_pos h1, h1]; rfl)
      have HRR := Aside0.mk hrr
      clear hrr h1 HR
      go_wp2_with fail
      (with_reducible refine (sorts_reader_take.calls g s (i : Int) ⟨#[40]⟩ true s ((i + 1 : Nat) : Int) w0 _ (isS63 St.out HG.out) HB.out T1.out).mono ?_)
      rintro e w1 ⟨rfl, hI1, hB1, hk1⟩
      have St1 := Aside0.mk hI1.1
      have HB1 := Aside0.mk hB1
      have Gr1 := Aside0.mk (KeepBut.blk hk1 Gr.out hne1 (by simp))
      have Gs1 := Aside0.mk (KeepBut.blk hk1 Gs.out hne2 (by simp))
      have HO1 := Aside0.mk (Kd.R_keep HO.out hk1 (fun k hk => hk.1))
      have HK1 := Aside0.mk (KeepBut.trans HK.out hk1 (.inl rfl))
      clear hI1 hB1 hk1 St Gr Gs HO HB HK
      go_wp2_with fail
      have hrr := HRR.out
      cases hc : rs s k1 (i + 1) [] with
      | none => rw [hc] at hrr; cases hrr
      | some q =>
      obtain ⟨o, j⟩ := q
      have HC := Aside0.mk hc
      have LJ := Aside0.mk (show j ≤ s.size from rs_le s k1 (i + 1) [] _ L1.out hc)
      rw [hc] at hrr
      clear hc
      have HRR := Aside0.mk hrr
      clear hrr
      (with_reducible refine (IH.out k1 (by have := Hk.out; omega) (i + 1) g (o, j) w0 _ L1.out HC.out HG.out St1.out HB1.out).mono ?_)
      intro e w2 hpost
      obtain ⟨hb2, hB2, hk2, hcase⟩ := hpost
      have St2 := Aside0.mk hb2
      have HB2 := Aside0.mk hB2
      have Gr2 := Aside0.mk (KeepBut.blk hk2 Gr1.out hne1 (by simp))
      have Gs2 := Aside0.mk (KeepBut.blk hk2 Gs1.out hne2 (by simp))
      have HO2 := Aside0.mk (Kd.R_keep HO1.out hk2 (fun k hk => hk.1))
      have HK2 := Aside0.mk (KeepBut.trans HK1.out hk2 (.inl rfl))
      cases o with
      | none =>
        have hr0 : r = (none, j) := by have := HRR.out; injection this with this; exact this.symm
        subst hr0
        simp only at hcase
        subst hcase
        exact ⟨rfl, St2.out, HB2.out, HK2.out, rfl⟩
      | some l1 =>
      simp only at hcase
      obtain ⟨v1, rfl, ho1⟩ := hcase
      have HN2 := Aside0.mk (Kd.R_mono (Kd.R_lower (Kd.R_new' (Kd.R_bound ho1) (Kd.R_lt HO1.out)) HK1.out.1) (ok' := fun k => (k ≠ g ∧ k ≠ gr ∧ k ≠ gs) ∧ some k ≠ (v : Value).ownBlock) (fun k hk => by
        have h1 := blk_lt St1.out; have h2 := blk_lt Gr1.out; have h3 := blk_lt Gs1.out; have h4 := hk.1.2.1
        exact ⟨⟨by omega, by omega, by omega⟩, hk.2⟩))
      obtain ⟨A1, c1, he1⟩ := Kd.R_slice HN2.out
      subst he1
      clear ho1 hb2 hB2 hk2 St1 Gr1 Gs1 HO1 HB1 HK1 IH
      by_cases hl : l1.length = 0
      · have hz1 : ((l1.length : Int) == 0) = true := beq_iff_eq.2 (by omega)
        have Hl := Aside0.mk hl
        clear hl
        go_wp2_with (
          (with_reducible refine gate_dst (N := 4) rfl ?_)
          refine box_event ?hg (N := 4) ?hd (cs := #[.slice none 0 0]) (t := 24) ?hr ?_
          (case hd => rfl)
          (case hg => rfl)
          (case hr => first | (go_simp; done) | (go_simp; rfl))
          intro ga hga w3 hbox hb3
          have hBw := below_set (j := 0) (v := .slice A1 l1.length c1) hb3 (show w2.heap.size ≤ ga by omega)
          have St3 := Aside0.mk (blk_below St2.out hBw)
          have Gr3 := Aside0.mk (blk_below Gr2.out hBw)
          have Gs3 := Aside0.mk (blk_below Gs2.out hBw)
          have Ga3 := Aside0.mk (blk_put (cs' := #[.slice A1 l1.length c1]) hbox 0 (.slice A1 l1.length c1) rfl)
          have hna : ga ≠ g := by have := blk_lt St2.out; omega
          have hnas : ga ≠ gs := by have := blk_lt Gs2.out; omega
          have HO3 := Aside0.mk (Kd.R_below HO2.out hBw)
          have HN3 := Aside0.mk (Kd.R_below HN2.out hBw)
          have HB3 := Aside0.mk (below_step HB2.out hBw)
          have HK3 := Aside0.mk (KeepBut.trans HK2.out (KeepBut.of_below hBw g none) (.inl rfl))
          have hca : (w3.setCell ⟨ga, 0, none⟩ (.slice A1 l1.length c1)).cell? ⟨ga, 0, none⟩ = some (.slice A1 l1.length c1) := (blk_cell Ga3.out 0).trans rfl
          have hcz := (blk_cell hbox 0).trans rfl
          have hfz := blk_frozen hbox 0
          clear hbox hb3 hBw hga St2 Gr2 Gs2 HO2 HN2 HB2 HK2)
        have hrr := HRR.out
        simp only [if_pos Hl.out] at hrr
        injection hrr with hrr
        subst hrr
        exact ⟨rfl, St3.out, HB3.out, HK3.out, rfl⟩
      · have hz1 : ((l1.length : Int) == 0) = false := beq_eq_false_iff_ne.2 (by omega)
        have hrr := HRR.out
        simp only [if_neg hl] at hrr
        clear HRR hl
        by_cases h2 : pre s j [41, 32, 62, 32] = true
        · rw [if_pos h2] at hrr
          have LE := Aside0.mk (show j + 4 ≤ s.size from pre_len h2 LJ.out)
          have T2 := Aside0.mk (show sorts_reader_take.f s ((j : Nat) : Int) ⟨#[41,32,62,32]⟩ = some (true, s, ((j + 4 : Nat) : Int)) from by rw [show (⟨#[41,32,62,32]⟩ : ByteArray) = ⟨([41,32,62,32] : List UInt8).toArray⟩ from rfl, take_eq s _ [41,32,62,32] LJ.out hs, if_pos h2, h2]; rfl)
          by_cases hlm : acc.length < 5864062014805
          · rw [if_pos hlm] at hrr
            have HRR := Aside0.mk hrr
            have LM := Aside0.mk hlm
            clear hrr hlm h2
            go_wp2_with (
              (with_reducible refine gate_dst (N := 4) rfl ?_)
              refine box_event ?hg (N := 4) ?hd (cs := #[.slice none 0 0]) (t := 24) ?hr ?_
              (case hd => rfl)
              (case hg => rfl)
              (case hr => first | (go_simp; done) | (go_simp; rfl))
              intro ga hga w3 hbox hb3
              have hBw := below_set (j := 0) (v := .slice A1 l1.length c1) hb3 (show w2.heap.size ≤ ga by omega)
              have St3 := Aside0.mk (blk_below St2.out hBw)
              have Gr3 := Aside0.mk (blk_below Gr2.out hBw)
              have Gs3 := Aside0.mk (blk_below Gs2.out hBw)
              have Ga3 := Aside0.mk (blk_put (cs' := #[.slice A1 l1.length c1]) hbox 0 (.slice A1 l1.length c1) rfl)
              have hna : ga ≠ g := by have := blk_lt St2.out; omega
              have hnas : ga ≠ gs := by have := blk_lt Gs2.out; omega
              have HO3 := Aside0.mk (Kd.R_below HO2.out hBw)
              have HN3 := Aside0.mk (Kd.R_below HN2.out hBw)
              have HB3 := Aside0.mk (below_step HB2.out hBw)
              have HK3 := Aside0.mk (KeepBut.trans HK2.out (KeepBut.of_below hBw g none) (.inl rfl))
              have hca : (w3.setCell ⟨ga, 0, none⟩ (.slice A1 l1.length c1)).cell? ⟨ga, 0, none⟩ = some (.slice A1 l1.length c1) := (blk_cell Ga3.out 0).trans rfl
              have hcz := (blk_cell hbox 0).trans rfl
              have hfz := blk_frozen hbox 0
              clear hbox hb3 hBw hga St2 Gr2 Gs2 HO2 HN2 HB2 HK2)
            (with_reducible refine (sorts_reader_take.calls g s (j : Int) ⟨#[41, 32, 62, 32]⟩ true s ((j + 4 : Nat) : Int) w0 _ (isS63 St3.out HG.out) HB3.out T2.out).mono ?_)
            rintro e w4 ⟨rfl, hI4, hB4, hk4⟩
            have St4 := Aside0.mk hI4.1
            have HB4 := Aside0.mk hB4
            have Gr4 := Aside0.mk (KeepBut.blk hk4 Gr3.out hne1 (by simp))
            have Gs4 := Aside0.mk (KeepBut.blk hk4 Gs3.out hne2 (by simp))
            have HO4 := Aside0.mk (Kd.R_keep HO3.out hk4 (fun k hk => hk.1))
            have HK4 := Aside0.mk (KeepBut.trans HK3.out hk4 (.inl rfl))
            have Ga4 := Aside0.mk (KeepBut.blk hk4 Ga3.out hna (by simp))
            have HN4 := Aside0.mk (Kd.R_keep HN3.out hk4 (fun k hk => hk.1.1))
            have hca4 : w4.cell? ⟨ga, 0, none⟩ = some (.slice A1 l1.length c1) := (blk_cell Ga4.out 0).trans rfl
            have hcs4 : w4.cell? ⟨gs, 0, none⟩ = some v := (blk_cell Gs4.out 0).trans rfl
            clear hI4 hB4 hk4 St3 Gr3 Gs3 HO3 HB3 HK3 Ga3 HN3 hca hcz hfz
            go_wp2_with (at_builtin; refine hold ?_)
            unfold Hold
            refine Kd.R_append k24 (w0 := w4) w.heap.size rfl (.tmp 21) (.tmp 23) 22 24 (.agg #[(.slice none 0 0)]) 24 rfl Try.underlying22 info24 rfl (by decide) (by omega) v acc (⟨l1⟩ : S24) [.slice A1 l1.length c1] (fun k => k ≠ g ∧ k ≠ gr ∧ k ≠ gs) (fun k => (k ≠ g ∧ k ≠ gr ∧ k ≠ gs) ∧ some k ≠ (v : Value).ownBlock) rfl rfl ?aP (fun _ hk => hk) ?aF ?aO ?aB ?aS ?aL ?_
            (case aP => exact k24_mkM _ _ _ (⟨l1⟩ : S24) (HN4.out))
            (case aB => exact Below.refl _ _)
            (case aF => intro k hk; have h1 := blk_lt St4.out; have h2 := blk_lt Gr4.out; have h3 := blk_lt Gs4.out; exact ⟨by omega, by omega, by omega⟩)
            (case aO => exact HO4.out)
            (case aS => have := HK4.out.1; omega)
            (case aL => have := LM.out; omega)
            intro v2 w50 ho hb hg2 hat
            obtain ⟨A2, c2, e2⟩ := Kd.R_slice ho
            obtain ⟨n2, hn2⟩ : ∃ n, n = (acc ++ [(⟨l1⟩ : S24)]).length := ⟨_, rfl⟩
            rw [← hn2] at e2
            subst e2
            clear hn2
            have Hat := Aside0.mk (Kd.R_away HO4.out (g := g) (fun k hk => hk.1))
            have St50 := Aside0.mk (blk_grown St4.out hg2 (Kd.R_away HO4.out (fun k hk => hk.1)))
            have Gr50 := Aside0.mk (blk_grown Gr4.out hg2 (Kd.R_away HO4.out (fun k hk => hk.2.1)))
            have Gs50 := Aside0.mk (blk_grown Gs4.out hg2 (Kd.R_away HO4.out (fun k hk => hk.2.2)))
            have HO50 := Aside0.mk ho
            have HB50 := Aside0.mk (HB4.out.grown hg2 HB4.out.size (fun k hk => by have h1 := Kd.R_base HO4.out k hk; have := HG.out; omega))
            have HK50 := Aside0.mk (KeepBut.trans HK4.out (KeepBut.of_grown hg2 g) (Kd.R_base2 HO4.out))
            have hcs : w50.cell? ⟨gs, 0, none⟩ = some v := (blk_cell Gs50.out 0).trans rfl
            have hfs := blk_frozen Gs50.out 0
            clear ho hb hg2 hat Hat St4 Gr4 Gs4 HO4 HB4 HK4
            go_wp2_with fail
            have St5 := Aside0.mk (blk_far (p := ⟨gs, 0, none⟩) St50.out (Ne.symm hne2) (.slice A2 n2 c2))
            have Gr5 := Aside0.mk (blk_far (p := ⟨gs, 0, none⟩) Gr50.out (Ne.symm hne3) (.slice A2 n2 c2))
            have Gs5 := Aside0.mk (blk_put (cs' := #[(.slice A2 n2 c2)]) Gs50.out 0 (.slice A2 n2 c2) rfl)
            have HO5 := Aside0.mk (Kd.R_far (p := ⟨gs, 0, none⟩) HO50.out (fun k hk => hk.2.2) (.slice A2 n2 c2))
            have HB5 := Aside0.mk (below_set (g := gs) (j := 0) (v := (.slice A2 n2 c2)) HB50.out (show w0.heap.size ≤ gs by have := HG.out; omega))
            have HK5 := Aside0.mk (keep_far (p := ⟨gs, 0, none⟩) HK50.out hgw2 (.slice A2 n2 c2))
            clear St50 Gr50 Gs50 HO50 HB50 HK50
            go_roundg k1
            case measure => omega
            case rel => exact ⟨j + 4, _, .slice A2 n2 c2, ⟨by have := Hk.out; omega⟩, LE, HRR, St5, Gr5, Gs5, HO5, HB5, HK5⟩
          · rw [if_neg hlm] at hrr
            cases hrr
        · rw [if_neg h2] at hrr
          have T2 := Aside0.mk (show sorts_reader_take.f s ((j : Nat) : Int) ⟨#[41,32,62,32]⟩ = some (false, s, ((j : Nat) : Int)) from by rw [show (⟨#[41,32,62,32]⟩ : ByteArray) = ⟨([41,32,62,32] : List UInt8).toArray⟩ from rfl, take_eq s _ [41,32,62,32] LJ.out hs, if_neg h2, Bool.eq_false_iff.2 h2])
          have HRR := Aside0.mk hrr
          clear hrr h2
          go_wp2_with (
            (with_reducible refine gate_dst (N := 4) rfl ?_)
            refine box_event ?hg (N := 4) ?hd (cs := #[.slice none 0 0]) (t := 24) ?hr ?_
            (case hd => rfl)
            (case hg => rfl)
            (case hr => first | (go_simp; done) | (go_simp; rfl))
            intro ga hga w3 hbox hb3
            have hBw := below_set (j := 0) (v := .slice A1 l1.length c1) hb3 (show w2.heap.size ≤ ga by omega)
            have St3 := Aside0.mk (blk_below St2.out hBw)
            have Gr3 := Aside0.mk (blk_below Gr2.out hBw)
            have Gs3 := Aside0.mk (blk_below Gs2.out hBw)
            have Ga3 := Aside0.mk (blk_put (cs' := #[.slice A1 l1.length c1]) hbox 0 (.slice A1 l1.length c1) rfl)
            have hna : ga ≠ g := by have := blk_lt St2.out; omega
            have hnas : ga ≠ gs := by have := blk_lt Gs2.out; omega
            have HO3 := Aside0.mk (Kd.R_below HO2.out hBw)
            have HN3 := Aside0.mk (Kd.R_below HN2.out hBw)
            have HB3 := Aside0.mk (below_step HB2.out hBw)
            have HK3 := Aside0.mk (KeepBut.trans HK2.out (KeepBut.of_below hBw g none) (.inl rfl))
            have hca : (w3.setCell ⟨ga, 0, none⟩ (.slice A1 l1.length c1)).cell? ⟨ga, 0, none⟩ = some (.slice A1 l1.length c1) := (blk_cell Ga3.out 0).trans rfl
            have hcz := (blk_cell hbox 0).trans rfl
            have hfz := blk_frozen hbox 0
            clear hbox hb3 hBw hga St2 Gr2 Gs2 HO2 HN2 HB2 HK2)
          (with_reducible refine (sorts_reader_take.calls g s (j : Int) ⟨#[41, 32, 62, 32]⟩ false s ((j : Nat) : Int) w0 _ (isS63 St3.out HG.out) HB3.out T2.out).mono ?_)
          rintro e w4 ⟨rfl, hI4, hB4, hk4⟩
          have St4 := Aside0.mk hI4.1
          have HB4 := Aside0.mk hB4
          have Gr4 := Aside0.mk (KeepBut.blk hk4 Gr3.out hne1 (by simp))
          have Gs4 := Aside0.mk (KeepBut.blk hk4 Gs3.out hne2 (by simp))
          have HO4 := Aside0.mk (Kd.R_keep HO3.out hk4 (fun k hk => hk.1))
          have HK4 := Aside0.mk (KeepBut.trans HK3.out hk4 (.inl rfl))
          clear hI4 hB4 hk4 St3 Gr3 Gs3 HO3 HB3 HK3
          go_wp2_with fail
          have hrr := HRR.out
          injection hrr with hrr
          subst hrr
          exact ⟨rfl, St4.out, HB4.out, HK4.out, rfl⟩
    · rw [if_neg h1] at hrr
      have T1 := Aside0.mk (show sorts_reader_take.f s ((i : Nat) : Int) ⟨#[40]⟩ = some (false, s, ((i : Nat) : Int)) from by rw [show (⟨#[40]⟩ : ByteArray) = ⟨([40] : List UInt8).toArray⟩ from rfl, take_eq s _ [40] Hi.out hs, if_neg h1, Bool.eq_false_iff.2 h1])
      have HRR := Aside0.mk hrr
      clear hrr h1 HR
      go_wp2_with fail
      (with_reducible refine (sorts_reader_take.calls g s (i : Int) ⟨#[40]⟩ false s ((i : Nat) : Int) w0 _ (isS63 St.out HG.out) HB.out T1.out).mono ?_)
      rintro e w1 ⟨rfl, hI1, hB1, hk1⟩
      have St1 := Aside0.mk hI1.1
      have HB1 := Aside0.mk hB1
      have Gr1 := Aside0.mk (KeepBut.blk hk1 Gr.out hne1 (by simp))
      have Gs1 := Aside0.mk (KeepBut.blk hk1 Gs.out hne2 (by simp))
      have HO1 := Aside0.mk (Kd.R_keep HO.out hk1 (fun k hk => hk.1))
      have HK1 := Aside0.mk (KeepBut.trans HK.out hk1 (.inl rfl))
      clear hI1 hB1 hk1 St Gr Gs HO HB HK
      go_wp2_with fail
      have hrr := HRR.out
      clear HRR
      by_cases h2 : pre s i [111] = true
      · rw [if_pos h2] at hrr
        have L1 := Aside0.mk (show i + 1 ≤ s.size from pre_len h2 Hi.out)
        have T2 := Aside0.mk (show sorts_reader_take.f s ((i : Nat) : Int) ⟨#[111]⟩ = some (true, s, ((i + 1 : Nat) : Int)) from by rw [show (⟨#[111]⟩ : ByteArray) = ⟨([111] : List UInt8).toArray⟩ from rfl, take_eq s _ [111] Hi.out hs, if_pos h2, h2]; rfl)
        have HRR := Aside0.mk hrr
        clear hrr h2
        (with_reducible refine (sorts_reader_take.calls g s (i : Int) ⟨#[111]⟩ true s ((i + 1 : Nat) : Int) w0 _ (isS63 St1.out HG.out) HB1.out T2.out).mono ?_)
        rintro e w2 ⟨rfl, hI2, hB2, hk2⟩
        have St2 := Aside0.mk hI2.1
        have HB2 := Aside0.mk hB2
        have Gr2 := Aside0.mk (KeepBut.blk hk2 Gr1.out hne1 (by simp))
        have Gs2 := Aside0.mk (KeepBut.blk hk2 Gs1.out hne2 (by simp))
        have HO2 := Aside0.mk (Kd.R_keep HO1.out hk2 (fun k hk => hk.1))
        have HK2 := Aside0.mk (KeepBut.trans HK1.out hk2 (.inl rfl))
        clear hI2 hB2 hk2 St1 Gr1 Gs1 HO1 HB1 HK1
        go_wp2_with fail
        have hrr := HRR.out
        clear HRR
        by_cases h3 : pre s (i + 1) [32, 62, 32] = true
        · rw [if_pos h3] at hrr
          have LE := Aside0.mk (show i + 4 ≤ s.size from pre_len h3 L1.out)
          have T3 := Aside0.mk (show sorts_reader_take.f s ((i + 1 : Nat) : Int) ⟨#[32,62,32]⟩ = some (true, s, ((i + 1 + 3 : Nat) : Int)) from by rw [show (⟨#[32,62,32]⟩ : ByteArray) = ⟨([32,62,32] : List UInt8).toArray⟩ from rfl, take_eq s _ [32,62,32] L1.out hs, if_pos h3, h3]; rfl)
          by_cases hlm : acc.length < 5864062014805
          · rw [if_pos hlm] at hrr
            have HRR := Aside0.mk hrr
            have LM := Aside0.mk hlm
            clear hrr hlm h3
            (with_reducible refine (sorts_reader_take.calls g s ((i + 1 : Nat) : Int) ⟨#[32, 62, 32]⟩ true s ((i + 1 + 3 : Nat) : Int) w0 _ (isS63 St2.out HG.out) HB2.out T3.out).mono ?_)
            rintro e w3 ⟨rfl, hI3, hB3, hk3⟩
            have St3 := Aside0.mk hI3.1
            have HB3 := Aside0.mk hB3
            have Gr3 := Aside0.mk (KeepBut.blk hk3 Gr2.out hne1 (by simp))
            have Gs3 := Aside0.mk (KeepBut.blk hk3 Gs2.out hne2 (by simp))
            have HO3 := Aside0.mk (Kd.R_keep HO2.out hk3 (fun k hk => hk.1))
            have HK3 := Aside0.mk (KeepBut.trans HK2.out hk3 (.inl rfl))
            clear hI3 hB3 hk3 St2 Gr2 Gs2 HO2 HB2 HK2
            have hcs4 : w3.cell? ⟨gs, 0, none⟩ = some v := (blk_cell Gs3.out 0).trans rfl
            go_wp2_with (at_builtin; refine hold ?_)
            unfold Hold
            refine Kd.R_append k24 (w0 := w3) w.heap.size rfl (.tmp 36) (.tmp 38) 22 24 (.agg #[(.slice none 0 0)]) 24 rfl Try.underlying22 info24 rfl (by decide) (by omega) v acc (⟨[]⟩ : S24) [.slice none 0 0] (fun k => k ≠ g ∧ k ≠ gr ∧ k ≠ gs) (fun k => (k ≠ g ∧ k ≠ gr ∧ k ≠ gs) ∧ some k ≠ (v : Value).ownBlock) rfl rfl ?aP (fun _ hk => hk) ?aF ?aO ?aB ?aS ?aL ?_
            (case aP => exact k24_mkM _ _ _ (⟨[]⟩ : S24) (Kd.R_nil _ _ _ _ _))
            (case aB => exact Below.refl _ _)
            (case aF => intro k hk; have h1 := blk_lt St3.out; have h2 := blk_lt Gr3.out; have h3 := blk_lt Gs3.out; exact ⟨by omega, by omega, by omega⟩)
            (case aO => exact HO3.out)
            (case aS => have := HK3.out.1; omega)
            (case aL => have := LM.out; omega)
            intro v2 w50 ho hb hg2 hat
            obtain ⟨A2, c2, e2⟩ := Kd.R_slice ho
            obtain ⟨n2, hn2⟩ : ∃ n, n = (acc ++ [(⟨[]⟩ : S24)]).length := ⟨_, rfl⟩
            rw [← hn2] at e2
            subst e2
            clear hn2
            have Hat := Aside0.mk (Kd.R_away HO3.out (g := g) (fun k hk => hk.1))
            have St50 := Aside0.mk (blk_grown St3.out hg2 (Kd.R_away HO3.out (fun k hk => hk.1)))
            have Gr50 := Aside0.mk (blk_grown Gr3.out hg2 (Kd.R_away HO3.out (fun k hk => hk.2.1)))
            have Gs50 := Aside0.mk (blk_grown Gs3.out hg2 (Kd.R_away HO3.out (fun k hk => hk.2.2)))
            have HO50 := Aside0.mk ho
            have HB50 := Aside0.mk (HB3.out.grown hg2 HB3.out.size (fun k hk => by have h1 := Kd.R_base HO3.out k hk; have := HG.out; omega))
            have HK50 := Aside0.mk (KeepBut.trans HK3.out (KeepBut.of_grown hg2 g) (Kd.R_base2 HO3.out))
            have hcs : w50.cell? ⟨gs, 0, none⟩ = some v := (blk_cell Gs50.out 0).trans rfl
            have hfs := blk_frozen Gs50.out 0
            clear ho hb hg2 hat Hat St3 Gr3 Gs3 HO3 HB3 HK3
            go_wp2_with fail
            have St5 := Aside0.mk (blk_far (p := ⟨gs, 0, none⟩) St50.out (Ne.symm hne2) (.slice A2 n2 c2))
            have Gr5 := Aside0.mk (blk_far (p := ⟨gs, 0, none⟩) Gr50.out (Ne.symm hne3) (.slice A2 n2 c2))
            have Gs5 := Aside0.mk (blk_put (cs' := #[(.slice A2 n2 c2)]) Gs50.out 0 (.slice A2 n2 c2) rfl)
            have HO5 := Aside0.mk (Kd.R_far (p := ⟨gs, 0, none⟩) HO50.out (fun k hk => hk.2.2) (.slice A2 n2 c2))
            have HB5 := Aside0.mk (below_set (g := gs) (j := 0) (v := (.slice A2 n2 c2)) HB50.out (show w0.heap.size ≤ gs by have := HG.out; omega))
            have HK5 := Aside0.mk (keep_far (p := ⟨gs, 0, none⟩) HK50.out hgw2 (.slice A2 n2 c2))
            clear St50 Gr50 Gs50 HO50 HB50 HK50
            go_roundg k1
            case measure => omega
            case rel => exact ⟨i + 4, _, .slice A2 n2 c2, ⟨by have := Hk.out; omega⟩, LE, HRR, St5, Gr5, Gs5, HO5, HB5, HK5⟩
          · rw [if_neg hlm] at hrr
            cases hrr
        · rw [if_neg h3] at hrr
          have T3 := Aside0.mk (show sorts_reader_take.f s ((i + 1 : Nat) : Int) ⟨#[32,62,32]⟩ = some (false, s, ((i + 1 : Nat) : Int)) from by rw [show (⟨#[32,62,32]⟩ : ByteArray) = ⟨([32,62,32] : List UInt8).toArray⟩ from rfl, take_eq s _ [32,62,32] L1.out hs, if_neg h3, Bool.eq_false_iff.2 h3])
          have HRR := Aside0.mk hrr
          clear hrr h3
          (with_reducible refine (sorts_reader_take.calls g s ((i + 1 : Nat) : Int) ⟨#[32, 62, 32]⟩ false s ((i + 1 : Nat) : Int) w0 _ (isS63 St2.out HG.out) HB2.out T3.out).mono ?_)
          rintro e w3 ⟨rfl, hI3, hB3, hk3⟩
          have St3 := Aside0.mk hI3.1
          have HB3 := Aside0.mk hB3
          have Gr3 := Aside0.mk (KeepBut.blk hk3 Gr2.out hne1 (by simp))
          have Gs3 := Aside0.mk (KeepBut.blk hk3 Gs2.out hne2 (by simp))
          have HO3 := Aside0.mk (Kd.R_keep HO2.out hk3 (fun k hk => hk.1))
          have HK3 := Aside0.mk (KeepBut.trans HK2.out hk3 (.inl rfl))
          clear hI3 hB3 hk3 St2 Gr2 Gs2 HO2 HB2 HK2
          have hcs4 : w3.cell? ⟨gs, 0, none⟩ = some v := (blk_cell Gs3.out 0).trans rfl
          have hcr4 : w3.cell? ⟨gr, 0, none⟩ = some (.slice none 0 0) := (blk_cell Gr3.out 0).trans rfl
          have hfr4 := blk_frozen Gr3.out 0
          have hrr := HRR.out
          injection hrr with hrr
          subst hrr
          obtain ⟨A1, c1, he1⟩ := Kd.R_slice HO3.out
          subst he1
          go_wp2_with fail
          refine bodyPost_ret (results_cell_row rfl _ _ gr 24 #[.slice A1 acc.length c1] (0, 0) _ rfl (blk_put (cs' := #[.slice A1 acc.length c1]) Gr3.out 0 (.slice A1 acc.length c1) rfl) Try.underlying24 rfl (by kernel_rfl)) rfl ?_
          exact ⟨blk_far (p := ⟨gr, 0, none⟩) St3.out (Ne.symm hne1) _, below_set (g := gr) (j := 0) HB3.out (by have := HG.out; omega), keep_far (p := ⟨gr, 0, none⟩) HK3.out hgw _, _, rfl, Kd.R_mono (Kd.R_far (p := ⟨gr, 0, none⟩) HO3.out (fun k hk => hk.2.1) _) (fun _ _ => trivial)⟩
      · rw [if_neg h2] at hrr
        have T2 := Aside0.mk (show sorts_reader_take.f s ((i : Nat) : Int) ⟨#[111]⟩ = some (false, s, ((i : Nat) : Int)) from by rw [show (⟨#[111]⟩ : ByteArray) = ⟨([111] : List UInt8).toArray⟩ from rfl, take_eq s _ [111] Hi.out hs, if_neg h2, Bool.eq_false_iff.2 h2])
        have HRR := Aside0.mk hrr
        clear hrr h2
        (with_reducible refine (sorts_reader_take.calls g s (i : Int) ⟨#[111]⟩ false s ((i : Nat) : Int) w0 _ (isS63 St1.out HG.out) HB1.out T2.out).mono ?_)
        rintro e w2 ⟨rfl, hI2, hB2, hk2⟩
        have St2 := Aside0.mk hI2.1
        have HB2 := Aside0.mk hB2
        have Gr2 := Aside0.mk (KeepBut.blk hk2 Gr1.out hne1 (by simp))
        have Gs2 := Aside0.mk (KeepBut.blk hk2 Gs1.out hne2 (by simp))
        have HO2 := Aside0.mk (Kd.R_keep HO1.out hk2 (fun k hk => hk.1))
        have HK2 := Aside0.mk (KeepBut.trans HK1.out hk2 (.inl rfl))
        clear hI2 hB2 hk2 St1 Gr1 Gs1 HO1 HB1 HK1
        go_wp2_with fail
        have hrr := HRR.out
        injection hrr with hrr
        subst hrr
        exact ⟨rfl, St2.out, HB2.out, HK2.out, rfl⟩
end Go.Proofs.Ytiendnnbflooeaa.V
