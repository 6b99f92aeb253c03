/- Texts of this session's proof, laid together: IH3, I2, IN, IP1, IX1, IH2, IP4, IJ, IQ0, IX2, IX3, IM, IH4, IP2, IX4. -/
import Derived.Deep.DeepMust
import Derived.Deep.RegionHeld3
import Derived.Deep.RegionLaw
import Derived.Maps.OwnOps
import Derived.Maps.Views
import Derived.Carry
import Derived.Test.YtnfgpepggehegaaL1
namespace Go.Proofs.Ytnfgpepggehegaa.I
open Go.RowKit Go.Proofs.YtnfgpepggehegaaW.PrintWords Go.Proofs.YtnfgpepggehegaaW.PrintLast Go.Proofs.YtnfgpepggehegaaW.PrintMore
attribute [local go_sem] max2_int min2_int max_two min_two max_three min_three max_four min_four
set_option linter.unusedVariables false
set_option maxRecDepth 100000
set_option linter.unusedSimpArgs false
mutual
/-- What measure answers, and what it leaves. -/
def tmeas : S28 → Int → Int × Int
  | ⟨_, _, l⟩, left => tmeasL l (left - 1) 0
def tmeasL : List S28 → Int → Int → Int × Int
  | [], left, d => (d + 1, left)
  | x :: xs, left, d => if left < 0 then (0, left) else tmeasL xs (tmeas x left).2 (mx d (tmeas x left).1)
end
mutual
theorem tmeas_bd : ∀ (x : S28) (left : Int), 0 ≤ left → -1 ≤ (tmeas x left).2 ∧ (tmeas x left).2 ≤ left - 1 ∧ 0 ≤ (tmeas x left).1 ∧ (tmeas x left).1 + (tmeas x left).2 ≤ left
  | ⟨_, _, l⟩, left, h => by
    have := tmeasL_bd l (left - 1) 0 (by omega) (by omega)
    unfold tmeas
    omega
theorem tmeasL_bd : ∀ (l : List S28) (left d : Int), -1 ≤ left → 0 ≤ d → -1 ≤ (tmeasL l left d).2 ∧ (tmeasL l left d).2 ≤ left ∧ 0 ≤ (tmeasL l left d).1 ∧ (tmeasL l left d).1 + (tmeasL l left d).2 ≤ d + left + 1
  | [], left, d, h, hd => by unfold tmeasL; simp only; omega
  | x :: xs, left, d, h, hd => by
    unfold tmeasL
    split
    · simp only; omega
    · have h1 := tmeas_bd x left (by omega)
      have h2 := mx_ge d (tmeas x left).1
      have h3 := tmeasL_bd xs (tmeas x left).2 (mx d (tmeas x left).1) (by omega) (by omega)
      omega
end
theorem rd_T28_drop (l : List S28) (i : Nat) (h : i < l.length) : l.drop i = rd_T28 l (i : Int) :: l.drop (i + 1) := by
  rw [List.drop_eq_getElem_cons h]
  simp [rd_T28, List.getD_eq_getElem?_getD, List.getElem?_eq_getElem h]
theorem rd_T28_mem (l : List S28) (i : Nat) (h : i < l.length) : SizeOf.sizeOf (rd_T28 l (i : Int)).f2 < SizeOf.sizeOf l := by
  have hm : rd_T28 l (i : Int) ∈ l := by
    simp [rd_T28, List.getD_eq_getElem?_getD, List.getElem?_eq_getElem h]
  have h1 := List.sizeOf_lt_of_mem hm
  have h2 : SizeOf.sizeOf (rd_T28 l (i : Int)).f2 < SizeOf.sizeOf (rd_T28 l (i : Int)) := by
    cases rd_T28 l (i : Int); simp; omega
  omega
theorem tmeasure_calls (N : Nat) : ∀ (p q : Int) (l : List S28) (A : Option Addr) (c g : Nat) (left : Int) (w0 w : World) (hN : SizeOf.sizeOf l < N) (hr : Kd.C k28 w0 A l.length l) (hc : l.length ≤ c) (hB : Below w0.heap.size w0 w) (hg : w0.heap.size ≤ g)
    (hb : w.heap[g]? = some (.cells #[.int .i64 left] 3 (0, 0))) (hl : 0 ≤ left) (hl2 : left ≤ 100000000),
    Calls Try.prog 52 #[.agg #[.int .i64 p, .int .i64 q, .slice A l.length c], .pointer (some ⟨g, 0, none⟩)] w fun e w' => e = .returned (.int .i64 (tmeas ⟨p, q, l⟩ left).1) ∧ Below w0.heap.size w0 w' ∧ KeepBut w w' g none ∧ w'.heap[g]? = some (.cells #[.int .i64 (tmeas ⟨p, q, l⟩ left).2] 3 (0, 0)) := by
  induction N with
  | zero => intro p q l A c g left w0 w hN; omega
  | succ N ih =>
  intro p q l A c g left w0 w hN hr hc hB hg hb hl hl2
  have hu28 := Try.underlying28
  have hlen : l.length ≤ 9223372036854775807 := hr.2.1
  have HR := Az.mk hr
  have HC := Az.mk hc
  have HB := Az.mk hB
  have HG := Az.mk hg
  have HN := Az.mk hN
  have Hb := Az.mk hb
  have hgl := blk_lt hb
  have IH := Az.mk ih
  clear hr hc hB hN hb hg ih
  go_enter Try.func52, Try.ntmps52
  go_wp2_with (
    (with_reducible refine gate_dst (N := 2) rfl ?_)
    refine box_event ?hg (N := 2) ?hd (cs := #[.int .i64 p, .int .i64 q, .slice A l.length c]) (t := 28) ?hr ?_
    (case hd => rfl)
    (case hg => rfl)
    (case hr => first | (go_simp; done) | (go_simp; rfl))
    intro gb hgb w2 hbox hb2
    have HB2 := Az.mk (bst HB.out hb2)
    have Hb2 := Az.mk (bkB Hb.out hb2)
    have HK2 := Az.mk (KeepBut.of_below hb2 g none)
    have hne : g ≠ gb := by omega
    have hGW : w.heap.size ≤ gb := by omega
    have hczg : w2.cell? ⟨g, 0, none⟩ = some (.int .i64 left) := (blk_cell Hb2.out 0).trans rfl
    have hfzg := bkF Hb2.out 0
    have Hbox := Az.mk hbox
    have hcz3 : (w2.setCell ⟨g, 0, none⟩ (.int .i64 (left - 1))).cell? ⟨gb, 2, none⟩ = some (.slice A l.length c) := (blk_cell (blk_far hbox (p := ⟨g, 0, none⟩) (Ne.symm hne) _) 2).trans rfl
    clear hbox hb2 hgb HB Hb)
  clear hcz3 hczg hfzg
  go_loopg [5, 16] l.length (fun kq v5 v16 wr => ∃ (i : Nat) (d lf : Int), v5 = .int .i64 d ∧ v16 = .int .i64 (i : Int) ∧ Az (kq + i = l.length) ∧ Az (tmeasL (l.drop i) lf d = tmeas ⟨p, q, l⟩ left) ∧ Az (0 ≤ d ∧ d + lf ≤ left - 1 ∧ -1 ≤ lf ∧ lf ≤ left - 1) ∧ Az (wr.heap[g]? = some (.cells #[.int .i64 lf] 3 (0, 0))) ∧ Az (wr.heap[gb]? = some (.cells #[.int .i64 p, .int .i64 q, .slice A l.length c] 28 (0, 0))) ∧ Az (Below w0.heap.size w0 wr) ∧ Az (KeepBut w wr g none))
  case atStart => exact ⟨0, 0, left - 1, rfl, rfl, ⟨by omega⟩, ⟨by rw [List.drop_zero, tmeas]⟩, ⟨by omega⟩, ⟨by have := blk_set Hb2.out 0 (.int .i64 (left - 1)); simpa using this⟩, ⟨blk_far Hbox.out (p := ⟨g, 0, none⟩) (Ne.symm hne) _⟩, ⟨bset HB2.out HG.out⟩, ⟨KeepBut.set_ HK2.out 0 _⟩⟩
  case round =>
    clear Hb2 Hbox HB2 HK2
    obtain ⟨i, d, lf, rfl, rfl, Hi, Hm, Hd, Hb, Hbox, HB, HK⟩ := hrel
    have hi : i ≤ l.length := by have := Hi.out; omega
    obtain ⟨hd0, hd1, hd2, hd3⟩ := Hd.out
    by_cases hlt : i < l.length
    · have hdrop := Az.mk (rd_T28_drop l i hlt)
      have hmem := Az.mk (rd_T28_mem l i hlt)
      obtain ⟨ad, A1, c1, he, hx1, hx2, hx3, hl1, hi1⟩ := at_T28 HR.out (i : Int) (by omega) (by omega)
      cases he
      replace hx1 := (HB.out.cell (World.block_lt_of_cell? w0 _ hx1)).trans hx1
      rw [Int.toNat_natCast] at hx1
      replace hx2 := (HB.out.cell (World.block_lt_of_cell? w0 _ hx2)).trans hx2
      rw [Int.toNat_natCast] at hx2
      replace hx3 := (HB.out.cell (World.block_lt_of_cell? w0 _ hx3)).trans hx3
      rw [Int.toNat_natCast] at hx3
      have Hl1 := Az.mk hl1
      have Hi1 := Az.mk hi1
      clear hl1 hi1
      have hczg : wr.cell? ⟨g, 0, none⟩ = some (.int .i64 lf) := (blk_cell Hb.out 0).trans rfl
      have hfzg := bkF Hb.out 0
      have p1 : (0 ≤ (i : Int)) = True := eq_true (by omega)
      have p2 : ((i : Int) < (l.length : Int)) = True := eq_true (by omega)
      have p3 : (i < l.length) = True := eq_true (by omega)
      generalize hx : rd_T28 l (i : Int) = x at *
      have Hx := Az.mk hx
      clear hx
      go_wp2_with (
        (with_reducible refine gate_dst (N := 7) rfl ?_)
        refine box_event ?hg (N := 7) ?hd (cs := #[.int .i64 0, .int .i64 0, .slice none 0 0]) (t := 28) ?hr ?_
        (case hd => rfl)
        (case hg => rfl)
        (case hr => first | (go_simp; done) | (go_simp; rfl))
        intro gi hgi w3 hbox3 hb3
        have hsz := below_size HB.out
        have hkz := keep_size HK.out
        have hgiw : w0.heap.size ≤ gi := by omega
        have hgiw2 : w.heap.size ≤ gi := by omega
        have HB3 := Az.mk (bset (g := gi) (j := 2) (v := .slice A1 x.f2.length c1) (bset (g := gi) (j := 1) (v := .int .i64 x.f1) (bset (g := gi) (j := 0) (v := .int .i64 x.f0) (bst HB.out hb3) hgiw) hgiw) hgiw)
        have hgl2 := blk_lt Hb.out
        have hne3 : g ≠ gi := by omega
        have hne4 : gb ≠ gi := by have := blk_lt Hbox.out; omega
        have Hb3 := Az.mk (blk_far (p := ⟨gi, 2, none⟩) (blk_far (p := ⟨gi, 1, none⟩) (blk_far (p := ⟨gi, 0, none⟩) (bkB Hb.out hb3) hne3 (.int .i64 x.f0)) hne3 (.int .i64 x.f1)) hne3 (.slice A1 x.f2.length c1))
        have Hbox3 := Az.mk (blk_far (p := ⟨gi, 2, none⟩) (blk_far (p := ⟨gi, 1, none⟩) (blk_far (p := ⟨gi, 0, none⟩) (bkB Hbox.out hb3) hne4 (.int .i64 x.f0)) hne4 (.int .i64 x.f1)) hne4 (.slice A1 x.f2.length c1))
        have HK3 := Az.mk (keep_far (p := ⟨gi, 2, none⟩) (keep_far (p := ⟨gi, 1, none⟩) (keep_far (p := ⟨gi, 0, none⟩) (KeepBut.trans HK.out (KeepBut.of_below hb3 g none) (.inl rfl)) hgiw2 (.int .i64 x.f0)) hgiw2 (.int .i64 x.f1)) hgiw2 (.slice A1 x.f2.length c1))
        have Hgi := Az.mk (blk_put (cs' := #[.int .i64 x.f0, .int .i64 x.f1, .slice A1 x.f2.length c1]) (blk_put (cs' := #[.int .i64 x.f0, .int .i64 x.f1, .slice none 0 0]) (blk_put (cs' := #[.int .i64 x.f0, .int .i64 0, .slice none 0 0]) hbox3 0 (.int .i64 x.f0) rfl) 1 (.int .i64 x.f1) rfl) 2 (.slice A1 x.f2.length c1) rfl)
        have hci0 : (((w3.setCell ⟨gi, 0, none⟩ (.int .i64 x.f0)).setCell ⟨gi, 1, none⟩ (.int .i64 x.f1)).setCell ⟨gi, 2, none⟩ (.slice A1 x.f2.length c1)).cell? ⟨gi, 0, none⟩ = some (.int .i64 x.f0) := (blk_cell Hgi.out 0).trans rfl
        have hci1 : (((w3.setCell ⟨gi, 0, none⟩ (.int .i64 x.f0)).setCell ⟨gi, 1, none⟩ (.int .i64 x.f1)).setCell ⟨gi, 2, none⟩ (.slice A1 x.f2.length c1)).cell? ⟨gi, 1, none⟩ = some (.int .i64 x.f1) := (blk_cell Hgi.out 1).trans rfl
        have hci2 : (((w3.setCell ⟨gi, 0, none⟩ (.int .i64 x.f0)).setCell ⟨gi, 1, none⟩ (.int .i64 x.f1)).setCell ⟨gi, 2, none⟩ (.slice A1 x.f2.length c1)).cell? ⟨gi, 2, none⟩ = some (.slice A1 x.f2.length c1) := (blk_cell Hgi.out 2).trans rfl
        have hcz0 := (blk_cell hbox3 0).trans rfl
        have hcz1 := (blk_cell hbox3 1).trans rfl
        have hcz2 := (blk_cell hbox3 2).trans rfl
        have hfz0 := bkF hbox3 0
        have hfz1 := bkF hbox3 1
        have hfz2 := bkF hbox3 2
        have hczg : (((w3.setCell ⟨gi, 0, none⟩ (.int .i64 x.f0)).setCell ⟨gi, 1, none⟩ (.int .i64 x.f1)).setCell ⟨gi, 2, none⟩ (.slice A1 x.f2.length c1)).cell? ⟨g, 0, none⟩ = some (.int .i64 lf) := (blk_cell Hb3.out 0).trans rfl
        clear hbox3 hb3 hsz hkz hgi hgl2 HB HK Hb Hbox)
      · have hneg : lf < 0 := by assumption
        go_ret
        have e1 : tmeas ⟨p, q, l⟩ left = (0, lf) := by rw [← Hm.out, hdrop.out, tmeasL, if_pos hneg]
        rw [e1]
        exact ⟨rfl, HB3.out, HK3.out, Hb3.out⟩
      · have hneg : 0 ≤ lf := by first | assumption | omega
        have hbd := Az.mk (tmeas_bd x lf hneg)
        have hxe : x = ⟨x.f0, x.f1, x.f2⟩ := by cases x; rfl
        have Hxe := Az.mk hxe
        clear hxe
        (with_reducible refine (IH.out x.f0 x.f1 x.f2 A1 c1 g lf w0 _ ?_ Hi1.out Hl1.out HB3.out HG.out Hb3.out ?_ ?_).mono ?_)
        · have := hmem.out; have := HN.out; omega
        · omega
        · omega
        rintro e w4 ⟨rfl, hB4, hK4, hb4⟩
        rw [← Hxe.out] at hb4 ⊢
        have HB := Az.mk hB4
        have HK := Az.mk (KeepBut.trans HK3.out hK4 (.inl rfl))
        have Hb := Az.mk hb4
        have Hbox := Az.mk (KeepBut.blk hK4 Hbox3.out (Ne.symm hne) (by simp))
        clear hB4 hK4 hb4 HB3 HK3 Hb3 Hbox3
        have hmx : (if d < (tmeas x lf).1 then (tmeas x lf).1 else d) = mx d (tmeas x lf).1 := rfl
        go_wp2_with fail
        clear hmx
        have hk := Hi.out
        obtain ⟨k1, rfl⟩ : ∃ k1, gk = k1 + 1 := ⟨gk - 1, by omega⟩
        go_roundg k1
        case measure => omega
        case rel =>
          have hmx := mx_ge d (tmeas x lf).1
          have hb1 := hbd.out
          refine ⟨i + 1, mx d (tmeas x lf).1, (tmeas x lf).2, rfl, by go_num, ⟨by omega⟩, ⟨?_⟩, ⟨by clear hczg; omega⟩, Hb, Hbox, HB, HK⟩
          rw [← Hm.out, hdrop.out, tmeasL, if_neg (by omega)]
    · have hie : i = l.length := by omega
      go_wp2_with fail
      go_ret
      have e1 : tmeas ⟨p, q, l⟩ left = (d + 1, lf) := by rw [← Hm.out, hie, List.drop_length, tmeasL]
      rw [e1]
      exact ⟨rfl, HB.out, HK.out, Hb.out⟩
def term_Size.f (a0_0 a0_1 : Int) (l0_2 : List S28) : Option (Int × Int) := some (if (tmeas ⟨a0_0, a0_1, l0_2⟩ 100000).2 < 0 then (100001, 0) else (100000 - (tmeas ⟨a0_0, a0_1, l0_2⟩ 100000).2, (tmeas ⟨a0_0, a0_1, l0_2⟩ 100000).1))
theorem term_Size.calls (a0_0 a0_1 : Int) (A0_2 : Option Addr) (c0_2 : Nat) (l0_2 : List S28) (r1 r2 : Int) (w : World) (hr0_2 : Kd.C k28 w A0_2 l0_2.length l0_2) (hc0_2 : l0_2.length ≤ c0_2) (h : term_Size.f a0_0 a0_1 l0_2 = some (r1, r2)) :
    Calls Try.prog 28 #[.agg #[.int .i64 a0_0, .int .i64 a0_1, .slice A0_2 l0_2.length c0_2]] w fun e w' => e = .returned (.tuple #[.int .i64 r1, .int .i64 r2]) ∧ Below w.heap.size w w' := by
  have hu28 := Try.underlying28
  have HR := Az.mk hr0_2
  have HC := Az.mk hc0_2
  have hbd := Az.mk (tmeas_bd ⟨a0_0, a0_1, l0_2⟩ 100000 (by omega))
  have Hh := Az.mk h
  clear h hr0_2 hc0_2
  go_enter Try.func28, Try.ntmps28
  go_wp2_with (first
   | ((with_reducible refine gate_dst (N := 1) rfl ?_)
      refine box_event ?hg (N := 1) ?hd (cs := #[.int .i64 a0_0, .int .i64 a0_1, .slice A0_2 l0_2.length c0_2]) (t := 28) ?hr ?_
      (case hd => rfl)
      (case hg => rfl)
      (case hr => first | (go_simp; done) | (go_simp; rfl))
      intro gb hgb w2 hbox hb2
      have HB2 := Az.mk hb2
      have Hgb := Az.mk hgb
      have Hbox := Az.mk hbox
      have hne0 := blk_lt hbox
      clear hbox hb2 hgb)
   | ((with_reducible refine gate_dst (N := 4) rfl ?_)
      refine box_event ?hg (N := 4) ?hd (cs := #[.int .i64 0]) (t := 3) ?hr ?_
      (case hd => rfl)
      (case hg => rfl)
      (case hr => first | (go_simp; done) | (go_simp; rfl))
      intro g hg w3 hb hb3
      have hsz := HB2.out.size
      have HG := Az.mk (show w.heap.size ≤ g by omega)
      have HB3 := Az.mk (bset (j := 0) (v := .int .i64 100000) (bst HB2.out hb3) HG.out)
      have hne : gb ≠ g := by omega
      have Hbox3 := Az.mk (blk_far (p := ⟨g, 0, none⟩) (bkB Hbox.out hb3) hne (.int .i64 100000))
      have Hb3 := Az.mk (blk_put (cs' := #[.int .i64 100000]) hb 0 (.int .i64 100000) rfl)
      have hcz := (blk_cell hb 0).trans rfl
      have hfz := bkF hb 0
      have hcb0 : (w3.setCell ⟨g, 0, none⟩ (.int .i64 100000)).cell? ⟨gb, 0, none⟩ = some (.int .i64 a0_0) := (blk_cell Hbox3.out 0).trans rfl
      have hcb1 : (w3.setCell ⟨g, 0, none⟩ (.int .i64 100000)).cell? ⟨gb, 1, none⟩ = some (.int .i64 a0_1) := (blk_cell Hbox3.out 1).trans rfl
      have hcb2 : (w3.setCell ⟨g, 0, none⟩ (.int .i64 100000)).cell? ⟨gb, 2, none⟩ = some (.slice A0_2 l0_2.length c0_2) := (blk_cell Hbox3.out 2).trans rfl
      clear hb hb3 hg))
  (with_reducible refine (tmeasure_calls (SizeOf.sizeOf l0_2 + 1) a0_0 a0_1 l0_2 A0_2 c0_2 g 100000 w _ (by omega) HR.out HC.out HB3.out HG.out Hb3.out (by omega) (by omega)).mono ?_)
  rintro e w4 ⟨rfl, hB4, hK4, hb4⟩
  have HB := Az.mk hB4
  have hcg : w4.cell? ⟨g, 0, none⟩ = some (.int .i64 (tmeas ⟨a0_0, a0_1, l0_2⟩ 100000).2) := (blk_cell hb4 0).trans rfl
  clear hB4 hK4 hb4 hcb0 hcb1 hcb2
  have hb1 := hbd.out.1
  have hb2 := hbd.out.2.1
  by_cases hneg : (tmeas ⟨a0_0, a0_1, l0_2⟩ 100000).2 < 0
  · have e1 := Hh.out
    simp only [term_Size.f, if_pos hneg, Option.some.injEq, Prod.mk.injEq] at e1
    obtain ⟨rfl, rfl⟩ := e1
    go_wp2_with fail
    go_ret2
    exact ⟨rfl, HB.out⟩
  · have e1 := Hh.out
    simp only [term_Size.f, if_neg hneg, Option.some.injEq, Prod.mk.injEq] at e1
    obtain ⟨rfl, rfl⟩ := e1
    go_wp2_with fail
    go_ret2
    exact ⟨rfl, HB.out⟩
end Go.Proofs.Ytnfgpepggehegaa.I
namespace Go.Proofs.Ytnfgpepggehegaa.I
open Go.RowKit Go.Proofs.YtnfgpepggehegaaW.PrintWords Go.Proofs.YtnfgpepggehegaaW.PrintLast Go.Proofs.YtnfgpepggehegaaW.PrintMore
attribute [local go_sem] max2_int min2_int max_two min_two max_three min_three max_four min_four   -- for this text's walks alone
set_option linter.unusedVariables false
set_option linter.unusedSimpArgs false
mutual
def term_Name.j0 : Nat → ByteArray → Bool → Option (Bool)
  | 0, _, _ => none
  | k + 1, x0, x22 => if x22 = true then (some false) else (term_Name.l0 k x0 (x0.size : Int) 0)
def term_Name.l0 : Nat → ByteArray → Int → Int → Option (Bool)
  | 0, _, _, _ => none
  | k + 1, x0, x24, x25 => if x25 < x24 then (if 0 ≤ x25 then (if x25 < (x0.size : Int) then (if (bt x0 x25) < 97 then (if (bt x0 x25) < 48 then (if (bt x0 x25) = 95 then (term_Name.l0 k x0 x24 (wrap64 (x25 + 1))) else (some false)) else (if (bt x0 x25) > 57 then (if (bt x0 x25) = 95 then (term_Name.l0 k x0 x24 (wrap64 (x25 + 1))) else (some false)) else (term_Name.l0 k x0 x24 (wrap64 (x25 + 1))))) else (if (bt x0 x25) > 122 then (if (bt x0 x25) < 48 then (if (bt x0 x25) = 95 then (term_Name.l0 k x0 x24 (wrap64 (x25 + 1))) else (some false)) else (if (bt x0 x25) > 57 then (if (bt x0 x25) = 95 then (term_Name.l0 k x0 x24 (wrap64 (x25 + 1))) else (some false)) else (term_Name.l0 k x0 x24 (wrap64 (x25 + 1))))) else (term_Name.l0 k x0 x24 (wrap64 (x25 + 1))))) else (none)) else (none)) else (some true)
end
def term_Name.f (k : Nat) (a0 : ByteArray) : Option (Bool) := if (a0.size : Int) = 0 then (term_Name.j0 k a0 true) else (if (a0.size : Int) > 24 then (term_Name.j0 k a0 true) else (if 0 < (a0.size : Int) then (if (bt a0 0) < 97 then (term_Name.j0 k a0 true) else (term_Name.j0 k a0 (decide ((bt a0 0) > 122)))) else (none)))
set_option maxHeartbeats 8000000 in
set_option maxRecDepth 100000 in
theorem term_Name.calls (k : Nat) (a0 : ByteArray) (r : Bool) (w : World) (h : term_Name.f k a0 = some r) :
    Calls Try.prog 50 #[.string a0] w fun e w' => e = .returned (.bool r) ∧ Drawn0 w w' := by
  have H : (if (a0.size : Int) = 0 then (term_Name.j0 k a0 true) else (if (a0.size : Int) > 24 then (term_Name.j0 k a0 true) else (if 0 < (a0.size : Int) then (if (bt a0 0) < 97 then (term_Name.j0 k a0 true) else (term_Name.j0 k a0 (decide ((bt a0 0) > 122)))) else (none)))) = some r := h
  clear h
  have HC2 := Az.mk H
  clear H
  go_enter Try.func50, Try.ntmps50
  go_upto_region 1 with (fail)
  go_cut [22] (fun v22 wc => ∃ (kq : Nat) (x22_1 : Bool), v22 = .bool x22_1 ∧ Az (term_Name.j0 kq a0 x22_1 = some r) ∧ Az (kq ≤ k) ∧ Drawn0 w wc)
  case first =>
    have H := HC2.out
    clear HC2
    by_cases c3 : (a0.size : Int) = 0
    · rw [if_pos c3] at H
      have c3b0 : ((a0.size : Int) == 0) = true := beq_iff_eq.mpr c3
      have c3b1 : ((a0.size : Int) != 0) = false := bne_eq_false_iff_eq.mpr c3
      clear c3
      (first | rw [c3b0] | (simp only [i64_w, i32_w]; rw [c3b0]) | skip)
      have H' := Az.mk H
      clear H
      go_wp2
      go_meet
      case rel => exact ⟨_, (true), (by first | rfl | (simp; done) | (simp [*]; done)), H', ⟨by first | omega | exact Nat.le_refl _⟩, by repeat (first | exact Drawn0.refl _ | apply Drawn0.step)⟩
    · rw [if_neg c3] at H
      have c3b0 : ((a0.size : Int) == 0) = false := beq_eq_false_iff_ne.mpr c3
      have c3b1 : ((a0.size : Int) != 0) = true := bne_iff_ne.mpr c3
      (first | rw [c3b0] | (simp only [i64_w, i32_w]; rw [c3b0]) | skip)
      by_cases c4 : (a0.size : Int) > 24
      · rw [if_pos c4] at H
        have c4b0 : decide (24 < (a0.size : Int)) = true := decide_eq_true c4
        have c4b1 : decide (24 < a0.size) = true := decide_eq_true (by omega)
        clear c4
        have H' := Az.mk H
        clear H
        go_wp2
        go_meet
        case rel => exact ⟨_, (true), (by first | rfl | (simp; done) | (simp [*]; done)), H', ⟨by first | omega | exact Nat.le_refl _⟩, by repeat (first | exact Drawn0.refl _ | apply Drawn0.step)⟩
      · rw [if_neg c4] at H
        have c4b0 : decide (24 < (a0.size : Int)) = false := decide_eq_false c4
        have c4b1 : decide (24 < a0.size) = false := decide_eq_false (by omega)
        clear c4
        by_cases c5 : 0 < (a0.size : Int)
        · rw [if_pos c5] at H
          have c5b0 : decide (0 < (a0.size : Int)) = true := decide_eq_true c5
          have c5b1 : decide (0 < a0.size) = true := decide_eq_true (by omega)
          clear c5
          by_cases c7 : (bt a0 0) < 97
          · rw [if_pos c7] at H
            have c7b0 : decide ((bt a0 0) < 97) = true := decide_eq_true c7
            clear c7
            have H' := Az.mk H
            clear H
            have p6 : 0 ≤ (0 : Int) := (by omega)
            have q6 : 0 < a0.size := (by have : (0 : Int) < (a0.size : Int) := of_decide_eq_true (by first | (with_reducible assumption) | assumption); omega)
            have hx6 : ∀ h : 0 < a0.size, ((a0[0]'h).toNat : Int) = bt a0 0 := bt_at a0 0
            clear p6
            have qi6 : (0 < (a0.size : Int)) = True := eq_true (of_decide_eq_true (by first | (with_reducible assumption) | assumption))
            replace q6 := eq_true q6
            go_wp2
            go_meet
            case rel => exact ⟨_, (true), (by first | rfl | (simp; done) | (simp [*]; done)), H', ⟨by first | omega | exact Nat.le_refl _⟩, by repeat (first | exact Drawn0.refl _ | apply Drawn0.step)⟩
          · rw [if_neg c7] at H
            have c7b0 : decide ((bt a0 0) < 97) = false := decide_eq_false c7
            clear c7
            have H' := Az.mk H
            clear H
            have p6 : 0 ≤ (0 : Int) := (by omega)
            have q6 : 0 < a0.size := (by have : (0 : Int) < (a0.size : Int) := of_decide_eq_true (by first | (with_reducible assumption) | assumption); omega)
            have hx6 : ∀ h : 0 < a0.size, ((a0[0]'h).toNat : Int) = bt a0 0 := bt_at a0 0
            clear p6
            have qi6 : (0 < (a0.size : Int)) = True := eq_true (of_decide_eq_true (by first | (with_reducible assumption) | assumption))
            replace q6 := eq_true q6
            have p8 : 0 ≤ (0 : Int) := (by omega)
            have q8 : 0 < a0.size := (by have : (0 : Int) < (a0.size : Int) := of_decide_eq_true (by first | (with_reducible assumption) | assumption); omega)
            have hx8 : ∀ h : 0 < a0.size, ((a0[0]'h).toNat : Int) = bt a0 0 := bt_at a0 0
            clear p8
            have qi8 : (0 < (a0.size : Int)) = True := eq_true (of_decide_eq_true (by first | (with_reducible assumption) | assumption))
            replace q8 := eq_true q8
            go_wp2
            go_meet
            case rel => exact ⟨_, (decide ((bt a0 0) > 122)), (by first | rfl | (simp; done) | (simp [*]; done)), H', ⟨by first | omega | exact Nat.le_refl _⟩, by repeat (first | exact Drawn0.refl _ | apply Drawn0.step)⟩
        · rw [if_neg c5] at H
          exact absurd H (by simp)
  case rest =>
    clear HC2
    try clear p2
    try clear c3
    try clear c3b0
    try clear c3b1
    try clear c4
    try clear c4b0
    try clear c4b1
    try clear c5
    try clear c5b0
    try clear c5b1
    try clear p6
    try clear q6
    try clear hx6
    try clear qi6
    try clear c7
    try clear c7b0
    try clear p8
    try clear q8
    try clear hx8
    try clear qi8
    try clear p6
    try clear p8
    try clear q6
    try clear q8
    obtain ⟨kq, x22_1, rfl, HA, HJ1, ⟨mc1, rfl⟩⟩ := hcut
    cases kq with
    | zero => exact absurd HA.out (by simp [term_Name.j0])
    | succ kj1 =>
      have H := HA.out
      clear HA
      simp only [term_Name.j0] at H
      by_cases c9 : x22_1 = true
      · subst c9
        have H1 : (some false) = some r := by rw [if_pos rfl] at H; exact H
        clear H
        have H := H1
        clear H1
        obtain rfl := Option.some.inj H
        go_wp2
        go_ret
        exact ⟨by first | rfl | (simp; done) | (simp [*]; done), by repeat (first | exact Drawn0.refl _ | apply Drawn0.step)⟩
      · replace c9 := Bool.eq_false_iff.mpr c9
        subst c9
        have H1 : (term_Name.l0 kj1 a0 (a0.size : Int) 0) = some r := by rw [if_neg (show ¬ (false = true) by decide)] at H; exact H
        clear H
        have H := H1
        clear H1
        have H' := Az.mk H
        clear H
        go_wp2
        go_loopg [25] kj1 (fun kq v25 w' => ∃ (x25_2 : Int), v25 = .int .i64 x25_2 ∧ Az (term_Name.l0 kq a0 (a0.size : Int) x25_2 = some r) ∧ Az (kq ≤ kj1) ∧ Drawn0 w w')
        case atStart => exact ⟨(0), (by first | rfl | (simp; done) | (simp [*]; done)), H', ⟨Nat.le_refl _⟩, by repeat (first | exact Drawn0.refl _ | apply Drawn0.step)⟩
        case round =>
          clear H'
          try clear c1
          try clear p2
          try clear c3
          try clear c3b0
          try clear c3b1
          try clear c4
          try clear c4b0
          try clear c4b1
          try clear c5
          try clear c5b0
          try clear c5b1
          try clear p6
          try clear q6
          try clear hx6
          try clear qi6
          try clear c7
          try clear c7b0
          try clear p8
          try clear q8
          try clear hx8
          try clear qi8
          try clear c9
          try clear p2
          try clear p6
          try clear p8
          try clear q6
          try clear q8
          obtain ⟨x25_2, rfl, HA, HK2, ⟨m2, rfl⟩⟩ := hrel
          cases gk with
          | zero => exact absurd HA.out (by simp [term_Name.l0])
          | succ k2 =>
            have H := HA.out
            clear HA
            simp only [term_Name.l0] at H
            by_cases c10 : x25_2 < (a0.size : Int)
            · rw [if_pos c10] at H
              have c10b0 : decide (x25_2 < (a0.size : Int)) = true := decide_eq_true c10
              clear c10
              by_cases c11 : 0 ≤ x25_2
              · rw [if_pos c11] at H
                have c11b0 : decide (0 ≤ x25_2) = true := decide_eq_true c11
                clear c11
                by_cases c12 : x25_2 < (a0.size : Int)
                · rw [if_pos c12] at H
                  have c12b0 : decide (x25_2 < (a0.size : Int)) = true := decide_eq_true c12
                  clear c12
                  by_cases c14 : (bt a0 x25_2) < 97
                  · rw [if_pos c14] at H
                    have c14b0 : decide ((bt a0 x25_2) < 97) = true := decide_eq_true c14
                    clear c14
                    by_cases c15 : (bt a0 x25_2) < 48
                    · rw [if_pos c15] at H
                      have c15b0 : decide ((bt a0 x25_2) < 48) = true := decide_eq_true c15
                      clear c15
                      by_cases c16 : (bt a0 x25_2) = 95
                      · rw [if_pos c16] at H
                        have c16b0 : ((bt a0 x25_2) == 95) = true := beq_iff_eq.mpr c16
                        have c16b1 : ((bt a0 x25_2) != 95) = false := bne_eq_false_iff_eq.mpr c16
                        clear c16
                        have H' := Az.mk H
                        clear H
                        have p13 : 0 ≤ (x25_2 : Int) := of_decide_eq_true (by first | (with_reducible assumption) | assumption)
                        have q13 : x25_2 < (a0.size : Int) := of_decide_eq_true (by first | (with_reducible assumption) | assumption)
                        have hx13 := bt_at a0 x25_2
                        replace p13 := eq_true p13
                        replace q13 := eq_true q13
                        go_wp2
                        go_roundg k2
                        case measure => have := HJ1.out; have := HK2.out; omega
                        case rel => exact ⟨(wrap64 (x25_2 + 1)), (by first | rfl | (simp; done) | (simp [*]; done)), H', ⟨by have := HJ1.out; have := HK2.out; omega⟩, by repeat (first | exact Drawn0.refl _ | apply Drawn0.step)⟩
                      · rw [if_neg c16] at H
                        have c16b0 : ((bt a0 x25_2) == 95) = false := beq_eq_false_iff_ne.mpr c16
                        have c16b1 : ((bt a0 x25_2) != 95) = true := bne_iff_ne.mpr c16
                        obtain rfl := Option.some.inj H
                        have p13 : 0 ≤ (x25_2 : Int) := of_decide_eq_true (by first | (with_reducible assumption) | assumption)
                        have q13 : x25_2 < (a0.size : Int) := of_decide_eq_true (by first | (with_reducible assumption) | assumption)
                        have hx13 := bt_at a0 x25_2
                        replace p13 := eq_true p13
                        replace q13 := eq_true q13
                        go_wp2
                        go_ret
                        exact ⟨by first | rfl | (simp; done) | (simp [*]; done), by repeat (first | exact Drawn0.refl _ | apply Drawn0.step)⟩
                    · rw [if_neg c15] at H
                      have c15b0 : decide ((bt a0 x25_2) < 48) = false := decide_eq_false c15
                      clear c15
                      by_cases c17 : (bt a0 x25_2) > 57
                      · rw [if_pos c17] at H
                        have c17b0 : decide (57 < (bt a0 x25_2)) = true := decide_eq_true c17
                        clear c17
                        by_cases c18 : (bt a0 x25_2) = 95
                        · rw [if_pos c18] at H
                          have c18b0 : ((bt a0 x25_2) == 95) = true := beq_iff_eq.mpr c18
                          have c18b1 : ((bt a0 x25_2) != 95) = false := bne_eq_false_iff_eq.mpr c18
                          clear c18
                          have H' := Az.mk H
                          clear H
                          have p13 : 0 ≤ (x25_2 : Int) := of_decide_eq_true (by first | (with_reducible assumption) | assumption)
                          have q13 : x25_2 < (a0.size : Int) := of_decide_eq_true (by first | (with_reducible assumption) | assumption)
                          have hx13 := bt_at a0 x25_2
                          replace p13 := eq_true p13
                          replace q13 := eq_true q13
                          go_wp2
                          go_roundg k2
                          case measure => have := HJ1.out; have := HK2.out; omega
                          case rel => exact ⟨(wrap64 (x25_2 + 1)), (by first | rfl | (simp; done) | (simp [*]; done)), H', ⟨by have := HJ1.out; have := HK2.out; omega⟩, by repeat (first | exact Drawn0.refl _ | apply Drawn0.step)⟩
                        · rw [if_neg c18] at H
                          have c18b0 : ((bt a0 x25_2) == 95) = false := beq_eq_false_iff_ne.mpr c18
                          have c18b1 : ((bt a0 x25_2) != 95) = true := bne_iff_ne.mpr c18
                          obtain rfl := Option.some.inj H
                          have p13 : 0 ≤ (x25_2 : Int) := of_decide_eq_true (by first | (with_reducible assumption) | assumption)
                          have q13 : x25_2 < (a0.size : Int) := of_decide_eq_true (by first | (with_reducible assumption) | assumption)
                          have hx13 := bt_at a0 x25_2
                          replace p13 := eq_true p13
                          replace q13 := eq_true q13
                          go_wp2
                          go_ret
                          exact ⟨by first | rfl | (simp; done) | (simp [*]; done), by repeat (first | exact Drawn0.refl _ | apply Drawn0.step)⟩
                      · rw [if_neg c17] at H
                        have c17b0 : decide (57 < (bt a0 x25_2)) = false := decide_eq_false c17
                        clear c17
                        have H' := Az.mk H
                        clear H
                        have p13 : 0 ≤ (x25_2 : Int) := of_decide_eq_true (by first | (with_reducible assumption) | assumption)
                        have q13 : x25_2 < (a0.size : Int) := of_decide_eq_true (by first | (with_reducible assumption) | assumption)
                        have hx13 := bt_at a0 x25_2
                        replace p13 := eq_true p13
                        replace q13 := eq_true q13
                        go_wp2
                        go_roundg k2
                        case measure => have := HJ1.out; have := HK2.out; omega
                        case rel => exact ⟨(wrap64 (x25_2 + 1)), (by first | rfl | (simp; done) | (simp [*]; done)), H', ⟨by have := HJ1.out; have := HK2.out; omega⟩, by repeat (first | exact Drawn0.refl _ | apply Drawn0.step)⟩
                  · rw [if_neg c14] at H
                    have c14b0 : decide ((bt a0 x25_2) < 97) = false := decide_eq_false c14
                    clear c14
                    by_cases c19 : (bt a0 x25_2) > 122
                    · rw [if_pos c19] at H
                      have c19b0 : decide (122 < (bt a0 x25_2)) = true := decide_eq_true c19
                      clear c19
                      by_cases c20 : (bt a0 x25_2) < 48
                      · rw [if_pos c20] at H
                        have c20b0 : decide ((bt a0 x25_2) < 48) = true := decide_eq_true c20
                        clear c20
                        by_cases c21 : (bt a0 x25_2) = 95
                        · rw [if_pos c21] at H
                          have c21b0 : ((bt a0 x25_2) == 95) = true := beq_iff_eq.mpr c21
                          have c21b1 : ((bt a0 x25_2) != 95) = false := bne_eq_false_iff_eq.mpr c21
                          clear c21
                          have H' := Az.mk H
                          clear H
                          have p13 : 0 ≤ (x25_2 : Int) := of_decide_eq_true (by first | (with_reducible assumption) | assumption)
                          have q13 : x25_2 < (a0.size : Int) := of_decide_eq_true (by first | (with_reducible assumption) | assumption)
                          have hx13 := bt_at a0 x25_2
                          replace p13 := eq_true p13
                          replace q13 := eq_true q13
                          go_wp2
                          go_roundg k2
                          case measure => have := HJ1.out; have := HK2.out; omega
                          case rel => exact ⟨(wrap64 (x25_2 + 1)), (by first | rfl | (simp; done) | (simp [*]; done)), H', ⟨by have := HJ1.out; have := HK2.out; omega⟩, by repeat (first | exact Drawn0.refl _ | apply Drawn0.step)⟩
                        · rw [if_neg c21] at H
                          have c21b0 : ((bt a0 x25_2) == 95) = false := beq_eq_false_iff_ne.mpr c21
                          have c21b1 : ((bt a0 x25_2) != 95) = true := bne_iff_ne.mpr c21
                          obtain rfl := Option.some.inj H
                          have p13 : 0 ≤ (x25_2 : Int) := of_decide_eq_true (by first | (with_reducible assumption) | assumption)
                          have q13 : x25_2 < (a0.size : Int) := of_decide_eq_true (by first | (with_reducible assumption) | assumption)
                          have hx13 := bt_at a0 x25_2
                          replace p13 := eq_true p13
                          replace q13 := eq_true q13
                          go_wp2
                          go_ret
                          exact ⟨by first | rfl | (simp; done) | (simp [*]; done), by repeat (first | exact Drawn0.refl _ | apply Drawn0.step)⟩
                      · rw [if_neg c20] at H
                        have c20b0 : decide ((bt a0 x25_2) < 48) = false := decide_eq_false c20
                        clear c20
                        by_cases c22 : (bt a0 x25_2) > 57
                        · rw [if_pos c22] at H
                          have c22b0 : decide (57 < (bt a0 x25_2)) = true := decide_eq_true c22
                          clear c22
                          by_cases c23 : (bt a0 x25_2) = 95
                          · rw [if_pos c23] at H
                            have c23b0 : ((bt a0 x25_2) == 95) = true := beq_iff_eq.mpr c23
                            have c23b1 : ((bt a0 x25_2) != 95) = false := bne_eq_false_iff_eq.mpr c23
                            clear c23
                            have H' := Az.mk H
                            clear H
                            have p13 : 0 ≤ (x25_2 : Int) := of_decide_eq_true (by first | (with_reducible assumption) | assumption)
                            have q13 : x25_2 < (a0.size : Int) := of_decide_eq_true (by first | (with_reducible assumption) | assumption)
                            have hx13 := bt_at a0 x25_2
                            replace p13 := eq_true p13
                            replace q13 := eq_true q13
                            go_wp2
                            go_roundg k2
                            case measure => have := HJ1.out; have := HK2.out; omega
                            case rel => exact ⟨(wrap64 (x25_2 + 1)), (by first | rfl | (simp; done) | (simp [*]; done)), H', ⟨by have := HJ1.out; have := HK2.out; omega⟩, by repeat (first | exact Drawn0.refl _ | apply Drawn0.step)⟩
                          · rw [if_neg c23] at H
                            have c23b0 : ((bt a0 x25_2) == 95) = false := beq_eq_false_iff_ne.mpr c23
                            have c23b1 : ((bt a0 x25_2) != 95) = true := bne_iff_ne.mpr c23
                            obtain rfl := Option.some.inj H
                            have p13 : 0 ≤ (x25_2 : Int) := of_decide_eq_true (by first | (with_reducible assumption) | assumption)
                            have q13 : x25_2 < (a0.size : Int) := of_decide_eq_true (by first | (with_reducible assumption) | assumption)
                            have hx13 := bt_at a0 x25_2
                            replace p13 := eq_true p13
                            replace q13 := eq_true q13
                            go_wp2
                            go_ret
                            exact ⟨by first | rfl | (simp; done) | (simp [*]; done), by repeat (first | exact Drawn0.refl _ | apply Drawn0.step)⟩
                        · rw [if_neg c22] at H
                          have c22b0 : decide (57 < (bt a0 x25_2)) = false := decide_eq_false c22
                          clear c22
                          have H' := Az.mk H
                          clear H
                          have p13 : 0 ≤ (x25_2 : Int) := of_decide_eq_true (by first | (with_reducible assumption) | assumption)
                          have q13 : x25_2 < (a0.size : Int) := of_decide_eq_true (by first | (with_reducible assumption) | assumption)
                          have hx13 := bt_at a0 x25_2
                          replace p13 := eq_true p13
                          replace q13 := eq_true q13
                          go_wp2
                          go_roundg k2
                          case measure => have := HJ1.out; have := HK2.out; omega
                          case rel => exact ⟨(wrap64 (x25_2 + 1)), (by first | rfl | (simp; done) | (simp [*]; done)), H', ⟨by have := HJ1.out; have := HK2.out; omega⟩, by repeat (first | exact Drawn0.refl _ | apply Drawn0.step)⟩
                    · rw [if_neg c19] at H
                      have c19b0 : decide (122 < (bt a0 x25_2)) = false := decide_eq_false c19
                      clear c19
                      have H' := Az.mk H
                      clear H
                      have p13 : 0 ≤ (x25_2 : Int) := of_decide_eq_true (by first | (with_reducible assumption) | assumption)
                      have q13 : x25_2 < (a0.size : Int) := of_decide_eq_true (by first | (with_reducible assumption) | assumption)
                      have hx13 := bt_at a0 x25_2
                      replace p13 := eq_true p13
                      replace q13 := eq_true q13
                      go_wp2
                      go_roundg k2
                      case measure => have := HJ1.out; have := HK2.out; omega
                      case rel => exact ⟨(wrap64 (x25_2 + 1)), (by first | rfl | (simp; done) | (simp [*]; done)), H', ⟨by have := HJ1.out; have := HK2.out; omega⟩, by repeat (first | exact Drawn0.refl _ | apply Drawn0.step)⟩
                · rw [if_neg c12] at H
                  exact absurd H (by simp)
              · rw [if_neg c11] at H
                exact absurd H (by simp)
            · rw [if_neg c10] at H
              have c10b0 : decide (x25_2 < (a0.size : Int)) = false := decide_eq_false c10
              clear c10
              obtain rfl := Option.some.inj H
              go_wp2
              go_ret
              exact ⟨by first | rfl | (simp; done) | (simp [*]; done), by repeat (first | exact Drawn0.refl _ | apply Drawn0.step)⟩
end Go.Proofs.Ytnfgpepggehegaa.I
namespace Go.Proofs.Ytnfgpepggehegaa.I
open Go.RowKit Go.Proofs.YtnfgpepggehegaaW.PrintWords Go.Proofs.YtnfgpepggehegaaW.PrintLast Go.Proofs.YtnfgpepggehegaaW.PrintMore
set_option linter.unusedVariables false
set_option maxRecDepth 100000
set_option linter.unusedSimpArgs false
theorem w64 (x : Int) (h : -1000000 ≤ x ∧ x ≤ 1000000) : wrap64 x = x := by unfold wrap64; omega
theorem Ev.ifp {α : Type} {c : Prop} [Decidable c] {f g : Nat → Option α} {r : α} (h : c) (k : Ev f r) : Ev (fun n => if c then f n else g n) r := by
  simp only [if_pos h]; exact k
theorem Ev.ifn {α : Type} {c : Prop} [Decidable c] {f g : Nat → Option α} {r : α} (h : ¬ c) (k : Ev g r) : Ev (fun n => if c then f n else g n) r := by
  simp only [if_neg h]; exact k
def okc (b : Int) : Bool := decide ((97 ≤ b ∧ b ≤ 122) ∨ (48 ≤ b ∧ b ≤ 57) ∨ b = 95)
theorem chr_ite {α : Type} (b : Int) (c d : α) : (if b < 97 then (if b < 48 then (if b = 95 then c else d) else (if b > 57 then (if b = 95 then c else d) else c)) else (if b > 122 then (if b < 48 then (if b = 95 then c else d) else (if b > 57 then (if b = 95 then c else d) else c)) else c)) = if okc b = true then c else d := by
  unfold okc
  simp only [decide_eq_true_eq]
  repeat' split
  all_goals first | rfl | (exfalso; omega)
def chars (s : ByteArray) : Nat → Nat → Bool
  | 0, _ => true
  | n + 1, i => okc (bt s (i : Int)) && chars s n (i + 1)
def nameOk (s : ByteArray) : Bool := decide (1 ≤ s.size ∧ s.size ≤ 24 ∧ 97 ≤ bt s 0 ∧ bt s 0 ≤ 122) && chars s s.size 0
theorem name_loop (s : ByteArray) (hs : s.size ≤ 24) : ∀ (n i : Nat), i + n = s.size → Ev (fun k => term_Name.l0 k s (s.size : Int) (i : Int)) (chars s n i)
  | 0, i, h => Ev.step (fun k => by rw [term_Name.l0, if_neg (by omega)]; rfl) (Ev.now _)
  | n + 1, i, h => by
    refine Ev.step (fun k => by rw [term_Name.l0, if_pos (by omega), if_pos (by omega), if_pos (by omega), chr_ite]) ?_
    unfold chars
    cases hc : okc (bt s (i : Int))
    · exact Ev.ifn (by simp) (Ev.now _)
    · refine Ev.ifp rfl ?_
      rw [w64 _ (by omega)]
      exact name_loop s hs n (i + 1) (by omega)
theorem refname_loop (s : ByteArray) (hs : s.size ≤ 24) : ∀ (n i : Nat), i + n = s.size → Ev (fun k => virgationref02_Name.l0 k s (i : Int)) (chars s n i)
  | 0, i, h => Ev.step (fun k => by rw [virgationref02_Name.l0, if_neg (by omega)]; rfl) (Ev.now _)
  | n + 1, i, h => by
    refine Ev.step (fun k => by rw [virgationref02_Name.l0, if_pos (by omega), if_pos (by omega), chr_ite]) ?_
    unfold chars
    cases hc : okc (bt s (i : Int))
    · exact Ev.ifn (by simp) (Ev.now _)
    · refine Ev.ifp rfl ?_
      rw [w64 _ (by omega)]
      exact refname_loop s hs n (i + 1) (by omega)
theorem name_no (s : ByteArray) : Ev (fun k => term_Name.j0 k s true) false := Ev.step (fun k => by rw [term_Name.j0, if_pos rfl]) (Ev.now _)
theorem refname_no (s : ByteArray) : Ev (fun k => virgationref02_Name.j0 k s true) false := Ev.step (fun k => by rw [virgationref02_Name.j0, if_pos rfl]) (Ev.now _)
theorem nameOk_no {s : ByteArray} (h : ¬ (1 ≤ s.size ∧ s.size ≤ 24 ∧ 97 ≤ bt s 0 ∧ bt s 0 ≤ 122)) : nameOk s = false := by
  unfold nameOk
  rw [decide_eq_false h, Bool.false_and]
theorem name_ev (s : ByteArray) : Ev (fun k => term_Name.f k s) (nameOk s) := by
  unfold term_Name.f
  by_cases h1 : (s.size : Int) = 0
  · rw [nameOk_no (by omega)]; exact Ev.ifp h1 (name_no s)
  · by_cases h2 : (s.size : Int) > 24
    · rw [nameOk_no (by omega)]; exact Ev.ifn h1 (Ev.ifp h2 (name_no s))
    · refine Ev.ifn h1 (Ev.ifn h2 (Ev.ifp (by omega) ?_))
      by_cases h3 : bt s 0 < 97
      · rw [nameOk_no (by omega)]; exact Ev.ifp h3 (name_no s)
      · refine Ev.ifn h3 ?_
        by_cases h4 : bt s 0 > 122
        · rw [nameOk_no (by omega), decide_eq_true h4]; exact name_no s
        · rw [decide_eq_false h4]
          refine Ev.step (fun k => by rw [term_Name.j0, if_neg (by simp)]) ?_
          unfold nameOk
          rw [decide_eq_true (by omega), Bool.true_and]
          exact name_loop s (by omega) s.size 0 (by omega)
theorem refname_ev (s : ByteArray) : Ev (fun k => virgationref02_Name.f k s) (nameOk s) := by
  unfold virgationref02_Name.f
  by_cases h1 : (s.size : Int) < 1
  · rw [nameOk_no (by omega)]; exact Ev.ifp h1 (refname_no s)
  · by_cases h2 : (s.size : Int) > 24
    · rw [nameOk_no (by omega)]; exact Ev.ifn h1 (Ev.ifp h2 (refname_no s))
    · refine Ev.ifn h1 (Ev.ifn h2 (Ev.ifp (by omega) ?_))
      by_cases h3 : bt s 0 < 97
      · rw [nameOk_no (by omega)]; exact Ev.ifp h3 (refname_no s)
      · refine Ev.ifn h3 ?_
        by_cases h4 : bt s 0 > 122
        · rw [nameOk_no (by omega), decide_eq_true h4]; exact refname_no s
        · rw [decide_eq_false h4]
          refine Ev.step (fun k => by rw [virgationref02_Name.j0, if_neg (by simp)]) ?_
          unfold nameOk
          rw [decide_eq_true (by omega), Bool.true_and]
          exact refname_loop s (by omega) s.size 0 (by omega)
end Go.Proofs.Ytnfgpepggehegaa.I
namespace Go.Proofs.Ytnfgpepggehegaa.I
open Go.RowKit Go.Proofs.YtnfgpepggehegaaW.PrintWords Go.Proofs.YtnfgpepggehegaaW.PrintLast Go.Proofs.YtnfgpepggehegaaW.PrintMore
set_option linter.unusedVariables false
set_option maxRecDepth 100000
set_option linter.unusedSimpArgs false
def szT (x : S28) : Int × Int := if (tmeas x 100000).2 < 0 then (100001, 0) else (100000 - (tmeas x 100000).2, (tmeas x 100000).1)
theorem szT_eq (a b : Int) (l : List S28) : term_Size.f a b l = some ((szT ⟨a, b, l⟩).1, (szT ⟨a, b, l⟩).2) := by unfold term_Size.f szT; split <;> rfl
mutual
def tcnt : S28 → Int
  | ⟨_, _, l⟩ => 1 + tcntL l
def tcntL : List S28 → Int
  | [] => 0
  | x :: xs => tcnt x + tcntL xs
end
mutual
def tdep : S28 → Int
  | ⟨_, _, l⟩ => 1 + tdepL l
def tdepL : List S28 → Int
  | [] => 0
  | x :: xs => max (tdep x) (tdepL xs)
end
mutual
theorem tcnt_ge : ∀ x : S28, 1 ≤ tcnt x
  | ⟨_, _, l⟩ => by have := tcntL_ge l; unfold tcnt; omega
theorem tcntL_ge : ∀ l : List S28, (l.length : Int) ≤ tcntL l
  | [] => by simp [tcntL]
  | x :: xs => by have h1 := tcnt_ge x; have h2 := tcntL_ge xs; unfold tcntL; simp only [List.length_cons]; omega
end
mutual
theorem tdep_bd : ∀ x : S28, 1 ≤ tdep x ∧ tdep x ≤ tcnt x
  | ⟨_, _, l⟩ => by have := tdepL_bd l; unfold tdep tcnt; omega
theorem tdepL_bd : ∀ l : List S28, 0 ≤ tdepL l ∧ tdepL l ≤ tcntL l
  | [] => by simp [tdepL, tcntL]
  | x :: xs => by have h1 := tdep_bd x; have h2 := tdepL_bd xs; have h3 := tcnt_ge x; have h4 := tcntL_ge xs; unfold tdepL tcntL; omega
end
theorem tcnt_f2 (x : S28) : tcnt x = 1 + tcntL x.f2 := by cases x; rfl
theorem tdep_f2 (x : S28) : tdep x = 1 + tdepL x.f2 := by cases x; rfl
theorem tdrop_cnt (l : List S28) (i : Nat) (h : i < l.length) : tcntL (l.drop i) = 1 + tcntL (rd_T28 l (i : Int)).f2 + tcntL (l.drop (i + 1)) := by
  rw [rd_T28_drop l i h]; show tcnt _ + tcntL _ = _; rw [tcnt_f2]
theorem tdrop_dep (l : List S28) (i : Nat) (h : i < l.length) : tdepL (l.drop i) = max (1 + tdepL (rd_T28 l (i : Int)).f2) (tdepL (l.drop (i + 1))) := by
  rw [rd_T28_drop l i h]; show max (tdep _) (tdepL _) = _; rw [tdep_f2]
theorem tdrop_cnt_le : ∀ (l : List S28) (i : Nat), tcntL (l.drop i) ≤ tcntL l
  | [], i => by simp
  | x :: xs, 0 => by simp
  | x :: xs, i + 1 => by have h1 := tdrop_cnt_le xs i; have h2 := tcnt_ge x; rw [List.drop_succ_cons]; show tcntL (xs.drop i) ≤ tcnt x + tcntL xs; omega
theorem tcnt_child (l : List S28) (i : Nat) (h : i < l.length) : tcntL (rd_T28 l (i : Int)).f2 < tcntL l := by
  have h1 := tdrop_cnt l i h; have h2 := tdrop_cnt_le l i; have h3 := tcntL_ge (l.drop (i + 1)); omega
theorem mx_max (a b : Int) : mx a b = max a b := by unfold mx; split <;> omega
mutual
theorem tmeas_eq : ∀ (x : S28) (left : Int), 0 ≤ left → (if tcnt x ≤ left then tmeas x left = (tdep x, left - tcnt x) else (tmeas x left).2 < 0)
  | ⟨_, _, l⟩, left, h => by
    have := tmeasL_eq l (left - 1) 0 (by omega) (by omega)
    unfold tcnt tmeas tdep
    split at this
    · rw [if_pos (by omega), this]
      have h1 := tdepL_bd l
      rw [show max 0 (tdepL l) + 1 = 1 + tdepL l from by omega, show left - 1 - tcntL l = left - (1 + tcntL l) from by omega]
    · rw [if_neg (by omega)]; exact this
theorem tmeasL_eq : ∀ (l : List S28) (left d : Int), -1 ≤ left → 0 ≤ d → (if tcntL l ≤ left then tmeasL l left d = (max d (tdepL l) + 1, left - tcntL l) else (tmeasL l left d).2 < 0)
  | [], left, d, h, hd => by
    unfold tcntL tmeasL tdepL
    split
    · rw [show max d 0 = d from by omega, show left - 0 = left from by omega]
    · simp only; omega
  | x :: xs, left, d, h, hd => by
    have hc := tcnt_ge x
    have hl := tcntL_ge xs
    unfold tcntL tmeasL tdepL
    by_cases hn : left < 0
    · rw [if_pos hn, if_neg (by omega)]; exact hn
    · rw [if_neg hn]
      have h1 := tmeas_eq x left (by omega)
      have hb := tmeas_bd x left (by omega)
      have h2 := tmeasL_eq xs (tmeas x left).2 (mx d (tmeas x left).1) (by omega) (by rw [mx_max]; omega)
      split at h1
      · rw [h1] at h2
        simp only at h2
        rw [h1]
        simp only
        split at h2
        · rw [if_pos (by omega), h2, mx_max, show max (max d (tdep x)) (tdepL xs) = max d (max (tdep x) (tdepL xs)) from by omega, show left - tcnt x - tcntL xs = left - (tcnt x + tcntL xs) from by omega]
        · rw [if_neg (by omega)]; exact h2
      · rw [if_neg (by omega)]
        rw [if_neg (by omega)] at h2
        exact h2
end
def big (x : S28) : Bool := decide (400 < tcnt x) || decide (30 < tdep x)
theorem szT_big (x : S28) : (decide (400 < (szT x).1) || decide (30 < (szT x).2)) = big x := by
  have h := tmeas_eq x 100000 (by omega)
  unfold szT big
  by_cases hc : tcnt x ≤ 100000
  · rw [if_pos hc] at h
    rw [h]
    simp only
    rw [if_neg (by omega)]
    simp only
    rw [show 100000 - (100000 - tcnt x) = tcnt x from by omega]
  · rw [if_neg hc] at h
    rw [if_pos h]
    rw [decide_eq_true (by omega : (400 : Int) < 100001), decide_eq_true (by omega : 400 < tcnt x)]
    rfl
theorem tnodes_ev (N : Nat) : ∀ (a b : Int) (l : List S28) (most : Int), SizeOf.sizeOf l < N → 0 ≤ most → most ≤ 100000 → Ev (fun k => virgationref02_Nodes.f k a b l most) (min (1 + tcntL l) (most + 1)) := by
  induction N with
  | zero => intro a b l most h; omega
  | succ N ih =>
  intro a b l most hN h0 h1
  have loop : ∀ (n i : Nat) (x5 : Int), l.length - i = n → i ≤ l.length → 1 ≤ x5 → x5 ≤ most + 1 → (i : Int) ≤ x5 → Ev (fun k => virgationref02_Nodes.l0 k most x5 (i : Int) a b l) (min (x5 + tcntL (l.drop i)) (most + 1)) := by
    intro n
    induction n with
    | zero =>
      intro i x5 hn hi h2 h3 h4
      have hd : l.drop i = [] := List.drop_eq_nil_of_le (by omega)
      rw [hd, show min (x5 + tcntL []) (most + 1) = x5 from by unfold tcntL; omega]
      exact Ev.step (fun k => by rw [virgationref02_Nodes.l0, if_neg (by omega)]) (Ev.now _)
    | succ n ihn =>
      intro i x5 hn hi h2 h3 h4
      have hil : i < l.length := by omega
      have hc := tcntL_ge (l.drop (i + 1))
      have hx := tcntL_ge (rd_T28 l (i : Int)).f2
      by_cases hm : x5 ≤ most
      · refine Ev.step (fun k => by rw [virgationref02_Nodes.l0, if_pos (by omega), if_pos hm, if_pos (by omega)]) ?_
        refine Ev.bind (a := min (1 + tcntL (rd_T28 l (i : Int)).f2) (most - x5 + 1)) ?_ ?_
        · rw [w64 (most - x5) (by omega)]
          exact ih _ _ _ _ (by have := rd_T28_mem l i hil; omega) (by omega) (by omega)
        · rw [w64 _ (by omega), w64 _ (by omega)]
          have := ihn (i + 1) (x5 + min (1 + tcntL (rd_T28 l (i : Int)).f2) (most - x5 + 1)) (by omega) (by omega) (by omega) (by omega) (by omega)
          rw [tdrop_cnt l i hil]
          rw [show ((i + 1 : Nat) : Int) = (i : Int) + 1 from rfl] at this
          rw [show min (x5 + (1 + tcntL (rd_T28 l (i : Int)).f2 + tcntL (l.drop (i + 1)))) (most + 1) = min (x5 + min (1 + tcntL (rd_T28 l (i : Int)).f2) (most - x5 + 1) + tcntL (l.drop (i + 1))) (most + 1) from by omega]
          exact this
      · rw [show min (x5 + tcntL (l.drop i)) (most + 1) = x5 from by have := tcntL_ge (l.drop i); omega]
        exact Ev.step (fun k => by rw [virgationref02_Nodes.l0, if_pos (by omega), if_neg hm]) (Ev.now _)
  refine Ev.step (fun k => by rw [virgationref02_Nodes.f]) ?_
  have := loop l.length 0 1 (by omega) (by omega) (by omega) (by omega) (by omega)
  rw [List.drop_zero] at this
  exact this
theorem tdepth_ev (N : Nat) : ∀ (a b : Int) (l : List S28), SizeOf.sizeOf l < N → tcntL l ≤ 1000 → Ev (fun k => virgationref02_Depth.f k a b l) (1 + tdepL l) := by
  induction N with
  | zero => intro a b l h; omega
  | succ N ih =>
  intro a b l hN h1
  have hlen := tcntL_ge l
  have loop : ∀ (n i : Nat) (x3 : Int), l.length - i = n → i ≤ l.length → 0 ≤ x3 → x3 ≤ 1000 → Ev (fun k => virgationref02_Depth.l0 k x3 l (l.length : Int) (i : Int)) (1 + max x3 (tdepL (l.drop i))) := by
    intro n
    induction n with
    | zero =>
      intro i x3 hn hi h2 h3
      have hd : l.drop i = [] := List.drop_eq_nil_of_le (by omega)
      rw [hd, show 1 + max x3 (tdepL []) = x3 + 1 from by unfold tdepL; omega]
      exact Ev.step (fun k => by rw [virgationref02_Depth.l0, if_neg (by omega), w64 _ (by omega)]) (Ev.now _)
    | succ n ihn =>
      intro i x3 hn hi h2 h3
      have hil : i < l.length := by omega
      have hch := tcnt_child l i hil
      have hdb := tdepL_bd (rd_T28 l (i : Int)).f2
      refine Ev.step (fun k => by rw [virgationref02_Depth.l0, if_pos (by omega), if_pos (by omega), if_pos (by omega)]) ?_
      refine Ev.bind (a := 1 + tdepL (rd_T28 l (i : Int)).f2) ?_ ?_
      · exact ih _ _ _ (by have := rd_T28_mem l i hil; omega) (by omega)
      · rw [w64 _ (by omega), mx_max, tdrop_dep l i hil]
        have := ihn (i + 1) (max x3 (1 + tdepL (rd_T28 l (i : Int)).f2)) (by omega) (by omega) (by omega) (by omega)
        rw [show ((i + 1 : Nat) : Int) = (i : Int) + 1 from rfl] at this
        rw [show 1 + max x3 (max (1 + tdepL (rd_T28 l (i : Int)).f2) (tdepL (l.drop (i + 1)))) = 1 + max (max x3 (1 + tdepL (rd_T28 l (i : Int)).f2)) (tdepL (l.drop (i + 1))) from by omega]
        exact this
  refine Ev.step (fun k => by rw [virgationref02_Depth.f]) ?_
  have := loop l.length 0 0 (by omega) (by omega) (by omega) (by omega)
  rw [List.drop_zero, show max 0 (tdepL l) = tdepL l from by have := tdepL_bd l; omega] at this
  exact this
end Go.Proofs.Ytnfgpepggehegaa.I
namespace Go.Proofs.Ytnfgpepggehegaa.I
open Go.RowKit Go.Proofs.YtnfgpepggehegaaW.PrintWords Go.Proofs.YtnfgpepggehegaaW.PrintLast Go.Proofs.YtnfgpepggehegaaW.PrintMore
attribute [local go_sem] max2_int min2_int max_two min_two max_three min_three max_four min_four
set_option linter.unusedVariables false
set_option maxRecDepth 100000
set_option linter.unusedSimpArgs false
def HoldX (p : Prop) : Prop := p
theorem holdX {p : Prop} (h : HoldX p) : p := h
def hdF (sy : List S87) (fu pa : List S53) (k n : Int) : Option (List S53) :=
  if n < 0 then none else if k = 0 then (if n < (pa.length : Int) then some (rd_T53 pa n).f0 else none) else if k = 1 then (if n < (fu.length : Int) then some (rd_T53 fu n).f0 else none) else if k = 2 then (if n < (sy.length : Int) then some (List.replicate (rd_T87 sy n).f1.toNat z53) else none) else none
theorem infoS53 : (Try.prog.info? 53).map (fun i => (i.zero, i.size, i.bytes)) = some (some (.agg #[.slice none 0 0]), 1, 24) := by kernel_rfl
theorem make_sorts (n : Nat) (hn : n ≤ 1000000) : ∃ ob : Obj, (∀ w : World, (Instr.makeSlice 51 (.int .i64 (n : Int)) (.int .i64 (n : Int))).run Try.prog w = .ok (.slice (some ⟨w.heap.size, 0, none⟩) n n) (w.alloc ob)) ∧
    (∀ (w : World) (b : Nat), b ≤ w.heap.size → Kd.R k53 53 (w.alloc ob) b (fun k => w.heap.size ≤ k) (.slice (some ⟨w.heap.size, 0, none⟩) n n) (List.replicate n z53)) := by
  obtain ⟨i0, hi, hzz⟩ := Option.map_eq_some_iff.1 infoS53
  simp only [Prod.mk.injEq] at hzz
  obtain ⟨hz0, hz1, hz2⟩ := hzz
  refine ⟨.cells (madeCells (Value.agg #[.slice none 0 0]).cells (n * 1)) 53, fun w => ?_, fun w b hb => ?_⟩
  · have h := run_make (P := Try.prog) (w := w) 51 53 i0 (.agg #[.slice none 0 0]) Try.underlying51 hi hz0 .i64 .i64 (n : Int) (n : Int) (by omega) (by omega) (by rw [hz2]; omega) (by omega)
    rw [hz1, Int.toNat_natCast] at h
    exact h
  · have hr : Reps (k53.M w b (fun _ => False)) k53.sz (List.replicate n z53) (madeCells (Value.agg #[.slice none 0 0]).cells (n * 1)).toList := Kd.reps_made (R := k53.M w b (fun _ => False)) (z := .agg #[.slice none 0 0]) (size := 1) (z0 := z53) rfl (by decide) (k53_mkM w b _ z53 (Kd.R_nil _ _ _ _ _)) n
    have h := OwnRow.lit (e := 53) w b (hr.imp_ (R' := k53.M (w.alloc (.cells (madeCells (Value.agg #[.slice none 0 0]).cells (n * 1)) 53)) b (fun k => w.heap.size ≤ k ∧ some k ≠ (Value.slice (some ⟨w.heap.size, 0, none⟩) n n).ownBlock)) (fun p c hp => k53.M_mono (fun _ hk => hk.elim) (Kd.M_below hp (bal (Below.refl _ _) _)))) hb (by rw [List.length_replicate]; omega)
    rw [List.length_replicate] at h
    refine ⟨fun k hk => ?_, ?_⟩
    · have : w.heap.size = k := by simpa [Value.ownBlock] using hk
      omega
    · simpa using h
theorem V_at41 {w : World} {B n c : Nat} {P : Nat → Prop} {A : Option Addr} {l : List S53} (h : Kd.V k53 53 w B P (.slice A n c) l) {i : Int} (h0 : 0 ≤ i) (h1 : i < (n : Int)) :
    ∃ ad A' c', A = some ad ∧ w.cell? (ad.add i.toNat) = some (.slice A' (rd_T53 l i).f0.length c') ∧ Kd.V k53 53 w B P (.slice A' (rd_T53 l i).f0.length c') (rd_T53 l i).f0 := by
  obtain ⟨ad, A', c', rfl, hx, hl, hi⟩ := at_T53 (Kd.V_reads' h).2.2 i h0 (by have := (Kd.V_reads' h).1; omega)
  obtain ⟨ce, hce, hM, hcc⟩ := Kd.V_get h z53 i h0 h1
  obtain ⟨A2, c2, rfl, l2, g2⟩ := k53_openF hM
  have hv := hcc 0 _ rfl
  rw [Nat.add_zero, show (k53).sz = 1 from rfl, Nat.mul_one] at hv
  have e := Option.some.inj (hv.symm.trans hx)
  injection e with ea _ ec
  rw [ea] at g2
  rw [ec] at l2
  exact ⟨ad, A', c', rfl, hx, Kd.V_mk l2 g2⟩
set_option maxHeartbeats 8000000 in
theorem head_calls (P : Nat → Prop) (A0 : Option Addr) (c0 : Nat) (l0 : List S87) (A1 : Option Addr) (c1 : Nat) (l1 : List S53) (A2 : Option Addr) (c2 : Nat) (l2 : List S53) (k n : Int) (u : Value) (w : World) (hu : u.oneCell' = true)
    (hr0 : Kd.C k87 w A0 l0.length l0) (h1 : Kd.V k53 53 w w.heap.size P (.slice A1 l1.length c1) l1) (h2 : Kd.V k53 53 w w.heap.size P (.slice A2 l2.length c2) l2) (hrk : ∀ x ∈ l0, 0 ≤ x.f1 ∧ x.f1 ≤ 1000000) :
    Calls Try.prog 77 #[.agg #[.slice A0 l0.length c0, .slice A1 l1.length c1, .slice A2 l2.length c2], .agg #[.int .i64 k, .int .i64 n, u]] w fun e w' => ∃ v, e = .returned (.tuple #[.agg #[v], .bool (hdF l0 l1 l2 k n).isSome]) ∧ Kd.V k53 53 w' w.heap.size (fun q => P q ∨ w.heap.size ≤ q) v ((hdF l0 l1 l2 k n).getD []) ∧ Below w.heap.size w w' := by
  have hu99 := Try.underlying99
  have hu28 := Try.underlying28
  have hu53 := Try.underlying53
  have hu87 := Try.underlying87
  have HR0 := Az.mk hr0
  have H1 := Az.mk (Kd.V_bound h1)
  have H2 := Az.mk (Kd.V_bound h2)
  have HK := Az.mk hrk
  clear hr0 h1 h2 hrk
  go_enter Try.func77, Try.ntmps77
  go_wp2_with (first
   | ((with_reducible refine gate_dst (N := 2) rfl ?_)
      refine box_event ?hg (N := 2) ?hd (cs := #[.slice A0 l0.length c0, .slice A1 l1.length c1, .slice A2 l2.length c2]) (t := 99) ?hr ?_
      (case hd => rfl)
      (case hg => rfl)
      (case hr => first | (go_simp; done) | (go_simp; rfl))
      intro g2 hg2 w2 hbox hb2
      have S22 := Az.mk hbox
      have HB2 := Az.mk hb2
      have hw2 : w.heap.size ≤ g2 := by omega
      clear hbox hb2 hg2)
   | ((with_reducible refine gate_dst (N := 3) rfl ?_)
      refine box_event ?hg (N := 3) ?hd (cs := #[.int .i64 k, .int .i64 n, u]) (t := 28) ?hr ?_
      (case hd => rfl)
      (case hg => rfl)
      (case hr => first | (go_simp; done) | (go_simp; rfl))
      intro g3 hg3 w3 hbox hb3
      have hn32 : g3 ≠ g2 := by have := blk_lt S22.out; omega
      have hw3 : w.heap.size ≤ g3 := by have := HB2.out.size; omega
      have S23 := Az.mk (bkB S22.out hb3)
      have S33 := Az.mk hbox
      have HB3 := Az.mk (bst HB2.out hb3)
      clear hbox hb3 hg3 S22 HB2)
   | ((with_reducible refine gate_dst (N := 4) rfl ?_)
      refine box_event ?hg (N := 4) ?hd (cs := #[.slice none 0 0]) (t := 53) ?hr ?_
      (case hd => rfl)
      (case hg => rfl)
      (case hr => first | (go_simp; done) | (go_simp; rfl))
      intro g4 hg4 w4 hbox hb4
      have hn42 : g4 ≠ g2 := by have := blk_lt S23.out; omega
      have hn43 : g4 ≠ g3 := by have := blk_lt S33.out; omega
      have hw4 : w.heap.size ≤ g4 := by have := HB3.out.size; omega
      have S24 := Az.mk (bkB S23.out hb4)
      have S34 := Az.mk (bkB S33.out hb4)
      have S44 := Az.mk hbox
      have HB4 := Az.mk (bst HB3.out hb4)
      have hlt4 : g4 < w4.heap.size := blk_lt hbox
      clear hbox hb4 hg4 S23 S33 HB3
      refine holdX ?_))
  unfold HoldX
  have HR4 := Az.mk (Kd.C_below HR0.out HB4.out)
  have V1 := Az.mk (Kd.V_below H1.out HB4.out)
  have V2 := Az.mk (Kd.V_below H2.out HB4.out)
  have a0 : w4.cell? ⟨g2, 0, none⟩ = some (.slice A0 l0.length c0) := (blk_cell S24.out 0).trans rfl
  have a1 : w4.cell? ⟨g2, 1, none⟩ = some (.slice A1 l1.length c1) := (blk_cell S24.out 1).trans rfl
  have a2 : w4.cell? ⟨g2, 2, none⟩ = some (.slice A2 l2.length c2) := (blk_cell S24.out 2).trans rfl
  have b0 : w4.cell? ⟨g3, 0, none⟩ = some (.int .i64 k) := (blk_cell S34.out 0).trans rfl
  have b1 : w4.cell? ⟨g3, 1, none⟩ = some (.int .i64 n) := (blk_cell S34.out 1).trans rfl
  have d0 : w4.cell? ⟨g4, 0, none⟩ = some (.slice none 0 0) := (blk_cell S44.out 0).trans rfl
  have df := bkF S44.out 0
  have fin : ∀ (v : Value) (l : List S53) (wq : World), Below w.heap.size w wq → wq.heap[g4]? = some (.cells #[.slice none 0 0] 53 (0, 0)) → Kd.V k53 53 wq w.heap.size (fun q => (P q ∨ w.heap.size ≤ q) ∧ q ≠ g4) v l → Kd.V k53 53 (wq.setCell ⟨g4, 0, none⟩ v) w.heap.size (fun q => P q ∨ w.heap.size ≤ q) v l ∧ Below w.heap.size w (wq.setCell ⟨g4, 0, none⟩ v) := fun v l wq hb hc hv => ⟨Kd.V_mono (Kd.V_far (p := ⟨g4, 0, none⟩) hv (fun _ hk => hk.2) v) (fun _ hk => hk.1), bset (g := g4) (j := 0) hb hw4⟩
  have nilV : Kd.V k53 53 w4 w.heap.size (fun q => (P q ∨ w.heap.size ≤ q) ∧ q ≠ g4) (.slice none 0 0) ([] : List S53) := Kd.V_nil _ _ _ _ _
  by_cases q1 : n < 0
  · have b : decide (n < 0) = true := decide_eq_true q1
    have e : hdF l0 l1 l2 k n = none := by unfold hdF; rw [if_pos q1]
    go_wp2_with fail
    refine bodyPost_ret (results_ct rfl _ _ g4 53 #[.slice none 0 0] (0, 0) _ rfl (blk_put (cs' := #[.slice none 0 0]) S44.out 0 _ rfl) Try.underlying53 rfl (by kernel_rfl)) rfl ?_
    try rw [e]
    exact ⟨_, rfl, fin _ _ _ HB4.out S44.out nilV⟩
  have bn : decide (n < 0) = false := decide_eq_false q1
  have pn : (0 ≤ n) = True := eq_true (by omega)
  by_cases q2 : k = 0
  · subst q2
    by_cases q3 : n < (l2.length : Int)
    · have b : decide (n < (l2.length : Int)) = true := decide_eq_true q3
      have p3 := eq_true q3
      have e : hdF l0 l1 l2 0 n = some (rd_T53 l2 n).f0 := by unfold hdF; rw [if_neg q1, if_pos rfl, if_pos q3]
      obtain ⟨ad, A', c', rfl, hx, hv⟩ := V_at41 V2.out (by omega) q3
      have HV := Az.mk hv
      clear hv
      go_wp2_with fail
      refine bodyPost_ret (results_ct rfl _ _ g4 53 #[.slice A' (rd_T53 l2 n).f0.length c'] (0, 0) _ rfl (blk_put (cs' := #[.slice A' (rd_T53 l2 n).f0.length c']) S44.out 0 _ rfl) Try.underlying53 rfl (by kernel_rfl)) rfl ?_
      try rw [e]
      exact ⟨_, rfl, fin _ _ _ HB4.out S44.out (Kd.V_mono HV.out (fun q hq => ⟨.inl hq.1, by omega⟩))⟩
    · have b : decide (n < (l2.length : Int)) = false := decide_eq_false q3
      have e : hdF l0 l1 l2 0 n = none := by unfold hdF; rw [if_neg q1, if_pos rfl, if_neg q3]
      go_wp2_with fail
      refine bodyPost_ret (results_ct rfl _ _ g4 53 #[.slice none 0 0] (0, 0) _ rfl (blk_put (cs' := #[.slice none 0 0]) S44.out 0 _ rfl) Try.underlying53 rfl (by kernel_rfl)) rfl ?_
      try rw [e]
      exact ⟨_, rfl, fin _ _ _ HB4.out S44.out nilV⟩
  have bk : (k == 0) = false := beq_eq_false_iff_ne.2 q2
  by_cases q4 : k = 1
  · subst q4
    clear bk
    by_cases q3 : n < (l1.length : Int)
    · have b : decide (n < (l1.length : Int)) = true := decide_eq_true q3
      have p3 := eq_true q3
      have e : hdF l0 l1 l2 1 n = some (rd_T53 l1 n).f0 := by unfold hdF; rw [if_neg q1, if_neg q2, if_pos rfl, if_pos q3]
      obtain ⟨ad, A', c', rfl, hx, hv⟩ := V_at41 V1.out (by omega) q3
      have HV := Az.mk hv
      clear hv
      go_wp2_with fail
      refine bodyPost_ret (results_ct rfl _ _ g4 53 #[.slice A' (rd_T53 l1 n).f0.length c'] (0, 0) _ rfl (blk_put (cs' := #[.slice A' (rd_T53 l1 n).f0.length c']) S44.out 0 _ rfl) Try.underlying53 rfl (by kernel_rfl)) rfl ?_
      try rw [e]
      exact ⟨_, rfl, fin _ _ _ HB4.out S44.out (Kd.V_mono HV.out (fun q hq => ⟨.inl hq.1, by omega⟩))⟩
    · have b : decide (n < (l1.length : Int)) = false := decide_eq_false q3
      have e : hdF l0 l1 l2 1 n = none := by unfold hdF; rw [if_neg q1, if_neg q2, if_pos rfl, if_neg q3]
      go_wp2_with fail
      refine bodyPost_ret (results_ct rfl _ _ g4 53 #[.slice none 0 0] (0, 0) _ rfl (blk_put (cs' := #[.slice none 0 0]) S44.out 0 _ rfl) Try.underlying53 rfl (by kernel_rfl)) rfl ?_
      try rw [e]
      exact ⟨_, rfl, fin _ _ _ HB4.out S44.out nilV⟩
  have bk1 : (k == 1) = false := beq_eq_false_iff_ne.2 q4
  by_cases q5 : k = 2
  · subst q5
    clear bk bk1
    by_cases q3 : n < (l0.length : Int)
    · have b : decide (n < (l0.length : Int)) = true := decide_eq_true q3
      have p3 := eq_true q3
      have e : hdF l0 l1 l2 2 n = some (List.replicate (rd_T87 l0 n).f1.toNat z53) := by unfold hdF; rw [if_neg q1, if_neg q2, if_neg q4, if_pos rfl, if_pos q3]
      obtain ⟨ad, rfl, hx0, hx1⟩ := at_T87 HR4.out n (by omega) q3
      have hm : rd_T87 l0 n ∈ l0 := by
        unfold rd_T87
        rw [List.getD_eq_getElem?_getD, List.getElem?_eq_getElem (by omega : n.toNat < l0.length)]
        exact List.getElem_mem _
      obtain ⟨r0, r1⟩ := HK.out _ hm
      obtain ⟨m, hm⟩ : ∃ m : Nat, (rd_T87 l0 n).f1 = (m : Int) := ⟨(rd_T87 l0 n).f1.toNat, by omega⟩
      rw [hm] at hx1
      rw [hm, Int.toNat_natCast] at e
      obtain ⟨ob, hrun, hrow⟩ := make_sorts m (by omega)
      have HRow := Az.mk hrow
      clear hrow
      go_wp2_with fail
      obtain ⟨x, hx⟩ : ∃ x : Value, x = .slice (some ⟨w4.heap.size, 0, none⟩) m m := ⟨_, rfl⟩
      have hs : (w4.setCell ⟨g4, 0, none⟩ x).heap.size = w4.heap.size := World.size_setCell _ _ _
      have hrow := HRow.out (w4.setCell ⟨g4, 0, none⟩ x) w.heap.size (by rw [hs]; exact HB4.out.size)
      rw [hs, ← hx] at hrow
      rw [← hx]
      refine bodyPost_ret (results_ct rfl _ _ g4 53 #[x] (0, 0) _ rfl (bkA (blk_put (cs' := #[x]) S44.out 0 _ rfl) _) Try.underlying53 rfl (by kernel_rfl)) rfl ?_
      try rw [e]
      exact ⟨_, rfl, Kd.V_mono (Kd.R_V hrow) (fun q hq => .inr (by have := HB4.out.size; omega)), bal (bset (g := g4) (j := 0) HB4.out hw4) _⟩
    · have b : decide (n < (l0.length : Int)) = false := decide_eq_false q3
      have e : hdF l0 l1 l2 2 n = none := by unfold hdF; rw [if_neg q1, if_neg q2, if_neg q4, if_pos rfl, if_neg q3]
      go_wp2_with fail
      refine bodyPost_ret (results_ct rfl _ _ g4 53 #[.slice none 0 0] (0, 0) _ rfl (blk_put (cs' := #[.slice none 0 0]) S44.out 0 _ rfl) Try.underlying53 rfl (by kernel_rfl)) rfl ?_
      try rw [e]
      exact ⟨_, rfl, fin _ _ _ HB4.out S44.out nilV⟩
  have bk2 : (k == 2) = false := beq_eq_false_iff_ne.2 q5
  have e : hdF l0 l1 l2 k n = none := by unfold hdF; rw [if_neg q1, if_neg q2, if_neg q4, if_neg q5]
  go_wp2_with fail
  refine bodyPost_ret (results_ct rfl _ _ g4 53 #[.slice none 0 0] (0, 0) _ rfl (blk_put (cs' := #[.slice none 0 0]) S44.out 0 _ rfl) Try.underlying53 rfl (by kernel_rfl)) rfl ?_
  try rw [e]
  exact ⟨_, rfl, fin _ _ _ HB4.out S44.out nilV⟩
end Go.Proofs.Ytnfgpepggehegaa.I
namespace Go.Proofs.Ytnfgpepggehegaa.I
open Go.RowKit Go.Proofs.YtnfgpepggehegaaW.PrintWords Go.Proofs.YtnfgpepggehegaaW.PrintLast Go.Proofs.YtnfgpepggehegaaW.PrintMore
attribute [local go_sem] max2_int min2_int max_two min_two max_three min_three max_four min_four
set_option linter.unusedVariables false
set_option maxRecDepth 100000
set_option linter.unusedSimpArgs false
mutual
/-- Has it, and each sort in it, at most 8 arguments? -/
def fewS : S53 → Bool
  | ⟨l⟩ => fewL l && decide (l.length ≤ 8)
def fewL : List S53 → Bool
  | [] => true
  | x :: xs => fewS x && fewL xs
end
theorem few1_calls (l : List S53) (A : Option Addr) (c : Nat) (w : World) (hr : Kd.C k53 w A l.length l) (hc : l.length ≤ c) :
    Calls Try.prog 71 #[.agg #[.slice A l.length c]] w fun e w' => e = .returned (.bool (decide (l.length ≤ 8))) ∧ Below w.heap.size w w' := by
  have hu53 := Try.underlying53
  have hlen : l.length ≤ 9223372036854775807 := hr.2.1
  have HR := Az.mk hr
  clear hr
  go_enter Try.func71, Try.ntmps71
  have HB := Az.mk (bal (Below.refl w.heap.size w) (.cells #[.slice A l.length c] 53))
  by_cases h8 : l.length ≤ 8
  · have h8' : decide ((l.length : Int) ≤ 8) = true := decide_eq_true (by omega)
    have h9 : decide (l.length ≤ 8) = true := decide_eq_true h8
    go_wp2_with fail
    go_ret
    exact ⟨by rw [h9]; rfl, HB.out⟩
  · have h8' : decide ((l.length : Int) ≤ 8) = false := decide_eq_false (by omega)
    have h9 : decide (l.length ≤ 8) = false := decide_eq_false h8
    go_wp2_with fail
    go_ret
    exact ⟨by rw [h9]; rfl, HB.out⟩
theorem all_calls (N : Nat) : ∀ (l : List S53) (A : Option Addr) (c : Nat) (w : World) (hN : SizeOf.sizeOf l < N) (hr : Kd.C k53 w A l.length l) (hc : l.length ≤ c),
    Calls Try.prog 70 #[.agg #[.slice A l.length c], .func (.func 71) #[] #[]] w fun e w' => e = .returned (.bool (fewS ⟨l⟩)) ∧ Below w.heap.size w w' := by
  induction N with
  | zero => intro l A c w hN; omega
  | succ N ih =>
  intro l A c w hN hr hc
  have hu53 := Try.underlying53
  have hlen : l.length ≤ 9223372036854775807 := hr.2.1
  have HR := Az.mk hr
  have HC := Az.mk hc
  have HN := Az.mk hN
  have IH := Az.mk ih
  clear hr hc hN ih
  go_enter Try.func70, Try.ntmps70
  go_wp2_with (
    (with_reducible refine gate_dst (N := 2) rfl ?_)
    refine box_event ?hg (N := 2) ?hd (cs := #[.slice A l.length c]) (t := 53) ?hr ?_
    (case hd => rfl)
    (case hg => rfl)
    (case hr => first | (go_simp; done) | (go_simp; rfl))
    intro gb hgb w2 hbox hb2
    have HB2 := Az.mk hb2
    have hcz2 : w2.cell? ⟨gb, 0, none⟩ = some (.slice A l.length c) := (blk_cell hbox 0).trans rfl
    have Hbox := Az.mk hbox
    clear hbox hb2 hgb)
  clear hcz2
  go_loopg [10] l.length (fun kq v10 wr => ∃ (i : Nat), v10 = .int .i64 (i : Int) ∧ Az (kq + i = l.length) ∧ Az (fewL (l.drop i) = fewL l) ∧ Az (wr.heap[gb]? = some (.cells #[.slice A l.length c] 53 (0, 0))) ∧ Az (Below w.heap.size w wr))
  case atStart => exact ⟨0, rfl, ⟨by omega⟩, ⟨by rw [List.drop_zero]⟩, Hbox, HB2⟩
  case round =>
    clear Hbox HB2
    obtain ⟨i, rfl, Hi, Hm, Hbox, HB⟩ := hrel
    have hi : i ≤ l.length := by have := Hi.out; omega
    by_cases hlt : i < l.length
    · have hdrop := Az.mk (rd_T53_drop l i hlt)
      have hmem := Az.mk (rd_T53_mem l i hlt)
      obtain ⟨ad, A1, c1, he, hx1, hl1, hi1⟩ := at_T53 HR.out (i : Int) (by omega) (by omega)
      cases he
      replace hx1 := (HB.out.cell (World.block_lt_of_cell? w _ hx1)).trans hx1
      rw [Int.toNat_natCast] at hx1
      have Hl1 := Az.mk hl1
      have Hi1 := Az.mk hi1
      clear hl1 hi1
      have p1 : (0 ≤ (i : Int)) = True := eq_true (by omega)
      have p2 : ((i : Int) < (l.length : Int)) = True := eq_true (by omega)
      have p3 : (i < l.length) = True := eq_true (by omega)
      generalize hx : rd_T53 l (i : Int) = x at *
      have Hx := Az.mk hx
      clear hx
      go_wp2_with (
        (with_reducible refine gate_dst (N := 6) rfl ?_)
        refine box_event ?hg (N := 6) ?hd (cs := #[.slice none 0 0]) (t := 53) ?hr ?_
        (case hd => rfl)
        (case hg => rfl)
        (case hr => first | (go_simp; done) | (go_simp; rfl))
        intro gi hgi w3 hbox3 hb3
        have hsz := below_size HB.out
        have HB3 := Az.mk (bset (j := 0) (v := .slice A1 x.f0.length c1) (bst HB.out hb3) (show w.heap.size ≤ gi by omega))
        have hne4 : gb ≠ gi := by have := blk_lt Hbox.out; omega
        have Hbox3 := Az.mk (blk_far (p := ⟨gi, 0, none⟩) (bkB Hbox.out hb3) hne4 (.slice A1 x.f0.length c1))
        have hci : (w3.setCell ⟨gi, 0, none⟩ (.slice A1 x.f0.length c1)).cell? ⟨gi, 0, none⟩ = some (.slice A1 x.f0.length c1) := (blk_cell (blk_set hbox3 0 (.slice A1 x.f0.length c1)) 0).trans rfl
        have hcz := (blk_cell hbox3 0).trans rfl
        have hfz := bkF hbox3 0
        clear hbox3 hb3 hsz hgi HB Hbox)
      (with_reducible refine (IH.out x.f0 A1 c1 _ ?_ (Kd.C_below Hi1.out HB3.out) Hl1.out).mono ?_)
      · have := hmem.out; have := HN.out; omega
      rintro e w4 ⟨rfl, hB4⟩
      have HB := Az.mk (bst HB3.out hB4)
      have Hbox := Az.mk (bkB Hbox3.out hB4)
      clear hB4 HB3 Hbox3 hci hcz hfz
      have hxe : fewS ⟨x.f0⟩ = fewS x := by cases x; rfl
      have HM : Az (fewL l = (fewS ⟨x.f0⟩ && fewL (l.drop (i + 1)))) := ⟨by rw [← Hm.out, hdrop.out, fewL, hxe]⟩
      clear hxe
      cases hf : fewS ⟨x.f0⟩ with
      | false =>
        rw [hf] at HM
        have HM2 : Az (fewS ⟨l⟩ = false) := ⟨by rw [fewS, HM.out]; simp⟩
        clear hf HM
        go_wp2_with fail
        go_ret
        exact ⟨by rw [HM2.out]; rfl, HB.out⟩
      | true =>
        rw [hf] at HM
        clear hf
        go_wp2_with fail
        have hk := Hi.out
        obtain ⟨k1, rfl⟩ : ∃ k1, gk = k1 + 1 := ⟨gk - 1, by omega⟩
        go_roundg k1
        case measure => omega
        case rel => exact ⟨i + 1, by go_num, ⟨by omega⟩, ⟨by rw [HM.out]; simp⟩, Hbox, HB⟩
    · have hie : i = l.length := by omega
      have Hfew : Az (fewS ⟨l⟩ = decide (l.length ≤ 8)) := ⟨by rw [fewS, ← Hm.out, hie, List.drop_length, fewL]; simp⟩
      have Hie := Az.mk hie
      clear hie
      have hcz2 : wr.cell? ⟨gb, 0, none⟩ = some (.slice A l.length c) := (blk_cell Hbox.out 0).trans rfl
      go_wp2_with fail
      (with_reducible refine (few1_calls l A c _ (Kd.C_below HR.out HB.out) HC.out).mono ?_)
      rintro e w4 ⟨rfl, hB4⟩
      have HB4 := Az.mk (bst HB.out hB4)
      clear hB4
      go_wp2_with fail
      go_ret
      exact ⟨by rw [Hfew.out]; rfl, HB4.out⟩
def sorts_Check.f (l0_0 : List S53) : Option Int := some (if (meas ⟨l0_0⟩ 60).2 < 0 ∨ (meas ⟨l0_0⟩ 60).1 > 30 ∨ fewS ⟨l0_0⟩ = false then 6 else 0)
theorem sorts_Check.calls (A0_0 : Option Addr) (c0_0 : Nat) (l0_0 : List S53) (r : Int) (w : World) (hr0_0 : Kd.C k53 w A0_0 l0_0.length l0_0) (hc0_0 : l0_0.length ≤ c0_0) (h : sorts_Check.f l0_0 = some r) :
    Calls Try.prog 51 #[.agg #[.slice A0_0 l0_0.length c0_0]] w fun e w' => e = .returned (.int .i64 r) ∧ Below w.heap.size w w' := by
  have hu53 := Try.underlying53
  have HR := Az.mk hr0_0
  have HC := Az.mk hc0_0
  have HBD := Az.mk (meas_bd ⟨l0_0⟩ 60 (by omega))
  obtain ⟨n1, n2, hS⟩ : ∃ n1 n2, sorts_Size.f l0_0 = some (n1, n2) := ⟨_, _, rfl⟩
  have HS := Az.mk hS
  have HSC : Az ((n1 > 60 ∨ n2 > 30 ∨ fewS ⟨l0_0⟩ = false) ↔ ((meas ⟨l0_0⟩ 60).2 < 0 ∨ (meas ⟨l0_0⟩ 60).1 > 30 ∨ fewS ⟨l0_0⟩ = false)) := ⟨by
    have hb := HBD.out
    unfold sorts_Size.f at hS
    by_cases hneg : (meas ⟨l0_0⟩ 60).2 < 0
    · simp only [if_pos hneg, Option.some.injEq, Prod.mk.injEq] at hS
      obtain ⟨rfl, rfl⟩ := hS
      exact ⟨fun _ => .inl hneg, fun _ => .inl (by omega)⟩
    · simp only [if_neg hneg, Option.some.injEq, Prod.mk.injEq] at hS
      obtain ⟨rfl, rfl⟩ := hS
      exact ⟨fun h => h.elim (fun h => by omega) .inr, fun h => h.elim (fun h => absurd h hneg) .inr⟩⟩
  have HF := Az.mk h
  clear h hr0_0 hc0_0 hS
  go_enter Try.func51, Try.ntmps51
  go_wp2_with (
      (with_reducible refine gate_dst (N := 1) rfl ?_)
      refine box_event ?hg (N := 1) ?hd (cs := #[.slice A0_0 l0_0.length c0_0]) (t := 53) ?hr ?_
      (case hd => rfl)
      (case hg => rfl)
      (case hr => first | (go_simp; done) | (go_simp; rfl))
      intro gb hgb w2 hbox hb2
      have HB2 := Az.mk hb2
      have Hbox := Az.mk hbox
      have hcz2 : w2.cell? ⟨gb, 0, none⟩ = some (.slice A0_0 l0_0.length c0_0) := (blk_cell hbox 0).trans rfl
      clear hbox hb2 hgb)
  (with_reducible refine (sorts_Size.calls A0_0 c0_0 l0_0 n1 n2 _ (Kd.C_below HR.out HB2.out) HC.out HS.out).mono ?_)
  rintro e w3 ⟨rfl, hB3⟩
  have HB3 := Az.mk (bst HB2.out hB3)
  have Hbox3 := Az.mk (bkB Hbox.out hB3)
  clear hB3 hcz2
  have hcz3 : w3.cell? ⟨gb, 0, none⟩ = some (.slice A0_0 l0_0.length c0_0) := (blk_cell Hbox3.out 0).trans rfl
  by_cases h1 : n1 > 60
  · have HR6 : Az (r = 6) := ⟨by have e := HF.out; rw [sorts_Check.f, if_pos (HSC.out.1 (.inl h1))] at e; injection e with e; exact e.symm⟩
    have h1b : decide (60 < n1) = true := decide_eq_true h1
    go_wp2_with fail
    go_ret
    exact ⟨by rw [HR6.out]; rfl, HB3.out⟩
  · have h1b : decide (60 < n1) = false := decide_eq_false h1
    by_cases h2 : n2 > 30
    · have HR6 : Az (r = 6) := ⟨by have e := HF.out; rw [sorts_Check.f, if_pos (HSC.out.1 (.inr (.inl h2)))] at e; injection e with e; exact e.symm⟩
      have h2b : decide (30 < n2) = true := decide_eq_true h2
      go_wp2_with fail
      go_ret
      exact ⟨by rw [HR6.out]; rfl, HB3.out⟩
    · have h2b : decide (30 < n2) = false := decide_eq_false h2
      go_wp2_with fail
      (with_reducible refine (all_calls (SizeOf.sizeOf l0_0 + 1) l0_0 A0_0 c0_0 _ (by omega) (Kd.C_below HR.out HB3.out) HC.out).mono ?_)
      rintro e w4 ⟨rfl, hB4⟩
      have HB4 := Az.mk (bst HB3.out hB4)
      clear hB4
      cases hf : fewS ⟨l0_0⟩ with
      | false =>
        have HR6 : Az (r = 6) := ⟨by have e := HF.out; rw [sorts_Check.f, if_pos (HSC.out.1 (.inr (.inr hf)))] at e; injection e with e; exact e.symm⟩
        clear hf
        go_wp2_with fail
        go_ret
        exact ⟨by rw [HR6.out]; rfl, HB4.out⟩
      | true =>
        have HR6 : Az (r = 0) := ⟨by have e := HF.out; rw [sorts_Check.f, if_neg (fun h => by rcases HSC.out.2 h with h | h | h; omega; omega; rw [hf] at h; cases h)] at e; injection e with e; exact e.symm⟩
        clear hf
        go_wp2_with fail
        go_ret
        exact ⟨by rw [HR6.out]; rfl, HB4.out⟩
end Go.Proofs.Ytnfgpepggehegaa.I
namespace Go.Proofs.Ytnfgpepggehegaa.I
open Go.RowKit Go.Proofs.YtnfgpepggehegaaW.PrintWords Go.Proofs.YtnfgpepggehegaaW.PrintLast Go.Proofs.YtnfgpepggehegaaW.PrintMore
set_option linter.unusedVariables false
set_option linter.unusedSimpArgs false
mutual
def cnt : S53 → Int
  | ⟨l⟩ => 1 + cntL l
def cntL : List S53 → Int
  | [] => 0
  | x :: xs => cnt x + cntL xs
end
mutual
def dep : S53 → Int
  | ⟨l⟩ => 1 + depL l
def depL : List S53 → Int
  | [] => 0
  | x :: xs => max (dep x) (depL xs)
end
mutual
def eqS : S53 → S53 → Bool
  | ⟨l⟩, y => eqL l y.f0
def eqL : List S53 → List S53 → Bool
  | [], m => m.isEmpty
  | _ :: _, [] => false
  | x :: xs, y :: ys => eqS x y && eqL xs ys
end
mutual
theorem cnt_ge : ∀ x : S53, 1 ≤ cnt x
  | ⟨l⟩ => by have := cntL_ge l; unfold cnt; omega
theorem cntL_ge : ∀ l : List S53, (l.length : Int) ≤ cntL l
  | [] => by simp [cntL]
  | x :: xs => by have h1 := cnt_ge x; have h2 := cntL_ge xs; unfold cntL; simp only [List.length_cons]; omega
end
mutual
theorem dep_bd : ∀ x : S53, 1 ≤ dep x ∧ dep x ≤ cnt x
  | ⟨l⟩ => by have := depL_bd l; unfold dep cnt; omega
theorem depL_bd : ∀ l : List S53, 0 ≤ depL l ∧ depL l ≤ cntL l
  | [] => by simp [depL, cntL]
  | x :: xs => by have h1 := dep_bd x; have h2 := depL_bd xs; have h3 := cnt_ge x; have h4 := cntL_ge xs; unfold depL cntL; omega
end
mutual
theorem eqS_refl : ∀ x : S53, eqS x x = true
  | ⟨l⟩ => by unfold eqS; exact eqL_refl l
theorem eqL_refl : ∀ l : List S53, eqL l l = true
  | [] => rfl
  | x :: xs => by unfold eqL; rw [eqS_refl x, eqL_refl xs]; rfl
end
theorem eqL_len : ∀ (l m : List S53), eqL l m = true → l.length = m.length
  | [], [], _ => rfl
  | [], _ :: _, h => by simp [eqL] at h
  | _ :: _, [], h => by simp [eqL] at h
  | x :: xs, y :: ys, h => by
    unfold eqL at h
    rw [Bool.and_eq_true] at h
    rw [List.length_cons, List.length_cons, eqL_len xs ys h.2]
theorem cnt_f0 (x : S53) : cnt x = 1 + cntL x.f0 := by cases x; rfl
theorem dep_f0 (x : S53) : dep x = 1 + depL x.f0 := by cases x; rfl
theorem eqS_f0 (x y : S53) : eqS x y = eqL x.f0 y.f0 := by cases x; rfl
theorem fewS_f0 (x : S53) : fewS x = (fewL x.f0 && decide (x.f0.length ≤ 8)) := by cases x; rfl
theorem drop_cnt (l : List S53) (i : Nat) (h : i < l.length) : cntL (l.drop i) = 1 + cntL (rd_T53 l (i : Int)).f0 + cntL (l.drop (i + 1)) := by
  rw [rd_T53_drop l i h]; show cnt _ + cntL _ = _; rw [cnt_f0]
theorem drop_dep (l : List S53) (i : Nat) (h : i < l.length) : depL (l.drop i) = max (1 + depL (rd_T53 l (i : Int)).f0) (depL (l.drop (i + 1))) := by
  rw [rd_T53_drop l i h]; show max (dep _) (depL _) = _; rw [dep_f0]
theorem drop_few (l : List S53) (i : Nat) (h : i < l.length) : fewL (l.drop i) = ((fewL (rd_T53 l (i : Int)).f0 && decide ((rd_T53 l (i : Int)).f0.length ≤ 8)) && fewL (l.drop (i + 1))) := by
  rw [rd_T53_drop l i h]; show (fewS _ && fewL _) = _; rw [fewS_f0]
theorem drop_eq (l m : List S53) (i : Nat) (h : i < l.length) (h2 : i < m.length) : eqL (l.drop i) (m.drop i) = (eqL (rd_T53 l (i : Int)).f0 (rd_T53 m (i : Int)).f0 && eqL (l.drop (i + 1)) (m.drop (i + 1))) := by
  rw [rd_T53_drop l i h, rd_T53_drop m i h2]; show (eqS _ _ && eqL _ _) = _; rw [eqS_f0]
theorem drop_cnt_le : ∀ (l : List S53) (i : Nat), cntL (l.drop i) ≤ cntL l
  | [], i => by simp
  | x :: xs, 0 => by simp
  | x :: xs, i + 1 => by have h1 := drop_cnt_le xs i; have h2 := cnt_ge x; rw [List.drop_succ_cons]; show cntL (xs.drop i) ≤ cnt x + cntL xs; omega
theorem cnt_child (l : List S53) (i : Nat) (h : i < l.length) : cntL (rd_T53 l (i : Int)).f0 < cntL l := by
  have h1 := drop_cnt l i h; have h2 := drop_cnt_le l i; have h3 := cntL_ge (l.drop (i + 1)); omega
mutual
theorem meas_eq : ∀ (x : S53) (left : Int), 0 ≤ left → (if cnt x ≤ left then meas x left = (dep x, left - cnt x) else (meas x left).2 < 0)
  | ⟨l⟩, left, h => by
    have := measL_eq l (left - 1) 0 (by omega) (by omega)
    unfold cnt meas dep
    split at this
    · rw [if_pos (by omega), this]
      have h1 := depL_bd l
      rw [show max 0 (depL l) + 1 = 1 + depL l from by omega, show left - 1 - cntL l = left - (1 + cntL l) from by omega]
    · rw [if_neg (by omega)]; exact this
theorem measL_eq : ∀ (l : List S53) (left d : Int), -1 ≤ left → 0 ≤ d → (if cntL l ≤ left then measL l left d = (max d (depL l) + 1, left - cntL l) else (measL l left d).2 < 0)
  | [], left, d, h, hd => by
    unfold cntL measL depL
    split
    · rw [show max d 0 = d from by omega, show left - 0 = left from by omega]
    · simp only; omega
  | x :: xs, left, d, h, hd => by
    have hc := cnt_ge x
    have hl := cntL_ge xs
    unfold cntL measL depL
    by_cases hn : left < 0
    · rw [if_pos hn, if_neg (by omega)]; exact hn
    · rw [if_neg hn]
      have h1 := meas_eq x left (by omega)
      have hb := meas_bd x left (by omega)
      have h2 := measL_eq xs (meas x left).2 (mx d (meas x left).1) (by omega) (by rw [mx_max]; omega)
      split at h1
      · rw [h1] at h2
        simp only at h2
        rw [h1]
        simp only
        split at h2
        · rw [if_pos (by omega), h2, mx_max, show max (max d (dep x)) (depL xs) = max d (max (dep x) (depL xs)) from by omega, show left - cnt x - cntL xs = left - (cnt x + cntL xs) from by omega]
        · rw [if_neg (by omega)]; exact h2
      · rw [if_neg (by omega)]
        rw [if_neg (by omega)] at h2
        exact h2
end
theorem size_eq (l : List S53) : sorts_Size.f l = some (if 1 + cntL l ≤ 60 then (1 + cntL l, 1 + depL l) else (61, 0)) := by
  have h := meas_eq ⟨l⟩ 60 (by omega)
  have hc : cnt ⟨l⟩ = 1 + cntL l := rfl
  have hd : dep ⟨l⟩ = 1 + depL l := rfl
  rw [hc, hd] at h
  unfold sorts_Size.f
  split at h
  · rename_i hle
    have h3 : ¬ (60 - (1 + cntL l) < 0) := by omega
    rw [h, if_pos hle]
    simp only [if_neg h3]
    rw [show 60 - (60 - (1 + cntL l)) = 1 + cntL l from by omega]
  · rename_i hle
    rw [if_neg hle, if_pos h]
def isok (l : List S53) : Bool := decide (1 + cntL l ≤ 60) && (decide (1 + depL l ≤ 30) && fewS ⟨l⟩)
theorem check_eq (l : List S53) : sorts_Check.f l = some (if isok l = true then 0 else 6) := by
  have h := meas_eq ⟨l⟩ 60 (by omega)
  have hc : cnt ⟨l⟩ = 1 + cntL l := rfl
  have hd : dep ⟨l⟩ = 1 + depL l := rfl
  rw [hc, hd] at h
  unfold sorts_Check.f isok
  split at h
  · rename_i hle
    rw [h]
    simp only [hle, decide_true, Bool.true_and, Bool.and_eq_true, decide_eq_true_eq]
    by_cases h1 : 1 + depL l ≤ 30
    · cases h2 : fewS ⟨l⟩
      · rw [if_pos (.inr (.inr rfl)), if_neg (by simp)]
      · rw [if_neg (by simp only [reduceCtorEq, or_false, not_or]; omega), if_pos ⟨h1, rfl⟩]
    · rw [if_pos (.inr (.inl (by omega))), if_neg (by intro hh; exact h1 hh.1)]
  · rename_i hle
    rw [if_pos (.inl h)]
    simp [hle]
theorem nodes_ev (N : Nat) : ∀ (l : List S53) (most : Int), SizeOf.sizeOf l < N → 0 ≤ most → most ≤ 1000 → Ev (fun k => virgationref01_Nodes.f k l most) (min (1 + cntL l) (most + 1)) := by
  induction N with
  | zero => intro l most h; omega
  | succ N ih =>
  intro l most hN h0 h1
  have loop : ∀ (n i : Nat) (x5 : Int), l.length - i = n → i ≤ l.length → 1 ≤ x5 → x5 ≤ most + 1 → (i : Int) ≤ x5 → Ev (fun k => virgationref01_Nodes.l0 k most x5 (i : Int) l) (min (x5 + cntL (l.drop i)) (most + 1)) := by
    intro n
    induction n with
    | zero =>
      intro i x5 hn hi h2 h3 h4
      have hd : l.drop i = [] := List.drop_eq_nil_of_le (by omega)
      rw [hd, show min (x5 + cntL []) (most + 1) = x5 from by unfold cntL; omega]
      exact Ev.step (fun k => by rw [virgationref01_Nodes.l0, if_neg (by omega)]) (Ev.now _)
    | succ n ihn =>
      intro i x5 hn hi h2 h3 h4
      have hil : i < l.length := by omega
      have hc := cntL_ge (l.drop (i + 1))
      have hx := cntL_ge (rd_T53 l (i : Int)).f0
      by_cases hm : x5 ≤ most
      · refine Ev.step (fun k => by rw [virgationref01_Nodes.l0, if_pos (by omega), if_pos hm, if_pos (by omega)]) ?_
        refine Ev.bind (a := min (1 + cntL (rd_T53 l (i : Int)).f0) (most - x5 + 1)) ?_ ?_
        · rw [w64 (most - x5) (by omega)]
          exact ih _ _ (by have := rd_T53_mem l i hil; omega) (by omega) (by omega)
        · rw [w64 _ (by omega), w64 _ (by omega)]
          have := ihn (i + 1) (x5 + min (1 + cntL (rd_T53 l (i : Int)).f0) (most - x5 + 1)) (by omega) (by omega) (by omega) (by omega) (by omega)
          rw [drop_cnt l i hil]
          rw [show ((i + 1 : Nat) : Int) = (i : Int) + 1 from rfl] at this
          rw [show min (x5 + (1 + cntL (rd_T53 l (i : Int)).f0 + cntL (l.drop (i + 1)))) (most + 1) = min (x5 + min (1 + cntL (rd_T53 l (i : Int)).f0) (most - x5 + 1) + cntL (l.drop (i + 1))) (most + 1) from by omega]
          exact this
      · rw [show min (x5 + cntL (l.drop i)) (most + 1) = x5 from by have := cntL_ge (l.drop i); omega]
        exact Ev.step (fun k => by rw [virgationref01_Nodes.l0, if_pos (by omega), if_neg hm]) (Ev.now _)
  refine Ev.step (fun k => by rw [virgationref01_Nodes.f]) ?_
  have := loop l.length 0 1 (by omega) (by omega) (by omega) (by omega) (by omega)
  rw [List.drop_zero] at this
  exact this
theorem nodes60 (l : List S53) : Ev (fun k => virgationref01_Nodes.f k l 60) (min (1 + cntL l) 61) := nodes_ev _ l 60 (Nat.lt_succ_self _) (by omega) (by omega)
theorem depth_ev (N : Nat) : ∀ (l : List S53), SizeOf.sizeOf l < N → cntL l ≤ 1000 → Ev (fun k => virgationref01_depth.f k l) (1 + depL l) := by
  induction N with
  | zero => intro l h; omega
  | succ N ih =>
  intro l hN h1
  have hlen := cntL_ge l
  have loop : ∀ (n i : Nat) (x3 : Int), l.length - i = n → i ≤ l.length → 0 ≤ x3 → x3 ≤ 1000 → Ev (fun k => virgationref01_depth.l0 k x3 l (l.length : Int) (i : Int)) (1 + max x3 (depL (l.drop i))) := by
    intro n
    induction n with
    | zero =>
      intro i x3 hn hi h2 h3
      have hd : l.drop i = [] := List.drop_eq_nil_of_le (by omega)
      rw [hd, show 1 + max x3 (depL []) = x3 + 1 from by unfold depL; omega]
      exact Ev.step (fun k => by rw [virgationref01_depth.l0, if_neg (by omega), w64 _ (by omega)]) (Ev.now _)
    | succ n ihn =>
      intro i x3 hn hi h2 h3
      have hil : i < l.length := by omega
      have hch := cnt_child l i hil
      have hdb := depL_bd (rd_T53 l (i : Int)).f0
      refine Ev.step (fun k => by rw [virgationref01_depth.l0, if_pos (by omega), if_pos (by omega), if_pos (by omega)]) ?_
      refine Ev.bind (a := 1 + depL (rd_T53 l (i : Int)).f0) ?_ ?_
      · exact ih _ (by have := rd_T53_mem l i hil; omega) (by omega)
      · rw [w64 _ (by omega), mx_max, drop_dep l i hil]
        have := ihn (i + 1) (max x3 (1 + depL (rd_T53 l (i : Int)).f0)) (by omega) (by omega) (by omega) (by omega)
        rw [show ((i + 1 : Nat) : Int) = (i : Int) + 1 from rfl] at this
        rw [show 1 + max x3 (max (1 + depL (rd_T53 l (i : Int)).f0) (depL (l.drop (i + 1)))) = 1 + max (max x3 (1 + depL (rd_T53 l (i : Int)).f0)) (depL (l.drop (i + 1))) from by omega]
        exact this
  refine Ev.step (fun k => by rw [virgationref01_depth.f]) ?_
  have := loop l.length 0 0 (by omega) (by omega) (by omega) (by omega)
  rw [List.drop_zero, show max 0 (depL l) = depL l from by have := depL_bd l; omega] at this
  exact this
theorem depth60 {l : List S53} (h : cntL l ≤ 60) : Ev (fun k => virgationref01_depth.f k l) (1 + depL l) := depth_ev _ l (Nat.lt_succ_self _) (by omega)
theorem few_ev (N : Nat) : ∀ (l : List S53), SizeOf.sizeOf l < N → cntL l ≤ 1000 → Ev (fun k => virgationref01_few.f k l) (fewS ⟨l⟩) := by
  induction N with
  | zero => intro l h; omega
  | succ N ih =>
  intro l hN h1
  have hlen := cntL_ge l
  have loop : ∀ (n i : Nat), l.length - i = n → i ≤ l.length → Ev (fun k => virgationref01_few.l0 k l (l.length : Int) (i : Int) l) (fewL (l.drop i) && decide (l.length ≤ 8)) := by
    intro n
    induction n with
    | zero =>
      intro i hn hi
      have hd : l.drop i = [] := List.drop_eq_nil_of_le (by omega)
      rw [hd, show (fewL [] && decide (l.length ≤ 8)) = decide ((l.length : Int) ≤ 8) from by show (true && _) = _; rw [Bool.true_and]; exact decide_eq_decide.2 (by omega)]
      exact Ev.step (fun k => by rw [virgationref01_few.l0, if_neg (by omega)]) (Ev.now _)
    | succ n ihn =>
      intro i hn hi
      have hil : i < l.length := by omega
      have hch := cnt_child l i hil
      refine Ev.step (fun k => by rw [virgationref01_few.l0, if_pos (by omega), if_pos (by omega), if_pos (by omega)]) ?_
      refine Ev.bind (a := fewS ⟨(rd_T53 l (i : Int)).f0⟩) ?_ ?_
      · exact ih _ (by have := rd_T53_mem l i hil; omega) (by omega)
      · have e : fewS ⟨(rd_T53 l (i : Int)).f0⟩ = (fewL (rd_T53 l (i : Int)).f0 && decide ((rd_T53 l (i : Int)).f0.length ≤ 8)) := rfl
        rw [drop_few l i hil, ← e]
        cases hb : fewS ⟨(rd_T53 l (i : Int)).f0⟩
        · exact Ev.now _
        · have := ihn (i + 1) (by omega) (by omega)
          rw [show ((i + 1 : Nat) : Int) = (i : Int) + 1 from rfl] at this
          rw [w64 _ (by omega)]
          exact this
  refine Ev.step (fun k => by rw [virgationref01_few.f]) ?_
  have := loop l.length 0 (by omega) (by omega)
  rw [List.drop_zero] at this
  exact this
theorem is_ev (l : List S53) : Ev (fun k => virgationref01_Is.f k l) (isok l) := by
  unfold virgationref01_Is.f isok
  refine Ev.bind (nodes60 l) ?_
  by_cases h : 1 + cntL l ≤ 60
  · refine Ev.ifp (by omega) ?_
    refine Ev.bind (depth60 (by omega)) ?_
    by_cases h2 : 1 + depL l ≤ 30
    · refine Ev.ifp h2 ?_
      refine Ev.bind (few_ev _ l (Nat.lt_succ_self _) (by omega)) ?_
      simp only [h, h2, decide_true, Bool.true_and]
      exact Ev.now _
    · refine Ev.ifn h2 ?_
      simp only [h, h2, decide_true, decide_false, Bool.true_and, Bool.false_and]
      exact Ev.now _
  · refine Ev.ifn (by omega) ?_
    simp only [h, decide_false, Bool.false_and]
    exact Ev.now _
theorem isok_cnt {l : List S53} (h : isok l = true) : cntL l ≤ 59 := by
  unfold isok at h
  rw [Bool.and_eq_true, decide_eq_true_eq] at h
  omega
end Go.Proofs.Ytnfgpepggehegaa.I
namespace Go.Proofs.Ytnfgpepggehegaa.I
open Go.RowKit Go.Proofs.YtnfgpepggehegaaW.PrintWords Go.Proofs.YtnfgpepggehegaaW.PrintLast Go.Proofs.YtnfgpepggehegaaW.PrintMore
theorem k28_heap : Kd.Heap k28 := Kd.heap_fix (fun _ h_ => Kd.heap_iso _ (Kd.heap_pair (Kd.heap_int .i64) (Kd.heap_pair (Kd.heap_int .i64) (Kd.heap_slice 28 h_))))
theorem k53_heap : Kd.Heap k53 := Kd.heap_fix (fun _ h_ => Kd.heap_iso _ (Kd.heap_slice 53 h_))
theorem cell_up {w w1 : World} {p : Addr} {v : Value} (hb : Below w.heap.size w w1) (h : w.cell? p = some v) : w1.cell? p = some v := (hb.cell (World.block_lt_of_cell? w p h)).trans h
theorem blk_type {w : World} {k q t : Nat} {c c' : Array Value} (h : w.heap[k]? = some (.cells c q (0, 0))) (h' : w.heap[k]? = some (.cells c' t (0, 0))) : q = t := by
  have := h.symm.trans h'
  injection this with this
  injection this
end Go.Proofs.Ytnfgpepggehegaa.I
namespace Go.Proofs.Ytnfgpepggehegaa.I
open Go.RowKit Go.Proofs.YtnfgpepggehegaaW.PrintWords Go.Proofs.YtnfgpepggehegaaW.PrintLast Go.Proofs.YtnfgpepggehegaaW.PrintMore
attribute [local go_sem] max2_int min2_int max_two min_two max_three min_three max_four min_four
set_option linter.unusedVariables false
set_option maxRecDepth 100000
set_option linter.unusedSimpArgs false
set_option maxHeartbeats 8000000 in
theorem seq86 (N : Nat) : ∀ (l m : List S53) (A A' : Option Addr) (c c' : Nat) (w : World), SizeOf.sizeOf l < N → Kd.C k53 w A l.length l → l.length ≤ c → Kd.C k53 w A' m.length m → m.length ≤ c' →
    Calls Try.prog 86 #[.agg #[.slice A l.length c], .agg #[.slice A' m.length c']] w fun e w' => e = .returned (.bool (eqL l m)) ∧ Below w.heap.size w w' := by
  have hu53 := Try.underlying53
  have hu51 := Try.underlying51
  induction N with
  | zero => intro l m A A' c c' w hN; omega
  | succ N ih =>
  intro l m A A' c c' w hN hr hc hr' hc'
  have hlen : l.length ≤ 9223372036854775807 := hr.2.1
  have hlen' : m.length ≤ 9223372036854775807 := hr'.2.1
  have HR := Az.mk hr
  have HR' := Az.mk hr'
  have HN := Az.mk hN
  have IH := Az.mk ih
  clear hr hc hr' hc' hN ih
  obtain ⟨r, hr⟩ : ∃ r, r = eqL l m := ⟨_, rfl⟩
  rw [← hr]
  have HE := Az.mk hr
  clear hr
  go_enter Try.func86, Try.ntmps86
  by_cases hlm : l.length = m.length
  rotate_left
  · have hf : r = false := by
      rw [HE.out]
      cases h : eqL l m with
      | false => rfl
      | true => exact absurd (eqL_len l m h) hlm
    have q1 : ((l.length : Int) = (m.length : Int)) = False := eq_false (by omega)
    have q2 : (l.length = m.length) = False := eq_false hlm
    have b1 : ((l.length : Int) != (m.length : Int)) = true := bne_iff_ne.2 (by omega)
    have b2 : ((l.length : Int) == (m.length : Int)) = false := beq_eq_false_iff_ne.2 (by omega)
    have b3 : (l.length == m.length) = false := beq_eq_false_iff_ne.2 hlm
    subst hf
    clear hlm HE
    go_wp2_with (first
      | ((with_reducible refine gate_dst (N := 2) rfl ?_)
         refine box_event ?hg (N := 2) ?hd (cs := #[.slice A l.length c]) (t := 53) ?hr ?_
         (case hd => rfl)
         (case hg => rfl)
         (case hr => first | (go_simp; done) | (go_simp; rfl))
         intro g2 hg2 w2 hbox hbb
         have S2 := Az.mk hbox
         have HB2 := Az.mk hbb
         clear hbox hbb hg2)
      | ((with_reducible refine gate_dst (N := 3) rfl ?_)
         refine box_event ?hg (N := 3) ?hd (cs := #[.slice A' m.length c']) (t := 53) ?hr ?_
         (case hd => rfl)
         (case hg => rfl)
         (case hr => first | (go_simp; done) | (go_simp; rfl))
         intro g3 hg3 w3 hbox hbb
         have HB3 := Az.mk (bst HB2.out hbb)
         have a0 : w3.cell? ⟨g2, 0, none⟩ = some (.slice A l.length c) := (blk_cell (bkB S2.out hbb) 0).trans rfl
         have b0 : w3.cell? ⟨g3, 0, none⟩ = some (.slice A' m.length c') := (blk_cell hbox 0).trans rfl
         clear hbox hbb hg3))
    go_ret
    exact ⟨rfl, HB3.out⟩
  have HLM := Az.mk hlm
  rw [← hlm] at hlen' ⊢
  clear hlm
  go_wp2_with (first
    | ((with_reducible refine gate_dst (N := 2) rfl ?_)
       refine box_event ?hg (N := 2) ?hd (cs := #[.slice A l.length c]) (t := 53) ?hr ?_
       (case hd => rfl)
       (case hg => rfl)
       (case hr => first | (go_simp; done) | (go_simp; rfl))
       intro g2 hg2 w2 hbox hbb
       have S2 := Az.mk hbox
       have HB2 := Az.mk hbb
       clear hbox hbb hg2)
    | ((with_reducible refine gate_dst (N := 3) rfl ?_)
       refine box_event ?hg (N := 3) ?hd (cs := #[.slice A' l.length c']) (t := 53) ?hr ?_
       (case hd => rfl)
       (case hg => rfl)
       (case hr => first | (go_simp; done) | (go_simp; rfl))
       intro g3 hg3 w3 hbox hbb
       have S3 := Az.mk hbox
       have S23 := Az.mk (bkB S2.out hbb)
       have HB3 := Az.mk (bst HB2.out hbb)
       have a0 : w3.cell? ⟨g2, 0, none⟩ = some (.slice A l.length c) := (blk_cell S23.out 0).trans rfl
       have b0 : w3.cell? ⟨g3, 0, none⟩ = some (.slice A' l.length c') := (blk_cell hbox 0).trans rfl
       clear hbox hbb hg3))
  clear a0 b0 S2 HB2
  have HQ := Az.mk (show r = eqL (l.drop 0) (m.drop 0) from HE.out)
  clear HE
  go_loopg [16] l.length (fun kq v16 wr => ∃ i : Nat, v16 = .int .i64 (i : Int) ∧ Az (i + kq = l.length) ∧ Az (r = eqL (l.drop i) (m.drop i)) ∧ Az (Below w3.heap.size w3 wr))
  case atStart => exact ⟨0, rfl, ⟨by omega⟩, HQ, ⟨Below.refl _ _⟩⟩
  case round =>
    clear HQ
    obtain ⟨i, rfl, Hi, HQ, HB⟩ := hrel
    by_cases hlt : i < l.length
    rotate_left
    · have hr : r = true := by have := HQ.out; rw [List.drop_of_length_le (by omega), List.drop_of_length_le (by have := HLM.out; omega)] at this; exact this
      subst hr
      clear HQ
      go_wp2_with fail
      go_ret
      exact ⟨rfl, bst HB3.out HB.out⟩
    have HBw := Az.mk (bst HB3.out HB.out)
    obtain ⟨ad, A4, c4, he, hx, hl4, hC4⟩ := at_T53 (Kd.C_below HR.out HBw.out) (i : Int) (by omega) (by omega)
    cases he
    obtain ⟨ad', A5, c5, he, hy, hl5, hC5⟩ := at_T53 (Kd.C_below HR'.out HBw.out) (i : Int) (by omega) (by have := HLM.out; omega)
    cases he
    rw [Int.toNat_natCast] at hx hy
    have HC4 := Az.mk hC4
    have Hl4 := Az.mk hl4
    have HC5 := Az.mk hC5
    have Hl5 := Az.mk hl5
    have HSZ := Az.mk (show SizeOf.sizeOf (rd_T53 l (i : Int)).f0 < N from by have := rd_T53_mem l i hlt; have := HN.out; omega)
    have HQ2 := Az.mk (HQ.out.trans (drop_eq l m i hlt (by have := HLM.out; omega)))
    have q1 : (0 ≤ (i : Int)) = True := eq_true (by omega)
    have q2 : ((i : Int) < (l.length : Int)) = True := eq_true (by omega)
    have q3 : (i < l.length) = True := eq_true (by omega)
    clear hl4 hC4 hl5 hC5 HQ
    generalize (rd_T53 l (i : Int)).f0 = x at *
    generalize (rd_T53 m (i : Int)).f0 = y at *
    have a2 : wr.cell? ⟨g2, 0, none⟩ = some (.slice (some ad) l.length c) := (blk_cell (bkB S23.out HB.out) 0).trans rfl
    have b2 : wr.cell? ⟨g3, 0, none⟩ = some (.slice (some ad') l.length c') := (blk_cell (bkB S3.out HB.out) 0).trans rfl
    go_upto_region 6 with fail
    try simp only [Act.put, List.setIfInBounds_toArray, List.set_cons_succ, List.set_cons_zero]
    go_cut [30] from 19 to 30 (fun v30 wc => v30 = .bool (!(eqL x y)) ∧ Az (Below w3.heap.size w3 wc))
    case first =>
      go_region_held3 (fun w' => w'.cell? ⟨g2, 0, none⟩ = some (.slice (some ad) l.length c) ∧ w'.cell? ⟨g3, 0, none⟩ = some (.slice (some ad') l.length c') ∧ w'.cell? (ad.add i) = some (.slice A4 x.length c4) ∧ w'.cell? (ad'.add i) = some (.slice A5 y.length c5)) (go_keep)
        (first
          | (go_at_call 86
             (with_reducible refine (IH.out x y A4 A5 c4 c5 _ HSZ.out (Kd.C_below HC4.out (below_drew (Below.refl _ _))) Hl4.out (Kd.C_below HC5.out (below_drew (Below.refl _ _))) Hl5.out).mono ?_)
             rintro e9 wA ⟨rfl, hbA⟩
             have HBA := Az.mk (bst (below_drew HB.out) hbA)
             have z0 := cell_up hbA (show wr.drew.cell? _ = _ from a2)
             have z1 := cell_up hbA (show wr.drew.cell? _ = _ from b2)
             have z2 := cell_up hbA (show wr.drew.cell? _ = _ from hx)
             have z3 := cell_up hbA (show wr.drew.cell? _ = _ from hy)
             clear hbA))
      all_goals (go_wp2_with fail; go_meet; exact ⟨rfl, HBA⟩)
    case rest =>
      obtain ⟨rfl, HBc⟩ := hcut
      clear a2 b2 hx hy
      generalize eqL x y = b at *
      cases b with
      | false =>
        have hr : r = false := HQ2.out
        subst hr
        clear HQ2
        go_wp2_with fail
        go_ret
        exact ⟨rfl, bst HB3.out HBc.out⟩
      | true =>
        have HN2 := Az.mk (show r = eqL (l.drop (i + 1)) (m.drop (i + 1)) from HQ2.out)
        clear HQ2
        go_wp2_with fail
        have hk := Hi.out
        obtain ⟨k1, rfl⟩ : ∃ k1, gk = k1 + 1 := ⟨gk - 1, by omega⟩
        go_roundg k1
        case measure => omega
        case rel => exact ⟨i + 1, by go_num, ⟨by omega⟩, HN2, HBc⟩
set_option maxHeartbeats 8000000 in
theorem seq48 (N : Nat) : ∀ (l m : List S53) (A A' : Option Addr) (c c' : Nat) (w : World), SizeOf.sizeOf l < N → Kd.C k53 w A l.length l → l.length ≤ c → Kd.C k53 w A' m.length m → m.length ≤ c' →
    Calls Try.prog 48 #[.agg #[.slice A l.length c], .agg #[.slice A' m.length c']] w fun e w' => e = .returned (.bool (eqL l m)) ∧ Below w.heap.size w w' := by
  have hu53 := Try.underlying53
  have hu51 := Try.underlying51
  induction N with
  | zero => intro l m A A' c c' w hN; omega
  | succ N ih =>
  intro l m A A' c c' w hN hr hc hr' hc'
  have hlen : l.length ≤ 9223372036854775807 := hr.2.1
  have hlen' : m.length ≤ 9223372036854775807 := hr'.2.1
  have HR := Az.mk hr
  have HR' := Az.mk hr'
  have HN := Az.mk hN
  have IH := Az.mk ih
  clear hr hc hr' hc' hN ih
  obtain ⟨r, hr⟩ : ∃ r, r = eqL l m := ⟨_, rfl⟩
  rw [← hr]
  have HE := Az.mk hr
  clear hr
  go_enter Try.func48, Try.ntmps48
  by_cases hlm : l.length = m.length
  rotate_left
  · have hf : r = false := by
      rw [HE.out]
      cases h : eqL l m with
      | false => rfl
      | true => exact absurd (eqL_len l m h) hlm
    have q1 : ((l.length : Int) = (m.length : Int)) = False := eq_false (by omega)
    have q2 : (l.length = m.length) = False := eq_false hlm
    have b1 : ((l.length : Int) != (m.length : Int)) = true := bne_iff_ne.2 (by omega)
    have b2 : ((l.length : Int) == (m.length : Int)) = false := beq_eq_false_iff_ne.2 (by omega)
    have b3 : (l.length == m.length) = false := beq_eq_false_iff_ne.2 hlm
    subst hf
    clear hlm HE
    go_wp2_with (first
      | ((with_reducible refine gate_dst (N := 2) rfl ?_)
         refine box_event ?hg (N := 2) ?hd (cs := #[.slice A l.length c]) (t := 53) ?hr ?_
         (case hd => rfl)
         (case hg => rfl)
         (case hr => first | (go_simp; done) | (go_simp; rfl))
         intro g2 hg2 w2 hbox hbb
         have S2 := Az.mk hbox
         have HB2 := Az.mk hbb
         clear hbox hbb hg2)
      | ((with_reducible refine gate_dst (N := 3) rfl ?_)
         refine box_event ?hg (N := 3) ?hd (cs := #[.slice A' m.length c']) (t := 53) ?hr ?_
         (case hd => rfl)
         (case hg => rfl)
         (case hr => first | (go_simp; done) | (go_simp; rfl))
         intro g3 hg3 w3 hbox hbb
         have HB3 := Az.mk (bst HB2.out hbb)
         have a0 : w3.cell? ⟨g2, 0, none⟩ = some (.slice A l.length c) := (blk_cell (bkB S2.out hbb) 0).trans rfl
         have b0 : w3.cell? ⟨g3, 0, none⟩ = some (.slice A' m.length c') := (blk_cell hbox 0).trans rfl
         clear hbox hbb hg3))
    go_ret
    exact ⟨rfl, HB3.out⟩
  have HLM := Az.mk hlm
  rw [← hlm] at hlen' ⊢
  clear hlm
  go_wp2_with (first
    | ((with_reducible refine gate_dst (N := 2) rfl ?_)
       refine box_event ?hg (N := 2) ?hd (cs := #[.slice A l.length c]) (t := 53) ?hr ?_
       (case hd => rfl)
       (case hg => rfl)
       (case hr => first | (go_simp; done) | (go_simp; rfl))
       intro g2 hg2 w2 hbox hbb
       have S2 := Az.mk hbox
       have HB2 := Az.mk hbb
       clear hbox hbb hg2)
    | ((with_reducible refine gate_dst (N := 3) rfl ?_)
       refine box_event ?hg (N := 3) ?hd (cs := #[.slice A' l.length c']) (t := 53) ?hr ?_
       (case hd => rfl)
       (case hg => rfl)
       (case hr => first | (go_simp; done) | (go_simp; rfl))
       intro g3 hg3 w3 hbox hbb
       have S3 := Az.mk hbox
       have S23 := Az.mk (bkB S2.out hbb)
       have HB3 := Az.mk (bst HB2.out hbb)
       have a0 : w3.cell? ⟨g2, 0, none⟩ = some (.slice A l.length c) := (blk_cell S23.out 0).trans rfl
       have b0 : w3.cell? ⟨g3, 0, none⟩ = some (.slice A' l.length c') := (blk_cell hbox 0).trans rfl
       clear hbox hbb hg3))
  clear a0 b0 S2 HB2
  have HQ := Az.mk (show r = eqL (l.drop 0) (m.drop 0) from HE.out)
  clear HE
  go_loopg [16] l.length (fun kq v16 wr => ∃ i : Nat, v16 = .int .i64 (i : Int) ∧ Az (i + kq = l.length) ∧ Az (r = eqL (l.drop i) (m.drop i)) ∧ Az (Below w3.heap.size w3 wr))
  case atStart => exact ⟨0, rfl, ⟨by omega⟩, HQ, ⟨Below.refl _ _⟩⟩
  case round =>
    clear HQ
    obtain ⟨i, rfl, Hi, HQ, HB⟩ := hrel
    by_cases hlt : i < l.length
    rotate_left
    · have hr : r = true := by have := HQ.out; rw [List.drop_of_length_le (by omega), List.drop_of_length_le (by have := HLM.out; omega)] at this; exact this
      subst hr
      clear HQ
      go_wp2_with fail
      go_ret
      exact ⟨rfl, bst HB3.out HB.out⟩
    have HBw := Az.mk (bst HB3.out HB.out)
    obtain ⟨ad, A4, c4, he, hx, hl4, hC4⟩ := at_T53 (Kd.C_below HR.out HBw.out) (i : Int) (by omega) (by omega)
    cases he
    obtain ⟨ad', A5, c5, he, hy, hl5, hC5⟩ := at_T53 (Kd.C_below HR'.out HBw.out) (i : Int) (by omega) (by have := HLM.out; omega)
    cases he
    rw [Int.toNat_natCast] at hx hy
    have HC4 := Az.mk hC4
    have Hl4 := Az.mk hl4
    have HC5 := Az.mk hC5
    have Hl5 := Az.mk hl5
    have HSZ := Az.mk (show SizeOf.sizeOf (rd_T53 l (i : Int)).f0 < N from by have := rd_T53_mem l i hlt; have := HN.out; omega)
    have HQ2 := Az.mk (HQ.out.trans (drop_eq l m i hlt (by have := HLM.out; omega)))
    have q1 : (0 ≤ (i : Int)) = True := eq_true (by omega)
    have q2 : ((i : Int) < (l.length : Int)) = True := eq_true (by omega)
    have q3 : (i < l.length) = True := eq_true (by omega)
    clear hl4 hC4 hl5 hC5 HQ
    generalize (rd_T53 l (i : Int)).f0 = x at *
    generalize (rd_T53 m (i : Int)).f0 = y at *
    have a2 : wr.cell? ⟨g2, 0, none⟩ = some (.slice (some ad) l.length c) := (blk_cell (bkB S23.out HB.out) 0).trans rfl
    have b2 : wr.cell? ⟨g3, 0, none⟩ = some (.slice (some ad') l.length c') := (blk_cell (bkB S3.out HB.out) 0).trans rfl
    go_upto_region 6 with fail
    try simp only [Act.put, List.setIfInBounds_toArray, List.set_cons_succ, List.set_cons_zero]
    go_cut [30] from 19 to 30 (fun v30 wc => v30 = .bool (!(eqL x y)) ∧ Az (Below w3.heap.size w3 wc))
    case first =>
      go_region_held3 (fun w' => w'.cell? ⟨g2, 0, none⟩ = some (.slice (some ad) l.length c) ∧ w'.cell? ⟨g3, 0, none⟩ = some (.slice (some ad') l.length c') ∧ w'.cell? (ad.add i) = some (.slice A4 x.length c4) ∧ w'.cell? (ad'.add i) = some (.slice A5 y.length c5)) (go_keep)
        (first
          | (go_at_call 48
             (with_reducible refine (IH.out x y A4 A5 c4 c5 _ HSZ.out (Kd.C_below HC4.out (below_drew (Below.refl _ _))) Hl4.out (Kd.C_below HC5.out (below_drew (Below.refl _ _))) Hl5.out).mono ?_)
             rintro e9 wA ⟨rfl, hbA⟩
             have HBA := Az.mk (bst (below_drew HB.out) hbA)
             have z0 := cell_up hbA (show wr.drew.cell? _ = _ from a2)
             have z1 := cell_up hbA (show wr.drew.cell? _ = _ from b2)
             have z2 := cell_up hbA (show wr.drew.cell? _ = _ from hx)
             have z3 := cell_up hbA (show wr.drew.cell? _ = _ from hy)
             clear hbA))
      all_goals (go_wp2_with fail; go_meet; exact ⟨rfl, HBA⟩)
    case rest =>
      obtain ⟨rfl, HBc⟩ := hcut
      clear a2 b2 hx hy
      generalize eqL x y = b at *
      cases b with
      | false =>
        have hr : r = false := HQ2.out
        subst hr
        clear HQ2
        go_wp2_with fail
        go_ret
        exact ⟨rfl, bst HB3.out HBc.out⟩
      | true =>
        have HN2 := Az.mk (show r = eqL (l.drop (i + 1)) (m.drop (i + 1)) from HQ2.out)
        clear HQ2
        go_wp2_with fail
        have hk := Hi.out
        obtain ⟨k1, rfl⟩ : ∃ k1, gk = k1 + 1 := ⟨gk - 1, by omega⟩
        go_roundg k1
        case measure => omega
        case rel => exact ⟨i + 1, by go_num, ⟨by omega⟩, HN2, HBc⟩
end Go.Proofs.Ytnfgpepggehegaa.I
namespace Go.Proofs.Ytnfgpepggehegaa.I
open Go.RowKit Go.Proofs.YtnfgpepggehegaaW.PrintWords Go.Proofs.YtnfgpepggehegaaW.PrintLast Go.Proofs.YtnfgpepggehegaaW.PrintMore
attribute [local go_sem] max2_int min2_int max_two min_two max_three min_three max_four min_four
set_option linter.unusedVariables false
set_option maxRecDepth 100000
set_option linter.unusedSimpArgs false
mutual
def ofT (sy : List S87) (fu pa : List S53) : S28 → Option (List S53)
  | ⟨k, n, l⟩ => match hdF sy fu pa k n with
    | none => none
    | some s => if s.length < l.length then none else if ofL sy fu pa l s = true then some (s.drop l.length) else none
def ofL (sy : List S87) (fu pa : List S53) : List S28 → List S53 → Bool
  | [], _ => true
  | x :: xs, s => (match ofT sy fu pa x with
    | none => false
    | some r => eqL r (s.headD z53).f0) && ofL sy fu pa xs s.tail
end
theorem ofT_eq (sy : List S87) (fu pa : List S53) (x : S28) : ofT sy fu pa x = match hdF sy fu pa x.f0 x.f1 with
    | none => none
    | some s => if s.length < x.f2.length then none else if ofL sy fu pa x.f2 s = true then some (s.drop x.f2.length) else none := by
  cases x; rw [ofT]
theorem ofL_step (sy : List S87) (fu pa : List S53) (l : List S28) (s : List S53) (i : Nat) (h : i < l.length) : ofL sy fu pa (l.drop i) (s.drop i) = ((match ofT sy fu pa (rd_T28 l (i : Int)) with
    | none => false
    | some r => eqL r (rd_T53 s (i : Int)).f0) && ofL sy fu pa (l.drop (i + 1)) (s.drop (i + 1))) := by
  rw [rd_T28_drop l i h, ofL, List.tail_drop]
  have e : (s.drop i).headD z53 = rd_T53 s (i : Int) := by
    unfold rd_T53
    rw [Int.toNat_natCast, List.getD_eq_getElem?_getD, List.headD_eq_head?_getD, List.head?_drop]
  rw [e]
def SmallP (sy : List S87) (fu pa : List S53) : Prop := (∀ x ∈ sy, 0 ≤ x.f1 ∧ x.f1 ≤ 59) ∧ (∀ x ∈ fu, cntL x.f0 ≤ 59) ∧ (∀ x ∈ pa, cntL x.f0 ≤ 59)
theorem cntL_rep : ∀ n : Nat, cntL (List.replicate n z53) = n
  | 0 => rfl
  | n + 1 => by rw [List.replicate_succ, cntL, cntL_rep n]; simp only [z53, cnt, cntL]; omega
theorem rd_mem41 {l : List S53} {n : Int} (h0 : 0 ≤ n) (h : n < (l.length : Int)) : rd_T53 l n ∈ l := by
  unfold rd_T53
  rw [List.getD_eq_getElem?_getD, List.getElem?_eq_getElem (by omega : n.toNat < l.length)]
  exact List.getElem_mem _
theorem hdF_cnt {sy : List S87} {fu pa : List S53} (hs : SmallP sy fu pa) {k n : Int} {r : List S53} (h : hdF sy fu pa k n = some r) : cntL r ≤ 59 := by
  unfold hdF at h
  split at h
  · cases h
  split at h
  · split at h
    · injection h with h; rw [← h]; exact hs.2.2 _ (rd_mem41 (by omega) (by assumption))
    · cases h
  split at h
  · split at h
    · injection h with h; rw [← h]; exact hs.2.1 _ (rd_mem41 (by omega) (by assumption))
    · cases h
  split at h
  · split at h
    · injection h with h
      rw [← h, cntL_rep]
      have hm : rd_T87 sy n ∈ sy := by
        unfold rd_T87
        rw [List.getD_eq_getElem?_getD, List.getElem?_eq_getElem (by omega : n.toNat < sy.length)]
        exact List.getElem_mem _
      have := hs.1 _ hm
      omega
    · cases h
  · cases h
theorem ofT_cnt {sy : List S87} {fu pa : List S53} (hs : SmallP sy fu pa) {x : S28} {r : List S53} (h : ofT sy fu pa x = some r) : cntL r ≤ 59 := by
  rw [ofT_eq] at h
  split at h
  · cases h
  · rename_i s hh
    split at h
    · cases h
    split at h
    · injection h with h
      rw [← h]
      have h1 := hdF_cnt hs hh
      have h2 := drop_cnt_le s x.f2.length
      omega
    · cases h
theorem eq_calls {l m : List S53} (hl : cntL l ≤ 59) {w : World} {A : Option Addr} {c : Nat} {A' : Option Addr} {c' : Nat} (hr : Kd.C k53 w A l.length l) (hc : l.length ≤ c) (hr' : Kd.C k53 w A' m.length m) (hc' : m.length ≤ c') :
    Calls Try.prog 48 #[.agg #[.slice A l.length c], .agg #[.slice A' m.length c']] w fun e w' => e = .returned (.bool (eqL l m)) ∧ Below w.heap.size w w' := by
  exact seq48 _ l m A A' c c' w (Nat.lt_succ_self _) hr hc hr' hc'
set_option maxHeartbeats 16000000 in
theorem of_calls (P : Nat → Prop) (A0 : Option Addr) (c0 : Nat) (l0 : List S87) (A1 : Option Addr) (c1 : Nat) (l1 : List S53) (A2 : Option Addr) (c2 : Nat) (l2 : List S53) (hsm : SmallP l0 l1 l2) (N : Nat) : ∀ (l : List S28), SizeOf.sizeOf l < N → ∀ (k n : Int) (A3 : Option Addr) (c3 : Nat) (w : World),
    Kd.C k87 w A0 l0.length l0 → Kd.V k53 53 w w.heap.size P (.slice A1 l1.length c1) l1 → Kd.V k53 53 w w.heap.size P (.slice A2 l2.length c2) l2 → Kd.C k28 w A3 l.length l → l.length ≤ c3 →
    Calls Try.prog 59 #[.agg #[.slice A0 l0.length c0, .slice A1 l1.length c1, .slice A2 l2.length c2], .agg #[.int .i64 k, .int .i64 n, .slice A3 l.length c3]] w fun e w' => ∃ v, e = .returned (.tuple #[.agg #[v], .bool (ofT l0 l1 l2 ⟨k, n, l⟩).isSome]) ∧ Kd.V k53 53 w' w.heap.size (fun q => P q ∨ w.heap.size ≤ q) v ((ofT l0 l1 l2 ⟨k, n, l⟩).getD []) ∧ Below w.heap.size w w' := by
  induction N with
  | zero => intro l h; omega
  | succ N ih =>
  intro l hN k n A3 c3 w hr0 h1 h2 hr3 hc3
  have hu99 := Try.underlying99
  have hu28 := Try.underlying28
  have hu53 := Try.underlying53
  have hlen : l.length ≤ 9223372036854775807 := hr3.2.1
  have HSM := Az.mk hsm
  have HR0 := Az.mk hr0
  have H1 := Az.mk h1
  have H2 := Az.mk h2
  have HR3 := Az.mk hr3
  have HC3 := Az.mk hc3
  have IH := Az.mk ih
  have HN := Az.mk hN
  clear hr0 h1 h2 hr3 hc3 ih hN hsm
  obtain ⟨R, hR⟩ : ∃ R, R = hdF l0 l1 l2 k n := ⟨_, rfl⟩
  have HR := Az.mk hR
  clear hR
  go_enter Try.func59, Try.ntmps59
  go_wp2_with (first
   | ((with_reducible refine gate_dst (N := 2) rfl ?_)
      refine box_event ?hg (N := 2) ?hd (cs := #[.slice A0 l0.length c0, .slice A1 l1.length c1, .slice A2 l2.length c2]) (t := 99) ?hr ?_
      (case hd => rfl)
      (case hg => rfl)
      (case hr => first | (go_simp; done) | (go_simp; rfl))
      intro g2 hg2 w2 hbox hb2
      have S22 := Az.mk hbox
      have HB2 := Az.mk hb2
      have hw2 : w.heap.size ≤ g2 := by omega
      clear hbox hb2 hg2)
   | ((with_reducible refine gate_dst (N := 3) rfl ?_)
      refine box_event ?hg (N := 3) ?hd (cs := #[.int .i64 k, .int .i64 n, .slice A3 l.length c3]) (t := 28) ?hr ?_
      (case hd => rfl)
      (case hg => rfl)
      (case hr => first | (go_simp; done) | (go_simp; rfl))
      intro g3 hg3 w3 hbox hb3
      have S23 := Az.mk (bkB S22.out hb3)
      have S33 := Az.mk hbox
      have HB3 := Az.mk (bst HB2.out hb3)
      clear hbox hb3 hg3 S22 HB2)
   | ((with_reducible refine gate_dst (N := 4) rfl ?_)
      refine box_event ?hg (N := 4) ?hd (cs := #[.slice none 0 0]) (t := 53) ?hr ?_
      (case hd => rfl)
      (case hg => rfl)
      (case hr => first | (go_simp; done) | (go_simp; rfl))
      intro g4 hg4 w4 hbox hb4
      have hw4 : w.heap.size ≤ g4 := by have := HB3.out.size; omega
      have S24 := Az.mk (bkB S23.out hb4)
      have S34 := Az.mk (bkB S33.out hb4)
      have S44 := Az.mk hbox
      have HB4 := Az.mk (bst HB3.out hb4)
      have a0 : w4.cell? ⟨g2, 0, none⟩ = some (.slice A0 l0.length c0) := (blk_cell S24.out 0).trans rfl
      have a1 : w4.cell? ⟨g2, 1, none⟩ = some (.slice A1 l1.length c1) := (blk_cell S24.out 1).trans rfl
      have a2 : w4.cell? ⟨g2, 2, none⟩ = some (.slice A2 l2.length c2) := (blk_cell S24.out 2).trans rfl
      have b0 : w4.cell? ⟨g3, 0, none⟩ = some (.int .i64 k) := (blk_cell S34.out 0).trans rfl
      have b1 : w4.cell? ⟨g3, 1, none⟩ = some (.int .i64 n) := (blk_cell S34.out 1).trans rfl
      have b2 : w4.cell? ⟨g3, 2, none⟩ = some (.slice A3 l.length c3) := (blk_cell S34.out 2).trans rfl
      clear hbox hb4 hg4 S23 S33 HB3))
  have hc := head_calls (fun q => P q ∧ q < w.heap.size) A0 c0 l0 A1 c1 l1 A2 c2 l2 k n (.slice A3 l.length c3) w4 rfl (Kd.C_below HR0.out HB4.out) (Kd.V_below (Kd.V_bound H1.out) HB4.out) (Kd.V_below (Kd.V_bound H2.out) HB4.out) (fun x hx => by have := HSM.out.1 x hx; omega)
  rw [← HR.out] at hc
  (with_reducible refine hc.mono ?_)
  clear hc
  rintro e w5 ⟨v, rfl, hv, hb5⟩
  have hw45 := HB4.out.size
  have hlt4 := blk_lt S44.out
  have HV5 := Az.mk (Kd.V_mono (ok' := fun q => (P q ∨ w.heap.size ≤ q) ∧ q ≠ g4) hv (fun q hq => by
    rcases hq with hq | hq
    · exact ⟨.inl hq.1, by omega⟩
    · exact ⟨.inr (by omega), by omega⟩))
  have S25 := Az.mk (bkB S24.out hb5)
  have S35 := Az.mk (bkB S34.out hb5)
  have S45 := Az.mk (bkB S44.out hb5)
  have HB5 := Az.mk (bst HB4.out hb5)
  clear hv hb5 a0 a1 a2 b0 b1 b2 S24 S34 S44 HB4 hlt4 hw45
  have fin : ∀ (v : Value) (l : List S53) (wq : World), Below w.heap.size w wq → Kd.V k53 53 wq w.heap.size (fun q => (P q ∨ w.heap.size ≤ q) ∧ q ≠ g4) v l → Kd.V k53 53 (wq.setCell ⟨g4, 0, none⟩ v) w.heap.size (fun q => P q ∨ w.heap.size ≤ q) v l ∧ Below w.heap.size w (wq.setCell ⟨g4, 0, none⟩ v) := fun v l wq hb hv => ⟨Kd.V_mono (Kd.V_far (p := ⟨g4, 0, none⟩) hv (fun _ hk => hk.2) v) (fun _ hk => hk.1), bset (g := g4) (j := 0) hb hw4⟩
  have FIN := Az.mk fin
  clear fin
  obtain ⟨As, cs, rfl⟩ := Kd.V_slice HV5.out
  obtain ⟨sl, hsl⟩ : ∃ sl, sl = (R.getD []).length := ⟨_, rfl⟩
  rw [← hsl] at HV5 ⊢
  have HSL := Az.mk hsl
  clear hsl
  have hcase : R = none ∨ (∃ s, R = some s ∧ s.length < l.length) ∨ (∃ s, R = some s ∧ ¬ s.length < l.length) := by
    cases R with
    | none => exact .inl rfl
    | some s =>
      by_cases h : s.length < l.length
      · exact .inr (.inl ⟨s, rfl, h⟩)
      · exact .inr (.inr ⟨s, rfl, h⟩)
  have NE := Az.mk (show R = none → ofT l0 l1 l2 ⟨k, n, l⟩ = none from fun h => by rw [ofT_eq]; show (match hdF l0 l1 l2 k n with | none => none | some s => _) = none; rw [← HR.out, h])
  have SE := Az.mk (show ∀ s, R = some s → ofT l0 l1 l2 ⟨k, n, l⟩ = if s.length < l.length then none else if ofL l0 l1 l2 l s = true then some (s.drop l.length) else none from fun s h => by rw [ofT_eq]; show (match hdF l0 l1 l2 k n with | none => none | some s => _) = _; rw [← HR.out, h])
  rcases hcase with h | ⟨s, h, hl⟩ | ⟨s, h, hl⟩
  all_goals subst h
  case' inl => have HE := Az.mk (NE.out rfl)
  case' inr.inl =>
    have HE := Az.mk ((SE.out s rfl).trans (if_pos hl))
    have b : (sl < l.length) = True := eq_true (by have : sl = s.length := HSL.out; omega)
  case' inr.inr => have b : (sl < l.length) = False := eq_false (by have : sl = s.length := HSL.out; omega)
  all_goals go_wp2_with (
       (with_reducible refine gate_dst (N := 6) rfl ?_)
       refine box_event ?hg (N := 6) ?hd (cs := #[.slice none 0 0]) (t := 53) ?hr ?_
       (case hd => rfl)
       (case hg => rfl)
       (case hr => first | (go_simp; done) | (go_simp; rfl))
       intro g6 hg6 w6 hbox hb6
       have hw6 : w.heap.size ≤ g6 := by have := HB5.out.size; omega
       have S66 := Az.mk (blk_put (cs' := #[.slice As sl cs]) hbox 0 (.slice As sl cs) rfl)
       have hne2 : g2 ≠ g6 := by have := blk_lt S25.out; omega
       have hne3 : g3 ≠ g6 := by have := blk_lt S35.out; omega
       have hne4 : g4 ≠ g6 := by have := blk_lt S45.out; omega
       have S26 := Az.mk (blk_far (p := ⟨g6, 0, none⟩) (bkB S25.out hb6) hne2 (.slice As sl cs))
       have S36 := Az.mk (blk_far (p := ⟨g6, 0, none⟩) (bkB S35.out hb6) hne3 (.slice As sl cs))
       have S46 := Az.mk (blk_far (p := ⟨g6, 0, none⟩) (bkB S45.out hb6) hne4 (.slice As sl cs))
       have HB6 := Az.mk (bset (g := g6) (j := 0) (v := .slice As sl cs) (bst HB5.out hb6) hw6)
       have HV6 := Az.mk (Kd.V_below HV5.out (bset (g := g6) (j := 0) (v := .slice As sl cs) hb6 (by omega)))
       have hcz := (blk_cell hbox 0).trans rfl
       have hfz := bkF hbox 0
       have b2 := (blk_cell S36.out 2).trans rfl
       have d0 := (blk_cell S46.out 0).trans rfl
       have df := bkF S46.out 0
       have e0 := (blk_cell S66.out 0).trans rfl
       clear hbox hb6 hg6 S25 S35 S45 HB5 HV5 hne2 hne3 hne4)
  rotate_left 1
  iterate 2
    refine bodyPost_ret (results_ct rfl _ _ g4 53 #[.slice none 0 0] (0, 0) _ rfl (blk_put (cs' := #[.slice none 0 0]) S46.out 0 _ rfl) Try.underlying53 rfl (by kernel_rfl)) rfl ?_
    rw [HE.out]
    exact ⟨_, rfl, FIN.out _ _ _ HB6.out (Kd.V_nil _ _ _ _ _)⟩
  have hsl : sl = s.length := HSL.out
  subst hsl
  have HV6' := Az.mk (show Kd.V k53 53 (w6.setCell ⟨g6, 0, none⟩ (.slice As s.length cs)) w.heap.size (fun q => (P q ∨ w.heap.size ≤ q) ∧ q ≠ g4) (.slice As s.length cs) s from HV6.out)
  clear HV6
  have HV6 := HV6'
  clear HV6'
  obtain ⟨r, hr⟩ : ∃ r, r = ofL l0 l1 l2 l s := ⟨_, rfl⟩
  have HE := Az.mk (show ofT l0 l1 l2 ⟨k, n, l⟩ = if r = true then some (s.drop l.length) else none from by rw [hr]; exact (SE.out s rfl).trans (if_neg hl))
  have Hr := Az.mk hr
  have Hl := Az.mk hl
  clear hr hl NE SE b b2 d0 df e0 hcz hfz HSL
  generalize w6.setCell ⟨g6, 0, none⟩ (.slice As s.length cs) = w7 at *
  have HR7 := Az.mk (Kd.C_below HR0.out HB6.out)
  have H17 := Az.mk (Kd.V_below (Kd.V_bound H1.out) HB6.out)
  have H27 := Az.mk (Kd.V_below (Kd.V_bound H2.out) HB6.out)
  have HR37 := Az.mk (Kd.C_below HR3.out HB6.out)
  clear HR0 H1 H2 HR3
  go_loopg [33] l.length (fun kq v33 wr => ∃ i : Nat, v33 = .int .i64 (i : Int) ∧ Az (i + kq = l.length) ∧ Az (r = ofL l0 l1 l2 (l.drop i) (s.drop i)) ∧ Az (Below w7.heap.size w7 wr))
  case atStart => exact ⟨0, rfl, ⟨by omega⟩, Hr, ⟨Below.refl _ _⟩⟩
  case round =>
    obtain ⟨i, rfl, Hi, HL, HB⟩ := hrel
    clear Hr
    have HBw := Az.mk (bst HB6.out HB.out)
    have S2 := Az.mk (bkB S26.out HB.out)
    have S3 := Az.mk (bkB S36.out HB.out)
    have S4 := Az.mk (bkB S46.out HB.out)
    have S6 := Az.mk (bkB S66.out HB.out)
    have HV := Az.mk (Kd.V_below HV6.out HB.out)
    by_cases hlt : i < l.length
    rotate_left
    · have hie : i = l.length := by have := Hi.out; omega
      have hr : r = true := by have := HL.out; rw [hie, List.drop_length] at this; exact this.trans (by rw [ofL])
      have he := HE.out
      rw [if_pos hr] at he
      have HE' := Az.mk he
      have b2 : wr.cell? ⟨g3, 2, none⟩ = some (.slice A3 l.length c3) := (blk_cell S3.out 2).trans rfl
      have d0 : wr.cell? ⟨g4, 0, none⟩ = some (.slice none 0 0) := (blk_cell S4.out 0).trans rfl
      have df := bkF S4.out 0
      have e0 : wr.cell? ⟨g6, 0, none⟩ = some (.slice As s.length cs) := (blk_cell S6.out 0).trans rfl
      have b : (s.length < l.length) = False := eq_false Hl.out
      have p1 : (l.length ≤ s.length) = True := eq_true (by have := Hl.out; omega)
      clear he hr
      subst hie
      have hcap := (Kd.V_at HV.out).2.1
      have hcut : ∀ A', (if cs = l.length then As else As.map (·.add (l.length * 1))) = A' → Kd.V k53 53 wr w.heap.size (fun q => (P q ∨ w.heap.size ≤ q) ∧ q ≠ g4) (.slice A' (s.length - l.length) (cs - l.length)) (s.drop l.length) := by
        intro A' h
        have h2 := Kd.V_mk (d := k53) (e := 53) (base := w.heap.size) (c := cs - l.length) (by rw [List.length_drop]; omega) (Kd.F_cut (m := l.length) (c := cs) (Kd.V_F HV.out) (by have := Hl.out; omega) hcap)
        rw [List.length_drop] at h2
        rw [← h]
        exact h2
      have HCut := Az.mk hcut
      clear hcut hcap
      by_cases hcs : cs = l.length
      · go_wp2_with fail
        have hv := HCut.out As (if_pos hcs)
        rw [hcs, Nat.sub_self] at hv
        refine bodyPost_ret (results_ct rfl _ _ g4 53 #[.slice As (s.length - l.length) 0] (0, 0) _ rfl (blk_put (cs' := #[.slice As (s.length - l.length) 0]) S4.out 0 _ rfl) Try.underlying53 rfl (by kernel_rfl)) rfl ?_
        rw [HE'.out]
        exact ⟨_, rfl, FIN.out _ _ _ HBw.out hv⟩
      · go_wp2_with fail
        have hv := HCut.out _ (if_neg hcs)
        rw [Nat.mul_one] at hv
        refine bodyPost_ret (results_ct rfl _ _ g4 53 #[.slice (As.map (·.add l.length)) (s.length - l.length) (cs - l.length)] (0, 0) _ rfl (blk_put (cs' := #[.slice (As.map (·.add l.length)) (s.length - l.length) (cs - l.length)]) S4.out 0 _ rfl) Try.underlying53 rfl (by kernel_rfl)) rfl ?_
        rw [HE'.out]
        exact ⟨_, rfl, FIN.out _ _ _ HBw.out hv⟩
    obtain ⟨ad, A4, c4, rfl, hx1, hx2, hx3, hc4, hA4⟩ := at_T28 (Kd.C_below HR37.out HB.out) (i : Int) (by omega) (by omega)
    rw [Int.toNat_natCast] at hx1 hx2 hx3
    have HA4 := Az.mk hA4
    have Hc4 := Az.mk hc4
    have HNx := Az.mk (show SizeOf.sizeOf (rd_T28 l (i : Int)).f2 < N from by have := rd_T28_mem l i hlt; have := HN.out; omega)
    have HStep := Az.mk (HL.out.trans (ofL_step l0 l1 l2 l s i hlt))
    have p1 : (0 ≤ (i : Int)) = True := eq_true (by omega)
    have p2 : ((i : Int) < (l.length : Int)) = True := eq_true (by omega)
    have p3 : (i < l.length) = True := eq_true (by omega)
    have p4 : (i < s.length) = True := eq_true (by have := Hl.out; omega)
    clear hA4 hc4 HL
    generalize rd_T28 l (i : Int) = x at *
    have HEx := Az.mk (show ofT l0 l1 l2 ⟨x.f0, x.f1, x.f2⟩ = ofT l0 l1 l2 x from by cases x; rfl)
    go_wp2_with (
      (with_reducible refine gate_dst (N := 9) rfl ?_)
      refine box_event ?hg (N := 9) ?hd (cs := #[.int .i64 0, .int .i64 0, .slice none 0 0]) (t := 28) ?hr ?_
      (case hd => rfl)
      (case hg => rfl)
      (case hr => first | (go_simp; done) | (go_simp; rfl))
      intro gx hgx w6 hbox hb6
      have hgw : wr.heap.size ≤ gx := by omega
      have Hbw := Az.mk (bset (g := gx) (j := 2) (v := .slice A4 x.f2.length c4) (bset (g := gx) (j := 1) (v := .int .i64 x.f1) (bset (g := gx) (j := 0) (v := .int .i64 x.f0) hb6 hgw) hgw) hgw)
      have hcz0 := (blk_cell hbox 0).trans rfl
      have hfz0 := bkF hbox 0
      have hcz1 := (blk_cell hbox 1).trans rfl
      have hfz1 := bkF hbox 1
      have hcz2 := (blk_cell hbox 2).trans rfl
      have hfz2 := bkF hbox 2
      have Sx := Az.mk (blk_put (cs' := #[.int .i64 x.f0, .int .i64 x.f1, .slice A4 x.f2.length c4]) (blk_put (cs' := #[.int .i64 x.f0, .int .i64 x.f1, .slice none 0 0]) (blk_put (cs' := #[.int .i64 x.f0, .int .i64 0, .slice none 0 0]) hbox 0 (.int .i64 x.f0) rfl) 1 (.int .i64 x.f1) rfl) 2 (.slice A4 x.f2.length c4) rfl)
      have d0 := (blk_cell (bkB S2.out Hbw.out) 0).trans rfl
      have d1 := (blk_cell (bkB S2.out Hbw.out) 1).trans rfl
      have d2 := (blk_cell (bkB S2.out Hbw.out) 2).trans rfl
      have e0 := (blk_cell Sx.out 0).trans rfl
      have e1 := (blk_cell Sx.out 1).trans rfl
      have e2 := (blk_cell Sx.out 2).trans rfl
      clear hbox hb6 hgx hgw hx1 hx2 hx3 Sx)
    clear hcz0 hcz1 hcz2 hfz0 hfz1 hfz2 d0 d1 d2 e0 e1 e2
    generalize (((w6.setCell ⟨gx, 0, none⟩ (.int .i64 x.f0)).setCell ⟨gx, 1, none⟩ (.int .i64 x.f1)).setCell ⟨gx, 2, none⟩ (.slice A4 x.f2.length c4)) = wq at *
    have HBq := Az.mk (bst HB.out Hbw.out)
    (with_reducible refine (IH.out x.f2 HNx.out x.f0 x.f1 A4 c4 wq (Kd.C_below HR7.out HBq.out) (Kd.V_mono (Kd.V_below H17.out HBq.out) (fun _ h => h.1)) (Kd.V_mono (Kd.V_below H27.out HBq.out) (fun _ h => h.1)) (Kd.C_below HA4.out Hbw.out) Hc4.out).mono ?_)
    rintro e w8 ⟨v, rfl, hv8, hb8⟩
    rw [HEx.out] at hv8 ⊢
    have HB8 := Az.mk (bst HBq.out hb8)
    have HV8 := Az.mk (Kd.V_bound hv8)
    clear hv8 hb8 Hbw HBq S2 S3 S4 S6 HV HBw HA4 Hc4 HNx HEx IH
    obtain ⟨Ay, cy, rfl⟩ := Kd.V_slice HV8.out
    obtain ⟨Y, hY⟩ : ∃ Y, Y = ofT l0 l1 l2 x := ⟨_, rfl⟩
    rw [← hY] at HV8 HStep ⊢
    have HY := Az.mk hY
    clear hY
    obtain ⟨m, hm⟩ : ∃ m, m = (Y.getD []).length := ⟨_, rfl⟩
    rw [← hm] at HV8 ⊢
    have HMm := Az.mk hm
    clear hm
    go_wp2_with (
      (with_reducible refine gate_dst (N := 10) rfl ?_)
      refine box_event ?hg (N := 10) ?hd (cs := #[.slice none 0 0]) (t := 53) ?hr ?_
      (case hd => rfl)
      (case hg => rfl)
      (case hr => first | (go_simp; done) | (go_simp; rfl))
      intro g10 hg10 wA hbox hbA
      have hb9 := bset (g := g10) (j := 0) (v := .slice Ay m cy) hbA (by omega)
      have S10 := Az.mk (blk_put (cs' := #[.slice Ay m cy]) hbox 0 (.slice Ay m cy) rfl)
      have HB9 := Az.mk (bst HB8.out hb9)
      have HV9 := Az.mk (Kd.V_below HV8.out hb9)
      have hcz := (blk_cell hbox 0).trans rfl
      have hfz := bkF hbox 0
      clear hbox hbA hg10 hb9 HB8 HV8)
    clear hcz hfz
    generalize wA.setCell ⟨g10, 0, none⟩ (.slice Ay m cy) = w9 at *
    have HBw := Az.mk (bst HB6.out HB9.out)
    have S4 := Az.mk (bkB S46.out HB9.out)
    have S6 := Az.mk (bkB S66.out HB9.out)
    have HV := Az.mk (Kd.V_below HV6.out HB9.out)
    have d0 : w9.cell? ⟨g4, 0, none⟩ = some (.slice none 0 0) := (blk_cell S4.out 0).trans rfl
    have df := bkF S4.out 0
    have e0 : w9.cell? ⟨g6, 0, none⟩ = some (.slice As s.length cs) := (blk_cell S6.out 0).trans rfl
    have y0 : w9.cell? ⟨g10, 0, none⟩ = some (.slice Ay m cy) := (blk_cell S10.out 0).trans rfl
    cases Y with
    | none =>
      have hr : r = false := by have := HStep.out; simpa using this
      have HE' := Az.mk (show ofT l0 l1 l2 ⟨k, n, l⟩ = none from HE.out.trans (if_neg (by rw [hr]; decide)))
      clear hr
      go_quiet (fail)
      have HBn := Az.mk (pwN HBw.out nq)
      have S4n := Az.mk (bdN S4.out nq)
      clear d0 df e0 y0 S4 S6 HV HBw HB9 S10 HV9
      generalize w9.drewN nq = wn at *
      have d0 : wn.cell? ⟨g4, 0, none⟩ = some (.slice none 0 0) := (blk_cell S4n.out 0).trans rfl
      have df := bkF S4n.out 0
      go_wp2_with fail
      refine bodyPost_ret (results_ct rfl _ _ g4 53 #[.slice none 0 0] (0, 0) _ rfl (blk_put (cs' := #[.slice none 0 0]) S4n.out 0 _ rfl) Try.underlying53 rfl (by kernel_rfl)) rfl ?_
      rw [HE'.out]
      exact ⟨_, rfl, FIN.out _ _ _ HBn.out (Kd.V_nil _ _ _ _ _)⟩
    | some y =>
      have hm : m = y.length := HMm.out
      subst hm
      have hcy := ofT_cnt HSM.out HY.out.symm
      obtain ⟨ads, Ae, ce, rfl, hxe, hve⟩ := V_at41 HV.out (i := (i : Int)) (by omega) (by have := Hl.out; omega)
      rw [Int.toNat_natCast] at hxe
      have p5 : ((i : Int) < (s.length : Int)) = True := eq_true (by have := Hl.out; omega)
      have HY9 := Az.mk (show y.length ≤ cy ∧ k53.C w9 Ay y.length y from (Kd.V_reads' HV9.out).2)
      have HVe := Az.mk (Kd.V_reads' hve).2
      have HCy := Az.mk hcy
      clear hve hcy HV9 HV
      generalize rd_T53 s (i : Int) = ys at *
      go_region_law
        (first
          | (go_simp
             go_at_call 48
             (with_reducible refine (eq_calls (l := y) (m := ys.f0) HCy.out (w := w9.drew) (Kd.C_below HY9.out.2 (below_drew (Below.refl _ _))) HY9.out.1 (Kd.C_below HVe.out.2 (below_drew (Below.refl _ _))) HVe.out.1).mono ?_)
             rintro e9 wB ⟨rfl, hbB⟩
             have HBB := Az.mk (bst (below_drew HB9.out) hbB)
             clear hbB))
      all_goals (
        have HStep2 := Az.mk (show r = (eqL y ys.f0 && ofL l0 l1 l2 (l.drop (i + 1)) (s.drop (i + 1))) from HStep.out)
        clear HStep HCy HY9 HVe S4 S6 HB9 HBw S10 hxe y0 e0 d0 df
        generalize eqL y ys.f0 = q at *
        cases q with
        | true =>
          have HN2 := Az.mk (show r = ofL l0 l1 l2 (l.drop (i + 1)) (s.drop (i + 1)) from HStep2.out)
          clear HStep2
          go_wp2_with fail
          have hk := Hi.out
          obtain ⟨k1, rfl⟩ : ∃ k1, gk = k1 + 1 := ⟨gk - 1, by omega⟩
          go_roundg k1
          case measure => omega
          case rel => exact ⟨i + 1, by go_num, ⟨by omega⟩, HN2, HBB⟩
        | false =>
          have hr : r = false := HStep2.out
          have HE' := Az.mk (show ofT l0 l1 l2 ⟨k, n, l⟩ = none from HE.out.trans (if_neg (by rw [hr]; decide)))
          clear hr HStep2
          have S4B := Az.mk (bkB S46.out HBB.out)
          have d0B : wB.cell? ⟨g4, 0, none⟩ = some (.slice none 0 0) := (blk_cell S4B.out 0).trans rfl
          have dfB := bkF S4B.out 0
          go_wp2_with fail
          refine bodyPost_ret (results_ct rfl _ _ g4 53 #[.slice none 0 0] (0, 0) _ rfl (blk_put (cs' := #[.slice none 0 0]) S4B.out 0 _ rfl) Try.underlying53 rfl (by kernel_rfl)) rfl ?_
          rw [HE'.out]
          exact ⟨_, rfl, FIN.out _ _ _ (bst HB6.out HBB.out) (Kd.V_nil _ _ _ _ _)⟩)
end Go.Proofs.Ytnfgpepggehegaa.I
namespace Go.Proofs.Ytnfgpepggehegaa.I
open Go.RowKit Go.Proofs.YtnfgpepggehegaaW.PrintWords Go.Proofs.YtnfgpepggehegaaW.PrintLast Go.Proofs.YtnfgpepggehegaaW.PrintMore
attribute [local go_sem] max2_int min2_int max_two min_two max_three min_three max_four min_four
set_option linter.unusedVariables false
set_option maxRecDepth 100000
set_option linter.unusedSimpArgs false
theorem cel1 {w : World} {p : Addr} {v : Value} (h : w.cell? p = some v) : ∀ o : Obj, (w.alloc o).cell? p = some v := fun o => cell_up (bal (Below.refl _ _) o) h
theorem take46_snoc {l : List S84} {i : Nat} (h : i < l.length) : (l.take i).map (·.f1) ++ [⟨(rd_T84 l (i : Int)).f1.f0⟩] = (l.take (i + 1)).map (·.f1) := by
  have e1 : l.take (i + 1) = l.take i ++ [l[i]] := by rw [List.take_add_one, List.getElem?_eq_getElem h]; rfl
  have e2 : rd_T84 l (i : Int) = l[i] := by unfold rd_T84; rw [Int.toNat_natCast, List.getD_eq_getElem?_getD, List.getElem?_eq_getElem h]; rfl
  rw [e1, e2, List.map_append]
  cases h2 : l[i] with
  | mk a b c =>
    cases b
    rfl
set_option maxHeartbeats 16000000 in
theorem place_calls (A0 : Option Addr) (c0 : Nat) (l0 : List S87) (A1 : Option Addr) (c1 : Nat) (l1 : List S84) (j : Nat) (hj : j < l1.length) (w : World) (hr1 : Kd.C k84 w A1 l1.length l1) (hc1 : l1.length ≤ c1) (h64 : l1.length ≤ 64) :
    Calls Try.prog 60 #[.agg #[.slice A0 l0.length c0, .slice A1 l1.length c1], .int .i64 (j : Int)] w fun e w' => ∃ v A2 c2, e = .returned (.agg #[.slice A0 l0.length c0, v, .slice A2 (rd_T84 l1 (j : Int)).f1.f0.length c2]) ∧ Kd.V k53 53 w' w.heap.size (fun _ => True) v (l1.map (·.f1)) ∧ Kd.V k53 53 w' w.heap.size (fun _ => True) (.slice A2 (rd_T84 l1 (j : Int)).f1.f0.length c2) (rd_T84 l1 (j : Int)).f1.f0 ∧ Below w.heap.size w w' := by
  have hu99 := Try.underlying99
  have hu25 := Try.underlying25
  have hu84 := Try.underlying84
  have hu53 := Try.underlying53
  have hu28 := Try.underlying28
  obtain ⟨ad, A2, c2, A4, c4, rfl, hx0, hx1, hx2, hx3, hx4, hl2, hC2, hl4, hC4⟩ := at_T84 hr1 (j : Int) (by omega) (by omega)
  rw [Int.toNat_natCast] at hx1
  have HR1 := Az.mk hr1
  have HV2 := Az.mk (show Kd.V k53 53 w w.heap.size (fun _ => True) (.slice A2 (rd_T84 l1 (j : Int)).f1.f0.length c2) (rd_T84 l1 (j : Int)).f1.f0 from Kd.V_mk hl2 (Kd.F_mono (Kd.C_F k53_heap hC2) (fun _ _ => trivial)))
  have H64 := Az.mk h64
  have p1 : (0 ≤ (j : Int)) = True := eq_true (by omega)
  have p2 : ((j : Int) < (l1.length : Int)) = True := eq_true (by omega)
  have p3 : (j < l1.length) = True := eq_true (by omega)
  have HX1 := Az.mk hx1
  clear hr1 hx0 hx2 hx3 hx4 hl2 hC2 hl4 hC4 h64 hx1 hj
  generalize (rd_T84 l1 (j : Int)).f1.f0 = pa at *
  go_enter Try.func60, Try.ntmps60
  go_upto_region 1 with (first
   | ((with_reducible refine gate_dst (N := 2) rfl ?_)
      refine box_event ?hg (N := 2) ?hd (cs := #[.slice A0 l0.length c0, .slice (some ad) l1.length c1]) (t := 25) ?hr ?_
      (case hd => rfl)
      (case hg => rfl)
      (case hr => first | (go_simp; done) | (go_simp; rfl))
      intro g2 hg2 w2 hbox hb2
      have S22 := Az.mk hbox
      have HB2 := Az.mk hb2
      clear hbox hb2 hg2)
   | ((with_reducible refine gate_dst (N := 4) rfl ?_)
      refine box_event ?hg (N := 4) ?hd (cs := #[.slice none 0 0, .slice none 0 0, .slice none 0 0]) (t := 99) ?hr ?_
      (case hd => rfl)
      (case hg => rfl)
      (case hr => first | (go_simp; done) | (go_simp; rfl))
      intro g4 hg4 w4 hbox hb4
      have hw4 : w.heap.size ≤ g4 := by have := HB2.out.size; omega
      have S24 := Az.mk (bkB S22.out hb4)
      have S44 := Az.mk hbox
      have HB4 := Az.mk (bst HB2.out hb4)
      have a0 : w4.cell? ⟨g2, 0, none⟩ = some (.slice A0 l0.length c0) := (blk_cell S24.out 0).trans rfl
      have a1 : w4.cell? ⟨g2, 1, none⟩ = some (.slice (some ad) l1.length c1) := (blk_cell S24.out 1).trans rfl
      have x1 := cell_up HB4.out HX1.out
      have a0' := cel1 a0
      have a1' := cel1 a1
      have x1' := cel1 x1
      clear hbox hb4 hg4 S22 HB2))
  simp only [Act.put, List.setIfInBounds_toArray, List.set_cons_succ, List.set_cons_zero]
  go_cut [5] from 8 to 17 (fun v5 wc => v5 = .pointer (some ⟨w4.heap.size, 0, none⟩) ∧ wc = (w4.alloc (.cells #[.slice A0 l0.length c0, .slice none 0 0, .slice A2 pa.length c2] 99)).drew)
  case first =>
    go_region
    all_goals (go_wp2_with fail; go_meet; exact ⟨rfl, rfl⟩)
  case rest =>
    obtain ⟨rfl, rfl⟩ := hcut
    clear a0 a1 x1 a0' a1' x1'
    have hb5 : Below w4.heap.size w4 (w4.alloc (.cells #[.slice A0 l0.length c0, .slice none 0 0, .slice A2 pa.length c2] 99)).drew := below_drew (bal (Below.refl _ _) _)
    have S5 := Az.mk (show (w4.alloc (.cells #[.slice A0 l0.length c0, .slice none 0 0, .slice A2 pa.length c2] 99)).drew.heap[w4.heap.size]? = some (.cells #[.slice A0 l0.length c0, .slice none 0 0, .slice A2 pa.length c2] 99 (0, 0)) from blk_drew (blk_new _ _))
    have HB5 := Az.mk (bst HB4.out hb5)
    have S25 := Az.mk (bkB S24.out hb5)
    have S45 := Az.mk (bkB S44.out hb5)
    have hw5 : w.heap.size ≤ w4.heap.size := HB4.out.size
    have hn45 : g4 ≠ w4.heap.size := by have := blk_lt S44.out; omega
    clear hb5 S24 S44 HB4
    generalize (w4.alloc (.cells #[.slice A0 l0.length c0, .slice none 0 0, .slice A2 pa.length c2] 99)).drew = w5 at *
    generalize w4.heap.size = g5 at *
    have b1 : w5.cell? ⟨g2, 1, none⟩ = some (.slice (some ad) l1.length c1) := (blk_cell S25.out 1).trans rfl
    go_wp2_with fail
    clear b1
    go_loopg [21] l1.length (fun kq v21 wr => ∃ (i : Nat) (Af : Option Addr) (cf : Nat), v21 = .int .i64 (i : Int) ∧ Az (i + kq = l1.length) ∧ Az (Kd.N k53 53 wr w.heap.size (fun k => k ≠ g4 ∧ k ≠ g5) (.slice Af i cf) ((l1.take i).map (·.f1))) ∧ Az (wr.heap[g5]? = some (.cells #[.slice A0 l0.length c0, .slice Af i cf, .slice A2 pa.length c2] 99 (0, 0))) ∧ Az (wr.heap[g4]? = some (.cells #[.slice none 0 0, .slice none 0 0, .slice none 0 0] 99 (0, 0))) ∧ Az (Below w.heap.size w wr))
    case atStart => exact ⟨0, none, 0, rfl, ⟨by omega⟩, ⟨Kd.N_nil _ _ _ _ _⟩, S5, S45, HB5⟩
    case round =>
      clear S5 S45 HB5 S25
      obtain ⟨i, Af, cf, rfl, Hi, HN, S5, S4, HB⟩ := hrel
      have h64' := H64.out
      by_cases hlt : i < l1.length
      rotate_left
      · have hie : i = l1.length := by have := Hi.out; omega
        subst hie
        have e0 : wr.cell? ⟨g5, 0, none⟩ = some (.slice A0 l0.length c0) := (blk_cell S5.out 0).trans rfl
        have e1 : wr.cell? ⟨g5, 1, none⟩ = some (.slice Af l1.length cf) := (blk_cell S5.out 1).trans rfl
        have e2 : wr.cell? ⟨g5, 2, none⟩ = some (.slice A2 pa.length c2) := (blk_cell S5.out 2).trans rfl
        have d0 : wr.cell? ⟨g4, 0, none⟩ = some (.slice none 0 0) := (blk_cell S4.out 0).trans rfl
        have d1 : wr.cell? ⟨g4, 1, none⟩ = some (.slice none 0 0) := (blk_cell S4.out 1).trans rfl
        have d2 : wr.cell? ⟨g4, 2, none⟩ = some (.slice none 0 0) := (blk_cell S4.out 2).trans rfl
        have f0 := bkF S4.out 0
        have f1 := bkF S4.out 1
        have f2 := bkF S4.out 2
        go_wp2_with fail
        have Sz := blk_put (cs' := #[.slice A0 l0.length c0, .slice Af l1.length cf, .slice A2 pa.length c2]) (blk_put (cs' := #[.slice A0 l0.length c0, .slice Af l1.length cf, .slice none 0 0]) (blk_put (cs' := #[.slice A0 l0.length c0, .slice none 0 0, .slice none 0 0]) S4.out 0 (.slice A0 l0.length c0) rfl) 1 (.slice Af l1.length cf) rfl) 2 (.slice A2 pa.length c2) rfl
        refine bodyPost_ret (results_cell_row rfl _ _ g4 99 #[.slice A0 l0.length c0, .slice Af l1.length cf, .slice A2 pa.length c2] (0, 0) _ rfl Sz Try.underlying99 rfl (by kernel_rfl)) rfl ?_
        have hN := HN.out
        rw [List.take_length] at hN
        have hV := Kd.V_far (p := ⟨g4, 2, none⟩) (Kd.V_far (p := ⟨g4, 1, none⟩) (Kd.V_far (p := ⟨g4, 0, none⟩) (Kd.N_V (base' := w.heap.size) hN) (fun k hk => hk.1) (.slice A0 l0.length c0)) (fun k hk => hk.1) (.slice Af l1.length cf)) (fun k hk => hk.1) (.slice A2 pa.length c2)
        have hbz := bset (g := g4) (j := 2) (v := .slice A2 pa.length c2) (bset (g := g4) (j := 1) (v := .slice Af l1.length cf) (bset (g := g4) (j := 0) (v := .slice A0 l0.length c0) HB.out hw4) hw4) hw4
        exact ⟨_, A2, c2, rfl, Kd.V_mono hV (fun _ _ => trivial), Kd.V_below HV2.out hbz, hbz⟩
      obtain ⟨ad', A3, c3, A4, c4, he, hx0, hx1, hx2, hx3, hx4, hl3, hC3, hl4, hC4⟩ := at_T84 HR1.out (i : Int) (by omega) (by omega)
      cases he
      replace hx0 := (HB.out.cell (World.block_lt_of_cell? w _ hx0)).trans hx0
      replace hx1 := (HB.out.cell (World.block_lt_of_cell? w _ hx1)).trans hx1
      replace hx2 := (HB.out.cell (World.block_lt_of_cell? w _ hx2)).trans hx2
      replace hx3 := (HB.out.cell (World.block_lt_of_cell? w _ hx3)).trans hx3
      replace hx4 := (HB.out.cell (World.block_lt_of_cell? w _ hx4)).trans hx4
      rw [Int.toNat_natCast] at hx0 hx1 hx2 hx3 hx4
      have HSN := Az.mk (take46_snoc hlt)
      have HF3 := Az.mk (Kd.C_F k53_heap hC3)
      have Hl3 := Az.mk hl3
      have q1 : (0 ≤ (i : Int)) = True := eq_true (by omega)
      have q2 : ((i : Int) < (l1.length : Int)) = True := eq_true (by omega)
      have q3 : (i < l1.length) = True := eq_true (by omega)
      clear hC3 hl4 hC4 hl3
      generalize rd_T84 l1 (i : Int) = x at *
      go_wp2_with (first
        | ((with_reducible refine gate_dst (N := 7) rfl ?_)
           refine box_event ?hg (N := 7) ?hd (cs := #[.string (⟨#[]⟩ : ByteArray), .slice none 0 0, .int .i64 0, .int .i64 0, .slice none 0 0]) (t := 84) ?hr ?_
           (case hd => rfl)
           (case hg => rfl)
           (case hr => first | (go_simp; done) | (go_simp; rfl))
           intro gi hgi w6 hbox hb6
           have hgw : wr.heap.size ≤ gi := by omega
           have Hbw := Az.mk (bset (g := gi) (j := 4) (v := .slice A4 x.f2.f2.length c4) (bset (g := gi) (j := 3) (v := .int .i64 x.f2.f1) (bset (g := gi) (j := 2) (v := .int .i64 x.f2.f0) (bset (g := gi) (j := 1) (v := .slice A3 x.f1.f0.length c3) (bset (g := gi) (j := 0) (v := .string x.f0) hb6 hgw) hgw) hgw) hgw) hgw)
           have Hgi := Az.mk (blk_put (cs' := #[.string x.f0, .slice A3 x.f1.f0.length c3, .int .i64 x.f2.f0, .int .i64 x.f2.f1, .slice A4 x.f2.f2.length c4]) (blk_put (cs' := #[.string x.f0, .slice A3 x.f1.f0.length c3, .int .i64 x.f2.f0, .int .i64 x.f2.f1, .slice none 0 0]) (blk_put (cs' := #[.string x.f0, .slice A3 x.f1.f0.length c3, .int .i64 x.f2.f0, .int .i64 0, .slice none 0 0]) (blk_put (cs' := #[.string x.f0, .slice A3 x.f1.f0.length c3, .int .i64 0, .int .i64 0, .slice none 0 0]) (blk_put (cs' := #[.string x.f0, .slice none 0 0, .int .i64 0, .int .i64 0, .slice none 0 0]) hbox 0 (.string x.f0) rfl) 1 (.slice A3 x.f1.f0.length c3) rfl) 2 (.int .i64 x.f2.f0) rfl) 3 (.int .i64 x.f2.f1) rfl) 4 (.slice A4 x.f2.f2.length c4) rfl)
           have hcz0 := (blk_cell hbox 0).trans rfl
           have hfz0 := bkF hbox 0
           have hcz1 := (blk_cell hbox 1).trans rfl
           have hfz1 := bkF hbox 1
           have hcz2 := (blk_cell hbox 2).trans rfl
           have hfz2 := bkF hbox 2
           have hcz3 := (blk_cell hbox 3).trans rfl
           have hfz3 := bkF hbox 3
           have hcz4 := (blk_cell hbox 4).trans rfl
           have hfz4 := bkF hbox 4
           have m1 := (blk_cell Hgi.out 1).trans rfl
           have m5 := (blk_cell (bkB S5.out Hbw.out) 1).trans rfl
           clear hbox hb6 hgi hgw)
        | (at_builtin; refine holdX ?_))
      unfold HoldX
      clear hcz0 hcz1 hcz2 hcz3 hcz4 hfz0 hfz1 hfz2 hfz3 hfz4 m1 m5 hx0 hx1 hx2 hx3 hx4
      have hs : (((((w6.setCell ⟨gi, 0, none⟩ (.string x.f0)).setCell ⟨gi, 1, none⟩ (.slice A3 x.f1.f0.length c3)).setCell ⟨gi, 2, none⟩ (.int .i64 x.f2.f0)).setCell ⟨gi, 3, none⟩ (.int .i64 x.f2.f1)).setCell ⟨gi, 4, none⟩ (.slice A4 x.f2.f2.length c4)).heap.size = w6.heap.size := by simp only [World.size_setCell]
      rw [← hs]
      clear hs
      generalize (((((w6.setCell ⟨gi, 0, none⟩ (.string x.f0)).setCell ⟨gi, 1, none⟩ (.slice A3 x.f1.f0.length c3)).setCell ⟨gi, 2, none⟩ (.int .i64 x.f2.f0)).setCell ⟨gi, 3, none⟩ (.int .i64 x.f2.f1)).setCell ⟨gi, 4, none⟩ (.slice A4 x.f2.f2.length c4)) = wq at *
      have HBq := Az.mk (bst HB.out Hbw.out)
      have HNq := Az.mk (Kd.N_below HN.out Hbw.out)
      have S5q := Az.mk (bkB S5.out Hbw.out)
      have S4q := Az.mk (bkB S4.out Hbw.out)
      clear Hbw HN S5 S4 HB Hgi
      refine Kd.N_append k53 (w0 := w) w.heap.size rfl (.tmp 26) (.tmp 29) 51 53 (.agg #[.slice none 0 0]) 24 rfl Try.underlying51 infoS53 rfl (by decide) (by omega) (.slice Af i cf) ((l1.take i).map (·.f1)) ⟨x.f1.f0⟩ [.slice A3 x.f1.f0.length c3] (fun k => k ≠ g4 ∧ k ≠ g5) (fun k => k < w.heap.size) rfl rfl (k53_mkF _ _ (⟨x.f1.f0⟩ : S53) Hl3.out (Kd.F_below HF3.out HBq.out)) (fun k hk => ⟨⟨by omega, by omega⟩, fun e => by have := Kd.N_base HNq.out k e.symm; omega⟩) (fun k hk => by have := blk_lt S4q.out; have := blk_lt S5q.out; exact ⟨by omega, by omega⟩) HNq.out HBq.out HBq.out.size (by rw [List.length_map, List.length_take]; have := H64.out; omega) ?_
      intro v2 w7 hn7 hb7 hg7 hat
      rw [HSN.out] at hn7
      obtain ⟨A5, c5, e2⟩ := Kd.N_slice hn7
      rw [List.length_map, List.length_take, Nat.min_eq_left (by omega)] at e2
      subst e2
      have HN7 := Az.mk hn7
      have HB7 := Az.mk hb7
      have S57 := Az.mk (blk_grown S5q.out hg7 (Kd.N_away HNq.out (fun k hk => hk.2)))
      have S47 := Az.mk (blk_grown S4q.out hg7 (Kd.N_away HNq.out (fun k hk => hk.1)))
      have m5 : w7.cell? ⟨g5, 1, none⟩ = some (.slice Af i cf) := (blk_cell S57.out 1).trans rfl
      have f5 := bkF S57.out 1
      clear hn7 hb7 hg7 hat HNq S5q S4q HBq HSN HF3 Hl3
      go_wp2_with fail
      have HN8 := Az.mk (Kd.N_far (p := ⟨g5, 1, none⟩) HN7.out (fun k hk => hk.2) (.slice A5 (i + 1) c5))
      have HB8 := Az.mk (bset (g := g5) (j := 1) (v := .slice A5 (i + 1) c5) HB7.out hw5)
      have S58 := Az.mk (blk_put (cs' := #[.slice A0 l0.length c0, .slice A5 (i + 1) c5, .slice A2 pa.length c2]) S57.out 1 (.slice A5 (i + 1) c5) rfl)
      have S48 := Az.mk (blk_far (p := ⟨g5, 1, none⟩) S47.out hn45 (.slice A5 (i + 1) c5))
      have hk := Hi.out
      obtain ⟨k1, rfl⟩ : ∃ k1, gk = k1 + 1 := ⟨gk - 1, by omega⟩
      go_roundg k1
      case measure => omega
      case rel => exact ⟨i + 1, A5, c5, by go_num, ⟨by omega⟩, HN8, S58, S48, HB8⟩
end Go.Proofs.Ytnfgpepggehegaa.I
namespace Go.Proofs.Ytnfgpepggehegaa.I
open Go.RowKit Go.Proofs.YtnfgpepggehegaaW.PrintWords Go.Proofs.YtnfgpepggehegaaW.PrintLast Go.Proofs.YtnfgpepggehegaaW.PrintMore
open Go.WideShapes Go.Maps Go.ChangeMaps Go.WideMaps
set_option linter.unusedVariables false
set_option maxRecDepth 100000
set_option linter.unusedSimpArgs false
def lits (L : List ByteArray) : List Lit := L.map (fun s => Lit.string s.data.toList)
def isIn (L : List ByteArray) (s : ByteArray) : Bool := L.any (fun x => x.data.toList == s.data.toList)
def Seen (w : World) (b n : Nat) (L : List ByteArray) : Prop := w.ownsMap (H := Unit) Try.prog 9 (plainElem Try.prog 4) b n (setOf (.lit (.bool true)) (lits L))
theorem seen_made (w : World) : Seen (w.alloc (.map #[] 0)) w.heap.size 0 [] := World.ownsMap_made w Try.prog 9 _
theorem bool_inv {e : TypeId} (he : Try.prog.underlying e = some .bool) {v : Value} {z : DataW Unit × List MemPlace} (h : plainElem Try.prog e v = some z) : ∃ x, v = .bool x ∧ z = (.lit (.bool x), []) := by
  unfold plainElem at h
  rw [he] at h
  cases v <;> simp at h
  exact ⟨_, rfl, h.symm⟩
theorem iskey (x : ByteArray) : WideAt.IsKeyLit (Lit.string x.data.toList) := trivial
theorem atKey_set (L : List ByteArray) (s : ByteArray) : (setOf (H := Unit) (.lit (.bool true)) (lits L)).atKey (.string s.data.toList) (.lit (.bool false)) = .lit (.bool (isIn L s)) := by
  have gen : ∀ (M : List ByteArray), (setOf (H := Unit) (.lit (.bool true)) (lits M.reverse)).atKey (.string s.data.toList) (.lit (.bool false)) = .lit (.bool (isIn M s)) := by
    intro M
    induction M with
    | nil => rfl
    | cons x M ih =>
      have e : lits (x :: M).reverse = lits M.reverse ++ [Lit.string x.data.toList] := by simp [lits]
      have hk : ∀ y ∈ lits M.reverse, WideAt.IsKeyLit y := by
        intro y hy
        obtain ⟨z, _, rfl⟩ := List.mem_map.1 hy
        exact iskey z
      rw [e, setOf_snoc]
      by_cases hx : x.data.toList = s.data.toList
      · rw [hx, atKey_put_same (tidy_setOf _ _ hk).isMap (iskey s)]
        have : (x.data.toList == s.data.toList) = true := beq_iff_eq.2 hx
        unfold isIn
        rw [List.any_cons, this]
        rfl
      · have hne : Lit.string s.data.toList ≠ Lit.string x.data.toList := by
          intro h
          injection h with h
          exact hx h.symm
        rw [atKey_put_other hne, ih]
        have : (x.data.toList == s.data.toList) = false := beq_eq_false_iff_ne.2 hx
        unfold isIn
        rw [List.any_cons, this]
        rfl
  have := gen L.reverse
  rw [List.reverse_reverse] at this
  rw [this]
  simp [isIn, List.any_reverse]
theorem law9 : Keyed Try.prog 9 := string_keyed Try.underlying9
theorem zero4 (w : World) : (zeroValue 4).run Try.prog w = .ok (.bool false) w := by kernel_rfl
theorem seen_look {w : World} {b n : Nat} {L : List ByteArray} (h : Seen w b n L) (s : ByteArray) (hs : s.size ≤ maxLen) : (Instr.lookup 90 (.map (some b)) (.string s) false).run Try.prog w = .ok (.bool (isIn L s)) w := by
  obtain ⟨v, ps, hrun, hv⟩ := World.ownsMap.lookup (t := 90) h law9 Try.underlying90 (zero4 w) (plainElem_bool Try.underlying4 false) (keyOf_string_mk Try.underlying9 hs)
  obtain ⟨x, rfl, hx⟩ := bool_inv Try.underlying4 hv
  injection hx with hx _
  rw [atKey_set] at hx
  injection hx with hx
  injection hx with hx
  rw [hrun, hx]
theorem Seen.grown {w w1 : World} {b n : Nat} {L : List ByteArray} (h : Seen w b n L) (hb : Below w.heap.size w w1) : Seen w1 b n L :=
  World.ownsMap.kept (row := none) h ⟨hb.os, hb.tape, hb.output, hb.size, fun i hi _ => hb.block i hi⟩ (by simp)
theorem Seen.set {w : World} {b n : Nat} {L : List ByteArray} (h : Seen w b n L) {p : Addr} (hp : b ≠ p.block) (u : Value) : Seen (w.setCell p u) b n L := by
  obtain ⟨es, clock, hb, r⟩ := h
  exact ⟨es, clock, by rw [Below.heap_setCell _ _ _ _ hp]; exact hb, r⟩
theorem Seen.lt {w : World} {b n : Nat} {L : List ByteArray} (h : Seen w b n L) : b < w.heap.size := World.ownsMap.lt h
theorem seen_put {b n : Nat} {L : List ByteArray} {s : ByteArray} {w' : World} (h : w'.ownsMap (H := Unit) Try.prog 9 (plainElem Try.prog 4) b (n + 1) ((setOf (.lit (.bool true)) (lits L)).put (.string s.data.toList) (.lit (.bool true)))) : Seen w' b (n + 1) (L ++ [s]) := by
  unfold Seen
  rw [show lits (L ++ [s]) = lits L ++ [Lit.string s.data.toList] from by simp [lits], setOf_snoc]
  exact h
end Go.Proofs.Ytnfgpepggehegaa.I
namespace Go.Proofs.Ytnfgpepggehegaa.I
open Go.RowKit Go.Proofs.YtnfgpepggehegaaW.PrintWords Go.Proofs.YtnfgpepggehegaaW.PrintLast Go.Proofs.YtnfgpepggehegaaW.PrintMore
open Go.WideShapes Go.Maps Go.ChangeMaps Go.WideMaps
attribute [local go_sem] max2_int min2_int max_two min_two max_three min_three max_four min_four
set_option linter.unusedVariables false
set_option maxRecDepth 100000
set_option linter.unusedSimpArgs false
def symBad (x : S87) (L : List ByteArray) : Bool := !nameOk x.f0 || (isIn L x.f0 || (decide (x.f1 < 0) || decide (4 < x.f1)))
def symsL : List S87 → List ByteArray → Bool
  | [], _ => true
  | x :: xs, L => if symBad x L = true then false else symsL xs (L ++ [x.f0])
def names59 (l : List S87) : List ByteArray := l.map (fun x => x.f0)
def term_Symbols.f (l0 : List S87) : Option Bool := some (symsL l0 [] && decide (l0.length ≤ 24))
theorem rd_T87_drop (l : List S87) (i : Nat) (h : i < l.length) : l.drop i = rd_T87 l (i : Int) :: l.drop (i + 1) := by
  rw [List.drop_eq_getElem_cons h]
  simp [rd_T87, List.getD_eq_getElem?_getD, List.getElem?_eq_getElem h]
theorem rd_T87_take (l : List S87) (i : Nat) (h : i < l.length) : names59 (l.take i) ++ [(rd_T87 l (i : Int)).f0] = names59 (l.take (i + 1)) := by
  have e : l.take (i + 1) = l.take i ++ [l[i]] := by rw [List.take_add_one, List.getElem?_eq_getElem h]; rfl
  have e2 : rd_T87 l (i : Int) = l[i] := by unfold rd_T87; rw [Int.toNat_natCast, List.getD_eq_getElem?_getD, List.getElem?_eq_getElem h]; rfl
  rw [e, e2]
  unfold names59
  rw [List.map_append]
  rfl
theorem nameOk_size {s : ByteArray} (h : nameOk s = true) : s.size ≤ maxLen := by
  unfold nameOk at h
  rw [Bool.and_eq_true, decide_eq_true_eq] at h
  have := h.1.2.1
  unfold maxLen
  omega
def HoldI (p : Prop) : Prop := p
theorem holdI {p : Prop} (h : HoldI p) : p := h
theorem drawn_below {w w1 : World} (h : Drawn0 w w1) : Below w.heap.size w w1 := by
  obtain ⟨nd, rfl⟩ := h
  exact pwN (Below.refl _ _) nd
set_option maxHeartbeats 4000000 in
theorem term_Symbols.calls (A0 : Option Addr) (c0 : Nat) (l0 : List S87) (r : Bool) (w : World) (hr0 : Kd.C k87 w A0 l0.length l0) (hc0 : l0.length ≤ c0) (h : term_Symbols.f l0 = some r) :
    Calls Try.prog 49 #[.slice A0 l0.length c0] w fun e w' => e = .returned (.bool r) ∧ Below w.heap.size w w' := by
  have hu87 := Try.underlying87
  have hmm := @run_makeMap Try.prog
  have hlen : l0.length ≤ 9223372036854775807 := hr0.2.1
  have HR := Az.mk hr0
  have HC := Az.mk hc0
  have H := Az.mk h
  clear hr0 hc0 h
  go_enter Try.func49, Try.ntmps49
  go_wp2_with fail
  go_loopg [9] l0.length (fun kq v9 wr => ∃ (i : Nat), v9 = .int .i64 (i : Int) ∧ Az (kq + i = l0.length) ∧ Az (Seen wr w.heap.size i (names59 (l0.take i))) ∧ Az (symsL (l0.drop i) (names59 (l0.take i)) = symsL l0 []) ∧ Az (Below w.heap.size w wr))
  case atStart => exact ⟨0, rfl, ⟨by omega⟩, ⟨seen_made w⟩, ⟨rfl⟩, ⟨bal (Below.refl _ _) _⟩⟩
  case round =>
    obtain ⟨i, rfl, Hi, HS, HM, HB⟩ := hrel
    have hi : i ≤ l0.length := by have := Hi.out; omega
    by_cases hlt : i < l0.length
    · have hdrop := Az.mk (rd_T87_drop l0 i hlt)
      have htake := Az.mk (rd_T87_take l0 i hlt)
      obtain ⟨ad, he, hx1, hx2⟩ := at_T87 HR.out (i : Int) (by omega) (by omega)
      cases he
      replace hx1 := (HB.out.cell (World.block_lt_of_cell? w _ hx1)).trans hx1
      replace hx2 := (HB.out.cell (World.block_lt_of_cell? w _ hx2)).trans hx2
      rw [Int.toNat_natCast] at hx1 hx2
      have p1 : (0 ≤ (i : Int)) = True := eq_true (by omega)
      have p2 : ((i : Int) < (l0.length : Int)) = True := eq_true (by omega)
      have p3 : (i < l0.length) = True := eq_true (by omega)
      generalize hx : rd_T87 l0 (i : Int) = x at *
      clear hx
      obtain ⟨kN, hN⟩ := (name_ev x.f0).rounds
      have HN := Az.mk hN
      clear hN
      go_wp2_with (
        (with_reducible refine gate_dst (N := 5) rfl ?_)
        refine box_event ?hg (N := 5) ?hd (cs := #[.string (⟨#[]⟩ : ByteArray), .int .i64 0]) (t := 87) ?hr ?_
        (case hd => rfl)
        (case hg => rfl)
        (case hr => first | (go_simp; done) | (go_simp; rfl))
        intro gi hgi w3 hbox hb3
        have hsz := below_size HB.out
        have hgw : w.heap.size ≤ gi := by omega
        have hnb : w.heap.size ≠ gi := by have := HS.out.lt; omega
        have HB3 := Az.mk (bset (g := gi) (j := 1) (v := .int .i64 x.f1) (bset (g := gi) (j := 0) (v := .string x.f0) (bst HB.out hb3) hgw) hgw)
        have HS3 := Az.mk (Seen.set (Seen.set (Seen.grown HS.out hb3) (p := ⟨gi, 0, none⟩) hnb (.string x.f0)) (p := ⟨gi, 1, none⟩) hnb (.int .i64 x.f1))
        have Hgi := Az.mk (blk_put (cs' := #[.string x.f0, .int .i64 x.f1]) (blk_put (cs' := #[.string x.f0, .int .i64 0]) hbox 0 (.string x.f0) rfl) 1 (.int .i64 x.f1) rfl)
        have hci0 : ((w3.setCell ⟨gi, 0, none⟩ (.string x.f0)).setCell ⟨gi, 1, none⟩ (.int .i64 x.f1)).cell? ⟨gi, 0, none⟩ = some (.string x.f0) := (blk_cell Hgi.out 0).trans rfl
        have hcz0 := (blk_cell hbox 0).trans rfl
        have hcz1 := (blk_cell hbox 1).trans rfl
        have hfz0 := bkF hbox 0
        have hfz1 := bkF hbox 1
        clear hbox hb3 hgi hsz)
      (with_reducible refine (term_Name.calls kN x.f0 (nameOk x.f0) _ HN.out).mono ?_)
      rintro e w4 ⟨rfl, hD⟩
      have hB4 := drawn_below hD
      have HB4 := Az.mk (bst HB3.out hB4)
      have HS4 := Az.mk (Seen.grown HS3.out hB4)
      have Hg4 := Az.mk (bkB Hgi.out hB4)
      have hc0 : w4.cell? ⟨gi, 0, none⟩ = some (.string x.f0) := (blk_cell Hg4.out 0).trans rfl
      have hc1 : w4.cell? ⟨gi, 1, none⟩ = some (.int .i64 x.f1) := (blk_cell Hg4.out 1).trans rfl
      clear hD hB4 HB HS HB3 HS3 Hgi hci0 hcz0 hcz1 hfz0 hfz1
      cases hn : nameOk x.f0 with
      | false =>
        have hr : r = false := by
          have e := H.out
          unfold term_Symbols.f at e
          rw [← HM.out, hdrop.out, symsL, if_pos (by simp [symBad, hn]), Bool.false_and] at e
          injection e with e
          exact e.symm
        subst hr
        go_wp2_with fail
        go_ret
        exact ⟨rfl, HB4.out⟩
      | true =>
        have hlk := seen_look HS4.out x.f0 (nameOk_size hn)
        cases hin : isIn (names59 (l0.take i)) x.f0 with
        | true =>
          have hr : r = false := by
            have e := H.out
            unfold term_Symbols.f at e
            rw [← HM.out, hdrop.out, symsL, if_pos (by simp [symBad, hn, hin]), Bool.false_and] at e
            injection e with e
            exact e.symm
          rw [hin] at hlk
          subst hr
          go_wp2_with fail
          go_ret
          exact ⟨rfl, HB4.out⟩
        | false =>
          rw [hin] at hlk
          by_cases h1 : x.f1 < 0
          · have h1b : decide (x.f1 < 0) = true := decide_eq_true h1
            have hr : r = false := by
              have e := H.out
              unfold term_Symbols.f at e
              rw [← HM.out, hdrop.out, symsL, if_pos (by simp [symBad, hn, hin, h1]), Bool.false_and] at e
              injection e with e
              exact e.symm
            clear h1
            subst hr
            go_wp2_with fail
            go_ret
            exact ⟨rfl, HB4.out⟩
          · have h1b : decide (x.f1 < 0) = false := decide_eq_false h1
            by_cases h2 : 4 < x.f1
            · have h2b : decide (4 < x.f1) = true := decide_eq_true h2
              have hr : r = false := by
                have e := H.out
                unfold term_Symbols.f at e
                rw [← HM.out, hdrop.out, symsL, if_pos (by simp [symBad, hn, hin, h1, h2]), Bool.false_and] at e
                injection e with e
                exact e.symm
              clear h1 h2
              subst hr
              go_wp2_with fail
              go_ret
              exact ⟨rfl, HB4.out⟩
            · have h2b : decide (4 < x.f1) = false := decide_eq_false h2
              have HM2 : Az (symsL (l0.drop (i + 1)) (names59 (l0.take (i + 1))) = symsL l0 []) := ⟨by rw [← HM.out, hdrop.out, symsL, if_neg (by simp [symBad, hn, hin, h1, h2]), htake.out]⟩
              have hkey := keyOf_string_mk Try.underlying9 (nameOk_size hn)
              have Hkey := Az.mk hkey
              clear h1 h2 hn hin hkey
              go_wp2_with (at_mapUpdate; refine holdI ?_)
              unfold HoldI
              refine wpList_mapUpdate_own (H := Unit) _ rfl (.tmp 33) (.tmp 35) (.const (.bool true)) 90 rfl 9 4 law9 Try.underlying90 (plainElem Try.prog 4) w.heap.size i _ rfl HS4.out (by unfold maxLen; omega) (.string x.f0) (.bool true) (.string x.f0.data.toList) rfl rfl Hkey.out _ [] (plainElem_bool Try.underlying4 true) ?_
              intro w5 hown5 hgrow5
              have HS5 := Az.mk (seen_put hown5)
              have HB5 := Az.mk (HB4.out.grown hgrow5 HB4.out.size (fun k hk => by injection hk with hk; omega))
              rw [htake.out] at HS5
              clear hown5 hgrow5 hc0 hc1 hlk HS4 HB4 HM
              go_wp2_with fail
              have hk := Hi.out
              obtain ⟨k1, rfl⟩ : ∃ k1, gk = k1 + 1 := ⟨gk - 1, by omega⟩
              go_roundg k1
              case measure => omega
              case rel => exact ⟨i + 1, by go_num, ⟨by omega⟩, HS5, HM2, HB5⟩
    · have hie : i = l0.length := by omega
      have hr : r = decide ((l0.length : Int) ≤ 24) := by
        have e := H.out
        unfold term_Symbols.f at e
        rw [← HM.out, hie, List.drop_length, symsL, Bool.true_and] at e
        injection e with e
        rw [← e]
        exact decide_eq_decide.2 (by omega)
      clear hie
      subst hr
      go_wp2_with fail
      go_ret
      exact ⟨rfl, HB.out⟩
end Go.Proofs.Ytnfgpepggehegaa.I
namespace Go.Proofs.Ytnfgpepggehegaa.I
open Go.RowKit Go.Proofs.YtnfgpepggehegaaW.PrintWords Go.Proofs.YtnfgpepggehegaaW.PrintLast Go.Proofs.YtnfgpepggehegaaW.PrintMore
set_option linter.unusedVariables false
set_option maxRecDepth 100000
set_option linter.unusedSimpArgs false
theorem isIn_cons (x : ByteArray) (L : List ByteArray) (s : ByteArray) : isIn (x :: L) s = (x.data.toList == s.data.toList || isIn L s) := rfl
theorem sym_inner {l : List S87} {i : Nat} {nm : ByteArray} {rk : Int} {R : Bool} (y : List S87) (hy : y.length ≤ 1000) (hR : Ev (fun k => virgationref02_Symbols.l0 k l l (l.length : Int) (wrap64 ((i : Int) + 1))) R) :
    ∀ (m j : Nat), y.length - j = m → j ≤ y.length → Ev (fun k => virgationref02_Symbols.l1 k l l (l.length : Int) (i : Int) y (y.length : Int) (j : Int) nm rk) (if isIn (names59 (y.drop j)) nm = true then false else R) := by
  intro m
  induction m with
  | zero =>
    intro j hn hj
    have hd : y.drop j = [] := List.drop_eq_nil_of_le (by omega)
    rw [hd, if_neg (by simp [names59, isIn])]
    exact Ev.step (fun k => by rw [virgationref02_Symbols.l1, if_neg (by omega)]) hR
  | succ m ihm =>
    intro j hn hj
    have hjl : j < y.length := by omega
    refine Ev.step (fun k => by rw [virgationref02_Symbols.l1, if_pos (by omega), if_pos (by omega), if_pos (by omega)]) ?_
    rw [rd_T87_drop y j hjl]
    show Ev _ (if isIn ((rd_T87 y (j : Int)).f0 :: names59 (y.drop (j + 1))) nm = true then false else R)
    rw [isIn_cons]
    by_cases he : nm.toList = (rd_T87 y (j : Int)).f0.toList
    · have : ((rd_T87 y (j : Int)).f0.data.toList == nm.data.toList) = true := by rw [beq_iff_eq, ← Go.ByteArray.toList_eq, ← Go.ByteArray.toList_eq]; exact he.symm
      rw [this, Bool.true_or, if_pos rfl]
      exact Ev.ifp he (Ev.now _)
    · have : ((rd_T87 y (j : Int)).f0.data.toList == nm.data.toList) = false := by
        rw [beq_eq_false_iff_ne, ← Go.ByteArray.toList_eq, ← Go.ByteArray.toList_eq]
        exact fun h => he h.symm
      rw [this, Bool.false_or]
      refine Ev.ifn he ?_
      rw [w64 _ (by omega)]
      exact ihm (j + 1) (by omega) (by omega)
theorem sym_j1 {l : List S87} {i : Nat} {nm : ByteArray} {rk : Int} {R : Bool} (hl : l.length ≤ 24) (hi : i < l.length) (b : Bool) (hR : Ev (fun k => virgationref02_Symbols.l0 k l l (l.length : Int) (wrap64 ((i : Int) + 1))) R) :
    Ev (fun k => virgationref02_Symbols.j1 k l (i : Int) l (l.length : Int) (i : Int) b nm rk) (if (b || isIn (names59 (l.take i)) nm) = true then false else R) := by
  cases b with
  | true => exact Ev.step (fun k => by rw [virgationref02_Symbols.j1, if_pos rfl]; rfl) (Ev.now _)
  | false =>
    rw [Bool.false_or]
    refine Ev.step (fun k => by rw [virgationref02_Symbols.j1, if_neg (by simp), if_pos (by omega), if_pos (by omega)]) ?_
    simp only [Option.bind_some, Int.toNat_natCast]
    have := sym_inner (nm := nm) (rk := rk) (l.take i) (by rw [List.length_take]; omega) hR (l.take i).length 0 (by omega) (by omega)
    rw [List.drop_zero] at this
    exact this
theorem symbols_ev (l : List S87) : Ev (fun k => virgationref02_Symbols.f k l) (symsL l [] && decide (l.length ≤ 24)) := by
  unfold virgationref02_Symbols.f
  by_cases h : (l.length : Int) > 24
  · rw [decide_eq_false (by omega : ¬ l.length ≤ 24), Bool.and_false]
    exact Ev.ifp h (Ev.now _)
  · rw [decide_eq_true (by omega : l.length ≤ 24), Bool.and_true]
    refine Ev.ifn h ?_
    have loop : ∀ (m i : Nat), l.length - i = m → i ≤ l.length → Ev (fun k => virgationref02_Symbols.l0 k l l (l.length : Int) (i : Int)) (symsL (l.drop i) (names59 (l.take i))) := by
      intro m
      induction m with
      | zero =>
        intro i hn hi
        have hd : l.drop i = [] := List.drop_eq_nil_of_le (by omega)
        rw [hd]
        change Ev _ true
        exact Ev.step (fun k => by rw [virgationref02_Symbols.l0, if_neg (by omega)]) (Ev.now _)
      | succ m ihm =>
        intro i hn hi
        have hil : i < l.length := by omega
        have hR : Ev (fun k => virgationref02_Symbols.l0 k l l (l.length : Int) (wrap64 ((i : Int) + 1))) (symsL (l.drop (i + 1)) (names59 (l.take (i + 1)))) := by
          rw [w64 _ (by omega)]
          exact ihm (i + 1) (by omega) (by omega)
        refine Ev.step (fun k => by rw [virgationref02_Symbols.l0, if_pos (by omega), if_pos (by omega), if_pos (by omega)]) ?_
        refine Ev.bind (refname_ev _) ?_
        rw [rd_T87_drop l i hil]
        show Ev _ (if symBad (rd_T87 l (i : Int)) (names59 (l.take i)) = true then false else symsL (l.drop (i + 1)) (names59 (l.take i) ++ [(rd_T87 l (i : Int)).f0]))
        rw [rd_T87_take l i hil]
        unfold symBad
        cases hn1 : nameOk (rd_T87 l (i : Int)).f0
        · refine Ev.ifn (by simp) ?_
          have := sym_j1 (nm := (rd_T87 l (i : Int)).f0) (rk := (rd_T87 l (i : Int)).f1) (by omega) hil true hR
          simpa using this
        · refine Ev.ifp rfl ?_
          by_cases h0 : (rd_T87 l (i : Int)).f1 < 0
          · refine Ev.ifp h0 ?_
            have := sym_j1 (nm := (rd_T87 l (i : Int)).f0) (rk := (rd_T87 l (i : Int)).f1) (by omega) hil true hR
            simpa [h0] using this
          · refine Ev.ifn h0 ?_
            have := sym_j1 (nm := (rd_T87 l (i : Int)).f0) (rk := (rd_T87 l (i : Int)).f1) (by omega) hil (decide ((rd_T87 l (i : Int)).f1 > 4)) hR
            rw [decide_eq_false h0, Bool.not_true, Bool.false_or, Bool.false_or, Bool.or_comm]
            exact this
    exact loop l.length 0 (by omega) (by omega)
end Go.Proofs.Ytnfgpepggehegaa.I
namespace Go.Proofs.Ytnfgpepggehegaa.I
open Go.RowKit Go.Proofs.YtnfgpepggehegaaW.PrintWords Go.Proofs.YtnfgpepggehegaaW.PrintLast Go.Proofs.YtnfgpepggehegaaW.PrintMore
attribute [local go_sem] max2_int min2_int max_two min_two max_three min_three max_four min_four
set_option linter.unusedVariables false
set_option maxRecDepth 100000
set_option linter.unusedSimpArgs false
def funOk (f : S84) : Bool := nameOk f.f0 && (isok f.f1.f0 && !big f.f2)
def funsL : List S84 → List ByteArray → Bool
  | [], _ => true
  | f :: fs, L => (funOk f && !isIn L f.f0) && funsL fs (L ++ [f.f0])
def bodiesL (sy : List S87) (fu : List S53) : List S84 → Bool
  | [] => true
  | f :: fs => (match ofT sy fu f.f1.f0 f.f2 with
    | none => false
    | some s => decide (s.length = 0)) && bodiesL sy fu fs
def names46 (l : List S84) : List ByteArray := l.map (fun x => x.f0)
def schB (sy : List S87) (fs : List S84) : Bool := (symsL sy [] && decide (sy.length ≤ 24)) && ((decide (1 ≤ fs.length) && decide (fs.length ≤ 64)) && (funsL fs [] && (decide ((rd_T84 fs 0).f1.f0.length = 0) && bodiesL sy (fs.map (·.f1)) fs)))
theorem rd_T84_drop (l : List S84) (i : Nat) (h : i < l.length) : l.drop i = rd_T84 l (i : Int) :: l.drop (i + 1) := by
  unfold rd_T84
  rw [Int.toNat_natCast, List.getD_eq_getElem?_getD, List.getElem?_eq_getElem h, List.drop_eq_getElem_cons h]; rfl
theorem rd_T84_take (l : List S84) (i : Nat) (h : i < l.length) : names46 (l.take i) ++ [(rd_T84 l (i : Int)).f0] = names46 (l.take (i + 1)) := by
  unfold rd_T84 names46
  rw [Int.toNat_natCast, List.getD_eq_getElem?_getD, List.getElem?_eq_getElem h, List.take_add_one, List.getElem?_eq_getElem h, List.map_append]; rfl
theorem syms_calls {l : List S87} {w : World} {A : Option Addr} {c : Nat} (hr : Kd.C k87 w A l.length l) (hc : l.length ≤ c) :
    Calls Try.prog 54 #[.slice A l.length c] w fun e w' => e = .returned (.bool (symsL l [] && decide (l.length ≤ 24))) ∧ Below w.heap.size w w' := by
  obtain ⟨k, hk⟩ := (symbols_ev l).rounds
  exact virgationref02_Symbols.calls k A c l _ w hr hc hk
theorem name_calls (s : ByteArray) (w : World) : Calls Try.prog 55 #[.string s] w fun e w' => e = .returned (.bool (nameOk s)) ∧ Below w.heap.size w w' := by
  obtain ⟨k, hk⟩ := (refname_ev s).rounds
  refine (virgationref02_Name.calls k s _ w hk).mono ?_
  rintro e w' ⟨h1, h2⟩
  exact ⟨h1, drawn_below h2⟩
theorem isok_calls {l : List S53} {w : World} {A : Option Addr} {c : Nat} (hr : Kd.C k53 w A l.length l) (hc : l.length ≤ c) :
    Calls Try.prog 56 #[.agg #[.slice A l.length c]] w fun e w' => e = .returned (.bool (isok l)) ∧ Below w.heap.size w w' := by
  obtain ⟨k, hk⟩ := (is_ev l).rounds
  exact virgationref01_Is.calls k A c l _ w hr hc hk
theorem tnodes_calls (a b : Int) {l : List S28} {w : World} {A : Option Addr} {c : Nat} (hr : Kd.C k28 w A l.length l) (hc : l.length ≤ c) :
    Calls Try.prog 57 #[.agg #[.int .i64 a, .int .i64 b, .slice A l.length c], .int .i64 400] w fun e w' => e = .returned (.int .i64 (min (1 + tcntL l) 401)) ∧ Below w.heap.size w w' := by
  obtain ⟨k, hk⟩ := (tnodes_ev _ a b l 400 (Nat.lt_succ_self _) (by omega) (by omega)).rounds
  exact virgationref02_Nodes.calls k a b A c l 400 _ w hr hc hk
theorem tdepth_calls (a b : Int) {l : List S28} (hl : tcntL l ≤ 1000) {w : World} {A : Option Addr} {c : Nat} (hr : Kd.C k28 w A l.length l) (hc : l.length ≤ c) :
    Calls Try.prog 58 #[.agg #[.int .i64 a, .int .i64 b, .slice A l.length c]] w fun e w' => e = .returned (.int .i64 (1 + tdepL l)) ∧ Below w.heap.size w w' := by
  obtain ⟨k, hk⟩ := (tdepth_ev _ a b l (Nat.lt_succ_self _) hl).rounds
  exact virgationref02_Depth.calls k a b A c l _ w hr hc hk
theorem symsL_ranks : ∀ (l : List S87) (L : List ByteArray), symsL l L = true → ∀ x ∈ l, 0 ≤ x.f1 ∧ x.f1 ≤ 4
  | [], _, _, x, hx => by cases hx
  | y :: ys, L, h, x, hx => by
    unfold symsL at h
    split at h
    · cases h
    · rename_i hb
      rcases List.mem_cons.1 hx with e | hx
      · subst e
        unfold symBad at hb
        simp only [Bool.or_eq_true, Bool.not_eq_true', decide_eq_true_eq, not_or] at hb
        omega
      · exact symsL_ranks ys _ h x hx
theorem funsL_all : ∀ (l : List S84) (L : List ByteArray), funsL l L = true → ∀ x ∈ l, funOk x = true
  | [], _, _, x, hx => by cases hx
  | y :: ys, L, h, x, hx => by
    unfold funsL at h
    simp only [Bool.and_eq_true] at h
    rcases List.mem_cons.1 hx with e | hx
    · subst e; exact h.1.1
    · exact funsL_all ys _ h.2 x hx
theorem drop41_small {l : List S53} (h : cntL l ≤ 59) : ∀ x ∈ l, cntL x.f0 ≤ 59 := by
  induction l with
  | nil => intro x hx; cases hx
  | cons y ys ih =>
    intro x hx
    have h1 := cnt_f0 y
    have h2 := cntL_ge ys
    have h3 := cntL_ge y.f0
    simp only [cntL] at h
    rcases List.mem_cons.1 hx with e | hx
    · subst e; omega
    · exact ih (by omega) x hx
theorem small_of {sy : List S87} {fs : List S84} (h1 : symsL sy [] = true) (h2 : funsL fs [] = true) {f : S84} (hf : f ∈ fs) : SmallP sy (fs.map (·.f1)) f.f1.f0 := by
  have hk : ∀ x ∈ fs, cntL x.f1.f0 ≤ 59 := fun x hx => by
    have := funsL_all fs [] h2 x hx
    unfold funOk at this
    simp only [Bool.and_eq_true] at this
    exact isok_cnt this.2.1
  refine ⟨fun x hx => by have := symsL_ranks sy [] h1 x hx; omega, fun x hx => ?_, drop41_small (by have := hk f hf; omega)⟩
  obtain ⟨y, hy, rfl⟩ := List.mem_map.1 hx
  have := hk y hy
  omega
theorem of_calls2 (A0 : Option Addr) (c0 : Nat) (l0 : List S87) (A1 : Option Addr) (c1 nf : Nat) (l1 : List S53) (A2 : Option Addr) (c2 : Nat) (l2 : List S53) (hnf : l1.length = nf) (hsm : SmallP l0 l1 l2) (t : S28) (A3 : Option Addr) (c3 : Nat) (w : World)
    (h0 : Kd.C k87 w A0 l0.length l0) (h1 : Kd.V k53 53 w w.heap.size (fun _ => True) (.slice A1 nf c1) l1) (h2 : Kd.V k53 53 w w.heap.size (fun _ => True) (.slice A2 l2.length c2) l2) (h3 : Kd.C k28 w A3 t.f2.length t.f2) (hc3 : t.f2.length ≤ c3) :
    Calls Try.prog 59 #[.agg #[.slice A0 l0.length c0, .slice A1 nf c1, .slice A2 l2.length c2], .agg #[.int .i64 t.f0, .int .i64 t.f1, .slice A3 t.f2.length c3]] w fun e w' => ∃ Av cv, e = .returned (.tuple #[.agg #[.slice Av ((ofT l0 l1 l2 t).getD []).length cv], .bool (ofT l0 l1 l2 t).isSome]) ∧ Below w.heap.size w w' := by
  subst hnf
  have e : (⟨t.f0, t.f1, t.f2⟩ : S28) = t := by cases t; rfl
  have h := of_calls (fun _ => True) A0 c0 l0 A1 c1 l1 A2 c2 l2 hsm _ t.f2 (Nat.lt_succ_self _) t.f0 t.f1 A3 c3 w h0 h1 h2 h3 hc3
  rw [e] at h
  refine h.mono ?_
  rintro e w' ⟨v, rfl, hv, hb⟩
  obtain ⟨A, c, rfl⟩ := Kd.V_slice hv
  exact ⟨A, c, rfl, hb⟩
theorem bodiesL_drop {sy : List S87} {fu : List S53} {l : List S84} {i : Nat} (h : i < l.length) : bodiesL sy fu (l.drop i) = ((match ofT sy fu (rd_T84 l (i : Int)).f1.f0 (rd_T84 l (i : Int)).f2 with
    | none => false
    | some s => decide (s.length = 0)) && bodiesL sy fu (l.drop (i + 1))) := by rw [rd_T84_drop l i h, bodiesL]
end Go.Proofs.Ytnfgpepggehegaa.I
