/- Contracts of term.measure and term.Size by hand. -/
import Derived.Test.YtfhgoebgnilfaaaIH1
namespace Go.Proofs.Ytfhgoebgnilfaaa.I
open Go.RowKit Go.Proofs.YtfhgoebgnilfaaaW.PrintWords Go.Proofs.YtfhgoebgnilfaaaW.PrintLast Go.Proofs.YtfhgoebgnilfaaaW.PrintMore
attribute [local go_sem] max2_int min2_int max_two min_two max_three min_three max_four min_four
set_option linter.unusedVariables false
set_option maxRecDepth 100000
set_option linter.unusedSimpArgs false

mutual
/-- What measure answers, and what it leaves. -/
def tmeas : S44 → Int → Int × Int
  | ⟨_, _, l⟩, left => tmeasL l (left - 1) 0
def tmeasL : List S44 → Int → Int → Int × Int
  | [], left, d => (d + 1, left)
  | x :: xs, left, d => if left < 0 then (0, left) else tmeasL xs (tmeas x left).2 (mx d (tmeas x left).1)
end
mutual
theorem tmeas_bd : ∀ (x : S44) (left : Int), 0 ≤ left → -1 ≤ (tmeas x left).2 ∧ (tmeas x left).2 ≤ left - 1 ∧ 0 ≤ (tmeas x left).1 ∧ (tmeas x left).1 + (tmeas x left).2 ≤ left
  | ⟨_, _, l⟩, left, h => by
    have := tmeasL_bd l (left - 1) 0 (by omega) (by omega)
    unfold tmeas
    omega
theorem tmeasL_bd : ∀ (l : List S44) (left d : Int), -1 ≤ left → 0 ≤ d → -1 ≤ (tmeasL l left d).2 ∧ (tmeasL l left d).2 ≤ left ∧ 0 ≤ (tmeasL l left d).1 ∧ (tmeasL l left d).1 + (tmeasL l left d).2 ≤ d + left + 1
  | [], left, d, h, hd => by unfold tmeasL; simp only; omega
  | x :: xs, left, d, h, hd => by
    unfold tmeasL
    split
    · simp only; omega
    · have h1 := tmeas_bd x left (by omega)
      have h2 := mx_ge d (tmeas x left).1
      have h3 := tmeasL_bd xs (tmeas x left).2 (mx d (tmeas x left).1) (by omega) (by omega)
      omega
end
theorem rd_T44_drop (l : List S44) (i : Nat) (h : i < l.length) : l.drop i = rd_T44 l (i : Int) :: l.drop (i + 1) := by
  rw [List.drop_eq_getElem_cons h]
  simp [rd_T44, List.getD_eq_getElem?_getD, List.getElem?_eq_getElem h]
theorem rd_T44_mem (l : List S44) (i : Nat) (h : i < l.length) : SizeOf.sizeOf (rd_T44 l (i : Int)).f2 < SizeOf.sizeOf l := by
  have hm : rd_T44 l (i : Int) ∈ l := by
    simp [rd_T44, List.getD_eq_getElem?_getD, List.getElem?_eq_getElem h]
  have h1 := List.sizeOf_lt_of_mem hm
  have h2 : SizeOf.sizeOf (rd_T44 l (i : Int)).f2 < SizeOf.sizeOf (rd_T44 l (i : Int)) := by
    cases rd_T44 l (i : Int); simp; omega
  omega

/-- All blocks but g, and the new ones, are as they were. -/
theorem tmeasure_calls (N : Nat) : ∀ (p q : Int) (l : List S44) (A : Option Addr) (c g : Nat) (left : Int) (w0 w : World) (hN : SizeOf.sizeOf l < N) (hr : Kd.C k44 w0 A l.length l) (hc : l.length ≤ c) (hB : Below w0.heap.size w0 w) (hg : w0.heap.size ≤ g)
    (hb : w.heap[g]? = some (.cells #[.int .i64 left] 3 (0, 0))) (hl : 0 ≤ left) (hl2 : left ≤ 100000000),
    Calls Try.prog 57 #[.agg #[.int .i64 p, .int .i64 q, .slice A l.length c], .pointer (some ⟨g, 0, none⟩)] w fun e w' => e = .returned (.int .i64 (tmeas ⟨p, q, l⟩ left).1) ∧ Below w0.heap.size w0 w' ∧ KeepBut w w' g none ∧ w'.heap[g]? = some (.cells #[.int .i64 (tmeas ⟨p, q, l⟩ left).2] 3 (0, 0)) := by
  induction N with
  | zero => intro p q l A c g left w0 w hN; omega
  | succ N ih =>
  intro p q l A c g left w0 w hN hr hc hB hg hb hl hl2
  have hu44 := Try.underlying44
  have hlen : l.length ≤ 9223372036854775807 := hr.2.1
  have HR := Aside0.mk hr
  have HC := Aside0.mk hc
  have HB := Aside0.mk hB
  have HG := Aside0.mk hg
  have HN := Aside0.mk hN
  have Hb := Aside0.mk hb
  have hgl := blk_lt hb
  have IH := Aside0.mk ih
  clear hr hc hB hN hb hg ih
  go_enter Try.func57, Try.ntmps57
  go_wp2_with (
    (with_reducible refine gate_dst (N := 2) rfl ?_)
    refine box_event ?hg (N := 2) ?hd (cs := #[.int .i64 p, .int .i64 q, .slice A l.length c]) (t := 44) ?hr ?_
    (case hd => rfl)
    (case hg => rfl)
    (case hr => first | (go_simp; done) | (go_simp; rfl))
    intro gb hgb w2 hbox hb2
    have HB2 := Aside0.mk (below_step HB.out hb2)
    have Hb2 := Aside0.mk (blk_below Hb.out hb2)
    have HK2 := Aside0.mk (KeepBut.of_below hb2 g none)
    have hne : g ≠ gb := by omega
    have hGW : w.heap.size ≤ gb := by omega
    have hczg : w2.cell? ⟨g, 0, none⟩ = some (.int .i64 left) := (blk_cell Hb2.out 0).trans rfl
    have hfzg := blk_frozen Hb2.out 0
    have Hbox := Aside0.mk hbox
    have hcz3 : (w2.setCell ⟨g, 0, none⟩ (.int .i64 (left - 1))).cell? ⟨gb, 2, none⟩ = some (.slice A l.length c) := (blk_cell (blk_far hbox (p := ⟨g, 0, none⟩) (Ne.symm hne) _) 2).trans rfl
    clear hbox hb2 hgb HB Hb)
  clear hcz3 hczg hfzg
  go_loopg [5, 16] l.length (fun kq v5 v16 wr => ∃ (i : Nat) (d lf : Int), v5 = .int .i64 d ∧ v16 = .int .i64 (i : Int) ∧ Aside0 (kq + i = l.length) ∧ Aside0 (tmeasL (l.drop i) lf d = tmeas ⟨p, q, l⟩ left) ∧ Aside0 (0 ≤ d ∧ d + lf ≤ left - 1 ∧ -1 ≤ lf ∧ lf ≤ left - 1) ∧ Aside0 (wr.heap[g]? = some (.cells #[.int .i64 lf] 3 (0, 0))) ∧ Aside0 (wr.heap[gb]? = some (.cells #[.int .i64 p, .int .i64 q, .slice A l.length c] 44 (0, 0))) ∧ Aside0 (Below w0.heap.size w0 wr) ∧ Aside0 (KeepBut w wr g none))
  case atStart => exact ⟨0, 0, left - 1, rfl, rfl, ⟨by omega⟩, ⟨by rw [List.drop_zero, tmeas]⟩, ⟨by omega⟩, ⟨by have := blk_set Hb2.out 0 (.int .i64 (left - 1)); simpa using this⟩, ⟨blk_far Hbox.out (p := ⟨g, 0, none⟩) (Ne.symm hne) _⟩, ⟨below_set HB2.out HG.out⟩, ⟨KeepBut.set_ HK2.out 0 _⟩⟩
  case round =>
    clear Hb2 Hbox HB2 HK2
    obtain ⟨i, d, lf, rfl, rfl, Hi, Hm, Hd, Hb, Hbox, HB, HK⟩ := hrel
    have hi : i ≤ l.length := by have := Hi.out; omega
    obtain ⟨hd0, hd1, hd2, hd3⟩ := Hd.out
    by_cases hlt : i < l.length
    · have hdrop := Aside0.mk (rd_T44_drop l i hlt)
      have hmem := Aside0.mk (rd_T44_mem l i hlt)
      obtain ⟨ad, A1, c1, he, hx1, hx2, hx3, hl1, hi1⟩ := at_T44 HR.out (i : Int) (by omega) (by omega)
      cases he
      replace hx1 := (HB.out.cell (World.block_lt_of_cell? w0 _ hx1)).trans hx1
      rw [Int.toNat_natCast] at hx1
      replace hx2 := (HB.out.cell (World.block_lt_of_cell? w0 _ hx2)).trans hx2
      rw [Int.toNat_natCast] at hx2
      replace hx3 := (HB.out.cell (World.block_lt_of_cell? w0 _ hx3)).trans hx3
      rw [Int.toNat_natCast] at hx3
      have Hl1 := Aside0.mk hl1
      have Hi1 := Aside0.mk hi1
      clear hl1 hi1
      have hczg : wr.cell? ⟨g, 0, none⟩ = some (.int .i64 lf) := (blk_cell Hb.out 0).trans rfl
      have hfzg := blk_frozen Hb.out 0
      have p1 : (0 ≤ (i : Int)) = True := eq_true (by omega)
      have p2 : ((i : Int) < (l.length : Int)) = True := eq_true (by omega)
      have p3 : (i < l.length) = True := eq_true (by omega)
      generalize hx : rd_T44 l (i : Int) = x at *
      have Hx := Aside0.mk hx
      clear hx
      go_wp2_with (
        (with_reducible refine gate_dst (N := 7) rfl ?_)
        refine box_event ?hg (N := 7) ?hd (cs := #[.int .i64 0, .int .i64 0, .slice none 0 0]) (t := 44) ?hr ?_
        (case hd => rfl)
        (case hg => rfl)
        (case hr => first | (go_simp; done) | (go_simp; rfl))
        intro gi hgi w3 hbox3 hb3
        have hsz := below_size HB.out
        have hkz := keep_size HK.out
        have hgiw : w0.heap.size ≤ gi := by omega
        have hgiw2 : w.heap.size ≤ gi := by omega
        have HB3 := Aside0.mk (below_set (g := gi) (j := 2) (v := .slice A1 x.f2.length c1) (below_set (g := gi) (j := 1) (v := .int .i64 x.f1) (below_set (g := gi) (j := 0) (v := .int .i64 x.f0) (below_step HB.out hb3) hgiw) hgiw) hgiw)
        have hgl2 := blk_lt Hb.out
        have hne3 : g ≠ gi := by omega
        have hne4 : gb ≠ gi := by have := blk_lt Hbox.out; omega
        have Hb3 := Aside0.mk (blk_far (p := ⟨gi, 2, none⟩) (blk_far (p := ⟨gi, 1, none⟩) (blk_far (p := ⟨gi, 0, none⟩) (blk_below Hb.out hb3) hne3 (.int .i64 x.f0)) hne3 (.int .i64 x.f1)) hne3 (.slice A1 x.f2.length c1))
        have Hbox3 := Aside0.mk (blk_far (p := ⟨gi, 2, none⟩) (blk_far (p := ⟨gi, 1, none⟩) (blk_far (p := ⟨gi, 0, none⟩) (blk_below Hbox.out hb3) hne4 (.int .i64 x.f0)) hne4 (.int .i64 x.f1)) hne4 (.slice A1 x.f2.length c1))
        have HK3 := Aside0.mk (keep_far (p := ⟨gi, 2, none⟩) (keep_far (p := ⟨gi, 1, none⟩) (keep_far (p := ⟨gi, 0, none⟩) (KeepBut.trans HK.out (KeepBut.of_below hb3 g none) (.inl rfl)) hgiw2 (.int .i64 x.f0)) hgiw2 (.int .i64 x.f1)) hgiw2 (.slice A1 x.f2.length c1))
        have Hgi := Aside0.mk (blk_put (cs' := #[.int .i64 x.f0, .int .i64 x.f1, .slice A1 x.f2.length c1]) (blk_put (cs' := #[.int .i64 x.f0, .int .i64 x.f1, .slice none 0 0]) (blk_put (cs' := #[.int .i64 x.f0, .int .i64 0, .slice none 0 0]) hbox3 0 (.int .i64 x.f0) rfl) 1 (.int .i64 x.f1) rfl) 2 (.slice A1 x.f2.length c1) rfl)
        have hci0 : (((w3.setCell ⟨gi, 0, none⟩ (.int .i64 x.f0)).setCell ⟨gi, 1, none⟩ (.int .i64 x.f1)).setCell ⟨gi, 2, none⟩ (.slice A1 x.f2.length c1)).cell? ⟨gi, 0, none⟩ = some (.int .i64 x.f0) := (blk_cell Hgi.out 0).trans rfl
        have hci1 : (((w3.setCell ⟨gi, 0, none⟩ (.int .i64 x.f0)).setCell ⟨gi, 1, none⟩ (.int .i64 x.f1)).setCell ⟨gi, 2, none⟩ (.slice A1 x.f2.length c1)).cell? ⟨gi, 1, none⟩ = some (.int .i64 x.f1) := (blk_cell Hgi.out 1).trans rfl
        have hci2 : (((w3.setCell ⟨gi, 0, none⟩ (.int .i64 x.f0)).setCell ⟨gi, 1, none⟩ (.int .i64 x.f1)).setCell ⟨gi, 2, none⟩ (.slice A1 x.f2.length c1)).cell? ⟨gi, 2, none⟩ = some (.slice A1 x.f2.length c1) := (blk_cell Hgi.out 2).trans rfl
        have hcz0 := (blk_cell hbox3 0).trans rfl
        have hcz1 := (blk_cell hbox3 1).trans rfl
        have hcz2 := (blk_cell hbox3 2).trans rfl
        have hfz0 := blk_frozen hbox3 0
        have hfz1 := blk_frozen hbox3 1
        have hfz2 := blk_frozen hbox3 2
        have hczg : (((w3.setCell ⟨gi, 0, none⟩ (.int .i64 x.f0)).setCell ⟨gi, 1, none⟩ (.int .i64 x.f1)).setCell ⟨gi, 2, none⟩ (.slice A1 x.f2.length c1)).cell? ⟨g, 0, none⟩ = some (.int .i64 lf) := (blk_cell Hb3.out 0).trans rfl
        clear hbox3 hb3 hsz hkz hgi hgl2 HB HK Hb Hbox)
      · have hneg : lf < 0 := by assumption
        go_ret
        have e1 : tmeas ⟨p, q, l⟩ left = (0, lf) := by rw [← Hm.out, hdrop.out, tmeasL, if_pos hneg]
        rw [e1]
        exact ⟨rfl, HB3.out, HK3.out, Hb3.out⟩
      · have hneg : 0 ≤ lf := by first | assumption | omega
        have hbd := Aside0.mk (tmeas_bd x lf hneg)
        have hxe : x = ⟨x.f0, x.f1, x.f2⟩ := by cases x; rfl
        have Hxe := Aside0.mk hxe
        clear hxe
        (with_reducible refine (IH.out x.f0 x.f1 x.f2 A1 c1 g lf w0 _ ?_ Hi1.out Hl1.out HB3.out HG.out Hb3.out ?_ ?_).mono ?_)
        · have := hmem.out; have := HN.out; omega
        · omega
        · omega
        rintro e w4 ⟨rfl, hB4, hK4, hb4⟩
        rw [← Hxe.out] at hb4 ⊢
        have HB := Aside0.mk hB4
        have HK := Aside0.mk (KeepBut.trans HK3.out hK4 (.inl rfl))
        have Hb := Aside0.mk hb4
        have Hbox := Aside0.mk (KeepBut.blk hK4 Hbox3.out (Ne.symm hne) (by simp))
        clear hB4 hK4 hb4 HB3 HK3 Hb3 Hbox3
        have hmx : (if d < (tmeas x lf).1 then (tmeas x lf).1 else d) = mx d (tmeas x lf).1 := rfl
        go_wp2_with fail
        clear hmx
        have hk := Hi.out
        obtain ⟨k1, rfl⟩ : ∃ k1, gk = k1 + 1 := ⟨gk - 1, by omega⟩
        go_roundg k1
        case measure => omega
        case rel =>
          have hmx := mx_ge d (tmeas x lf).1
          have hb1 := hbd.out
          refine ⟨i + 1, mx d (tmeas x lf).1, (tmeas x lf).2, rfl, by go_num, ⟨by omega⟩, ⟨?_⟩, ⟨by clear hczg; omega⟩, Hb, Hbox, HB, HK⟩
          rw [← Hm.out, hdrop.out, tmeasL, if_neg (by omega)]
    · have hie : i = l.length := by omega
      go_wp2_with fail
      go_ret
      have e1 : tmeas ⟨p, q, l⟩ left = (d + 1, lf) := by rw [← Hm.out, hie, List.drop_length, tmeasL]
      rw [e1]
      exact ⟨rfl, HB.out, HK.out, Hb.out⟩

/-! ### term_Size: function 29 -/
def term_Size.f (a0_0 a0_1 : Int) (l0_2 : List S44) : Option (Int × Int) := some (if (tmeas ⟨a0_0, a0_1, l0_2⟩ 100000).2 < 0 then (100001, 0) else (100000 - (tmeas ⟨a0_0, a0_1, l0_2⟩ 100000).2, (tmeas ⟨a0_0, a0_1, l0_2⟩ 100000).1))
theorem term_Size.calls (a0_0 a0_1 : Int) (A0_2 : Option Addr) (c0_2 : Nat) (l0_2 : List S44) (r1 r2 : Int) (w : World) (hr0_2 : Kd.C k44 w A0_2 l0_2.length l0_2) (hc0_2 : l0_2.length ≤ c0_2) (h : term_Size.f a0_0 a0_1 l0_2 = some (r1, r2)) :
    Calls Try.prog 29 #[.agg #[.int .i64 a0_0, .int .i64 a0_1, .slice A0_2 l0_2.length c0_2]] w fun e w' => e = .returned (.tuple #[.int .i64 r1, .int .i64 r2]) ∧ Below w.heap.size w w' := by
  have hu44 := Try.underlying44
  have HR := Aside0.mk hr0_2
  have HC := Aside0.mk hc0_2
  have hbd := Aside0.mk (tmeas_bd ⟨a0_0, a0_1, l0_2⟩ 100000 (by omega))
  have Hh := Aside0.mk h
  clear h hr0_2 hc0_2
  go_enter Try.func29, Try.ntmps29
  go_wp2_with (first
   | ((with_reducible refine gate_dst (N := 1) rfl ?_)
      refine box_event ?hg (N := 1) ?hd (cs := #[.int .i64 a0_0, .int .i64 a0_1, .slice A0_2 l0_2.length c0_2]) (t := 44) ?hr ?_
      (case hd => rfl)
      (case hg => rfl)
      (case hr => first | (go_simp; done) | (go_simp; rfl))
      intro gb hgb w2 hbox hb2
      have HB2 := Aside0.mk hb2
      have Hgb := Aside0.mk hgb
      have Hbox := Aside0.mk hbox
      have hne0 := blk_lt hbox
      clear hbox hb2 hgb)
   | ((with_reducible refine gate_dst (N := 4) rfl ?_)
      refine box_event ?hg (N := 4) ?hd (cs := #[.int .i64 0]) (t := 3) ?hr ?_
      (case hd => rfl)
      (case hg => rfl)
      (case hr => first | (go_simp; done) | (go_simp; rfl))
      intro g hg w3 hb hb3
      have hsz := HB2.out.size
      have HG := Aside0.mk (show w.heap.size ≤ g by omega)
      have HB3 := Aside0.mk (below_set (j := 0) (v := .int .i64 100000) (below_step HB2.out hb3) HG.out)
      have hne : gb ≠ g := by omega
      have Hbox3 := Aside0.mk (blk_far (p := ⟨g, 0, none⟩) (blk_below Hbox.out hb3) hne (.int .i64 100000))
      have Hb3 := Aside0.mk (blk_put (cs' := #[.int .i64 100000]) hb 0 (.int .i64 100000) rfl)
      have hcz := (blk_cell hb 0).trans rfl
      have hfz := blk_frozen hb 0
      have hcb0 : (w3.setCell ⟨g, 0, none⟩ (.int .i64 100000)).cell? ⟨gb, 0, none⟩ = some (.int .i64 a0_0) := (blk_cell Hbox3.out 0).trans rfl
      have hcb1 : (w3.setCell ⟨g, 0, none⟩ (.int .i64 100000)).cell? ⟨gb, 1, none⟩ = some (.int .i64 a0_1) := (blk_cell Hbox3.out 1).trans rfl
      have hcb2 : (w3.setCell ⟨g, 0, none⟩ (.int .i64 100000)).cell? ⟨gb, 2, none⟩ = some (.slice A0_2 l0_2.length c0_2) := (blk_cell Hbox3.out 2).trans rfl
      clear hb hb3 hg))
  (with_reducible refine (tmeasure_calls (SizeOf.sizeOf l0_2 + 1) a0_0 a0_1 l0_2 A0_2 c0_2 g 100000 w _ (by omega) HR.out HC.out HB3.out HG.out Hb3.out (by omega) (by omega)).mono ?_)
  rintro e w4 ⟨rfl, hB4, hK4, hb4⟩
  have HB := Aside0.mk hB4
  have hcg : w4.cell? ⟨g, 0, none⟩ = some (.int .i64 (tmeas ⟨a0_0, a0_1, l0_2⟩ 100000).2) := (blk_cell hb4 0).trans rfl
  clear hB4 hK4 hb4 hcb0 hcb1 hcb2
  have hb1 := hbd.out.1
  have hb2 := hbd.out.2.1
  by_cases hneg : (tmeas ⟨a0_0, a0_1, l0_2⟩ 100000).2 < 0
  · have e1 := Hh.out
    simp only [term_Size.f, if_pos hneg, Option.some.injEq, Prod.mk.injEq] at e1
    obtain ⟨rfl, rfl⟩ := e1
    go_wp2_with fail
    go_ret2
    exact ⟨rfl, HB.out⟩
  · have e1 := Hh.out
    simp only [term_Size.f, if_neg hneg, Option.some.injEq, Prod.mk.injEq] at e1
    obtain ⟨rfl, rfl⟩ := e1
    go_wp2_with fail
    go_ret2
    exact ⟨rfl, HB.out⟩
end Go.Proofs.Ytfhgoebgnilfaaa.I
