/- Contract of the reference's Text, by hand. -/
import Derived.Test.YtiendnnbflooeaaVH4
namespace Go.Proofs.Ytiendnnbflooeaa.V
open Go.RowKit Go.Proofs.YtiendnnbflooeaaW.PrintWords Go.Proofs.YtiendnnbflooeaaW.PrintLast Go.Proofs.YtiendnnbflooeaaW.PrintMore
attribute [local go_sem] max2_int min2_int max_two min_two max_three min_three max_four min_four
set_option linter.unusedVariables false
set_option linter.unusedSimpArgs false

theorem ba_ext {a b : ByteArray} (h : a.data.toList = b.data.toList) : a = b := by
  cases a; cases b; simp only at h; congr; exact Array.toList_inj.1 h
theorem ba_append (a b : ByteArray) : (a ++ b).data.toList = a.data.toList ++ b.data.toList := by
  rw [ByteArray.data_append, Array.toList_append]
theorem ba_size (a : ByteArray) : a.size = a.data.toList.length := by rw [Array.length_toList]; rfl
theorem ref_text (N : Nat) : ∀ (l : List S24) (A : Option Addr) (c : Nat) (w : World) (hN : SizeOf.sizeOf l < N) (hr : Kd.C k24 w A l.length l) (hc : l.length ≤ c) (hl : (txt ⟨l⟩).length ≤ 9223372036854775807),
    Calls Try.prog 43 #[.agg #[.slice A l.length c]] w fun e w' => e = .returned (.string ⟨(txt ⟨l⟩).toArray⟩) ∧ Below w.heap.size w w' := by
  induction N with
  | zero => intro l A c w hN; omega
  | succ N ih =>
  intro l A c w hN hr hc hl
  have hu24 := Try.underlying24
  have hlen : l.length ≤ 9223372036854775807 := hr.2.1
  have HR := Aside0.mk hr
  have HC := Aside0.mk hc
  have HN := Aside0.mk hN
  have HL := Aside0.mk hl
  have IH := Aside0.mk ih
  clear hr hc hN ih hl
  go_enter Try.func43, Try.ntmps43
  go_wp2_with (
    (with_reducible refine gate_dst (N := 1) rfl ?_)
    refine box_event ?hg (N := 1) ?hd (cs := #[.slice A l.length c]) (t := 24) ?hr ?_
    (case hd => rfl)
    (case hg => rfl)
    (case hr => first | (go_simp; done) | (go_simp; rfl))
    intro gb hgb w2 hbox hb2
    have HB2 := Aside0.mk hb2
    have hcz2 : w2.cell? ⟨gb, 0, none⟩ = some (.slice A l.length c) := (blk_cell hbox 0).trans rfl
    have Hbox := Aside0.mk hbox
    clear hbox hb2 hgb)
  clear hcz2
  go_loopg [3, 9] l.length (fun kq v3 v9 wr => ∃ (i : Nat) (out : ByteArray), v3 = .string out ∧ v9 = .int .i64 (i : Int) ∧ Aside0 (kq + i = l.length) ∧ Aside0 (out.data.toList ++ txtL (l.drop i) = txtL l) ∧ Aside0 (wr.heap[gb]? = some (.cells #[.slice A l.length c] 24 (0, 0))) ∧ Aside0 (Below w.heap.size w wr))
  case atStart => exact ⟨0, ⟨#[]⟩, rfl, rfl, ⟨by omega⟩, ⟨by rw [List.drop_zero]; rfl⟩, Hbox, HB2⟩
  case round =>
    clear Hbox HB2
    obtain ⟨i, out, rfl, rfl, Hi, Hm, Hbox, HB⟩ := hrel
    have hi : i ≤ l.length := by have := Hi.out; omega
    by_cases hlt : i < l.length
    · have hdrop := Aside0.mk (rd_T24_drop l i hlt)
      have hmem := Aside0.mk (rd_T24_mem l i hlt)
      obtain ⟨ad, A1, c1, he, hx1, hl1, hi1⟩ := at_T24 HR.out (i : Int) (by omega) (by omega)
      cases he
      replace hx1 := (HB.out.cell (World.block_lt_of_cell? w _ hx1)).trans hx1
      rw [Int.toNat_natCast] at hx1
      have Hl1 := Aside0.mk hl1
      have Hi1 := Aside0.mk hi1
      clear hl1 hi1
      have p1 : (0 ≤ (i : Int)) = True := eq_true (by omega)
      have p2 : ((i : Int) < (l.length : Int)) = True := eq_true (by omega)
      have p3 : (i < l.length) = True := eq_true (by omega)
      generalize hx : rd_T24 l (i : Int) = x at *
      have Hx := Aside0.mk hx
      clear hx
      have HL2 : Aside0 ((out.data.toList ++ txtL (x :: l.drop (i + 1))).length ≤ 9223372036854775806) := ⟨by rw [← hdrop.out, Hm.out]; have := HL.out; rw [txt, List.length_append, List.length_singleton] at this; omega⟩
      have Hxe : Aside0 ((⟨x.f0⟩ : S24) = x) := ⟨by cases x; rfl⟩
      by_cases hpos : 0 < x.f0.length
      · have Htx : Aside0 (txtL (x :: l.drop (i + 1)) = [40] ++ (txt x ++ ([41] ++ ([32, 62, 32] ++ txtL (l.drop (i + 1)))))) := ⟨by rw [txtL, if_pos hpos]⟩
        rw [Htx.out] at HL2
        have hz1 : ((x.f0.length : Int) == 0) = false := beq_eq_false_iff_ne.2 (by omega)
        have hs1 : out.size + 1 ≤ 9223372036854775807 := by have := HL2.out; simp only [List.length_append, List.length_cons, List.length_nil] at this; rw [ba_size]; omega
        have Hl2 : Aside0 ((txt ⟨x.f0⟩).length ≤ 9223372036854775807) := ⟨by have := HL2.out; rw [Hxe.out]; simp only [List.length_append, List.length_cons, List.length_nil] at this; omega⟩
        go_wp2_with (
          (with_reducible refine gate_dst (N := 5) rfl ?_)
          refine box_event ?hg (N := 5) ?hd (cs := #[.slice none 0 0]) (t := 24) ?hr ?_
          (case hd => rfl)
          (case hg => rfl)
          (case hr => first | (go_simp; done) | (go_simp; rfl))
          intro gi hgi w3 hbox3 hb3
          have hsz := below_size HB.out
          have HB3 := Aside0.mk (below_set (j := 0) (v := .slice A1 x.f0.length c1) (below_step HB.out hb3) (show w.heap.size ≤ gi by omega))
          have hne4 : gb ≠ gi := by have := blk_lt Hbox.out; omega
          have Hbox3 := Aside0.mk (blk_far (p := ⟨gi, 0, none⟩) (blk_below Hbox.out hb3) hne4 (.slice A1 x.f0.length c1))
          have hci : (w3.setCell ⟨gi, 0, none⟩ (.slice A1 x.f0.length c1)).cell? ⟨gi, 0, none⟩ = some (.slice A1 x.f0.length c1) := (blk_cell (blk_set hbox3 0 (.slice A1 x.f0.length c1)) 0).trans rfl
          have hcz := (blk_cell hbox3 0).trans rfl
          have hfz := blk_frozen hbox3 0
          clear hbox3 hb3 hsz hgi HB Hbox)
        (with_reducible refine (IH.out x.f0 A1 c1 _ ?_ (Kd.C_below Hi1.out HB3.out) Hl1.out Hl2.out).mono ?_)
        · have := hmem.out; have := HN.out; omega
        rintro e w4 ⟨rfl, hB4⟩
        have HB := Aside0.mk (below_step HB3.out hB4)
        have Hbox := Aside0.mk (blk_below Hbox3.out hB4)
        clear hB4 HB3 Hbox3 hci hcz hfz
        generalize ht : (⟨(txt ⟨x.f0⟩).toArray⟩ : ByteArray) = t
        have Ht : Aside0 (t.data.toList = txt x) := ⟨by rw [← ht, Hxe.out]⟩
        clear ht
        have hs2 : out.size + 1 + t.size ≤ 9223372036854775807 := by have := HL2.out; rw [ba_size t, Ht.out]; simp only [List.length_append, List.length_cons, List.length_nil] at this; rw [ba_size out]; omega
        have hs3 : out.size + 1 + t.size + 4 ≤ 9223372036854775807 := by have := HL2.out; rw [ba_size t, Ht.out]; simp only [List.length_append, List.length_cons, List.length_nil] at this; rw [ba_size out]; omega
        go_wp2_with fail
        have hk := Hi.out
        obtain ⟨k1, rfl⟩ : ∃ k1, gk = k1 + 1 := ⟨gk - 1, by omega⟩
        go_roundg k1
        case measure => omega
        case rel => exact ⟨i + 1, _, rfl, by go_num, ⟨by omega⟩, ⟨by rw [← Hm.out, hdrop.out, Htx.out]; simp only [ba_append, Ht.out]; simp⟩, Hbox, HB⟩
      · have hz : x.f0.length = 0 := by omega
        have htx0 : txt x = [111] := by rw [← Hxe.out, txt]; rw [List.length_eq_zero_iff.1 hz]; rfl
        have Htx : Aside0 (txtL (x :: l.drop (i + 1)) = [111] ++ ([32, 62, 32] ++ txtL (l.drop (i + 1)))) := ⟨by rw [txtL, if_neg hpos, htx0]⟩
        rw [Htx.out] at HL2
        have hz1 : ((x.f0.length : Int) == 0) = true := beq_iff_eq.2 (by omega)
        have hs1 : out.size + 4 ≤ 9223372036854775807 := by have := HL2.out; simp only [List.length_append, List.length_cons, List.length_nil] at this; rw [ba_size]; omega
        have Hz := Aside0.mk hz
        clear hz htx0
        go_wp2_with (
          (with_reducible refine gate_dst (N := 5) rfl ?_)
          refine box_event ?hg (N := 5) ?hd (cs := #[.slice none 0 0]) (t := 24) ?hr ?_
          (case hd => rfl)
          (case hg => rfl)
          (case hr => first | (go_simp; done) | (go_simp; rfl))
          intro gi hgi w3 hbox3 hb3
          have hsz := below_size HB.out
          have HB3 := Aside0.mk (below_set (j := 0) (v := .slice A1 x.f0.length c1) (below_step HB.out hb3) (show w.heap.size ≤ gi by omega))
          have hne4 : gb ≠ gi := by have := blk_lt Hbox.out; omega
          have Hbox3 := Aside0.mk (blk_far (p := ⟨gi, 0, none⟩) (blk_below Hbox.out hb3) hne4 (.slice A1 x.f0.length c1))
          have hci : (w3.setCell ⟨gi, 0, none⟩ (.slice A1 x.f0.length c1)).cell? ⟨gi, 0, none⟩ = some (.slice A1 x.f0.length c1) := (blk_cell (blk_set hbox3 0 (.slice A1 x.f0.length c1)) 0).trans rfl
          have hcz := (blk_cell hbox3 0).trans rfl
          have hfz := blk_frozen hbox3 0
          clear hbox3 hb3 hsz hgi HB Hbox)
        have hk := Hi.out
        obtain ⟨k1, rfl⟩ : ∃ k1, gk = k1 + 1 := ⟨gk - 1, by omega⟩
        go_roundg k1
        case measure => omega
        case rel => exact ⟨i + 1, _, rfl, by go_num, ⟨by omega⟩, ⟨by rw [← Hm.out, hdrop.out, Htx.out]; simp only [ba_append]; simp⟩, Hbox3, HB3⟩
    · have hie : i = l.length := by omega
      have Hd : Aside0 (out.data.toList = txtL l) := ⟨by rw [← Hm.out, hie, List.drop_length, txtL, List.append_nil]⟩
      clear hie
      have hs1 : out.size + 1 ≤ 9223372036854775807 := by have := HL.out; rw [txt, List.length_append, List.length_singleton, ← Hd.out] at this; rw [ba_size]; omega
      go_wp2_with fail
      go_ret
      exact ⟨by rw [show (⟨(txt ⟨l⟩).toArray⟩ : ByteArray) = out ++ ⟨#[111]⟩ from ba_ext (by rw [ba_append, Hd.out, txt])]; rfl, HB.out⟩
/-! ### virgationref01_Text: function 43 -/
def virgationref01_Text.f (l0_0 : List S24) : Option ByteArray := if (txt ⟨l0_0⟩).length ≤ 9223372036854775807 then some ⟨(txt ⟨l0_0⟩).toArray⟩ else none
theorem virgationref01_Text.calls (A0_0 : Option Addr) (c0_0 : Nat) (l0_0 : List S24) (r : ByteArray) (w : World) (hr0_0 : Kd.C k24 w A0_0 l0_0.length l0_0) (hc0_0 : l0_0.length ≤ c0_0) (h : virgationref01_Text.f l0_0 = some r) :
    Calls Try.prog 43 #[.agg #[.slice A0_0 l0_0.length c0_0]] w fun e w' => e = .returned (.string r) ∧ Below w.heap.size w w' := by
  unfold virgationref01_Text.f at h
  by_cases hl : (txt ⟨l0_0⟩).length ≤ 9223372036854775807
  · rw [if_pos hl] at h
    injection h with h
    subst h
    exact ref_text _ l0_0 A0_0 c0_0 w (Nat.lt_succ_self _) hr0_0 hc0_0 hl
  · rw [if_neg hl] at h
    cases h
end Go.Proofs.Ytiendnnbflooeaa.V
