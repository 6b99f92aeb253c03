/- Texts of this session's proof, laid together: IMt, IMtF. -/
import Derived.Test.YtkgknidogelffaaQ1
namespace Go.Proofs.Ytkgknidogelffaa.I
open Go.RowKit Go.Proofs.YtkgknidogelffaaW.PrintWords Go.Proofs.YtkgknidogelffaaW.PrintLast Go.Proofs.YtkgknidogelffaaW.PrintMore
attribute [local go_sem] max2_int min2_int max_two min_two max_three min_three max_four min_four
set_option linter.unusedVariables false
set_option maxRecDepth 100000
set_option linter.unusedSimpArgs false
theorem R_block {α : Type} {d : Kd α} {e : TypeId} {w : World} {B n c g : Nat} {ok : Nat → Prop} {xs : List α} (h : Kd.R d e w B ok (.slice (some ⟨g, 0, none⟩) n c) xs) (hp : 0 < xs.length) : B ≤ g ∧ ∃ cs, w.heap[g]? = some (.cells cs e (0, 0)) ∧ xs.length * d.sz ≤ cs.size := by
  obtain ⟨_, inner, h1, h2, _⟩ := h
  rcases h1.2 with ⟨hv, _⟩ | ⟨g', cap, cur, hv, hb, hg, hc, _, hs, ht⟩
  · cases hv
  · injection hv with hv _ _
    injection hv with hv
    injection hv with hv _ _
    subst hv
    refine ⟨hb, cur, hg, ?_⟩
    have := congrArg List.length ht
    rw [List.length_take] at this
    simp at this
    omega
theorem path_blk {w : World} {B n c : Nat} {A : Option Addr} {xs : List Int} (h : Kd.R (Kd.int .i64) 3 w B (fun _ => True) (.slice A n c) xs) (hn : n = xs.length) : ∃ gp, 0 < n → A = some ⟨gp, 0, none⟩ ∧ B ≤ gp ∧ ∃ cs : Array Value, w.heap[gp]? = some (.cells cs 3 (0, 0)) ∧ ∀ q, q < n → ∃ z, cs[q]? = some (.int .i64 z) := by
  have h1 := R_own h
  rcases h1.2 with ⟨hv, h0⟩ | ⟨g, cap, cur, hv, hb, hg, hc, _, hs, ht⟩
  · exact ⟨0, fun hp => by omega⟩
  · injection hv with hv _ _
    refine ⟨g, fun hp => ⟨hv, hb, cur, hg, fun q hq => ?_⟩⟩
    have hq2 : q < xs.length := by omega
    have e : (cur.toList.take (xs.length * 1))[q]? = some (.int .i64 xs[q]) := by
      rw [ht, List.getElem?_map, List.getElem?_eq_getElem hq2]
      rfl
    rw [List.getElem?_take, if_pos (by omega)] at e
    exact ⟨xs[q], by rw [← e]; simp⟩
theorem two_kid0 {w : World} {lo gm gu : Nat} {l0 : List S84} {l1 : List S41} {s u : MS} {e : Int} (hM : Ms w lo (l1.map ownF) [(gm, s), (gu, u)]) (hg : Good l0 l1 s) {j : Int} (he : kidE s j = e) :
    Calls Try.prog 14 #[.pointer (some ⟨gm, 0, none⟩), .int .i64 j] w fun x w' => x = .returned (.int .i64 e) ∧ Ms w' lo (l1.map ownF) [(gm, kidS s j), (gu, u)] ∧ Below lo w w' :=
  ms_kid (l0 := l0) (l1 := l1) (L := [(gm, s), (gu, u)]) (i := 0) hM (show _ < 2 from by decide) hg j e _ he rfl
theorem two_kid1 {w : World} {lo gm gu : Nat} {l0 : List S84} {l1 : List S41} {s u : MS} {e : Int} (hM : Ms w lo (l1.map ownF) [(gm, s), (gu, u)]) (hg : Good l0 l1 u) {j : Int} (he : kidE u j = e) :
    Calls Try.prog 14 #[.pointer (some ⟨gu, 0, none⟩), .int .i64 j] w fun x w' => x = .returned (.int .i64 e) ∧ Ms w' lo (l1.map ownF) [(gm, s), (gu, kidS u j)] ∧ Below lo w w' :=
  ms_kid (l0 := l0) (l1 := l1) (L := [(gm, s), (gu, u)]) (i := 1) hM (show _ < 2 from by decide) hg j e _ he rfl
structure Scl (w : World) (N : Nat) (A0 : Option Addr) (c0 : Nat) (l0 : List S84) (A1 : Option Addr) (c1 : Nat) (l1 : List S41) : Prop where
  v0 : Kd.V k84 84 w 0 (fun k => k < N) (.slice A0 l0.length c0) l0
  v1 : Kd.V k41 41 w 0 (fun k => k < N) (.slice A1 l1.length c1) l1
theorem Scl.below {w w' : World} {N : Nat} {A0 : Option Addr} {c0 : Nat} {l0 : List S84} {A1 : Option Addr} {c1 : Nat} {l1 : List S41} (h : Scl w N A0 c0 l0 A1 c1 l1) (hb : Below N w w') : Scl w' N A0 c0 l0 A1 c1 l1 :=
  ⟨Kd.V_step h.v0 (fun k hk _ => hb.block k hk), Kd.V_step h.v1 (fun k hk _ => hb.block k hk)⟩
theorem Scl.sch {w : World} {N : Nat} {A0 : Option Addr} {c0 : Nat} {l0 : List S84} {A1 : Option Addr} {c1 : Nat} {l1 : List S41} (h : Scl w N A0 c0 l0 A1 c1 l1) : Sch w A0 c0 l0 A1 c1 l1 :=
  ⟨(Kd.V_reads' h.v0).2.2, (Kd.V_reads' h.v0).2.1, (Kd.V_reads' h.v1).2.2, (Kd.V_reads' h.v1).2.1⟩
theorem Sch.scl {w : World} {A0 : Option Addr} {c0 : Nat} {l0 : List S84} {A1 : Option Addr} {c1 : Nat} {l1 : List S41} (h : Sch w A0 c0 l0 A1 c1 l1) : Scl w w.heap.size A0 c0 l0 A1 c1 l1 :=
  ⟨Kd.V_mk h.h0 (Kd.C_F k84_heap h.r0), Kd.V_mk h.h1 (Kd.C_F k41_heap h.r1)⟩
theorem Scl.up {w : World} {N M : Nat} {A0 : Option Addr} {c0 : Nat} {l0 : List S84} {A1 : Option Addr} {c1 : Nat} {l1 : List S41} (h : Scl w N A0 c0 l0 A1 c1 l1) (hm : N ≤ M) : Scl w M A0 c0 l0 A1 c1 l1 :=
  ⟨Kd.V_mono h.v0 (fun k hk => by omega), Kd.V_mono h.v1 (fun k hk => by omega)⟩
set_option maxHeartbeats 16000000 in
theorem own_calls (A0 : Option Addr) (c0 : Nat) (l0 : List S84) (A1 : Option Addr) (c1 : Nat) (l1 : List S41) (A2 : Option Addr) (c2 : Nat) (l2 : List Int) (a : Int) (w : World) (hr0 : Kd.C k84 w A0 l0.length l0) (hc0 : l0.length ≤ c0) (hr1 : Kd.C k41 w A1 l1.length l1) (hc1 : l1.length ≤ c1) (hr2 : Kd.C (Kd.int .i64) w A2 l2.length l2) (hc2 : l2.length ≤ c2) :
    Calls Try.prog 3 #[.agg #[.slice A0 l0.length c0, .slice A1 l1.length c1], .slice A2 l2.length c2, .int .i64 a] w fun e w' => e = .returned (.bool true) ∧ Below w.heap.size w w' := by
  have hu25 := Try.underlying25
  have hu41 := Try.underlying41
  have hu36 := Try.underlying36
  have hu23 := Try.underlying23
  have hl2 : l2.length ≤ 9223372036854775807 := hr2.2.1
  have HSC := Az.mk (show Sch w A0 c0 l0 A1 c1 l1 from ⟨hr0, hc0, hr1, hc1⟩)
  have HR2 := Az.mk hr2
  clear hr0 hr1 hr2 hc0 hc1 hc2
  by_cases hgd : schB l0 l1 = false ∨ a < 0 ∨ 100 < a ∨ 10 < l2.length
  · rcases (show schB l0 l1 = false ∨ (schB l0 l1 = true ∧ (a < 0) = True) ∨ (schB l0 l1 = true ∧ (a < 0) = False ∧ (100 < a) = True) ∨ (schB l0 l1 = true ∧ (a < 0) = False ∧ (100 < a) = False ∧ ((10 : Int) < (l2.length : Int)) = True) from by
      simp only [eq_iff_iff, iff_true, iff_false]
      cases hsb : schB l0 l1
      · exact .inl rfl
      · rw [hsb] at hgd
        simp only [Bool.true_eq_false, false_or, true_and] at hgd ⊢
        omega) with hs | ⟨hs, g1⟩ | ⟨hs, g1, g2⟩ | ⟨hs, g1, g2, g5⟩
    all_goals (
      have HS := Az.mk hs
      clear hgd hs
      go_enter Try.func3, Try.ntmps3
      go_wp2_with (
        ((with_reducible refine gate_dst (N := 3) rfl ?_)
         refine box_event ?hg (N := 3) ?hd (cs := #[.slice A0 l0.length c0, .slice A1 l1.length c1]) (t := 25) ?hr ?_
         (case hd => rfl)
         (case hg => rfl)
         (case hr => first | (go_simp; done) | (go_simp; rfl))
         intro g3 hg3 w1 hbox hb1
         have S3 := Az.mk hbox
         have HB1 := Az.mk hb1
         have e0 : w1.cell? ⟨g3, 0, none⟩ = some (.slice A0 l0.length c0) := (blk_cell hbox 0).trans rfl
         have e1 : w1.cell? ⟨g3, 1, none⟩ = some (.slice A1 l1.length c1) := (blk_cell hbox 1).trans rfl
         clear hbox hb1 hg3))
      (with_reducible refine (refis_calls A0 c0 l0 A1 c1 l1 w1 (HSC.out.below HB1.out).r0 HSC.out.h0 (HSC.out.below HB1.out).r1 HSC.out.h1).mono ?_)
      rintro e w2 ⟨rfl, hb2⟩
      rw [HS.out]
      have HB2 := Az.mk (bst HB1.out hb2)
      clear hb2 e0 e1
      go_wp2_with fail
      (with_reducible refine (alive_calls w2).mono ?_)
      rintro e9 w99 ⟨rfl, hb99⟩
      have HB99 := Az.mk (bst HB2.out hb99)
      clear hb99
      go_wp2_with fail
      go_ret
      exact ⟨rfl, HB99.out⟩)
  have hs : schB l0 l1 = true := by
    cases h : schB l0 l1
    · exact absurd (.inl h) hgd
    · rfl
  have ha0 : 0 ≤ a := by omega
  have ha1 : a ≤ 100 := by omega
  have hl10 : (l2.length : Int) ≤ 10 := by omega
  have g1 : (a < 0) = False := eq_false (by omega)
  have g2 : (100 < a) = False := eq_false (by omega)
  have g5 : ((10 : Int) < (l2.length : Int)) = False := eq_false (by omega)
  have hl1 := (sch_parts hs).2
  have HS := Az.mk hs
  have HL1 := Az.mk hl1
  have hl64 : (l1.length : Int) ≤ 64 := by omega
  clear hgd hs
  go_enter Try.func3, Try.ntmps3
  go_wp2_with (
      ((with_reducible refine gate_dst (N := 3) rfl ?_)
       refine box_event ?hg (N := 3) ?hd (cs := #[.slice A0 l0.length c0, .slice A1 l1.length c1]) (t := 25) ?hr ?_
       (case hd => rfl)
       (case hg => rfl)
       (case hr => first | (go_simp; done) | (go_simp; rfl))
       intro g3 hg3 w1 hbox hb1
       have S3 := Az.mk hbox
       have HB1 := Az.mk hb1
       have e0 : w1.cell? ⟨g3, 0, none⟩ = some (.slice A0 l0.length c0) := (blk_cell hbox 0).trans rfl
       have e1 : w1.cell? ⟨g3, 1, none⟩ = some (.slice A1 l1.length c1) := (blk_cell hbox 1).trans rfl
       clear hbox hb1 hg3))
  (with_reducible refine (refis_calls A0 c0 l0 A1 c1 l1 w1 (HSC.out.below HB1.out).r0 HSC.out.h0 (HSC.out.below HB1.out).r1 HSC.out.h1).mono ?_)
  rintro e w2 ⟨rfl, hb2⟩
  rw [HS.out]
  have HB2 := Az.mk (bst HB1.out hb2)
  have HSC2 := Az.mk (HSC.out.below HB2.out)
  have S32 := Az.mk (bkB S3.out hb2)
  have f0 : w2.cell? ⟨g3, 0, none⟩ = some (.slice A0 l0.length c0) := (blk_cell S32.out 0).trans rfl
  have f1 : w2.cell? ⟨g3, 1, none⟩ = some (.slice A1 l1.length c1) := (blk_cell S32.out 1).trans rfl
  clear hb2 e0 e1 S3 HB1
  go_wp2_with fail
  (with_reducible refine (scopy_own HSC2.out HS.out).mono ?_)
  rintro e w3 ⟨B0, d0, B1, d1, rfl, hR0, hR1, hb3⟩
  have HB3 := Az.mk (bst HB2.out hb3)
  have S33 := Az.mk (bkB S32.out hb3)
  have HWR := Az.mk (show Sch w3 B0 d0 l0 B1 d1 l1 from ⟨(Kd.R_reads' hR0).2.2, (Kd.R_reads' hR0).2.1, (Kd.R_reads' hR1).2.2, (Kd.R_reads' hR1).2.1⟩)
  have HSC3 := Az.mk (HSC2.out.below hb3)
  clear hb3 hR0 hR1 f0 f1 S32 HB2 HSC2
  go_wp2_with (
      ((with_reducible refine gate_dst (N := 7) rfl ?_)
       refine box_event ?hg (N := 7) ?hd (cs := #[.slice none 0 0, .slice none 0 0]) (t := 25) ?hr ?_
       (case hd => rfl)
       (case hg => rfl)
       (case hr => first | (go_simp; done) | (go_simp; rfl))
       intro g7 hg7 g7n hbox hbb
       have hgw : w3.heap.size ≤ g7 := by omega
       have HGg7 := Az.mk hgw
       have Hbwg7 := Az.mk (bset (g := g7) (j := 1) (v := .slice B1 l1.length d1) (bset (g := g7) (j := 0) (v := .slice B0 l0.length d0) hbb hgw) hgw)
       have Sg7 := Az.mk (blk_put (cs' := #[.slice B0 l0.length d0, .slice B1 l1.length d1]) (blk_put (cs' := #[.slice B0 l0.length d0, .slice none 0 0]) hbox 0 (.slice B0 l0.length d0) rfl) 1 (.slice B1 l1.length d1) rfl)
       have S3g7 := Az.mk (bkB S33.out Hbwg7.out)
       have z0g7 : ((g7n.setCell ⟨g7, 0, none⟩ (.slice B0 l0.length d0)).setCell ⟨g7, 1, none⟩ (.slice B1 l1.length d1)).cell? ⟨g3, 0, none⟩ = some (.slice A0 l0.length c0) := (blk_cell S3g7.out 0).trans rfl
       have z1g7 : ((g7n.setCell ⟨g7, 0, none⟩ (.slice B0 l0.length d0)).setCell ⟨g7, 1, none⟩ (.slice B1 l1.length d1)).cell? ⟨g3, 1, none⟩ = some (.slice A1 l1.length c1) := (blk_cell S3g7.out 1).trans rfl
       skip
       have hcz0 := (blk_cell hbox 0).trans rfl
       have hcz1 := (blk_cell hbox 1).trans rfl
       have hfz0 := bkF hbox 0
       have hfz1 := bkF hbox 1
       clear hbox hbb hg7 hgw))
  clear hcz0 hcz1 hfz0 hfz1
  generalize ((g7n.setCell ⟨g7, 0, none⟩ (.slice B0 l0.length d0)).setCell ⟨g7, 1, none⟩ (.slice B1 l1.length d1)) = w5 at *
  have HB5 := Az.mk (bst HB3.out Hbwg7.out)
  have HWS := Az.mk ((HWR.out.below Hbwg7.out).scl)
  have HSC5 := Az.mk ((HSC3.out.below Hbwg7.out).scl)
  (with_reducible refine (scopy_own HSC5.out.sch HS.out).mono ?_)
  rintro e w6 ⟨C0, e0, C1, e1, rfl, hR0, hR1, hb6⟩
  have HB6 := Az.mk (bst HB5.out hb6)
  have S36 := Az.mk (bkB S3g7.out hb6)
  have S76 := Az.mk (bkB Sg7.out hb6)
  have HMI := Az.mk (show Sch w6 C0 e0 l0 C1 e1 l1 from ⟨(Kd.R_reads' hR0).2.2, (Kd.R_reads' hR0).2.1, (Kd.R_reads' hR1).2.2, (Kd.R_reads' hR1).2.1⟩)
  obtain ⟨gf, cpf, hform, _⟩ := Kd.R_form hR1 (show 0 < l1.length from HL1.out.1)
  injection hform with hf1 _ hf3
  subst hf1 hf3
  have HBL := Az.mk (R_block hR1 (show 0 < l1.length from HL1.out.1))
  have HWS6 := Az.mk (HWS.out.below hb6)
  have HSC6 := Az.mk (HSC5.out.below hb6)
  have HBN := Az.mk hb6
  have HN0 := Az.mk (show w.heap.size ≤ w5.heap.size from HB5.out.size)
  have HN6 := Az.mk (show w5.heap.size ≤ w6.heap.size from hb6.size)
  clear hb6 hR0 hR1 z0g7 z1g7 HWS HSC5 HB5 Hbwg7 HSC3 HWR Sg7 S3g7 HB3 S33
  generalize w5.heap.size = N5 at *
  go_wp2_with (
      ((with_reducible refine gate_dst (N := 8) rfl ?_)
       refine box_event ?hg (N := 8) ?hd (cs := #[.slice none 0 0, .slice none 0 0]) (t := 25) ?hr ?_
       (case hd => rfl)
       (case hg => rfl)
       (case hr => first | (go_simp; done) | (go_simp; rfl))
       intro g8 hg8 g8n hbox hbb
       have hgw : w6.heap.size ≤ g8 := by omega
       have HGg8 := Az.mk hgw
       have Hbwg8 := Az.mk (bset (g := g8) (j := 1) (v := .slice (some ⟨gf, 0, none⟩) l1.length e1) (bset (g := g8) (j := 0) (v := .slice C0 l0.length e0) hbb hgw) hgw)
       have Sg8 := Az.mk (blk_put (cs' := #[.slice C0 l0.length e0, .slice (some ⟨gf, 0, none⟩) l1.length e1]) (blk_put (cs' := #[.slice C0 l0.length e0, .slice none 0 0]) hbox 0 (.slice C0 l0.length e0) rfl) 1 (.slice (some ⟨gf, 0, none⟩) l1.length e1) rfl)
       have S3g8 := Az.mk (bkB S36.out Hbwg8.out)
       have z0g8 : ((g8n.setCell ⟨g8, 0, none⟩ (.slice C0 l0.length e0)).setCell ⟨g8, 1, none⟩ (.slice (some ⟨gf, 0, none⟩) l1.length e1)).cell? ⟨g3, 0, none⟩ = some (.slice A0 l0.length c0) := (blk_cell S3g8.out 0).trans rfl
       have z1g8 : ((g8n.setCell ⟨g8, 0, none⟩ (.slice C0 l0.length e0)).setCell ⟨g8, 1, none⟩ (.slice (some ⟨gf, 0, none⟩) l1.length e1)).cell? ⟨g3, 1, none⟩ = some (.slice A1 l1.length c1) := (blk_cell S3g8.out 1).trans rfl
       have S7g8 := Az.mk (bkB S76.out Hbwg8.out)
       have y0 : ((g8n.setCell ⟨g8, 0, none⟩ (.slice C0 l0.length e0)).setCell ⟨g8, 1, none⟩ (.slice (some ⟨gf, 0, none⟩) l1.length e1)).cell? ⟨g8, 0, none⟩ = some (.slice C0 l0.length e0) := (blk_cell Sg8.out 0).trans rfl
       have y1 : ((g8n.setCell ⟨g8, 0, none⟩ (.slice C0 l0.length e0)).setCell ⟨g8, 1, none⟩ (.slice (some ⟨gf, 0, none⟩) l1.length e1)).cell? ⟨g8, 1, none⟩ = some (.slice (some ⟨gf, 0, none⟩) l1.length e1) := (blk_cell Sg8.out 1).trans rfl
       have hcz0 := (blk_cell hbox 0).trans rfl
       have hcz1 := (blk_cell hbox 1).trans rfl
       have hfz0 := bkF hbox 0
       have hfz1 := bkF hbox 1
       clear hbox hbb hg8 hgw))
  clear hcz0 hcz1 hfz0 hfz1
  generalize ((g8n.setCell ⟨g8, 0, none⟩ (.slice C0 l0.length e0)).setCell ⟨g8, 1, none⟩ (.slice (some ⟨gf, 0, none⟩) l1.length e1)) = w8 at *
  have HMI8 := Az.mk (HMI.out.below Hbwg8.out)
  have HWS8 := Az.mk (HWS6.out.below (below_lo Hbwg8.out HN6.out))
  have HSC8 := Az.mk (HSC6.out.below (below_lo Hbwg8.out HN6.out))
  have HB8 := Az.mk (bst HB6.out Hbwg8.out)
  obtain ⟨hgf0, cs0, hgf1, hgf2⟩ := HBL.out
  have HGF0 := Az.mk hgf0
  have HGF := Az.mk (And.intro (bkB hgf1 Hbwg8.out) hgf2)
  have HGG := Az.mk (show gf ≠ g8 from by have := blk_lt hgf1; have := HGg8.out; omega)
  have HG7F := Az.mk (show gf ≠ g7 from blk_ne hgf1 S76.out (by decide))
  have HG3F := Az.mk (show gf ≠ g3 from blk_ne hgf1 S36.out (by decide))
  have HN8 := Az.mk (show N5 ≤ w8.heap.size from Nat.le_trans HN6.out Hbwg8.out.size)
  clear hgf0 hgf1 hgf2 HMI HWS6 HSC6 HB6 HBL HBN S36 S76 Hbwg8 HGg8
  (with_reducible refine (one_new C0 e0 (some ⟨gf, 0, none⟩) e1 HMI8.out.r0 HMI8.out.h0 HMI8.out.r1 HMI8.out.h1 HS.out).mono ?_)
  rintro e w9 ⟨gm, rfl, hM, hb9⟩
  have HM9 := Az.mk hM
  have HB9 := Az.mk (bst HB8.out hb9)
  have HWS9 := Az.mk (HWS8.out.below (below_lo hb9 HN8.out))
  have HSC9 := Az.mk (HSC8.out.below (below_lo hb9 HN8.out))
  have HGF9 := Az.mk (And.intro (bkB HGF.out.1 hb9) HGF.out.2)
  have HLF := Az.mk (show gf < w8.heap.size from blk_lt HGF.out.1)
  have HL3 := Az.mk (show g3 < w8.heap.size from blk_lt S3g8.out)
  have HL7 := Az.mk (show g7 < w8.heap.size from blk_lt S7g8.out)
  have HLZ := Az.mk (show w8.heap.size ≤ w9.heap.size from hb9.size)
  have S39 := Az.mk (bkB S3g8.out hb9)
  have S79 := Az.mk (bkB S7g8.out hb9)
  have S89 := Az.mk (bkB Sg8.out hb9)
  have HN9 := Az.mk (show N5 ≤ w9.heap.size from Nat.le_trans HN8.out hb9.size)
  have x0 : w9.cell? ⟨g3, 0, none⟩ = some (.slice A0 l0.length c0) := (blk_cell S39.out 0).trans rfl
  have x1 : w9.cell? ⟨g3, 1, none⟩ = some (.slice A1 l1.length c1) := (blk_cell S39.out 1).trans rfl
  clear hM hb9 HB8 HWS8 HSC8 HGF S3g8 S7g8 Sg8 z0g8 z1g8 y0 y1 HMI8
  generalize w8.heap.size = lo at *
  go_wp2_with fail
  (with_reducible refine (ms_new HM9.out A0 c0 A1 c1 HSC9.out.sch.r0 HSC9.out.sch.h0 HSC9.out.sch.r1 HSC9.out.sch.h1 HS.out).mono ?_)
  rintro e wa ⟨gu, rfl, hM, hba⟩
  have HMa := Az.mk (show Ms wa lo (l1.map ownF) [(gm, ms0), (gu, ms0)] from hM)
  have HBa := Az.mk (bst HB9.out hba)
  have HWSa := Az.mk (HWS9.out.below (below_lo hba HN9.out))
  have HSCa := Az.mk (HSC9.out.below (below_lo hba HN9.out))
  have HGFa := Az.mk (And.intro (bkB HGF9.out.1 hba) HGF9.out.2)
  have S3a := Az.mk (bkB S39.out hba)
  have S7a := Az.mk (bkB S79.out hba)
  have S8a := Az.mk (bkB S89.out hba)
  have y1 : wa.cell? ⟨g8, 1, none⟩ = some (.slice (some ⟨gf, 0, none⟩) l1.length e1) := (blk_cell S8a.out 1).trans rfl
  clear hM hba HM9 HB9 HWS9 HSC9 HGF9 S39 S79 S89 x0 x1
  go_wp2_with fail
  go_loopg [64] l1.length (fun kq v64 wr => ∃ (j : Nat) (cs : Array Value), v64 = .int .i64 (j : Int) ∧ Az (j + kq = l1.length) ∧ Az (wr.heap[gf]? = some (.cells cs 41 (0, 0)) ∧ l1.length * 5 ≤ cs.size) ∧ Az (∀ k, k ≠ gf → wr.heap[k]? = wa.heap[k]?) ∧ Az (Below N5 wa wr))
  case atStart => exact ⟨0, cs0, rfl, ⟨by omega⟩, HGFa, ⟨fun _ _ => rfl⟩, ⟨Below.refl _ _⟩⟩
  case round =>
    obtain ⟨j, cs, rfl, Hj, HGR, HKE, HBR⟩ := hrel
    cases gk with
    | zero =>
      have hj : j = l1.length := by have := Hj.out; omega
      subst hj
      have HMr := Az.mk (HMa.out.keep (fun k hk _ => HKE.out k (fun e => by have := HLF.out; omega)) HBR.out.size)
      have HBr := Az.mk (below_tr HBa.out (below_lo HBR.out HN0.out))
      have HWSr := Az.mk (HWSa.out.below HBR.out)
      have HSCr := Az.mk (HSCa.out.below HBR.out)
      have S3r := Az.mk ((HKE.out g3 (fun e => HG3F.out e.symm)).trans S3a.out)
      have S7r := Az.mk ((HKE.out g7 (fun e => HG7F.out e.symm)).trans S7a.out)
      clear HMa HBa HWSa HSCa HGFa S3a S7a S8a HKE HBR HGR y1 Hj
      generalize wr = wb at *
      go_wp2_with fail
      go_loopg [76] l2.length (fun kq v76 wt => ∃ (i : Nat) (s : MS), v76 = .int .i64 (i : Int) ∧ Az (i + kq = l2.length) ∧ Az (Good l0 l1 s) ∧ Az (Ms wt lo (l1.map ownF) [(gm, s), (gu, s)]) ∧ Az (Below lo wb wt))
      case atStart => exact ⟨0, ms0, rfl, ⟨by omega⟩, ⟨good0 HS.out⟩, HMr, ⟨Below.refl _ _⟩⟩
      case round =>
        obtain ⟨i, s, rfl, Hi, HG, HM, HBl⟩ := hrel
        have HBt := Az.mk (below_tr HBr.out (below_lo HBl.out (show w.heap.size ≤ lo from Nat.le_trans HN0.out HN8.out)))
        cases gk with
        | zero =>
          have hi : i = l2.length := by have := Hi.out; omega
          subst hi
          have HWt := Az.mk (HWSr.out.below (below_lo HBl.out HN8.out))
          have HSt := Az.mk (HSCr.out.below (below_lo HBl.out HN8.out))
          have S3t := (HBl.out.block g3 HL3.out).trans S3r.out
          have S7t := (HBl.out.block g7 HL7.out).trans S7r.out
          have t30 : wr.cell? ⟨g3, 0, none⟩ = some (.slice A0 l0.length c0) := (blk_cell S3t 0).trans rfl
          have t31 : wr.cell? ⟨g3, 1, none⟩ = some (.slice A1 l1.length c1) := (blk_cell S3t 1).trans rfl
          have t70 : wr.cell? ⟨g7, 0, none⟩ = some (.slice B0 l0.length d0) := (blk_cell S7t 0).trans rfl
          have t71 : wr.cell? ⟨g7, 1, none⟩ = some (.slice B1 l1.length d1) := (blk_cell S7t 1).trans rfl
          clear S3t S7t
          go_wp2_with fail
          (with_reducible refine (sequal_at HSt.out.sch HWt.out.sch HS.out).mono ?_)
          rintro e9 wz ⟨rfl, hbz⟩
          have HBz := Az.mk (bst HBt.out hbz)
          clear hbz t30 t31 t70 t71
          go_wp2_with fail
          (with_reducible refine (alive_calls wz).mono ?_)
          rintro e9 w99 ⟨rfl, hb99⟩
          have HB99 := Az.mk (bst HBz.out hb99)
          clear hb99
          go_wp2_with fail
          go_ret
          exact ⟨rfl, HB99.out⟩
        | succ k1 =>
        have hi : i < l2.length := by have := Hi.out; omega
        have hi10 : (i : Int) ≤ 10 := by omega
        obtain ⟨k, x, n, e, s1, hr⟩ := goS_total HS.out HG.out a
        obtain ⟨ad, ead, hx⟩ := Kd.at_int HR2.out (i : Int) (by omega) (by omega)
        cases ead
        replace hx := cell_up HBt.out hx
        rw [Int.toNat_natCast] at hx
        have HGR := Az.mk hr
        have HG1 := Az.mk (goS_good HS.out HG.out hr)
        have HK1 := Az.mk (show i + 1 + k1 = l2.length from by have := Hi.out; omega)
        have p1 : (0 ≤ (i : Int)) = True := eq_true (by omega)
        have p2 : ((i : Int) < (l2.length : Int)) = True := eq_true (by omega)
        have p3 : (i < l2.length) = True := eq_true hi
        generalize rd l2 (i : Int) = q at *
        clear hi hr
        go_wp2_with fail
        (with_reducible refine (two_go0 HS.out HM.out HG.out HGR.out).mono ?_)
        rintro e9 wc ⟨rfl, hM, hbc⟩
        have HMc := Az.mk hM
        have HBc := Az.mk (below_tr HBl.out hbc)
        clear hM hbc hx HM HBl HBt
        go_wp2_with fail
        (with_reducible refine (two_go1 HS.out HMc.out HG.out HGR.out).mono ?_)
        rintro e9 wd ⟨rfl, hM, hbd⟩
        have HMd := Az.mk hM
        have HBd := Az.mk (below_tr HBc.out hbd)
        have q1 := bneF (rfl : x = x)
        have q2 := bneF (rfl : n = n)
        have q3 := bneF (rfl : e = e)
        clear hM hbd HMc HBc
        go_wp2_with fail
        (with_reducible refine (two_path0 HMd.out HG1.out).mono ?_)
        rintro e9 wp ⟨Ap, cp, rfl, hrp, hMp, hbp⟩
        obtain ⟨gp, hgp⟩ := path_blk hrp rfl
        have HGP := Az.mk (show 0 < s1.path.length → Ap = some ⟨gp, 0, none⟩ ∧ wd.heap.size ≤ gp from fun h => ⟨(hgp h).1, (hgp h).2.1⟩)
        have HCS := Az.mk (show 0 < s1.path.length → ∃ cs : Array Value, wp.heap[gp]? = some (.cells cs 3 (0, 0)) ∧ ∀ q, q < s1.path.length → ∃ z, cs[q]? = some (.int .i64 z) from fun h => (hgp h).2.2)
        have HBP := Az.mk hbp
        have hpl : s1.path.length ≤ 200 := HG1.out.path
        clear hrp hMp hbp hgp
        go_wp2_with fail
        go_loopg [111] s1.path.length (fun kq v111 wt => ∃ (j : Nat), v111 = .int .i64 (j : Int) ∧ Az (j + kq = s1.path.length) ∧ Az (0 < s1.path.length → ∃ cs : Array Value, wt.heap[gp]? = some (.cells cs 3 (0, 0)) ∧ ∀ q, q < s1.path.length → ∃ z, cs[q]? = some (.int .i64 z)) ∧ Az (Below wd.heap.size wd wt))
        case atStart => exact ⟨0, rfl, ⟨by omega⟩, HCS, HBP⟩
        case round =>
          clear HCS HBP
          obtain ⟨j, rfl, Hj, HCS, HBq⟩ := hrel
          cases gk with
          | succ k2 =>
            have hj : j < s1.path.length := by have := Hj.out; omega
            have HK2 := Az.mk (show j + 1 + k2 = s1.path.length from by have := Hj.out; omega)
            obtain ⟨hA, hgp⟩ := HGP.out (by omega)
            subst hA
            obtain ⟨cs, hcs, hz⟩ := HCS.out (by omega)
            obtain ⟨z, hz1⟩ := hz j hj
            have u1 : wr.cell? ⟨gp, j, none⟩ = some (.int .i64 z) := (blk_cell hcs j).trans hz1
            have u2 : wr.frozen? ⟨gp, j, none⟩ = false := bkF hcs j
            have HCn := Az.mk (fun v : Int => show 0 < s1.path.length → ∃ cs : Array Value, (wr.setCell ⟨gp, j, none⟩ (.int .i64 v)).heap[gp]? = some (.cells cs 3 (0, 0)) ∧ ∀ q, q < s1.path.length → ∃ z, cs[q]? = some (.int .i64 z) from fun _ => by
              refine ⟨_, blk_set hcs j (.int .i64 v), fun q hq => ?_⟩
              obtain ⟨z', hz'⟩ := hz q hq
              by_cases hqj : q = j
              · subst hqj
                have hlt := (Array.getElem?_eq_some_iff.1 hz').1
                exact ⟨v, by rw [Array.getElem?_setIfInBounds_self_of_lt hlt]⟩
              · exact ⟨z', by rw [Array.getElem?_setIfInBounds_ne (fun h => hqj h.symm)]; exact hz'⟩)
            have HBn := Az.mk (fun v : Int => HBq.out.setCell (p := ⟨gp, j, none⟩) hgp (.int .i64 v))
            have r1 : (0 ≤ (j : Int)) = True := eq_true (by omega)
            have r2 : ((j : Int) < (s1.path.length : Int)) = True := eq_true (by omega)
            have r3 : (j < s1.path.length) = True := eq_true hj
            have hj2 : (j : Int) ≤ 200 := by omega
            clear hj hz hz1 hcs hgp HCS HBq
            go_wp2_with fail
            go_roundg k2
            case measure => omega
            case rel => exact ⟨j + 1, by go_num, HK2, ⟨HCn.out _⟩, ⟨HBn.out _⟩⟩
          | zero =>
            have r0 : ((j : Int) < (s1.path.length : Int)) = False := eq_false (by have := Hj.out; omega)
            have HMt := Az.mk (HMd.out.below HBq.out)
            have hlod : lo ≤ wd.heap.size := HMd.out.1
            have HBe := Az.mk (below_tr HBd.out (below_lo HBq.out hlod))
            obtain ⟨ke, hke⟩ : ∃ ke, kidE s1 q = ke := ⟨_, rfl⟩
            have HKQ := Az.mk hke
            have HG2 := Az.mk (kidS_good HG1.out q)
            have HPL := Az.mk (show (kidS s1 q).path.length ≤ 1000000 from by have := HG2.out.path; omega)
            clear hke hlod HMd HBd HCS HBq Hj
            go_wp2_with fail
            (with_reducible refine (two_kid0 HMt.out HG1.out HKQ.out).mono ?_)
            rintro e9 we ⟨rfl, hM, hbe⟩
            have HMe := Az.mk hM
            have HBf := Az.mk (below_tr HBe.out hbe)
            clear hM hbe HMt HBe
            go_wp2_with fail
            (with_reducible refine (two_kid1 HMe.out HG1.out HKQ.out).mono ?_)
            rintro e9 wf ⟨rfl, hM, hbf⟩
            have HMf := Az.mk hM
            have HBg := Az.mk (below_tr HBf.out hbf)
            have q4 := bneF (rfl : ke = ke)
            clear hM hbf HMe HBf
            go_wp2_with fail
            (with_reducible refine (two_path0 HMf.out HG2.out).mono ?_)
            rintro e9 wp1 ⟨Aq, cq, rfl, hrq, hMq, hbq⟩
            have HRQ := Az.mk hrq
            have HMq := Az.mk hMq
            have HBh := Az.mk (below_tr HBg.out (below_lo hbq HMf.out.1))
            clear hrq hMq hbq HBg HMf
            go_wp2_with fail
            (with_reducible refine (two_path1 HMq.out HG2.out).mono ?_)
            rintro e9 wp2 ⟨Ar, cr, rfl, hrr, hMr, hbr⟩
            have HQ1 := Az.mk (Kd.R_reads' (Kd.R_below HRQ.out hbr))
            have HQ2 := Az.mk (Kd.R_reads' hrr)
            have HMs := Az.mk hMr
            have HBi := Az.mk (below_tr HBh.out (below_lo hbr HMq.out.1))
            clear hrr hMr hbr HRQ HMq HBh
            go_wp2_with fail
            (with_reducible refine (ints_at HPL.out HQ1.out.2.2 HQ1.out.2.1 HQ2.out.2.2 HQ2.out.2.1).mono ?_)
            rintro e9 wi ⟨rfl, hbi⟩
            have HMu := Az.mk (HMs.out.below hbi)
            have HBj := Az.mk (below_tr HBi.out (below_lo hbi HMs.out.1))
            clear hbi HMs HBi
            go_wp2_with fail
            go_roundg k1
            case measure => omega
            case rel => exact ⟨i + 1, kidS s1 q, by go_num, HK1, HG2, HMu, HBj⟩
    | succ k1 =>
    have hj : j < l1.length := by have := Hj.out; omega
    have HK1 := Az.mk (show j + 1 + k1 = l1.length from by have := Hj.out; omega)
    have hj64 : (j : Int) ≤ 64 := by omega
    have hsz := HGR.out.2
    have v1 : wr.cell? ⟨g8, 1, none⟩ = some (.slice (some ⟨gf, 0, none⟩) l1.length e1) := (blk_cell ((HKE.out g8 (fun e => HGG.out e.symm)).trans S8a.out) 1).trans rfl
    obtain ⟨o2, u2⟩ : ∃ o, wr.cell? ⟨gf, j * 5 + 2, none⟩ = some o := ⟨_, (blk_cell HGR.out.1 _).trans (Array.getElem?_eq_getElem (show j * 5 + 2 < cs.size from by omega))⟩
    obtain ⟨o3, u3⟩ : ∃ o, wr.cell? ⟨gf, j * 5 + 2 + 1, none⟩ = some o := ⟨_, (blk_cell HGR.out.1 _).trans (Array.getElem?_eq_getElem (show j * 5 + 2 + 1 < cs.size from by omega))⟩
    obtain ⟨o4, u4'⟩ : ∃ o, wr.cell? ⟨gf, j * 5 + 2 + 2, none⟩ = some o := ⟨_, (blk_cell HGR.out.1 _).trans (Array.getElem?_eq_getElem (show j * 5 + 2 + 2 < cs.size from by omega))⟩
    have f2 : wr.frozen? ⟨gf, j * 5 + 2, none⟩ = false := bkF HGR.out.1 _
    have f3 : wr.frozen? ⟨gf, j * 5 + 2 + 1, none⟩ = false := bkF HGR.out.1 _
    have f4 : wr.frozen? ⟨gf, j * 5 + 2 + 2, none⟩ = false := bkF HGR.out.1 _
    have p1 : (0 ≤ (j : Int)) = True := eq_true (by omega)
    have p2 : ((j : Int) < (l1.length : Int)) = True := eq_true (by omega)
    have p3 : (j < l1.length) = True := eq_true hj
    clear y1 hsz hj
    have HGn := Az.mk (blk_set (blk_set (blk_set HGR.out.1 (j * 5 + 2) (.int .i64 1)) (j * 5 + 2 + 1) (.int .i64 (-1))) (j * 5 + 2 + 2) (.slice none 0 0))
    have HSn := Az.mk (show l1.length * 5 ≤ (((cs.setIfInBounds (j * 5 + 2) (.int .i64 1)).setIfInBounds (j * 5 + 2 + 1) (.int .i64 (-1))).setIfInBounds (j * 5 + 2 + 2) (.slice none 0 0)).size from by simpa using HGR.out.2)
    have HKn := Az.mk (show ∀ k, k ≠ gf → (((wr.setCell ⟨gf, j * 5 + 2, none⟩ (.int .i64 1)).setCell ⟨gf, j * 5 + 2 + 1, none⟩ (.int .i64 (-1))).setCell ⟨gf, j * 5 + 2 + 2, none⟩ (.slice none 0 0)).heap[k]? = wa.heap[k]? from fun k hk =>
      (Below.heap_setCell _ ⟨gf, j * 5 + 2 + 2, none⟩ _ k hk).trans ((Below.heap_setCell _ ⟨gf, j * 5 + 2 + 1, none⟩ _ k hk).trans ((Below.heap_setCell _ ⟨gf, j * 5 + 2, none⟩ _ k hk).trans (HKE.out k hk))))
    have HBn := Az.mk (((HBR.out.setCell (p := ⟨gf, j * 5 + 2, none⟩) HGF0.out (.int .i64 1)).setCell (p := ⟨gf, j * 5 + 2 + 1, none⟩) HGF0.out (.int .i64 (-1))).setCell (p := ⟨gf, j * 5 + 2 + 2, none⟩) HGF0.out (.slice none 0 0))
    go_wp2_with fail
    clear HGR HKE HBR u2 u3 u4' f2 f3 f4 v1
    generalize (((wr.setCell ⟨gf, j * 5 + 2, none⟩ (.int .i64 1)).setCell ⟨gf, j * 5 + 2 + 1, none⟩ (.int .i64 (-1))).setCell ⟨gf, j * 5 + 2 + 2, none⟩ (.slice none 0 0)) = wn at *
    go_roundg k1
    case measure => omega
    case rel => exact ⟨j + 1, _, by go_num, HK1, ⟨HGn.out, HSn.out⟩, HKn, HBn⟩
end Go.Proofs.Ytkgknidogelffaa.I
namespace Go.Proofs.Ytkgknidogelffaa.I
open Go.RowKit Go.Proofs.YtkgknidogelffaaW.PrintWords Go.Proofs.Ytkgknidogelffaa.VOpen
set_option linter.unusedVariables false
def virgationlaw08_ClosureOwn.f (k : Nat) (l0 : List S84) (l1 : List S41) (l2 : List Int) (i0 : Int) : Option Bool := some true
theorem virgationlaw08_ClosureOwn.calls (k : Nat) (A0 : Option Addr) (c0 : Nat) (l0 : List S84) (A1 : Option Addr) (c1 : Nat) (l1 : List S41) (A2 : Option Addr) (c2 : Nat) (l2 : List Int) (i0 : Int) (r : Bool) (w : World) (hr0 : Kd.C k84 w A0 l0.length l0) (hc0 : l0.length ≤ c0) (hr1 : Kd.C k41 w A1 l1.length l1) (hc1 : l1.length ≤ c1) (hr2 : Kd.C (Kd.int .i64) w A2 l2.length l2) (hc2 : l2.length ≤ c2) (h : virgationlaw08_ClosureOwn.f k l0 l1 l2 i0 = some r) :
    Calls Try.prog 3 #[.agg #[.slice A0 l0.length c0, .slice A1 l1.length c1], .slice A2 l2.length c2, .int .i64 i0] w fun e w' => e = .returned (.bool r) ∧ Below w.heap.size w w' := by
  injection h with h
  subst h
  exact own_calls A0 c0 l0 A1 c1 l1 A2 c2 l2 i0 w hr0 hc0 hr1 hc1 hr2 hc2
theorem pure_ClosureOwn : ∀ (x0 : S25) (x1 : (List Int)) (x2 : Int), (wf25 x0) → (x1.length ≤ 9223372036854775807 ∧ (∀ y_, y_ ∈ x1 → (Lit.int .i64 y_).wf = true)) → ((Lit.int .i64 x2).wf = true) → ∃ k, virgationlaw08_ClosureOwn.f k x0.f0 x0.f1 x1 x2 = some true := by
  intros
  exact ⟨0, rfl⟩
end Go.Proofs.Ytkgknidogelffaa.I
