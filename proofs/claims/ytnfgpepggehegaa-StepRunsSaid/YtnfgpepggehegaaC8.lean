/- Texts of this session's proof, laid together: I10, IB2, IB3, IB4, IB5, IZ0, I12, ID1, IE2. -/
import Derived.Deep.RegionLaw
import Derived.Deep.RegionHeld3
import Derived.Deep.QuietTactic
import Derived.BigQuiet
import Derived.Test.YtnfgpepggehegaaC7
namespace Go.Proofs.Ytnfgpepggehegaa.I
open Go.RowKit Go.Proofs.YtnfgpepggehegaaW.PrintWords Go.Proofs.YtnfgpepggehegaaW.PrintLast Go.Proofs.YtnfgpepggehegaaW.PrintMore
attribute [local go_sem] max2_int min2_int max_two min_two max_three min_three max_four min_four   -- for this text's walks alone
set_option linter.unusedVariables false
set_option linter.unusedSimpArgs false
mutual
def virgationref03_Term.j0 : Nat → ByteArray → List (S87) → List (S84) → Int → Int → List (S28) → Option (ByteArray)
  | 0, _, _, _, _, _, _ => none
  | k + 1, x5, x309000, x309001, x310000, x310001, x310002 => virgationref03_Term.l0 k x5 x310002 (x310002.length : Int) 0 x309000 x309001
def virgationref03_Term.l0 : Nat → ByteArray → List (S28) → Int → Int → List (S87) → List (S84) → Option (ByteArray)
  | 0, _, _, _, _, _, _ => none
  | k + 1, x5, x34, x35, x36, x309000, x309001 => if x36 < x35 then (if 0 ≤ x36 then (if x36 < (x34.length : Int) then (if (((rd_T28 x34 x36).f2).length : Int) = 0 then (if x5.size + 1 ≤ 9223372036854775807 then ((virgationref03_Term.f k x309000 x309001 ((rd_T28 x34 x36).f0) ((rd_T28 x34 x36).f1) ((rd_T28 x34 x36).f2)).bind fun t315 => (if (x5 ++ (⟨#[32]⟩ : ByteArray)).size + t315.size ≤ 9223372036854775807 then (virgationref03_Term.l0 k ((x5 ++ (⟨#[32]⟩ : ByteArray)) ++ t315) x34 x35 (wrap64 (x36 + 1)) x309000 x309001) else (none))) else (none)) else (if x5.size + 2 ≤ 9223372036854775807 then ((virgationref03_Term.f k x309000 x309001 ((rd_T28 x34 x36).f0) ((rd_T28 x34 x36).f1) ((rd_T28 x34 x36).f2)).bind fun t316 => (if (x5 ++ (⟨#[32, 40]⟩ : ByteArray)).size + t316.size ≤ 9223372036854775807 then (if ((x5 ++ (⟨#[32, 40]⟩ : ByteArray)) ++ t316).size + 1 ≤ 9223372036854775807 then (virgationref03_Term.l0 k (((x5 ++ (⟨#[32, 40]⟩ : ByteArray)) ++ t316) ++ (⟨#[41]⟩ : ByteArray)) x34 x35 (wrap64 (x36 + 1)) x309000 x309001) else (none)) else (none))) else (none))) else (none)) else (none)) else (some x5)
def virgationref03_Term.f : Nat → List (S87) → List (S84) → Int → Int → List (S28) → Option (ByteArray)
  | 0, _, _, _, _, _ => none
  | k + 1, l0_0, l0_1, a1_0, a1_1, l1_2 => if a1_0 = 0 then ((virgationref03_Number.f k a1_1).bind fun t310 => (if 1 + t310.size ≤ 9223372036854775807 then (virgationref03_Term.j0 k ((⟨#[36]⟩ : ByteArray) ++ t310) l0_0 l0_1 a1_0 a1_1 l1_2) else (none))) else (if a1_0 = 1 then (if 0 ≤ a1_1 then (if a1_1 < (l0_1.length : Int) then (virgationref03_Term.j0 k ((rd_T84 l0_1 a1_1).f0) l0_0 l0_1 a1_0 a1_1 l1_2) else (none)) else (none)) else (if 0 ≤ a1_1 then (if a1_1 < (l0_0.length : Int) then (if 1 + ((rd_T87 l0_0 a1_1).f0).size ≤ 9223372036854775807 then (virgationref03_Term.j0 k ((⟨#[35]⟩ : ByteArray) ++ ((rd_T87 l0_0 a1_1).f0)) l0_0 l0_1 a1_0 a1_1 l1_2) else (none)) else (none)) else (none)))
end
set_option maxHeartbeats 8000000 in
set_option maxRecDepth 100000 in
theorem virgationref03_Term.calls (k : Nat) : ∀ (A0_0 : Option Addr) (c0_0 : Nat) (l0_0 : List (S87)) (A0_1 : Option Addr) (c0_1 : Nat) (l0_1 : List (S84)) (a1_0 : Int) (a1_1 : Int) (A1_2 : Option Addr) (c1_2 : Nat) (l1_2 : List (S28)) (r : ByteArray) (w : World) (hr0_0 : Kd.C k87 w A0_0 l0_0.length l0_0) (hc0_0 : l0_0.length ≤ c0_0) (hr0_1 : Kd.C k84 w A0_1 l0_1.length l0_1) (hc0_1 : l0_1.length ≤ c0_1) (hr1_2 : Kd.C k28 w A1_2 l1_2.length l1_2) (hc1_2 : l1_2.length ≤ c1_2) (h : virgationref03_Term.f k l0_0 l0_1 a1_0 a1_1 l1_2 = some r),
    Calls Try.prog 36 #[.agg #[.slice A0_0 l0_0.length c0_0, .slice A0_1 l0_1.length c0_1], .agg #[.int .i64 a1_0, .int .i64 a1_1, .slice A1_2 l1_2.length c1_2]] w fun e w' => e = .returned (.string r) ∧ Below w.heap.size w w' := by
  induction k using Nat.strongRecOn with
  | _ k ih =>
  intro A0_0 c0_0 l0_0 A0_1 c0_1 l0_1 a1_0 a1_1 A1_2 c1_2 l1_2 r w hr0_0 hc0_0 hr0_1 hc0_1 hr1_2 hc1_2 h
  cases k with
  | zero => exact absurd h (by simp [virgationref03_Term.f])
  | succ k =>
  simp only [virgationref03_Term.f] at h
  have hu25 := Try.underlying25
  have hu28 := Try.underlying28
  have HR0_0 := Aside0.mk hr0_0
  have HC0_0 := Aside0.mk hc0_0
  clear hr0_0 hc0_0
  have HR0_1 := Aside0.mk hr0_1
  have HC0_1 := Aside0.mk hc0_1
  clear hr0_1 hc0_1
  have HR1_2 := Aside0.mk hr1_2
  have HC1_2 := Aside0.mk hc1_2
  clear hr1_2 hc1_2
  have HB := Aside0.mk (Below.refl w.heap.size w)
  have H : (if a1_0 = 0 then ((virgationref03_Number.f k a1_1).bind fun t310 => (if 1 + t310.size ≤ 9223372036854775807 then (virgationref03_Term.j0 k ((⟨#[36]⟩ : ByteArray) ++ t310) l0_0 l0_1 a1_0 a1_1 l1_2) else (none))) else (if a1_0 = 1 then (if 0 ≤ a1_1 then (if a1_1 < (l0_1.length : Int) then (virgationref03_Term.j0 k ((rd_T84 l0_1 a1_1).f0) l0_0 l0_1 a1_0 a1_1 l1_2) else (none)) else (none)) else (if 0 ≤ a1_1 then (if a1_1 < (l0_0.length : Int) then (if 1 + ((rd_T87 l0_0 a1_1).f0).size ≤ 9223372036854775807 then (virgationref03_Term.j0 k ((⟨#[35]⟩ : ByteArray) ++ ((rd_T87 l0_0 a1_1).f0)) l0_0 l0_1 a1_0 a1_1 l1_2) else (none)) else (none)) else (none)))) = some r := h
  clear h
  have HC3 := Aside0.mk H
  clear H
  go_enter Try.func36, Try.ntmps36
  go_upto_block 0 with (first | ((with_reducible refine gate_dst (N := 2) rfl ?_); refine box_event ?hg (N := 2) ?hd (cs := #[.slice A0_0 l0_0.length c0_0, .slice A0_1 l0_1.length c0_1]) (t := 25) ?hr ?_; (case hd => rfl); (case hg => rfl); (case hr => first | (go_simp; done) | (go_simp; rfl)); intro gb308 hg w4 hbox hb; have n0_ := Aside0.mk (below_step (by repeat (first | (with_reducible first | exact HB.out | apply below_alloc | apply pw_below_drewN | apply below_drew1) | exact HB.out)) hb); have n1_ := Aside0.mk (hbox); have n2_ := Aside0.mk ((by rw [hg]; exact (below_size (by repeat (first | (with_reducible first | exact HB.out | apply below_alloc | apply pw_below_drewN | apply below_drew1) | exact HB.out))) : w.heap.size ≤ gb308)); have n3_ := Aside0.mk ((by rw [hg]; exact (below_size (by repeat (first | (with_reducible first | exact HB.out | apply below_alloc | apply pw_below_drewN | apply below_drew1) | exact HB.out))) : w.heap.size ≤ gb308)); clear HB; have HB := n0_; have BK308 := n1_; have GW308 := n2_; have GE308 := n3_; clear n0_ n1_ n2_ n3_; clear hb hbox hg) | ((with_reducible refine gate_dst (N := 3) rfl ?_); refine box_event ?hg (N := 3) ?hd (cs := #[.int .i64 a1_0, .int .i64 a1_1, .slice A1_2 l1_2.length c1_2]) (t := 28) ?hr ?_; (case hd => rfl); (case hg => rfl); (case hr => first | (go_simp; done) | (go_simp; rfl)); intro gb309 hg w5 hbox hb; have n0_ := Aside0.mk (blk_below (g := gb308) (o := .cells #[.slice A0_0 l0_0.length c0_0, .slice A0_1 l0_1.length c0_1] 25 (0, 0)) (by (with_reducible repeat (first | refine blk_drewN ?_ _ | refine blk_drew ?_ | refine blk_alloc ?_ _)); exact BK308.out) hb); have n1_ := Aside0.mk (below_step (by repeat (first | (with_reducible first | exact HB.out | apply below_alloc | apply pw_below_drewN | apply below_drew1 | refine below_set ?_ GE308.out) | exact HB.out)) hb); have n2_ := Aside0.mk (hbox); have n3_ := Aside0.mk ((by rw [hg]; exact (below_size (by repeat (first | (with_reducible first | exact HB.out | apply below_alloc | apply pw_below_drewN | apply below_drew1 | refine below_set ?_ GE308.out) | exact HB.out))) : w.heap.size ≤ gb309)); have n4_ := Aside0.mk ((by rw [hg]; exact (below_size (by repeat (first | (with_reducible first | exact HB.out | apply below_alloc | apply pw_below_drewN | apply below_drew1 | refine below_set ?_ GE308.out) | exact HB.out))) : w.heap.size ≤ gb309)); have n5_ := Aside0.mk ((by rw [hg]; exact Nat.ne_of_lt (blk_lt (g := gb308) (o := .cells #[.slice A0_0 l0_0.length c0_0, .slice A0_1 l0_1.length c0_1] 25 (0, 0)) (by (with_reducible repeat (first | refine blk_drewN ?_ _ | refine blk_drew ?_ | refine blk_alloc ?_ _)); exact BK308.out)) : gb308 ≠ gb309)); have n6_ := Aside0.mk ((by rw [hg]; exact Nat.ne_of_gt (blk_lt (g := gb308) (o := .cells #[.slice A0_0 l0_0.length c0_0, .slice A0_1 l0_1.length c0_1] 25 (0, 0)) (by (with_reducible repeat (first | refine blk_drewN ?_ _ | refine blk_drew ?_ | refine blk_alloc ?_ _)); exact BK308.out)) : gb309 ≠ gb308)); clear BK308; clear HB; have BK308 := n0_; have HB := n1_; have BK309 := n2_; have GW309 := n3_; have GE309 := n4_; have NB308_309 := n5_; have NB309_308 := n6_; clear n0_ n1_ n2_ n3_ n4_ n5_ n6_; clear hb hbox hg; have hnb6 := NB309_308.out; have hnc6 := NB308_309.out; have hcz7_0 : w5.cell? ⟨gb309, 0, none⟩ = some (.int .i64 a1_0) := (blk_cell BK309.out 0).trans rfl; have hcz7_1 : w5.cell? ⟨gb309, 1, none⟩ = some (.int .i64 a1_1) := (blk_cell BK309.out 1).trans rfl; have hcz7_2 : w5.cell? ⟨gb309, 2, none⟩ = some (.slice A1_2 l1_2.length c1_2) := (blk_cell BK309.out 2).trans rfl; have hfz7_0 := blk_frozen BK309.out 0; have hfz7_1 := blk_frozen BK309.out 1; have hfz7_2 := blk_frozen BK309.out 2))
  (try simp only [Act.put, List.setIfInBounds_toArray, List.set_cons_zero, List.set_cons_succ])
  go_cut [5] (fun v5 wc => ∃ (kq : Nat) (x5_2 : ByteArray), v5 = .string x5_2 ∧ Aside0 (virgationref03_Term.j0 kq x5_2 l0_0 l0_1 a1_0 a1_1 l1_2 = some r) ∧ Aside0 (kq ≤ k) ∧ Aside0 (wc.heap[gb308]? = some (.cells #[(.slice A0_0 l0_0.length c0_0), (.slice A0_1 l0_1.length c0_1)] 25 (0, 0))) ∧ Aside0 (wc.heap[gb309]? = some (.cells #[.int .i64 a1_0, .int .i64 a1_1, (.slice A1_2 l1_2.length c1_2)] 28 (0, 0))) ∧ Aside0 (Below w.heap.size w wc))
  case first =>
    have H := HC3.out
    clear HC3
    by_cases c8 : a1_0 = 0
    · rw [if_pos c8] at H
      have c8b0 : (a1_0 == 0) = true := beq_iff_eq.mpr c8
      have c8b1 : (a1_0 != 0) = false := bne_eq_false_iff_eq.mpr c8
      clear c8
      (first | rw [c8b0] | (simp only [i64_w, i32_w]; rw [c8b0]) | skip)
      replace H := Option.bind_eq_some_iff.mp H
      obtain ⟨t310, A90, H⟩ := H
      replace H : (if 1 + t310.size ≤ 9223372036854775807 then (virgationref03_Term.j0 k ((⟨#[36]⟩ : ByteArray) ++ t310) l0_0 l0_1 a1_0 a1_1 l1_2) else (none)) = some r := H
      have A9 := Aside0.mk A90
      clear A90
      by_cases c10 : 1 + t310.size ≤ 9223372036854775807
      · rw [if_pos c10] at H
        have c10b0 := eq_true c10
        have c10b1 : decide (1 + t310.size ≤ 9223372036854775807) = true := decide_eq_true c10
        try have c10b2 : (9223372036854775807 < 1 + t310.size) = False := eq_false (Nat.not_lt.2 c10)
        have H' := Aside0.mk H
        clear H
        have hnb11 := NB309_308.out
        have hnc11 := NB308_309.out
        have hcz12_0 : w5.cell? ⟨gb309, 0, none⟩ = some (.int .i64 a1_0) := (blk_cell BK309.out 0).trans rfl
        have hcz12_1 : w5.cell? ⟨gb309, 1, none⟩ = some (.int .i64 a1_1) := (blk_cell BK309.out 1).trans rfl
        have hcz12_2 : w5.cell? ⟨gb309, 2, none⟩ = some (.slice A1_2 l1_2.length c1_2) := (blk_cell BK309.out 2).trans rfl
        have hfz12_0 := blk_frozen BK309.out 0
        have hfz12_1 := blk_frozen BK309.out 1
        have hfz12_2 := blk_frozen BK309.out 2
        go_wp2_with (first | ((with_reducible refine gate_callee (f := 64) rfl ?_); refine goesL_ (some 22) rfl rfl Try.func64 (by kernel_rfl) rfl #[.int .i64 a1_1] rfl (by (try simp only [List.map_toArray, List.map_cons, List.map_nil]); first | done | rfl | (simp only [List.length_drop, List.length_take]; rfl)) ?_; (with_reducible refine (virgationref03_Number.calls k a1_1 t310 _ A9.out).mono ?_); rintro e w' ⟨rfl, ⟨nd, rfl⟩⟩; refine ⟨_, rfl, ?_⟩))
        go_meet
        case rel => exact ⟨_, ((⟨#[36]⟩ : ByteArray) ++ t310), (by first | rfl | (simp; done) | (simp [*]; done)), H', ⟨by first | omega | exact Nat.le_refl _⟩, ⟨by (with_reducible repeat (first | refine blk_drewN ?_ _ | refine blk_drew ?_ | refine blk_alloc ?_ _)); exact BK308.out⟩, ⟨by (with_reducible repeat (first | refine blk_drewN ?_ _ | refine blk_drew ?_ | refine blk_alloc ?_ _)); exact BK309.out⟩, ⟨by repeat (first | (with_reducible first | exact HB.out | apply below_alloc | apply pw_below_drewN | apply below_drew1 | refine below_set ?_ GE308.out | refine below_set ?_ GE309.out) | exact HB.out)⟩⟩
      · rw [if_neg c10] at H
        exact absurd H (by simp)
    · rw [if_neg c8] at H
      have c8b0 : (a1_0 == 0) = false := beq_eq_false_iff_ne.mpr c8
      have c8b1 : (a1_0 != 0) = true := bne_iff_ne.mpr c8
      (first | rw [c8b0] | (simp only [i64_w, i32_w]; rw [c8b0]) | skip)
      by_cases c13 : a1_0 = 1
      · rw [if_pos c13] at H
        have c13b0 : (a1_0 == 1) = true := beq_iff_eq.mpr c13
        have c13b1 : (a1_0 != 1) = false := bne_eq_false_iff_eq.mpr c13
        clear c13
        by_cases c14 : 0 ≤ a1_1
        · rw [if_pos c14] at H
          have c14b0 : decide (0 ≤ a1_1) = true := decide_eq_true c14
          clear c14
          by_cases c15 : a1_1 < (l0_1.length : Int)
          · rw [if_pos c15] at H
            have c15b0 : decide (a1_1 < (l0_1.length : Int)) = true := decide_eq_true c15
            clear c15
            have H' := Aside0.mk H
            clear H
            have hnb16 := NB308_309.out
            have hnc16 := NB309_308.out
            have hcz17_0 : w5.cell? ⟨gb308, 0, none⟩ = some (.slice A0_0 l0_0.length c0_0) := (blk_cell BK308.out 0).trans rfl
            have hcz17_1 : w5.cell? ⟨gb308, 1, none⟩ = some (.slice A0_1 l0_1.length c0_1) := (blk_cell BK308.out 1).trans rfl
            have hfz17_0 := blk_frozen BK308.out 0
            have hfz17_1 := blk_frozen BK308.out 1
            have hcz18_0 : w5.cell? ⟨gb309, 0, none⟩ = some (.int .i64 a1_0) := (blk_cell BK309.out 0).trans rfl
            have hcz18_1 : w5.cell? ⟨gb309, 1, none⟩ = some (.int .i64 a1_1) := (blk_cell BK309.out 1).trans rfl
            have hcz18_2 : w5.cell? ⟨gb309, 2, none⟩ = some (.slice A1_2 l1_2.length c1_2) := (blk_cell BK309.out 2).trans rfl
            have hfz18_0 := blk_frozen BK309.out 0
            have hfz18_1 := blk_frozen BK309.out 1
            have hfz18_2 := blk_frozen BK309.out 2
            have p311 : 0 ≤ (a1_1 : Int) := of_decide_eq_true (by first | (with_reducible assumption) | assumption)
            have q311 : a1_1 < (l0_1.length : Int) := of_decide_eq_true (by first | (with_reducible assumption) | assumption)
            obtain ⟨ad311, A311_1, c311_1, A311_4, c311_4, e311, hx311_0, hx311_1, hx311_2, hx311_3, hx311_4, hl311_1, hi311_1, hl311_4, hi311_4⟩ := at_T84 HR0_1.out a1_1 p311 q311
            cases e311
            replace hx311_0 := (HB.out.cell (World.block_lt_of_cell? w _ hx311_0)).trans hx311_0
            replace hx311_1 := (HB.out.cell (World.block_lt_of_cell? w _ hx311_1)).trans hx311_1
            replace hx311_2 := (HB.out.cell (World.block_lt_of_cell? w _ hx311_2)).trans hx311_2
            replace hx311_3 := (HB.out.cell (World.block_lt_of_cell? w _ hx311_3)).trans hx311_3
            replace hx311_4 := (HB.out.cell (World.block_lt_of_cell? w _ hx311_4)).trans hx311_4
            have HR311_1 := Aside0.mk hi311_1
            have HC311_1 := Aside0.mk hl311_1
            clear hi311_1 hl311_1
            have HR311_4 := Aside0.mk hi311_4
            have HC311_4 := Aside0.mk hl311_4
            clear hi311_4 hl311_4
            replace p311 := eq_true p311
            replace q311 := eq_true q311
            go_wp2
            go_meet
            case rel => exact ⟨_, ((rd_T84 l0_1 a1_1).f0), (by first | rfl | (simp; done) | (simp [*]; done)), H', ⟨by first | omega | exact Nat.le_refl _⟩, ⟨by (with_reducible repeat (first | refine blk_drewN ?_ _ | refine blk_drew ?_ | refine blk_alloc ?_ _)); exact BK308.out⟩, ⟨by (with_reducible repeat (first | refine blk_drewN ?_ _ | refine blk_drew ?_ | refine blk_alloc ?_ _)); exact BK309.out⟩, ⟨by repeat (first | (with_reducible first | exact HB.out | apply below_alloc | apply pw_below_drewN | apply below_drew1 | refine below_set ?_ GE308.out | refine below_set ?_ GE309.out) | exact HB.out)⟩⟩
          · rw [if_neg c15] at H
            exact absurd H (by simp)
        · rw [if_neg c14] at H
          exact absurd H (by simp)
      · rw [if_neg c13] at H
        have c13b0 : (a1_0 == 1) = false := beq_eq_false_iff_ne.mpr c13
        have c13b1 : (a1_0 != 1) = true := bne_iff_ne.mpr c13
        by_cases c19 : 0 ≤ a1_1
        · rw [if_pos c19] at H
          have c19b0 : decide (0 ≤ a1_1) = true := decide_eq_true c19
          clear c19
          by_cases c20 : a1_1 < (l0_0.length : Int)
          · rw [if_pos c20] at H
            have c20b0 : decide (a1_1 < (l0_0.length : Int)) = true := decide_eq_true c20
            clear c20
            by_cases c21 : 1 + ((rd_T87 l0_0 a1_1).f0).size ≤ 9223372036854775807
            · rw [if_pos c21] at H
              have c21b0 := eq_true c21
              have c21b1 : decide (1 + ((rd_T87 l0_0 a1_1).f0).size ≤ 9223372036854775807) = true := decide_eq_true c21
              try have c21b2 : (9223372036854775807 < 1 + ((rd_T87 l0_0 a1_1).f0).size) = False := eq_false (Nat.not_lt.2 c21)
              have H' := Aside0.mk H
              clear H
              have hnb22 := NB308_309.out
              have hnc22 := NB309_308.out
              have hcz23_0 : w5.cell? ⟨gb308, 0, none⟩ = some (.slice A0_0 l0_0.length c0_0) := (blk_cell BK308.out 0).trans rfl
              have hcz23_1 : w5.cell? ⟨gb308, 1, none⟩ = some (.slice A0_1 l0_1.length c0_1) := (blk_cell BK308.out 1).trans rfl
              have hfz23_0 := blk_frozen BK308.out 0
              have hfz23_1 := blk_frozen BK308.out 1
              have hcz24_0 : w5.cell? ⟨gb309, 0, none⟩ = some (.int .i64 a1_0) := (blk_cell BK309.out 0).trans rfl
              have hcz24_1 : w5.cell? ⟨gb309, 1, none⟩ = some (.int .i64 a1_1) := (blk_cell BK309.out 1).trans rfl
              have hcz24_2 : w5.cell? ⟨gb309, 2, none⟩ = some (.slice A1_2 l1_2.length c1_2) := (blk_cell BK309.out 2).trans rfl
              have hfz24_0 := blk_frozen BK309.out 0
              have hfz24_1 := blk_frozen BK309.out 1
              have hfz24_2 := blk_frozen BK309.out 2
              have p312 : 0 ≤ (a1_1 : Int) := of_decide_eq_true (by first | (with_reducible assumption) | assumption)
              have q312 : a1_1 < (l0_0.length : Int) := of_decide_eq_true (by first | (with_reducible assumption) | assumption)
              obtain ⟨ad312, e312, hx312_0, hx312_1⟩ := at_T87 HR0_0.out a1_1 p312 q312
              cases e312
              replace hx312_0 := (HB.out.cell (World.block_lt_of_cell? w _ hx312_0)).trans hx312_0
              replace hx312_1 := (HB.out.cell (World.block_lt_of_cell? w _ hx312_1)).trans hx312_1
              replace p312 := eq_true p312
              replace q312 := eq_true q312
              go_wp2
              go_meet
              case rel => exact ⟨_, ((⟨#[35]⟩ : ByteArray) ++ ((rd_T87 l0_0 a1_1).f0)), (by first | rfl | (simp; done) | (simp [*]; done)), H', ⟨by first | omega | exact Nat.le_refl _⟩, ⟨by (with_reducible repeat (first | refine blk_drewN ?_ _ | refine blk_drew ?_ | refine blk_alloc ?_ _)); exact BK308.out⟩, ⟨by (with_reducible repeat (first | refine blk_drewN ?_ _ | refine blk_drew ?_ | refine blk_alloc ?_ _)); exact BK309.out⟩, ⟨by repeat (first | (with_reducible first | exact HB.out | apply below_alloc | apply pw_below_drewN | apply below_drew1 | refine below_set ?_ GE308.out | refine below_set ?_ GE309.out) | exact HB.out)⟩⟩
            · rw [if_neg c21] at H
              exact absurd H (by simp)
          · rw [if_neg c20] at H
            exact absurd H (by simp)
        · rw [if_neg c19] at H
          exact absurd H (by simp)
  case rest =>
    clear HC3
    try clear c1
    try clear c2
    try clear p2
    try clear c3
    try clear p3
    try clear q3
    try clear hx3
    try clear c6
    try clear c8
    try clear c8b0
    try clear c8b1
    try clear c10
    try clear c10b0
    try clear c10b1
    try clear c10b2
    try clear c11
    try clear c13
    try clear c13b0
    try clear c13b1
    try clear c14
    try clear c14b0
    try clear c15
    try clear c15b0
    try clear c16
    try clear c19
    try clear c19b0
    try clear c20
    try clear c20b0
    try clear c21
    try clear c21b0
    try clear c21b1
    try clear c21b2
    try clear c22
    try clear hcz12_0
    try clear hcz12_1
    try clear hcz12_2
    try clear hcz17_0
    try clear hcz17_1
    try clear hcz18_0
    try clear hcz18_1
    try clear hcz18_2
    try clear hcz23_0
    try clear hcz23_1
    try clear hcz24_0
    try clear hcz24_1
    try clear hcz24_2
    try clear hcz7_0
    try clear hcz7_1
    try clear hcz7_2
    try clear hfz12_0
    try clear hfz12_1
    try clear hfz12_2
    try clear hfz17_0
    try clear hfz17_1
    try clear hfz18_0
    try clear hfz18_1
    try clear hfz18_2
    try clear hfz23_0
    try clear hfz23_1
    try clear hfz24_0
    try clear hfz24_1
    try clear hfz24_2
    try clear hfz7_0
    try clear hfz7_1
    try clear hfz7_2
    try clear hx311_0
    try clear hx311_1
    try clear hx311_2
    try clear hx311_3
    try clear hx311_4
    try clear hx312_0
    try clear hx312_1
    try clear p311
    try clear p312
    try clear q311
    try clear q312
    obtain ⟨kq, x5_2, rfl, HA, HJ2, BK308, BK309, HB⟩ := hcut
    cases kq with
    | zero => exact absurd HA.out (by simp [virgationref03_Term.j0])
    | succ kj2 =>
      have H := HA.out
      clear HA
      simp only [virgationref03_Term.j0] at H
      have H' := Aside0.mk H
      clear H
      have hnb25 := NB309_308.out
      have hnc25 := NB308_309.out
      have hcz26_0 : wc.cell? ⟨gb309, 0, none⟩ = some (.int .i64 a1_0) := (blk_cell BK309.out 0).trans rfl
      have hcz26_1 : wc.cell? ⟨gb309, 1, none⟩ = some (.int .i64 a1_1) := (blk_cell BK309.out 1).trans rfl
      have hcz26_2 : wc.cell? ⟨gb309, 2, none⟩ = some (.slice A1_2 l1_2.length c1_2) := (blk_cell BK309.out 2).trans rfl
      have hfz26_0 := blk_frozen BK309.out 0
      have hfz26_1 := blk_frozen BK309.out 1
      have hfz26_2 := blk_frozen BK309.out 2
      go_wp2
      go_loopg [5, 36] kj2 (fun kq v5 v36 w' => ∃ (x5_2 : ByteArray) (x36_2 : Int), v5 = .string x5_2 ∧ v36 = .int .i64 x36_2 ∧ Aside0 (virgationref03_Term.l0 kq x5_2 l1_2 (l1_2.length : Int) x36_2 l0_0 l0_1 = some r) ∧ Aside0 (kq ≤ kj2) ∧ Aside0 (w'.heap[gb308]? = some (.cells #[(.slice A0_0 l0_0.length c0_0), (.slice A0_1 l0_1.length c0_1)] 25 (0, 0))) ∧ Aside0 (w'.heap[gb309]? = some (.cells #[.int .i64 a1_0, .int .i64 a1_1, (.slice A1_2 l1_2.length c1_2)] 28 (0, 0))) ∧ Aside0 (Below w.heap.size w w'))
      case atStart => exact ⟨(x5_2), (0), (by first | rfl | (simp; done) | (simp [*]; done)), (by first | rfl | (simp; done) | (simp [*]; done)), H', ⟨Nat.le_refl _⟩, ⟨by (with_reducible repeat (first | refine blk_drewN ?_ _ | refine blk_drew ?_ | refine blk_alloc ?_ _)); exact BK308.out⟩, ⟨by (with_reducible repeat (first | refine blk_drewN ?_ _ | refine blk_drew ?_ | refine blk_alloc ?_ _)); exact BK309.out⟩, ⟨by repeat (first | (with_reducible first | exact HB.out | apply below_alloc | apply pw_below_drewN | apply below_drew1 | refine below_set ?_ GE308.out | refine below_set ?_ GE309.out) | exact HB.out)⟩⟩
      case round =>
        clear H'
        try clear c1
        try clear c2
        try clear p2
        try clear c3
        try clear p3
        try clear q3
        try clear hx3
        try clear c6
        try clear c8
        try clear c8b0
        try clear c8b1
        try clear c10
        try clear c10b0
        try clear c10b1
        try clear c10b2
        try clear c11
        try clear c13
        try clear c13b0
        try clear c13b1
        try clear c14
        try clear c14b0
        try clear c15
        try clear c15b0
        try clear c16
        try clear c19
        try clear c19b0
        try clear c20
        try clear c20b0
        try clear c21
        try clear c21b0
        try clear c21b1
        try clear c21b2
        try clear c22
        try clear c25
        try clear hcz12_0
        try clear hcz12_1
        try clear hcz12_2
        try clear hcz17_0
        try clear hcz17_1
        try clear hcz18_0
        try clear hcz18_1
        try clear hcz18_2
        try clear hcz23_0
        try clear hcz23_1
        try clear hcz24_0
        try clear hcz24_1
        try clear hcz24_2
        try clear hcz26_0
        try clear hcz26_1
        try clear hcz26_2
        try clear hcz7_0
        try clear hcz7_1
        try clear hcz7_2
        try clear hfz12_0
        try clear hfz12_1
        try clear hfz12_2
        try clear hfz17_0
        try clear hfz17_1
        try clear hfz18_0
        try clear hfz18_1
        try clear hfz18_2
        try clear hfz23_0
        try clear hfz23_1
        try clear hfz24_0
        try clear hfz24_1
        try clear hfz24_2
        try clear hfz26_0
        try clear hfz26_1
        try clear hfz26_2
        try clear hfz7_0
        try clear hfz7_1
        try clear hfz7_2
        try clear hx311_0
        try clear hx311_1
        try clear hx311_2
        try clear hx311_3
        try clear hx311_4
        try clear hx312_0
        try clear hx312_1
        try clear p2
        try clear p3
        try clear p311
        try clear p312
        try clear q3
        try clear q311
        try clear q312
        obtain ⟨x5_2, x36_2, rfl, rfl, HA, HK2, BK308, BK309, HB⟩ := hrel
        cases gk with
        | zero => exact absurd HA.out (by simp [virgationref03_Term.l0])
        | succ k2 =>
          have H := HA.out
          clear HA
          simp only [virgationref03_Term.l0] at H
          by_cases c27 : x36_2 < (l1_2.length : Int)
          · rw [if_pos c27] at H
            have c27b0 : decide (x36_2 < (l1_2.length : Int)) = true := decide_eq_true c27
            clear c27
            by_cases c28 : 0 ≤ x36_2
            · rw [if_pos c28] at H
              have c28b0 : decide (0 ≤ x36_2) = true := decide_eq_true c28
              clear c28
              by_cases c29 : x36_2 < (l1_2.length : Int)
              · rw [if_pos c29] at H
                have c29b0 : decide (x36_2 < (l1_2.length : Int)) = true := decide_eq_true c29
                clear c29
                by_cases c30 : (((rd_T28 l1_2 x36_2).f2).length : Int) = 0
                · rw [if_pos c30] at H
                  have c30b0 : ((((rd_T28 l1_2 x36_2).f2).length : Int) == 0) = true := beq_iff_eq.mpr c30
                  have c30b1 : ((((rd_T28 l1_2 x36_2).f2).length : Int) != 0) = false := bne_eq_false_iff_eq.mpr c30
                  clear c30
                  by_cases c31 : x5_2.size + 1 ≤ 9223372036854775807
                  · rw [if_pos c31] at H
                    have c31b0 := eq_true c31
                    have c31b1 : decide (x5_2.size + 1 ≤ 9223372036854775807) = true := decide_eq_true c31
                    try have c31b2 : (9223372036854775807 < x5_2.size + 1) = False := eq_false (Nat.not_lt.2 c31)
                    replace H := Option.bind_eq_some_iff.mp H
                    obtain ⟨t315, A320, H⟩ := H
                    replace H : (if (x5_2 ++ (⟨#[32]⟩ : ByteArray)).size + t315.size ≤ 9223372036854775807 then (virgationref03_Term.l0 k2 ((x5_2 ++ (⟨#[32]⟩ : ByteArray)) ++ t315) l1_2 (l1_2.length : Int) (wrap64 (x36_2 + 1)) l0_0 l0_1) else (none)) = some r := H
                    have A32 := Aside0.mk A320
                    clear A320
                    by_cases c33 : (x5_2 ++ (⟨#[32]⟩ : ByteArray)).size + t315.size ≤ 9223372036854775807
                    · rw [if_pos c33] at H
                      have c33b0 := eq_true c33
                      have c33b1 : decide ((x5_2 ++ (⟨#[32]⟩ : ByteArray)).size + t315.size ≤ 9223372036854775807) = true := decide_eq_true c33
                      try have c33b2 : (9223372036854775807 < (x5_2 ++ (⟨#[32]⟩ : ByteArray)).size + t315.size) = False := eq_false (Nat.not_lt.2 c33)
                      have c33n : x5_2.size + 1 + t315.size ≤ 9223372036854775807 := by have h_ := c33; simp only [ByteArray.size_append] at h_; exact h_
                      have c33n0 := eq_true c33n
                      have c33n1 : (9223372036854775807 < x5_2.size + 1 + t315.size) = False := eq_false (Nat.not_lt.2 c33n)
                      have H' := Aside0.mk H
                      clear H
                      have p313 : 0 ≤ (x36_2 : Int) := of_decide_eq_true (by first | (with_reducible assumption) | assumption)
                      have q313 : x36_2 < (l1_2.length : Int) := of_decide_eq_true (by first | (with_reducible assumption) | assumption)
                      obtain ⟨ad313, A313_2, c313_2, e313, hx313_0, hx313_1, hx313_2, hl313_2, hi313_2⟩ := at_T28 HR1_2.out x36_2 p313 q313
                      cases e313
                      replace hx313_0 := (HB.out.cell (World.block_lt_of_cell? w _ hx313_0)).trans hx313_0
                      replace hx313_1 := (HB.out.cell (World.block_lt_of_cell? w _ hx313_1)).trans hx313_1
                      replace hx313_2 := (HB.out.cell (World.block_lt_of_cell? w _ hx313_2)).trans hx313_2
                      have HR313_2 := Aside0.mk hi313_2
                      have HC313_2 := Aside0.mk hl313_2
                      clear hi313_2 hl313_2
                      replace p313 := eq_true p313
                      replace q313 := eq_true q313
                      go_wp2_with (first | ((with_reducible refine gate_dst (N := 7) rfl ?_); refine box_event ?hg (N := 7) ?hd (cs := #[.int .i64 0, .int .i64 0, .slice none 0 0]) (t := 28) ?hr ?_; (case hd => rfl); (case hg => rfl); (case hr => first | (go_simp; done) | (go_simp; rfl)); intro gb314 hg w34 hbox hb; have n0_ := Aside0.mk (blk_below (g := gb308) (o := .cells #[.slice A0_0 l0_0.length c0_0, .slice A0_1 l0_1.length c0_1] 25 (0, 0)) (by (with_reducible repeat (first | refine blk_drewN ?_ _ | refine blk_drew ?_ | refine blk_alloc ?_ _)); exact BK308.out) hb); have n1_ := Aside0.mk (blk_below (g := gb309) (o := .cells #[.int .i64 a1_0, .int .i64 a1_1, .slice (some ad313) l1_2.length c1_2] 28 (0, 0)) (by (with_reducible repeat (first | refine blk_drewN ?_ _ | refine blk_drew ?_ | refine blk_alloc ?_ _)); exact BK309.out) hb); have n2_ := Aside0.mk (below_step (by repeat (first | (with_reducible first | exact HB.out | apply below_alloc | apply pw_below_drewN | apply below_drew1 | refine below_set ?_ GE308.out | refine below_set ?_ GE309.out) | exact HB.out)) hb); have n3_ := Aside0.mk (hbox); have n4_ := Aside0.mk ((by rw [hg]; exact (below_size (by repeat (first | (with_reducible first | exact HB.out | apply below_alloc | apply pw_below_drewN | apply below_drew1 | refine below_set ?_ GE308.out | refine below_set ?_ GE309.out) | exact HB.out))) : w.heap.size ≤ gb314)); have n5_ := Aside0.mk ((by rw [hg]; exact (below_size (by repeat (first | (with_reducible first | exact HB.out | apply below_alloc | apply pw_below_drewN | apply below_drew1 | refine below_set ?_ GE308.out | refine below_set ?_ GE309.out) | exact HB.out))) : w.heap.size ≤ gb314)); have n6_ := Aside0.mk ((by rw [hg]; exact Nat.ne_of_lt (blk_lt (g := gb308) (o := .cells #[.slice A0_0 l0_0.length c0_0, .slice A0_1 l0_1.length c0_1] 25 (0, 0)) (by (with_reducible repeat (first | refine blk_drewN ?_ _ | refine blk_drew ?_ | refine blk_alloc ?_ _)); exact BK308.out)) : gb308 ≠ gb314)); have n7_ := Aside0.mk ((by rw [hg]; exact Nat.ne_of_gt (blk_lt (g := gb308) (o := .cells #[.slice A0_0 l0_0.length c0_0, .slice A0_1 l0_1.length c0_1] 25 (0, 0)) (by (with_reducible repeat (first | refine blk_drewN ?_ _ | refine blk_drew ?_ | refine blk_alloc ?_ _)); exact BK308.out)) : gb314 ≠ gb308)); have n8_ := Aside0.mk ((by rw [hg]; exact Nat.ne_of_lt (blk_lt (g := gb309) (o := .cells #[.int .i64 a1_0, .int .i64 a1_1, .slice (some ad313) l1_2.length c1_2] 28 (0, 0)) (by (with_reducible repeat (first | refine blk_drewN ?_ _ | refine blk_drew ?_ | refine blk_alloc ?_ _)); exact BK309.out)) : gb309 ≠ gb314)); have n9_ := Aside0.mk ((by rw [hg]; exact Nat.ne_of_gt (blk_lt (g := gb309) (o := .cells #[.int .i64 a1_0, .int .i64 a1_1, .slice (some ad313) l1_2.length c1_2] 28 (0, 0)) (by (with_reducible repeat (first | refine blk_drewN ?_ _ | refine blk_drew ?_ | refine blk_alloc ?_ _)); exact BK309.out)) : gb314 ≠ gb309)); clear BK308; clear BK309; clear HB; have BK308 := n0_; have BK309 := n1_; have HB := n2_; have BK314 := n3_; have GW314 := n4_; have GE314 := n5_; have NB308_314 := n6_; have NB314_308 := n7_; have NB309_314 := n8_; have NB314_309 := n9_; clear n0_ n1_ n2_ n3_ n4_ n5_ n6_ n7_ n8_ n9_; clear hb hbox hg; have hnb35 := NB314_308.out; have hnc35 := NB308_314.out; have hnb36 := NB314_309.out; have hnc36 := NB309_314.out; have hcz37_0 : w34.cell? ⟨gb314, 0, none⟩ = some (.int .i64 0) := (blk_cell BK314.out 0).trans rfl; have hcz37_1 : w34.cell? ⟨gb314, 1, none⟩ = some (.int .i64 0) := (blk_cell BK314.out 1).trans rfl; have hcz37_2 : w34.cell? ⟨gb314, 2, none⟩ = some (.slice none 0 0) := (blk_cell BK314.out 2).trans rfl; have hfz37_0 := blk_frozen BK314.out 0; have hfz37_1 := blk_frozen BK314.out 1; have hfz37_2 := blk_frozen BK314.out 2; have hnb38 := NB308_309.out; have hnc38 := NB309_308.out; have hcz39_0 : w34.cell? ⟨gb308, 0, none⟩ = some (.slice A0_0 l0_0.length c0_0) := (blk_cell BK308.out 0).trans rfl; have hcz39_1 : w34.cell? ⟨gb308, 1, none⟩ = some (.slice A0_1 l0_1.length c0_1) := (blk_cell BK308.out 1).trans rfl; have hfz39_0 := blk_frozen BK308.out 0; have hfz39_1 := blk_frozen BK308.out 1) | ((with_reducible refine gate_callee (f := 36) rfl ?_); refine goesL_ (some 48) rfl rfl Try.func36 (by kernel_rfl) rfl #[.agg #[.slice A0_0 l0_0.length c0_0, .slice A0_1 l0_1.length c0_1], .agg #[.int .i64 ((rd_T28 l1_2 x36_2).f0), .int .i64 ((rd_T28 l1_2 x36_2).f1), .slice A313_2 ((rd_T28 l1_2 x36_2).f2).length c313_2]] rfl (by (try simp only [List.map_toArray, List.map_cons, List.map_nil]); first | done | rfl | (simp only [List.length_drop, List.length_take]; rfl)) ?_; (with_reducible refine (ih k2 (by have := HJ2.out; have := HK2.out; omega) _ _ l0_0 _ _ l0_1 ((rd_T28 l1_2 x36_2).f0) ((rd_T28 l1_2 x36_2).f1) _ _ ((rd_T28 l1_2 x36_2).f2) t315 _ ?side1 ?side2 ?side3 ?side4 ?side5 ?side6 A32.out).mono ?_); (case side1 => exact Kd.C_below HR0_0.out (by repeat (first | (with_reducible first | exact HB.out | apply below_alloc | apply pw_below_drewN | apply below_drew1 | refine below_set ?_ GE308.out | refine below_set ?_ GE309.out | refine below_set ?_ GE314.out) | exact HB.out))); (case side2 => exact HC0_0.out); (case side3 => exact Kd.C_below HR0_1.out (by repeat (first | (with_reducible first | exact HB.out | apply below_alloc | apply pw_below_drewN | apply below_drew1 | refine below_set ?_ GE308.out | refine below_set ?_ GE309.out | refine below_set ?_ GE314.out) | exact HB.out))); (case side4 => exact HC0_1.out); (case side5 => exact Kd.C_below HR313_2.out (by repeat (first | (with_reducible first | exact HB.out | apply below_alloc | apply pw_below_drewN | apply below_drew1 | refine below_set ?_ GE308.out | refine below_set ?_ GE309.out | refine below_set ?_ GE314.out) | exact HB.out))); (case side6 => exact HC313_2.out); rintro e w40 ⟨rfl, hb⟩; refine ⟨_, rfl, ?_⟩; have n0_ := Aside0.mk (blk_below (g := gb308) (o := .cells #[.slice A0_0 l0_0.length c0_0, .slice A0_1 l0_1.length c0_1] 25 (0, 0)) (by (with_reducible repeat (first | refine blk_drewN ?_ _ | refine blk_drew ?_ | refine blk_alloc ?_ _)); refine blk_far ?_ NB308_314.out _; (with_reducible repeat (first | refine blk_drewN ?_ _ | refine blk_drew ?_ | refine blk_alloc ?_ _)); refine blk_far ?_ NB308_314.out _; (with_reducible repeat (first | refine blk_drewN ?_ _ | refine blk_drew ?_ | refine blk_alloc ?_ _)); refine blk_far ?_ NB308_314.out _; (with_reducible repeat (first | refine blk_drewN ?_ _ | refine blk_drew ?_ | refine blk_alloc ?_ _)); exact BK308.out) hb); have n1_ := Aside0.mk (blk_below (g := gb309) (o := .cells #[.int .i64 a1_0, .int .i64 a1_1, .slice (some ad313) l1_2.length c1_2] 28 (0, 0)) (by (with_reducible repeat (first | refine blk_drewN ?_ _ | refine blk_drew ?_ | refine blk_alloc ?_ _)); refine blk_far ?_ NB309_314.out _; (with_reducible repeat (first | refine blk_drewN ?_ _ | refine blk_drew ?_ | refine blk_alloc ?_ _)); refine blk_far ?_ NB309_314.out _; (with_reducible repeat (first | refine blk_drewN ?_ _ | refine blk_drew ?_ | refine blk_alloc ?_ _)); refine blk_far ?_ NB309_314.out _; (with_reducible repeat (first | refine blk_drewN ?_ _ | refine blk_drew ?_ | refine blk_alloc ?_ _)); exact BK309.out) hb); have n2_ := Aside0.mk (blk_below (g := gb314) (o := .cells #[.int .i64 ((rd_T28 l1_2 x36_2).f0), .int .i64 ((rd_T28 l1_2 x36_2).f1), .slice A313_2 ((rd_T28 l1_2 x36_2).f2).length c313_2] 28 (0, 0)) (by (with_reducible repeat (first | refine blk_drewN ?_ _ | refine blk_drew ?_ | refine blk_alloc ?_ _)); refine blk_put (cs := #[.int .i64 ((rd_T28 l1_2 x36_2).f0), .int .i64 ((rd_T28 l1_2 x36_2).f1), .slice none 0 0]) ?_ 2 _ rfl; (with_reducible repeat (first | refine blk_drewN ?_ _ | refine blk_drew ?_ | refine blk_alloc ?_ _)); refine blk_put (cs := #[.int .i64 ((rd_T28 l1_2 x36_2).f0), .int .i64 0, .slice none 0 0]) ?_ 1 _ rfl; (with_reducible repeat (first | refine blk_drewN ?_ _ | refine blk_drew ?_ | refine blk_alloc ?_ _)); refine blk_put (cs := #[.int .i64 0, .int .i64 0, .slice none 0 0]) ?_ 0 _ rfl; (with_reducible repeat (first | refine blk_drewN ?_ _ | refine blk_drew ?_ | refine blk_alloc ?_ _)); exact BK314.out) hb); have n3_ := Aside0.mk (below_step (by repeat (first | (with_reducible first | exact HB.out | apply below_alloc | apply pw_below_drewN | apply below_drew1 | refine below_set ?_ GE308.out | refine below_set ?_ GE309.out | refine below_set ?_ GE314.out) | exact HB.out)) hb); clear BK308; clear BK309; clear BK314; clear HB; have BK308 := n0_; have BK309 := n1_; have BK314 := n2_; have HB := n3_; clear n0_ n1_ n2_ n3_; (try clear hb); (try clear hb2); (try clear hk); (try clear hi)))
                      go_roundg k2
                      case measure => have := HJ2.out; have := HK2.out; omega
                      case rel => exact ⟨((x5_2 ++ (⟨#[32]⟩ : ByteArray)) ++ t315), (wrap64 (x36_2 + 1)), (by first | rfl | (simp; done) | (simp [*]; done)), (by first | rfl | (simp; done) | (simp [*]; done)), H', ⟨by have := HJ2.out; have := HK2.out; omega⟩, ⟨by (with_reducible repeat (first | refine blk_drewN ?_ _ | refine blk_drew ?_ | refine blk_alloc ?_ _)); exact BK308.out⟩, ⟨by (with_reducible repeat (first | refine blk_drewN ?_ _ | refine blk_drew ?_ | refine blk_alloc ?_ _)); exact BK309.out⟩, ⟨by repeat (first | (with_reducible first | exact HB.out | apply below_alloc | apply pw_below_drewN | apply below_drew1 | refine below_set ?_ GE308.out | refine below_set ?_ GE309.out | refine below_set ?_ GE314.out) | exact HB.out)⟩⟩
                    · rw [if_neg c33] at H
                      exact absurd H (by simp)
                  · rw [if_neg c31] at H
                    exact absurd H (by simp)
                · rw [if_neg c30] at H
                  have c30b0 : ((((rd_T28 l1_2 x36_2).f2).length : Int) == 0) = false := beq_eq_false_iff_ne.mpr c30
                  have c30b1 : ((((rd_T28 l1_2 x36_2).f2).length : Int) != 0) = true := bne_iff_ne.mpr c30
                  have c30b2 : ¬ (((rd_T28 l1_2 x36_2).f2) = []) := fun h_ => c30 (by rw [h_]; rfl)
                  by_cases c41 : x5_2.size + 2 ≤ 9223372036854775807
                  · rw [if_pos c41] at H
                    have c41b0 := eq_true c41
                    have c41b1 : decide (x5_2.size + 2 ≤ 9223372036854775807) = true := decide_eq_true c41
                    try have c41b2 : (9223372036854775807 < x5_2.size + 2) = False := eq_false (Nat.not_lt.2 c41)
                    replace H := Option.bind_eq_some_iff.mp H
                    obtain ⟨t316, A420, H⟩ := H
                    replace H : (if (x5_2 ++ (⟨#[32, 40]⟩ : ByteArray)).size + t316.size ≤ 9223372036854775807 then (if ((x5_2 ++ (⟨#[32, 40]⟩ : ByteArray)) ++ t316).size + 1 ≤ 9223372036854775807 then (virgationref03_Term.l0 k2 (((x5_2 ++ (⟨#[32, 40]⟩ : ByteArray)) ++ t316) ++ (⟨#[41]⟩ : ByteArray)) l1_2 (l1_2.length : Int) (wrap64 (x36_2 + 1)) l0_0 l0_1) else (none)) else (none)) = some r := H
                    have A42 := Aside0.mk A420
                    clear A420
                    by_cases c43 : (x5_2 ++ (⟨#[32, 40]⟩ : ByteArray)).size + t316.size ≤ 9223372036854775807
                    · rw [if_pos c43] at H
                      have c43b0 := eq_true c43
                      have c43b1 : decide ((x5_2 ++ (⟨#[32, 40]⟩ : ByteArray)).size + t316.size ≤ 9223372036854775807) = true := decide_eq_true c43
                      try have c43b2 : (9223372036854775807 < (x5_2 ++ (⟨#[32, 40]⟩ : ByteArray)).size + t316.size) = False := eq_false (Nat.not_lt.2 c43)
                      have c43n : x5_2.size + 2 + t316.size ≤ 9223372036854775807 := by have h_ := c43; simp only [ByteArray.size_append] at h_; exact h_
                      have c43n0 := eq_true c43n
                      have c43n1 : (9223372036854775807 < x5_2.size + 2 + t316.size) = False := eq_false (Nat.not_lt.2 c43n)
                      by_cases c44 : ((x5_2 ++ (⟨#[32, 40]⟩ : ByteArray)) ++ t316).size + 1 ≤ 9223372036854775807
                      · rw [if_pos c44] at H
                        have c44b0 := eq_true c44
                        have c44b1 : decide (((x5_2 ++ (⟨#[32, 40]⟩ : ByteArray)) ++ t316).size + 1 ≤ 9223372036854775807) = true := decide_eq_true c44
                        try have c44b2 : (9223372036854775807 < ((x5_2 ++ (⟨#[32, 40]⟩ : ByteArray)) ++ t316).size + 1) = False := eq_false (Nat.not_lt.2 c44)
                        have c44n : x5_2.size + 2 + t316.size + 1 ≤ 9223372036854775807 := by have h_ := c44; simp only [ByteArray.size_append] at h_; exact h_
                        have c44n0 := eq_true c44n
                        have c44n1 : (9223372036854775807 < x5_2.size + 2 + t316.size + 1) = False := eq_false (Nat.not_lt.2 c44n)
                        have H' := Aside0.mk H
                        clear H
                        have p313 : 0 ≤ (x36_2 : Int) := of_decide_eq_true (by first | (with_reducible assumption) | assumption)
                        have q313 : x36_2 < (l1_2.length : Int) := of_decide_eq_true (by first | (with_reducible assumption) | assumption)
                        obtain ⟨ad313, A313_2, c313_2, e313, hx313_0, hx313_1, hx313_2, hl313_2, hi313_2⟩ := at_T28 HR1_2.out x36_2 p313 q313
                        cases e313
                        replace hx313_0 := (HB.out.cell (World.block_lt_of_cell? w _ hx313_0)).trans hx313_0
                        replace hx313_1 := (HB.out.cell (World.block_lt_of_cell? w _ hx313_1)).trans hx313_1
                        replace hx313_2 := (HB.out.cell (World.block_lt_of_cell? w _ hx313_2)).trans hx313_2
                        have HR313_2 := Aside0.mk hi313_2
                        have HC313_2 := Aside0.mk hl313_2
                        clear hi313_2 hl313_2
                        replace p313 := eq_true p313
                        replace q313 := eq_true q313
                        go_wp2_with (first | ((with_reducible refine gate_dst (N := 7) rfl ?_); refine box_event ?hg (N := 7) ?hd (cs := #[.int .i64 0, .int .i64 0, .slice none 0 0]) (t := 28) ?hr ?_; (case hd => rfl); (case hg => rfl); (case hr => first | (go_simp; done) | (go_simp; rfl)); intro gb314 hg w45 hbox hb; have n0_ := Aside0.mk (blk_below (g := gb308) (o := .cells #[.slice A0_0 l0_0.length c0_0, .slice A0_1 l0_1.length c0_1] 25 (0, 0)) (by (with_reducible repeat (first | refine blk_drewN ?_ _ | refine blk_drew ?_ | refine blk_alloc ?_ _)); exact BK308.out) hb); have n1_ := Aside0.mk (blk_below (g := gb309) (o := .cells #[.int .i64 a1_0, .int .i64 a1_1, .slice (some ad313) l1_2.length c1_2] 28 (0, 0)) (by (with_reducible repeat (first | refine blk_drewN ?_ _ | refine blk_drew ?_ | refine blk_alloc ?_ _)); exact BK309.out) hb); have n2_ := Aside0.mk (below_step (by repeat (first | (with_reducible first | exact HB.out | apply below_alloc | apply pw_below_drewN | apply below_drew1 | refine below_set ?_ GE308.out | refine below_set ?_ GE309.out) | exact HB.out)) hb); have n3_ := Aside0.mk (hbox); have n4_ := Aside0.mk ((by rw [hg]; exact (below_size (by repeat (first | (with_reducible first | exact HB.out | apply below_alloc | apply pw_below_drewN | apply below_drew1 | refine below_set ?_ GE308.out | refine below_set ?_ GE309.out) | exact HB.out))) : w.heap.size ≤ gb314)); have n5_ := Aside0.mk ((by rw [hg]; exact (below_size (by repeat (first | (with_reducible first | exact HB.out | apply below_alloc | apply pw_below_drewN | apply below_drew1 | refine below_set ?_ GE308.out | refine below_set ?_ GE309.out) | exact HB.out))) : w.heap.size ≤ gb314)); have n6_ := Aside0.mk ((by rw [hg]; exact Nat.ne_of_lt (blk_lt (g := gb308) (o := .cells #[.slice A0_0 l0_0.length c0_0, .slice A0_1 l0_1.length c0_1] 25 (0, 0)) (by (with_reducible repeat (first | refine blk_drewN ?_ _ | refine blk_drew ?_ | refine blk_alloc ?_ _)); exact BK308.out)) : gb308 ≠ gb314)); have n7_ := Aside0.mk ((by rw [hg]; exact Nat.ne_of_gt (blk_lt (g := gb308) (o := .cells #[.slice A0_0 l0_0.length c0_0, .slice A0_1 l0_1.length c0_1] 25 (0, 0)) (by (with_reducible repeat (first | refine blk_drewN ?_ _ | refine blk_drew ?_ | refine blk_alloc ?_ _)); exact BK308.out)) : gb314 ≠ gb308)); have n8_ := Aside0.mk ((by rw [hg]; exact Nat.ne_of_lt (blk_lt (g := gb309) (o := .cells #[.int .i64 a1_0, .int .i64 a1_1, .slice (some ad313) l1_2.length c1_2] 28 (0, 0)) (by (with_reducible repeat (first | refine blk_drewN ?_ _ | refine blk_drew ?_ | refine blk_alloc ?_ _)); exact BK309.out)) : gb309 ≠ gb314)); have n9_ := Aside0.mk ((by rw [hg]; exact Nat.ne_of_gt (blk_lt (g := gb309) (o := .cells #[.int .i64 a1_0, .int .i64 a1_1, .slice (some ad313) l1_2.length c1_2] 28 (0, 0)) (by (with_reducible repeat (first | refine blk_drewN ?_ _ | refine blk_drew ?_ | refine blk_alloc ?_ _)); exact BK309.out)) : gb314 ≠ gb309)); clear BK308; clear BK309; clear HB; have BK308 := n0_; have BK309 := n1_; have HB := n2_; have BK314 := n3_; have GW314 := n4_; have GE314 := n5_; have NB308_314 := n6_; have NB314_308 := n7_; have NB309_314 := n8_; have NB314_309 := n9_; clear n0_ n1_ n2_ n3_ n4_ n5_ n6_ n7_ n8_ n9_; clear hb hbox hg; have hnb46 := NB314_308.out; have hnc46 := NB308_314.out; have hnb47 := NB314_309.out; have hnc47 := NB309_314.out; have hcz48_0 : w45.cell? ⟨gb314, 0, none⟩ = some (.int .i64 0) := (blk_cell BK314.out 0).trans rfl; have hcz48_1 : w45.cell? ⟨gb314, 1, none⟩ = some (.int .i64 0) := (blk_cell BK314.out 1).trans rfl; have hcz48_2 : w45.cell? ⟨gb314, 2, none⟩ = some (.slice none 0 0) := (blk_cell BK314.out 2).trans rfl; have hfz48_0 := blk_frozen BK314.out 0; have hfz48_1 := blk_frozen BK314.out 1; have hfz48_2 := blk_frozen BK314.out 2; have hnb49 := NB308_309.out; have hnc49 := NB309_308.out; have hcz50_0 : w45.cell? ⟨gb308, 0, none⟩ = some (.slice A0_0 l0_0.length c0_0) := (blk_cell BK308.out 0).trans rfl; have hcz50_1 : w45.cell? ⟨gb308, 1, none⟩ = some (.slice A0_1 l0_1.length c0_1) := (blk_cell BK308.out 1).trans rfl; have hfz50_0 := blk_frozen BK308.out 0; have hfz50_1 := blk_frozen BK308.out 1) | ((with_reducible refine gate_callee (f := 36) rfl ?_); refine goesL_ (some 54) rfl rfl Try.func36 (by kernel_rfl) rfl #[.agg #[.slice A0_0 l0_0.length c0_0, .slice A0_1 l0_1.length c0_1], .agg #[.int .i64 ((rd_T28 l1_2 x36_2).f0), .int .i64 ((rd_T28 l1_2 x36_2).f1), .slice A313_2 ((rd_T28 l1_2 x36_2).f2).length c313_2]] rfl (by (try simp only [List.map_toArray, List.map_cons, List.map_nil]); first | done | rfl | (simp only [List.length_drop, List.length_take]; rfl)) ?_; (with_reducible refine (ih k2 (by have := HJ2.out; have := HK2.out; omega) _ _ l0_0 _ _ l0_1 ((rd_T28 l1_2 x36_2).f0) ((rd_T28 l1_2 x36_2).f1) _ _ ((rd_T28 l1_2 x36_2).f2) t316 _ ?side1 ?side2 ?side3 ?side4 ?side5 ?side6 A42.out).mono ?_); (case side1 => exact Kd.C_below HR0_0.out (by repeat (first | (with_reducible first | exact HB.out | apply below_alloc | apply pw_below_drewN | apply below_drew1 | refine below_set ?_ GE308.out | refine below_set ?_ GE309.out | refine below_set ?_ GE314.out) | exact HB.out))); (case side2 => exact HC0_0.out); (case side3 => exact Kd.C_below HR0_1.out (by repeat (first | (with_reducible first | exact HB.out | apply below_alloc | apply pw_below_drewN | apply below_drew1 | refine below_set ?_ GE308.out | refine below_set ?_ GE309.out | refine below_set ?_ GE314.out) | exact HB.out))); (case side4 => exact HC0_1.out); (case side5 => exact Kd.C_below HR313_2.out (by repeat (first | (with_reducible first | exact HB.out | apply below_alloc | apply pw_below_drewN | apply below_drew1 | refine below_set ?_ GE308.out | refine below_set ?_ GE309.out | refine below_set ?_ GE314.out) | exact HB.out))); (case side6 => exact HC313_2.out); rintro e w51 ⟨rfl, hb⟩; refine ⟨_, rfl, ?_⟩; have n0_ := Aside0.mk (blk_below (g := gb308) (o := .cells #[.slice A0_0 l0_0.length c0_0, .slice A0_1 l0_1.length c0_1] 25 (0, 0)) (by (with_reducible repeat (first | refine blk_drewN ?_ _ | refine blk_drew ?_ | refine blk_alloc ?_ _)); refine blk_far ?_ NB308_314.out _; (with_reducible repeat (first | refine blk_drewN ?_ _ | refine blk_drew ?_ | refine blk_alloc ?_ _)); refine blk_far ?_ NB308_314.out _; (with_reducible repeat (first | refine blk_drewN ?_ _ | refine blk_drew ?_ | refine blk_alloc ?_ _)); refine blk_far ?_ NB308_314.out _; (with_reducible repeat (first | refine blk_drewN ?_ _ | refine blk_drew ?_ | refine blk_alloc ?_ _)); exact BK308.out) hb); have n1_ := Aside0.mk (blk_below (g := gb309) (o := .cells #[.int .i64 a1_0, .int .i64 a1_1, .slice (some ad313) l1_2.length c1_2] 28 (0, 0)) (by (with_reducible repeat (first | refine blk_drewN ?_ _ | refine blk_drew ?_ | refine blk_alloc ?_ _)); refine blk_far ?_ NB309_314.out _; (with_reducible repeat (first | refine blk_drewN ?_ _ | refine blk_drew ?_ | refine blk_alloc ?_ _)); refine blk_far ?_ NB309_314.out _; (with_reducible repeat (first | refine blk_drewN ?_ _ | refine blk_drew ?_ | refine blk_alloc ?_ _)); refine blk_far ?_ NB309_314.out _; (with_reducible repeat (first | refine blk_drewN ?_ _ | refine blk_drew ?_ | refine blk_alloc ?_ _)); exact BK309.out) hb); have n2_ := Aside0.mk (blk_below (g := gb314) (o := .cells #[.int .i64 ((rd_T28 l1_2 x36_2).f0), .int .i64 ((rd_T28 l1_2 x36_2).f1), .slice A313_2 ((rd_T28 l1_2 x36_2).f2).length c313_2] 28 (0, 0)) (by (with_reducible repeat (first | refine blk_drewN ?_ _ | refine blk_drew ?_ | refine blk_alloc ?_ _)); refine blk_put (cs := #[.int .i64 ((rd_T28 l1_2 x36_2).f0), .int .i64 ((rd_T28 l1_2 x36_2).f1), .slice none 0 0]) ?_ 2 _ rfl; (with_reducible repeat (first | refine blk_drewN ?_ _ | refine blk_drew ?_ | refine blk_alloc ?_ _)); refine blk_put (cs := #[.int .i64 ((rd_T28 l1_2 x36_2).f0), .int .i64 0, .slice none 0 0]) ?_ 1 _ rfl; (with_reducible repeat (first | refine blk_drewN ?_ _ | refine blk_drew ?_ | refine blk_alloc ?_ _)); refine blk_put (cs := #[.int .i64 0, .int .i64 0, .slice none 0 0]) ?_ 0 _ rfl; (with_reducible repeat (first | refine blk_drewN ?_ _ | refine blk_drew ?_ | refine blk_alloc ?_ _)); exact BK314.out) hb); have n3_ := Aside0.mk (below_step (by repeat (first | (with_reducible first | exact HB.out | apply below_alloc | apply pw_below_drewN | apply below_drew1 | refine below_set ?_ GE308.out | refine below_set ?_ GE309.out | refine below_set ?_ GE314.out) | exact HB.out)) hb); clear BK308; clear BK309; clear BK314; clear HB; have BK308 := n0_; have BK309 := n1_; have BK314 := n2_; have HB := n3_; clear n0_ n1_ n2_ n3_; (try clear hb); (try clear hb2); (try clear hk); (try clear hi)))
                        go_roundg k2
                        case measure => have := HJ2.out; have := HK2.out; omega
                        case rel => exact ⟨(((x5_2 ++ (⟨#[32, 40]⟩ : ByteArray)) ++ t316) ++ (⟨#[41]⟩ : ByteArray)), (wrap64 (x36_2 + 1)), (by first | rfl | (simp; done) | (simp [*]; done)), (by first | rfl | (simp; done) | (simp [*]; done)), H', ⟨by have := HJ2.out; have := HK2.out; omega⟩, ⟨by (with_reducible repeat (first | refine blk_drewN ?_ _ | refine blk_drew ?_ | refine blk_alloc ?_ _)); exact BK308.out⟩, ⟨by (with_reducible repeat (first | refine blk_drewN ?_ _ | refine blk_drew ?_ | refine blk_alloc ?_ _)); exact BK309.out⟩, ⟨by repeat (first | (with_reducible first | exact HB.out | apply below_alloc | apply pw_below_drewN | apply below_drew1 | refine below_set ?_ GE308.out | refine below_set ?_ GE309.out | refine below_set ?_ GE314.out) | exact HB.out)⟩⟩
                      · rw [if_neg c44] at H
                        exact absurd H (by simp)
                    · rw [if_neg c43] at H
                      exact absurd H (by simp)
                  · rw [if_neg c41] at H
                    exact absurd H (by simp)
              · rw [if_neg c29] at H
                exact absurd H (by simp)
            · rw [if_neg c28] at H
              exact absurd H (by simp)
          · rw [if_neg c27] at H
            have c27b0 : decide (x36_2 < (l1_2.length : Int)) = false := decide_eq_false c27
            clear c27
            obtain rfl := Option.some.inj H
            go_wp2
            go_ret
            exact ⟨by first | rfl | (simp [errW_none, errW_some] <;> rfl) | (simp [*, errW_none, errW_some] <;> rfl), by repeat (first | (with_reducible first | exact HB.out | apply below_alloc | apply pw_below_drewN | apply below_drew1 | refine below_set ?_ GE308.out | refine below_set ?_ GE309.out) | exact HB.out)⟩
end Go.Proofs.Ytnfgpepggehegaa.I
namespace Go.Proofs.Ytnfgpepggehegaa.I
open Go.RowKit Go.Proofs.YtnfgpepggehegaaW.PrintWords Go.Proofs.YtnfgpepggehegaaW.PrintLast Go.Proofs.YtnfgpepggehegaaW.PrintMore
attribute [local go_sem] max2_int min2_int max_two min_two max_three min_three max_four min_four
set_option linter.unusedVariables false
set_option maxRecDepth 100000
set_option linter.unusedSimpArgs false
def SymLine (tx : ByteArray) (a : Int) (x : S87) (a2 : Int) : Prop :=
  ∃ (K : Nat) (b e c d : Int), virgationref03_begins.f tx a (⟨#[115, 121, 109, 98, 111, 108, 32]⟩ : ByteArray) = some true ∧ wrap64 (a + 7) = b ∧ virgationref03_word.f K tx b = some e ∧ (0 ≤ b ∧ b ≤ e ∧ e ≤ (tx.size : Int)) ∧ x.f0 = tx.extract b.toNat e.toNat ∧ virgationref02_Name.f K (tx.extract b.toNat e.toNat) = some true ∧ virgationref03_begins.f tx e (⟨#[32]⟩ : ByteArray) = some true ∧ wrap64 (e + 1) = c ∧ virgationref03_number.f K tx c = some (x.f1, d, true) ∧ virgationref03_begins.f tx d (⟨#[10]⟩ : ByteArray) = some true ∧ wrap64 (d + 1) = a2
def Syms (tx : ByteArray) : List S87 → Int → Int → Prop
  | [], a, a2 => a = a2 ∧ virgationref03_begins.f tx a (⟨#[115, 121, 109, 98, 111, 108, 32]⟩ : ByteArray) = some false
  | x :: xs, a, a2 => ∃ m, SymLine tx a x m ∧ Syms tx xs m a2
def FunLine (tx : ByteArray) (a : Int) (x : S84) (bd : Int) (a2 : Int) : Prop :=
  ∃ (K : Nat) (b e c d : Int) (p q : Nat), virgationref03_begins.f tx a (⟨#[102, 117, 110, 32]⟩ : ByteArray) = some true ∧ wrap64 (a + 4) = b ∧ virgationref03_word.f K tx b = some e ∧ (0 ≤ b ∧ b ≤ e ∧ e ≤ (tx.size : Int)) ∧ x.f0 = tx.extract b.toNat e.toNat ∧ virgationref02_Name.f K (tx.extract b.toNat e.toNat) = some true ∧ virgationref03_begins.f tx e (⟨#[32, 58, 32]⟩ : ByteArray) = some true ∧ wrap64 (e + 3) = c ∧ virgationref01_Parse.f K tx c = some (x.f1.f0, d, true) ∧ virgationref03_begins.f tx d (⟨#[32, 61, 32]⟩ : ByteArray) = some true ∧ wrap64 (d + 3) = bd ∧ (d = (p : Int) ∧ p ≤ q ∧ q < tx.size ∧ q < 1000000) ∧ (∀ j : Nat, p ≤ j → j < q → (bt tx (j : Int) ≠ 10)) ∧ bt tx (q : Int) = 10 ∧ ((q + 1 : Nat) : Int) = a2 ∧ x.f2 = ⟨0, 0, []⟩
def Funs (tx : ByteArray) : List S84 → List Int → Int → Prop
  | [], bs, a => bs = [] ∧ a = (tx.size : Int) ∧ virgationref03_begins.f tx a (⟨#[102, 117, 110, 32]⟩ : ByteArray) = some false
  | x :: xs, bs, a => ∃ b bs' m, bs = b :: bs' ∧ FunLine tx a x b m ∧ Funs tx xs bs' m
def NmS (w0 : World) (g2 g5 : Nat) (A0 : Option Addr) (c0 : Nat) (A1 : Option Addr) (c1 : Nat) (Ab : Option Addr) (cb : Nat) (sy : List S87) (fu : List S84) (bo : List Int) (w : World) : Prop :=
  k87.R 87 w w0.heap.size (fun _ => True) (.slice A0 sy.length c0) sy ∧ k84.R 84 w w0.heap.size (fun _ => True) (.slice A1 fu.length c1) fu ∧ Kd.R (Kd.int .i64) 3 w w0.heap.size (fun _ => True) (.slice Ab bo.length cb) bo ∧ w.heap[g5]? = some (.cells #[.slice A0 sy.length c0, .slice A1 fu.length c1] 25 (0, 0)) ∧ w.heap[g2]? = some (.cells #[.slice none 0 0, .slice none 0 0] 25 (0, 0)) ∧ Below w0.heap.size w0 w ∧ w0.heap.size ≤ g2 ∧ w0.heap.size ≤ g5 ∧ g2 ≠ g5
theorem NmS.below {w0 : World} {g2 g5 : Nat} {A0 : Option Addr} {c0 : Nat} {A1 : Option Addr} {c1 : Nat} {Ab : Option Addr} {cb : Nat} {sy : List S87} {fu : List S84} {bo : List Int} {w w1 : World} (h : NmS w0 g2 g5 A0 c0 A1 c1 Ab cb sy fu bo w) (hb : Below w.heap.size w w1) : NmS w0 g2 g5 A0 c0 A1 c1 Ab cb sy fu bo w1 := by
  obtain ⟨h1, h2, h3, h4, h5, h6, h7⟩ := h
  exact ⟨Kd.R_below h1 hb, Kd.R_below h2 hb, Kd.R_below h3 hb, blk_below h4 hb, blk_below h5 hb, below_step h6 hb, h7⟩
set_option maxHeartbeats 16000000 in
theorem names_calls (tx : ByteArray) (a1 : Int) (sy : List S87) (fu : List S84) (bo : List Int) (w : World) (hsy : Syms tx sy 0 a1) (hfu : Funs tx fu bo a1) (hl1 : sy.length ≤ 1000) (hl2 : fu.length ≤ 1000) (hl3 : bo.length ≤ 1000) (hsz : tx.size ≤ 1000000) :
    Calls Try.prog 61 #[.string tx] w fun e w' => ∃ A0 c0 A1 c1 Ab cb, e = .returned (.tuple #[.agg #[.slice A0 sy.length c0, .slice A1 fu.length c1], .slice Ab bo.length cb, .bool true]) ∧ k87.R 87 w' w.heap.size (fun _ => True) (.slice A0 sy.length c0) sy ∧ k84.R 84 w' w.heap.size (fun _ => True) (.slice A1 fu.length c1) fu ∧ Kd.R (Kd.int .i64) 3 w' w.heap.size (fun _ => True) (.slice Ab bo.length cb) bo ∧ Below w.heap.size w w' := by
  have hu25 := Try.underlying25
  have hu53 := Try.underlying53
  have HSY := Aside0.mk hsy
  have HFU := Aside0.mk hfu
  have HL1 := Aside0.mk hl1
  have HL2 := Aside0.mk hl2
  have HL3 := Aside0.mk hl3
  have HSZ := Aside0.mk hsz
  clear hsy hfu hl1 hl2 hl3 hsz
  go_enter Try.func61, Try.ntmps61
  go_wp2_with (first
    | ((with_reducible refine gate_dst (N := 2) rfl ?_)
       refine box_event ?hg (N := 2) ?hd (cs := #[.slice none 0 0, .slice none 0 0]) (t := 25) ?hr ?_
       (case hd => rfl)
       (case hg => rfl)
       (case hr => first | (go_simp; done) | (go_simp; rfl))
       intro g2 hg2 w2 hbox hb2
       have S2 := Aside0.mk hbox
       have HB2 := Aside0.mk hb2
       have HG2 := Aside0.mk (show w.heap.size ≤ g2 from by omega)
       clear hbox hb2 hg2)
    | ((with_reducible refine gate_dst (N := 5) rfl ?_)
       refine box_event ?hg (N := 5) ?hd (cs := #[.slice none 0 0, .slice none 0 0]) (t := 25) ?hr ?_
       (case hd => rfl)
       (case hg => rfl)
       (case hr => first | (go_simp; done) | (go_simp; rfl))
       intro g5 hg5 w5 hbox hb5
       have ST := Aside0.mk (show NmS w g2 g5 none 0 none 0 none 0 [] [] [] w5 from ⟨Kd.R_nil _ _ _ _ _, Kd.R_nil _ _ _ _ _, Kd.R_nil _ _ _ _ _, hbox, blk_below S2.out hb5, below_step HB2.out hb5, HG2.out, (by have := HB2.out.size; omega), (by have := blk_lt S2.out; omega)⟩)
       clear hbox hb5 hg5 S2 HB2 HG2))
  go_loopg [7] sy.length (fun kq v7 wr => ∃ (a : Int) (dn rs : List S87) (A0 : Option Addr) (c0 : Nat), v7 = .int .i64 a ∧ Aside0 (kq = rs.length) ∧ Aside0 (sy = dn ++ rs) ∧ Aside0 (Syms tx rs a a1) ∧ Aside0 (NmS w g2 g5 A0 c0 none 0 none 0 dn [] [] wr))
  case atStart => exact ⟨0, [], sy, none, 0, rfl, ⟨rfl⟩, ⟨rfl⟩, HSY, ST⟩
  case round =>
    clear ST HSY
    obtain ⟨a, dn, rs, A0, c0, rfl, HK, HDN, HRS, ST⟩ := hrel
    cases rs with
    | nil =>
      have h1 := HRS.out
      unfold Syms at h1
      obtain ⟨rfl, hbg⟩ := h1
      have hdn := HDN.out
      rw [List.append_nil] at hdn
      subst hdn
      have HBG := Aside0.mk hbg
      clear hbg HRS HDN HK
      go_wp2_with (first | (go_at_call 63; (with_reducible refine (virgationref03_begins.calls tx a (⟨#[115, 121, 109, 98, 111, 108, 32]⟩ : ByteArray) false _ HBG.out).mono ?_); rintro e9 w9 ⟨rfl, hd9⟩; have ST1 := Aside0.mk (NmS.below ST.out hd9.below); clear hd9 ST; have ST := ST1; clear ST1))
      go_loopg [6, 7] fu.length (fun kq v6 v7 wr => ∃ (a : Int) (dn rs : List S84) (bd bs : List Int) (A1 : Option Addr) (c1 : Nat) (Ab : Option Addr) (cb : Nat), v6 = .slice Ab bd.length cb ∧ v7 = .int .i64 a ∧ Aside0 (kq = rs.length) ∧ Aside0 (fu = dn ++ rs) ∧ Aside0 (bo = bd ++ bs) ∧ Aside0 (Funs tx rs bs a) ∧ Aside0 (NmS w g2 g5 A0 c0 A1 c1 Ab cb sy dn bd wr))
      case atStart => exact ⟨_, [], fu, [], bo, none, 0, none, 0, rfl, rfl, ⟨rfl⟩, ⟨rfl⟩, ⟨rfl⟩, HFU, ST⟩
      case round =>
        clear ST HFU HBG
        obtain ⟨a, dn, rs, bd, bs, A1, c1, Ab, cb, rfl, rfl, HK, HDN, HBD, HRS, ST⟩ := hrel
        cases rs with
        | nil =>
          have h1 := HRS.out
          unfold Funs at h1
          obtain ⟨rfl, rfl, hbg⟩ := h1
          have hdn := HDN.out
          rw [List.append_nil] at hdn
          subst hdn
          have hbd := HBD.out
          rw [List.append_nil] at hbd
          subst hbd
          have HBG := Aside0.mk hbg
          clear hbg HRS HDN HBD HK
          go_wp2_with (first | (go_at_call 63; (with_reducible refine (virgationref03_begins.calls tx (tx.size : Int) (⟨#[102, 117, 110, 32]⟩ : ByteArray) false _ HBG.out).mono ?_); rintro e9 w9 ⟨rfl, hd9⟩; have ST1 := Aside0.mk (NmS.below ST.out hd9.below); clear hd9 ST; have ST := ST1; clear ST1; have c50 : w9.cell? ⟨g5, 0, none⟩ = some (.slice A0 sy.length c0) := (blk_cell ST.out.2.2.2.1 0).trans rfl; have c51 : w9.cell? ⟨g5, 1, none⟩ = some (.slice A1 fu.length c1) := (blk_cell ST.out.2.2.2.1 1).trans rfl; have c20 : w9.cell? ⟨g2, 0, none⟩ = some (.slice none 0 0) := (blk_cell ST.out.2.2.2.2.1 0).trans rfl; have c21 : w9.cell? ⟨g2, 1, none⟩ = some (.slice none 0 0) := (blk_cell ST.out.2.2.2.2.1 1).trans rfl; have z20 := blk_frozen ST.out.2.2.2.2.1 0; have z21 := blk_frozen ST.out.2.2.2.2.1 1))
          have Sz := ST.out.2.2.2.2.1
          obtain ⟨r1, r2, r3, _, _, hb, hG2, _, _⟩ := ST.out
          refine bodyPost_ret (results_ctt rfl _ _ g2 25 #[.slice A0 sy.length c0, .slice A1 fu.length c1] (0, 0) _ rfl (blk_put (cs' := #[.slice A0 sy.length c0, .slice A1 fu.length c1]) (blk_put (cs' := #[.slice A0 sy.length c0, .slice none 0 0]) Sz 0 (.slice A0 sy.length c0) rfl) 1 (.slice A1 fu.length c1) rfl) Try.underlying25 rfl (by kernel_rfl)) rfl ?_
          exact ⟨A0, c0, A1, c1, Ab, cb, rfl, Kd.R_set (Kd.R_set r1 Sz (by decide) 0 _) (blk_put Sz 0 _ rfl) (by decide) 1 _, Kd.R_set (Kd.R_set r2 Sz (by decide) 0 _) (blk_put Sz 0 _ rfl) (by decide) 1 _, Kd.R_set (Kd.R_set r3 Sz (by decide) 0 _) (blk_put Sz 0 _ rfl) (by decide) 1 _, below_set (below_set hb hG2) hG2⟩
        | cons x rs =>
          have h1 := HRS.out
          unfold Funs at h1
          obtain ⟨b0, bs', m, rfl, hln, hrs⟩ := h1
          unfold FunLine at hln
          obtain ⟨K, b, e, c, d, p, q, f1, f2, f3, ⟨f4, f5, f6⟩, f7, f8, f9, f10, f11, f12, f13, ⟨rfl, f15, f16, f17⟩, f18, f19, f20, f21⟩ := hln
          have F1 := Aside0.mk f1
          have F3 := Aside0.mk f3
          have F7 := Aside0.mk f7
          have F8 := Aside0.mk f8
          have F9 := Aside0.mk f9
          have F11 := Aside0.mk f11
          have F12 := Aside0.mk f12
          have F15 := Aside0.mk (And.intro f15 (And.intro f16 f17))
          have F18 := Aside0.mk f18
          have F19 := Aside0.mk f19
          have F20 := Aside0.mk f20
          have F21 := Aside0.mk f21
          have HRS2 := Aside0.mk hrs
          have f2w : IntKind.i64.wrap (a + 4) = b := (i64_w _).trans f2
          have f10w : IntKind.i64.wrap (e + 3) = c := (i64_w _).trans f10
          have f13w : IntKind.i64.wrap ((p : Int) + 3) = b0 := (i64_w _).trans f13
          have q0 := eq_true f4
          have q1 : decide (0 ≤ b) = true := decide_eq_true f4
          have q2 := eq_true f5
          have q3 : decide (b ≤ e) = true := decide_eq_true f5
          have q4 := eq_true f6
          have q5 : decide (e ≤ (tx.size : Int)) = true := decide_eq_true f6
          clear f1 f3 f4 f5 f6 f7 f8 f9 f11 f12 f15 f16 f17 f18 f19 f20 f21 hrs HRS
          go_upto_region 22 with (first
            | (go_at_call 63; (with_reducible refine (virgationref03_begins.calls tx a (⟨#[102, 117, 110, 32]⟩ : ByteArray) true _ F1.out).mono ?_); rintro e9 w9 ⟨rfl, hd9⟩; have ST1 := Aside0.mk (NmS.below ST.out hd9.below); clear hd9 ST; have ST := ST1; clear ST1)
            | (go_at_call 78; (with_reducible refine (virgationref03_word.calls K tx b e _ F3.out).mono ?_); rintro e9 w9 ⟨rfl, hd9⟩; have ST1 := Aside0.mk (NmS.below ST.out hd9.below); clear hd9 ST; have ST := ST1; clear ST1)
            | (go_at_call 55; (with_reducible refine (virgationref02_Name.calls K (tx.extract b.toNat e.toNat) true _ F8.out).mono ?_); rintro e9 w9 ⟨rfl, hd9⟩; have ST1 := Aside0.mk (NmS.below ST.out hd9.below); clear hd9 ST; have ST := ST1; clear ST1)
            | (go_at_call 63; (with_reducible refine (virgationref03_begins.calls tx e (⟨#[32, 58, 32]⟩ : ByteArray) true _ F9.out).mono ?_); rintro e9 w9 ⟨rfl, hd9⟩; have ST1 := Aside0.mk (NmS.below ST.out hd9.below); clear hd9 ST; have ST := ST1; clear ST1)
            | (go_at_call 80
               (with_reducible refine (virgationref01_Parse.calls K tx c x.f1.f0 (p : Int) true _ F11.out).mono ?_)
               rintro e9 w9 ⟨vs, rfl, hR, hb9⟩
               obtain ⟨As, cs, rfl⟩ := Kd.R_slice hR
               have HRX := Aside0.mk (Kd.R_lower (base' := w.heap.size) hR (ST.out.2.2.2.2.2.1.size))
               have ST1 := Aside0.mk (NmS.below ST.out hb9)
               clear hR hb9 ST
               have ST := ST1
               clear ST1)
            | ((with_reducible refine gate_dst (N := 15) rfl ?_)
               refine box_event ?hg (N := 15) ?hd (cs := #[.slice none 0 0]) (t := 53) ?hr ?_
               (case hd => rfl)
               (case hg => rfl)
               (case hr => first | (go_simp; done) | (go_simp; rfl))
               intro g15 hg15 w15 hbox hb15
               have hlt15 := blk_lt hbox
               have hbs15 := below_set (g := g15) (j := 0) (v := .slice As x.f1.f0.length cs) hb15 (by omega)
               have ST1 := Aside0.mk (NmS.below ST.out hbs15)
               have HRX1 := Aside0.mk (Kd.R_below HRX.out hbs15)
               have S15 := Aside0.mk (show (w15.setCell ⟨g15, 0, none⟩ (.slice As x.f1.f0.length cs)).heap[g15]? = some (.cells #[.slice As x.f1.f0.length cs] 53 (0, 0)) from blk_put hbox 0 (.slice As x.f1.f0.length cs) rfl)
               have hcz := (blk_cell hbox 0).trans rfl
               have hfz := blk_frozen hbox 0
               clear hbox hb15 hbs15 hg15 ST HRX hlt15
               have ST := ST1
               have HRX := HRX1
               clear ST1 HRX1)
            | (go_at_call 63
               (with_reducible refine (virgationref03_begins.calls tx (p : Int) (⟨#[32, 61, 32]⟩ : ByteArray) true _ F12.out).mono ?_)
               rintro e9 w9 ⟨rfl, hd9⟩
               have ST1 := Aside0.mk (NmS.below ST.out hd9.below)
               have S151 := Aside0.mk (blk_below S15.out hd9.below)
               have HRX1 := Aside0.mk (Kd.R_below HRX.out hd9.below)
               have c51 : w9.cell? ⟨g5, 1, none⟩ = some (.slice A1 dn.length c1) := (blk_cell ST1.out.2.2.2.1 1).trans rfl
               have c15 : w9.cell? ⟨g15, 0, none⟩ = some (.slice As x.f1.f0.length cs) := (blk_cell S151.out 0).trans rfl
               clear hd9 ST hcz hfz S15 HRX
               have ST := ST1
               have HRX := HRX1
               have S15 := S151
               clear ST1 HRX1 S151))
          go_wp2_with (at_builtin; refine holdX ?_)
          unfold HoldX
          clear c51 c15 q0 q1 q2 q3 q4 q5 f2 f2w f10 f10w
          have hdl : (dn ++ [x]).length = dn.length + 1 := by rw [List.length_append]; rfl
          have hx2 : x = ⟨x.f0, x.f1, ⟨0, 0, []⟩⟩ := by rw [← F21.out]
          refine Kd.R_append k84 (w0 := w) w.heap.size rfl (.tmp 107) (.tmp 111) 23 84 (.agg #[.string ⟨#[]⟩, .slice none 0 0, .int .i64 0, .int .i64 0, .slice none 0 0]) 80 rfl Try.underlying23 (by kernel_rfl) rfl (by decide) (by omega) (.slice A1 dn.length c1) dn x [.string (tx.extract b.toNat e.toNat), .slice As x.f1.f0.length cs, .int .i64 0, .int .i64 0, .slice none 0 0] (fun _ => True) (fun k => ∃ q cells, q ≠ 84 ∧ w9.heap[k]? = some (.cells cells q (0, 0))) rfl rfl (by rw [← F7.out, hx2]; exact k84_mkM _ _ _ ⟨x.f0, x.f1, ⟨0, 0, []⟩⟩ (Kd.R_mono (Kd.R_bound HRX.out) (fun k hk => by obtain ⟨_, _, _, q, hq, cells, hc⟩ := hk; refine ⟨q, cells, ?_, hc⟩; rcases List.mem_cons.1 hq with rfl | hq; decide; rw [List.mem_singleton.1 hq]; decide)) (Kd.R_nil _ _ _ _ _)) (fun k hk => ⟨trivial, fun he => by obtain ⟨q, cells, hq, hc⟩ := hk; obtain ⟨c2, hc2⟩ := Kd.R_typed ST.out.2.1 k he.symm; exact hq (blk_type hc hc2)⟩) (fun _ _ => trivial) ST.out.2.1 ST.out.2.2.2.2.2.1 ST.out.2.2.2.2.2.1.size (by have := HL2.out; rw [HDN.out, List.length_append, List.length_cons] at this; omega) ?_
          intro v2 w7 hrf hb7 hg7 hat
          obtain ⟨A5, c5, e5⟩ := Kd.R_slice hrf
          rw [hdl] at e5
          subst e5
          obtain ⟨r1, r2, r3, s5, s2, hb, hG2, hG5, h25⟩ := ST.out
          have tf := Kd.R_typed r2
          have s57 := grownT s5 hg7 (fun k hk => by obtain ⟨c, hc⟩ := tf k hk; exact ⟨84, c, by decide, hc⟩)
          have s27 := grownT s2 hg7 (fun k hk => by obtain ⟨c, hc⟩ := tf k hk; exact ⟨84, c, by decide, hc⟩)
          have ST7 := Aside0.mk (show NmS w g2 g5 A0 c0 A5 c5 Ab cb sy (dn ++ [x]) bd (w7.setCell ⟨g5, 1, none⟩ (.slice A5 (dn.length + 1) c5)) from by
            unfold NmS
            rw [hdl]
            exact ⟨Kd.R_set (Kd.R_over' r1 tf (by decide) hg7) s57 (by decide) 1 _, Kd.R_set hrf s57 (by decide) 1 _, Kd.R_set (Kd.R_over' r3 tf (by decide) hg7) s57 (by decide) 1 _, blk_put s57 1 _ rfl, blk_far (p := ⟨g5, 1, none⟩) s27 (fun he => h25 he) _, below_set hb7 hG5, hG2, hG5, h25⟩)
          have m7 : w7.cell? ⟨g5, 1, none⟩ = some (.slice A1 dn.length c1) := (blk_cell s57 1).trans rfl
          have fz7 := blk_frozen s57 1
          clear hrf hb7 hg7 hat r1 r2 r3 s5 s2 hb hG2 hG5 h25 tf s57 s27 ST hx2 HRX S15
          go_wp2_with (at_builtin; refine holdX ?_)
          unfold HoldX
          clear m7 fz7
          have hbl : (bd ++ [b0]).length = bd.length + 1 := by rw [List.length_append]; rfl
          refine Kd.R_append (Kd.int .i64) (w0 := w) w.heap.size rfl (.tmp 114) (.tmp 117) 40 3 (.int .i64 0) 8 rfl Try.underlying40 info3 rfl (by decide) (by omega) (.slice Ab bd.length cb) bd b0 [.int .i64 b0] (fun _ => True) (fun _ => False) rfl (by show Value.slice (some ⟨w7.heap.size, 0, none⟩) 1 1 = _; simp [World.setCell]) rfl (fun _ hk => hk.elim) (fun _ _ => trivial) ST7.out.2.2.1 ST7.out.2.2.2.2.2.1 ST7.out.2.2.2.2.2.1.size (by have := HL3.out; rw [HBD.out, List.length_append, List.length_cons] at this; omega) ?_
          intro v3 w9 hrf hb9 hg9 hat9
          obtain ⟨A6, c6, e6⟩ := Kd.R_slice hrf
          rw [hbl] at e6
          subst e6
          obtain ⟨r1, r2, r3, s5, s2, hb, hG2, hG5, h25⟩ := ST7.out
          have tf := Kd.R_typed r3
          have ST9 := Aside0.mk (show NmS w g2 g5 A0 c0 A5 c5 A6 c6 sy (dn ++ [x]) (bd ++ [b0]) w9 from by
            unfold NmS
            rw [hbl]
            exact ⟨Kd.R_over' r1 tf (by decide) hg9, Kd.R_over' r2 tf (by decide) hg9, hrf, grownT s5 hg9 (fun k hk => by obtain ⟨c, hc⟩ := tf k hk; exact ⟨3, c, by decide, hc⟩), grownT s2 hg9 (fun k hk => by obtain ⟨c, hc⟩ := tf k hk; exact ⟨3, c, by decide, hc⟩), hb9, hG2, hG5, h25⟩)
          clear hrf hb9 hg9 hat9 r1 r2 r3 s5 s2 hb hG2 hG5 h25 tf ST7
          have HDN2 := Aside0.mk (show fu = (dn ++ [x]) ++ rs from by rw [HDN.out, List.append_assoc]; rfl)
          have HBD2 := Aside0.mk (show bo = (bd ++ [b0]) ++ bs' from by rw [HBD.out, List.append_assoc]; rfl)
          have HDL := Aside0.mk hdl
          have HBL := Aside0.mk hbl
          clear hdl hbl
          go_wp2_with fail
          go_loopg [7] (q - p) (fun kq v7 wr => ∃ j : Nat, v7 = .int .i64 (j : Int) ∧ Aside0 (j + kq = q) ∧ Aside0 (p ≤ j) ∧ Aside0 (NmS w g2 g5 A0 c0 A5 c5 A6 c6 sy (dn ++ [x]) (bd ++ [b0]) wr))
          case atStart => exact ⟨p, rfl, ⟨by have := F15.out; omega⟩, ⟨Nat.le_refl _⟩, ST9⟩
          case round =>
            clear ST9
            obtain ⟨j, rfl, HJ, HPJ, ST⟩ := hrel
            have hjq : j ≤ q := by have := HJ.out; omega
            have h15 := F15.out
            have x1 : decide ((j : Int) < (tx.size : Int)) = true := decide_eq_true (by omega)
            have x2 : decide (0 ≤ (j : Int)) = true := decide_eq_true (by omega)
            have x3 : (0 ≤ (j : Int)) = True := eq_true (by omega)
            have x4 : ((j : Int) < (tx.size : Int)) = True := eq_true (by omega)
            have x5 : ∀ h : j < tx.size, ((tx[j]'h).toNat : Int) = bt tx (j : Int) := fun h => bt_at tx (j : Int) h
            have x6 : (j < tx.size) = True := eq_true (by omega)
            cases gk with
            | zero =>
              have hje : j = q := by have := HJ.out; omega
              subst hje
              have y1 : (bt tx (j : Int) != 10) = false := bne_eq_false_iff_eq.2 F19.out
              have y2 : (bt tx (j : Int) == 10) = true := beq_iff_eq.2 F19.out
              have y3 : ((j : Int) == (tx.size : Int)) = false := beq_eq_false_iff_ne.2 (by omega)
              have y4 : ((j : Int) = (tx.size : Int)) = False := eq_false (by omega)
              have y5 : (j = tx.size) = False := eq_false (by omega)
              have y6 : (j == tx.size) = false := beq_eq_false_iff_ne.2 (by omega)
              go_wp2_with fail
              go_roundg rs.length
              case measure => have := HK.out; rw [List.length_cons] at this; omega
              case rel => exact ⟨m, dn ++ [x], rs, bd ++ [b0], bs', A5, c5, A6, c6, (by rw [HBL.out]), (by rw [← F20.out]; go_num), ⟨rfl⟩, HDN2, HBD2, HRS2, ST⟩
            | succ k1 =>
              have hjl : j < q := by have := HJ.out; omega
              have hne := F18.out j HPJ.out hjl
              have y1 : (bt tx (j : Int) != 10) = true := bne_iff_ne.2 hne
              have y2 : (bt tx (j : Int) == 10) = false := beq_eq_false_iff_ne.2 hne
              clear hne
              go_wp2_with fail
              go_roundg k1
              case measure => omega
              case rel => exact ⟨j + 1, by go_num, ⟨by have := HJ.out; omega⟩, ⟨by have := HPJ.out; omega⟩, ST⟩
    | cons x rs =>
      have h1 := HRS.out
      unfold Syms at h1
      obtain ⟨m, hln, hrs⟩ := h1
      unfold SymLine at hln
      obtain ⟨K, b, e, c, d, f1, f2, f3, ⟨f4, f5, f6⟩, f7, f8, f9, f10, f11, f12, f13⟩ := hln
      have F1 := Aside0.mk f1
      have F3 := Aside0.mk f3
      have F7 := Aside0.mk f7
      have F8 := Aside0.mk f8
      have F9 := Aside0.mk f9
      have F11 := Aside0.mk f11
      have F12 := Aside0.mk f12
      have HRS2 := Aside0.mk hrs
      have f2w : IntKind.i64.wrap (a + 7) = b := (i64_w _).trans f2
      have f10w : IntKind.i64.wrap (e + 1) = c := (i64_w _).trans f10
      have f13w : IntKind.i64.wrap (d + 1) = m := (i64_w _).trans f13
      have q0 := eq_true f4
      have q1 : decide (0 ≤ b) = true := decide_eq_true f4
      have q2 := eq_true f5
      have q3 : decide (b ≤ e) = true := decide_eq_true f5
      have q4 := eq_true f6
      have q5 : decide (e ≤ (tx.size : Int)) = true := decide_eq_true f6
      clear f1 f3 f4 f5 f6 f7 f8 f9 f11 f12 hrs HRS
      go_upto_region 12 with (first
        | (go_at_call 63; (with_reducible refine (virgationref03_begins.calls tx a (⟨#[115, 121, 109, 98, 111, 108, 32]⟩ : ByteArray) true _ F1.out).mono ?_); rintro e9 w9 ⟨rfl, hd9⟩; have ST1 := Aside0.mk (NmS.below ST.out hd9.below); clear hd9 ST; have ST := ST1; clear ST1)
        | (go_at_call 78; (with_reducible refine (virgationref03_word.calls K tx b e _ F3.out).mono ?_); rintro e9 w9 ⟨rfl, hd9⟩; have ST1 := Aside0.mk (NmS.below ST.out hd9.below); clear hd9 ST; have ST := ST1; clear ST1)
        | (go_at_call 55; (with_reducible refine (virgationref02_Name.calls K (tx.extract b.toNat e.toNat) true _ F8.out).mono ?_); rintro e9 w9 ⟨rfl, hd9⟩; have ST1 := Aside0.mk (NmS.below ST.out hd9.below); clear hd9 ST; have ST := ST1; clear ST1)
        | (go_at_call 63; (with_reducible refine (virgationref03_begins.calls tx e (⟨#[32]⟩ : ByteArray) true _ F9.out).mono ?_); rintro e9 w9 ⟨rfl, hd9⟩; have ST1 := Aside0.mk (NmS.below ST.out hd9.below); clear hd9 ST; have ST := ST1; clear ST1)
        | (go_at_call 79; (with_reducible refine (virgationref03_number.calls K tx c x.f1 d true _ F11.out).mono ?_); rintro e9 w9 ⟨rfl, hd9⟩; have ST1 := Aside0.mk (NmS.below ST.out hd9.below); clear hd9 ST; have ST := ST1; clear ST1)
        | (go_at_call 63; (with_reducible refine (virgationref03_begins.calls tx d (⟨#[10]⟩ : ByteArray) true _ F12.out).mono ?_); rintro e9 w9 ⟨rfl, hd9⟩; have ST1 := Aside0.mk (NmS.below ST.out hd9.below); clear hd9 ST; have ST := ST1; clear ST1; have c50 : w9.cell? ⟨g5, 0, none⟩ = some (.slice A0 dn.length c0) := (blk_cell ST.out.2.2.2.1 0).trans rfl))
      go_wp2_with (at_builtin; refine holdX ?_)
      unfold HoldX
      clear c50 q0 q1 q2 q3 q4 q5 f2 f10
      refine Kd.R_append k87 (w0 := w) w.heap.size rfl (.tmp 58) (.tmp 62) 22 87 (.agg #[.string ⟨#[]⟩, .int .i64 0]) 24 rfl Try.underlying22 (by kernel_rfl) rfl (by decide) (by omega) (.slice A0 dn.length c0) dn x [.string (tx.extract b.toNat e.toNat), .int .i64 x.f1] (fun _ => True) (fun _ => False) rfl rfl (by rw [← F7.out]; exact k87_mkM _ _ _ x) (fun _ hk => hk.elim) (fun _ _ => trivial) ST.out.1 ST.out.2.2.2.2.2.1 ST.out.2.2.2.2.2.1.size (by have := HL1.out; rw [HDN.out, List.length_append, List.length_cons] at this; omega) ?_
      intro v2 w7 hrf hb7 hg7 hat
      obtain ⟨A5, c5, e5⟩ := Kd.R_slice hrf
      have hdl : (dn ++ [x]).length = dn.length + 1 := by rw [List.length_append]; rfl
      rw [hdl] at e5
      subst e5
      obtain ⟨r1, r2, r3, s5, s2, hb, hG2, hG5, h25⟩ := ST.out
      have tf := Kd.R_typed r1
      have s57 := grownT s5 hg7 (fun k hk => by obtain ⟨c, hc⟩ := tf k hk; exact ⟨87, c, by decide, hc⟩)
      have s27 := grownT s2 hg7 (fun k hk => by obtain ⟨c, hc⟩ := tf k hk; exact ⟨87, c, by decide, hc⟩)
      have ST7 := Aside0.mk (show NmS w g2 g5 A5 c5 none 0 none 0 (dn ++ [x]) [] [] (w7.setCell ⟨g5, 0, none⟩ (.slice A5 (dn.length + 1) c5)) from by
        unfold NmS
        rw [hdl]
        exact ⟨Kd.R_set hrf s57 (by decide) 0 _, Kd.R_nil _ _ _ _ _, Kd.R_nil _ _ _ _ _, blk_put s57 0 _ rfl, blk_far (p := ⟨g5, 0, none⟩) s27 (fun he => h25 he) _, below_set hb7 hG5, hG2, hG5, h25⟩)
      have m7 : w7.cell? ⟨g5, 0, none⟩ = some (.slice A0 dn.length c0) := (blk_cell s57 0).trans rfl
      have fz7 := blk_frozen s57 0
      clear hrf hb7 hg7 hat r1 r2 r3 s5 s2 hb hG2 hG5 h25 tf s57 s27 hdl ST
      go_wp2_with fail
      have HDN2 := Aside0.mk (show sy = (dn ++ [x]) ++ rs from by rw [HDN.out, List.append_assoc]; rfl)
      go_roundg rs.length
      case measure => have := HK.out; rw [List.length_cons] at this; omega
      case rel => exact ⟨m, dn ++ [x], rs, A5, c5, by first | rfl | (simp; done) | (simp [*]; done), ⟨rfl⟩, HDN2, HRS2, ST7⟩
end Go.Proofs.Ytnfgpepggehegaa.I
namespace Go.Proofs.Ytnfgpepggehegaa.I
open Go.RowKit Go.Proofs.YtnfgpepggehegaaW.PrintWords Go.Proofs.YtnfgpepggehegaaW.PrintLast Go.Proofs.YtnfgpepggehegaaW.PrintMore
attribute [local go_sem] max2_int min2_int max_two min_two max_three min_three max_four min_four
set_option linter.unusedVariables false
set_option maxRecDepth 100000
set_option linter.unusedSimpArgs false
theorem V_at84 {w : World} {B n c : Nat} {P : Nat → Prop} {A : Option Addr} {l : List S84} (h : Kd.V k84 84 w B P (.slice A n c) l) {i : Nat} (h1 : i < n) :
    ∃ ad A3 c3 A4 c4, A = some ad ∧ w.cell? (ad.add (i * 5)) = some (.string (rd_T84 l (i : Int)).f0) ∧ w.cell? ⟨(ad.add (i * 5)).block, (ad.add (i * 5)).off + 1, none⟩ = some (.slice A3 (rd_T84 l (i : Int)).f1.f0.length c3) ∧ w.cell? ⟨(ad.add (i * 5)).block, (ad.add (i * 5)).off + 2, none⟩ = some (.int .i64 (rd_T84 l (i : Int)).f2.f0) ∧ w.cell? ⟨(ad.add (i * 5)).block, (ad.add (i * 5)).off + 3, none⟩ = some (.int .i64 (rd_T84 l (i : Int)).f2.f1) ∧ w.cell? ⟨(ad.add (i * 5)).block, (ad.add (i * 5)).off + 4, none⟩ = some (.slice A4 (rd_T84 l (i : Int)).f2.f2.length c4) ∧ (rd_T84 l (i : Int)).f1.f0.length ≤ c3 ∧ Kd.F k53 w P A3 (rd_T84 l (i : Int)).f1.f0.length (rd_T84 l (i : Int)).f1.f0 := by
  obtain ⟨ad, A3, c3, A4, c4, rfl, x0, x1, x2, x3, x4, l3, C3, l4, C4⟩ := at_T84 (Kd.V_reads' h).2.2 (i : Int) (by omega) (by have := (Kd.V_reads' h).1; omega)
  obtain ⟨ce, hce, hM, hcc⟩ := Kd.V_get h z84 (i : Int) (by omega) (by omega)
  obtain ⟨B3, d3, B4, d4, rfl, m3, f3, m4, f4⟩ := k84_openF hM
  have hv := hcc 1 _ rfl
  rw [Int.toNat_natCast] at x0 x1 x2 x3 x4 hv
  rw [show (k84).sz = 5 from rfl, add_field ad (i * 5) 1 (by omega)] at hv
  have e := Option.some.inj (hv.symm.trans x1)
  injection e with ea _ ec
  rw [ea] at f3
  exact ⟨ad, A3, c3, A4, c4, rfl, x0, x1, x2, x3, x4, l3, f3⟩
theorem take84s {l : List S84} {i : Nat} (h : i < l.length) : l.take (i + 1) = l.take i ++ [rd_T84 l (i : Int)] := by
  have e2 : rd_T84 l (i : Int) = l[i] := by unfold rd_T84; rw [Int.toNat_natCast, List.getD_eq_getElem?_getD, List.getElem?_eq_getElem h]; rfl
  rw [List.take_add_one, List.getElem?_eq_getElem h, e2]; rfl
def GtS (w4 : World) (g2 g4 : Nat) (A0 : Option Addr) (c0 : Nat) (A1 : Option Addr) (c1 : Nat) (Ab : Option Addr) (cb : Nat) (Ao : Option Addr) (co : Nat) (sy : List S87) (fu : List S84) (bo : List Int) (dn : List S84) (w : World) : Prop :=
  Kd.V k87 87 w 0 (fun k => g2 < k ∧ k < g4) (.slice A0 sy.length c0) sy ∧ Kd.V k84 84 w 0 (fun k => g2 < k ∧ k < g4) (.slice A1 fu.length c1) fu ∧ Kd.V (Kd.int .i64) 3 w 0 (fun k => g2 < k ∧ k < g4) (.slice Ab bo.length cb) bo ∧ Kd.N k84 84 w w4.heap.size (fun k => k ≠ g2 ∧ k ≠ g4) (.slice Ao dn.length co) dn ∧ w.heap[g4]? = some (.cells #[.slice A0 sy.length c0, .slice A1 fu.length c1] 25 (0, 0)) ∧ w.heap[g2]? = some (.cells #[.slice none 0 0, .slice none 0 0] 25 (0, 0)) ∧ Below w4.heap.size w4 w
theorem GtS.below {w4 : World} {g2 g4 : Nat} {A0 : Option Addr} {c0 : Nat} {A1 : Option Addr} {c1 : Nat} {Ab : Option Addr} {cb : Nat} {Ao : Option Addr} {co : Nat} {sy : List S87} {fu : List S84} {bo : List Int} {dn : List S84} {w w1 : World} (h : GtS w4 g2 g4 A0 c0 A1 c1 Ab cb Ao co sy fu bo dn w) (hb : Below w.heap.size w w1) : GtS w4 g2 g4 A0 c0 A1 c1 Ab cb Ao co sy fu bo dn w1 := by
  obtain ⟨h1, h2, h3, h4, h5, h6, h7⟩ := h
  exact ⟨Kd.V_below h1 hb, Kd.V_below h2 hb, Kd.V_below h3 hb, Kd.N_below h4 hb, blk_below h5 hb, blk_below h6 hb, below_step h7 hb⟩
set_option maxHeartbeats 16000000 in
theorem get_calls (K : Nat) (tx : ByteArray) (a1 : Int) (sy : List S87) (fu : List S84) (bo : List Int) (out : List S84) (w : World) (hsy : Syms tx sy 0 a1) (hfu : Funs tx fu bo a1) (hl1 : sy.length ≤ 1000) (hl2 : fu.length ≤ 1000) (hbl : bo.length = fu.length) (hol : out.length = fu.length) (hsz : tx.size ≤ 65536)
    (hp : ∀ i : Nat, i < fu.length → ∃ at_, virgationref03_parseTerm.f K sy fu tx (rd bo (i : Int)) = some ((rd_T84 out (i : Int)).f2.f0, (rd_T84 out (i : Int)).f2.f1, (rd_T84 out (i : Int)).f2.f2, at_, true) ∧ virgationref03_begins.f tx at_ (⟨#[10]⟩ : ByteArray) = some true ∧ (rd_T84 out (i : Int)).f0 = (rd_T84 fu (i : Int)).f0 ∧ (rd_T84 out (i : Int)).f1 = (rd_T84 fu (i : Int)).f1) (hs : schB sy out = true) :
    Calls Try.prog 34 #[.string tx] w fun e w' => ∃ A0 c0 A1 c1, e = .returned (.tuple #[.agg #[.slice A0 sy.length c0, .slice A1 out.length c1], .int .i64 0]) ∧ Kd.C k87 w' A0 sy.length sy ∧ sy.length ≤ c0 ∧ Kd.C k84 w' A1 out.length out ∧ out.length ≤ c1 ∧ Below w.heap.size w w' := by
  have hu25 := Try.underlying25
  have hu84 := Try.underlying84
  have hu53 := Try.underlying53
  have hu28 := Try.underlying28
  have HSY := Aside0.mk hsy
  have HFU := Aside0.mk hfu
  have HL1 := Aside0.mk hl1
  have HL2 := Aside0.mk hl2
  have HBL := Aside0.mk hbl
  have HOL := Aside0.mk hol
  have HP := Aside0.mk hp
  have HS := Aside0.mk hs
  have HSZ := Aside0.mk hsz
  have p0 : (65536 < tx.size) = False := eq_false (by omega)
  have p1 : ((65536 : Int) < (tx.size : Int)) = False := eq_false (by omega)
  clear hsy hfu hl1 hl2 hbl hol hp hs hsz
  go_enter Try.func34, Try.ntmps34
  go_wp2_with (first
    | ((with_reducible refine gate_dst (N := 2) rfl ?_)
       refine box_event ?hg (N := 2) ?hd (cs := #[.slice none 0 0, .slice none 0 0]) (t := 25) ?hr ?_
       (case hd => rfl)
       (case hg => rfl)
       (case hr => first | (go_simp; done) | (go_simp; rfl))
       intro g2 hg2 w2 hbox hb2
       have S2 := Aside0.mk hbox
       have HB2 := Aside0.mk hb2
       have HG2 := Aside0.mk (show w.heap.size ≤ g2 from by omega)
       have HL2g := Aside0.mk (show g2 < w2.heap.size from blk_lt hbox)
       clear hbox hb2 hg2)
    | (go_at_call 61
       (with_reducible refine (names_calls tx a1 sy fu bo w2 HSY.out HFU.out HL1.out HL2.out (by have := HBL.out; have := HL2.out; omega) (by have := HSZ.out; omega)).mono ?_)
       rintro e9 w3 ⟨A0, c0, A1, c1, Ab, cb, rfl, r1, r2, r3, hb3⟩
       have R1 := Aside0.mk (Kd.R_bound r1)
       have R2 := Aside0.mk (Kd.R_bound r2)
       have R3 := Aside0.mk (Kd.R_bound r3)
       have S23 := Aside0.mk (blk_below S2.out hb3)
       have HB3 := Aside0.mk (below_step HB2.out hb3)
       have H23 := Aside0.mk hb3.size
       clear r1 r2 r3 hb3 HSY HFU S2 HB2)
    | ((with_reducible refine gate_dst (N := 4) rfl ?_)
       refine box_event ?hg (N := 4) ?hd (cs := #[.slice none 0 0, .slice none 0 0]) (t := 25) ?hr ?_
       (case hd => rfl)
       (case hg => rfl)
       (case hr => first | (go_simp; done) | (go_simp; rfl))
       intro g4 hg4 w4 hbox hb4
       have hgw : w3.heap.size ≤ g4 := by omega
       have Hbw := Aside0.mk (below_set (g := g4) (j := 1) (v := .slice A1 fu.length c1) (below_set (g := g4) (j := 0) (v := .slice A0 sy.length c0) hb4 hgw) hgw)
       have S4 := Aside0.mk (blk_put (cs' := #[.slice A0 sy.length c0, .slice A1 fu.length c1]) (blk_put (cs' := #[.slice A0 sy.length c0, .slice none 0 0]) hbox 0 (.slice A0 sy.length c0) rfl) 1 (.slice A1 fu.length c1) rfl)
       have S24 := Aside0.mk (blk_below S23.out Hbw.out)
       have HB4 := Aside0.mk (below_step HB3.out Hbw.out)
       have HG24 := Aside0.mk (show g2 < g4 from by have := HL2g.out; have := H23.out; omega)
       have V1 := Aside0.mk (Kd.V_below (Kd.V_mono (ok' := fun k => g2 < k ∧ k < g4) (Kd.R_V (base' := 0) R1.out) (fun k hk => ⟨by have := HL2g.out; have := hk.2.1; omega, by have := hk.2.2.1; omega⟩)) Hbw.out)
       have V2 := Aside0.mk (Kd.V_below (Kd.V_mono (ok' := fun k => g2 < k ∧ k < g4) (Kd.R_V (base' := 0) R2.out) (fun k hk => ⟨by have := HL2g.out; have := hk.2.1; omega, by have := hk.2.2.1; omega⟩)) Hbw.out)
       have V3 := Aside0.mk (Kd.V_below (Kd.V_mono (ok' := fun k => g2 < k ∧ k < g4) (Kd.R_V (base' := 0) R3.out) (fun k hk => ⟨by have := HL2g.out; have := hk.2.1; omega, by have := hk.2.2.1; omega⟩)) Hbw.out)
       have hcz0 := (blk_cell hbox 0).trans rfl
       have hcz1 := (blk_cell hbox 1).trans rfl
       have hfz0 := blk_frozen hbox 0
       have hfz1 := blk_frozen hbox 1
       have e1 := (blk_cell S4.out 1).trans rfl
       clear hbox hb4 hg4 hgw R1 R2 R3 S23 HB3 H23 HL2g))
  clear hcz0 hcz1 hfz0 hfz1 e1 Hbw p0 p1
  generalize ((w4.setCell ⟨g4, 0, none⟩ (.slice A0 sy.length c0)).setCell ⟨g4, 1, none⟩ (.slice A1 fu.length c1)) = wp at *
  have ST := Aside0.mk (show GtS wp g2 g4 A0 c0 A1 c1 Ab cb none 0 sy fu bo [] wp from ⟨V1.out, V2.out, V3.out, Kd.N_nil _ _ _ _ _, S4.out, S24.out, Below.refl _ _⟩)
  have HL4 := Aside0.mk (blk_lt S4.out)
  clear V1 V2 V3 S4 S24
  go_loopg [7, 29] fu.length (fun kq v7 v29 wr => ∃ (i : Nat) (Ao : Option Addr) (co : Nat), v7 = .slice Ao i co ∧ v29 = .int .i64 (i : Int) ∧ Aside0 (i + kq = fu.length) ∧ Aside0 (GtS wp g2 g4 A0 c0 A1 c1 Ab cb Ao co sy fu bo (out.take i) wr))
  case atStart => exact ⟨0, none, 0, rfl, rfl, ⟨by omega⟩, ST⟩
  case round =>
    clear ST
    obtain ⟨i, Ao, co, rfl, rfl, Hi, ST⟩ := hrel
    by_cases hlt : i < fu.length
    rotate_left
    · have hie : i = out.length := by have := Hi.out; have := HOL.out; omega
      have hST := ST.out
      rw [hie, List.take_length] at hST
      have ST2 := Aside0.mk hST
      clear hST ST hlt Hi
      subst hie
      have q0 : ((out.length : Int) < (fu.length : Int)) = False := eq_false (by have := HOL.out; omega)
      have q1 : (out.length < fu.length) = False := eq_false (by have := HOL.out; omega)
      have c41 : wr.cell? ⟨g4, 1, none⟩ = some (.slice A1 fu.length c1) := (blk_cell ST2.out.2.2.2.2.1 1).trans rfl
      have f41 := blk_frozen ST2.out.2.2.2.2.1 1
      have c40 : wr.cell? ⟨g4, 0, none⟩ = some (.slice A0 sy.length c0) := (blk_cell ST2.out.2.2.2.2.1 0).trans rfl
      go_wp2_with fail
      obtain ⟨v1, v2, v3, v4, s4, s2, hb⟩ := ST2.out
      have S4x := blk_put (cs' := #[.slice A0 sy.length c0, .slice Ao out.length co]) s4 1 (.slice Ao out.length co) rfl
      have S2x := blk_far (p := ⟨g4, 1, none⟩) s2 (show g2 ≠ g4 from by have := HG24.out; omega) (.slice Ao out.length co)
      have V1x := Kd.V_far (p := ⟨g4, 1, none⟩) v1 (fun k hk => by have := hk.2; show k ≠ g4; omega) (.slice Ao out.length co)
      have V4x := Kd.N_V (base' := 0) (Kd.N_far (p := ⟨g4, 1, none⟩) v4 (fun k hk => hk.2) (.slice Ao out.length co))
      have HBx := Aside0.mk (below_set (g := g4) (j := 1) (v := .slice Ao out.length co) (below_step HB4.out hb) (by have := HG2.out; have := HG24.out; omega))
      (with_reducible refine (refis_calls A0 c0 sy Ao co out _ (Kd.V_reads' V1x).2.2 (Kd.V_reads' V1x).2.1 (Kd.V_reads' V4x).2.2 (Kd.V_reads' V4x).2.1).mono ?_)
      rintro e w5 ⟨rfl, hb5⟩
      rw [HS.out]
      have S45 := Aside0.mk (blk_below S4x hb5)
      have S25 := Aside0.mk (blk_below S2x hb5)
      have V15 := Aside0.mk (Kd.V_below V1x hb5)
      have V45 := Aside0.mk (Kd.V_below V4x hb5)
      have HB5 := Aside0.mk (below_step HBx.out hb5)
      clear hb5 c41 f41 c40 v1 v2 v3 v4 s4 s2 hb S4x S2x V1x V4x HBx ST2
      have d0 : w5.cell? ⟨g4, 0, none⟩ = some (.slice A0 sy.length c0) := (blk_cell S45.out 0).trans rfl
      have d1 : w5.cell? ⟨g4, 1, none⟩ = some (.slice Ao out.length co) := (blk_cell S45.out 1).trans rfl
      have z0 : w5.cell? ⟨g2, 0, none⟩ = some (.slice none 0 0) := (blk_cell S25.out 0).trans rfl
      have z1 : w5.cell? ⟨g2, 1, none⟩ = some (.slice none 0 0) := (blk_cell S25.out 1).trans rfl
      have f0 := blk_frozen S25.out 0
      have f1 := blk_frozen S25.out 1
      go_wp2_with fail
      have Sz := blk_put (cs' := #[.slice A0 sy.length c0, .slice Ao out.length co]) (blk_put (cs' := #[.slice A0 sy.length c0, .slice none 0 0]) S25.out 0 (.slice A0 sy.length c0) rfl) 1 (.slice Ao out.length co) rfl
      refine bodyPost_ret (results_ct rfl _ _ g2 25 #[.slice A0 sy.length c0, .slice Ao out.length co] (0, 0) _ rfl Sz Try.underlying25 rfl (by kernel_rfl)) rfl ?_
      have V1z := Kd.V_far (p := ⟨g2, 1, none⟩) (Kd.V_far (p := ⟨g2, 0, none⟩) V15.out (fun k hk => by have := hk.1; show k ≠ g2; omega) (.slice A0 sy.length c0)) (fun k hk => by have := hk.1; show k ≠ g2; omega) (.slice Ao out.length co)
      have V4z := Kd.V_far (p := ⟨g2, 1, none⟩) (Kd.V_far (p := ⟨g2, 0, none⟩) V45.out (fun k hk => hk.1) (.slice A0 sy.length c0)) (fun k hk => hk.1) (.slice Ao out.length co)
      exact ⟨A0, c0, Ao, co, rfl, (Kd.V_reads' V1z).2.2, (Kd.V_reads' V1z).2.1, (Kd.V_reads' V4z).2.2, (Kd.V_reads' V4z).2.1, below_set (below_set HB5.out HG2.out) HG2.out⟩
    have hk := Hi.out
    obtain ⟨k1, rfl⟩ : ∃ k1, gk = k1 + 1 := ⟨gk - 1, by omega⟩
    clear hk
    obtain ⟨at_, hp1, hp2, hp3, hp4⟩ := HP.out i hlt
    have HP1 := Aside0.mk hp1
    have HP2 := Aside0.mk hp2
    have HSN := Aside0.mk (take84s (l := out) (i := i) (by have := HOL.out; omega))
    obtain ⟨ad, A3, c3, A4, c4, he, hx0, hx1, hx2, hx3, hx4, hl3, hF3⟩ := V_at84 ST.out.2.1 hlt
    obtain ⟨adb, heb, hxb⟩ := Kd.at_int (Kd.V_reads' ST.out.2.2.1).2.2 (i : Int) (by omega) (by have := HBL.out; omega)
    subst he
    subst heb
    rw [Int.toNat_natCast] at hxb
    rw [← hp3] at hx0
    rw [← hp4] at hx1 hl3 hF3
    have q1 : (0 ≤ (i : Int)) = True := eq_true (by omega)
    have q2 : ((i : Int) < (fu.length : Int)) = True := eq_true (by omega)
    have q3 : (i < fu.length) = True := eq_true (by omega)
    have q4 : ((i : Int) < (bo.length : Int)) = True := eq_true (by have := HBL.out; omega)
    have q5 : (i < bo.length) = True := eq_true (by have := HBL.out; omega)
    have Hl3 := Aside0.mk hl3
    have HF3 := Aside0.mk hF3
    clear hp1 hp2 hp3 hp4 hl3 hF3
    generalize rd bo (i : Int) = b at *
    generalize rd_T84 fu (i : Int) = x at *
    generalize rd_T84 out (i : Int) = y at *
    go_upto_region 10 with (
      (with_reducible refine gate_dst (N := 9) rfl ?_)
      refine box_event ?hg (N := 9) ?hd (cs := #[.string (⟨#[]⟩ : ByteArray), .slice none 0 0, .int .i64 0, .int .i64 0, .slice none 0 0]) (t := 84) ?hr ?_
      (case hd => rfl)
      (case hg => rfl)
      (case hr => first | (go_simp; done) | (go_simp; rfl))
      intro gi hgi w6 hbox hbb
      have hgw : wr.heap.size ≤ gi := by omega
      have Hbwgi := Aside0.mk (below_set (g := gi) (j := 4) (v := .slice A4 x.f2.f2.length c4) (below_set (g := gi) (j := 3) (v := .int .i64 x.f2.f1) (below_set (g := gi) (j := 2) (v := .int .i64 x.f2.f0) (below_set (g := gi) (j := 1) (v := .slice A3 y.f1.f0.length c3) (below_set (g := gi) (j := 0) (v := .string y.f0) hbb hgw) hgw) hgw) hgw) hgw)
      have Sgi := Aside0.mk (blk_put (cs' := #[.string y.f0, .slice A3 y.f1.f0.length c3, .int .i64 x.f2.f0, .int .i64 x.f2.f1, .slice A4 x.f2.f2.length c4]) (blk_put (cs' := #[.string y.f0, .slice A3 y.f1.f0.length c3, .int .i64 x.f2.f0, .int .i64 x.f2.f1, .slice none 0 0]) (blk_put (cs' := #[.string y.f0, .slice A3 y.f1.f0.length c3, .int .i64 x.f2.f0, .int .i64 0, .slice none 0 0]) (blk_put (cs' := #[.string y.f0, .slice A3 y.f1.f0.length c3, .int .i64 0, .int .i64 0, .slice none 0 0]) (blk_put (cs' := #[.string y.f0, .slice none 0 0, .int .i64 0, .int .i64 0, .slice none 0 0]) hbox 0 (.string y.f0) rfl) 1 (.slice A3 y.f1.f0.length c3) rfl) 2 (.int .i64 x.f2.f0) rfl) 3 (.int .i64 x.f2.f1) rfl) 4 (.slice A4 x.f2.f2.length c4) rfl)
      have hczgi0 := (blk_cell hbox 0).trans rfl
      have hfzgi0 := blk_frozen hbox 0
      have hczgi1 := (blk_cell hbox 1).trans rfl
      have hfzgi1 := blk_frozen hbox 1
      have hczgi2 := (blk_cell hbox 2).trans rfl
      have hfzgi2 := blk_frozen hbox 2
      have hczgi3 := (blk_cell hbox 3).trans rfl
      have hfzgi3 := blk_frozen hbox 3
      have hczgi4 := (blk_cell hbox 4).trans rfl
      have hfzgi4 := blk_frozen hbox 4
      clear hbox hbb hgi hgw)
    have hxb2 := Aside0.mk (cell_up Hbwgi.out hxb)
    have HF3q := Aside0.mk (Kd.F_below HF3.out Hbwgi.out)
    clear hczgi0 hfzgi0 hczgi1 hfzgi1 hczgi2 hfzgi2 hczgi3 hfzgi3 hczgi4 hfzgi4 hx0 hx1 hx2 hx3 hx4 hxb
    generalize (((((w6.setCell ⟨gi, 0, none⟩ (.string y.f0)).setCell ⟨gi, 1, none⟩ (.slice A3 y.f1.f0.length c3)).setCell ⟨gi, 2, none⟩ (.int .i64 x.f2.f0)).setCell ⟨gi, 3, none⟩ (.int .i64 x.f2.f1)).setCell ⟨gi, 4, none⟩ (.slice A4 x.f2.f2.length c4)) = wq at *
    have STq := Aside0.mk (ST.out.below Hbwgi.out)
    have e0 : wq.cell? ⟨g4, 0, none⟩ = some (.slice A0 sy.length c0) := (blk_cell STq.out.2.2.2.2.1 0).trans rfl
    have e1 : wq.cell? ⟨g4, 1, none⟩ = some (.slice (some ad) fu.length c1) := (blk_cell STq.out.2.2.2.2.1 1).trans rfl
    have e2 := hxb2.out
    have e0' := cel1 e0
    have e1' := cel1 e1
    have e2' := cel1 e2
    clear ST Hbwgi hxb2
    have HPT := Aside0.mk (show ∀ w', Below wq.heap.size wq w' → Calls Try.prog 62 #[.agg #[.slice A0 sy.length c0, .slice (some ad) fu.length c1], .string tx, .int .i64 b] w' fun e w'' => ∃ Av cv, e = .returned (.tuple #[.agg #[.int .i64 y.f2.f0, .int .i64 y.f2.f1, .slice Av y.f2.f2.length cv], .int .i64 at_, .bool true]) ∧ Kd.V k28 28 w'' 0 (fun k => w'.heap.size ≤ k) (.slice Av y.f2.f2.length cv) y.f2.f2 ∧ Below w'.heap.size w' w'' from by
      intro w' hb
      have S := STq.out.below hb
      refine (virgationref03_parseTerm.calls K A0 c0 sy (some ad) c1 fu tx b y.f2.f0 y.f2.f1 y.f2.f2 at_ true w' (Kd.V_reads' S.1).2.2 (Kd.V_reads' S.1).2.1 (Kd.V_reads' S.2.1).2.2 (Kd.V_reads' S.2.1).2.1 HP1.out).mono ?_
      rintro e w'' ⟨v, rfl, hR, hb2⟩
      obtain ⟨Av, cv, rfl⟩ := Kd.R_slice hR
      exact ⟨Av, cv, rfl, Kd.V_mono (Kd.R_V (base' := 0) (Kd.R_bound hR)) (fun k hk => hk.2.1), hb2⟩)
    try simp only [Act.put, List.setIfInBounds_toArray, List.set_cons_succ, List.set_cons_zero]
    go_cut [10, 11, 12] from 35 to 44 (fun v10 v11 v12 wc => ∃ (g : Nat) (Av : Option Addr) (cv : Nat), v10 = .pointer (some ⟨g, 0, none⟩) ∧ v11 = .int .i64 at_ ∧ v12 = .bool true ∧ Aside0 (wc.heap[g]? = some (.cells #[.int .i64 y.f2.f0, .int .i64 y.f2.f1, .slice Av y.f2.f2.length cv] 28 (0, 0))) ∧ Aside0 (Kd.V k28 28 wc 0 (fun k => wq.heap.size ≤ k) (.slice Av y.f2.f2.length cv) y.f2.f2) ∧ Aside0 (Below wq.heap.size wq wc))
    case first =>
      go_region_law
        (go_simp
         go_at_call 62
         first
         | ((with_reducible refine (HPT.out wq.drew (below_drew (Below.refl _ _))).mono ?_)
            rintro e9 wA ⟨Av, cv, rfl, hV, hbA⟩
            have HVA := Aside0.mk hV
            have HBA := Aside0.mk (below_step (below_drew (Below.refl wq.heap.size wq)) hbA)
            clear hV hbA)
         | ((with_reducible refine (HPT.out (wq.alloc (.cells #[.int .i64 0, .int .i64 0, .slice none 0 0] 28)).drew (below_drew (below_alloc (Below.refl _ _) _))).mono ?_)
            rintro e9 wA ⟨Av, cv, rfl, hV, hbA⟩
            have HVA := Aside0.mk hV
            have HBA := Aside0.mk (below_step (below_drew (below_alloc (Below.refl wq.heap.size wq) _)) hbA)
            have G := blk_below (blk_drew (blk_new wq (.cells #[.int .i64 0, .int .i64 0, .slice none 0 0] 28))) hbA
            have k90 := (blk_cell G 0).trans rfl
            have k91 := (blk_cell G 1).trans rfl
            have k92 := (blk_cell G 2).trans rfl
            have f90 := blk_frozen G 0
            have f91 := blk_frozen G 1
            have f92 := blk_frozen G 2
            have HG9 := Aside0.mk G
            clear G hV hbA))
      all_goals (
        go_wp2_with fail
        go_meet
        first
        | exact ⟨_, Av, cv, rfl, rfl, rfl, ⟨blk_new _ _⟩, ⟨Kd.V_alloc HVA.out _⟩, ⟨below_alloc HBA.out _⟩⟩
        | exact ⟨_, Av, cv, rfl, rfl, rfl, ⟨blk_put (cs' := #[.int .i64 y.f2.f0, .int .i64 y.f2.f1, .slice Av y.f2.f2.length cv]) (blk_put (cs' := #[.int .i64 y.f2.f0, .int .i64 y.f2.f1, .slice none 0 0]) (blk_put (cs' := #[.int .i64 y.f2.f0, .int .i64 0, .slice none 0 0]) HG9.out 0 _ rfl) 1 _ rfl) 2 _ rfl⟩, ⟨Kd.V_mono (Kd.V_far (p := ⟨wq.heap.size, 2, none⟩) (Kd.V_far (p := ⟨wq.heap.size, 1, none⟩) (Kd.V_far (p := ⟨wq.heap.size, 0, none⟩) (Kd.V_mono (ok' := fun k => wq.heap.size + 1 ≤ k) HVA.out (fun k hk => by have e : (wq.alloc (.cells #[.int .i64 0, .int .i64 0, .slice none 0 0] 28)).heap.size = wq.heap.size + 1 := Array.size_push _; have : (wq.alloc (.cells #[.int .i64 0, .int .i64 0, .slice none 0 0] 28)).heap.size ≤ k := hk; omega)) (fun k hk => by show k ≠ wq.heap.size; omega) _) (fun k hk => by show k ≠ wq.heap.size; omega) _) (fun k hk => by show k ≠ wq.heap.size; omega) _) (fun k hk => by omega)⟩, ⟨below_set (below_set (below_set HBA.out (Nat.le_refl _)) (Nat.le_refl _)) (Nat.le_refl _)⟩⟩)
    case rest =>
      obtain ⟨g, Av, cv, rfl, rfl, rfl, S10, HV, HBc⟩ := hcut
      clear e0 e1 e2 e0' e1' e2' HPT
      have STc := Aside0.mk (STq.out.below HBc.out)
      have Sgc := Aside0.mk (blk_below Sgi.out HBc.out)
      have Hq := Aside0.mk (show ∀ k, (Value.slice Ao i co).ownBlock = some k → k < wq.heap.size from by
        have h := STq.out.2.2.2.1
        rw [show (out.take i).length = i from by rw [List.length_take]; have := HOL.out; omega] at h
        exact Kd.N_lt h)
      have Hwq := Aside0.mk (STq.out.2.2.2.2.2.2.size)
      clear Sgi STq
      go_upto_region 13 with (
        go_at_call 63
        (with_reducible refine (virgationref03_begins.calls tx at_ (⟨#[10]⟩ : ByteArray) true _ HP2.out).mono ?_)
        rintro e9 w9 ⟨rfl, hd9⟩
        have ST9 := Aside0.mk (STc.out.below hd9.below)
        have Sg9 := Aside0.mk (blk_below Sgc.out hd9.below)
        have S109 := Aside0.mk (blk_below S10.out hd9.below)
        have HV9 := Aside0.mk (Kd.V_below HV.out hd9.below)
        have HB9 := Aside0.mk (below_step HBc.out hd9.below)
        clear hd9 STc Sgc S10 HV HBc)
      have n0 : w9.cell? ⟨gi, 0, none⟩ = some (.string y.f0) := (blk_cell Sg9.out 0).trans rfl
      have n1 : w9.cell? ⟨gi, 1, none⟩ = some (.slice A3 y.f1.f0.length c3) := (blk_cell Sg9.out 1).trans rfl
      have m0 : w9.cell? ⟨g, 0, none⟩ = some (.int .i64 y.f2.f0) := (blk_cell S109.out 0).trans rfl
      have m1 : w9.cell? ⟨g, 1, none⟩ = some (.int .i64 y.f2.f1) := (blk_cell S109.out 1).trans rfl
      have m2 : w9.cell? ⟨g, 2, none⟩ = some (.slice Av y.f2.f2.length cv) := (blk_cell S109.out 2).trans rfl
      go_wp2_with (at_builtin; refine holdX ?_)
      unfold HoldX
      clear n0 n1 m0 m1 m2
      obtain ⟨v1, v2, v3, v4, s4, s2, hb⟩ := ST9.out
      have hdl : (out.take i).length = i := by rw [List.length_take]; have := HOL.out; omega
      rw [hdl] at v4
      have hbs := Kd.N_base v4
      have h4 := HL4.out
      have h24 := HG24.out
      have hwq := Hwq.out
      refine Kd.N_append k84 (w0 := wp) wp.heap.size rfl (.tmp 54) (.tmp 61) 23 84 (.agg #[.string ⟨#[]⟩, .slice none 0 0, .int .i64 0, .int .i64 0, .slice none 0 0]) 80 rfl Try.underlying23 (by kernel_rfl) rfl (by decide) (by omega) (.slice Ao i co) (out.take i) y [.string y.f0, .slice A3 y.f1.f0.length c3, .int .i64 y.f2.f0, .int .i64 y.f2.f1, .slice Av y.f2.f2.length cv] (fun k => k ≠ g2 ∧ k ≠ g4) (fun k => (g2 < k ∧ k < g4) ∨ wq.heap.size ≤ k) rfl rfl (k84_mkF _ _ y Hl3.out (Kd.F_mono (Kd.F_below HF3q.out HB9.out) (fun k hk => .inl hk)) (Kd.V_at HV9.out).2.1 (Kd.F_mono (Kd.V_at HV9.out).2.2 (fun k hk => .inr hk))) (fun k hk => by
          rcases hk with ⟨h1, h2⟩ | h1
          · exact ⟨⟨by omega, by omega⟩, fun e => by have := hbs k e.symm; omega⟩
          · exact ⟨⟨by omega, by omega⟩, fun e => by have := Hq.out k e.symm; omega⟩) (fun k hk => by have := hb.size; exact ⟨by omega, by omega⟩) v4 hb hb.size (by rw [hdl]; have := HL2.out; omega) ?_
      intro v5 w7 hn7 hb7 hg7 hat
      rw [← HSN.out] at hn7
      obtain ⟨A5, c5, e5⟩ := Kd.N_slice hn7
      rw [List.length_take, Nat.min_eq_left (by have := HOL.out; omega)] at e5
      subst e5
      have ST7 := Aside0.mk (show GtS wp g2 g4 A0 c0 (some ad) c1 (some adb) cb A5 c5 sy fu bo (out.take (i + 1)) w7 from by
        refine ⟨Kd.V_grown v1 hg7 (fun k hk e => by have := hbs k e.symm; omega), Kd.V_grown v2 hg7 (fun k hk e => by have := hbs k e.symm; omega), Kd.V_grown v3 hg7 (fun k hk e => by have := hbs k e.symm; omega), ?_, blk_grown s4 hg7 (Kd.N_away v4 (fun k hk => hk.2)), blk_grown s2 hg7 (Kd.N_away v4 (fun k hk => hk.1)), hb7⟩
        rw [show (out.take (i + 1)).length = i + 1 from by rw [List.length_take]; have := HOL.out; omega]
        exact hn7)
      clear hn7 hb7 hg7 hat v1 v2 v3 v4 s4 s2 hb hbs h4 h24 hwq hdl ST9 Sg9 S109 HV9 HB9
      go_wp2_with fail
      go_roundg k1
      case measure => omega
      case rel => have hl := HL2.out; exact ⟨i + 1, A5, c5, by first | rfl | (simp; done) | (simp [*]; done), by first | rfl | (refine congrArg _ ?_; unfold wrap64; omega), ⟨by have := Hi.out; omega⟩, ST7⟩
end Go.Proofs.Ytnfgpepggehegaa.I
namespace Go.Proofs.Ytnfgpepggehegaa.I
open Go.RowKit Go.Proofs.YtnfgpepggehegaaW.PrintWords
set_option maxRecDepth 100000
def exT : ByteArray := { data := (List.append [115, 121, 109, 98, 111, 108, 32, 97, 32, 50, 10, 115, 121, 109, 98, 111, 108, 32, 98, 32, 49, 10, 115, 121, 109, 98, 111, 108, 32, 99, 32, 48, 10, 102, 117, 110, 32, 115, 32, 58, 32, 111] [32, 61, 32, 102, 32, 35, 99, 10, 102, 117, 110, 32, 102, 32, 58, 32, 111, 32, 62, 32, 111, 32, 61, 32, 35, 97, 32, 36, 48, 32, 40, 102, 32, 40, 35, 98, 32, 36, 48, 41, 41, 10]).toArray }
def x0 : S28 := ⟨0, 0, []⟩
def x1 : S28 := ⟨2, 1, [x0]⟩
def x2 : S28 := ⟨1, 1, [x1]⟩
def x3 : S28 := ⟨2, 0, [x0, x2]⟩
def xc : S28 := ⟨2, 2, []⟩
def xs : S28 := ⟨1, 1, [xc]⟩
def exSy : List S87 := [⟨⟨#[97]⟩, 2⟩, ⟨⟨#[98]⟩, 1⟩, ⟨⟨#[99]⟩, 0⟩]
def exFu : List S84 := [⟨⟨#[115]⟩, ⟨[]⟩, ⟨0, 0, []⟩⟩, ⟨⟨#[102]⟩, ⟨[⟨[]⟩]⟩, ⟨0, 0, []⟩⟩]
def exOut : List S84 := [⟨⟨#[115]⟩, ⟨[]⟩, xs⟩, ⟨⟨#[102]⟩, ⟨[⟨[]⟩]⟩, x3⟩]
def exBo : List Int := [45, 66]
theorem ex_syms : Syms exT exSy 0 33 := by
  refine ⟨11, ⟨20, 7, 8, 9, 10, by kernel_rfl, by kernel_rfl, by kernel_rfl, ⟨by decide, by decide, by decide +kernel⟩, by kernel_rfl, by kernel_rfl, by kernel_rfl, by kernel_rfl, by kernel_rfl, by kernel_rfl, by kernel_rfl⟩, ?_⟩
  refine ⟨22, ⟨20, 18, 19, 20, 21, by kernel_rfl, by kernel_rfl, by kernel_rfl, ⟨by decide, by decide, by decide +kernel⟩, by kernel_rfl, by kernel_rfl, by kernel_rfl, by kernel_rfl, by kernel_rfl, by kernel_rfl, by kernel_rfl⟩, ?_⟩
  refine ⟨33, ⟨20, 29, 30, 31, 32, by kernel_rfl, by kernel_rfl, by kernel_rfl, ⟨by decide, by decide, by decide +kernel⟩, by kernel_rfl, by kernel_rfl, by kernel_rfl, by kernel_rfl, by kernel_rfl, by kernel_rfl, by kernel_rfl⟩, ?_⟩
  exact ⟨rfl, by kernel_rfl⟩
theorem ex_quiet1 : ∀ j : Nat, j < 49 → 42 ≤ j → bt exT (j : Int) ≠ 10 := by decide +kernel
theorem ex_quiet2 : ∀ j : Nat, j < 83 → 63 ≤ j → bt exT (j : Int) ≠ 10 := by decide +kernel
theorem ex_funs : Funs exT exFu exBo 33 := by
  refine ⟨45, [66], 50, rfl, ⟨40, 37, 38, 41, 42, 42, 49, by kernel_rfl, by kernel_rfl, by kernel_rfl, ⟨by decide, by decide, by decide +kernel⟩, by kernel_rfl, by kernel_rfl, by kernel_rfl, by kernel_rfl, by kernel_rfl, by kernel_rfl, by kernel_rfl, ⟨rfl, by decide, by decide +kernel, by decide⟩, fun j h1 h2 => ex_quiet1 j h2 h1, by kernel_rfl, rfl, rfl⟩, ?_⟩
  refine ⟨66, [], 84, rfl, ⟨40, 54, 55, 58, 63, 63, 83, by kernel_rfl, by kernel_rfl, by kernel_rfl, ⟨by decide, by decide, by decide +kernel⟩, by kernel_rfl, by kernel_rfl, by kernel_rfl, by kernel_rfl, by kernel_rfl, by kernel_rfl, by kernel_rfl, ⟨rfl, by decide, by decide +kernel, by decide⟩, fun j h1 h2 => ex_quiet2 j h2 h1, by kernel_rfl, rfl, rfl⟩, ?_⟩
  exact ⟨rfl, by kernel_rfl, by kernel_rfl⟩
theorem ex_parse : ∀ i : Nat, i < exFu.length → ∃ at_, virgationref03_parseTerm.f 60 exSy exFu exT (rd exBo (i : Int)) = some ((rd_T84 exOut (i : Int)).f2.f0, (rd_T84 exOut (i : Int)).f2.f1, (rd_T84 exOut (i : Int)).f2.f2, at_, true) ∧ virgationref03_begins.f exT at_ (⟨#[10]⟩ : ByteArray) = some true ∧ (rd_T84 exOut (i : Int)).f0 = (rd_T84 exFu (i : Int)).f0 ∧ (rd_T84 exOut (i : Int)).f1 = (rd_T84 exFu (i : Int)).f1
  | 0, _ => ⟨49, by kernel_rfl, by kernel_rfl, rfl, rfl⟩
  | 1, _ => ⟨83, by kernel_rfl, by kernel_rfl, rfl, rfl⟩
  | i + 2, h => absurd h (by show ¬ (i + 2 < 2); omega)
theorem ex_sch : schB exSy exOut = true := by kernel_rfl
def xt : S28 := ⟨1, 0, []⟩
def xr : S28 := ⟨2, 0, [xc, ⟨1, 1, [⟨2, 1, [xc]⟩]⟩]⟩
theorem ex_step : stepF exSy exOut xt = (xs, true, 0) := by kernel_rfl
theorem ex_run : runF exSy exOut xt 2 = (xr, 2, 0) := by kernel_rfl
theorem ex_t1 : virgationref03_Term.f 60 exSy exOut 1 1 [xc] = some (⟨#[102, 32, 35, 99]⟩ : ByteArray) := by kernel_rfl
theorem ex_t2 : virgationref03_Term.f 60 exSy exOut xr.f0 xr.f1 xr.f2 = some (⟨#[35, 97, 32, 35, 99, 32, 40, 102, 32, 40, 35, 98, 32, 35, 99, 41, 41]⟩ : ByteArray) := by kernel_rfl
theorem get_ex (d : Array UInt8) (hd : d = exT.data) (w : World) :
    Calls Try.prog 34 #[.string { data := d }] w fun e w' => ∃ A0 c0 A1 c1, e = .returned (.tuple #[.agg #[.slice A0 3 c0, .slice A1 2 c1], .int .i64 0]) ∧ Kd.C k87 w' A0 exSy.length exSy ∧ exSy.length ≤ c0 ∧ Kd.C k84 w' A1 exOut.length exOut ∧ exOut.length ≤ c1 ∧ Below w.heap.size w w' := by
  subst hd
  exact get_calls 60 exT 33 exSy exFu exBo exOut w ex_syms ex_funs (by decide) (by decide) rfl rfl (by decide +kernel) ex_parse ex_sch
end Go.Proofs.Ytnfgpepggehegaa.I
namespace Go.Proofs.Ytnfgpepggehegaa.I
open Go.RowKit Go.Proofs.YtnfgpepggehegaaW.PrintWords Go.Proofs.YtnfgpepggehegaaW.PrintLast Go.Proofs.YtnfgpepggehegaaW.PrintMore
attribute [local go_sem] max2_int min2_int max_two min_two max_three min_three max_four min_four
set_option linter.unusedVariables false
set_option maxRecDepth 100000
set_option linter.unusedSimpArgs false
theorem start_ex (w : World) : Calls Try.prog 35 #[] w fun e w' => ∃ As cs, e = .returned (.agg #[.int .i64 1, .int .i64 0, .slice As 0 cs]) ∧ Kd.C k28 w' As 0 [] ∧ Below w.heap.size w w' := by
  refine (virgationlaw05_start.calls 1 0 [] w rfl).mono ?_
  rintro e w' ⟨v, rfl, hR, hb⟩
  obtain ⟨As, cs, rfl⟩ := Kd.R_slice hR
  exact ⟨As, cs, rfl, (Kd.R_reads' hR).2.2, hb⟩
theorem V_new {α : Type} {d : Kd α} {e : Nat} {W : World} {B : Nat} {v : Value} {xs : List α} (h : Kd.R d e W B (fun _ => True) v xs) : ∃ A c, v = .slice A xs.length c ∧ Kd.V d e W 0 (fun k => B ≤ k) (.slice A xs.length c) xs := by
  obtain ⟨A, c, rfl⟩ := Kd.R_slice h
  exact ⟨A, c, rfl, Kd.V_mono (Kd.R_V (base' := 0) (Kd.R_bound h)) (fun k hk => hk.2.1)⟩
theorem step_ex (A0 : Option Addr) (c0 : Nat) (A1 : Option Addr) (c1 : Nat) (As : Option Addr) (cs : Nat) (w : World) (hr0 : Kd.C k87 w A0 exSy.length exSy) (hc0 : exSy.length ≤ c0) (hr1 : Kd.C k84 w A1 exOut.length exOut) (hc1 : exOut.length ≤ c1) (hr3 : Kd.C k28 w As 0 []) :
    Calls Try.prog 14 #[.agg #[.slice A0 3 c0, .slice A1 2 c1], .agg #[.int .i64 1, .int .i64 0, .slice As 0 cs]] w fun e w' => ∃ Av cv, e = .returned (.tuple #[.agg #[.int .i64 1, .int .i64 1, .slice Av 1 cv], .bool true, .int .i64 0]) ∧ Kd.V k28 28 w' 0 (fun k => w.heap.size ≤ k) (.slice Av 1 cv) [xc] ∧ Below w.heap.size w w' := by
  refine (step_calls A0 c0 exSy A1 c1 exOut xt As cs w hr0 hc0 hr1 hc1 hr3 (Nat.zero_le _)).mono ?_
  rw [ex_step]
  rintro e w' ⟨v, rfl, hR, hb⟩
  obtain ⟨Av, cv, rfl, hV⟩ := V_new hR
  exact ⟨Av, cv, rfl, hV, hb⟩
theorem run_ex (A0 : Option Addr) (c0 : Nat) (A1 : Option Addr) (c1 : Nat) (As : Option Addr) (cs : Nat) (w : World) (hr0 : Kd.C k87 w A0 exSy.length exSy) (hc0 : exSy.length ≤ c0) (hr1 : Kd.C k84 w A1 exOut.length exOut) (hc1 : exOut.length ≤ c1) (hr3 : Kd.C k28 w As 0 []) :
    Calls Try.prog 17 #[.agg #[.slice A0 3 c0, .slice A1 2 c1], .agg #[.int .i64 1, .int .i64 0, .slice As 0 cs], .int .i64 2] w fun e w' => ∃ Av cv, e = .returned (.tuple #[.agg #[.int .i64 2, .int .i64 0, .slice Av 2 cv], .int .i64 2, .int .i64 0]) ∧ Kd.V k28 28 w' 0 (fun k => w.heap.size ≤ k) (.slice Av 2 cv) xr.f2 ∧ Below w.heap.size w w' := by
  refine (run_calls A0 c0 exSy A1 c1 exOut xt As cs 2 w hr0 hc0 hr1 hc1 hr3 (Nat.zero_le _)).mono ?_
  rw [ex_run]
  rintro e w' ⟨v, rfl, hR, hb⟩
  obtain ⟨Av, cv, rfl, hV⟩ := V_new hR
  exact ⟨Av, cv, rfl, hV, hb⟩
theorem term_ex1 (A0 : Option Addr) (c0 : Nat) (A1 : Option Addr) (c1 : Nat) (Av : Option Addr) (cv : Nat) (w : World) (hr0 : Kd.C k87 w A0 exSy.length exSy) (hc0 : exSy.length ≤ c0) (hr1 : Kd.C k84 w A1 exOut.length exOut) (hc1 : exOut.length ≤ c1) (hv : Kd.V k28 28 w 0 (fun _ => True) (.slice Av 1 cv) [xc]) :
    Calls Try.prog 36 #[.agg #[.slice A0 3 c0, .slice A1 2 c1], .agg #[.int .i64 1, .int .i64 1, .slice Av 1 cv]] w fun e w' => e = .returned (.string ⟨#[102, 32, 35, 99]⟩) ∧ Below w.heap.size w w' :=
  virgationref03_Term.calls 60 A0 c0 exSy A1 c1 exOut 1 1 Av cv [xc] _ w hr0 hc0 hr1 hc1 (Kd.V_reads' hv).2.2 (Kd.V_reads' hv).2.1 ex_t1
theorem term_ex2 (A0 : Option Addr) (c0 : Nat) (A1 : Option Addr) (c1 : Nat) (Av : Option Addr) (cv : Nat) (w : World) (hr0 : Kd.C k87 w A0 exSy.length exSy) (hc0 : exSy.length ≤ c0) (hr1 : Kd.C k84 w A1 exOut.length exOut) (hc1 : exOut.length ≤ c1) (hv : Kd.V k28 28 w 0 (fun _ => True) (.slice Av 2 cv) xr.f2) :
    Calls Try.prog 36 #[.agg #[.slice A0 3 c0, .slice A1 2 c1], .agg #[.int .i64 2, .int .i64 0, .slice Av 2 cv]] w fun e w' => e = .returned (.string ⟨#[35, 97, 32, 35, 99, 32, 40, 102, 32, 40, 35, 98, 32, 35, 99, 41, 41]⟩) ∧ Below w.heap.size w w' :=
  virgationref03_Term.calls 60 A0 c0 exSy A1 c1 exOut 2 0 Av cv xr.f2 _ w hr0 hc0 hr1 hc1 (Kd.V_reads' hv).2.2 (Kd.V_reads' hv).2.1 ex_t2
set_option maxHeartbeats 16000000 in
theorem alive_calls (w : World) : Calls Try.prog 13 #[] w fun e w' => e = .returned (.bool true) ∧ Below w.heap.size w w' := by
  have hu25 := Try.underlying25
  have hu28 := Try.underlying28
  go_enter Try.func13, Try.ntmps13
  go_upto_region 2 with (first
    | (go_at_call 34
       (with_reducible refine (get_ex _ (by kernel_rfl) _).mono ?_)
       rintro e9 w2 ⟨A0, c0, A1, c1, rfl, hr0, hc0, hr1, hc1, hb2⟩
       have HR0 := Aside0.mk hr0
       have HC0 := Aside0.mk hc0
       have HR1 := Aside0.mk hr1
       have HC1 := Aside0.mk hc1
       have HB2 := Aside0.mk hb2
       clear hr0 hc0 hr1 hc1 hb2)
    | ((with_reducible refine gate_dst (N := 1) rfl ?_)
       refine box_event ?hg (N := 1) ?hd (cs := #[.slice none 0 0, .slice none 0 0]) (t := 25) ?hr ?_
       (case hd => rfl)
       (case hg => rfl)
       (case hr => first | (go_simp; done) | (go_simp; rfl))
       intro g1 hg1 w3 hbox hb3
       have hgw : w2.heap.size ≤ g1 := by omega
       have Hbw := Aside0.mk (below_set (g := g1) (j := 1) (v := .slice A1 2 c1) (below_set (g := g1) (j := 0) (v := .slice A0 3 c0) hb3 hgw) hgw)
       have S1 := Aside0.mk (blk_put (cs' := #[.slice A0 3 c0, .slice A1 2 c1]) (blk_put (cs' := #[.slice A0 3 c0, .slice none 0 0]) hbox 0 (.slice A0 3 c0) rfl) 1 (.slice A1 2 c1) rfl)
       have hcz0 := (blk_cell hbox 0).trans rfl
       have hcz1 := (blk_cell hbox 1).trans rfl
       have hfz0 := blk_frozen hbox 0
       have hfz1 := blk_frozen hbox 1
       clear hbox hb3 hg1 hgw))
  clear hcz0 hcz1 hfz0 hfz1
  generalize ((w3.setCell ⟨g1, 0, none⟩ (.slice A0 3 c0)).setCell ⟨g1, 1, none⟩ (.slice A1 2 c1)) = wq at *
  have HBq := Aside0.mk (below_step HB2.out Hbw.out)
  have HR0q := Aside0.mk (Kd.C_below HR0.out Hbw.out)
  have HR1q := Aside0.mk (Kd.C_below HR1.out Hbw.out)
  clear HR0 HR1 Hbw HB2
  have e0 : wq.cell? ⟨g1, 0, none⟩ = some (.slice A0 3 c0) := (blk_cell S1.out 0).trans rfl
  have e1 : wq.cell? ⟨g1, 1, none⟩ = some (.slice A1 2 c1) := (blk_cell S1.out 1).trans rfl
  have e0' := cel1 e0
  have e1' := cel1 e1
  have HCT := Aside0.mk (fun (w' : World) (As : Option Addr) (cs : Nat) (hb : Below wq.heap.size wq w') (h : Kd.C k28 w' As 0 []) => step_ex A0 c0 A1 c1 As cs w' (Kd.C_below HR0q.out hb) HC0.out (Kd.C_below HR1q.out hb) HC1.out h)
  try simp only [Act.put, List.setIfInBounds_toArray, List.set_cons_succ, List.set_cons_zero]
  go_cut [3, 4, 5] from 14 to 19 (fun va vb vd wc => ∃ (g : Nat) (Av : Option Addr) (cv : Nat), va = .pointer (some ⟨g, 0, none⟩) ∧ vb = .bool true ∧ vd = .int .i64 0 ∧ Aside0 (wc.heap[g]? = some (.cells #[.int .i64 1, .int .i64 1, .slice Av 1 cv] 28 (0, 0))) ∧ Aside0 (Kd.V k28 28 wc 0 (fun _ => True) (.slice Av 1 cv) [xc]) ∧ Aside0 (Below wq.heap.size wq wc))
  case first =>
    go_region_law
      (first
        | (go_simp
           go_at_call 35
           first
           | ((with_reducible refine (start_ex wq.drew).mono ?_)
              rintro e9 wA ⟨As, cs, rfl, hCs, hbA⟩
              have HCA := Aside0.mk hCs
              have HBA := Aside0.mk (below_step (below_drew (Below.refl wq.heap.size wq)) hbA)
              have a0 := cell_up hbA (show (wq.drew).cell? _ = _ from id e0)
              have a1 := cell_up hbA (show (wq.drew).cell? _ = _ from id e1)
              have a0' := cel1 a0
              have a1' := cel1 a1
              clear hCs hbA)
           | ((with_reducible refine (start_ex (wq.alloc (.cells #[.int .i64 0, .int .i64 0, .slice none 0 0] 28)).drew).mono ?_)
              rintro e9 wA ⟨As, cs, rfl, hCs, hbA⟩
              have HCA := Aside0.mk hCs
              have HBA := Aside0.mk (below_step (below_drew (below_alloc (Below.refl wq.heap.size wq) _)) hbA)
              have a0 := cell_up hbA (show ((wq.alloc (.cells #[.int .i64 0, .int .i64 0, .slice none 0 0] 28)).drew).cell? _ = _ from cel1 e0 _)
              have a1 := cell_up hbA (show ((wq.alloc (.cells #[.int .i64 0, .int .i64 0, .slice none 0 0] 28)).drew).cell? _ = _ from cel1 e1 _)
              have a0' := cel1 a0
              have a1' := cel1 a1
              have HG9 := Aside0.mk (blk_below (blk_drew (blk_new wq (.cells #[.int .i64 0, .int .i64 0, .slice none 0 0] 28))) hbA)
              clear hCs hbA))
        | (go_simp
           go_at_call 14
           first
           | ((with_reducible refine (HCT.out wA As cs HBA.out HCA.out).mono ?_)
              rintro e9 wB ⟨Av, cv, rfl, hV, hbB⟩
              have HVB := Aside0.mk hV
              have HBB := Aside0.mk (below_step HBA.out hbB)
              try (have G := blk_below HG9.out hbB
                   have k90 := (blk_cell G 0).trans rfl
                   have k91 := (blk_cell G 1).trans rfl
                   have k92 := (blk_cell G 2).trans rfl
                   have f90 := blk_frozen G 0
                   have f91 := blk_frozen G 1
                   have f92 := blk_frozen G 2
                   have HG9B := Aside0.mk G
                   have HNE := Aside0.mk (show ∀ k, wA.heap.size ≤ k → k ≠ wq.heap.size from fun k hk => by have := blk_lt HG9.out; omega)
                   clear G)
              clear hV hbB)
           | ((with_reducible refine (HCT.out (wA.alloc (.cells #[.int .i64 0, .int .i64 0, .slice none 0 0] 28)) As cs (below_alloc HBA.out _) (Kd.C_alloc HCA.out _)).mono ?_)
              rintro e9 wB ⟨Av, cv, rfl, hV, hbB⟩
              have HVB := Aside0.mk hV
              have HBB := Aside0.mk (below_step (below_alloc HBA.out _) hbB)
              have G := blk_below (blk_new wA (.cells #[.int .i64 0, .int .i64 0, .slice none 0 0] 28)) hbB
              have k90 := (blk_cell G 0).trans rfl
              have k91 := (blk_cell G 1).trans rfl
              have k92 := (blk_cell G 2).trans rfl
              have f90 := blk_frozen G 0
              have f91 := blk_frozen G 1
              have f92 := blk_frozen G 2
              have HG9B := Aside0.mk G
              have HNE := Aside0.mk (show ∀ k, (wA.alloc (.cells #[.int .i64 0, .int .i64 0, .slice none 0 0] 28)).heap.size ≤ k → k ≠ wA.heap.size from fun k hk => by have := blk_lt (blk_new wA (.cells #[.int .i64 0, .int .i64 0, .slice none 0 0] 28)); omega)
              clear G hV hbB)))
    all_goals (
      go_wp2_with fail
      go_meet
      first
      | exact ⟨_, Av, cv, rfl, rfl, rfl, ⟨blk_new _ _⟩, ⟨Kd.V_mono (Kd.V_alloc HVB.out _) (fun _ _ => trivial)⟩, ⟨below_alloc HBB.out _⟩⟩
      | exact ⟨_, Av, cv, rfl, rfl, rfl, ⟨blk_put (cs' := #[.int .i64 1, .int .i64 1, .slice Av 1 cv]) (blk_put (cs' := #[.int .i64 1, .int .i64 1, .slice none 0 0]) (blk_put (cs' := #[.int .i64 1, .int .i64 0, .slice none 0 0]) HG9B.out 0 _ rfl) 1 _ rfl) 2 _ rfl⟩, ⟨Kd.V_mono (Kd.V_far (p := ⟨_, 2, none⟩) (Kd.V_far (p := ⟨_, 1, none⟩) (Kd.V_far (p := ⟨_, 0, none⟩) HVB.out HNE.out _) HNE.out _) HNE.out _) (fun _ _ => trivial)⟩, ⟨below_set (below_set (below_set HBB.out (by first | exact HBA.out.size | exact Nat.le_refl _)) (by first | exact HBA.out.size | exact Nat.le_refl _)) (by first | exact HBA.out.size | exact Nat.le_refl _)⟩⟩)
  case rest =>
  obtain ⟨gx, Ax, cx, rfl, rfl, rfl, Sx, HVx, HBx⟩ := hcut
  clear e0 e1 e0' e1' HCT
  have HBr := Aside0.mk (below_step HBq.out HBx.out)
  have HR0r := Aside0.mk (Kd.C_below HR0q.out HBx.out)
  have HR1r := Aside0.mk (Kd.C_below HR1q.out HBx.out)
  have S1r := Aside0.mk (blk_below S1.out HBx.out)
  clear HBq HR0q HR1q S1 HBx
  obtain ⟨w4, hw4⟩ : ∃ w4, w4 = wc := ⟨_, rfl⟩
  subst hw4
  go_upto_region 3 with fail
  have e0 : w4.cell? ⟨g1, 0, none⟩ = some (.slice A0 3 c0) := (blk_cell S1r.out 0).trans rfl
  have e1 : w4.cell? ⟨g1, 1, none⟩ = some (.slice A1 2 c1) := (blk_cell S1r.out 1).trans rfl
  have e0' := cel1 e0
  have e1' := cel1 e1
  have HCT := Aside0.mk (fun (w' : World) (As : Option Addr) (cs : Nat) (hb : Below w4.heap.size w4 w') (h : Kd.C k28 w' As 0 []) => run_ex A0 c0 A1 c1 As cs w' (Kd.C_below HR0r.out hb) HC0.out (Kd.C_below HR1r.out hb) HC1.out h)
  try simp only [Act.put, List.setIfInBounds_toArray, List.set_cons_succ, List.set_cons_zero]
  go_cut [6, 7, 8] from 21 to 26 (fun va vb vd wc => ∃ (g : Nat) (Av : Option Addr) (cv : Nat), va = .pointer (some ⟨g, 0, none⟩) ∧ vb = .int .i64 2 ∧ vd = .int .i64 0 ∧ Aside0 (wc.heap[g]? = some (.cells #[.int .i64 2, .int .i64 0, .slice Av 2 cv] 28 (0, 0))) ∧ Aside0 (Kd.V k28 28 wc 0 (fun _ => True) (.slice Av 2 cv) xr.f2) ∧ Aside0 (Below w4.heap.size w4 wc))
  case first =>
    go_region_law
      (first
        | (go_simp
           go_at_call 35
           first
           | ((with_reducible refine (start_ex w4.drew).mono ?_)
              rintro e9 wA ⟨As, cs, rfl, hCs, hbA⟩
              have HCA := Aside0.mk hCs
              have HBA := Aside0.mk (below_step (below_drew (Below.refl w4.heap.size w4)) hbA)
              have a0 := cell_up hbA (show (w4.drew).cell? _ = _ from id e0)
              have a1 := cell_up hbA (show (w4.drew).cell? _ = _ from id e1)
              have a0' := cel1 a0
              have a1' := cel1 a1
              clear hCs hbA)
           | ((with_reducible refine (start_ex (w4.alloc (.cells #[.int .i64 0, .int .i64 0, .slice none 0 0] 28)).drew).mono ?_)
              rintro e9 wA ⟨As, cs, rfl, hCs, hbA⟩
              have HCA := Aside0.mk hCs
              have HBA := Aside0.mk (below_step (below_drew (below_alloc (Below.refl w4.heap.size w4) _)) hbA)
              have a0 := cell_up hbA (show ((w4.alloc (.cells #[.int .i64 0, .int .i64 0, .slice none 0 0] 28)).drew).cell? _ = _ from cel1 e0 _)
              have a1 := cell_up hbA (show ((w4.alloc (.cells #[.int .i64 0, .int .i64 0, .slice none 0 0] 28)).drew).cell? _ = _ from cel1 e1 _)
              have a0' := cel1 a0
              have a1' := cel1 a1
              have HG9 := Aside0.mk (blk_below (blk_drew (blk_new w4 (.cells #[.int .i64 0, .int .i64 0, .slice none 0 0] 28))) hbA)
              clear hCs hbA))
        | (go_simp
           go_at_call 17
           first
           | ((with_reducible refine (HCT.out wA As cs HBA.out HCA.out).mono ?_)
              rintro e9 wB ⟨Av, cv, rfl, hV, hbB⟩
              have HVB := Aside0.mk hV
              have HBB := Aside0.mk (below_step HBA.out hbB)
              try (have G := blk_below HG9.out hbB
                   have k90 := (blk_cell G 0).trans rfl
                   have k91 := (blk_cell G 1).trans rfl
                   have k92 := (blk_cell G 2).trans rfl
                   have f90 := blk_frozen G 0
                   have f91 := blk_frozen G 1
                   have f92 := blk_frozen G 2
                   have HG9B := Aside0.mk G
                   have HNE := Aside0.mk (show ∀ k, wA.heap.size ≤ k → k ≠ w4.heap.size from fun k hk => by have := blk_lt HG9.out; omega)
                   clear G)
              clear hV hbB)
           | ((with_reducible refine (HCT.out (wA.alloc (.cells #[.int .i64 0, .int .i64 0, .slice none 0 0] 28)) As cs (below_alloc HBA.out _) (Kd.C_alloc HCA.out _)).mono ?_)
              rintro e9 wB ⟨Av, cv, rfl, hV, hbB⟩
              have HVB := Aside0.mk hV
              have HBB := Aside0.mk (below_step (below_alloc HBA.out _) hbB)
              have G := blk_below (blk_new wA (.cells #[.int .i64 0, .int .i64 0, .slice none 0 0] 28)) hbB
              have k90 := (blk_cell G 0).trans rfl
              have k91 := (blk_cell G 1).trans rfl
              have k92 := (blk_cell G 2).trans rfl
              have f90 := blk_frozen G 0
              have f91 := blk_frozen G 1
              have f92 := blk_frozen G 2
              have HG9B := Aside0.mk G
              have HNE := Aside0.mk (show ∀ k, (wA.alloc (.cells #[.int .i64 0, .int .i64 0, .slice none 0 0] 28)).heap.size ≤ k → k ≠ wA.heap.size from fun k hk => by have := blk_lt (blk_new wA (.cells #[.int .i64 0, .int .i64 0, .slice none 0 0] 28)); omega)
              clear G hV hbB)))
    all_goals (
      go_wp2_with fail
      go_meet
      first
      | exact ⟨_, Av, cv, rfl, rfl, rfl, ⟨blk_new _ _⟩, ⟨Kd.V_mono (Kd.V_alloc HVB.out _) (fun _ _ => trivial)⟩, ⟨below_alloc HBB.out _⟩⟩
      | exact ⟨_, Av, cv, rfl, rfl, rfl, ⟨blk_put (cs' := #[.int .i64 2, .int .i64 0, .slice Av 2 cv]) (blk_put (cs' := #[.int .i64 2, .int .i64 0, .slice none 0 0]) (blk_put (cs' := #[.int .i64 2, .int .i64 0, .slice none 0 0]) HG9B.out 0 _ rfl) 1 _ rfl) 2 _ rfl⟩, ⟨Kd.V_mono (Kd.V_far (p := ⟨_, 2, none⟩) (Kd.V_far (p := ⟨_, 1, none⟩) (Kd.V_far (p := ⟨_, 0, none⟩) HVB.out HNE.out _) HNE.out _) HNE.out _) (fun _ _ => trivial)⟩, ⟨below_set (below_set (below_set HBB.out (by first | exact HBA.out.size | exact Nat.le_refl _)) (by first | exact HBA.out.size | exact Nat.le_refl _)) (by first | exact HBA.out.size | exact Nat.le_refl _)⟩⟩)
  case rest =>
  obtain ⟨gy, Ay, cy, rfl, rfl, rfl, Sy, HVy, HBy⟩ := hcut
  clear e0 e1 e0' e1' HCT
  have HBs := Aside0.mk (below_step HBr.out HBy.out)
  have HR0s := Aside0.mk (Kd.C_below HR0r.out HBy.out)
  have HR1s := Aside0.mk (Kd.C_below HR1r.out HBy.out)
  have S1s := Aside0.mk (blk_below S1r.out HBy.out)
  have Sxs := Aside0.mk (blk_below Sx.out HBy.out)
  have HVxs := Aside0.mk (Kd.V_below HVx.out HBy.out)
  clear HBr HR0r HR1r S1r HBy Sx HVx
  have e0 : wc.cell? ⟨g1, 0, none⟩ = some (.slice A0 3 c0) := (blk_cell S1s.out 0).trans rfl
  have e1 : wc.cell? ⟨g1, 1, none⟩ = some (.slice A1 2 c1) := (blk_cell S1s.out 1).trans rfl
  have m0 : wc.cell? ⟨gx, 0, none⟩ = some (.int .i64 1) := (blk_cell Sxs.out 0).trans rfl
  have m1 : wc.cell? ⟨gx, 1, none⟩ = some (.int .i64 1) := (blk_cell Sxs.out 1).trans rfl
  have m2 : wc.cell? ⟨gx, 2, none⟩ = some (.slice Ax 1 cx) := (blk_cell Sxs.out 2).trans rfl
  go_wp2_with (first
    | (go_at_call 36
       (with_reducible refine (term_ex1 A0 c0 A1 c1 Ax cx wc HR0s.out HC0.out HR1s.out HC1.out HVxs.out).mono ?_)
       rintro e9 wE ⟨rfl, hbE⟩
       have HBE := Aside0.mk hbE
       have p0 : wE.cell? ⟨g1, 0, none⟩ = some (.slice A0 3 c0) := cell_up hbE e0
       have p1 : wE.cell? ⟨g1, 1, none⟩ = some (.slice A1 2 c1) := cell_up hbE e1
       have q0 : wE.cell? ⟨gy, 0, none⟩ = some (.int .i64 2) := (blk_cell (blk_below Sy.out hbE) 0).trans rfl
       have q1 : wE.cell? ⟨gy, 1, none⟩ = some (.int .i64 0) := (blk_cell (blk_below Sy.out hbE) 1).trans rfl
       have q2 : wE.cell? ⟨gy, 2, none⟩ = some (.slice Ay 2 cy) := (blk_cell (blk_below Sy.out hbE) 2).trans rfl
       clear hbE)
    | (go_at_call 36
       (with_reducible refine (term_ex2 A0 c0 A1 c1 Ay cy wE (Kd.C_below HR0s.out HBE.out) HC0.out (Kd.C_below HR1s.out HBE.out) HC1.out (Kd.V_below HVy.out HBE.out)).mono ?_)
       rintro e9 wF ⟨rfl, hbF⟩
       have HBF := Aside0.mk (below_step (below_step HBs.out HBE.out) hbF)
       clear hbF))
  go_ret
  exact ⟨rfl, HBF.out⟩
end Go.Proofs.Ytnfgpepggehegaa.I
namespace Go.Proofs.Ytnfgpepggehegaa.I
open Go.RowKit Go.Proofs.YtnfgpepggehegaaW.PrintWords Go.Proofs.YtnfgpepggehegaaW.PrintLast Go.Proofs.YtnfgpepggehegaaW.PrintMore
attribute [local go_sem] max2_int min2_int max_two min_two max_three min_three max_four min_four
set_option linter.unusedVariables false
set_option maxRecDepth 100000
set_option linter.unusedSimpArgs false
set_option maxHeartbeats 8000000 in
theorem tequal_calls (N : Nat) : ∀ (a b : Int) (l : List S28) (A A' : Option Addr) (c c' : Nat) (w : World), SizeOf.sizeOf l < N → Kd.C k28 w A l.length l → l.length ≤ c → Kd.C k28 w A' l.length l → l.length ≤ c' →
    Calls Try.prog 26 #[.agg #[.int .i64 a, .int .i64 b, .slice A l.length c], .agg #[.int .i64 a, .int .i64 b, .slice A' l.length c']] w fun e w' => e = .returned (.bool true) ∧ Below w.heap.size w w' := by
  have hu28 := Try.underlying28
  have hu26 := Try.underlying26
  induction N with
  | zero => intro a b l A A' c c' w hN; omega
  | succ N ih =>
  intro a b l A A' c c' w hN hr hc hr' hc'
  have hlen : l.length ≤ 9223372036854775807 := hr.2.1
  have HR := Aside0.mk hr
  have HC := Aside0.mk hc
  have HR' := Aside0.mk hr'
  have HC' := Aside0.mk hc'
  have HN := Aside0.mk hN
  have IH := Aside0.mk ih
  clear hr hc hr' hc' hN ih
  go_enter Try.func26, Try.ntmps26
  go_wp2_with (first
    | ((with_reducible refine gate_dst (N := 2) rfl ?_)
       refine box_event ?hg (N := 2) ?hd (cs := #[.int .i64 a, .int .i64 b, .slice A l.length c]) (t := 28) ?hr ?_
       (case hd => rfl)
       (case hg => rfl)
       (case hr => first | (go_simp; done) | (go_simp; rfl))
       intro g2 hg2 w2 hbox hbb
       have S2 := Aside0.mk hbox
       have HB2 := Aside0.mk hbb
       clear hbox hbb hg2)
    | ((with_reducible refine gate_dst (N := 3) rfl ?_)
       refine box_event ?hg (N := 3) ?hd (cs := #[.int .i64 a, .int .i64 b, .slice A' l.length c']) (t := 28) ?hr ?_
       (case hd => rfl)
       (case hg => rfl)
       (case hr => first | (go_simp; done) | (go_simp; rfl))
       intro g3 hg3 w3 hbox hbb
       have S3 := Aside0.mk hbox
       have S23 := Aside0.mk (blk_below S2.out hbb)
       have HB3 := Aside0.mk (below_step HB2.out hbb)
       have a0 : w3.cell? ⟨g2, 0, none⟩ = some (.int .i64 a) := (blk_cell S23.out 0).trans rfl
       have a1 : w3.cell? ⟨g2, 1, none⟩ = some (.int .i64 b) := (blk_cell S23.out 1).trans rfl
       have a2 : w3.cell? ⟨g2, 2, none⟩ = some (.slice A l.length c) := (blk_cell S23.out 2).trans rfl
       have b0 : w3.cell? ⟨g3, 0, none⟩ = some (.int .i64 a) := (blk_cell hbox 0).trans rfl
       have b1 : w3.cell? ⟨g3, 1, none⟩ = some (.int .i64 b) := (blk_cell hbox 1).trans rfl
       have b2 : w3.cell? ⟨g3, 2, none⟩ = some (.slice A' l.length c') := (blk_cell hbox 2).trans rfl
       clear hbox hbb hg3))
  clear a0 a1 a2 b0 b1 b2 S2 HB2
  go_loopg [30] l.length (fun kq v30 wr => ∃ i : Nat, v30 = .int .i64 (i : Int) ∧ Aside0 (i + kq = l.length) ∧ Aside0 (Below w3.heap.size w3 wr))
  case atStart => exact ⟨0, rfl, ⟨by omega⟩, ⟨Below.refl _ _⟩⟩
  case round =>
    obtain ⟨i, rfl, Hi, HB⟩ := hrel
    by_cases hlt : i < l.length
    rotate_left
    · go_wp2_with fail
      go_ret
      exact ⟨rfl, below_step HB3.out HB.out⟩
    have HBw := Aside0.mk (below_step HB3.out HB.out)
    obtain ⟨ad, A4, c4, he, hx2, hx3, hx4, hl4, hC4⟩ := at_T28 (Kd.C_below HR.out HBw.out) (i : Int) (by omega) (by omega)
    cases he
    obtain ⟨ad', A5, c5, he, hy2, hy3, hy4, hl5, hC5⟩ := at_T28 (Kd.C_below HR'.out HBw.out) (i : Int) (by omega) (by omega)
    cases he
    rw [Int.toNat_natCast] at hx2 hx3 hx4 hy2 hy3 hy4
    have HC4 := Aside0.mk hC4
    have Hl4 := Aside0.mk hl4
    have HC5 := Aside0.mk hC5
    have Hl5 := Aside0.mk hl5
    have HSZ := Aside0.mk (show SizeOf.sizeOf (rd_T28 l (i : Int)).f2 < N from by have := rd_T28_mem l i hlt; have := HN.out; omega)
    have q1 : (0 ≤ (i : Int)) = True := eq_true (by omega)
    have q2 : ((i : Int) < (l.length : Int)) = True := eq_true (by omega)
    have q3 : (i < l.length) = True := eq_true (by omega)
    clear hl4 hC4 hl5 hC5
    generalize rd_T28 l (i : Int) = x at *
    have a2 : wr.cell? ⟨g2, 2, none⟩ = some (.slice (some ad) l.length c) := (blk_cell (blk_below S23.out HB.out) 2).trans rfl
    have b2 : wr.cell? ⟨g3, 2, none⟩ = some (.slice (some ad') l.length c') := (blk_cell (blk_below S3.out HB.out) 2).trans rfl
    go_upto_region 6 with fail
    try simp only [Act.put, List.setIfInBounds_toArray, List.set_cons_succ, List.set_cons_zero]
    go_cut [44] from 33 to 44 (fun v44 wc => v44 = .bool false ∧ Aside0 (Below w3.heap.size w3 wc))
    case first =>
      go_region_held3 (fun w' => w'.cell? ⟨g2, 2, none⟩ = some (.slice (some ad) l.length c) ∧ w'.cell? ⟨g3, 2, none⟩ = some (.slice (some ad') l.length c') ∧ w'.cell? (ad.add (i * 3)) = some (.int .i64 x.f0) ∧ w'.cell? ⟨(ad.add (i * 3)).block, (ad.add (i * 3)).off + 1, none⟩ = some (.int .i64 x.f1) ∧ w'.cell? ⟨(ad.add (i * 3)).block, (ad.add (i * 3)).off + 2, none⟩ = some (.slice A4 x.f2.length c4) ∧ w'.cell? (ad'.add (i * 3)) = some (.int .i64 x.f0) ∧ w'.cell? ⟨(ad'.add (i * 3)).block, (ad'.add (i * 3)).off + 1, none⟩ = some (.int .i64 x.f1) ∧ w'.cell? ⟨(ad'.add (i * 3)).block, (ad'.add (i * 3)).off + 2, none⟩ = some (.slice A5 x.f2.length c5)) (go_keep)
        (first
          | (go_at_call 26
             (with_reducible refine (IH.out x.f0 x.f1 x.f2 A4 A5 c4 c5 _ HSZ.out (Kd.C_below HC4.out (below_drew (Below.refl _ _))) Hl4.out (Kd.C_below HC5.out (below_drew (Below.refl _ _))) Hl5.out).mono ?_)
             rintro e9 wA ⟨rfl, hbA⟩
             have HBA := Aside0.mk (below_step (below_drew HB.out) hbA)
             have z0 := cell_up hbA (show wr.drew.cell? _ = _ from a2)
             have z1 := cell_up hbA (show wr.drew.cell? _ = _ from b2)
             have z2 := cell_up hbA (show wr.drew.cell? _ = _ from hx2)
             have z3 := cell_up hbA (show wr.drew.cell? _ = _ from hx3)
             have z4 := cell_up hbA (show wr.drew.cell? _ = _ from hx4)
             have z5 := cell_up hbA (show wr.drew.cell? _ = _ from hy2)
             have z6 := cell_up hbA (show wr.drew.cell? _ = _ from hy3)
             have z7 := cell_up hbA (show wr.drew.cell? _ = _ from hy4)
             clear hbA))
      all_goals (go_wp2_with fail; go_meet; exact ⟨rfl, HBA⟩)
    case rest =>
      obtain ⟨rfl, HBc⟩ := hcut
      clear a2 b2 hx2 hx3 hx4 hy2 hy3 hy4
      go_wp2_with fail
      have hk := Hi.out
      obtain ⟨k1, rfl⟩ : ∃ k1, gk = k1 + 1 := ⟨gk - 1, by omega⟩
      go_roundg k1
      case measure => omega
      case rel => exact ⟨i + 1, by go_num, ⟨by omega⟩, HBc⟩
mutual
/-- Are two terms equal? -/
def teq : S28 → S28 → Bool
  | ⟨k, n, l⟩, ⟨k2, n2, l2⟩ => decide (k = k2) && (decide (n = n2) && teqL l l2)
def teqL : List S28 → List S28 → Bool
  | [], [] => true
  | [], _ :: _ => false
  | _ :: _, [] => false
  | x :: xs, y :: ys => teq x y && teqL xs ys
end
mutual
theorem teq_eq : ∀ (x y : S28), teq x y = true → x = y
  | ⟨k, n, l⟩, ⟨k2, n2, l2⟩, h => by
    unfold teq at h
    simp only [Bool.and_eq_true, decide_eq_true_eq] at h
    rw [h.1, h.2.1, teqL_eq l l2 h.2.2]
theorem teqL_eq : ∀ (l m : List S28), teqL l m = true → l = m
  | [], [], _ => rfl
  | [], _ :: _, h => by unfold teqL at h; cases h
  | _ :: _, [], h => by unfold teqL at h; cases h
  | x :: xs, y :: ys, h => by
    unfold teqL at h
    rw [Bool.and_eq_true] at h
    rw [teq_eq x y h.1, teqL_eq xs ys h.2]
end
mutual
theorem teq_refl : ∀ (x : S28), teq x x = true
  | ⟨k, n, l⟩ => by unfold teq; rw [teqL_refl l]; simp
theorem teqL_refl : ∀ (l : List S28), teqL l l = true
  | [] => by unfold teqL; rfl
  | x :: xs => by unfold teqL; rw [teq_refl x, teqL_refl xs]; rfl
end
def virgationref02_Equal.f (a b : Int) (l : List S28) (a2 b2 : Int) (l2 : List S28) : Option Bool := if (decide (a = a2) && (decide (b = b2) && teqL l l2)) = true then some true else none
theorem virgationref02_Equal.calls (a b : Int) (A : Option Addr) (c : Nat) (l : List S28) (a2 b2 : Int) (A2 : Option Addr) (c2 : Nat) (l2 : List S28) (r : Bool) (w : World) (hr : Kd.C k28 w A l.length l) (hc : l.length ≤ c) (hr2 : Kd.C k28 w A2 l2.length l2) (hc2 : l2.length ≤ c2) (h : virgationref02_Equal.f a b l a2 b2 l2 = some r) :
    Calls Try.prog 26 #[.agg #[.int .i64 a, .int .i64 b, .slice A l.length c], .agg #[.int .i64 a2, .int .i64 b2, .slice A2 l2.length c2]] w fun e w' => e = .returned (.bool r) ∧ Below w.heap.size w w' := by
  unfold virgationref02_Equal.f at h
  split at h
  · rename_i ht
    simp only [Bool.and_eq_true, decide_eq_true_eq] at ht
    obtain ⟨rfl, rfl, ht⟩ := ht
    have := teqL_eq _ _ ht
    subst this
    injection h with h
    subst h
    exact tequal_calls _ a b l A A2 c c2 w (Nat.lt_succ_self _) hr hc hr2 hc2
  · cases h
end Go.Proofs.Ytnfgpepggehegaa.I
namespace Go.Proofs.Ytnfgpepggehegaa.I
open Go.RowKit Go.Proofs.YtnfgpepggehegaaW.PrintWords Go.Proofs.YtnfgpepggehegaaW.PrintLast Go.Proofs.YtnfgpepggehegaaW.PrintMore
attribute [local go_sem] max2_int min2_int max_two min_two max_three min_three max_four min_four   -- for this text's walks alone
set_option linter.unusedVariables false
set_option linter.unusedSimpArgs false
def virgationref02_Same.f (k : Nat) (a0_0 : Int) (a0_1 : Int) (l0_2 : List (S28)) (a1_0 : Int) (a1_1 : Int) (l1_2 : List (S28)) : Option (Bool) := (virgationref02_Large.f k a0_0 a0_1 l0_2).bind fun t395 => (if t395 = true then (some false) else ((virgationref02_Large.f k a1_0 a1_1 l1_2).bind fun t396 => (if t396 = true then (some false) else ((virgationref02_Equal.f a0_0 a0_1 l0_2 a1_0 a1_1 l1_2).bind fun t397 => (some t397)))))
set_option maxHeartbeats 8000000 in
set_option maxRecDepth 100000 in
theorem virgationref02_Same.calls (k : Nat) (a0_0 : Int) (a0_1 : Int) (A0_2 : Option Addr) (c0_2 : Nat) (l0_2 : List (S28)) (a1_0 : Int) (a1_1 : Int) (A1_2 : Option Addr) (c1_2 : Nat) (l1_2 : List (S28)) (r : Bool) (w : World) (hr0_2 : Kd.C k28 w A0_2 l0_2.length l0_2) (hc0_2 : l0_2.length ≤ c0_2) (hr1_2 : Kd.C k28 w A1_2 l1_2.length l1_2) (hc1_2 : l1_2.length ≤ c1_2) (h : virgationref02_Same.f k a0_0 a0_1 l0_2 a1_0 a1_1 l1_2 = some r) :
    Calls Try.prog 16 #[.agg #[.int .i64 a0_0, .int .i64 a0_1, .slice A0_2 l0_2.length c0_2], .agg #[.int .i64 a1_0, .int .i64 a1_1, .slice A1_2 l1_2.length c1_2]] w fun e w' => e = .returned (.bool r) ∧ Below w.heap.size w w' := by
  have hu28 := Try.underlying28
  have HR0_2 := Aside0.mk hr0_2
  have HC0_2 := Aside0.mk hc0_2
  clear hr0_2 hc0_2
  have HR1_2 := Aside0.mk hr1_2
  have HC1_2 := Aside0.mk hc1_2
  clear hr1_2 hc1_2
  have HB := Aside0.mk (Below.refl w.heap.size w)
  have H : ((virgationref02_Large.f k a0_0 a0_1 l0_2).bind fun t395 => (if t395 = true then (some false) else ((virgationref02_Large.f k a1_0 a1_1 l1_2).bind fun t396 => (if t396 = true then (some false) else ((virgationref02_Equal.f a0_0 a0_1 l0_2 a1_0 a1_1 l1_2).bind fun t397 => (some t397)))))) = some r := h
  clear h
  replace H := Option.bind_eq_some_iff.mp H
  obtain ⟨t395, A30, H⟩ := H
  replace H : (if t395 = true then (some false) else ((virgationref02_Large.f k a1_0 a1_1 l1_2).bind fun t396 => (if t396 = true then (some false) else ((virgationref02_Equal.f a0_0 a0_1 l0_2 a1_0 a1_1 l1_2).bind fun t397 => (some t397))))) = some r := H
  have A3 := Aside0.mk A30
  clear A30
  by_cases c4 : t395 = true
  · subst c4
    have H1 : (some false) = some r := by rw [if_pos rfl] at H; exact H
    clear H
    have H := H1
    clear H1
    obtain rfl := Option.some.inj H
    go_enter Try.func16, Try.ntmps16
    go_wp2_with (first | ((with_reducible refine gate_dst (N := 2) rfl ?_); refine box_event ?hg (N := 2) ?hd (cs := #[.int .i64 a0_0, .int .i64 a0_1, .slice A0_2 l0_2.length c0_2]) (t := 28) ?hr ?_; (case hd => rfl); (case hg => rfl); (case hr => first | (go_simp; done) | (go_simp; rfl)); intro gb393 hg w5 hbox hb; have n0_ := Aside0.mk (below_step (by repeat (first | (with_reducible first | exact HB.out | apply below_alloc | apply pw_below_drewN | apply below_drew1) | exact HB.out)) hb); have n1_ := Aside0.mk (hbox); have n2_ := Aside0.mk ((by rw [hg]; exact (below_size (by repeat (first | (with_reducible first | exact HB.out | apply below_alloc | apply pw_below_drewN | apply below_drew1) | exact HB.out))) : w.heap.size ≤ gb393)); have n3_ := Aside0.mk ((by rw [hg]; exact (below_size (by repeat (first | (with_reducible first | exact HB.out | apply below_alloc | apply pw_below_drewN | apply below_drew1) | exact HB.out))) : w.heap.size ≤ gb393)); clear HB; have HB := n0_; have BK393 := n1_; have GW393 := n2_; have GE393 := n3_; clear n0_ n1_ n2_ n3_; clear hb hbox hg) | ((with_reducible refine gate_dst (N := 3) rfl ?_); refine box_event ?hg (N := 3) ?hd (cs := #[.int .i64 a1_0, .int .i64 a1_1, .slice A1_2 l1_2.length c1_2]) (t := 28) ?hr ?_; (case hd => rfl); (case hg => rfl); (case hr => first | (go_simp; done) | (go_simp; rfl)); intro gb394 hg w6 hbox hb; have n0_ := Aside0.mk (blk_below (g := gb393) (o := .cells #[.int .i64 a0_0, .int .i64 a0_1, .slice A0_2 l0_2.length c0_2] 28 (0, 0)) (by (with_reducible repeat (first | refine blk_drewN ?_ _ | refine blk_drew ?_ | refine blk_alloc ?_ _)); exact BK393.out) hb); have n1_ := Aside0.mk (below_step (by repeat (first | (with_reducible first | exact HB.out | apply below_alloc | apply pw_below_drewN | apply below_drew1 | refine below_set ?_ GE393.out) | exact HB.out)) hb); have n2_ := Aside0.mk (hbox); have n3_ := Aside0.mk ((by rw [hg]; exact (below_size (by repeat (first | (with_reducible first | exact HB.out | apply below_alloc | apply pw_below_drewN | apply below_drew1 | refine below_set ?_ GE393.out) | exact HB.out))) : w.heap.size ≤ gb394)); have n4_ := Aside0.mk ((by rw [hg]; exact (below_size (by repeat (first | (with_reducible first | exact HB.out | apply below_alloc | apply pw_below_drewN | apply below_drew1 | refine below_set ?_ GE393.out) | exact HB.out))) : w.heap.size ≤ gb394)); have n5_ := Aside0.mk ((by rw [hg]; exact Nat.ne_of_lt (blk_lt (g := gb393) (o := .cells #[.int .i64 a0_0, .int .i64 a0_1, .slice A0_2 l0_2.length c0_2] 28 (0, 0)) (by (with_reducible repeat (first | refine blk_drewN ?_ _ | refine blk_drew ?_ | refine blk_alloc ?_ _)); exact BK393.out)) : gb393 ≠ gb394)); have n6_ := Aside0.mk ((by rw [hg]; exact Nat.ne_of_gt (blk_lt (g := gb393) (o := .cells #[.int .i64 a0_0, .int .i64 a0_1, .slice A0_2 l0_2.length c0_2] 28 (0, 0)) (by (with_reducible repeat (first | refine blk_drewN ?_ _ | refine blk_drew ?_ | refine blk_alloc ?_ _)); exact BK393.out)) : gb394 ≠ gb393)); clear BK393; clear HB; have BK393 := n0_; have HB := n1_; have BK394 := n2_; have GW394 := n3_; have GE394 := n4_; have NB393_394 := n5_; have NB394_393 := n6_; clear n0_ n1_ n2_ n3_ n4_ n5_ n6_; clear hb hbox hg; have hnb7 := NB393_394.out; have hnc7 := NB394_393.out; have hcz8_0 : w6.cell? ⟨gb393, 0, none⟩ = some (.int .i64 a0_0) := (blk_cell BK393.out 0).trans rfl; have hcz8_1 : w6.cell? ⟨gb393, 1, none⟩ = some (.int .i64 a0_1) := (blk_cell BK393.out 1).trans rfl; have hcz8_2 : w6.cell? ⟨gb393, 2, none⟩ = some (.slice A0_2 l0_2.length c0_2) := (blk_cell BK393.out 2).trans rfl; have hfz8_0 := blk_frozen BK393.out 0; have hfz8_1 := blk_frozen BK393.out 1; have hfz8_2 := blk_frozen BK393.out 2) | ((with_reducible refine gate_callee (f := 32) rfl ?_); refine goesL_ (some 6) rfl rfl Try.func32 (by kernel_rfl) rfl #[.agg #[.int .i64 a0_0, .int .i64 a0_1, .slice A0_2 l0_2.length c0_2]] rfl (by (try simp only [List.map_toArray, List.map_cons, List.map_nil]); first | done | rfl | (simp only [List.length_drop, List.length_take]; rfl)) ?_; (with_reducible refine (virgationref02_Large.calls k a0_0 a0_1 _ _ l0_2 true _ ?side1 ?side2 A3.out).mono ?_); (case side1 => repeat (first | exact (Kd.C_below HR0_2.out HB.out) | (with_reducible refine Kd.C_alloc ?_ _) | (with_reducible refine Kd.C_drewN ?_ _) | (with_reducible refine Kd.C_drew ?_))); (case side2 => exact HC0_2.out); rintro e w9 ⟨rfl, hb⟩; refine ⟨_, rfl, ?_⟩; have n0_ := Aside0.mk (blk_below (g := gb393) (o := .cells #[.int .i64 a0_0, .int .i64 a0_1, .slice A0_2 l0_2.length c0_2] 28 (0, 0)) (by (with_reducible repeat (first | refine blk_drewN ?_ _ | refine blk_drew ?_ | refine blk_alloc ?_ _)); exact BK393.out) hb); have n1_ := Aside0.mk (blk_below (g := gb394) (o := .cells #[.int .i64 a1_0, .int .i64 a1_1, .slice A1_2 l1_2.length c1_2] 28 (0, 0)) (by (with_reducible repeat (first | refine blk_drewN ?_ _ | refine blk_drew ?_ | refine blk_alloc ?_ _)); exact BK394.out) hb); have n2_ := Aside0.mk (below_step (by repeat (first | (with_reducible first | exact HB.out | apply below_alloc | apply pw_below_drewN | apply below_drew1 | refine below_set ?_ GE393.out | refine below_set ?_ GE394.out) | exact HB.out)) hb); clear BK393; clear BK394; clear HB; have BK393 := n0_; have BK394 := n1_; have HB := n2_; clear n0_ n1_ n2_; (try clear hb); (try clear hb2); (try clear hk); (try clear hi)))
    go_ret
    exact ⟨by first | rfl | (simp [errW_none, errW_some] <;> rfl) | (simp [*, errW_none, errW_some] <;> rfl), by repeat (first | (with_reducible first | exact HB.out | apply below_alloc | apply pw_below_drewN | apply below_drew1 | refine below_set ?_ GE393.out | refine below_set ?_ GE394.out) | exact HB.out)⟩
  · replace c4 := Bool.eq_false_iff.mpr c4
    subst c4
    have H1 : ((virgationref02_Large.f k a1_0 a1_1 l1_2).bind fun t396 => (if t396 = true then (some false) else ((virgationref02_Equal.f a0_0 a0_1 l0_2 a1_0 a1_1 l1_2).bind fun t397 => (some t397)))) = some r := by rw [if_neg (show ¬ (false = true) by decide)] at H; exact H
    clear H
    have H := H1
    clear H1
    replace H := Option.bind_eq_some_iff.mp H
    obtain ⟨t396, A100, H⟩ := H
    replace H : (if t396 = true then (some false) else ((virgationref02_Equal.f a0_0 a0_1 l0_2 a1_0 a1_1 l1_2).bind fun t397 => (some t397))) = some r := H
    have A10 := Aside0.mk A100
    clear A100
    by_cases c11 : t396 = true
    · subst c11
      have H1 : (some false) = some r := by rw [if_pos rfl] at H; exact H
      clear H
      have H := H1
      clear H1
      obtain rfl := Option.some.inj H
      go_enter Try.func16, Try.ntmps16
      go_wp2_with (first | ((with_reducible refine gate_dst (N := 2) rfl ?_); refine box_event ?hg (N := 2) ?hd (cs := #[.int .i64 a0_0, .int .i64 a0_1, .slice A0_2 l0_2.length c0_2]) (t := 28) ?hr ?_; (case hd => rfl); (case hg => rfl); (case hr => first | (go_simp; done) | (go_simp; rfl)); intro gb393 hg w12 hbox hb; have n0_ := Aside0.mk (below_step (by repeat (first | (with_reducible first | exact HB.out | apply below_alloc | apply pw_below_drewN | apply below_drew1) | exact HB.out)) hb); have n1_ := Aside0.mk (hbox); have n2_ := Aside0.mk ((by rw [hg]; exact (below_size (by repeat (first | (with_reducible first | exact HB.out | apply below_alloc | apply pw_below_drewN | apply below_drew1) | exact HB.out))) : w.heap.size ≤ gb393)); have n3_ := Aside0.mk ((by rw [hg]; exact (below_size (by repeat (first | (with_reducible first | exact HB.out | apply below_alloc | apply pw_below_drewN | apply below_drew1) | exact HB.out))) : w.heap.size ≤ gb393)); clear HB; have HB := n0_; have BK393 := n1_; have GW393 := n2_; have GE393 := n3_; clear n0_ n1_ n2_ n3_; clear hb hbox hg) | ((with_reducible refine gate_dst (N := 3) rfl ?_); refine box_event ?hg (N := 3) ?hd (cs := #[.int .i64 a1_0, .int .i64 a1_1, .slice A1_2 l1_2.length c1_2]) (t := 28) ?hr ?_; (case hd => rfl); (case hg => rfl); (case hr => first | (go_simp; done) | (go_simp; rfl)); intro gb394 hg w13 hbox hb; have n0_ := Aside0.mk (blk_below (g := gb393) (o := .cells #[.int .i64 a0_0, .int .i64 a0_1, .slice A0_2 l0_2.length c0_2] 28 (0, 0)) (by (with_reducible repeat (first | refine blk_drewN ?_ _ | refine blk_drew ?_ | refine blk_alloc ?_ _)); exact BK393.out) hb); have n1_ := Aside0.mk (below_step (by repeat (first | (with_reducible first | exact HB.out | apply below_alloc | apply pw_below_drewN | apply below_drew1 | refine below_set ?_ GE393.out) | exact HB.out)) hb); have n2_ := Aside0.mk (hbox); have n3_ := Aside0.mk ((by rw [hg]; exact (below_size (by repeat (first | (with_reducible first | exact HB.out | apply below_alloc | apply pw_below_drewN | apply below_drew1 | refine below_set ?_ GE393.out) | exact HB.out))) : w.heap.size ≤ gb394)); have n4_ := Aside0.mk ((by rw [hg]; exact (below_size (by repeat (first | (with_reducible first | exact HB.out | apply below_alloc | apply pw_below_drewN | apply below_drew1 | refine below_set ?_ GE393.out) | exact HB.out))) : w.heap.size ≤ gb394)); have n5_ := Aside0.mk ((by rw [hg]; exact Nat.ne_of_lt (blk_lt (g := gb393) (o := .cells #[.int .i64 a0_0, .int .i64 a0_1, .slice A0_2 l0_2.length c0_2] 28 (0, 0)) (by (with_reducible repeat (first | refine blk_drewN ?_ _ | refine blk_drew ?_ | refine blk_alloc ?_ _)); exact BK393.out)) : gb393 ≠ gb394)); have n6_ := Aside0.mk ((by rw [hg]; exact Nat.ne_of_gt (blk_lt (g := gb393) (o := .cells #[.int .i64 a0_0, .int .i64 a0_1, .slice A0_2 l0_2.length c0_2] 28 (0, 0)) (by (with_reducible repeat (first | refine blk_drewN ?_ _ | refine blk_drew ?_ | refine blk_alloc ?_ _)); exact BK393.out)) : gb394 ≠ gb393)); clear BK393; clear HB; have BK393 := n0_; have HB := n1_; have BK394 := n2_; have GW394 := n3_; have GE394 := n4_; have NB393_394 := n5_; have NB394_393 := n6_; clear n0_ n1_ n2_ n3_ n4_ n5_ n6_; clear hb hbox hg; have hnb14 := NB393_394.out; have hnc14 := NB394_393.out; have hcz15_0 : w13.cell? ⟨gb393, 0, none⟩ = some (.int .i64 a0_0) := (blk_cell BK393.out 0).trans rfl; have hcz15_1 : w13.cell? ⟨gb393, 1, none⟩ = some (.int .i64 a0_1) := (blk_cell BK393.out 1).trans rfl; have hcz15_2 : w13.cell? ⟨gb393, 2, none⟩ = some (.slice A0_2 l0_2.length c0_2) := (blk_cell BK393.out 2).trans rfl; have hfz15_0 := blk_frozen BK393.out 0; have hfz15_1 := blk_frozen BK393.out 1; have hfz15_2 := blk_frozen BK393.out 2) | ((with_reducible refine gate_callee (f := 32) rfl ?_); refine goesL_ (some 6) rfl rfl Try.func32 (by kernel_rfl) rfl #[.agg #[.int .i64 a0_0, .int .i64 a0_1, .slice A0_2 l0_2.length c0_2]] rfl (by (try simp only [List.map_toArray, List.map_cons, List.map_nil]); first | done | rfl | (simp only [List.length_drop, List.length_take]; rfl)) ?_; (with_reducible refine (virgationref02_Large.calls k a0_0 a0_1 _ _ l0_2 false _ ?side1 ?side2 A3.out).mono ?_); (case side1 => repeat (first | exact (Kd.C_below HR0_2.out HB.out) | (with_reducible refine Kd.C_alloc ?_ _) | (with_reducible refine Kd.C_drewN ?_ _) | (with_reducible refine Kd.C_drew ?_))); (case side2 => exact HC0_2.out); rintro e w16 ⟨rfl, hb⟩; refine ⟨_, rfl, ?_⟩; have n0_ := Aside0.mk (blk_below (g := gb393) (o := .cells #[.int .i64 a0_0, .int .i64 a0_1, .slice A0_2 l0_2.length c0_2] 28 (0, 0)) (by (with_reducible repeat (first | refine blk_drewN ?_ _ | refine blk_drew ?_ | refine blk_alloc ?_ _)); exact BK393.out) hb); have n1_ := Aside0.mk (blk_below (g := gb394) (o := .cells #[.int .i64 a1_0, .int .i64 a1_1, .slice A1_2 l1_2.length c1_2] 28 (0, 0)) (by (with_reducible repeat (first | refine blk_drewN ?_ _ | refine blk_drew ?_ | refine blk_alloc ?_ _)); exact BK394.out) hb); have n2_ := Aside0.mk (below_step (by repeat (first | (with_reducible first | exact HB.out | apply below_alloc | apply pw_below_drewN | apply below_drew1 | refine below_set ?_ GE393.out | refine below_set ?_ GE394.out) | exact HB.out)) hb); clear BK393; clear BK394; clear HB; have BK393 := n0_; have BK394 := n1_; have HB := n2_; clear n0_ n1_ n2_; (try clear hb); (try clear hb2); (try clear hk); (try clear hi); have hcz17_0 : w16.cell? ⟨gb394, 0, none⟩ = some (.int .i64 a1_0) := (blk_cell BK394.out 0).trans rfl; have hcz17_1 : w16.cell? ⟨gb394, 1, none⟩ = some (.int .i64 a1_1) := (blk_cell BK394.out 1).trans rfl; have hcz17_2 : w16.cell? ⟨gb394, 2, none⟩ = some (.slice A1_2 l1_2.length c1_2) := (blk_cell BK394.out 2).trans rfl; have hfz17_0 := blk_frozen BK394.out 0; have hfz17_1 := blk_frozen BK394.out 1; have hfz17_2 := blk_frozen BK394.out 2) | (go_at_call 32; (with_reducible refine (virgationref02_Large.calls k a1_0 a1_1 _ _ l1_2 true _ ?side1 ?side2 A10.out).mono ?_); (case side1 => repeat (first | exact (Kd.C_below HR1_2.out HB.out) | (with_reducible refine Kd.C_alloc ?_ _) | (with_reducible refine Kd.C_drewN ?_ _) | (with_reducible refine Kd.C_drew ?_))); (case side2 => exact HC1_2.out); rintro e w18 ⟨rfl, hb⟩; have n0_ := Aside0.mk (blk_below (g := gb393) (o := .cells #[.int .i64 a0_0, .int .i64 a0_1, .slice A0_2 l0_2.length c0_2] 28 (0, 0)) (by (with_reducible repeat (first | refine blk_drewN ?_ _ | refine blk_drew ?_ | refine blk_alloc ?_ _)); exact BK393.out) hb); have n1_ := Aside0.mk (blk_below (g := gb394) (o := .cells #[.int .i64 a1_0, .int .i64 a1_1, .slice A1_2 l1_2.length c1_2] 28 (0, 0)) (by (with_reducible repeat (first | refine blk_drewN ?_ _ | refine blk_drew ?_ | refine blk_alloc ?_ _)); exact BK394.out) hb); have n2_ := Aside0.mk (below_step (by repeat (first | (with_reducible first | exact HB.out | apply below_alloc | apply pw_below_drewN | apply below_drew1 | refine below_set ?_ GE393.out | refine below_set ?_ GE394.out) | exact HB.out)) hb); clear BK393; clear BK394; clear HB; have BK393 := n0_; have BK394 := n1_; have HB := n2_; clear n0_ n1_ n2_; (try clear hb); (try clear hb2); (try clear hk); (try clear hi)))
      go_ret
      exact ⟨by first | rfl | (simp [errW_none, errW_some] <;> rfl) | (simp [*, errW_none, errW_some] <;> rfl), by repeat (first | (with_reducible first | exact HB.out | apply below_alloc | apply pw_below_drewN | apply below_drew1 | refine below_set ?_ GE393.out | refine below_set ?_ GE394.out) | exact HB.out)⟩
    · replace c11 := Bool.eq_false_iff.mpr c11
      subst c11
      have H1 : ((virgationref02_Equal.f a0_0 a0_1 l0_2 a1_0 a1_1 l1_2).bind fun t397 => (some t397)) = some r := by rw [if_neg (show ¬ (false = true) by decide)] at H; exact H
      clear H
      have H := H1
      clear H1
      replace H := Option.bind_eq_some_iff.mp H
      obtain ⟨t397, A190, H⟩ := H
      replace H : (some t397) = some r := H
      have A19 := Aside0.mk A190
      clear A190
      obtain rfl := Option.some.inj H
      go_enter Try.func16, Try.ntmps16
      go_wp2_with (first | ((with_reducible refine gate_dst (N := 2) rfl ?_); refine box_event ?hg (N := 2) ?hd (cs := #[.int .i64 a0_0, .int .i64 a0_1, .slice A0_2 l0_2.length c0_2]) (t := 28) ?hr ?_; (case hd => rfl); (case hg => rfl); (case hr => first | (go_simp; done) | (go_simp; rfl)); intro gb393 hg w20 hbox hb; have n0_ := Aside0.mk (below_step (by repeat (first | (with_reducible first | exact HB.out | apply below_alloc | apply pw_below_drewN | apply below_drew1) | exact HB.out)) hb); have n1_ := Aside0.mk (hbox); have n2_ := Aside0.mk ((by rw [hg]; exact (below_size (by repeat (first | (with_reducible first | exact HB.out | apply below_alloc | apply pw_below_drewN | apply below_drew1) | exact HB.out))) : w.heap.size ≤ gb393)); have n3_ := Aside0.mk ((by rw [hg]; exact (below_size (by repeat (first | (with_reducible first | exact HB.out | apply below_alloc | apply pw_below_drewN | apply below_drew1) | exact HB.out))) : w.heap.size ≤ gb393)); clear HB; have HB := n0_; have BK393 := n1_; have GW393 := n2_; have GE393 := n3_; clear n0_ n1_ n2_ n3_; clear hb hbox hg) | ((with_reducible refine gate_dst (N := 3) rfl ?_); refine box_event ?hg (N := 3) ?hd (cs := #[.int .i64 a1_0, .int .i64 a1_1, .slice A1_2 l1_2.length c1_2]) (t := 28) ?hr ?_; (case hd => rfl); (case hg => rfl); (case hr => first | (go_simp; done) | (go_simp; rfl)); intro gb394 hg w21 hbox hb; have n0_ := Aside0.mk (blk_below (g := gb393) (o := .cells #[.int .i64 a0_0, .int .i64 a0_1, .slice A0_2 l0_2.length c0_2] 28 (0, 0)) (by (with_reducible repeat (first | refine blk_drewN ?_ _ | refine blk_drew ?_ | refine blk_alloc ?_ _)); exact BK393.out) hb); have n1_ := Aside0.mk (below_step (by repeat (first | (with_reducible first | exact HB.out | apply below_alloc | apply pw_below_drewN | apply below_drew1 | refine below_set ?_ GE393.out) | exact HB.out)) hb); have n2_ := Aside0.mk (hbox); have n3_ := Aside0.mk ((by rw [hg]; exact (below_size (by repeat (first | (with_reducible first | exact HB.out | apply below_alloc | apply pw_below_drewN | apply below_drew1 | refine below_set ?_ GE393.out) | exact HB.out))) : w.heap.size ≤ gb394)); have n4_ := Aside0.mk ((by rw [hg]; exact (below_size (by repeat (first | (with_reducible first | exact HB.out | apply below_alloc | apply pw_below_drewN | apply below_drew1 | refine below_set ?_ GE393.out) | exact HB.out))) : w.heap.size ≤ gb394)); have n5_ := Aside0.mk ((by rw [hg]; exact Nat.ne_of_lt (blk_lt (g := gb393) (o := .cells #[.int .i64 a0_0, .int .i64 a0_1, .slice A0_2 l0_2.length c0_2] 28 (0, 0)) (by (with_reducible repeat (first | refine blk_drewN ?_ _ | refine blk_drew ?_ | refine blk_alloc ?_ _)); exact BK393.out)) : gb393 ≠ gb394)); have n6_ := Aside0.mk ((by rw [hg]; exact Nat.ne_of_gt (blk_lt (g := gb393) (o := .cells #[.int .i64 a0_0, .int .i64 a0_1, .slice A0_2 l0_2.length c0_2] 28 (0, 0)) (by (with_reducible repeat (first | refine blk_drewN ?_ _ | refine blk_drew ?_ | refine blk_alloc ?_ _)); exact BK393.out)) : gb394 ≠ gb393)); clear BK393; clear HB; have BK393 := n0_; have HB := n1_; have BK394 := n2_; have GW394 := n3_; have GE394 := n4_; have NB393_394 := n5_; have NB394_393 := n6_; clear n0_ n1_ n2_ n3_ n4_ n5_ n6_; clear hb hbox hg; have hnb22 := NB393_394.out; have hnc22 := NB394_393.out; have hcz23_0 : w21.cell? ⟨gb393, 0, none⟩ = some (.int .i64 a0_0) := (blk_cell BK393.out 0).trans rfl; have hcz23_1 : w21.cell? ⟨gb393, 1, none⟩ = some (.int .i64 a0_1) := (blk_cell BK393.out 1).trans rfl; have hcz23_2 : w21.cell? ⟨gb393, 2, none⟩ = some (.slice A0_2 l0_2.length c0_2) := (blk_cell BK393.out 2).trans rfl; have hfz23_0 := blk_frozen BK393.out 0; have hfz23_1 := blk_frozen BK393.out 1; have hfz23_2 := blk_frozen BK393.out 2) | ((with_reducible refine gate_callee (f := 32) rfl ?_); refine goesL_ (some 6) rfl rfl Try.func32 (by kernel_rfl) rfl #[.agg #[.int .i64 a0_0, .int .i64 a0_1, .slice A0_2 l0_2.length c0_2]] rfl (by (try simp only [List.map_toArray, List.map_cons, List.map_nil]); first | done | rfl | (simp only [List.length_drop, List.length_take]; rfl)) ?_; (with_reducible refine (virgationref02_Large.calls k a0_0 a0_1 _ _ l0_2 false _ ?side1 ?side2 A3.out).mono ?_); (case side1 => repeat (first | exact (Kd.C_below HR0_2.out HB.out) | (with_reducible refine Kd.C_alloc ?_ _) | (with_reducible refine Kd.C_drewN ?_ _) | (with_reducible refine Kd.C_drew ?_))); (case side2 => exact HC0_2.out); rintro e w24 ⟨rfl, hb⟩; refine ⟨_, rfl, ?_⟩; have n0_ := Aside0.mk (blk_below (g := gb393) (o := .cells #[.int .i64 a0_0, .int .i64 a0_1, .slice A0_2 l0_2.length c0_2] 28 (0, 0)) (by (with_reducible repeat (first | refine blk_drewN ?_ _ | refine blk_drew ?_ | refine blk_alloc ?_ _)); exact BK393.out) hb); have n1_ := Aside0.mk (blk_below (g := gb394) (o := .cells #[.int .i64 a1_0, .int .i64 a1_1, .slice A1_2 l1_2.length c1_2] 28 (0, 0)) (by (with_reducible repeat (first | refine blk_drewN ?_ _ | refine blk_drew ?_ | refine blk_alloc ?_ _)); exact BK394.out) hb); have n2_ := Aside0.mk (below_step (by repeat (first | (with_reducible first | exact HB.out | apply below_alloc | apply pw_below_drewN | apply below_drew1 | refine below_set ?_ GE393.out | refine below_set ?_ GE394.out) | exact HB.out)) hb); clear BK393; clear BK394; clear HB; have BK393 := n0_; have BK394 := n1_; have HB := n2_; clear n0_ n1_ n2_; (try clear hb); (try clear hb2); (try clear hk); (try clear hi); have hcz25_0 : w24.cell? ⟨gb394, 0, none⟩ = some (.int .i64 a1_0) := (blk_cell BK394.out 0).trans rfl; have hcz25_1 : w24.cell? ⟨gb394, 1, none⟩ = some (.int .i64 a1_1) := (blk_cell BK394.out 1).trans rfl; have hcz25_2 : w24.cell? ⟨gb394, 2, none⟩ = some (.slice A1_2 l1_2.length c1_2) := (blk_cell BK394.out 2).trans rfl; have hfz25_0 := blk_frozen BK394.out 0; have hfz25_1 := blk_frozen BK394.out 1; have hfz25_2 := blk_frozen BK394.out 2) | (go_at_call 32; (with_reducible refine (virgationref02_Large.calls k a1_0 a1_1 _ _ l1_2 false _ ?side1 ?side2 A10.out).mono ?_); (case side1 => repeat (first | exact (Kd.C_below HR1_2.out HB.out) | (with_reducible refine Kd.C_alloc ?_ _) | (with_reducible refine Kd.C_drewN ?_ _) | (with_reducible refine Kd.C_drew ?_))); (case side2 => exact HC1_2.out); rintro e w26 ⟨rfl, hb⟩; have n0_ := Aside0.mk (blk_below (g := gb393) (o := .cells #[.int .i64 a0_0, .int .i64 a0_1, .slice A0_2 l0_2.length c0_2] 28 (0, 0)) (by (with_reducible repeat (first | refine blk_drewN ?_ _ | refine blk_drew ?_ | refine blk_alloc ?_ _)); exact BK393.out) hb); have n1_ := Aside0.mk (blk_below (g := gb394) (o := .cells #[.int .i64 a1_0, .int .i64 a1_1, .slice A1_2 l1_2.length c1_2] 28 (0, 0)) (by (with_reducible repeat (first | refine blk_drewN ?_ _ | refine blk_drew ?_ | refine blk_alloc ?_ _)); exact BK394.out) hb); have n2_ := Aside0.mk (below_step (by repeat (first | (with_reducible first | exact HB.out | apply below_alloc | apply pw_below_drewN | apply below_drew1 | refine below_set ?_ GE393.out | refine below_set ?_ GE394.out) | exact HB.out)) hb); clear BK393; clear BK394; clear HB; have BK393 := n0_; have BK394 := n1_; have HB := n2_; clear n0_ n1_ n2_; (try clear hb); (try clear hb2); (try clear hk); (try clear hi); have hcz27_0 : w26.cell? ⟨gb393, 0, none⟩ = some (.int .i64 a0_0) := (blk_cell BK393.out 0).trans rfl; have hcz27_1 : w26.cell? ⟨gb393, 1, none⟩ = some (.int .i64 a0_1) := (blk_cell BK393.out 1).trans rfl; have hcz27_2 : w26.cell? ⟨gb393, 2, none⟩ = some (.slice A0_2 l0_2.length c0_2) := (blk_cell BK393.out 2).trans rfl; have hfz27_0 := blk_frozen BK393.out 0; have hfz27_1 := blk_frozen BK393.out 1; have hfz27_2 := blk_frozen BK393.out 2; have hcz28_0 : w26.cell? ⟨gb394, 0, none⟩ = some (.int .i64 a1_0) := (blk_cell BK394.out 0).trans rfl; have hcz28_1 : w26.cell? ⟨gb394, 1, none⟩ = some (.int .i64 a1_1) := (blk_cell BK394.out 1).trans rfl; have hcz28_2 : w26.cell? ⟨gb394, 2, none⟩ = some (.slice A1_2 l1_2.length c1_2) := (blk_cell BK394.out 2).trans rfl; have hfz28_0 := blk_frozen BK394.out 0; have hfz28_1 := blk_frozen BK394.out 1; have hfz28_2 := blk_frozen BK394.out 2) | (go_at_call 26; (with_reducible refine (virgationref02_Equal.calls a0_0 a0_1 _ _ l0_2 a1_0 a1_1 _ _ l1_2 t397 _ ?side1 ?side2 ?side3 ?side4 A19.out).mono ?_); (case side1 => repeat (first | exact (Kd.C_below HR0_2.out HB.out) | (with_reducible refine Kd.C_alloc ?_ _) | (with_reducible refine Kd.C_drewN ?_ _) | (with_reducible refine Kd.C_drew ?_))); (case side2 => exact HC0_2.out); (case side3 => repeat (first | exact (Kd.C_below HR1_2.out HB.out) | (with_reducible refine Kd.C_alloc ?_ _) | (with_reducible refine Kd.C_drewN ?_ _) | (with_reducible refine Kd.C_drew ?_))); (case side4 => exact HC1_2.out); rintro e w29 ⟨rfl, hb⟩; have n0_ := Aside0.mk (blk_below (g := gb393) (o := .cells #[.int .i64 a0_0, .int .i64 a0_1, .slice A0_2 l0_2.length c0_2] 28 (0, 0)) (by (with_reducible repeat (first | refine blk_drewN ?_ _ | refine blk_drew ?_ | refine blk_alloc ?_ _)); exact BK393.out) hb); have n1_ := Aside0.mk (blk_below (g := gb394) (o := .cells #[.int .i64 a1_0, .int .i64 a1_1, .slice A1_2 l1_2.length c1_2] 28 (0, 0)) (by (with_reducible repeat (first | refine blk_drewN ?_ _ | refine blk_drew ?_ | refine blk_alloc ?_ _)); exact BK394.out) hb); have n2_ := Aside0.mk (below_step (by repeat (first | (with_reducible first | exact HB.out | apply below_alloc | apply pw_below_drewN | apply below_drew1 | refine below_set ?_ GE393.out | refine below_set ?_ GE394.out) | exact HB.out)) hb); clear BK393; clear BK394; clear HB; have BK393 := n0_; have BK394 := n1_; have HB := n2_; clear n0_ n1_ n2_; (try clear hb); (try clear hb2); (try clear hk); (try clear hi)))
      go_ret
      exact ⟨by first | rfl | (simp [errW_none, errW_some] <;> rfl) | (simp [*, errW_none, errW_some] <;> rfl), by repeat (first | (with_reducible first | exact HB.out | apply below_alloc | apply pw_below_drewN | apply below_drew1 | refine below_set ?_ GE393.out | refine below_set ?_ GE394.out) | exact HB.out)⟩
end Go.Proofs.Ytnfgpepggehegaa.I
namespace Go.Proofs.Ytnfgpepggehegaa.I
open Go.RowKit Go.Proofs.YtnfgpepggehegaaW.PrintWords Go.Proofs.YtnfgpepggehegaaW.PrintLast Go.Proofs.YtnfgpepggehegaaW.PrintMore
set_option linter.unusedVariables false
set_option linter.unusedSimpArgs false
theorem large_ev (t : S28) : Ev (fun k => virgationref02_Large.f k t.f0 t.f1 t.f2) (decide (100000 < tcnt t)) := by
  unfold virgationref02_Large.f
  refine Ev.bind (tnodes_ev _ t.f0 t.f1 t.f2 100000 (Nat.lt_succ_self _) (by omega) (by omega)) ?_
  have e : decide (min (1 + tcntL t.f2) (100000 + 1) > 100000) = decide (100000 < tcnt t) := decide_eq_decide.2 (by have := tcnt_f2 t; omega)
  rw [e]
  exact Ev.now _
theorem tsame_calls (t : S28) (ht : tcnt t ≤ 100000) {w : World} {A A' : Option Addr} {c c' : Nat} (hr : Kd.C k28 w A t.f2.length t.f2) (hc : t.f2.length ≤ c) (hr' : Kd.C k28 w A' t.f2.length t.f2) (hc' : t.f2.length ≤ c') :
    Calls Try.prog 16 #[.agg #[.int .i64 t.f0, .int .i64 t.f1, .slice A t.f2.length c], .agg #[.int .i64 t.f0, .int .i64 t.f1, .slice A' t.f2.length c']] w fun e w' => e = .returned (.bool true) ∧ Below w.heap.size w w' := by
  have hl := large_ev t
  rw [decide_eq_false (by omega)] at hl
  have he : Ev (fun k => virgationref02_Same.f k t.f0 t.f1 t.f2 t.f0 t.f1 t.f2) true := by
    unfold virgationref02_Same.f
    refine Ev.bind hl ?_
    simp only [Bool.false_eq_true, if_false]
    refine Ev.bind hl ?_
    simp only [Bool.false_eq_true, if_false]
    have e : virgationref02_Equal.f t.f0 t.f1 t.f2 t.f0 t.f1 t.f2 = some true := by
      unfold virgationref02_Equal.f
      rw [teqL_refl, decide_eq_true rfl, decide_eq_true rfl]; rfl
    rw [e]
    exact Ev.now _
  obtain ⟨k, hk⟩ := he.rounds
  exact virgationref02_Same.calls k t.f0 t.f1 A c t.f2 t.f0 t.f1 A' c' t.f2 true w hr hc hr' hc' hk
end Go.Proofs.Ytnfgpepggehegaa.I
namespace Go.Proofs.Ytnfgpepggehegaa.I
open Go.RowKit Go.Proofs.YtnfgpepggehegaaW.PrintWords Go.Proofs.YtnfgpepggehegaaW.PrintLast Go.Proofs.YtnfgpepggehegaaW.PrintMore
set_option linter.unusedVariables false
set_option linter.unusedSimpArgs false
structure Sch (w : World) (A0 : Option Addr) (c0 : Nat) (l0 : List S87) (A1 : Option Addr) (c1 : Nat) (l1 : List S84) : Prop where
  r0 : Kd.C k87 w A0 l0.length l0
  h0 : l0.length ≤ c0
  r1 : Kd.C k84 w A1 l1.length l1
  h1 : l1.length ≤ c1
theorem Sch.below {w w' : World} {A0 : Option Addr} {c0 : Nat} {l0 : List S87} {A1 : Option Addr} {c1 : Nat} {l1 : List S84} (h : Sch w A0 c0 l0 A1 c1 l1) (hb : Below w.heap.size w w') : Sch w' A0 c0 l0 A1 c1 l1 :=
  ⟨Kd.C_below h.r0 hb, h.h0, Kd.C_below h.r1 hb, h.h1⟩
def Tm (w : World) (ok : Nat → Prop) (x : S28) (A : Option Addr) (c : Nat) : Prop := Kd.V k28 28 w 0 ok (.slice A x.f2.length c) x.f2
theorem Tm.below {w w' : World} {ok : Nat → Prop} {x : S28} {A : Option Addr} {c : Nat} (h : Tm w ok x A c) (hb : Below w.heap.size w w') : Tm w' ok x A c := Kd.V_below h hb
theorem Tm.mono {w : World} {ok ok' : Nat → Prop} {x : S28} {A : Option Addr} {c : Nat} (h : Tm w ok x A c) (hb : ∀ k, ok k → ok' k) : Tm w ok' x A c := Kd.V_mono h hb
theorem Tm.c {w : World} {ok : Nat → Prop} {x : S28} {A : Option Addr} {c : Nat} (h : Tm w ok x A c) : Kd.C k28 w A x.f2.length x.f2 := (Kd.V_reads' h).2.2
theorem Tm.le {w : World} {ok : Nat → Prop} {x : S28} {A : Option Addr} {c : Nat} (h : Tm w ok x A c) : x.f2.length ≤ c := (Kd.V_reads' h).2.1
theorem Tm.of {w : World} {x : S28} {A : Option Addr} {c : Nat} (h : Kd.C k28 w A x.f2.length x.f2) (hc : x.f2.length ≤ c) : Tm w (fun k => k < w.heap.size) x A c := Kd.V_mk hc (Kd.C_F k28_heap h)
theorem Tm.far {w : World} {ok : Nat → Prop} {x : S28} {A : Option Addr} {c : Nat} {p : Addr} (h : Tm w ok x A c) (hok : ∀ k, ok k → k ≠ p.block) (u : Value) : Tm (w.setCell p u) ok x A c := Kd.V_far h hok u
theorem Tm.bound {w : World} {ok : Nat → Prop} {x : S28} {A : Option Addr} {c : Nat} (h : Tm w ok x A c) : Tm w (fun k => ok k ∧ k < w.heap.size) x A c := Kd.V_bound h
variable {w w' : World} {A0 : Option Addr} {c0 : Nat} {l0 : List S87} {A1 : Option Addr} {c1 : Nat} {l1 : List S84} {ok : Nat → Prop} {x y : S28} {A A' : Option Addr} {c c' : Nat}
theorem check_at (hs : Sch w A0 c0 l0 A1 c1 l1) (ht : Tm w ok x A c) (z : Int) (hz : stB l0 l1 x = z) :
    Calls Try.prog 11 #[.agg #[.slice A0 l0.length c0, .slice A1 l1.length c1], .agg #[.int .i64 x.f0, .int .i64 x.f1, .slice A x.f2.length c]] w fun e w' => e = .returned (.int .i64 z) ∧ Below w.heap.size w w' := by
  subst hz
  exact stepcheck_calls A0 c0 l0 A1 c1 l1 x A c w hs.r0 hs.h0 hs.r1 hs.h1 ht.c ht.le
theorem step_at (hs : Sch w A0 c0 l0 A1 c1 l1) (ht : Tm w ok x A c) (y : S28) (m : Bool) (z : Int) (hz : stepF l0 l1 x = (y, m, z)) :
    Calls Try.prog 14 #[.agg #[.slice A0 l0.length c0, .slice A1 l1.length c1], .agg #[.int .i64 x.f0, .int .i64 x.f1, .slice A x.f2.length c]] w fun e w' => ∃ Av cv, e = .returned (.tuple #[.agg #[.int .i64 y.f0, .int .i64 y.f1, .slice Av y.f2.length cv], .bool m, .int .i64 z]) ∧ Tm w' (fun k => w.heap.size ≤ k) y Av cv ∧ Below w.heap.size w w' := by
  have h := step_calls A0 c0 l0 A1 c1 l1 x A c w hs.r0 hs.h0 hs.r1 hs.h1 ht.c ht.le
  rw [hz] at h
  refine h.mono ?_
  rintro e w' ⟨v, rfl, hR, hb⟩
  obtain ⟨Av, cv, rfl, hV⟩ := V_new hR
  exact ⟨Av, cv, rfl, hV, hb⟩
theorem run_at (hs : Sch w A0 c0 l0 A1 c1 l1) (ht : Tm w ok x A c) (fuel : Int) (y : S28) (m : Int) (z : Int) (hz : runF l0 l1 x fuel = (y, m, z)) :
    Calls Try.prog 17 #[.agg #[.slice A0 l0.length c0, .slice A1 l1.length c1], .agg #[.int .i64 x.f0, .int .i64 x.f1, .slice A x.f2.length c], .int .i64 fuel] w fun e w' => ∃ Av cv, e = .returned (.tuple #[.agg #[.int .i64 y.f0, .int .i64 y.f1, .slice Av y.f2.length cv], .int .i64 m, .int .i64 z]) ∧ Tm w' (fun k => w.heap.size ≤ k) y Av cv ∧ Below w.heap.size w w' := by
  have h := run_calls A0 c0 l0 A1 c1 l1 x A c fuel w hs.r0 hs.h0 hs.r1 hs.h1 ht.c ht.le
  rw [hz] at h
  refine h.mono ?_
  rintro e w' ⟨v, rfl, hR, hb⟩
  obtain ⟨Av, cv, rfl, hV⟩ := V_new hR
  exact ⟨Av, cv, rfl, hV, hb⟩
theorem same_at {ok' : Nat → Prop} (ht : Tm w ok x A c) (ht' : Tm w ok' x A' c') (hx : tcnt x ≤ 100000) :
    Calls Try.prog 16 #[.agg #[.int .i64 x.f0, .int .i64 x.f1, .slice A x.f2.length c], .agg #[.int .i64 x.f0, .int .i64 x.f1, .slice A' x.f2.length c']] w fun e w' => e = .returned (.bool true) ∧ Below w.heap.size w w' :=
  tsame_calls x hx ht.c ht.le ht'.c ht'.le
theorem stepF_large (h : stB l0 l1 x = 0) (ht : 100000 < tcnt (nextT l1 x)) : stepF l0 l1 x = (⟨0, 0, []⟩, false, 3) := by unfold stepF; rw [if_pos h, if_pos ht]
theorem stepF_next (h : stB l0 l1 x = 0) (ht : ¬ 100000 < tcnt (nextT l1 x)) : stepF l0 l1 x = (nextT l1 x, decide (x.f0 = 1), 0) := by unfold stepF; rw [if_pos h, if_neg ht]
theorem stB_of (hs : schB l0 l1 = true) (ht : tcnt x ≤ 100000) (hc : closedB l0 l1 x = true) : stB l0 l1 x = 0 := by
  unfold stB
  rw [if_pos hs, if_neg (by omega), if_pos hc]
theorem stB_next (h : stB l0 l1 x = 0) (ht : ¬ 100000 < tcnt (nextT l1 x)) : stB l0 l1 (nextT l1 x) = 0 := by
  obtain ⟨hs, _, hc⟩ := stB_zero h
  exact stB_of hs (by omega) (closed_next hs hc)
theorem nextT_done (h : x.f0 ≠ 1) : nextT l1 x = x := by unfold nextT; rw [if_neg h]
theorem blk_set3 {w : World} {g : Nat} {t : TypeId} {a b d : Value} (h : w.heap[g]? = some (.cells #[a, b, d] t (0, 0))) (a' b' d' : Value) : (((w.setCell ⟨g, 0, none⟩ a').setCell ⟨g, 1, none⟩ b').setCell ⟨g, 2, none⟩ d').heap[g]? = some (.cells #[a', b', d'] t (0, 0)) :=
  blk_put (cs' := #[a', b', d']) (blk_put (cs' := #[a', b', d]) (blk_put (cs' := #[a', b, d]) h 0 a' rfl) 1 b' rfl) 2 d' rfl
theorem blk_far3 {w : World} {g g' : Nat} {t : TypeId} {cs : Array Value} (h : w.heap[g]? = some (.cells cs t (0, 0))) (hg : g ≠ g') (a' b' d' : Value) : (((w.setCell ⟨g', 0, none⟩ a').setCell ⟨g', 1, none⟩ b').setCell ⟨g', 2, none⟩ d').heap[g]? = some (.cells cs t (0, 0)) :=
  blk_far (p := ⟨g', 2, none⟩) (blk_far (p := ⟨g', 1, none⟩) (blk_far (p := ⟨g', 0, none⟩) h hg a') hg b') hg d'
theorem below_set3 {w0 w : World} {g : Nat} (h : Below w0.heap.size w0 w) (hg : w0.heap.size ≤ g) (a' b' d' : Value) : Below w0.heap.size w0 (((w.setCell ⟨g, 0, none⟩ a').setCell ⟨g, 1, none⟩ b').setCell ⟨g, 2, none⟩ d') := below_set (below_set (below_set h hg) hg) hg
theorem Tm.far3 {g : Nat} (h : Tm w ok x A c) (hok : ∀ k, ok k → k ≠ g) (a' b' d' : Value) : Tm (((w.setCell ⟨g, 0, none⟩ a').setCell ⟨g, 1, none⟩ b').setCell ⟨g, 2, none⟩ d') ok x A c := Tm.far (p := ⟨g, 2, none⟩) (Tm.far (p := ⟨g, 1, none⟩) (Tm.far (p := ⟨g, 0, none⟩) h hok _) hok _) hok _
end Go.Proofs.Ytnfgpepggehegaa.I
