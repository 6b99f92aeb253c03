/- Texts of this session's proof, laid together: I10, IB2, IB6, IJ2, IB7, IB8, IB3, IB4. -/
import Derived.Deep.RegionLaw
import Derived.Deep.RegionHeld3
import Derived.Test.YtnfgpepggehegaaH5
namespace Go.Proofs.Ytnfgpepggehegaa.I
open Go.RowKit Go.Proofs.YtnfgpepggehegaaW.PrintWords Go.Proofs.YtnfgpepggehegaaW.PrintLast Go.Proofs.YtnfgpepggehegaaW.PrintMore
attribute [local go_sem] max2_int min2_int max_two min_two max_three min_three max_four min_four   -- for this text's walks alone
set_option linter.unusedVariables false
set_option linter.unusedSimpArgs false
mutual
def virgationref03_Term.j0 : Nat → ByteArray → List (S87) → List (S84) → Int → Int → List (S28) → Option (ByteArray)
  | 0, _, _, _, _, _, _ => none
  | k + 1, x5, x309000, x309001, x310000, x310001, x310002 => virgationref03_Term.l0 k x5 x310002 (x310002.length : Int) 0 x309000 x309001
def virgationref03_Term.l0 : Nat → ByteArray → List (S28) → Int → Int → List (S87) → List (S84) → Option (ByteArray)
  | 0, _, _, _, _, _, _ => none
  | k + 1, x5, x34, x35, x36, x309000, x309001 => if x36 < x35 then (if 0 ≤ x36 then (if x36 < (x34.length : Int) then (if (((rd_T28 x34 x36).f2).length : Int) = 0 then (if x5.size + 1 ≤ 9223372036854775807 then ((virgationref03_Term.f k x309000 x309001 ((rd_T28 x34 x36).f0) ((rd_T28 x34 x36).f1) ((rd_T28 x34 x36).f2)).bind fun t315 => (if (x5 ++ (⟨#[32]⟩ : ByteArray)).size + t315.size ≤ 9223372036854775807 then (virgationref03_Term.l0 k ((x5 ++ (⟨#[32]⟩ : ByteArray)) ++ t315) x34 x35 (wrap64 (x36 + 1)) x309000 x309001) else (none))) else (none)) else (if x5.size + 2 ≤ 9223372036854775807 then ((virgationref03_Term.f k x309000 x309001 ((rd_T28 x34 x36).f0) ((rd_T28 x34 x36).f1) ((rd_T28 x34 x36).f2)).bind fun t316 => (if (x5 ++ (⟨#[32, 40]⟩ : ByteArray)).size + t316.size ≤ 9223372036854775807 then (if ((x5 ++ (⟨#[32, 40]⟩ : ByteArray)) ++ t316).size + 1 ≤ 9223372036854775807 then (virgationref03_Term.l0 k (((x5 ++ (⟨#[32, 40]⟩ : ByteArray)) ++ t316) ++ (⟨#[41]⟩ : ByteArray)) x34 x35 (wrap64 (x36 + 1)) x309000 x309001) else (none)) else (none))) else (none))) else (none)) else (none)) else (some x5)
def virgationref03_Term.f : Nat → List (S87) → List (S84) → Int → Int → List (S28) → Option (ByteArray)
  | 0, _, _, _, _, _ => none
  | k + 1, l0_0, l0_1, a1_0, a1_1, l1_2 => if a1_0 = 0 then ((virgationref03_Number.f k a1_1).bind fun t310 => (if 1 + t310.size ≤ 9223372036854775807 then (virgationref03_Term.j0 k ((⟨#[36]⟩ : ByteArray) ++ t310) l0_0 l0_1 a1_0 a1_1 l1_2) else (none))) else (if a1_0 = 1 then (if 0 ≤ a1_1 then (if a1_1 < (l0_1.length : Int) then (virgationref03_Term.j0 k ((rd_T84 l0_1 a1_1).f0) l0_0 l0_1 a1_0 a1_1 l1_2) else (none)) else (none)) else (if 0 ≤ a1_1 then (if a1_1 < (l0_0.length : Int) then (if 1 + ((rd_T87 l0_0 a1_1).f0).size ≤ 9223372036854775807 then (virgationref03_Term.j0 k ((⟨#[35]⟩ : ByteArray) ++ ((rd_T87 l0_0 a1_1).f0)) l0_0 l0_1 a1_0 a1_1 l1_2) else (none)) else (none)) else (none)))
end
set_option maxHeartbeats 8000000 in
set_option maxRecDepth 100000 in
theorem virgationref03_Term.calls (k : Nat) : ∀ (A0_0 : Option Addr) (c0_0 : Nat) (l0_0 : List (S87)) (A0_1 : Option Addr) (c0_1 : Nat) (l0_1 : List (S84)) (a1_0 : Int) (a1_1 : Int) (A1_2 : Option Addr) (c1_2 : Nat) (l1_2 : List (S28)) (r : ByteArray) (w : World) (hr0_0 : Kd.C k87 w A0_0 l0_0.length l0_0) (hc0_0 : l0_0.length ≤ c0_0) (hr0_1 : Kd.C k84 w A0_1 l0_1.length l0_1) (hc0_1 : l0_1.length ≤ c0_1) (hr1_2 : Kd.C k28 w A1_2 l1_2.length l1_2) (hc1_2 : l1_2.length ≤ c1_2) (h : virgationref03_Term.f k l0_0 l0_1 a1_0 a1_1 l1_2 = some r),
    Calls Try.prog 36 #[.agg #[.slice A0_0 l0_0.length c0_0, .slice A0_1 l0_1.length c0_1], .agg #[.int .i64 a1_0, .int .i64 a1_1, .slice A1_2 l1_2.length c1_2]] w fun e w' => e = .returned (.string r) ∧ Below w.heap.size w w' := by
  induction k using Nat.strongRecOn with
  | _ k ih =>
  intro A0_0 c0_0 l0_0 A0_1 c0_1 l0_1 a1_0 a1_1 A1_2 c1_2 l1_2 r w hr0_0 hc0_0 hr0_1 hc0_1 hr1_2 hc1_2 h
  cases k with
  | zero => exact absurd h (by simp [virgationref03_Term.f])
  | succ k =>
  simp only [virgationref03_Term.f] at h
  have hu25 := Try.underlying25
  have hu28 := Try.underlying28
  have HR0_0 := Az.mk hr0_0
  have HC0_0 := Az.mk hc0_0
  clear hr0_0 hc0_0
  have HR0_1 := Az.mk hr0_1
  have HC0_1 := Az.mk hc0_1
  clear hr0_1 hc0_1
  have HR1_2 := Az.mk hr1_2
  have HC1_2 := Az.mk hc1_2
  clear hr1_2 hc1_2
  have HB := Az.mk (Below.refl w.heap.size w)
  have H : (if a1_0 = 0 then ((virgationref03_Number.f k a1_1).bind fun t310 => (if 1 + t310.size ≤ 9223372036854775807 then (virgationref03_Term.j0 k ((⟨#[36]⟩ : ByteArray) ++ t310) l0_0 l0_1 a1_0 a1_1 l1_2) else (none))) else (if a1_0 = 1 then (if 0 ≤ a1_1 then (if a1_1 < (l0_1.length : Int) then (virgationref03_Term.j0 k ((rd_T84 l0_1 a1_1).f0) l0_0 l0_1 a1_0 a1_1 l1_2) else (none)) else (none)) else (if 0 ≤ a1_1 then (if a1_1 < (l0_0.length : Int) then (if 1 + ((rd_T87 l0_0 a1_1).f0).size ≤ 9223372036854775807 then (virgationref03_Term.j0 k ((⟨#[35]⟩ : ByteArray) ++ ((rd_T87 l0_0 a1_1).f0)) l0_0 l0_1 a1_0 a1_1 l1_2) else (none)) else (none)) else (none)))) = some r := h
  clear h
  have HC3 := Az.mk H
  clear H
  go_enter Try.func36, Try.ntmps36
  go_upto_block 0 with (first | ((with_reducible refine gate_dst (N := 2) rfl ?_); refine box_event ?hg (N := 2) ?hd (cs := #[.slice A0_0 l0_0.length c0_0, .slice A0_1 l0_1.length c0_1]) (t := 25) ?hr ?_; (case hd => rfl); (case hg => rfl); (case hr => first | (go_simp; done) | (go_simp; rfl)); intro gb308 hg w4 hbox hb; have n0_ := Az.mk (bst (by repeat (first | (with_reducible first | exact HB.out | apply bal | apply pwN | apply bd1) | exact HB.out)) hb); have n1_ := Az.mk (hbox); have n2_ := Az.mk ((by rw [hg]; exact (below_size (by repeat (first | (with_reducible first | exact HB.out | apply bal | apply pwN | apply bd1) | exact HB.out))) : w.heap.size ≤ gb308)); have n3_ := Az.mk ((by rw [hg]; exact (below_size (by repeat (first | (with_reducible first | exact HB.out | apply bal | apply pwN | apply bd1) | exact HB.out))) : w.heap.size ≤ gb308)); clear HB; have HB := n0_; have BK308 := n1_; have GW308 := n2_; have GE308 := n3_; clear n0_ n1_ n2_ n3_; clear hb hbox hg) | ((with_reducible refine gate_dst (N := 3) rfl ?_); refine box_event ?hg (N := 3) ?hd (cs := #[.int .i64 a1_0, .int .i64 a1_1, .slice A1_2 l1_2.length c1_2]) (t := 28) ?hr ?_; (case hd => rfl); (case hg => rfl); (case hr => first | (go_simp; done) | (go_simp; rfl)); intro gb309 hg w5 hbox hb; have n0_ := Az.mk (bkB (g := gb308) (o := .cells #[.slice A0_0 l0_0.length c0_0, .slice A0_1 l0_1.length c0_1] 25 (0, 0)) (by (with_reducible repeat (first | refine bdN ?_ _ | refine blk_drew ?_ | refine bkA ?_ _)); exact BK308.out) hb); have n1_ := Az.mk (bst (by repeat (first | (with_reducible first | exact HB.out | apply bal | apply pwN | apply bd1 | refine bset ?_ GE308.out) | exact HB.out)) hb); have n2_ := Az.mk (hbox); have n3_ := Az.mk ((by rw [hg]; exact (below_size (by repeat (first | (with_reducible first | exact HB.out | apply bal | apply pwN | apply bd1 | refine bset ?_ GE308.out) | exact HB.out))) : w.heap.size ≤ gb309)); have n4_ := Az.mk ((by rw [hg]; exact (below_size (by repeat (first | (with_reducible first | exact HB.out | apply bal | apply pwN | apply bd1 | refine bset ?_ GE308.out) | exact HB.out))) : w.heap.size ≤ gb309)); have n5_ := Az.mk ((by rw [hg]; exact Nat.ne_of_lt (blk_lt (g := gb308) (o := .cells #[.slice A0_0 l0_0.length c0_0, .slice A0_1 l0_1.length c0_1] 25 (0, 0)) (by (with_reducible repeat (first | refine bdN ?_ _ | refine blk_drew ?_ | refine bkA ?_ _)); exact BK308.out)) : gb308 ≠ gb309)); have n6_ := Az.mk ((by rw [hg]; exact Nat.ne_of_gt (blk_lt (g := gb308) (o := .cells #[.slice A0_0 l0_0.length c0_0, .slice A0_1 l0_1.length c0_1] 25 (0, 0)) (by (with_reducible repeat (first | refine bdN ?_ _ | refine blk_drew ?_ | refine bkA ?_ _)); exact BK308.out)) : gb309 ≠ gb308)); clear BK308; clear HB; have BK308 := n0_; have HB := n1_; have BK309 := n2_; have GW309 := n3_; have GE309 := n4_; have NB308_309 := n5_; have NB309_308 := n6_; clear n0_ n1_ n2_ n3_ n4_ n5_ n6_; clear hb hbox hg; have hnb6 := NB309_308.out; have hnc6 := NB308_309.out; have hcz7_0 : w5.cell? ⟨gb309, 0, none⟩ = some (.int .i64 a1_0) := (blk_cell BK309.out 0).trans rfl; have hcz7_1 : w5.cell? ⟨gb309, 1, none⟩ = some (.int .i64 a1_1) := (blk_cell BK309.out 1).trans rfl; have hcz7_2 : w5.cell? ⟨gb309, 2, none⟩ = some (.slice A1_2 l1_2.length c1_2) := (blk_cell BK309.out 2).trans rfl; have hfz7_0 := bkF BK309.out 0; have hfz7_1 := bkF BK309.out 1; have hfz7_2 := bkF BK309.out 2))
  (try simp only [Act.put, List.setIfInBounds_toArray, List.set_cons_zero, List.set_cons_succ])
  go_cut [5] (fun v5 wc => ∃ (kq : Nat) (x5_2 : ByteArray), v5 = .string x5_2 ∧ Az (virgationref03_Term.j0 kq x5_2 l0_0 l0_1 a1_0 a1_1 l1_2 = some r) ∧ Az (kq ≤ k) ∧ Az (wc.heap[gb308]? = some (.cells #[(.slice A0_0 l0_0.length c0_0), (.slice A0_1 l0_1.length c0_1)] 25 (0, 0))) ∧ Az (wc.heap[gb309]? = some (.cells #[.int .i64 a1_0, .int .i64 a1_1, (.slice A1_2 l1_2.length c1_2)] 28 (0, 0))) ∧ Az (Below w.heap.size w wc))
  case first =>
    have H := HC3.out
    clear HC3
    by_cases c8 : a1_0 = 0
    · rw [if_pos c8] at H
      have c8b0 : (a1_0 == 0) = true := beq_iff_eq.mpr c8
      have c8b1 : (a1_0 != 0) = false := bne_eq_false_iff_eq.mpr c8
      clear c8
      (first | rw [c8b0] | (simp only [i64_w, i32_w]; rw [c8b0]) | skip)
      replace H := Option.bind_eq_some_iff.mp H
      obtain ⟨t310, A90, H⟩ := H
      replace H : (if 1 + t310.size ≤ 9223372036854775807 then (virgationref03_Term.j0 k ((⟨#[36]⟩ : ByteArray) ++ t310) l0_0 l0_1 a1_0 a1_1 l1_2) else (none)) = some r := H
      have A9 := Az.mk A90
      clear A90
      by_cases c10 : 1 + t310.size ≤ 9223372036854775807
      · rw [if_pos c10] at H
        have c10b0 := eq_true c10
        have c10b1 : decide (1 + t310.size ≤ 9223372036854775807) = true := decide_eq_true c10
        try have c10b2 : (9223372036854775807 < 1 + t310.size) = False := eq_false (Nat.not_lt.2 c10)
        have H' := Az.mk H
        clear H
        have hnb11 := NB309_308.out
        have hnc11 := NB308_309.out
        have hcz12_0 : w5.cell? ⟨gb309, 0, none⟩ = some (.int .i64 a1_0) := (blk_cell BK309.out 0).trans rfl
        have hcz12_1 : w5.cell? ⟨gb309, 1, none⟩ = some (.int .i64 a1_1) := (blk_cell BK309.out 1).trans rfl
        have hcz12_2 : w5.cell? ⟨gb309, 2, none⟩ = some (.slice A1_2 l1_2.length c1_2) := (blk_cell BK309.out 2).trans rfl
        have hfz12_0 := bkF BK309.out 0
        have hfz12_1 := bkF BK309.out 1
        have hfz12_2 := bkF BK309.out 2
        go_wp2_with (first | ((with_reducible refine gate_callee (f := 64) rfl ?_); refine goesL_ (some 22) rfl rfl Try.func64 (by kernel_rfl) rfl #[.int .i64 a1_1] rfl (by (try simp only [List.map_toArray, List.map_cons, List.map_nil]); first | done | rfl | (simp only [List.length_drop, List.length_take]; rfl)) ?_; (with_reducible refine (virgationref03_Number.calls k a1_1 t310 _ A9.out).mono ?_); rintro e w' ⟨rfl, ⟨nd, rfl⟩⟩; refine ⟨_, rfl, ?_⟩))
        go_meet
        case rel => exact ⟨_, ((⟨#[36]⟩ : ByteArray) ++ t310), (by first | rfl | (simp; done) | (simp [*]; done)), H', ⟨by first | omega | exact Nat.le_refl _⟩, ⟨by (with_reducible repeat (first | refine bdN ?_ _ | refine blk_drew ?_ | refine bkA ?_ _)); exact BK308.out⟩, ⟨by (with_reducible repeat (first | refine bdN ?_ _ | refine blk_drew ?_ | refine bkA ?_ _)); exact BK309.out⟩, ⟨by repeat (first | (with_reducible first | exact HB.out | apply bal | apply pwN | apply bd1 | refine bset ?_ GE308.out | refine bset ?_ GE309.out) | exact HB.out)⟩⟩
      · rw [if_neg c10] at H
        exact absurd H (by simp)
    · rw [if_neg c8] at H
      have c8b0 : (a1_0 == 0) = false := beq_eq_false_iff_ne.mpr c8
      have c8b1 : (a1_0 != 0) = true := bne_iff_ne.mpr c8
      (first | rw [c8b0] | (simp only [i64_w, i32_w]; rw [c8b0]) | skip)
      by_cases c13 : a1_0 = 1
      · rw [if_pos c13] at H
        have c13b0 : (a1_0 == 1) = true := beq_iff_eq.mpr c13
        have c13b1 : (a1_0 != 1) = false := bne_eq_false_iff_eq.mpr c13
        clear c13
        by_cases c14 : 0 ≤ a1_1
        · rw [if_pos c14] at H
          have c14b0 : decide (0 ≤ a1_1) = true := decide_eq_true c14
          clear c14
          by_cases c15 : a1_1 < (l0_1.length : Int)
          · rw [if_pos c15] at H
            have c15b0 : decide (a1_1 < (l0_1.length : Int)) = true := decide_eq_true c15
            clear c15
            have H' := Az.mk H
            clear H
            have hnb16 := NB308_309.out
            have hnc16 := NB309_308.out
            have hcz17_0 : w5.cell? ⟨gb308, 0, none⟩ = some (.slice A0_0 l0_0.length c0_0) := (blk_cell BK308.out 0).trans rfl
            have hcz17_1 : w5.cell? ⟨gb308, 1, none⟩ = some (.slice A0_1 l0_1.length c0_1) := (blk_cell BK308.out 1).trans rfl
            have hfz17_0 := bkF BK308.out 0
            have hfz17_1 := bkF BK308.out 1
            have hcz18_0 : w5.cell? ⟨gb309, 0, none⟩ = some (.int .i64 a1_0) := (blk_cell BK309.out 0).trans rfl
            have hcz18_1 : w5.cell? ⟨gb309, 1, none⟩ = some (.int .i64 a1_1) := (blk_cell BK309.out 1).trans rfl
            have hcz18_2 : w5.cell? ⟨gb309, 2, none⟩ = some (.slice A1_2 l1_2.length c1_2) := (blk_cell BK309.out 2).trans rfl
            have hfz18_0 := bkF BK309.out 0
            have hfz18_1 := bkF BK309.out 1
            have hfz18_2 := bkF BK309.out 2
            have p311 : 0 ≤ (a1_1 : Int) := of_decide_eq_true (by first | (with_reducible assumption) | assumption)
            have q311 : a1_1 < (l0_1.length : Int) := of_decide_eq_true (by first | (with_reducible assumption) | assumption)
            obtain ⟨ad311, A311_1, c311_1, A311_4, c311_4, e311, hx311_0, hx311_1, hx311_2, hx311_3, hx311_4, hl311_1, hi311_1, hl311_4, hi311_4⟩ := at_T84 HR0_1.out a1_1 p311 q311
            cases e311
            replace hx311_0 := (HB.out.cell (World.block_lt_of_cell? w _ hx311_0)).trans hx311_0
            replace hx311_1 := (HB.out.cell (World.block_lt_of_cell? w _ hx311_1)).trans hx311_1
            replace hx311_2 := (HB.out.cell (World.block_lt_of_cell? w _ hx311_2)).trans hx311_2
            replace hx311_3 := (HB.out.cell (World.block_lt_of_cell? w _ hx311_3)).trans hx311_3
            replace hx311_4 := (HB.out.cell (World.block_lt_of_cell? w _ hx311_4)).trans hx311_4
            have HR311_1 := Az.mk hi311_1
            have HC311_1 := Az.mk hl311_1
            clear hi311_1 hl311_1
            have HR311_4 := Az.mk hi311_4
            have HC311_4 := Az.mk hl311_4
            clear hi311_4 hl311_4
            replace p311 := eq_true p311
            replace q311 := eq_true q311
            go_wp2
            go_meet
            case rel => exact ⟨_, ((rd_T84 l0_1 a1_1).f0), (by first | rfl | (simp; done) | (simp [*]; done)), H', ⟨by first | omega | exact Nat.le_refl _⟩, ⟨by (with_reducible repeat (first | refine bdN ?_ _ | refine blk_drew ?_ | refine bkA ?_ _)); exact BK308.out⟩, ⟨by (with_reducible repeat (first | refine bdN ?_ _ | refine blk_drew ?_ | refine bkA ?_ _)); exact BK309.out⟩, ⟨by repeat (first | (with_reducible first | exact HB.out | apply bal | apply pwN | apply bd1 | refine bset ?_ GE308.out | refine bset ?_ GE309.out) | exact HB.out)⟩⟩
          · rw [if_neg c15] at H
            exact absurd H (by simp)
        · rw [if_neg c14] at H
          exact absurd H (by simp)
      · rw [if_neg c13] at H
        have c13b0 : (a1_0 == 1) = false := beq_eq_false_iff_ne.mpr c13
        have c13b1 : (a1_0 != 1) = true := bne_iff_ne.mpr c13
        by_cases c19 : 0 ≤ a1_1
        · rw [if_pos c19] at H
          have c19b0 : decide (0 ≤ a1_1) = true := decide_eq_true c19
          clear c19
          by_cases c20 : a1_1 < (l0_0.length : Int)
          · rw [if_pos c20] at H
            have c20b0 : decide (a1_1 < (l0_0.length : Int)) = true := decide_eq_true c20
            clear c20
            by_cases c21 : 1 + ((rd_T87 l0_0 a1_1).f0).size ≤ 9223372036854775807
            · rw [if_pos c21] at H
              have c21b0 := eq_true c21
              have c21b1 : decide (1 + ((rd_T87 l0_0 a1_1).f0).size ≤ 9223372036854775807) = true := decide_eq_true c21
              try have c21b2 : (9223372036854775807 < 1 + ((rd_T87 l0_0 a1_1).f0).size) = False := eq_false (Nat.not_lt.2 c21)
              have H' := Az.mk H
              clear H
              have hnb22 := NB308_309.out
              have hnc22 := NB309_308.out
              have hcz23_0 : w5.cell? ⟨gb308, 0, none⟩ = some (.slice A0_0 l0_0.length c0_0) := (blk_cell BK308.out 0).trans rfl
              have hcz23_1 : w5.cell? ⟨gb308, 1, none⟩ = some (.slice A0_1 l0_1.length c0_1) := (blk_cell BK308.out 1).trans rfl
              have hfz23_0 := bkF BK308.out 0
              have hfz23_1 := bkF BK308.out 1
              have hcz24_0 : w5.cell? ⟨gb309, 0, none⟩ = some (.int .i64 a1_0) := (blk_cell BK309.out 0).trans rfl
              have hcz24_1 : w5.cell? ⟨gb309, 1, none⟩ = some (.int .i64 a1_1) := (blk_cell BK309.out 1).trans rfl
              have hcz24_2 : w5.cell? ⟨gb309, 2, none⟩ = some (.slice A1_2 l1_2.length c1_2) := (blk_cell BK309.out 2).trans rfl
              have hfz24_0 := bkF BK309.out 0
              have hfz24_1 := bkF BK309.out 1
              have hfz24_2 := bkF BK309.out 2
              have p312 : 0 ≤ (a1_1 : Int) := of_decide_eq_true (by first | (with_reducible assumption) | assumption)
              have q312 : a1_1 < (l0_0.length : Int) := of_decide_eq_true (by first | (with_reducible assumption) | assumption)
              obtain ⟨ad312, e312, hx312_0, hx312_1⟩ := at_T87 HR0_0.out a1_1 p312 q312
              cases e312
              replace hx312_0 := (HB.out.cell (World.block_lt_of_cell? w _ hx312_0)).trans hx312_0
              replace hx312_1 := (HB.out.cell (World.block_lt_of_cell? w _ hx312_1)).trans hx312_1
              replace p312 := eq_true p312
              replace q312 := eq_true q312
              go_wp2
              go_meet
              case rel => exact ⟨_, ((⟨#[35]⟩ : ByteArray) ++ ((rd_T87 l0_0 a1_1).f0)), (by first | rfl | (simp; done) | (simp [*]; done)), H', ⟨by first | omega | exact Nat.le_refl _⟩, ⟨by (with_reducible repeat (first | refine bdN ?_ _ | refine blk_drew ?_ | refine bkA ?_ _)); exact BK308.out⟩, ⟨by (with_reducible repeat (first | refine bdN ?_ _ | refine blk_drew ?_ | refine bkA ?_ _)); exact BK309.out⟩, ⟨by repeat (first | (with_reducible first | exact HB.out | apply bal | apply pwN | apply bd1 | refine bset ?_ GE308.out | refine bset ?_ GE309.out) | exact HB.out)⟩⟩
            · rw [if_neg c21] at H
              exact absurd H (by simp)
          · rw [if_neg c20] at H
            exact absurd H (by simp)
        · rw [if_neg c19] at H
          exact absurd H (by simp)
  case rest =>
    clear HC3
    try clear c1
    try clear c2
    try clear p2
    try clear c3
    try clear p3
    try clear q3
    try clear hx3
    try clear c6
    try clear c8
    try clear c8b0
    try clear c8b1
    try clear c10
    try clear c10b0
    try clear c10b1
    try clear c10b2
    try clear c11
    try clear c13
    try clear c13b0
    try clear c13b1
    try clear c14
    try clear c14b0
    try clear c15
    try clear c15b0
    try clear c16
    try clear c19
    try clear c19b0
    try clear c20
    try clear c20b0
    try clear c21
    try clear c21b0
    try clear c21b1
    try clear c21b2
    try clear c22
    try clear hcz12_0
    try clear hcz12_1
    try clear hcz12_2
    try clear hcz17_0
    try clear hcz17_1
    try clear hcz18_0
    try clear hcz18_1
    try clear hcz18_2
    try clear hcz23_0
    try clear hcz23_1
    try clear hcz24_0
    try clear hcz24_1
    try clear hcz24_2
    try clear hcz7_0
    try clear hcz7_1
    try clear hcz7_2
    try clear hfz12_0
    try clear hfz12_1
    try clear hfz12_2
    try clear hfz17_0
    try clear hfz17_1
    try clear hfz18_0
    try clear hfz18_1
    try clear hfz18_2
    try clear hfz23_0
    try clear hfz23_1
    try clear hfz24_0
    try clear hfz24_1
    try clear hfz24_2
    try clear hfz7_0
    try clear hfz7_1
    try clear hfz7_2
    try clear hx311_0
    try clear hx311_1
    try clear hx311_2
    try clear hx311_3
    try clear hx311_4
    try clear hx312_0
    try clear hx312_1
    try clear p311
    try clear p312
    try clear q311
    try clear q312
    obtain ⟨kq, x5_2, rfl, HA, HJ2, BK308, BK309, HB⟩ := hcut
    cases kq with
    | zero => exact absurd HA.out (by simp [virgationref03_Term.j0])
    | succ kj2 =>
      have H := HA.out
      clear HA
      simp only [virgationref03_Term.j0] at H
      have H' := Az.mk H
      clear H
      have hnb25 := NB309_308.out
      have hnc25 := NB308_309.out
      have hcz26_0 : wc.cell? ⟨gb309, 0, none⟩ = some (.int .i64 a1_0) := (blk_cell BK309.out 0).trans rfl
      have hcz26_1 : wc.cell? ⟨gb309, 1, none⟩ = some (.int .i64 a1_1) := (blk_cell BK309.out 1).trans rfl
      have hcz26_2 : wc.cell? ⟨gb309, 2, none⟩ = some (.slice A1_2 l1_2.length c1_2) := (blk_cell BK309.out 2).trans rfl
      have hfz26_0 := bkF BK309.out 0
      have hfz26_1 := bkF BK309.out 1
      have hfz26_2 := bkF BK309.out 2
      go_wp2
      go_loopg [5, 36] kj2 (fun kq v5 v36 w' => ∃ (x5_2 : ByteArray) (x36_2 : Int), v5 = .string x5_2 ∧ v36 = .int .i64 x36_2 ∧ Az (virgationref03_Term.l0 kq x5_2 l1_2 (l1_2.length : Int) x36_2 l0_0 l0_1 = some r) ∧ Az (kq ≤ kj2) ∧ Az (w'.heap[gb308]? = some (.cells #[(.slice A0_0 l0_0.length c0_0), (.slice A0_1 l0_1.length c0_1)] 25 (0, 0))) ∧ Az (w'.heap[gb309]? = some (.cells #[.int .i64 a1_0, .int .i64 a1_1, (.slice A1_2 l1_2.length c1_2)] 28 (0, 0))) ∧ Az (Below w.heap.size w w'))
      case atStart => exact ⟨(x5_2), (0), (by first | rfl | (simp; done) | (simp [*]; done)), (by first | rfl | (simp; done) | (simp [*]; done)), H', ⟨Nat.le_refl _⟩, ⟨by (with_reducible repeat (first | refine bdN ?_ _ | refine blk_drew ?_ | refine bkA ?_ _)); exact BK308.out⟩, ⟨by (with_reducible repeat (first | refine bdN ?_ _ | refine blk_drew ?_ | refine bkA ?_ _)); exact BK309.out⟩, ⟨by repeat (first | (with_reducible first | exact HB.out | apply bal | apply pwN | apply bd1 | refine bset ?_ GE308.out | refine bset ?_ GE309.out) | exact HB.out)⟩⟩
      case round =>
        clear H'
        try clear c1
        try clear c2
        try clear p2
        try clear c3
        try clear p3
        try clear q3
        try clear hx3
        try clear c6
        try clear c8
        try clear c8b0
        try clear c8b1
        try clear c10
        try clear c10b0
        try clear c10b1
        try clear c10b2
        try clear c11
        try clear c13
        try clear c13b0
        try clear c13b1
        try clear c14
        try clear c14b0
        try clear c15
        try clear c15b0
        try clear c16
        try clear c19
        try clear c19b0
        try clear c20
        try clear c20b0
        try clear c21
        try clear c21b0
        try clear c21b1
        try clear c21b2
        try clear c22
        try clear c25
        try clear hcz12_0
        try clear hcz12_1
        try clear hcz12_2
        try clear hcz17_0
        try clear hcz17_1
        try clear hcz18_0
        try clear hcz18_1
        try clear hcz18_2
        try clear hcz23_0
        try clear hcz23_1
        try clear hcz24_0
        try clear hcz24_1
        try clear hcz24_2
        try clear hcz26_0
        try clear hcz26_1
        try clear hcz26_2
        try clear hcz7_0
        try clear hcz7_1
        try clear hcz7_2
        try clear hfz12_0
        try clear hfz12_1
        try clear hfz12_2
        try clear hfz17_0
        try clear hfz17_1
        try clear hfz18_0
        try clear hfz18_1
        try clear hfz18_2
        try clear hfz23_0
        try clear hfz23_1
        try clear hfz24_0
        try clear hfz24_1
        try clear hfz24_2
        try clear hfz26_0
        try clear hfz26_1
        try clear hfz26_2
        try clear hfz7_0
        try clear hfz7_1
        try clear hfz7_2
        try clear hx311_0
        try clear hx311_1
        try clear hx311_2
        try clear hx311_3
        try clear hx311_4
        try clear hx312_0
        try clear hx312_1
        try clear p2
        try clear p3
        try clear p311
        try clear p312
        try clear q3
        try clear q311
        try clear q312
        obtain ⟨x5_2, x36_2, rfl, rfl, HA, HK2, BK308, BK309, HB⟩ := hrel
        cases gk with
        | zero => exact absurd HA.out (by simp [virgationref03_Term.l0])
        | succ k2 =>
          have H := HA.out
          clear HA
          simp only [virgationref03_Term.l0] at H
          by_cases c27 : x36_2 < (l1_2.length : Int)
          · rw [if_pos c27] at H
            have c27b0 : decide (x36_2 < (l1_2.length : Int)) = true := decide_eq_true c27
            clear c27
            by_cases c28 : 0 ≤ x36_2
            · rw [if_pos c28] at H
              have c28b0 : decide (0 ≤ x36_2) = true := decide_eq_true c28
              clear c28
              by_cases c29 : x36_2 < (l1_2.length : Int)
              · rw [if_pos c29] at H
                have c29b0 : decide (x36_2 < (l1_2.length : Int)) = true := decide_eq_true c29
                clear c29
                by_cases c30 : (((rd_T28 l1_2 x36_2).f2).length : Int) = 0
                · rw [if_pos c30] at H
                  have c30b0 : ((((rd_T28 l1_2 x36_2).f2).length : Int) == 0) = true := beq_iff_eq.mpr c30
                  have c30b1 : ((((rd_T28 l1_2 x36_2).f2).length : Int) != 0) = false := bne_eq_false_iff_eq.mpr c30
                  clear c30
                  by_cases c31 : x5_2.size + 1 ≤ 9223372036854775807
                  · rw [if_pos c31] at H
                    have c31b0 := eq_true c31
                    have c31b1 : decide (x5_2.size + 1 ≤ 9223372036854775807) = true := decide_eq_true c31
                    try have c31b2 : (9223372036854775807 < x5_2.size + 1) = False := eq_false (Nat.not_lt.2 c31)
                    replace H := Option.bind_eq_some_iff.mp H
                    obtain ⟨t315, A320, H⟩ := H
                    replace H : (if (x5_2 ++ (⟨#[32]⟩ : ByteArray)).size + t315.size ≤ 9223372036854775807 then (virgationref03_Term.l0 k2 ((x5_2 ++ (⟨#[32]⟩ : ByteArray)) ++ t315) l1_2 (l1_2.length : Int) (wrap64 (x36_2 + 1)) l0_0 l0_1) else (none)) = some r := H
                    have A32 := Az.mk A320
                    clear A320
                    by_cases c33 : (x5_2 ++ (⟨#[32]⟩ : ByteArray)).size + t315.size ≤ 9223372036854775807
                    · rw [if_pos c33] at H
                      have c33b0 := eq_true c33
                      have c33b1 : decide ((x5_2 ++ (⟨#[32]⟩ : ByteArray)).size + t315.size ≤ 9223372036854775807) = true := decide_eq_true c33
                      try have c33b2 : (9223372036854775807 < (x5_2 ++ (⟨#[32]⟩ : ByteArray)).size + t315.size) = False := eq_false (Nat.not_lt.2 c33)
                      have c33n : x5_2.size + 1 + t315.size ≤ 9223372036854775807 := by have h_ := c33; simp only [ByteArray.size_append] at h_; exact h_
                      have c33n0 := eq_true c33n
                      have c33n1 : (9223372036854775807 < x5_2.size + 1 + t315.size) = False := eq_false (Nat.not_lt.2 c33n)
                      have H' := Az.mk H
                      clear H
                      have p313 : 0 ≤ (x36_2 : Int) := of_decide_eq_true (by first | (with_reducible assumption) | assumption)
                      have q313 : x36_2 < (l1_2.length : Int) := of_decide_eq_true (by first | (with_reducible assumption) | assumption)
                      obtain ⟨ad313, A313_2, c313_2, e313, hx313_0, hx313_1, hx313_2, hl313_2, hi313_2⟩ := at_T28 HR1_2.out x36_2 p313 q313
                      cases e313
                      replace hx313_0 := (HB.out.cell (World.block_lt_of_cell? w _ hx313_0)).trans hx313_0
                      replace hx313_1 := (HB.out.cell (World.block_lt_of_cell? w _ hx313_1)).trans hx313_1
                      replace hx313_2 := (HB.out.cell (World.block_lt_of_cell? w _ hx313_2)).trans hx313_2
                      have HR313_2 := Az.mk hi313_2
                      have HC313_2 := Az.mk hl313_2
                      clear hi313_2 hl313_2
                      replace p313 := eq_true p313
                      replace q313 := eq_true q313
                      go_wp2_with (first | ((with_reducible refine gate_dst (N := 7) rfl ?_); refine box_event ?hg (N := 7) ?hd (cs := #[.int .i64 0, .int .i64 0, .slice none 0 0]) (t := 28) ?hr ?_; (case hd => rfl); (case hg => rfl); (case hr => first | (go_simp; done) | (go_simp; rfl)); intro gb314 hg w34 hbox hb; have n0_ := Az.mk (bkB (g := gb308) (o := .cells #[.slice A0_0 l0_0.length c0_0, .slice A0_1 l0_1.length c0_1] 25 (0, 0)) (by (with_reducible repeat (first | refine bdN ?_ _ | refine blk_drew ?_ | refine bkA ?_ _)); exact BK308.out) hb); have n1_ := Az.mk (bkB (g := gb309) (o := .cells #[.int .i64 a1_0, .int .i64 a1_1, .slice (some ad313) l1_2.length c1_2] 28 (0, 0)) (by (with_reducible repeat (first | refine bdN ?_ _ | refine blk_drew ?_ | refine bkA ?_ _)); exact BK309.out) hb); have n2_ := Az.mk (bst (by repeat (first | (with_reducible first | exact HB.out | apply bal | apply pwN | apply bd1 | refine bset ?_ GE308.out | refine bset ?_ GE309.out) | exact HB.out)) hb); have n3_ := Az.mk (hbox); have n4_ := Az.mk ((by rw [hg]; exact (below_size (by repeat (first | (with_reducible first | exact HB.out | apply bal | apply pwN | apply bd1 | refine bset ?_ GE308.out | refine bset ?_ GE309.out) | exact HB.out))) : w.heap.size ≤ gb314)); have n5_ := Az.mk ((by rw [hg]; exact (below_size (by repeat (first | (with_reducible first | exact HB.out | apply bal | apply pwN | apply bd1 | refine bset ?_ GE308.out | refine bset ?_ GE309.out) | exact HB.out))) : w.heap.size ≤ gb314)); have n6_ := Az.mk ((by rw [hg]; exact Nat.ne_of_lt (blk_lt (g := gb308) (o := .cells #[.slice A0_0 l0_0.length c0_0, .slice A0_1 l0_1.length c0_1] 25 (0, 0)) (by (with_reducible repeat (first | refine bdN ?_ _ | refine blk_drew ?_ | refine bkA ?_ _)); exact BK308.out)) : gb308 ≠ gb314)); have n7_ := Az.mk ((by rw [hg]; exact Nat.ne_of_gt (blk_lt (g := gb308) (o := .cells #[.slice A0_0 l0_0.length c0_0, .slice A0_1 l0_1.length c0_1] 25 (0, 0)) (by (with_reducible repeat (first | refine bdN ?_ _ | refine blk_drew ?_ | refine bkA ?_ _)); exact BK308.out)) : gb314 ≠ gb308)); have n8_ := Az.mk ((by rw [hg]; exact Nat.ne_of_lt (blk_lt (g := gb309) (o := .cells #[.int .i64 a1_0, .int .i64 a1_1, .slice (some ad313) l1_2.length c1_2] 28 (0, 0)) (by (with_reducible repeat (first | refine bdN ?_ _ | refine blk_drew ?_ | refine bkA ?_ _)); exact BK309.out)) : gb309 ≠ gb314)); have n9_ := Az.mk ((by rw [hg]; exact Nat.ne_of_gt (blk_lt (g := gb309) (o := .cells #[.int .i64 a1_0, .int .i64 a1_1, .slice (some ad313) l1_2.length c1_2] 28 (0, 0)) (by (with_reducible repeat (first | refine bdN ?_ _ | refine blk_drew ?_ | refine bkA ?_ _)); exact BK309.out)) : gb314 ≠ gb309)); clear BK308; clear BK309; clear HB; have BK308 := n0_; have BK309 := n1_; have HB := n2_; have BK314 := n3_; have GW314 := n4_; have GE314 := n5_; have NB308_314 := n6_; have NB314_308 := n7_; have NB309_314 := n8_; have NB314_309 := n9_; clear n0_ n1_ n2_ n3_ n4_ n5_ n6_ n7_ n8_ n9_; clear hb hbox hg; have hnb35 := NB314_308.out; have hnc35 := NB308_314.out; have hnb36 := NB314_309.out; have hnc36 := NB309_314.out; have hcz37_0 : w34.cell? ⟨gb314, 0, none⟩ = some (.int .i64 0) := (blk_cell BK314.out 0).trans rfl; have hcz37_1 : w34.cell? ⟨gb314, 1, none⟩ = some (.int .i64 0) := (blk_cell BK314.out 1).trans rfl; have hcz37_2 : w34.cell? ⟨gb314, 2, none⟩ = some (.slice none 0 0) := (blk_cell BK314.out 2).trans rfl; have hfz37_0 := bkF BK314.out 0; have hfz37_1 := bkF BK314.out 1; have hfz37_2 := bkF BK314.out 2; have hnb38 := NB308_309.out; have hnc38 := NB309_308.out; have hcz39_0 : w34.cell? ⟨gb308, 0, none⟩ = some (.slice A0_0 l0_0.length c0_0) := (blk_cell BK308.out 0).trans rfl; have hcz39_1 : w34.cell? ⟨gb308, 1, none⟩ = some (.slice A0_1 l0_1.length c0_1) := (blk_cell BK308.out 1).trans rfl; have hfz39_0 := bkF BK308.out 0; have hfz39_1 := bkF BK308.out 1) | ((with_reducible refine gate_callee (f := 36) rfl ?_); refine goesL_ (some 48) rfl rfl Try.func36 (by kernel_rfl) rfl #[.agg #[.slice A0_0 l0_0.length c0_0, .slice A0_1 l0_1.length c0_1], .agg #[.int .i64 ((rd_T28 l1_2 x36_2).f0), .int .i64 ((rd_T28 l1_2 x36_2).f1), .slice A313_2 ((rd_T28 l1_2 x36_2).f2).length c313_2]] rfl (by (try simp only [List.map_toArray, List.map_cons, List.map_nil]); first | done | rfl | (simp only [List.length_drop, List.length_take]; rfl)) ?_; (with_reducible refine (ih k2 (by have := HJ2.out; have := HK2.out; omega) _ _ l0_0 _ _ l0_1 ((rd_T28 l1_2 x36_2).f0) ((rd_T28 l1_2 x36_2).f1) _ _ ((rd_T28 l1_2 x36_2).f2) t315 _ ?side1 ?side2 ?side3 ?side4 ?side5 ?side6 A32.out).mono ?_); (case side1 => exact Kd.C_below HR0_0.out (by repeat (first | (with_reducible first | exact HB.out | apply bal | apply pwN | apply bd1 | refine bset ?_ GE308.out | refine bset ?_ GE309.out | refine bset ?_ GE314.out) | exact HB.out))); (case side2 => exact HC0_0.out); (case side3 => exact Kd.C_below HR0_1.out (by repeat (first | (with_reducible first | exact HB.out | apply bal | apply pwN | apply bd1 | refine bset ?_ GE308.out | refine bset ?_ GE309.out | refine bset ?_ GE314.out) | exact HB.out))); (case side4 => exact HC0_1.out); (case side5 => exact Kd.C_below HR313_2.out (by repeat (first | (with_reducible first | exact HB.out | apply bal | apply pwN | apply bd1 | refine bset ?_ GE308.out | refine bset ?_ GE309.out | refine bset ?_ GE314.out) | exact HB.out))); (case side6 => exact HC313_2.out); rintro e w40 ⟨rfl, hb⟩; refine ⟨_, rfl, ?_⟩; have n0_ := Az.mk (bkB (g := gb308) (o := .cells #[.slice A0_0 l0_0.length c0_0, .slice A0_1 l0_1.length c0_1] 25 (0, 0)) (by (with_reducible repeat (first | refine bdN ?_ _ | refine blk_drew ?_ | refine bkA ?_ _)); refine blk_far ?_ NB308_314.out _; (with_reducible repeat (first | refine bdN ?_ _ | refine blk_drew ?_ | refine bkA ?_ _)); refine blk_far ?_ NB308_314.out _; (with_reducible repeat (first | refine bdN ?_ _ | refine blk_drew ?_ | refine bkA ?_ _)); refine blk_far ?_ NB308_314.out _; (with_reducible repeat (first | refine bdN ?_ _ | refine blk_drew ?_ | refine bkA ?_ _)); exact BK308.out) hb); have n1_ := Az.mk (bkB (g := gb309) (o := .cells #[.int .i64 a1_0, .int .i64 a1_1, .slice (some ad313) l1_2.length c1_2] 28 (0, 0)) (by (with_reducible repeat (first | refine bdN ?_ _ | refine blk_drew ?_ | refine bkA ?_ _)); refine blk_far ?_ NB309_314.out _; (with_reducible repeat (first | refine bdN ?_ _ | refine blk_drew ?_ | refine bkA ?_ _)); refine blk_far ?_ NB309_314.out _; (with_reducible repeat (first | refine bdN ?_ _ | refine blk_drew ?_ | refine bkA ?_ _)); refine blk_far ?_ NB309_314.out _; (with_reducible repeat (first | refine bdN ?_ _ | refine blk_drew ?_ | refine bkA ?_ _)); exact BK309.out) hb); have n2_ := Az.mk (bkB (g := gb314) (o := .cells #[.int .i64 ((rd_T28 l1_2 x36_2).f0), .int .i64 ((rd_T28 l1_2 x36_2).f1), .slice A313_2 ((rd_T28 l1_2 x36_2).f2).length c313_2] 28 (0, 0)) (by (with_reducible repeat (first | refine bdN ?_ _ | refine blk_drew ?_ | refine bkA ?_ _)); refine blk_put (cs := #[.int .i64 ((rd_T28 l1_2 x36_2).f0), .int .i64 ((rd_T28 l1_2 x36_2).f1), .slice none 0 0]) ?_ 2 _ rfl; (with_reducible repeat (first | refine bdN ?_ _ | refine blk_drew ?_ | refine bkA ?_ _)); refine blk_put (cs := #[.int .i64 ((rd_T28 l1_2 x36_2).f0), .int .i64 0, .slice none 0 0]) ?_ 1 _ rfl; (with_reducible repeat (first | refine bdN ?_ _ | refine blk_drew ?_ | refine bkA ?_ _)); refine blk_put (cs := #[.int .i64 0, .int .i64 0, .slice none 0 0]) ?_ 0 _ rfl; (with_reducible repeat (first | refine bdN ?_ _ | refine blk_drew ?_ | refine bkA ?_ _)); exact BK314.out) hb); have n3_ := Az.mk (bst (by repeat (first | (with_reducible first | exact HB.out | apply bal | apply pwN | apply bd1 | refine bset ?_ GE308.out | refine bset ?_ GE309.out | refine bset ?_ GE314.out) | exact HB.out)) hb); clear BK308; clear BK309; clear BK314; clear HB; have BK308 := n0_; have BK309 := n1_; have BK314 := n2_; have HB := n3_; clear n0_ n1_ n2_ n3_; (try clear hb); (try clear hb2); (try clear hk); (try clear hi)))
                      go_roundg k2
                      case measure => have := HJ2.out; have := HK2.out; omega
                      case rel => exact ⟨((x5_2 ++ (⟨#[32]⟩ : ByteArray)) ++ t315), (wrap64 (x36_2 + 1)), (by first | rfl | (simp; done) | (simp [*]; done)), (by first | rfl | (simp; done) | (simp [*]; done)), H', ⟨by have := HJ2.out; have := HK2.out; omega⟩, ⟨by (with_reducible repeat (first | refine bdN ?_ _ | refine blk_drew ?_ | refine bkA ?_ _)); exact BK308.out⟩, ⟨by (with_reducible repeat (first | refine bdN ?_ _ | refine blk_drew ?_ | refine bkA ?_ _)); exact BK309.out⟩, ⟨by repeat (first | (with_reducible first | exact HB.out | apply bal | apply pwN | apply bd1 | refine bset ?_ GE308.out | refine bset ?_ GE309.out | refine bset ?_ GE314.out) | exact HB.out)⟩⟩
                    · rw [if_neg c33] at H
                      exact absurd H (by simp)
                  · rw [if_neg c31] at H
                    exact absurd H (by simp)
                · rw [if_neg c30] at H
                  have c30b0 : ((((rd_T28 l1_2 x36_2).f2).length : Int) == 0) = false := beq_eq_false_iff_ne.mpr c30
                  have c30b1 : ((((rd_T28 l1_2 x36_2).f2).length : Int) != 0) = true := bne_iff_ne.mpr c30
                  have c30b2 : ¬ (((rd_T28 l1_2 x36_2).f2) = []) := fun h_ => c30 (by rw [h_]; rfl)
                  by_cases c41 : x5_2.size + 2 ≤ 9223372036854775807
                  · rw [if_pos c41] at H
                    have c41b0 := eq_true c41
                    have c41b1 : decide (x5_2.size + 2 ≤ 9223372036854775807) = true := decide_eq_true c41
                    try have c41b2 : (9223372036854775807 < x5_2.size + 2) = False := eq_false (Nat.not_lt.2 c41)
                    replace H := Option.bind_eq_some_iff.mp H
                    obtain ⟨t316, A420, H⟩ := H
                    replace H : (if (x5_2 ++ (⟨#[32, 40]⟩ : ByteArray)).size + t316.size ≤ 9223372036854775807 then (if ((x5_2 ++ (⟨#[32, 40]⟩ : ByteArray)) ++ t316).size + 1 ≤ 9223372036854775807 then (virgationref03_Term.l0 k2 (((x5_2 ++ (⟨#[32, 40]⟩ : ByteArray)) ++ t316) ++ (⟨#[41]⟩ : ByteArray)) l1_2 (l1_2.length : Int) (wrap64 (x36_2 + 1)) l0_0 l0_1) else (none)) else (none)) = some r := H
                    have A42 := Az.mk A420
                    clear A420
                    by_cases c43 : (x5_2 ++ (⟨#[32, 40]⟩ : ByteArray)).size + t316.size ≤ 9223372036854775807
                    · rw [if_pos c43] at H
                      have c43b0 := eq_true c43
                      have c43b1 : decide ((x5_2 ++ (⟨#[32, 40]⟩ : ByteArray)).size + t316.size ≤ 9223372036854775807) = true := decide_eq_true c43
                      try have c43b2 : (9223372036854775807 < (x5_2 ++ (⟨#[32, 40]⟩ : ByteArray)).size + t316.size) = False := eq_false (Nat.not_lt.2 c43)
                      have c43n : x5_2.size + 2 + t316.size ≤ 9223372036854775807 := by have h_ := c43; simp only [ByteArray.size_append] at h_; exact h_
                      have c43n0 := eq_true c43n
                      have c43n1 : (9223372036854775807 < x5_2.size + 2 + t316.size) = False := eq_false (Nat.not_lt.2 c43n)
                      by_cases c44 : ((x5_2 ++ (⟨#[32, 40]⟩ : ByteArray)) ++ t316).size + 1 ≤ 9223372036854775807
                      · rw [if_pos c44] at H
                        have c44b0 := eq_true c44
                        have c44b1 : decide (((x5_2 ++ (⟨#[32, 40]⟩ : ByteArray)) ++ t316).size + 1 ≤ 9223372036854775807) = true := decide_eq_true c44
                        try have c44b2 : (9223372036854775807 < ((x5_2 ++ (⟨#[32, 40]⟩ : ByteArray)) ++ t316).size + 1) = False := eq_false (Nat.not_lt.2 c44)
                        have c44n : x5_2.size + 2 + t316.size + 1 ≤ 9223372036854775807 := by have h_ := c44; simp only [ByteArray.size_append] at h_; exact h_
                        have c44n0 := eq_true c44n
                        have c44n1 : (9223372036854775807 < x5_2.size + 2 + t316.size + 1) = False := eq_false (Nat.not_lt.2 c44n)
                        have H' := Az.mk H
                        clear H
                        have p313 : 0 ≤ (x36_2 : Int) := of_decide_eq_true (by first | (with_reducible assumption) | assumption)
                        have q313 : x36_2 < (l1_2.length : Int) := of_decide_eq_true (by first | (with_reducible assumption) | assumption)
                        obtain ⟨ad313, A313_2, c313_2, e313, hx313_0, hx313_1, hx313_2, hl313_2, hi313_2⟩ := at_T28 HR1_2.out x36_2 p313 q313
                        cases e313
                        replace hx313_0 := (HB.out.cell (World.block_lt_of_cell? w _ hx313_0)).trans hx313_0
                        replace hx313_1 := (HB.out.cell (World.block_lt_of_cell? w _ hx313_1)).trans hx313_1
                        replace hx313_2 := (HB.out.cell (World.block_lt_of_cell? w _ hx313_2)).trans hx313_2
                        have HR313_2 := Az.mk hi313_2
                        have HC313_2 := Az.mk hl313_2
                        clear hi313_2 hl313_2
                        replace p313 := eq_true p313
                        replace q313 := eq_true q313
                        go_wp2_with (first | ((with_reducible refine gate_dst (N := 7) rfl ?_); refine box_event ?hg (N := 7) ?hd (cs := #[.int .i64 0, .int .i64 0, .slice none 0 0]) (t := 28) ?hr ?_; (case hd => rfl); (case hg => rfl); (case hr => first | (go_simp; done) | (go_simp; rfl)); intro gb314 hg w45 hbox hb; have n0_ := Az.mk (bkB (g := gb308) (o := .cells #[.slice A0_0 l0_0.length c0_0, .slice A0_1 l0_1.length c0_1] 25 (0, 0)) (by (with_reducible repeat (first | refine bdN ?_ _ | refine blk_drew ?_ | refine bkA ?_ _)); exact BK308.out) hb); have n1_ := Az.mk (bkB (g := gb309) (o := .cells #[.int .i64 a1_0, .int .i64 a1_1, .slice (some ad313) l1_2.length c1_2] 28 (0, 0)) (by (with_reducible repeat (first | refine bdN ?_ _ | refine blk_drew ?_ | refine bkA ?_ _)); exact BK309.out) hb); have n2_ := Az.mk (bst (by repeat (first | (with_reducible first | exact HB.out | apply bal | apply pwN | apply bd1 | refine bset ?_ GE308.out | refine bset ?_ GE309.out) | exact HB.out)) hb); have n3_ := Az.mk (hbox); have n4_ := Az.mk ((by rw [hg]; exact (below_size (by repeat (first | (with_reducible first | exact HB.out | apply bal | apply pwN | apply bd1 | refine bset ?_ GE308.out | refine bset ?_ GE309.out) | exact HB.out))) : w.heap.size ≤ gb314)); have n5_ := Az.mk ((by rw [hg]; exact (below_size (by repeat (first | (with_reducible first | exact HB.out | apply bal | apply pwN | apply bd1 | refine bset ?_ GE308.out | refine bset ?_ GE309.out) | exact HB.out))) : w.heap.size ≤ gb314)); have n6_ := Az.mk ((by rw [hg]; exact Nat.ne_of_lt (blk_lt (g := gb308) (o := .cells #[.slice A0_0 l0_0.length c0_0, .slice A0_1 l0_1.length c0_1] 25 (0, 0)) (by (with_reducible repeat (first | refine bdN ?_ _ | refine blk_drew ?_ | refine bkA ?_ _)); exact BK308.out)) : gb308 ≠ gb314)); have n7_ := Az.mk ((by rw [hg]; exact Nat.ne_of_gt (blk_lt (g := gb308) (o := .cells #[.slice A0_0 l0_0.length c0_0, .slice A0_1 l0_1.length c0_1] 25 (0, 0)) (by (with_reducible repeat (first | refine bdN ?_ _ | refine blk_drew ?_ | refine bkA ?_ _)); exact BK308.out)) : gb314 ≠ gb308)); have n8_ := Az.mk ((by rw [hg]; exact Nat.ne_of_lt (blk_lt (g := gb309) (o := .cells #[.int .i64 a1_0, .int .i64 a1_1, .slice (some ad313) l1_2.length c1_2] 28 (0, 0)) (by (with_reducible repeat (first | refine bdN ?_ _ | refine blk_drew ?_ | refine bkA ?_ _)); exact BK309.out)) : gb309 ≠ gb314)); have n9_ := Az.mk ((by rw [hg]; exact Nat.ne_of_gt (blk_lt (g := gb309) (o := .cells #[.int .i64 a1_0, .int .i64 a1_1, .slice (some ad313) l1_2.length c1_2] 28 (0, 0)) (by (with_reducible repeat (first | refine bdN ?_ _ | refine blk_drew ?_ | refine bkA ?_ _)); exact BK309.out)) : gb314 ≠ gb309)); clear BK308; clear BK309; clear HB; have BK308 := n0_; have BK309 := n1_; have HB := n2_; have BK314 := n3_; have GW314 := n4_; have GE314 := n5_; have NB308_314 := n6_; have NB314_308 := n7_; have NB309_314 := n8_; have NB314_309 := n9_; clear n0_ n1_ n2_ n3_ n4_ n5_ n6_ n7_ n8_ n9_; clear hb hbox hg; have hnb46 := NB314_308.out; have hnc46 := NB308_314.out; have hnb47 := NB314_309.out; have hnc47 := NB309_314.out; have hcz48_0 : w45.cell? ⟨gb314, 0, none⟩ = some (.int .i64 0) := (blk_cell BK314.out 0).trans rfl; have hcz48_1 : w45.cell? ⟨gb314, 1, none⟩ = some (.int .i64 0) := (blk_cell BK314.out 1).trans rfl; have hcz48_2 : w45.cell? ⟨gb314, 2, none⟩ = some (.slice none 0 0) := (blk_cell BK314.out 2).trans rfl; have hfz48_0 := bkF BK314.out 0; have hfz48_1 := bkF BK314.out 1; have hfz48_2 := bkF BK314.out 2; have hnb49 := NB308_309.out; have hnc49 := NB309_308.out; have hcz50_0 : w45.cell? ⟨gb308, 0, none⟩ = some (.slice A0_0 l0_0.length c0_0) := (blk_cell BK308.out 0).trans rfl; have hcz50_1 : w45.cell? ⟨gb308, 1, none⟩ = some (.slice A0_1 l0_1.length c0_1) := (blk_cell BK308.out 1).trans rfl; have hfz50_0 := bkF BK308.out 0; have hfz50_1 := bkF BK308.out 1) | ((with_reducible refine gate_callee (f := 36) rfl ?_); refine goesL_ (some 54) rfl rfl Try.func36 (by kernel_rfl) rfl #[.agg #[.slice A0_0 l0_0.length c0_0, .slice A0_1 l0_1.length c0_1], .agg #[.int .i64 ((rd_T28 l1_2 x36_2).f0), .int .i64 ((rd_T28 l1_2 x36_2).f1), .slice A313_2 ((rd_T28 l1_2 x36_2).f2).length c313_2]] rfl (by (try simp only [List.map_toArray, List.map_cons, List.map_nil]); first | done | rfl | (simp only [List.length_drop, List.length_take]; rfl)) ?_; (with_reducible refine (ih k2 (by have := HJ2.out; have := HK2.out; omega) _ _ l0_0 _ _ l0_1 ((rd_T28 l1_2 x36_2).f0) ((rd_T28 l1_2 x36_2).f1) _ _ ((rd_T28 l1_2 x36_2).f2) t316 _ ?side1 ?side2 ?side3 ?side4 ?side5 ?side6 A42.out).mono ?_); (case side1 => exact Kd.C_below HR0_0.out (by repeat (first | (with_reducible first | exact HB.out | apply bal | apply pwN | apply bd1 | refine bset ?_ GE308.out | refine bset ?_ GE309.out | refine bset ?_ GE314.out) | exact HB.out))); (case side2 => exact HC0_0.out); (case side3 => exact Kd.C_below HR0_1.out (by repeat (first | (with_reducible first | exact HB.out | apply bal | apply pwN | apply bd1 | refine bset ?_ GE308.out | refine bset ?_ GE309.out | refine bset ?_ GE314.out) | exact HB.out))); (case side4 => exact HC0_1.out); (case side5 => exact Kd.C_below HR313_2.out (by repeat (first | (with_reducible first | exact HB.out | apply bal | apply pwN | apply bd1 | refine bset ?_ GE308.out | refine bset ?_ GE309.out | refine bset ?_ GE314.out) | exact HB.out))); (case side6 => exact HC313_2.out); rintro e w51 ⟨rfl, hb⟩; refine ⟨_, rfl, ?_⟩; have n0_ := Az.mk (bkB (g := gb308) (o := .cells #[.slice A0_0 l0_0.length c0_0, .slice A0_1 l0_1.length c0_1] 25 (0, 0)) (by (with_reducible repeat (first | refine bdN ?_ _ | refine blk_drew ?_ | refine bkA ?_ _)); refine blk_far ?_ NB308_314.out _; (with_reducible repeat (first | refine bdN ?_ _ | refine blk_drew ?_ | refine bkA ?_ _)); refine blk_far ?_ NB308_314.out _; (with_reducible repeat (first | refine bdN ?_ _ | refine blk_drew ?_ | refine bkA ?_ _)); refine blk_far ?_ NB308_314.out _; (with_reducible repeat (first | refine bdN ?_ _ | refine blk_drew ?_ | refine bkA ?_ _)); exact BK308.out) hb); have n1_ := Az.mk (bkB (g := gb309) (o := .cells #[.int .i64 a1_0, .int .i64 a1_1, .slice (some ad313) l1_2.length c1_2] 28 (0, 0)) (by (with_reducible repeat (first | refine bdN ?_ _ | refine blk_drew ?_ | refine bkA ?_ _)); refine blk_far ?_ NB309_314.out _; (with_reducible repeat (first | refine bdN ?_ _ | refine blk_drew ?_ | refine bkA ?_ _)); refine blk_far ?_ NB309_314.out _; (with_reducible repeat (first | refine bdN ?_ _ | refine blk_drew ?_ | refine bkA ?_ _)); refine blk_far ?_ NB309_314.out _; (with_reducible repeat (first | refine bdN ?_ _ | refine blk_drew ?_ | refine bkA ?_ _)); exact BK309.out) hb); have n2_ := Az.mk (bkB (g := gb314) (o := .cells #[.int .i64 ((rd_T28 l1_2 x36_2).f0), .int .i64 ((rd_T28 l1_2 x36_2).f1), .slice A313_2 ((rd_T28 l1_2 x36_2).f2).length c313_2] 28 (0, 0)) (by (with_reducible repeat (first | refine bdN ?_ _ | refine blk_drew ?_ | refine bkA ?_ _)); refine blk_put (cs := #[.int .i64 ((rd_T28 l1_2 x36_2).f0), .int .i64 ((rd_T28 l1_2 x36_2).f1), .slice none 0 0]) ?_ 2 _ rfl; (with_reducible repeat (first | refine bdN ?_ _ | refine blk_drew ?_ | refine bkA ?_ _)); refine blk_put (cs := #[.int .i64 ((rd_T28 l1_2 x36_2).f0), .int .i64 0, .slice none 0 0]) ?_ 1 _ rfl; (with_reducible repeat (first | refine bdN ?_ _ | refine blk_drew ?_ | refine bkA ?_ _)); refine blk_put (cs := #[.int .i64 0, .int .i64 0, .slice none 0 0]) ?_ 0 _ rfl; (with_reducible repeat (first | refine bdN ?_ _ | refine blk_drew ?_ | refine bkA ?_ _)); exact BK314.out) hb); have n3_ := Az.mk (bst (by repeat (first | (with_reducible first | exact HB.out | apply bal | apply pwN | apply bd1 | refine bset ?_ GE308.out | refine bset ?_ GE309.out | refine bset ?_ GE314.out) | exact HB.out)) hb); clear BK308; clear BK309; clear BK314; clear HB; have BK308 := n0_; have BK309 := n1_; have BK314 := n2_; have HB := n3_; clear n0_ n1_ n2_ n3_; (try clear hb); (try clear hb2); (try clear hk); (try clear hi)))
                        go_roundg k2
                        case measure => have := HJ2.out; have := HK2.out; omega
                        case rel => exact ⟨(((x5_2 ++ (⟨#[32, 40]⟩ : ByteArray)) ++ t316) ++ (⟨#[41]⟩ : ByteArray)), (wrap64 (x36_2 + 1)), (by first | rfl | (simp; done) | (simp [*]; done)), (by first | rfl | (simp; done) | (simp [*]; done)), H', ⟨by have := HJ2.out; have := HK2.out; omega⟩, ⟨by (with_reducible repeat (first | refine bdN ?_ _ | refine blk_drew ?_ | refine bkA ?_ _)); exact BK308.out⟩, ⟨by (with_reducible repeat (first | refine bdN ?_ _ | refine blk_drew ?_ | refine bkA ?_ _)); exact BK309.out⟩, ⟨by repeat (first | (with_reducible first | exact HB.out | apply bal | apply pwN | apply bd1 | refine bset ?_ GE308.out | refine bset ?_ GE309.out | refine bset ?_ GE314.out) | exact HB.out)⟩⟩
                      · rw [if_neg c44] at H
                        exact absurd H (by simp)
                    · rw [if_neg c43] at H
                      exact absurd H (by simp)
                  · rw [if_neg c41] at H
                    exact absurd H (by simp)
              · rw [if_neg c29] at H
                exact absurd H (by simp)
            · rw [if_neg c28] at H
              exact absurd H (by simp)
          · rw [if_neg c27] at H
            have c27b0 : decide (x36_2 < (l1_2.length : Int)) = false := decide_eq_false c27
            clear c27
            obtain rfl := Option.some.inj H
            go_wp2
            go_ret
            exact ⟨by first | rfl | (simp [errW_none, errW_some] <;> rfl) | (simp [*, errW_none, errW_some] <;> rfl), by repeat (first | (with_reducible first | exact HB.out | apply bal | apply pwN | apply bd1 | refine bset ?_ GE308.out | refine bset ?_ GE309.out) | exact HB.out)⟩
def virgationref02_insert.l0 : Nat → List Int → Int → List Int → Int → Option (List Int)
  | 0, _, _, _, _ => none
  | k + 1, x0, x1, x5, x6 => if x6 < (x0.length : Int) then (if 0 ≤ x6 then (if (rd x0 x6) < x1 then (if x5.length < 17592186044416 then (virgationref02_insert.l0 k x0 x1 (x5 ++ [rd x0 x6]) (wrap64 (x6 + 1))) else (none)) else (if x5.length < 17592186044416 then ((some (x5 ++ [x1] : List Int)).bind fun y324 => (if (rd x0 x6) = x1 then (if 0 ≤ (wrap64 (x6 + 1)) then (if (wrap64 (x6 + 1)) ≤ (x0.length : Int) then (if y324.length + (x0.drop ((wrap64 (x6 + 1)) : Int).toNat).length < 17592186044416 then (some (y324 ++ (x0.drop ((wrap64 (x6 + 1)) : Int).toNat))) else (none)) else (none)) else (none)) else (if x6 ≤ (x0.length : Int) then (if y324.length + (x0.drop (x6 : Int).toNat).length < 17592186044416 then (some (y324 ++ (x0.drop (x6 : Int).toNat))) else (none)) else (none)))) else (none))) else (none)) else (if x5.length < 17592186044416 then ((some (x5 ++ [x1] : List Int)).bind fun y336 => (if 0 ≤ x6 then (if x6 ≤ (x0.length : Int) then (if y336.length + (x0.drop (x6 : Int).toNat).length < 17592186044416 then (some (y336 ++ (x0.drop (x6 : Int).toNat))) else (none)) else (none)) else (none))) else (none))
def virgationref02_insert.f (k : Nat) (l0 : List Int) (a1 : Int) : Option (List Int) := virgationref02_insert.l0 k l0 a1 ([] : List Int) 0
set_option maxHeartbeats 8000000 in
set_option maxRecDepth 100000 in
theorem virgationref02_insert.calls (k : Nat) (A0 : Option Addr) (c0 : Nat) (l0 : List Int) (a1 : Int) (r : List Int) (w : World) (hr0 : Kd.C (Kd.int .i64) w A0 l0.length l0) (hc0 : l0.length ≤ c0) (h : virgationref02_insert.f k l0 a1 = some r) :
    Calls Try.prog 89 #[.slice A0 l0.length c0, .int .i64 a1] w fun e w' => ∃ v0_ : Value, e = .returned (v0_) ∧ Kd.R (Kd.int .i64) 3 w' w.heap.size (fun _ => True) v0_ r ∧ Below w.heap.size w w' := by
  have HR0 := Az.mk hr0
  have HC0 := Az.mk hc0
  clear hr0 hc0
  have HB := Az.mk (Below.refl w.heap.size w)
  have H : (virgationref02_insert.l0 k l0 a1 ([] : List Int) 0) = some r := h
  clear h
  have H' := Az.mk H
  clear H
  go_enter Try.func89, Try.ntmps89
  go_wp2
  go_loopg [5, 6] k (fun kq v5 v6 w' => ∃ (x5_1 : List Int) (x6_1 : Int), v6 = .int .i64 x6_1 ∧ Az (virgationref02_insert.l0 kq l0 a1 x5_1 x6_1 = some r) ∧ Az (kq ≤ k) ∧ Az (Kd.R (Kd.int .i64) 3 w' w.heap.size (fun _ => True) v5 x5_1) ∧ Az (Below w.heap.size w w'))
  case atStart => exact ⟨(([] : List Int)), (0), (by first | rfl | (simp; done) | (simp [*]; done)), H', ⟨Nat.le_refl _⟩, ⟨by first | exact Kd.R_nil _ _ _ _ _ | exact Kd.N_nil _ _ _ _ _ | exact Kd.V_nil _ _ _ _ _ | exact Kd.Q_nil _ _ _ _ _ | exact Kd.S_nil _ _ _ _ _⟩, ⟨by repeat (first | (with_reducible first | exact HB.out | apply bal | apply pwN | apply bd1) | exact HB.out)⟩⟩
  case round =>
    clear H'
    try clear p2
    obtain ⟨x5_1, x6_1, rfl, HA, HK1, HO_5, HB⟩ := hrel
    cases gk with
    | zero => exact absurd HA.out (by simp [virgationref02_insert.l0])
    | succ k1 =>
      have H := HA.out
      clear HA
      simp only [virgationref02_insert.l0] at H
      by_cases c3 : x6_1 < (l0.length : Int)
      · rw [if_pos c3] at H
        have c3b0 : decide (x6_1 < (l0.length : Int)) = true := decide_eq_true c3
        clear c3
        by_cases c4 : 0 ≤ x6_1
        · rw [if_pos c4] at H
          have c4b0 : decide (0 ≤ x6_1) = true := decide_eq_true c4
          clear c4
          by_cases c5 : (rd l0 x6_1) < a1
          · rw [if_pos c5] at H
            have c5b0 : decide ((rd l0 x6_1) < a1) = true := decide_eq_true c5
            clear c5
            by_cases c6 : x5_1.length < 17592186044416
            · rw [if_pos c6] at H
              have LMc6 := Az.mk c6
              clear c6
              obtain ⟨y321, hy321⟩ : ∃ y_ : List Int, y_ = (x5_1 ++ [rd l0 x6_1]) := ⟨_, rfl⟩
              replace H : (virgationref02_insert.l0 k1 l0 a1 y321 (wrap64 (x6_1 + 1))) = some r := by first | (rw [hy321]; with_reducible exact H) | (have H2_ := (Option.bind_some _ _).symm.trans H; rw [hy321]; with_reducible exact H2_) | (have H2_ := (Option.bind_some _ _).symm.trans H; with_reducible exact H2_) | with_reducible exact H | (rw [hy321]; exact H) | exact H
              have Ny321 := Az.mk hy321
              clear hy321
              have H' := Az.mk H
              clear H
              have p319 : 0 ≤ (x6_1 : Int) := of_decide_eq_true (by first | (with_reducible assumption) | assumption)
              have q319 : x6_1 < (l0.length : Int) := of_decide_eq_true (by first | (with_reducible assumption) | assumption)
              obtain ⟨ad319, e319, hx319_0⟩ := Kd.at_int HR0.out x6_1 p319 q319
              cases e319
              replace hx319_0 := (HB.out.cell (World.block_lt_of_cell? w _ hx319_0)).trans hx319_0
              replace p319 := eq_true p319
              replace q319 := eq_true q319
              have p320 : 0 ≤ (x6_1 : Int) := of_decide_eq_true (by first | (with_reducible assumption) | assumption)
              have q320 : x6_1 < (l0.length : Int) := of_decide_eq_true (by first | (with_reducible assumption) | assumption)
              obtain ⟨ad320, e320, hx320_0⟩ := Kd.at_int HR0.out x6_1 p320 q320
              obtain rfl : ad319 = ad320 := (by injection e320)
              replace hx320_0 := (HB.out.cell (World.block_lt_of_cell? w _ hx320_0)).trans hx320_0
              replace p320 := eq_true p320
              replace q320 := eq_true q320
              go_wp2_with (first | ((with_reducible refine gate_builtin (b := .append) (xs := #[.tmp 19, .tmp 24]) rfl ?_); at_builtin; refine Kd.R_append (Kd.int .i64) (w0 := w) w.heap.size rfl (.tmp 19) (.tmp 24) 40 3 (.int .i64 0) 8 rfl Try.underlying40 info3 rfl (by decide) (by omega) u5 x5_1 (rd l0 x6_1) [.int .i64 (rd l0 x6_1)] (fun _ => True) (fun _ => False) rfl rfl ?aP (fun _ hk => hk.elim) ?aF ?aO ?aB ?aS ?aL ?_; (case aP => exact rfl); (case aB => exact (by repeat (first | (with_reducible first | exact HB.out | apply bal | apply pwN | apply bd1) | exact HB.out))); (case aF => exact (fun _ _ => trivial)); (case aO => exact (by (with_reducible repeat (first | apply Kd.R_alloc | apply Kd.R_drewN | apply Kd.R_drew)); exact HO_5.out)); (case aS => exact (below_size (by repeat (first | (with_reducible first | exact HB.out | apply bal | apply pwN | apply bd1) | exact HB.out)))); (case aL => have := LMc6.out; omega); intro v322 w7 ho hb hg hat; rw [← Ny321.out] at ho; have n0_ := Az.mk (hb); have n1_ := Az.mk (ho); clear HB; clear HO_5; have HB := n0_; have HO323 := n1_; clear n0_ n1_; clear ho hb hg hat))
              go_roundg k1
              case measure => have := HK1.out; omega
              case rel => exact ⟨(y321), (wrap64 (x6_1 + 1)), (by first | rfl | (simp; done) | (simp [*]; done)), H', ⟨by have := HK1.out; omega⟩, ⟨by (with_reducible repeat (first | apply Kd.R_alloc | apply Kd.R_drewN | apply Kd.R_drew)); exact HO323.out⟩, ⟨by repeat (first | (with_reducible first | exact HB.out | apply bal | apply pwN | apply bd1) | exact HB.out)⟩⟩
            · rw [if_neg c6] at H
              exact absurd H (by simp)
          · rw [if_neg c5] at H
            have c5b0 : decide ((rd l0 x6_1) < a1) = false := decide_eq_false c5
            clear c5
            by_cases c8 : x5_1.length < 17592186044416
            · rw [if_pos c8] at H
              have LMc8 := Az.mk c8
              clear c8
              obtain ⟨y324, hy324⟩ : ∃ y_ : List Int, y_ = (x5_1 ++ [a1]) := ⟨_, rfl⟩
              replace H : (if (rd l0 x6_1) = a1 then (if 0 ≤ (wrap64 (x6_1 + 1)) then (if (wrap64 (x6_1 + 1)) ≤ (l0.length : Int) then (if y324.length + (l0.drop ((wrap64 (x6_1 + 1)) : Int).toNat).length < 17592186044416 then (some (y324 ++ (l0.drop ((wrap64 (x6_1 + 1)) : Int).toNat))) else (none)) else (none)) else (none)) else (if x6_1 ≤ (l0.length : Int) then (if y324.length + (l0.drop (x6_1 : Int).toNat).length < 17592186044416 then (some (y324 ++ (l0.drop (x6_1 : Int).toNat))) else (none)) else (none))) = some r := by first | (rw [hy324]; with_reducible exact H) | (have H2_ := (Option.bind_some _ _).symm.trans H; rw [hy324]; with_reducible exact H2_) | (have H2_ := (Option.bind_some _ _).symm.trans H; with_reducible exact H2_) | with_reducible exact H | (rw [hy324]; exact H) | exact H
              have Ny324 := Az.mk hy324
              clear hy324
              by_cases c9 : (rd l0 x6_1) = a1
              · rw [if_pos c9] at H
                have c9b0 : ((rd l0 x6_1) == a1) = true := beq_iff_eq.mpr c9
                have c9b1 : ((rd l0 x6_1) != a1) = false := bne_eq_false_iff_eq.mpr c9
                clear c9
                obtain ⟨ji10, hji10⟩ : ∃ j_ : Int, (wrap64 (x6_1 + 1)) = j_ := ⟨_, rfl⟩
                replace H : (if 0 ≤ (ji10) then (if (ji10) ≤ (l0.length : Int) then (if y324.length + (l0.drop ((ji10) : Int).toNat).length < 17592186044416 then (some (y324 ++ (l0.drop ((ji10) : Int).toNat))) else (none)) else (none)) else (none)) = some r := by first | (rw [hji10] at H; exact H) | (simp only [hji10] at H ⊢; exact H)
                have hji10w : (IntKind.i64.wrap (x6_1 + 1)) = ji10 := (i64_w _).trans hji10
                by_cases c11 : 0 ≤ (ji10)
                · rw [if_pos c11] at H
                  have c11b0 := eq_true c11
                  have c11b1 : decide (0 ≤ (ji10)) = true := decide_eq_true c11
                  clear c11
                  by_cases c12 : (ji10) ≤ (l0.length : Int)
                  · rw [if_pos c12] at H
                    have c12b0 := eq_true c12
                    have c12b1 : decide ((ji10) ≤ (l0.length : Int)) = true := decide_eq_true c12
                    clear c12
                    by_cases c13 : y324.length + (l0.drop ((ji10) : Int).toNat).length < 17592186044416
                    · rw [if_pos c13] at H
                      have LMc13 := Az.mk c13
                      clear c13
                      obtain ⟨y329, hy329⟩ : ∃ y_ : List Int, y_ = (y324 ++ (l0.drop ((ji10) : Int).toNat)) := ⟨_, rfl⟩
                      replace H : (some y329) = some r := by first | (rw [hy329]; with_reducible exact H) | (have H2_ := (Option.bind_some _ _).symm.trans H; rw [hy329]; with_reducible exact H2_) | (have H2_ := (Option.bind_some _ _).symm.trans H; with_reducible exact H2_) | with_reducible exact H | (rw [hy329]; exact H) | exact H
                      have Ny329 := Az.mk hy329
                      clear hy329
                      obtain rfl := Option.some.inj H
                      have p319 : 0 ≤ (x6_1 : Int) := of_decide_eq_true (by first | (with_reducible assumption) | assumption)
                      have q319 : x6_1 < (l0.length : Int) := of_decide_eq_true (by first | (with_reducible assumption) | assumption)
                      obtain ⟨ad319, e319, hx319_0⟩ := Kd.at_int HR0.out x6_1 p319 q319
                      cases e319
                      replace hx319_0 := (HB.out.cell (World.block_lt_of_cell? w _ hx319_0)).trans hx319_0
                      replace p319 := eq_true p319
                      replace q319 := eq_true q319
                      go_wp2_with (first | ((with_reducible refine gate_builtin (b := .append) (xs := #[.tmp 28, .tmp 30]) rfl ?_); at_builtin; refine Kd.R_append (Kd.int .i64) (w0 := w) w.heap.size rfl (.tmp 28) (.tmp 30) 40 3 (.int .i64 0) 8 rfl Try.underlying40 info3 rfl (by decide) (by omega) u5 x5_1 a1 [.int .i64 a1] (fun _ => True) (fun _ => False) rfl rfl ?aP (fun _ hk => hk.elim) ?aF ?aO ?aB ?aS ?aL ?_; (case aP => exact rfl); (case aB => exact (by repeat (first | (with_reducible first | exact HB.out | apply bal | apply pwN | apply bd1) | exact HB.out))); (case aF => exact (fun _ _ => trivial)); (case aO => exact (by (with_reducible repeat (first | apply Kd.R_alloc | apply Kd.R_drewN | apply Kd.R_drew)); exact HO_5.out)); (case aS => exact (below_size (by repeat (first | (with_reducible first | exact HB.out | apply bal | apply pwN | apply bd1) | exact HB.out)))); (case aL => have := LMc8.out; omega); intro v325 w14 ho hb hg hat; rw [← Ny324.out] at ho; have n0_ := Az.mk (hb); have n1_ := Az.mk (ho); clear HB; clear HO_5; have HB := n0_; have HO326 := n1_; clear n0_ n1_; clear ho hb hg hat; have p327 : 0 ≤ (x6_1 : Int) := of_decide_eq_true (by first | (with_reducible assumption) | assumption); have q327 : x6_1 < (l0.length : Int) := of_decide_eq_true (by first | (with_reducible assumption) | assumption); obtain ⟨ad327, e327, hx327_0⟩ := Kd.at_int HR0.out x6_1 p327 q327; obtain rfl : ad319 = ad327 := (by injection e327); replace hx327_0 := (HB.out.cell (World.block_lt_of_cell? w _ hx327_0)).trans hx327_0; replace p327 := eq_true p327; replace q327 := eq_true q327; obtain ⟨i015, hi015, _, hsz15, _⟩ := info_parts info3; obtain ⟨A15, hcut15, hA15, hC15⟩ := print_drop_of (P := Try.prog) (Value.int .i64) 0 40 3 .i64 Try.underlying40 hi015 hsz15 (some ad319) c0 l0 (ji10) (of_decide_eq_true (by first | (with_reducible assumption) | assumption)) (of_decide_eq_true (by first | (with_reducible assumption) | assumption)) HC0.out; have HR328 := Az.mk (Kd.C_of_reads (h1 := fun _ => rfl) (hA15 _ (Kd.reads_of_C HR0.out))); have HC328 := Az.mk hC15; clear hA15 hC15 hi015 hsz15) | ((with_reducible refine gate_builtin (b := .append) (xs := #[.tmp 46, .tmp 49]) rfl ?_); at_builtin; refine Kd.R_append_rows (Kd.int .i64) (w0 := w) w.heap.size rfl (.tmp 46) (.tmp 49) 40 3 (.int .i64 0) 8 rfl Try.underlying40 info3 rfl (by decide) (by omega) v325 y324 (l0.drop ((ji10) : Int).toNat) _ _ _ (fun _ => True) (fun _ => False) rfl rfl ?aO ?aR (fun _ _ h => h) (fun _ h => h.elim) ?aF ?aB ?aS ?aL ?_; (case aR => first | (rw [← show (l0.drop ((ji10) : Int).toNat).length = (l0.length - (ji10).toNat) from List.length_drop]; repeat (first | exact (Kd.C_below HR328.out HB.out) | (with_reducible refine Kd.C_alloc ?_ _) | (with_reducible refine Kd.C_drewN ?_ _) | (with_reducible refine Kd.C_drew ?_))) | (repeat (first | exact (Kd.C_below HR328.out HB.out) | (with_reducible refine Kd.C_alloc ?_ _) | (with_reducible refine Kd.C_drewN ?_ _) | (with_reducible refine Kd.C_drew ?_)))); (case aB => exact (by repeat (first | (with_reducible first | exact HB.out | apply bal | apply pwN | apply bd1) | exact HB.out))); (case aF => exact (fun _ _ => trivial)); (case aO => exact (by (with_reducible repeat (first | apply Kd.R_alloc | apply Kd.R_drewN | apply Kd.R_drew)); exact HO326.out)); (case aS => exact (below_size (by repeat (first | (with_reducible first | exact HB.out | apply bal | apply pwN | apply bd1) | exact HB.out)))); (case aL => have := LMc13.out; have hlx_ := (show (l0.drop ((ji10) : Int).toNat).length = (l0.length - (ji10).toNat) from List.length_drop); omega); intro v330 w16 ho hb hg hat; rw [← Ny329.out] at ho; have n0_ := Az.mk (hb); have n1_ := Az.mk (ho); clear HB; clear HO326; have HB := n0_; have HO331 := n1_; clear n0_ n1_; clear ho hb hg hat))
                      go_ret
                      exact ⟨_, by first | rfl | (simp [errW_none, errW_some] <;> rfl) | (simp only [← hji10]; first | rfl | (simp [errW_none, errW_some] <;> rfl)) | (simp [*, errW_none, errW_some] <;> rfl), by (with_reducible repeat (first | apply Kd.R_alloc | apply Kd.R_drewN | apply Kd.R_drew)); exact HO331.out, by repeat (first | (with_reducible first | exact HB.out | apply bal | apply pwN | apply bd1) | exact HB.out)⟩
                    · rw [if_neg c13] at H
                      exact absurd H (by simp)
                  · rw [if_neg c12] at H
                    exact absurd H (by simp)
                · rw [if_neg c11] at H
                  exact absurd H (by simp)
              · rw [if_neg c9] at H
                have c9b0 : ((rd l0 x6_1) == a1) = false := beq_eq_false_iff_ne.mpr c9
                have c9b1 : ((rd l0 x6_1) != a1) = true := bne_iff_ne.mpr c9
                have c17b0 := eq_true (of_decide_eq_true (by first | (with_reducible assumption) | assumption) : 0 ≤ x6_1)
                by_cases c18 : x6_1 ≤ (l0.length : Int)
                · rw [if_pos c18] at H
                  have c18b0 := eq_true c18
                  have c18b1 : decide (x6_1 ≤ (l0.length : Int)) = true := decide_eq_true c18
                  clear c18
                  by_cases c19 : y324.length + (l0.drop (x6_1 : Int).toNat).length < 17592186044416
                  · rw [if_pos c19] at H
                    have LMc19 := Az.mk c19
                    clear c19
                    obtain ⟨y333, hy333⟩ : ∃ y_ : List Int, y_ = (y324 ++ (l0.drop (x6_1 : Int).toNat)) := ⟨_, rfl⟩
                    replace H : (some y333) = some r := by first | (rw [hy333]; with_reducible exact H) | (have H2_ := (Option.bind_some _ _).symm.trans H; rw [hy333]; with_reducible exact H2_) | (have H2_ := (Option.bind_some _ _).symm.trans H; with_reducible exact H2_) | with_reducible exact H | (rw [hy333]; exact H) | exact H
                    have Ny333 := Az.mk hy333
                    clear hy333
                    obtain rfl := Option.some.inj H
                    have p319 : 0 ≤ (x6_1 : Int) := of_decide_eq_true (by first | (with_reducible assumption) | assumption)
                    have q319 : x6_1 < (l0.length : Int) := of_decide_eq_true (by first | (with_reducible assumption) | assumption)
                    obtain ⟨ad319, e319, hx319_0⟩ := Kd.at_int HR0.out x6_1 p319 q319
                    cases e319
                    replace hx319_0 := (HB.out.cell (World.block_lt_of_cell? w _ hx319_0)).trans hx319_0
                    replace p319 := eq_true p319
                    replace q319 := eq_true q319
                    go_wp2_with (first | ((with_reducible refine gate_builtin (b := .append) (xs := #[.tmp 28, .tmp 30]) rfl ?_); at_builtin; refine Kd.R_append (Kd.int .i64) (w0 := w) w.heap.size rfl (.tmp 28) (.tmp 30) 40 3 (.int .i64 0) 8 rfl Try.underlying40 info3 rfl (by decide) (by omega) u5 x5_1 a1 [.int .i64 a1] (fun _ => True) (fun _ => False) rfl rfl ?aP (fun _ hk => hk.elim) ?aF ?aO ?aB ?aS ?aL ?_; (case aP => exact rfl); (case aB => exact (by repeat (first | (with_reducible first | exact HB.out | apply bal | apply pwN | apply bd1) | exact HB.out))); (case aF => exact (fun _ _ => trivial)); (case aO => exact (by (with_reducible repeat (first | apply Kd.R_alloc | apply Kd.R_drewN | apply Kd.R_drew)); exact HO_5.out)); (case aS => exact (below_size (by repeat (first | (with_reducible first | exact HB.out | apply bal | apply pwN | apply bd1) | exact HB.out)))); (case aL => have := LMc8.out; omega); intro v325 w20 ho hb hg hat; rw [← Ny324.out] at ho; have n0_ := Az.mk (hb); have n1_ := Az.mk (ho); clear HB; clear HO_5; have HB := n0_; have HO326 := n1_; clear n0_ n1_; clear ho hb hg hat; have p327 : 0 ≤ (x6_1 : Int) := of_decide_eq_true (by first | (with_reducible assumption) | assumption); have q327 : x6_1 < (l0.length : Int) := of_decide_eq_true (by first | (with_reducible assumption) | assumption); obtain ⟨ad327, e327, hx327_0⟩ := Kd.at_int HR0.out x6_1 p327 q327; obtain rfl : ad319 = ad327 := (by injection e327); replace hx327_0 := (HB.out.cell (World.block_lt_of_cell? w _ hx327_0)).trans hx327_0; replace p327 := eq_true p327; replace q327 := eq_true q327; obtain ⟨i021, hi021, _, hsz21, _⟩ := info_parts info3; obtain ⟨A21, hcut21, hA21, hC21⟩ := print_drop_of (P := Try.prog) (Value.int .i64) 0 40 3 .i64 Try.underlying40 hi021 hsz21 (some ad319) c0 l0 x6_1 (of_decide_eq_true (by first | (with_reducible assumption) | assumption)) (of_decide_eq_true (by first | (with_reducible assumption) | assumption)) HC0.out; have HR332 := Az.mk (Kd.C_of_reads (h1 := fun _ => rfl) (hA21 _ (Kd.reads_of_C HR0.out))); have HC332 := Az.mk hC21; clear hA21 hC21 hi021 hsz21) | ((with_reducible refine gate_builtin (b := .append) (xs := #[.tmp 46, .tmp 49]) rfl ?_); at_builtin; refine Kd.R_append_rows (Kd.int .i64) (w0 := w) w.heap.size rfl (.tmp 46) (.tmp 49) 40 3 (.int .i64 0) 8 rfl Try.underlying40 info3 rfl (by decide) (by omega) v325 y324 (l0.drop (x6_1 : Int).toNat) _ _ _ (fun _ => True) (fun _ => False) rfl rfl ?aO ?aR (fun _ _ h => h) (fun _ h => h.elim) ?aF ?aB ?aS ?aL ?_; (case aR => first | (rw [← show (l0.drop (x6_1 : Int).toNat).length = (l0.length - x6_1.toNat) from List.length_drop]; repeat (first | exact (Kd.C_below HR332.out HB.out) | (with_reducible refine Kd.C_alloc ?_ _) | (with_reducible refine Kd.C_drewN ?_ _) | (with_reducible refine Kd.C_drew ?_))) | (repeat (first | exact (Kd.C_below HR332.out HB.out) | (with_reducible refine Kd.C_alloc ?_ _) | (with_reducible refine Kd.C_drewN ?_ _) | (with_reducible refine Kd.C_drew ?_)))); (case aB => exact (by repeat (first | (with_reducible first | exact HB.out | apply bal | apply pwN | apply bd1) | exact HB.out))); (case aF => exact (fun _ _ => trivial)); (case aO => exact (by (with_reducible repeat (first | apply Kd.R_alloc | apply Kd.R_drewN | apply Kd.R_drew)); exact HO326.out)); (case aS => exact (below_size (by repeat (first | (with_reducible first | exact HB.out | apply bal | apply pwN | apply bd1) | exact HB.out)))); (case aL => have := LMc19.out; have hlx_ := (show (l0.drop (x6_1 : Int).toNat).length = (l0.length - x6_1.toNat) from List.length_drop); omega); intro v334 w22 ho hb hg hat; rw [← Ny333.out] at ho; have n0_ := Az.mk (hb); have n1_ := Az.mk (ho); clear HB; clear HO326; have HB := n0_; have HO335 := n1_; clear n0_ n1_; clear ho hb hg hat))
                    go_ret
                    exact ⟨_, by first | rfl | (simp [errW_none, errW_some] <;> rfl) | (simp [*, errW_none, errW_some] <;> rfl), by (with_reducible repeat (first | apply Kd.R_alloc | apply Kd.R_drewN | apply Kd.R_drew)); exact HO335.out, by repeat (first | (with_reducible first | exact HB.out | apply bal | apply pwN | apply bd1) | exact HB.out)⟩
                  · rw [if_neg c19] at H
                    exact absurd H (by simp)
                · rw [if_neg c18] at H
                  exact absurd H (by simp)
            · rw [if_neg c8] at H
              exact absurd H (by simp)
        · rw [if_neg c4] at H
          exact absurd H (by simp)
      · rw [if_neg c3] at H
        have c3b0 : decide (x6_1 < (l0.length : Int)) = false := decide_eq_false c3
        clear c3
        by_cases c23 : x5_1.length < 17592186044416
        · rw [if_pos c23] at H
          have LMc23 := Az.mk c23
          clear c23
          obtain ⟨y336, hy336⟩ : ∃ y_ : List Int, y_ = (x5_1 ++ [a1]) := ⟨_, rfl⟩
          replace H : (if 0 ≤ x6_1 then (if x6_1 ≤ (l0.length : Int) then (if y336.length + (l0.drop (x6_1 : Int).toNat).length < 17592186044416 then (some (y336 ++ (l0.drop (x6_1 : Int).toNat))) else (none)) else (none)) else (none)) = some r := by first | (rw [hy336]; with_reducible exact H) | (have H2_ := (Option.bind_some _ _).symm.trans H; rw [hy336]; with_reducible exact H2_) | (have H2_ := (Option.bind_some _ _).symm.trans H; with_reducible exact H2_) | with_reducible exact H | (rw [hy336]; exact H) | exact H
          have Ny336 := Az.mk hy336
          clear hy336
          by_cases c24 : 0 ≤ x6_1
          · rw [if_pos c24] at H
            have c24b0 := eq_true c24
            have c24b1 : decide (0 ≤ x6_1) = true := decide_eq_true c24
            clear c24
            by_cases c25 : x6_1 ≤ (l0.length : Int)
            · rw [if_pos c25] at H
              have c25b0 := eq_true c25
              have c25b1 : decide (x6_1 ≤ (l0.length : Int)) = true := decide_eq_true c25
              clear c25
              by_cases c26 : y336.length + (l0.drop (x6_1 : Int).toNat).length < 17592186044416
              · rw [if_pos c26] at H
                have LMc26 := Az.mk c26
                clear c26
                obtain ⟨y340, hy340⟩ : ∃ y_ : List Int, y_ = (y336 ++ (l0.drop (x6_1 : Int).toNat)) := ⟨_, rfl⟩
                replace H : (some y340) = some r := by first | (rw [hy340]; with_reducible exact H) | (have H2_ := (Option.bind_some _ _).symm.trans H; rw [hy340]; with_reducible exact H2_) | (have H2_ := (Option.bind_some _ _).symm.trans H; with_reducible exact H2_) | with_reducible exact H | (rw [hy340]; exact H) | exact H
                have Ny340 := Az.mk hy340
                clear hy340
                obtain rfl := Option.some.inj H
                go_wp2_with (first | ((with_reducible refine gate_builtin (b := .append) (xs := #[.tmp 28, .tmp 30]) rfl ?_); at_builtin; refine Kd.R_append (Kd.int .i64) (w0 := w) w.heap.size rfl (.tmp 28) (.tmp 30) 40 3 (.int .i64 0) 8 rfl Try.underlying40 info3 rfl (by decide) (by omega) u5 x5_1 a1 [.int .i64 a1] (fun _ => True) (fun _ => False) rfl rfl ?aP (fun _ hk => hk.elim) ?aF ?aO ?aB ?aS ?aL ?_; (case aP => exact rfl); (case aB => exact (by repeat (first | (with_reducible first | exact HB.out | apply bal | apply pwN | apply bd1) | exact HB.out))); (case aF => exact (fun _ _ => trivial)); (case aO => exact (by (with_reducible repeat (first | apply Kd.R_alloc | apply Kd.R_drewN | apply Kd.R_drew)); exact HO_5.out)); (case aS => exact (below_size (by repeat (first | (with_reducible first | exact HB.out | apply bal | apply pwN | apply bd1) | exact HB.out)))); (case aL => have := LMc23.out; omega); intro v337 w27 ho hb hg hat; rw [← Ny336.out] at ho; have n0_ := Az.mk (hb); have n1_ := Az.mk (ho); clear HB; clear HO_5; have HB := n0_; have HO338 := n1_; clear n0_ n1_; clear ho hb hg hat; obtain ⟨i028, hi028, _, hsz28, _⟩ := info_parts info3; obtain ⟨A28, hcut28, hA28, hC28⟩ := print_drop_of (P := Try.prog) (Value.int .i64) 0 40 3 .i64 Try.underlying40 hi028 hsz28 A0 c0 l0 x6_1 (of_decide_eq_true (by first | (with_reducible assumption) | assumption)) (of_decide_eq_true (by first | (with_reducible assumption) | assumption)) HC0.out; have HR339 := Az.mk (Kd.C_of_reads (h1 := fun _ => rfl) (hA28 _ (Kd.reads_of_C HR0.out))); have HC339 := Az.mk hC28; clear hA28 hC28 hi028 hsz28) | ((with_reducible refine gate_builtin (b := .append) (xs := #[.tmp 46, .tmp 49]) rfl ?_); at_builtin; refine Kd.R_append_rows (Kd.int .i64) (w0 := w) w.heap.size rfl (.tmp 46) (.tmp 49) 40 3 (.int .i64 0) 8 rfl Try.underlying40 info3 rfl (by decide) (by omega) v337 y336 (l0.drop (x6_1 : Int).toNat) _ _ _ (fun _ => True) (fun _ => False) rfl rfl ?aO ?aR (fun _ _ h => h) (fun _ h => h.elim) ?aF ?aB ?aS ?aL ?_; (case aR => first | (rw [← show (l0.drop (x6_1 : Int).toNat).length = (l0.length - x6_1.toNat) from List.length_drop]; repeat (first | exact (Kd.C_below HR339.out HB.out) | (with_reducible refine Kd.C_alloc ?_ _) | (with_reducible refine Kd.C_drewN ?_ _) | (with_reducible refine Kd.C_drew ?_))) | (repeat (first | exact (Kd.C_below HR339.out HB.out) | (with_reducible refine Kd.C_alloc ?_ _) | (with_reducible refine Kd.C_drewN ?_ _) | (with_reducible refine Kd.C_drew ?_)))); (case aB => exact (by repeat (first | (with_reducible first | exact HB.out | apply bal | apply pwN | apply bd1) | exact HB.out))); (case aF => exact (fun _ _ => trivial)); (case aO => exact (by (with_reducible repeat (first | apply Kd.R_alloc | apply Kd.R_drewN | apply Kd.R_drew)); exact HO338.out)); (case aS => exact (below_size (by repeat (first | (with_reducible first | exact HB.out | apply bal | apply pwN | apply bd1) | exact HB.out)))); (case aL => have := LMc26.out; have hlx_ := (show (l0.drop (x6_1 : Int).toNat).length = (l0.length - x6_1.toNat) from List.length_drop); omega); intro v341 w29 ho hb hg hat; rw [← Ny340.out] at ho; have n0_ := Az.mk (hb); have n1_ := Az.mk (ho); clear HB; clear HO338; have HB := n0_; have HO342 := n1_; clear n0_ n1_; clear ho hb hg hat))
                go_ret
                exact ⟨_, by first | rfl | (simp [errW_none, errW_some] <;> rfl) | (simp [*, errW_none, errW_some] <;> rfl), by (with_reducible repeat (first | apply Kd.R_alloc | apply Kd.R_drewN | apply Kd.R_drew)); exact HO342.out, by repeat (first | (with_reducible first | exact HB.out | apply bal | apply pwN | apply bd1) | exact HB.out)⟩
              · rw [if_neg c26] at H
                exact absurd H (by simp)
            · rw [if_neg c25] at H
              exact absurd H (by simp)
          · rw [if_neg c24] at H
            exact absurd H (by simp)
        · rw [if_neg c23] at H
          exact absurd H (by simp)
end Go.Proofs.Ytnfgpepggehegaa.I
namespace Go.Proofs.Ytnfgpepggehegaa.I
open Go.RowKit Go.Proofs.YtnfgpepggehegaaW.PrintWords Go.Proofs.YtnfgpepggehegaaW.PrintLast Go.Proofs.YtnfgpepggehegaaW.PrintMore
attribute [local go_sem] max2_int min2_int max_two min_two max_three min_three max_four min_four
set_option linter.unusedVariables false
set_option maxRecDepth 100000
set_option linter.unusedSimpArgs false
def SymLine (tx : ByteArray) (a : Int) (x : S87) (a2 : Int) : Prop :=
  ∃ (K : Nat) (b e c d : Int), virgationref03_begins.f tx a (⟨#[115, 121, 109, 98, 111, 108, 32]⟩ : ByteArray) = some true ∧ wrap64 (a + 7) = b ∧ virgationref03_word.f K tx b = some e ∧ (0 ≤ b ∧ b ≤ e ∧ e ≤ (tx.size : Int)) ∧ x.f0 = tx.extract b.toNat e.toNat ∧ virgationref02_Name.f K (tx.extract b.toNat e.toNat) = some true ∧ virgationref03_begins.f tx e (⟨#[32]⟩ : ByteArray) = some true ∧ wrap64 (e + 1) = c ∧ virgationref03_number.f K tx c = some (x.f1, d, true) ∧ virgationref03_begins.f tx d (⟨#[10]⟩ : ByteArray) = some true ∧ wrap64 (d + 1) = a2
def Syms (tx : ByteArray) : List S87 → Int → Int → Prop
  | [], a, a2 => a = a2 ∧ virgationref03_begins.f tx a (⟨#[115, 121, 109, 98, 111, 108, 32]⟩ : ByteArray) = some false
  | x :: xs, a, a2 => ∃ m, SymLine tx a x m ∧ Syms tx xs m a2
def FunLine (tx : ByteArray) (a : Int) (x : S84) (bd : Int) (a2 : Int) : Prop :=
  ∃ (K : Nat) (b e c d : Int) (p q : Nat), virgationref03_begins.f tx a (⟨#[102, 117, 110, 32]⟩ : ByteArray) = some true ∧ wrap64 (a + 4) = b ∧ virgationref03_word.f K tx b = some e ∧ (0 ≤ b ∧ b ≤ e ∧ e ≤ (tx.size : Int)) ∧ x.f0 = tx.extract b.toNat e.toNat ∧ virgationref02_Name.f K (tx.extract b.toNat e.toNat) = some true ∧ virgationref03_begins.f tx e (⟨#[32, 58, 32]⟩ : ByteArray) = some true ∧ wrap64 (e + 3) = c ∧ virgationref01_Parse.f K tx c = some (x.f1.f0, d, true) ∧ virgationref03_begins.f tx d (⟨#[32, 61, 32]⟩ : ByteArray) = some true ∧ wrap64 (d + 3) = bd ∧ (d = (p : Int) ∧ p ≤ q ∧ q < tx.size ∧ q < 1000000) ∧ (∀ j : Nat, p ≤ j → j < q → (bt tx (j : Int) ≠ 10)) ∧ bt tx (q : Int) = 10 ∧ ((q + 1 : Nat) : Int) = a2 ∧ x.f2 = ⟨0, 0, []⟩
def Funs (tx : ByteArray) : List S84 → List Int → Int → Prop
  | [], bs, a => bs = [] ∧ a = (tx.size : Int) ∧ virgationref03_begins.f tx a (⟨#[102, 117, 110, 32]⟩ : ByteArray) = some false
  | x :: xs, bs, a => ∃ b bs' m, bs = b :: bs' ∧ FunLine tx a x b m ∧ Funs tx xs bs' m
def NmS (w0 : World) (g2 g5 : Nat) (A0 : Option Addr) (c0 : Nat) (A1 : Option Addr) (c1 : Nat) (Ab : Option Addr) (cb : Nat) (sy : List S87) (fu : List S84) (bo : List Int) (w : World) : Prop :=
  k87.R 87 w w0.heap.size (fun _ => True) (.slice A0 sy.length c0) sy ∧ k84.R 84 w w0.heap.size (fun _ => True) (.slice A1 fu.length c1) fu ∧ Kd.R (Kd.int .i64) 3 w w0.heap.size (fun _ => True) (.slice Ab bo.length cb) bo ∧ w.heap[g5]? = some (.cells #[.slice A0 sy.length c0, .slice A1 fu.length c1] 25 (0, 0)) ∧ w.heap[g2]? = some (.cells #[.slice none 0 0, .slice none 0 0] 25 (0, 0)) ∧ Below w0.heap.size w0 w ∧ w0.heap.size ≤ g2 ∧ w0.heap.size ≤ g5 ∧ g2 ≠ g5
theorem NmS.below {w0 : World} {g2 g5 : Nat} {A0 : Option Addr} {c0 : Nat} {A1 : Option Addr} {c1 : Nat} {Ab : Option Addr} {cb : Nat} {sy : List S87} {fu : List S84} {bo : List Int} {w w1 : World} (h : NmS w0 g2 g5 A0 c0 A1 c1 Ab cb sy fu bo w) (hb : Below w.heap.size w w1) : NmS w0 g2 g5 A0 c0 A1 c1 Ab cb sy fu bo w1 := by
  obtain ⟨h1, h2, h3, h4, h5, h6, h7⟩ := h
  exact ⟨Kd.R_below h1 hb, Kd.R_below h2 hb, Kd.R_below h3 hb, bkB h4 hb, bkB h5 hb, bst h6 hb, h7⟩
set_option maxHeartbeats 16000000 in
theorem names_calls (tx : ByteArray) (a1 : Int) (sy : List S87) (fu : List S84) (bo : List Int) (w : World) (hsy : Syms tx sy 0 a1) (hfu : Funs tx fu bo a1) (hl1 : sy.length ≤ 1000) (hl2 : fu.length ≤ 1000) (hl3 : bo.length ≤ 1000) (hsz : tx.size ≤ 1000000) :
    Calls Try.prog 61 #[.string tx] w fun e w' => ∃ A0 c0 A1 c1 Ab cb, e = .returned (.tuple #[.agg #[.slice A0 sy.length c0, .slice A1 fu.length c1], .slice Ab bo.length cb, .bool true]) ∧ k87.R 87 w' w.heap.size (fun _ => True) (.slice A0 sy.length c0) sy ∧ k84.R 84 w' w.heap.size (fun _ => True) (.slice A1 fu.length c1) fu ∧ Kd.R (Kd.int .i64) 3 w' w.heap.size (fun _ => True) (.slice Ab bo.length cb) bo ∧ Below w.heap.size w w' := by
  have hu25 := Try.underlying25
  have hu53 := Try.underlying53
  have HSY := Az.mk hsy
  have HFU := Az.mk hfu
  have HL1 := Az.mk hl1
  have HL2 := Az.mk hl2
  have HL3 := Az.mk hl3
  have HSZ := Az.mk hsz
  clear hsy hfu hl1 hl2 hl3 hsz
  go_enter Try.func61, Try.ntmps61
  go_wp2_with (first
    | ((with_reducible refine gate_dst (N := 2) rfl ?_)
       refine box_event ?hg (N := 2) ?hd (cs := #[.slice none 0 0, .slice none 0 0]) (t := 25) ?hr ?_
       (case hd => rfl)
       (case hg => rfl)
       (case hr => first | (go_simp; done) | (go_simp; rfl))
       intro g2 hg2 w2 hbox hb2
       have S2 := Az.mk hbox
       have HB2 := Az.mk hb2
       have HG2 := Az.mk (show w.heap.size ≤ g2 from by omega)
       clear hbox hb2 hg2)
    | ((with_reducible refine gate_dst (N := 5) rfl ?_)
       refine box_event ?hg (N := 5) ?hd (cs := #[.slice none 0 0, .slice none 0 0]) (t := 25) ?hr ?_
       (case hd => rfl)
       (case hg => rfl)
       (case hr => first | (go_simp; done) | (go_simp; rfl))
       intro g5 hg5 w5 hbox hb5
       have ST := Az.mk (show NmS w g2 g5 none 0 none 0 none 0 [] [] [] w5 from ⟨Kd.R_nil _ _ _ _ _, Kd.R_nil _ _ _ _ _, Kd.R_nil _ _ _ _ _, hbox, bkB S2.out hb5, bst HB2.out hb5, HG2.out, (by have := HB2.out.size; omega), (by have := blk_lt S2.out; omega)⟩)
       clear hbox hb5 hg5 S2 HB2 HG2))
  go_loopg [7] sy.length (fun kq v7 wr => ∃ (a : Int) (dn rs : List S87) (A0 : Option Addr) (c0 : Nat), v7 = .int .i64 a ∧ Az (kq = rs.length) ∧ Az (sy = dn ++ rs) ∧ Az (Syms tx rs a a1) ∧ Az (NmS w g2 g5 A0 c0 none 0 none 0 dn [] [] wr))
  case atStart => exact ⟨0, [], sy, none, 0, rfl, ⟨rfl⟩, ⟨rfl⟩, HSY, ST⟩
  case round =>
    clear ST HSY
    obtain ⟨a, dn, rs, A0, c0, rfl, HK, HDN, HRS, ST⟩ := hrel
    cases rs with
    | nil =>
      have h1 := HRS.out
      unfold Syms at h1
      obtain ⟨rfl, hbg⟩ := h1
      have hdn := HDN.out
      rw [List.append_nil] at hdn
      subst hdn
      have HBG := Az.mk hbg
      clear hbg HRS HDN HK
      go_wp2_with (first | (go_at_call 63; (with_reducible refine (virgationref03_begins.calls tx a (⟨#[115, 121, 109, 98, 111, 108, 32]⟩ : ByteArray) false _ HBG.out).mono ?_); rintro e9 w9 ⟨rfl, hd9⟩; have ST1 := Az.mk (NmS.below ST.out hd9.below); clear hd9 ST; have ST := ST1; clear ST1))
      go_loopg [6, 7] fu.length (fun kq v6 v7 wr => ∃ (a : Int) (dn rs : List S84) (bd bs : List Int) (A1 : Option Addr) (c1 : Nat) (Ab : Option Addr) (cb : Nat), v6 = .slice Ab bd.length cb ∧ v7 = .int .i64 a ∧ Az (kq = rs.length) ∧ Az (fu = dn ++ rs) ∧ Az (bo = bd ++ bs) ∧ Az (Funs tx rs bs a) ∧ Az (NmS w g2 g5 A0 c0 A1 c1 Ab cb sy dn bd wr))
      case atStart => exact ⟨_, [], fu, [], bo, none, 0, none, 0, rfl, rfl, ⟨rfl⟩, ⟨rfl⟩, ⟨rfl⟩, HFU, ST⟩
      case round =>
        clear ST HFU HBG
        obtain ⟨a, dn, rs, bd, bs, A1, c1, Ab, cb, rfl, rfl, HK, HDN, HBD, HRS, ST⟩ := hrel
        cases rs with
        | nil =>
          have h1 := HRS.out
          unfold Funs at h1
          obtain ⟨rfl, rfl, hbg⟩ := h1
          have hdn := HDN.out
          rw [List.append_nil] at hdn
          subst hdn
          have hbd := HBD.out
          rw [List.append_nil] at hbd
          subst hbd
          have HBG := Az.mk hbg
          clear hbg HRS HDN HBD HK
          go_wp2_with (first | (go_at_call 63; (with_reducible refine (virgationref03_begins.calls tx (tx.size : Int) (⟨#[102, 117, 110, 32]⟩ : ByteArray) false _ HBG.out).mono ?_); rintro e9 w9 ⟨rfl, hd9⟩; have ST1 := Az.mk (NmS.below ST.out hd9.below); clear hd9 ST; have ST := ST1; clear ST1; have c50 : w9.cell? ⟨g5, 0, none⟩ = some (.slice A0 sy.length c0) := (blk_cell ST.out.2.2.2.1 0).trans rfl; have c51 : w9.cell? ⟨g5, 1, none⟩ = some (.slice A1 fu.length c1) := (blk_cell ST.out.2.2.2.1 1).trans rfl; have c20 : w9.cell? ⟨g2, 0, none⟩ = some (.slice none 0 0) := (blk_cell ST.out.2.2.2.2.1 0).trans rfl; have c21 : w9.cell? ⟨g2, 1, none⟩ = some (.slice none 0 0) := (blk_cell ST.out.2.2.2.2.1 1).trans rfl; have z20 := bkF ST.out.2.2.2.2.1 0; have z21 := bkF ST.out.2.2.2.2.1 1))
          have Sz := ST.out.2.2.2.2.1
          obtain ⟨r1, r2, r3, _, _, hb, hG2, _, _⟩ := ST.out
          refine bodyPost_ret (results_ctt rfl _ _ g2 25 #[.slice A0 sy.length c0, .slice A1 fu.length c1] (0, 0) _ rfl (blk_put (cs' := #[.slice A0 sy.length c0, .slice A1 fu.length c1]) (blk_put (cs' := #[.slice A0 sy.length c0, .slice none 0 0]) Sz 0 (.slice A0 sy.length c0) rfl) 1 (.slice A1 fu.length c1) rfl) Try.underlying25 rfl (by kernel_rfl)) rfl ?_
          exact ⟨A0, c0, A1, c1, Ab, cb, rfl, Kd.R_set (Kd.R_set r1 Sz (by decide) 0 _) (blk_put Sz 0 _ rfl) (by decide) 1 _, Kd.R_set (Kd.R_set r2 Sz (by decide) 0 _) (blk_put Sz 0 _ rfl) (by decide) 1 _, Kd.R_set (Kd.R_set r3 Sz (by decide) 0 _) (blk_put Sz 0 _ rfl) (by decide) 1 _, bset (bset hb hG2) hG2⟩
        | cons x rs =>
          have h1 := HRS.out
          unfold Funs at h1
          obtain ⟨b0, bs', m, rfl, hln, hrs⟩ := h1
          unfold FunLine at hln
          obtain ⟨K, b, e, c, d, p, q, f1, f2, f3, ⟨f4, f5, f6⟩, f7, f8, f9, f10, f11, f12, f13, ⟨rfl, f15, f16, f17⟩, f18, f19, f20, f21⟩ := hln
          have F1 := Az.mk f1
          have F3 := Az.mk f3
          have F7 := Az.mk f7
          have F8 := Az.mk f8
          have F9 := Az.mk f9
          have F11 := Az.mk f11
          have F12 := Az.mk f12
          have F15 := Az.mk (And.intro f15 (And.intro f16 f17))
          have F18 := Az.mk f18
          have F19 := Az.mk f19
          have F20 := Az.mk f20
          have F21 := Az.mk f21
          have HRS2 := Az.mk hrs
          have f2w : IntKind.i64.wrap (a + 4) = b := (i64_w _).trans f2
          have f10w : IntKind.i64.wrap (e + 3) = c := (i64_w _).trans f10
          have f13w : IntKind.i64.wrap ((p : Int) + 3) = b0 := (i64_w _).trans f13
          have q0 := eq_true f4
          have q1 : decide (0 ≤ b) = true := decide_eq_true f4
          have q2 := eq_true f5
          have q3 : decide (b ≤ e) = true := decide_eq_true f5
          have q4 := eq_true f6
          have q5 : decide (e ≤ (tx.size : Int)) = true := decide_eq_true f6
          clear f1 f3 f4 f5 f6 f7 f8 f9 f11 f12 f15 f16 f17 f18 f19 f20 f21 hrs HRS
          go_upto_region 22 with (first
            | (go_at_call 63; (with_reducible refine (virgationref03_begins.calls tx a (⟨#[102, 117, 110, 32]⟩ : ByteArray) true _ F1.out).mono ?_); rintro e9 w9 ⟨rfl, hd9⟩; have ST1 := Az.mk (NmS.below ST.out hd9.below); clear hd9 ST; have ST := ST1; clear ST1)
            | (go_at_call 78; (with_reducible refine (virgationref03_word.calls K tx b e _ F3.out).mono ?_); rintro e9 w9 ⟨rfl, hd9⟩; have ST1 := Az.mk (NmS.below ST.out hd9.below); clear hd9 ST; have ST := ST1; clear ST1)
            | (go_at_call 55; (with_reducible refine (virgationref02_Name.calls K (tx.extract b.toNat e.toNat) true _ F8.out).mono ?_); rintro e9 w9 ⟨rfl, hd9⟩; have ST1 := Az.mk (NmS.below ST.out hd9.below); clear hd9 ST; have ST := ST1; clear ST1)
            | (go_at_call 63; (with_reducible refine (virgationref03_begins.calls tx e (⟨#[32, 58, 32]⟩ : ByteArray) true _ F9.out).mono ?_); rintro e9 w9 ⟨rfl, hd9⟩; have ST1 := Az.mk (NmS.below ST.out hd9.below); clear hd9 ST; have ST := ST1; clear ST1)
            | (go_at_call 80
               (with_reducible refine (virgationref01_Parse.calls K tx c x.f1.f0 (p : Int) true _ F11.out).mono ?_)
               rintro e9 w9 ⟨vs, rfl, hR, hb9⟩
               obtain ⟨As, cs, rfl⟩ := Kd.R_slice hR
               have HRX := Az.mk (Kd.R_lower (base' := w.heap.size) hR (ST.out.2.2.2.2.2.1.size))
               have ST1 := Az.mk (NmS.below ST.out hb9)
               clear hR hb9 ST
               have ST := ST1
               clear ST1)
            | ((with_reducible refine gate_dst (N := 15) rfl ?_)
               refine box_event ?hg (N := 15) ?hd (cs := #[.slice none 0 0]) (t := 53) ?hr ?_
               (case hd => rfl)
               (case hg => rfl)
               (case hr => first | (go_simp; done) | (go_simp; rfl))
               intro g15 hg15 w15 hbox hb15
               have hlt15 := blk_lt hbox
               have hbs15 := bset (g := g15) (j := 0) (v := .slice As x.f1.f0.length cs) hb15 (by omega)
               have ST1 := Az.mk (NmS.below ST.out hbs15)
               have HRX1 := Az.mk (Kd.R_below HRX.out hbs15)
               have S15 := Az.mk (show (w15.setCell ⟨g15, 0, none⟩ (.slice As x.f1.f0.length cs)).heap[g15]? = some (.cells #[.slice As x.f1.f0.length cs] 53 (0, 0)) from blk_put hbox 0 (.slice As x.f1.f0.length cs) rfl)
               have hcz := (blk_cell hbox 0).trans rfl
               have hfz := bkF hbox 0
               clear hbox hb15 hbs15 hg15 ST HRX hlt15
               have ST := ST1
               have HRX := HRX1
               clear ST1 HRX1)
            | (go_at_call 63
               (with_reducible refine (virgationref03_begins.calls tx (p : Int) (⟨#[32, 61, 32]⟩ : ByteArray) true _ F12.out).mono ?_)
               rintro e9 w9 ⟨rfl, hd9⟩
               have ST1 := Az.mk (NmS.below ST.out hd9.below)
               have S151 := Az.mk (bkB S15.out hd9.below)
               have HRX1 := Az.mk (Kd.R_below HRX.out hd9.below)
               have c51 : w9.cell? ⟨g5, 1, none⟩ = some (.slice A1 dn.length c1) := (blk_cell ST1.out.2.2.2.1 1).trans rfl
               have c15 : w9.cell? ⟨g15, 0, none⟩ = some (.slice As x.f1.f0.length cs) := (blk_cell S151.out 0).trans rfl
               clear hd9 ST hcz hfz S15 HRX
               have ST := ST1
               have HRX := HRX1
               have S15 := S151
               clear ST1 HRX1 S151))
          go_wp2_with (at_builtin; refine holdX ?_)
          unfold HoldX
          clear c51 c15 q0 q1 q2 q3 q4 q5 f2 f2w f10 f10w
          have hdl : (dn ++ [x]).length = dn.length + 1 := by rw [List.length_append]; rfl
          have hx2 : x = ⟨x.f0, x.f1, ⟨0, 0, []⟩⟩ := by rw [← F21.out]
          refine Kd.R_append k84 (w0 := w) w.heap.size rfl (.tmp 107) (.tmp 111) 23 84 (.agg #[.string ⟨#[]⟩, .slice none 0 0, .int .i64 0, .int .i64 0, .slice none 0 0]) 80 rfl Try.underlying23 (by kernel_rfl) rfl (by decide) (by omega) (.slice A1 dn.length c1) dn x [.string (tx.extract b.toNat e.toNat), .slice As x.f1.f0.length cs, .int .i64 0, .int .i64 0, .slice none 0 0] (fun _ => True) (fun k => ∃ q cells, q ≠ 84 ∧ w9.heap[k]? = some (.cells cells q (0, 0))) rfl rfl (by rw [← F7.out, hx2]; exact k84_mkM _ _ _ ⟨x.f0, x.f1, ⟨0, 0, []⟩⟩ (Kd.R_mono (Kd.R_bound HRX.out) (fun k hk => by obtain ⟨_, _, _, q, hq, cells, hc⟩ := hk; refine ⟨q, cells, ?_, hc⟩; rcases List.mem_cons.1 hq with rfl | hq; decide; rw [List.mem_singleton.1 hq]; decide)) (Kd.R_nil _ _ _ _ _)) (fun k hk => ⟨trivial, fun he => by obtain ⟨q, cells, hq, hc⟩ := hk; obtain ⟨c2, hc2⟩ := Kd.R_typed ST.out.2.1 k he.symm; exact hq (blk_type hc hc2)⟩) (fun _ _ => trivial) ST.out.2.1 ST.out.2.2.2.2.2.1 ST.out.2.2.2.2.2.1.size (by have := HL2.out; rw [HDN.out, List.length_append, List.length_cons] at this; omega) ?_
          intro v2 w7 hrf hb7 hg7 hat
          obtain ⟨A5, c5, e5⟩ := Kd.R_slice hrf
          rw [hdl] at e5
          subst e5
          obtain ⟨r1, r2, r3, s5, s2, hb, hG2, hG5, h25⟩ := ST.out
          have tf := Kd.R_typed r2
          have s57 := grownT s5 hg7 (fun k hk => by obtain ⟨c, hc⟩ := tf k hk; exact ⟨84, c, by decide, hc⟩)
          have s27 := grownT s2 hg7 (fun k hk => by obtain ⟨c, hc⟩ := tf k hk; exact ⟨84, c, by decide, hc⟩)
          have ST7 := Az.mk (show NmS w g2 g5 A0 c0 A5 c5 Ab cb sy (dn ++ [x]) bd (w7.setCell ⟨g5, 1, none⟩ (.slice A5 (dn.length + 1) c5)) from by
            unfold NmS
            rw [hdl]
            exact ⟨Kd.R_set (Kd.R_over' r1 tf (by decide) hg7) s57 (by decide) 1 _, Kd.R_set hrf s57 (by decide) 1 _, Kd.R_set (Kd.R_over' r3 tf (by decide) hg7) s57 (by decide) 1 _, blk_put s57 1 _ rfl, blk_far (p := ⟨g5, 1, none⟩) s27 (fun he => h25 he) _, bset hb7 hG5, hG2, hG5, h25⟩)
          have m7 : w7.cell? ⟨g5, 1, none⟩ = some (.slice A1 dn.length c1) := (blk_cell s57 1).trans rfl
          have fz7 := bkF s57 1
          clear hrf hb7 hg7 hat r1 r2 r3 s5 s2 hb hG2 hG5 h25 tf s57 s27 ST hx2 HRX S15
          go_wp2_with (at_builtin; refine holdX ?_)
          unfold HoldX
          clear m7 fz7
          have hbl : (bd ++ [b0]).length = bd.length + 1 := by rw [List.length_append]; rfl
          refine Kd.R_append (Kd.int .i64) (w0 := w) w.heap.size rfl (.tmp 114) (.tmp 117) 40 3 (.int .i64 0) 8 rfl Try.underlying40 info3 rfl (by decide) (by omega) (.slice Ab bd.length cb) bd b0 [.int .i64 b0] (fun _ => True) (fun _ => False) rfl (by show Value.slice (some ⟨w7.heap.size, 0, none⟩) 1 1 = _; simp [World.setCell]) rfl (fun _ hk => hk.elim) (fun _ _ => trivial) ST7.out.2.2.1 ST7.out.2.2.2.2.2.1 ST7.out.2.2.2.2.2.1.size (by have := HL3.out; rw [HBD.out, List.length_append, List.length_cons] at this; omega) ?_
          intro v3 w9 hrf hb9 hg9 hat9
          obtain ⟨A6, c6, e6⟩ := Kd.R_slice hrf
          rw [hbl] at e6
          subst e6
          obtain ⟨r1, r2, r3, s5, s2, hb, hG2, hG5, h25⟩ := ST7.out
          have tf := Kd.R_typed r3
          have ST9 := Az.mk (show NmS w g2 g5 A0 c0 A5 c5 A6 c6 sy (dn ++ [x]) (bd ++ [b0]) w9 from by
            unfold NmS
            rw [hbl]
            exact ⟨Kd.R_over' r1 tf (by decide) hg9, Kd.R_over' r2 tf (by decide) hg9, hrf, grownT s5 hg9 (fun k hk => by obtain ⟨c, hc⟩ := tf k hk; exact ⟨3, c, by decide, hc⟩), grownT s2 hg9 (fun k hk => by obtain ⟨c, hc⟩ := tf k hk; exact ⟨3, c, by decide, hc⟩), hb9, hG2, hG5, h25⟩)
          clear hrf hb9 hg9 hat9 r1 r2 r3 s5 s2 hb hG2 hG5 h25 tf ST7
          have HDN2 := Az.mk (show fu = (dn ++ [x]) ++ rs from by rw [HDN.out, List.append_assoc]; rfl)
          have HBD2 := Az.mk (show bo = (bd ++ [b0]) ++ bs' from by rw [HBD.out, List.append_assoc]; rfl)
          have HDL := Az.mk hdl
          have HBL := Az.mk hbl
          clear hdl hbl
          go_wp2_with fail
          go_loopg [7] (q - p) (fun kq v7 wr => ∃ j : Nat, v7 = .int .i64 (j : Int) ∧ Az (j + kq = q) ∧ Az (p ≤ j) ∧ Az (NmS w g2 g5 A0 c0 A5 c5 A6 c6 sy (dn ++ [x]) (bd ++ [b0]) wr))
          case atStart => exact ⟨p, rfl, ⟨by have := F15.out; omega⟩, ⟨Nat.le_refl _⟩, ST9⟩
          case round =>
            clear ST9
            obtain ⟨j, rfl, HJ, HPJ, ST⟩ := hrel
            have hjq : j ≤ q := by have := HJ.out; omega
            have h15 := F15.out
            have x1 : decide ((j : Int) < (tx.size : Int)) = true := decide_eq_true (by omega)
            have x2 : decide (0 ≤ (j : Int)) = true := decide_eq_true (by omega)
            have x3 : (0 ≤ (j : Int)) = True := eq_true (by omega)
            have x4 : ((j : Int) < (tx.size : Int)) = True := eq_true (by omega)
            have x5 : ∀ h : j < tx.size, ((tx[j]'h).toNat : Int) = bt tx (j : Int) := fun h => bt_at tx (j : Int) h
            have x6 : (j < tx.size) = True := eq_true (by omega)
            cases gk with
            | zero =>
              have hje : j = q := by have := HJ.out; omega
              subst hje
              have y1 : (bt tx (j : Int) != 10) = false := bne_eq_false_iff_eq.2 F19.out
              have y2 : (bt tx (j : Int) == 10) = true := beq_iff_eq.2 F19.out
              have y3 : ((j : Int) == (tx.size : Int)) = false := beq_eq_false_iff_ne.2 (by omega)
              have y4 : ((j : Int) = (tx.size : Int)) = False := eq_false (by omega)
              have y5 : (j = tx.size) = False := eq_false (by omega)
              have y6 : (j == tx.size) = false := beq_eq_false_iff_ne.2 (by omega)
              go_wp2_with fail
              go_roundg rs.length
              case measure => have := HK.out; rw [List.length_cons] at this; omega
              case rel => exact ⟨m, dn ++ [x], rs, bd ++ [b0], bs', A5, c5, A6, c6, (by rw [HBL.out]), (by rw [← F20.out]; go_num), ⟨rfl⟩, HDN2, HBD2, HRS2, ST⟩
            | succ k1 =>
              have hjl : j < q := by have := HJ.out; omega
              have hne := F18.out j HPJ.out hjl
              have y1 : (bt tx (j : Int) != 10) = true := bne_iff_ne.2 hne
              have y2 : (bt tx (j : Int) == 10) = false := beq_eq_false_iff_ne.2 hne
              clear hne
              go_wp2_with fail
              go_roundg k1
              case measure => omega
              case rel => exact ⟨j + 1, by go_num, ⟨by have := HJ.out; omega⟩, ⟨by have := HPJ.out; omega⟩, ST⟩
    | cons x rs =>
      have h1 := HRS.out
      unfold Syms at h1
      obtain ⟨m, hln, hrs⟩ := h1
      unfold SymLine at hln
      obtain ⟨K, b, e, c, d, f1, f2, f3, ⟨f4, f5, f6⟩, f7, f8, f9, f10, f11, f12, f13⟩ := hln
      have F1 := Az.mk f1
      have F3 := Az.mk f3
      have F7 := Az.mk f7
      have F8 := Az.mk f8
      have F9 := Az.mk f9
      have F11 := Az.mk f11
      have F12 := Az.mk f12
      have HRS2 := Az.mk hrs
      have f2w : IntKind.i64.wrap (a + 7) = b := (i64_w _).trans f2
      have f10w : IntKind.i64.wrap (e + 1) = c := (i64_w _).trans f10
      have f13w : IntKind.i64.wrap (d + 1) = m := (i64_w _).trans f13
      have q0 := eq_true f4
      have q1 : decide (0 ≤ b) = true := decide_eq_true f4
      have q2 := eq_true f5
      have q3 : decide (b ≤ e) = true := decide_eq_true f5
      have q4 := eq_true f6
      have q5 : decide (e ≤ (tx.size : Int)) = true := decide_eq_true f6
      clear f1 f3 f4 f5 f6 f7 f8 f9 f11 f12 hrs HRS
      go_upto_region 12 with (first
        | (go_at_call 63; (with_reducible refine (virgationref03_begins.calls tx a (⟨#[115, 121, 109, 98, 111, 108, 32]⟩ : ByteArray) true _ F1.out).mono ?_); rintro e9 w9 ⟨rfl, hd9⟩; have ST1 := Az.mk (NmS.below ST.out hd9.below); clear hd9 ST; have ST := ST1; clear ST1)
        | (go_at_call 78; (with_reducible refine (virgationref03_word.calls K tx b e _ F3.out).mono ?_); rintro e9 w9 ⟨rfl, hd9⟩; have ST1 := Az.mk (NmS.below ST.out hd9.below); clear hd9 ST; have ST := ST1; clear ST1)
        | (go_at_call 55; (with_reducible refine (virgationref02_Name.calls K (tx.extract b.toNat e.toNat) true _ F8.out).mono ?_); rintro e9 w9 ⟨rfl, hd9⟩; have ST1 := Az.mk (NmS.below ST.out hd9.below); clear hd9 ST; have ST := ST1; clear ST1)
        | (go_at_call 63; (with_reducible refine (virgationref03_begins.calls tx e (⟨#[32]⟩ : ByteArray) true _ F9.out).mono ?_); rintro e9 w9 ⟨rfl, hd9⟩; have ST1 := Az.mk (NmS.below ST.out hd9.below); clear hd9 ST; have ST := ST1; clear ST1)
        | (go_at_call 79; (with_reducible refine (virgationref03_number.calls K tx c x.f1 d true _ F11.out).mono ?_); rintro e9 w9 ⟨rfl, hd9⟩; have ST1 := Az.mk (NmS.below ST.out hd9.below); clear hd9 ST; have ST := ST1; clear ST1)
        | (go_at_call 63; (with_reducible refine (virgationref03_begins.calls tx d (⟨#[10]⟩ : ByteArray) true _ F12.out).mono ?_); rintro e9 w9 ⟨rfl, hd9⟩; have ST1 := Az.mk (NmS.below ST.out hd9.below); clear hd9 ST; have ST := ST1; clear ST1; have c50 : w9.cell? ⟨g5, 0, none⟩ = some (.slice A0 dn.length c0) := (blk_cell ST.out.2.2.2.1 0).trans rfl))
      go_wp2_with (at_builtin; refine holdX ?_)
      unfold HoldX
      clear c50 q0 q1 q2 q3 q4 q5 f2 f10
      refine Kd.R_append k87 (w0 := w) w.heap.size rfl (.tmp 58) (.tmp 62) 22 87 (.agg #[.string ⟨#[]⟩, .int .i64 0]) 24 rfl Try.underlying22 (by kernel_rfl) rfl (by decide) (by omega) (.slice A0 dn.length c0) dn x [.string (tx.extract b.toNat e.toNat), .int .i64 x.f1] (fun _ => True) (fun _ => False) rfl rfl (by rw [← F7.out]; exact k87_mkM _ _ _ x) (fun _ hk => hk.elim) (fun _ _ => trivial) ST.out.1 ST.out.2.2.2.2.2.1 ST.out.2.2.2.2.2.1.size (by have := HL1.out; rw [HDN.out, List.length_append, List.length_cons] at this; omega) ?_
      intro v2 w7 hrf hb7 hg7 hat
      obtain ⟨A5, c5, e5⟩ := Kd.R_slice hrf
      have hdl : (dn ++ [x]).length = dn.length + 1 := by rw [List.length_append]; rfl
      rw [hdl] at e5
      subst e5
      obtain ⟨r1, r2, r3, s5, s2, hb, hG2, hG5, h25⟩ := ST.out
      have tf := Kd.R_typed r1
      have s57 := grownT s5 hg7 (fun k hk => by obtain ⟨c, hc⟩ := tf k hk; exact ⟨87, c, by decide, hc⟩)
      have s27 := grownT s2 hg7 (fun k hk => by obtain ⟨c, hc⟩ := tf k hk; exact ⟨87, c, by decide, hc⟩)
      have ST7 := Az.mk (show NmS w g2 g5 A5 c5 none 0 none 0 (dn ++ [x]) [] [] (w7.setCell ⟨g5, 0, none⟩ (.slice A5 (dn.length + 1) c5)) from by
        unfold NmS
        rw [hdl]
        exact ⟨Kd.R_set hrf s57 (by decide) 0 _, Kd.R_nil _ _ _ _ _, Kd.R_nil _ _ _ _ _, blk_put s57 0 _ rfl, blk_far (p := ⟨g5, 0, none⟩) s27 (fun he => h25 he) _, bset hb7 hG5, hG2, hG5, h25⟩)
      have m7 : w7.cell? ⟨g5, 0, none⟩ = some (.slice A0 dn.length c0) := (blk_cell s57 0).trans rfl
      have fz7 := bkF s57 0
      clear hrf hb7 hg7 hat r1 r2 r3 s5 s2 hb hG2 hG5 h25 tf s57 s27 hdl ST
      go_wp2_with fail
      have HDN2 := Az.mk (show sy = (dn ++ [x]) ++ rs from by rw [HDN.out, List.append_assoc]; rfl)
      go_roundg rs.length
      case measure => have := HK.out; rw [List.length_cons] at this; omega
      case rel => exact ⟨m, dn ++ [x], rs, A5, c5, by first | rfl | (simp; done) | (simp [*]; done), ⟨rfl⟩, HDN2, HRS2, ST7⟩
end Go.Proofs.Ytnfgpepggehegaa.I
namespace Go.Proofs.Ytnfgpepggehegaa.I
open Go.RowKit Go.Proofs.YtnfgpepggehegaaW.PrintWords Go.Proofs.YtnfgpepggehegaaW.PrintLast Go.Proofs.YtnfgpepggehegaaW.PrintMore
attribute [local go_sem] max2_int min2_int max_two min_two max_three min_three max_four min_four
set_option linter.unusedVariables false
set_option maxRecDepth 100000
set_option linter.unusedSimpArgs false
set_option maxHeartbeats 8000000 in
theorem index_sym (A0 : Option Addr) (c0 : Nat) (sy : List S87) (A1 : Option Addr) (c1 : Nat) (fu : List S84) (nm : ByteArray) (n : Nat) (w : World) (hr0 : Kd.C k87 w A0 sy.length sy) (hr1 : Kd.C k84 w A1 fu.length fu) (hn : n < sy.length) (hne : ∀ j : Nat, j < n → ((rd_T87 sy (j : Int)).f0.toList == nm.toList) = false) (heq : ((rd_T87 sy (n : Int)).f0.toList == nm.toList) = true) :
    Calls Try.prog 88 #[.agg #[.slice A0 sy.length c0, .slice A1 fu.length c1], .bool true, .string nm] w fun e w' => e = .returned (.int .i64 (n : Int)) ∧ Below w.heap.size w w' := by
  have hu25 := Try.underlying25
  have hu84 := Try.underlying84
  have hu87 := Try.underlying87
  have hlen : sy.length ≤ 9223372036854775807 := hr0.2.1
  have HR := Az.mk hr0
  have HNE := Az.mk hne
  have HEQ := Az.mk heq
  have HN := Az.mk hn
  clear hr0 hr1 hne heq hn
  go_enter Try.func88, Try.ntmps88
  go_wp2_with (
    ((with_reducible refine gate_dst (N := 3) rfl ?_)
     refine box_event ?hg (N := 3) ?hd (cs := #[.slice A0 sy.length c0, .slice A1 fu.length c1]) (t := 25) ?hr ?_
     (case hd => rfl)
     (case hg => rfl)
     (case hr => first | (go_simp; done) | (go_simp; rfl))
     intro g3 hg_g3 w2 hbox hbb
     have S3 := Az.mk hbox
     have HB2 := Az.mk hbb
     have e0 : w2.cell? ⟨g3, 0, none⟩ = some (.slice A0 sy.length c0) := (blk_cell hbox 0).trans rfl
     have e1 : w2.cell? ⟨g3, 1, none⟩ = some (.slice A1 fu.length c1) := (blk_cell hbox 1).trans rfl
     clear hbox hbb hg_g3))
  clear e0 e1
  go_loopg [7] n (fun kq v7 wr => ∃ i : Nat, v7 = .int .i64 (i : Int) ∧ Az (i + kq = n) ∧ Az (Below w2.heap.size w2 wr))
  case atStart => exact ⟨0, rfl, ⟨by omega⟩, ⟨Below.refl _ _⟩⟩
  case round =>
    obtain ⟨i, rfl, Hi, HB⟩ := hrel
    have HBw := Az.mk (bst HB2.out HB.out)
    have hi := Hi.out
    have hn := HN.out
    obtain ⟨ad, he, hx0, hx1⟩ := at_T87 (Kd.C_below HR.out HBw.out) (i : Int) (by omega) (by omega)
    subst he
    rw [Int.toNat_natCast] at hx0
    have S3w := Az.mk (bkB S3.out HB.out)
    have e0 : wr.cell? ⟨g3, 0, none⟩ = some (.slice (some ad) sy.length c0) := (blk_cell S3w.out 0).trans rfl
    have e1 : wr.cell? ⟨g3, 1, none⟩ = some (.slice A1 fu.length c1) := (blk_cell S3w.out 1).trans rfl
    have q1 : (0 ≤ (i : Int)) = True := eq_true (by omega)
    have q2 : ((i : Int) < (sy.length : Int)) = True := eq_true (by omega)
    have q3 : (i < sy.length) = True := eq_true (by omega)
    clear hx1
    cases gk with
    | zero =>
      have hin : i = n := by omega
      subst hin
      have hq := HEQ.out
      generalize (rd_T87 sy (i : Int)).f0 = y at *
      go_wp2_with fail
      go_ret
      exact ⟨rfl, HBw.out⟩
    | succ k1 =>
      have hq := HNE.out i (by omega)
      generalize (rd_T87 sy (i : Int)).f0 = y at *
      go_wp2_with fail
      go_roundg k1
      case measure => omega
      case rel => exact ⟨i + 1, by first | rfl | (refine congrArg _ ?_; unfold wrap64; omega), ⟨by omega⟩, HB⟩
set_option maxHeartbeats 8000000 in
theorem index_fun (A0 : Option Addr) (c0 : Nat) (sy : List S87) (A1 : Option Addr) (c1 : Nat) (fu : List S84) (nm : ByteArray) (n : Nat) (w : World) (hr0 : Kd.C k87 w A0 sy.length sy) (hr1 : Kd.C k84 w A1 fu.length fu) (hn : n < fu.length) (hne : ∀ j : Nat, j < n → ((rd_T84 fu (j : Int)).f0.toList == nm.toList) = false) (heq : ((rd_T84 fu (n : Int)).f0.toList == nm.toList) = true) :
    Calls Try.prog 88 #[.agg #[.slice A0 sy.length c0, .slice A1 fu.length c1], .bool false, .string nm] w fun e w' => e = .returned (.int .i64 (n : Int)) ∧ Below w.heap.size w w' := by
  have hu25 := Try.underlying25
  have hu84 := Try.underlying84
  have hu87 := Try.underlying87
  have hlen : fu.length ≤ 9223372036854775807 := hr1.2.1
  have HR := Az.mk hr1
  have HNE := Az.mk hne
  have HEQ := Az.mk heq
  have HN := Az.mk hn
  clear hr0 hr1 hne heq hn
  go_enter Try.func88, Try.ntmps88
  go_wp2_with (
    ((with_reducible refine gate_dst (N := 3) rfl ?_)
     refine box_event ?hg (N := 3) ?hd (cs := #[.slice A0 sy.length c0, .slice A1 fu.length c1]) (t := 25) ?hr ?_
     (case hd => rfl)
     (case hg => rfl)
     (case hr => first | (go_simp; done) | (go_simp; rfl))
     intro g3 hg_g3 w2 hbox hbb
     have S3 := Az.mk hbox
     have HB2 := Az.mk hbb
     have e0 : w2.cell? ⟨g3, 0, none⟩ = some (.slice A0 sy.length c0) := (blk_cell hbox 0).trans rfl
     have e1 : w2.cell? ⟨g3, 1, none⟩ = some (.slice A1 fu.length c1) := (blk_cell hbox 1).trans rfl
     clear hbox hbb hg_g3))
  clear e0 e1
  go_loopg [7] 0 (fun kq v7 wr => v7 = .int .i64 0 ∧ Az (Below w2.heap.size w2 wr))
  case atStart => exact ⟨rfl, ⟨Below.refl _ _⟩⟩
  case round =>
  obtain ⟨rfl, HB0⟩ := hrel
  obtain ⟨w3, hw3⟩ : ∃ w3, w3 = wr := ⟨_, rfl⟩
  subst hw3
  go_wp2_with fail
  go_loopg [8] n (fun kq v8 wr => ∃ i : Nat, v8 = .int .i64 (i : Int) ∧ Az (i + kq = n) ∧ Az (Below w2.heap.size w2 wr))
  case atStart => exact ⟨0, rfl, ⟨by omega⟩, HB0⟩
  case round =>
    obtain ⟨i, rfl, Hi, HB⟩ := hrel
    have HBw := Az.mk (bst HB2.out HB.out)
    have hi := Hi.out
    have hn := HN.out
    obtain ⟨ad, A3, c3, A4, c4, he, hx0, hx1, hx2, hx3, hx4, hl3, hC3, hl4, hC4⟩ := at_T84 (Kd.C_below HR.out HBw.out) (i : Int) (by omega) (by omega)
    subst he
    rw [Int.toNat_natCast] at hx0
    have S3w := Az.mk (bkB S3.out HB.out)
    have e0 : wr.cell? ⟨g3, 0, none⟩ = some (.slice A0 sy.length c0) := (blk_cell S3w.out 0).trans rfl
    have e1 : wr.cell? ⟨g3, 1, none⟩ = some (.slice (some ad) fu.length c1) := (blk_cell S3w.out 1).trans rfl
    have q1 : (0 ≤ (i : Int)) = True := eq_true (by omega)
    have q2 : ((i : Int) < (fu.length : Int)) = True := eq_true (by omega)
    have q3 : (i < fu.length) = True := eq_true (by omega)
    clear hx1 hx2 hx3 hx4 hl3 hC3 hl4 hC4
    cases gk with
    | zero =>
      have hin : i = n := by omega
      subst hin
      have hq := HEQ.out
      generalize (rd_T84 fu (i : Int)).f0 = y at *
      go_wp2_with fail
      go_ret
      exact ⟨rfl, HBw.out⟩
    | succ k1 =>
      have hq := HNE.out i (by omega)
      generalize (rd_T84 fu (i : Int)).f0 = y at *
      go_wp2_with fail
      go_roundg k1
      case measure => omega
      case rel => exact ⟨i + 1, by first | rfl | (refine congrArg _ ?_; unfold wrap64; omega), ⟨by omega⟩, HB⟩
end Go.Proofs.Ytnfgpepggehegaa.I
namespace Go.Proofs.Ytnfgpepggehegaa.I
open Go.RowKit Go.Proofs.YtnfgpepggehegaaW.PrintWords Go.Proofs.YtnfgpepggehegaaW.PrintLast Go.Proofs.YtnfgpepggehegaaW.PrintMore
theorem blk_set3 {w : World} {g : Nat} {t : TypeId} {a b d : Value} (h : w.heap[g]? = some (.cells #[a, b, d] t (0, 0))) (a' b' d' : Value) : (((w.setCell ⟨g, 0, none⟩ a').setCell ⟨g, 1, none⟩ b').setCell ⟨g, 2, none⟩ d').heap[g]? = some (.cells #[a', b', d'] t (0, 0)) :=
  blk_put (cs' := #[a', b', d']) (blk_put (cs' := #[a', b', d]) (blk_put (cs' := #[a', b, d]) h 0 a' rfl) 1 b' rfl) 2 d' rfl
theorem blk_far3 {w : World} {g g' : Nat} {t : TypeId} {cs : Array Value} (h : w.heap[g]? = some (.cells cs t (0, 0))) (hg : g ≠ g') (a' b' d' : Value) : (((w.setCell ⟨g', 0, none⟩ a').setCell ⟨g', 1, none⟩ b').setCell ⟨g', 2, none⟩ d').heap[g]? = some (.cells cs t (0, 0)) :=
  blk_far (p := ⟨g', 2, none⟩) (blk_far (p := ⟨g', 1, none⟩) (blk_far (p := ⟨g', 0, none⟩) h hg a') hg b') hg d'
theorem below_set3 {w0 w : World} {g : Nat} (h : Below w0.heap.size w0 w) (hg : w0.heap.size ≤ g) (a' b' d' : Value) : Below w0.heap.size w0 (((w.setCell ⟨g, 0, none⟩ a').setCell ⟨g, 1, none⟩ b').setCell ⟨g, 2, none⟩ d') := bset (bset (bset h hg) hg) hg
end Go.Proofs.Ytnfgpepggehegaa.I
namespace Go.Proofs.Ytnfgpepggehegaa.I
open Go.RowKit Go.Proofs.YtnfgpepggehegaaW.PrintWords Go.Proofs.YtnfgpepggehegaaW.PrintLast Go.Proofs.YtnfgpepggehegaaW.PrintMore
attribute [local go_sem] max2_int min2_int max_two min_two max_three min_three max_four min_four
set_option linter.unusedVariables false
set_option maxRecDepth 100000
set_option linter.unusedSimpArgs false
set_option maxHeartbeats 8000000 in
theorem head_var (K : Nat) (tx : ByteArray) (A0 : Option Addr) (c0 : Nat) (sy : List S87) (A1 : Option Addr) (c1 : Nat) (fu : List S84) (a b a2 : Int) (n : Int) (w : World) (hr0 : Kd.C k87 w A0 sy.length sy) (hr1 : Kd.C k84 w A1 fu.length fu) (h1 : virgationref03_begins.f tx a (⟨#[36]⟩ : ByteArray) = some true) (h2 : wrap64 (a + 1) = b) (h3 : virgationref03_number.f K tx b = some (n, a2, true)) :
    Calls Try.prog 81 #[.agg #[.slice A0 sy.length c0, .slice A1 fu.length c1], .string tx, .int .i64 a] w fun e w' => e = .returned (.tuple #[.agg #[.int .i64 0, .int .i64 n, .slice none 0 0], .int .i64 a2, .bool true]) ∧ Below w.heap.size w w' := by
  have hu25 := Try.underlying25
  have hu28 := Try.underlying28
  have H1 := Az.mk h1
  have H3 := Az.mk h3
  have h2w : IntKind.i64.wrap (a + 1) = b := (i64_w _).trans h2
  clear hr0 hr1 h1 h3
  go_enter Try.func81, Try.ntmps81
  go_upto_region 1 with (first
    | ((with_reducible refine gate_dst (N := 3) rfl ?_)
       refine box_event ?hg (N := 3) ?hd (cs := #[.slice A0 sy.length c0, .slice A1 fu.length c1]) (t := 25) ?hr ?_
       (case hd => rfl)
       (case hg => rfl)
       (case hr => first | (go_simp; done) | (go_simp; rfl))
       intro g3 hg_g3 w2 hbox hbb
       have S32 := Az.mk hbox
       have HB2 := Az.mk hbb
       clear hbox hbb hg_g3)
    | ((with_reducible refine gate_dst (N := 6) rfl ?_)
       refine box_event ?hg (N := 6) ?hd (cs := #[.int .i64 0, .int .i64 0, .slice none 0 0]) (t := 28) ?hr ?_
       (case hd => rfl)
       (case hg => rfl)
       (case hr => first | (go_simp; done) | (go_simp; rfl))
       intro g6 hg_g6 w3 hbox hbb
       have S3 := Az.mk (bkB S32.out hbb)
       have S6 := Az.mk hbox
       have HB3 := Az.mk (bst HB2.out hbb)
       have HG6 := Az.mk (show w.heap.size ≤ g6 from by have := HB2.out.size; omega)
       clear S32 HB2
       clear hbox hbb hg_g6))
  go_upto_region 2 with (
    go_at_call 63
    (with_reducible refine (virgationref03_begins.calls tx a (⟨#[36]⟩ : ByteArray) true w3 H1.out).mono ?_)
    rintro e9 w4 ⟨rfl, hd9⟩
    have HB4 := Az.mk (bst HB3.out hd9.below)
    have S64 := Az.mk (bkB S6.out hd9.below)
    clear hd9
    skip)
  go_upto_region 3 with (
    go_at_call 79
    (with_reducible refine (virgationref03_number.calls K tx b n a2 true w4 H3.out).mono ?_)
    rintro e9 w5 ⟨rfl, hd9⟩
    have HB5 := Az.mk (bst HB4.out hd9.below)
    have S65 := Az.mk (bkB S64.out hd9.below)
    clear hd9
    skip)
  have z0 : w5.cell? ⟨g6, 0, none⟩ = some (.int .i64 0) := (blk_cell S65.out 0).trans rfl
  have z1 : w5.cell? ⟨g6, 1, none⟩ = some (.int .i64 0) := (blk_cell S65.out 1).trans rfl
  have z2 : w5.cell? ⟨g6, 2, none⟩ = some (.slice none 0 0) := (blk_cell S65.out 2).trans rfl
  have f0 := bkF S65.out 0
  have f1 := bkF S65.out 1
  have f2 := bkF S65.out 2
  go_wp2_with fail
  refine bodyPost_ret (results_ctt rfl _ _ g6 28 #[.int .i64 0, .int .i64 n, .slice none 0 0] (0, 0) _ rfl (blk_set3 S65.out _ _ _) Try.underlying28 rfl (by kernel_rfl)) rfl ?_
  exact ⟨rfl, below_set3 HB5.out HG6.out _ _ _⟩
set_option maxHeartbeats 8000000 in
theorem head_sym (K : Nat) (tx : ByteArray) (A0 : Option Addr) (c0 : Nat) (sy : List S87) (A1 : Option Addr) (c1 : Nat) (fu : List S84) (a b a2 : Int) (n : Nat) (w : World) (hr0 : Kd.C k87 w A0 sy.length sy) (hr1 : Kd.C k84 w A1 fu.length fu) (h1 : virgationref03_begins.f tx a (⟨#[36]⟩ : ByteArray) = some false) (h2 : virgationref03_begins.f tx a (⟨#[35]⟩ : ByteArray) = some true) (h3 : wrap64 (a + 1) = b) (h4 : virgationref03_word.f K tx b = some a2) (h5 : 0 ≤ b ∧ b ≤ a2 ∧ a2 ≤ (tx.size : Int)) (hn : n < sy.length) (hne : ∀ j : Nat, j < n → ((rd_T87 sy (j : Int)).f0.toList == (tx.extract b.toNat a2.toNat).toList) = false) (heq : ((rd_T87 sy (n : Int)).f0.toList == (tx.extract b.toNat a2.toNat).toList) = true) :
    Calls Try.prog 81 #[.agg #[.slice A0 sy.length c0, .slice A1 fu.length c1], .string tx, .int .i64 a] w fun e w' => e = .returned (.tuple #[.agg #[.int .i64 2, .int .i64 (n : Int), .slice none 0 0], .int .i64 a2, .bool true]) ∧ Below w.heap.size w w' := by
  have hu25 := Try.underlying25
  have hu28 := Try.underlying28
  have H1 := Az.mk h1
  have H2 := Az.mk h2
  have H4 := Az.mk h4
  have h3w : IntKind.i64.wrap (a + 1) = b := (i64_w _).trans h3
  have HIX := Az.mk (fun (w' : World) (hb : Below w.heap.size w w') => index_sym A0 c0 sy A1 c1 fu (tx.extract b.toNat a2.toNat) n w' (Kd.C_below hr0 hb) (Kd.C_below hr1 hb) hn hne heq)
  obtain ⟨g1, g2, g3⟩ := h5
  have v0 : ((n : Int) ≥ 0) = True := eq_true (by omega)
  have v1 : (0 ≤ (n : Int)) = True := eq_true (by omega)
  have v2 : ((n : Int) < 0) = False := eq_false (by omega)
  clear hr0 hr1 h1 h2 h4 hn hne heq
  go_enter Try.func81, Try.ntmps81
  go_upto_region 1 with (first
    | ((with_reducible refine gate_dst (N := 3) rfl ?_)
       refine box_event ?hg (N := 3) ?hd (cs := #[.slice A0 sy.length c0, .slice A1 fu.length c1]) (t := 25) ?hr ?_
       (case hd => rfl)
       (case hg => rfl)
       (case hr => first | (go_simp; done) | (go_simp; rfl))
       intro gs hg_gs w2 hbox hbb
       have S32 := Az.mk hbox
       have HB2 := Az.mk hbb
       clear hbox hbb hg_gs)
    | ((with_reducible refine gate_dst (N := 6) rfl ?_)
       refine box_event ?hg (N := 6) ?hd (cs := #[.int .i64 0, .int .i64 0, .slice none 0 0]) (t := 28) ?hr ?_
       (case hd => rfl)
       (case hg => rfl)
       (case hr => first | (go_simp; done) | (go_simp; rfl))
       intro g6 hg_g6 w3 hbox hbb
       have S3 := Az.mk (bkB S32.out hbb)
       have S6 := Az.mk hbox
       have HB3 := Az.mk (bst HB2.out hbb)
       have HG6 := Az.mk (show w.heap.size ≤ g6 from by have := HB2.out.size; omega)
       clear S32 HB2
       clear hbox hbb hg_g6))
  go_upto_region 4 with (
    go_at_call 63
    (with_reducible refine (virgationref03_begins.calls tx a (⟨#[36]⟩ : ByteArray) false w3 H1.out).mono ?_)
    rintro e9 w4 ⟨rfl, hd9⟩
    have HB4 := Az.mk (bst HB3.out hd9.below)
    have S34 := Az.mk (bkB S3.out hd9.below)
    have S64 := Az.mk (bkB S6.out hd9.below)
    clear hd9
    skip)
  go_upto_region 9 with (
    go_at_call 63
    (with_reducible refine (virgationref03_begins.calls tx a (⟨#[35]⟩ : ByteArray) true w4 H2.out).mono ?_)
    rintro e9 w5 ⟨rfl, hd9⟩
    have HB5 := Az.mk (bst HB4.out hd9.below)
    have S35 := Az.mk (bkB S34.out hd9.below)
    have S65 := Az.mk (bkB S64.out hd9.below)
    clear hd9
    skip)
  go_upto_region 10 with (
    go_at_call 78
    (with_reducible refine (virgationref03_word.calls K tx b a2 w5 H4.out).mono ?_)
    rintro e9 w6 ⟨rfl, hd9⟩
    have HB6 := Az.mk (bst HB5.out hd9.below)
    have S36 := Az.mk (bkB S35.out hd9.below)
    have S66 := Az.mk (bkB S65.out hd9.below)
    clear hd9
    skip)
  have q0 := eq_true g1
  have q1 : decide (0 ≤ b) = true := decide_eq_true g1
  have q2 := eq_true g2
  have q3 : decide (b ≤ a2) = true := decide_eq_true g2
  have q4 := eq_true g3
  have q5 : decide (a2 ≤ (tx.size : Int)) = true := decide_eq_true g3
  have e0 : w6.cell? ⟨gs, 0, none⟩ = some (.slice A0 sy.length c0) := (blk_cell S36.out 0).trans rfl
  have e1 : w6.cell? ⟨gs, 1, none⟩ = some (.slice A1 fu.length c1) := (blk_cell S36.out 1).trans rfl
  go_region_held3 (fun w' => w'.cell? ⟨gs, 0, none⟩ = some (.slice A0 sy.length c0) ∧ w'.cell? ⟨gs, 1, none⟩ = some (.slice A1 fu.length c1)) (go_keep)
    (first
      | (go_at_call 88
         (with_reducible refine (HIX.out w6.drew (below_drew HB6.out)).mono ?_)
         rintro e9 wA ⟨rfl, hbA⟩
         have HBA := Az.mk (bst (below_drew HB6.out) hbA)
         have S6A := Az.mk (bkB (blk_drew S66.out) hbA)
         have p0 := cell_up hbA (show w6.drew.cell? _ = _ from e0)
         have p1 := cell_up hbA (show w6.drew.cell? _ = _ from e1)
         clear hbA))
  all_goals (
    clear e0 e1 p0 p1
    have z0 : wA.cell? ⟨g6, 0, none⟩ = some (.int .i64 0) := (blk_cell S6A.out 0).trans rfl
    have z1 : wA.cell? ⟨g6, 1, none⟩ = some (.int .i64 0) := (blk_cell S6A.out 1).trans rfl
    have z2 : wA.cell? ⟨g6, 2, none⟩ = some (.slice none 0 0) := (blk_cell S6A.out 2).trans rfl
    have f0 := bkF S6A.out 0
    have f1 := bkF S6A.out 1
    have f2 := bkF S6A.out 2
    go_wp2_with fail
    refine bodyPost_ret (results_ctt rfl _ _ g6 28 #[.int .i64 2, .int .i64 (n : Int), .slice none 0 0] (0, 0) _ rfl (blk_set3 S6A.out _ _ _) Try.underlying28 rfl (by kernel_rfl)) rfl ?_
    exact ⟨rfl, below_set3 HBA.out HG6.out _ _ _⟩)
set_option maxHeartbeats 8000000 in
theorem head_fun (K : Nat) (tx : ByteArray) (A0 : Option Addr) (c0 : Nat) (sy : List S87) (A1 : Option Addr) (c1 : Nat) (fu : List S84) (a b a2 : Int) (n : Nat) (w : World) (hr0 : Kd.C k87 w A0 sy.length sy) (hr1 : Kd.C k84 w A1 fu.length fu) (h1 : virgationref03_begins.f tx a (⟨#[36]⟩ : ByteArray) = some false) (h2 : virgationref03_begins.f tx a (⟨#[35]⟩ : ByteArray) = some false) (h3 : a = b) (h4 : virgationref03_word.f K tx b = some a2) (h5 : 0 ≤ b ∧ b ≤ a2 ∧ a2 ≤ (tx.size : Int)) (hn : n < fu.length) (hne : ∀ j : Nat, j < n → ((rd_T84 fu (j : Int)).f0.toList == (tx.extract b.toNat a2.toNat).toList) = false) (heq : ((rd_T84 fu (n : Int)).f0.toList == (tx.extract b.toNat a2.toNat).toList) = true) :
    Calls Try.prog 81 #[.agg #[.slice A0 sy.length c0, .slice A1 fu.length c1], .string tx, .int .i64 a] w fun e w' => e = .returned (.tuple #[.agg #[.int .i64 1, .int .i64 (n : Int), .slice none 0 0], .int .i64 a2, .bool true]) ∧ Below w.heap.size w w' := by
  have hu25 := Try.underlying25
  have hu28 := Try.underlying28
  have H1 := Az.mk h1
  have H2 := Az.mk h2
  have H4 := Az.mk h4
  have HIX := Az.mk (fun (w' : World) (hb : Below w.heap.size w w') => index_fun A0 c0 sy A1 c1 fu (tx.extract b.toNat a2.toNat) n w' (Kd.C_below hr0 hb) (Kd.C_below hr1 hb) hn hne heq)
  subst h3
  obtain ⟨g1, g2, g3⟩ := h5
  have v0 : ((n : Int) ≥ 0) = True := eq_true (by omega)
  have v1 : (0 ≤ (n : Int)) = True := eq_true (by omega)
  have v2 : ((n : Int) < 0) = False := eq_false (by omega)
  clear hr0 hr1 h1 h2 h4 hn hne heq
  go_enter Try.func81, Try.ntmps81
  go_upto_region 1 with (first
    | ((with_reducible refine gate_dst (N := 3) rfl ?_)
       refine box_event ?hg (N := 3) ?hd (cs := #[.slice A0 sy.length c0, .slice A1 fu.length c1]) (t := 25) ?hr ?_
       (case hd => rfl)
       (case hg => rfl)
       (case hr => first | (go_simp; done) | (go_simp; rfl))
       intro gs hg_gs w2 hbox hbb
       have S32 := Az.mk hbox
       have HB2 := Az.mk hbb
       clear hbox hbb hg_gs)
    | ((with_reducible refine gate_dst (N := 6) rfl ?_)
       refine box_event ?hg (N := 6) ?hd (cs := #[.int .i64 0, .int .i64 0, .slice none 0 0]) (t := 28) ?hr ?_
       (case hd => rfl)
       (case hg => rfl)
       (case hr => first | (go_simp; done) | (go_simp; rfl))
       intro g6 hg_g6 w3 hbox hbb
       have S3 := Az.mk (bkB S32.out hbb)
       have S6 := Az.mk hbox
       have HB3 := Az.mk (bst HB2.out hbb)
       have HG6 := Az.mk (show w.heap.size ≤ g6 from by have := HB2.out.size; omega)
       clear S32 HB2
       clear hbox hbb hg_g6))
  go_upto_region 4 with (
    go_at_call 63
    (with_reducible refine (virgationref03_begins.calls tx a (⟨#[36]⟩ : ByteArray) false w3 H1.out).mono ?_)
    rintro e9 w4 ⟨rfl, hd9⟩
    have HB4 := Az.mk (bst HB3.out hd9.below)
    have S34 := Az.mk (bkB S3.out hd9.below)
    have S64 := Az.mk (bkB S6.out hd9.below)
    clear hd9
    skip)
  go_upto_region 9 with (
    go_at_call 63
    (with_reducible refine (virgationref03_begins.calls tx a (⟨#[35]⟩ : ByteArray) false w4 H2.out).mono ?_)
    rintro e9 w5 ⟨rfl, hd9⟩
    have HB5 := Az.mk (bst HB4.out hd9.below)
    have S35 := Az.mk (bkB S34.out hd9.below)
    have S65 := Az.mk (bkB S64.out hd9.below)
    clear hd9
    skip)
  go_upto_region 10 with (
    go_at_call 78
    (with_reducible refine (virgationref03_word.calls K tx a a2 w5 H4.out).mono ?_)
    rintro e9 w6 ⟨rfl, hd9⟩
    have HB6 := Az.mk (bst HB5.out hd9.below)
    have S36 := Az.mk (bkB S35.out hd9.below)
    have S66 := Az.mk (bkB S65.out hd9.below)
    clear hd9
    skip)
  have q0 := eq_true g1
  have q1 : decide (0 ≤ a) = true := decide_eq_true g1
  have q2 := eq_true g2
  have q3 : decide (a ≤ a2) = true := decide_eq_true g2
  have q4 := eq_true g3
  have q5 : decide (a2 ≤ (tx.size : Int)) = true := decide_eq_true g3
  have e0 : w6.cell? ⟨gs, 0, none⟩ = some (.slice A0 sy.length c0) := (blk_cell S36.out 0).trans rfl
  have e1 : w6.cell? ⟨gs, 1, none⟩ = some (.slice A1 fu.length c1) := (blk_cell S36.out 1).trans rfl
  go_region_held3 (fun w' => w'.cell? ⟨gs, 0, none⟩ = some (.slice A0 sy.length c0) ∧ w'.cell? ⟨gs, 1, none⟩ = some (.slice A1 fu.length c1)) (go_keep)
    (first
      | (go_at_call 88
         (with_reducible refine (HIX.out w6.drew (below_drew HB6.out)).mono ?_)
         rintro e9 wA ⟨rfl, hbA⟩
         have HBA := Az.mk (bst (below_drew HB6.out) hbA)
         have S6A := Az.mk (bkB (blk_drew S66.out) hbA)
         have p0 := cell_up hbA (show w6.drew.cell? _ = _ from e0)
         have p1 := cell_up hbA (show w6.drew.cell? _ = _ from e1)
         clear hbA))
  all_goals (
    clear e0 e1 p0 p1
    have z0 : wA.cell? ⟨g6, 0, none⟩ = some (.int .i64 0) := (blk_cell S6A.out 0).trans rfl
    have z1 : wA.cell? ⟨g6, 1, none⟩ = some (.int .i64 0) := (blk_cell S6A.out 1).trans rfl
    have z2 : wA.cell? ⟨g6, 2, none⟩ = some (.slice none 0 0) := (blk_cell S6A.out 2).trans rfl
    have f0 := bkF S6A.out 0
    have f1 := bkF S6A.out 1
    have f2 := bkF S6A.out 2
    go_wp2_with fail
    refine bodyPost_ret (results_ctt rfl _ _ g6 28 #[.int .i64 1, .int .i64 (n : Int), .slice none 0 0] (0, 0) _ rfl (blk_set3 S6A.out _ _ _) Try.underlying28 rfl (by kernel_rfl)) rfl ?_
    exact ⟨rfl, below_set3 HBA.out HG6.out _ _ _⟩)
end Go.Proofs.Ytnfgpepggehegaa.I
namespace Go.Proofs.Ytnfgpepggehegaa.I
open Go.RowKit Go.Proofs.YtnfgpepggehegaaW.PrintWords Go.Proofs.YtnfgpepggehegaaW.PrintLast Go.Proofs.YtnfgpepggehegaaW.PrintMore
attribute [local go_sem] max2_int min2_int max_two min_two max_three min_three max_four min_four
set_option linter.unusedVariables false
set_option maxRecDepth 100000
set_option linter.unusedSimpArgs false
def PHead (K : Nat) (tx : ByteArray) (sy : List S87) (fu : List S84) (a k n a2 : Int) : Prop :=
  (virgationref03_begins.f tx a (⟨#[36]⟩ : ByteArray) = some true ∧ k = 0 ∧ ∃ b, wrap64 (a + 1) = b ∧ virgationref03_number.f K tx b = some (n, a2, true)) ∨
  (virgationref03_begins.f tx a (⟨#[36]⟩ : ByteArray) = some false ∧ virgationref03_begins.f tx a (⟨#[35]⟩ : ByteArray) = some true ∧ k = 2 ∧ ∃ (b : Int) (m : Nat), wrap64 (a + 1) = b ∧ n = (m : Int) ∧ virgationref03_word.f K tx b = some a2 ∧ (0 ≤ b ∧ b ≤ a2 ∧ a2 ≤ (tx.size : Int)) ∧ m < sy.length ∧ (∀ j : Nat, j < m → ((rd_T87 sy (j : Int)).f0.toList == (tx.extract b.toNat a2.toNat).toList) = false) ∧ ((rd_T87 sy (m : Int)).f0.toList == (tx.extract b.toNat a2.toNat).toList) = true) ∨
  (virgationref03_begins.f tx a (⟨#[36]⟩ : ByteArray) = some false ∧ virgationref03_begins.f tx a (⟨#[35]⟩ : ByteArray) = some false ∧ k = 1 ∧ ∃ (b : Int) (m : Nat), a = b ∧ n = (m : Int) ∧ virgationref03_word.f K tx b = some a2 ∧ (0 ≤ b ∧ b ≤ a2 ∧ a2 ≤ (tx.size : Int)) ∧ m < fu.length ∧ (∀ j : Nat, j < m → ((rd_T84 fu (j : Int)).f0.toList == (tx.extract b.toNat a2.toNat).toList) = false) ∧ ((rd_T84 fu (m : Int)).f0.toList == (tx.extract b.toNat a2.toNat).toList) = true)
theorem tmhead_calls (K : Nat) (tx : ByteArray) (A0 : Option Addr) (c0 : Nat) (sy : List S87) (A1 : Option Addr) (c1 : Nat) (fu : List S84) (a k n a2 : Int) (w : World) (hr0 : Kd.C k87 w A0 sy.length sy) (hr1 : Kd.C k84 w A1 fu.length fu) (h : PHead K tx sy fu a k n a2) :
    Calls Try.prog 81 #[.agg #[.slice A0 sy.length c0, .slice A1 fu.length c1], .string tx, .int .i64 a] w fun e w' => e = .returned (.tuple #[.agg #[.int .i64 k, .int .i64 n, .slice none 0 0], .int .i64 a2, .bool true]) ∧ Below w.heap.size w w' := by
  rcases h with ⟨h1, rfl, b, h2, h3⟩ | ⟨h1, h2, rfl, b, m, h3, rfl, h4, h5, h6, h7, h8⟩ | ⟨h1, h2, rfl, b, m, h3, rfl, h4, h5, h6, h7, h8⟩
  · exact head_var K tx A0 c0 sy A1 c1 fu a b a2 n w hr0 hr1 h1 h2 h3
  · exact head_sym K tx A0 c0 sy A1 c1 fu a b a2 m w hr0 hr1 h1 h2 h3 h4 h5 h6 h7 h8
  · exact head_fun K tx A0 c0 sy A1 c1 fu a b a2 m w hr0 hr1 h1 h2 h3 h4 h5 h6 h7 h8
def PTail (K : Nat) (tx : ByteArray) (sy : List S87) (fu : List S84) : Nat → Int → List S28 → Int → Prop
  | 0, _, _, _ => False
  | N + 1, a, [], a2 => virgationref03_begins.f tx a (⟨#[32]⟩ : ByteArray) = some false ∧ a2 = a
  | N + 1, a, x :: xs, a2 => virgationref03_begins.f tx a (⟨#[32]⟩ : ByteArray) = some true ∧
      ((virgationref03_begins.f tx a (⟨#[32, 40]⟩ : ByteArray) = some true ∧ ∃ c b0 b d, wrap64 (a + 2) = c ∧ PHead K tx sy fu c x.f0 x.f1 b0 ∧ PTail K tx sy fu N b0 x.f2 b ∧ 0 < x.f2.length ∧ virgationref03_begins.f tx b (⟨#[41]⟩ : ByteArray) = some true ∧ wrap64 (b + 1) = d ∧ PTail K tx sy fu N d xs a2) ∨
       (virgationref03_begins.f tx a (⟨#[32, 40]⟩ : ByteArray) = some false ∧ ∃ c b, wrap64 (a + 1) = c ∧ PHead K tx sy fu c x.f0 x.f1 b ∧ x.f2 = [] ∧ PTail K tx sy fu N b xs a2))
theorem PTail.len {K : Nat} {tx : ByteArray} {sy : List S87} {fu : List S84} : ∀ {N : Nat} {a : Int} {l : List S28} {a2 : Int}, PTail K tx sy fu N a l a2 → l.length < N
  | 0, _, _, _, h => by unfold PTail at h; exact h.elim
  | N + 1, a, [], a2, _ => by simp
  | N + 1, a, x :: xs, a2, h => by
    unfold PTail at h
    rcases h.2 with ⟨_, _, _, _, _, _, _, _, _, _, _, h⟩ | ⟨_, _, _, _, _, _, h⟩
    · have := PTail.len h; simp; omega
    · have := PTail.len h; simp; omega
def PS (w0 : World) (g3 g6 g9 : Nat) (A0 : Option Addr) (c0 : Nat) (sy : List S87) (A1 : Option Addr) (c1 : Nat) (fu : List S84) (k n : Int) (Ax : Option Addr) (cx : Nat) (dn : List S28) (w : World) : Prop :=
  w.heap[g3]? = some (.cells #[.slice A0 sy.length c0, .slice A1 fu.length c1] 25 (0, 0)) ∧ w.heap[g6]? = some (.cells #[.int .i64 0, .int .i64 0, .slice none 0 0] 28 (0, 0)) ∧ w.heap[g9]? = some (.cells #[.int .i64 k, .int .i64 n, .slice Ax dn.length cx] 28 (0, 0)) ∧ Kd.R k28 28 w w0.heap.size (fun k => k ≠ g6 ∧ k ≠ g9) (.slice Ax dn.length cx) dn ∧ Below w0.heap.size w0 w
theorem PS.below {w0 : World} {g3 g6 g9 : Nat} {A0 : Option Addr} {c0 : Nat} {sy : List S87} {A1 : Option Addr} {c1 : Nat} {fu : List S84} {k n : Int} {Ax : Option Addr} {cx : Nat} {dn : List S28} {w w1 : World} (h : PS w0 g3 g6 g9 A0 c0 sy A1 c1 fu k n Ax cx dn w) (hb : Below w.heap.size w w1) : PS w0 g3 g6 g9 A0 c0 sy A1 c1 fu k n Ax cx dn w1 := by
  obtain ⟨h1, h2, h3, h4, h5⟩ := h
  exact ⟨bkB h1 hb, bkB h2 hb, bkB h3 hb, Kd.R_below h4 hb, bst h5 hb⟩
set_option maxHeartbeats 16000000 in
theorem pterm_calls (K : Nat) (tx : ByteArray) (A0 : Option Addr) (c0 : Nat) (sy : List S87) (A1 : Option Addr) (c1 : Nat) (fu : List S84) (N : Nat) : ∀ (a b0 : Int) (t : S28) (a2 : Int) (w : World), N ≤ 1000 → Kd.C k87 w A0 sy.length sy → Kd.C k84 w A1 fu.length fu → PHead K tx sy fu a t.f0 t.f1 b0 → PTail K tx sy fu N b0 t.f2 a2 →
    Calls Try.prog 62 #[.agg #[.slice A0 sy.length c0, .slice A1 fu.length c1], .string tx, .int .i64 a] w fun e w' => ∃ v, e = .returned (.tuple #[.agg #[.int .i64 t.f0, .int .i64 t.f1, v], .int .i64 a2, .bool true]) ∧ Kd.R k28 28 w' w.heap.size (fun _ => True) v t.f2 ∧ Below w.heap.size w w' := by
  have hu25 := Try.underlying25
  have hu28 := Try.underlying28
  have hu26 := Try.underlying26
  induction N using Nat.strongRecOn with
  | _ N ih =>
  intro a b0 t a2 w hN hr0 hr1 hph hpt
  have HR0 := Az.mk hr0
  have HR1 := Az.mk hr1
  have HPH := Az.mk hph
  have HPT := Az.mk hpt
  have HN := Az.mk hN
  have HLT := Az.mk hpt.len
  have IH := Az.mk ih
  clear hr0 hr1 hph hpt hN ih
  go_enter Try.func62, Try.ntmps62
  go_upto_region 1 with (first
    | ((with_reducible refine gate_dst (N := 3) rfl ?_)
       refine box_event ?hg (N := 3) ?hd (cs := #[.slice A0 sy.length c0, .slice A1 fu.length c1]) (t := 25) ?hr ?_
       (case hd => rfl)
       (case hg => rfl)
       (case hr => first | (go_simp; done) | (go_simp; rfl))
       intro g3 hg_g3 w2 hbox hbb
       have S32 := Az.mk hbox
       have HB2 := Az.mk hbb
       clear hbox hbb hg_g3)
    | ((with_reducible refine gate_dst (N := 6) rfl ?_)
       refine box_event ?hg (N := 6) ?hd (cs := #[.int .i64 0, .int .i64 0, .slice none 0 0]) (t := 28) ?hr ?_
       (case hd => rfl)
       (case hg => rfl)
       (case hr => first | (go_simp; done) | (go_simp; rfl))
       intro g6 hg_g6 w3 hbox hbb
       have S3 := Az.mk (bkB S32.out hbb)
       have S6 := Az.mk hbox
       have HB3 := Az.mk (bst HB2.out hbb)
       have HG6 := Az.mk (show w.heap.size ≤ g6 from by have := HB2.out.size; omega)
       have e0 : w3.cell? ⟨g3, 0, none⟩ = some (.slice A0 sy.length c0) := (blk_cell S3.out 0).trans rfl
       have e1 : w3.cell? ⟨g3, 1, none⟩ = some (.slice A1 fu.length c1) := (blk_cell S3.out 1).trans rfl
       clear S32 HB2
       clear hbox hbb hg_g6))
  go_upto_region 2 with (first
    | (go_at_call 81
       (with_reducible refine (tmhead_calls K tx A0 c0 sy A1 c1 fu a t.f0 t.f1 b0 w3 (Kd.C_below HR0.out HB3.out) (Kd.C_below HR1.out HB3.out) HPH.out).mono ?_)
       rintro e9 w4 ⟨rfl, hb4⟩
       have HB4 := Az.mk (bst HB3.out hb4)
       have S34 := Az.mk (bkB S3.out hb4)
       have S64 := Az.mk (bkB S6.out hb4)
       clear hb4 S3 S6 HB3
       skip)
    | ((with_reducible refine gate_dst (N := 9) rfl ?_)
       refine box_event ?hg (N := 9) ?hd (cs := #[.int .i64 0, .int .i64 0, .slice none 0 0]) (t := 28) ?hr ?_
       (case hd => rfl)
       (case hg => rfl)
       (case hr => first | (go_simp; done) | (go_simp; rfl))
       intro g9 hg_g9 w5 hbox hbb
       have hgw_ := HB4.out.size
       have Hg9g := Az.mk (Nat.le_of_eq hg_g9.symm)
       have Hg9b := Az.mk (below_set3 (bst HB4.out hbb) (show w.heap.size ≤ g9 from by omega) (.int .i64 t.f0) (.int .i64 t.f1) (.slice none 0 0))
       have Hg9w := Az.mk (below_set3 hbb (Nat.le_of_eq hg_g9.symm) (.int .i64 t.f0) (.int .i64 t.f1) (.slice none 0 0))
       have Hg9s := Az.mk (blk_set3 hbox (.int .i64 t.f0) (.int .i64 t.f1) (.slice none 0 0))
       have hcz0 := (blk_cell hbox 0).trans rfl
       have hcz1 := (blk_cell hbox 1).trans rfl
       have hcz2 := (blk_cell hbox 2).trans rfl
       have hfz0 := bkF hbox 0
       have hfz1 := bkF hbox 1
       have hfz2 := bkF hbox 2
       clear hgw_
       clear hbox hbb hg_g9))
  clear hcz0 hcz1 hcz2 hfz0 hfz1 hfz2 e0 e1
  generalize (((w5.setCell ⟨g9, 0, none⟩ (.int .i64 t.f0)).setCell ⟨g9, 1, none⟩ (.int .i64 t.f1)).setCell ⟨g9, 2, none⟩ (.slice none 0 0)) = wp at *
  have HN69 := Az.mk (show g6 ≠ g9 from by have := blk_lt S64.out; have := Hg9g.out; omega)
  have HN39 := Az.mk (show g3 ≠ g9 from by have := blk_lt S34.out; have := Hg9g.out; omega)
  have HG9 := Az.mk (show w.heap.size ≤ g9 from by have := HB4.out.size; have := Hg9g.out; omega)
  have HPS := Az.mk (show PS w g3 g6 g9 A0 c0 sy A1 c1 fu t.f0 t.f1 none 0 [] wp from ⟨bkB S34.out Hg9w.out, bkB S64.out Hg9w.out, Hg9s.out, Kd.R_nil _ _ _ _ _, Hg9b.out⟩)
  have HL69 := Az.mk (show g6 < wp.heap.size ∧ g9 < wp.heap.size from ⟨blk_lt HPS.out.2.1, blk_lt HPS.out.2.2.1⟩)
  clear S34 S64 HB4 Hg9b Hg9w Hg9s Hg9g
  go_loopg [2, 10] N (fun kq v2 v10 wr => ∃ (a' : Int) (dn xs : List S28) (Ax : Option Addr) (cx : Nat), v2 = .int .i64 a' ∧ v10 = .bool true ∧ Az (kq ≤ N) ∧ Az (t.f2 = dn ++ xs) ∧ Az (PTail K tx sy fu kq a' xs a2) ∧ Az (PS w g3 g6 g9 A0 c0 sy A1 c1 fu t.f0 t.f1 Ax cx dn wr) ∧ Az (wp.heap.size ≤ wr.heap.size))
  case atStart => exact ⟨b0, [], t.f2, none, 0, rfl, rfl, ⟨Nat.le_refl _⟩, ⟨rfl⟩, HPT, HPS, ⟨Nat.le_refl _⟩⟩
  case round =>
    clear HPS HPT HPH
    obtain ⟨a', dn, xs, Ax, cx, rfl, rfl, HK, HD, HPT, HPS, HWP⟩ := hrel
    cases gk with
    | zero => have h := HPT.out; unfold PTail at h; exact h.elim
    | succ k1 =>
    cases xs with
    | nil =>
      have h := HPT.out
      unfold PTail at h
      obtain ⟨h1, rfl⟩ := h
      have H1 := Az.mk h1
      have hdn := HD.out
      rw [List.append_nil] at hdn
      clear h1 HPT HD
      go_upto_region 10 with (
        go_at_call 63
        (with_reducible refine (virgationref03_begins.calls tx a2 (⟨#[32]⟩ : ByteArray) false wr H1.out).mono ?_)
        rintro e9 w9 ⟨rfl, hd9⟩
        have HPS9 := Az.mk (HPS.out.below hd9.below)
        clear hd9
        skip)
      obtain ⟨s3, s6, s9, hR, hb⟩ := HPS9.out
      rw [← hdn] at s9 hR
      have S6 := Az.mk s6
      have S9 := Az.mk s9
      have HR := Az.mk hR
      have HB := Az.mk hb
      clear s3 s6 s9 hR hb HPS HPS9 hdn
      have m0 : w9.cell? ⟨g9, 0, none⟩ = some (.int .i64 t.f0) := (blk_cell S9.out 0).trans rfl
      have m1 : w9.cell? ⟨g9, 1, none⟩ = some (.int .i64 t.f1) := (blk_cell S9.out 1).trans rfl
      have m2 : w9.cell? ⟨g9, 2, none⟩ = some (.slice Ax t.f2.length cx) := (blk_cell S9.out 2).trans rfl
      have z0 : w9.cell? ⟨g6, 0, none⟩ = some (.int .i64 0) := (blk_cell S6.out 0).trans rfl
      have z1 : w9.cell? ⟨g6, 1, none⟩ = some (.int .i64 0) := (blk_cell S6.out 1).trans rfl
      have z2 : w9.cell? ⟨g6, 2, none⟩ = some (.slice none 0 0) := (blk_cell S6.out 2).trans rfl
      have f0 := bkF S6.out 0
      have f1 := bkF S6.out 1
      have f2 := bkF S6.out 2
      go_wp2_with fail
      refine bodyPost_ret (results_ctt rfl _ _ g6 28 #[.int .i64 t.f0, .int .i64 t.f1, .slice Ax t.f2.length cx] (0, 0) _ rfl (blk_set3 S6.out _ _ _) Try.underlying28 rfl (by kernel_rfl)) rfl ?_
      exact ⟨_, rfl, Kd.R_mono (Kd.R_far (p := ⟨g6, 2, none⟩) (Kd.R_far (p := ⟨g6, 1, none⟩) (Kd.R_far (p := ⟨g6, 0, none⟩) HR.out (fun k hk => hk.1) _) (fun k hk => hk.1) _) (fun k hk => hk.1) _) (fun _ _ => trivial), below_set3 HB.out HG6.out _ _ _⟩
    | cons x xs =>
    have h := HPT.out
    unfold PTail at h
    obtain ⟨h1, h2⟩ := h
    have H1 := Az.mk h1
    have HDL := Az.mk (show dn.length + 1 ≤ 1000 from by have h1 := HLT.out; have h2 := HN.out; rw [HD.out, List.length_append, List.length_cons] at h1; omega)
    have HDN := Az.mk (show t.f2 = (dn ++ [x]) ++ xs from by rw [HD.out, List.append_assoc]; rfl)
    have HNk := Az.mk (show k1 < N ∧ k1 ≤ 1000 from by have h1 := HK.out; have h2 := HN.out; omega)
    clear h1 HPT HD
    go_upto_region 4 with (first
      | (go_at_call 63
         (with_reducible refine (virgationref03_begins.calls tx a' (⟨#[32]⟩ : ByteArray) true wr H1.out).mono ?_)
         rintro e9 w6 ⟨rfl, hd9⟩
         have HPS6 := Az.mk (HPS.out.below hd9.below)
         have HW6 := Az.mk hd9.below.size
         clear hd9
         skip)
      | ((with_reducible refine gate_dst (N := 11) rfl ?_)
         refine box_event ?hg (N := 11) ?hd (cs := #[.int .i64 0, .int .i64 0, .slice none 0 0]) (t := 28) ?hr ?_
         (case hd => rfl)
         (case hg => rfl)
         (case hr => first | (go_simp; done) | (go_simp; rfl))
         intro gx hg_gx w7 hbox hbb
         have HPS7 := Az.mk (HPS6.out.below hbb)
         have Sx := Az.mk hbox
         have HW7 := Az.mk hbb.size
         have HGx := Az.mk (show w.heap.size ≤ gx from by have := HPS6.out.2.2.2.2.size; omega)
         have HRW := Az.mk (Kd.R_below (Kd.R_mono (ok' := fun k => (k ≠ g6 ∧ k ≠ g9) ∧ k ≠ gx) (Kd.R_bound HPS6.out.2.2.2.1) (fun k hk => ⟨hk.1, by have := hk.2.2.1; omega⟩)) hbb)
         have HN3x := Az.mk (show g3 ≠ gx from by have := blk_lt HPS6.out.1; omega)
         have HNx := Az.mk (show gx ≠ g9 ∧ gx ≠ g6 from by have := blk_lt HPS6.out.2.1; have := blk_lt HPS6.out.2.2.1; omega)
         clear hbox hbb hg_gx))
    clear HPS HPS6
    rcases h2 with ⟨h2, c, b1, b, d, h3, h4, h5, h6, h7, h8, h9⟩ | ⟨h2, c, b, h3, h4, h5, h6⟩
    · have H2 := Az.mk h2
      have H4 := Az.mk h4
      have H5 := Az.mk h5
      have H7 := Az.mk h7
      have HT2 := Az.mk h9
      have h3w : IntKind.i64.wrap (a' + 2) = c := (i64_w _).trans h3
      have h8w : IntKind.i64.wrap (b + 1) = d := (i64_w _).trans h8
      have q6 : ((x.f2.length : Int) > 0) = True := eq_true (by omega)
      have q7 : (0 < (x.f2.length : Int)) = True := eq_true (by omega)
      have q8 : (0 < x.f2.length) = True := eq_true h6
      clear h2 h4 h5 h6 h7 h9
      go_upto_region 5 with (
        go_at_call 63
        (with_reducible refine (virgationref03_begins.calls tx a' (⟨#[32, 40]⟩ : ByteArray) true w7 H2.out).mono ?_)
        rintro e9 wq ⟨rfl, hd9⟩
        have HPSq := Az.mk (HPS7.out.below hd9.below)
        have Sxq := Az.mk (bkB Sx.out hd9.below)
        have HRWq := Az.mk (Kd.R_below HRW.out hd9.below)
        have HWQ := Az.mk (show wp.heap.size ≤ wq.heap.size from by have := HWP.out; have := HW6.out; have := HW7.out; have := hd9.below.size; omega)
        clear hd9
        skip)
      have HRq := Az.mk HPSq.out.2.2.2.1
      have HBQ := Az.mk HPSq.out.2.2.2.2
      have e0 : wq.cell? ⟨g3, 0, none⟩ = some (.slice A0 sy.length c0) := (blk_cell HPSq.out.1 0).trans rfl
      have e1 : wq.cell? ⟨g3, 1, none⟩ = some (.slice A1 fu.length c1) := (blk_cell HPSq.out.1 1).trans rfl
      clear HPS7 Sx
      go_upto_region 6 with (
        go_at_call 62
        (with_reducible refine (IH.out k1 HNk.out.1 c b1 x b wq HNk.out.2 (Kd.C_below HR0.out HBQ.out) (Kd.C_below HR1.out HBQ.out) H4.out H5.out).mono ?_)
        rintro e9 wA ⟨v, rfl, hRx, hbA⟩
        obtain ⟨A11, c11, rfl⟩ := Kd.R_slice hRx
        have HRX := Az.mk (Kd.R_lower (Kd.R_mono (Kd.R_bound hRx) (fun k hk => (show wq.heap.size ≤ k from hk.2.1))) (HPSq.out.2.2.2.2.size))
        have HPSA := Az.mk (HPSq.out.below hbA)
        have SxA := Az.mk (bkB Sxq.out hbA)
        have HRWA := Az.mk (Kd.R_below HRWq.out hbA)
        have HLx := Az.mk (blk_lt Sxq.out)
        have HWA := Az.mk (show wp.heap.size ≤ wA.heap.size from by have := HWQ.out; have := hbA.size; omega)
        have z0 := (blk_cell SxA.out 0).trans rfl
        have z1 := (blk_cell SxA.out 1).trans rfl
        have z2 := (blk_cell SxA.out 2).trans rfl
        have f0 := bkF SxA.out 0
        have f1 := bkF SxA.out 1
        have f2 := bkF SxA.out 2
        clear hRx hbA
        skip)
      clear e0 e1 z0 z1 z2 f0 f1 f2 HPSq Sxq
      have Sx2 := Az.mk (blk_set3 SxA.out (.int .i64 x.f0) (.int .i64 x.f1) (.slice A11 x.f2.length c11))
      have HPSB := Az.mk (show PS w g3 g6 g9 A0 c0 sy A1 c1 fu t.f0 t.f1 Ax cx dn _ from ⟨blk_far3 HPSA.out.1 (fun he => HN3x.out he) (.int .i64 x.f0) (.int .i64 x.f1) (.slice A11 x.f2.length c11), blk_far3 HPSA.out.2.1 (fun he => HNx.out.2 he.symm) _ _ _, blk_far3 HPSA.out.2.2.1 (fun he => HNx.out.1 he.symm) _ _ _, Kd.R_mono (Kd.R_far (p := ⟨gx, 2, none⟩) (Kd.R_far (p := ⟨gx, 1, none⟩) (Kd.R_far (p := ⟨gx, 0, none⟩) HRWA.out (fun k hk => hk.2) _) (fun k hk => hk.2) _) (fun k hk => hk.2) _) (fun k hk => hk.1), below_set3 HPSA.out.2.2.2.2 HGx.out _ _ _⟩)
      have HRX2 := Az.mk (Kd.R_far (p := ⟨gx, 2, none⟩) (Kd.R_far (p := ⟨gx, 1, none⟩) (Kd.R_far (p := ⟨gx, 0, none⟩) HRX.out (fun k hk => by have := HLx.out; have : wq.heap.size ≤ k := hk; show k ≠ gx; omega) (.int .i64 x.f0)) (fun k hk => by have := HLx.out; have : wq.heap.size ≤ k := hk; show k ≠ gx; omega) (.int .i64 x.f1)) (fun k hk => by have := HLx.out; have : wq.heap.size ≤ k := hk; show k ≠ gx; omega) (.slice A11 x.f2.length c11))
      clear HPSA SxA HRX HRWA
      have HWA1 := Az.mk (show wp.heap.size ≤ (((wA.setCell ⟨gx, 0, none⟩ (.int .i64 x.f0)).setCell ⟨gx, 1, none⟩ (.int .i64 x.f1)).setCell ⟨gx, 2, none⟩ (.slice A11 x.f2.length c11)).heap.size from by simp only [World.size_setCell]; exact HWA.out)
      clear HWA
      generalize (((wA.setCell ⟨gx, 0, none⟩ (.int .i64 x.f0)).setCell ⟨gx, 1, none⟩ (.int .i64 x.f1)).setCell ⟨gx, 2, none⟩ (.slice A11 x.f2.length c11)) = wB at *
      have HWA := Az.mk (show wp.heap.size ≤ wB.heap.size from HWA1.out)
      have y0 : wB.cell? ⟨gx, 0, none⟩ = some (.int .i64 x.f0) := (blk_cell Sx2.out 0).trans rfl
      have y1 : wB.cell? ⟨gx, 1, none⟩ = some (.int .i64 x.f1) := (blk_cell Sx2.out 1).trans rfl
      have y2 : wB.cell? ⟨gx, 2, none⟩ = some (.slice A11 x.f2.length c11) := (blk_cell Sx2.out 2).trans rfl
      have HWB := Az.mk (show wp.heap.size ≤ wB.heap.size from by have h := HWA.out; omega)
      clear HWA
      go_upto_region 9 with (
        go_at_call 63
        (with_reducible refine (virgationref03_begins.calls tx b (⟨#[41]⟩ : ByteArray) true wB H7.out).mono ?_)
        rintro e9 wC ⟨rfl, hd9⟩
        have HPSA := Az.mk (HPSB.out.below hd9.below)
        have SxA := Az.mk (bkB Sx2.out hd9.below)
        have HRX := Az.mk (Kd.R_below HRX2.out hd9.below)
        have HWA := Az.mk (show wp.heap.size ≤ wC.heap.size from by have := HWB.out; have := hd9.below.size; omega)
        clear hd9
        skip)
      clear y0 y1 y2 HPSB Sx2 HRX2
      have n0 : wC.cell? ⟨gx, 0, none⟩ = some (.int .i64 x.f0) := (blk_cell SxA.out 0).trans rfl
      have n1 : wC.cell? ⟨gx, 1, none⟩ = some (.int .i64 x.f1) := (blk_cell SxA.out 1).trans rfl
      have n2 : wC.cell? ⟨gx, 2, none⟩ = some (.slice A11 x.f2.length c11) := (blk_cell SxA.out 2).trans rfl
      have m2 : wC.cell? ⟨g9, 2, none⟩ = some (.slice Ax dn.length cx) := (blk_cell HPSA.out.2.2.1 2).trans rfl
      go_wp2_with (at_builtin; refine holdX ?_)
      unfold HoldX
      clear n0 n1 n2 m2
      obtain ⟨s3, s6, s9, hR, hb⟩ := HPSA.out
      have hbr := Kd.R_lt HRq.out
      refine Kd.R_append k28 (w0 := w) w.heap.size rfl (.tmp 62) (.tmp 64) 26 28 (.agg #[.int .i64 0, .int .i64 0, .slice none 0 0]) 40 rfl Try.underlying26 (by kernel_rfl) rfl (by decide) (by omega) (.slice Ax dn.length cx) dn x [.int .i64 x.f0, .int .i64 x.f1, .slice A11 x.f2.length c11] (fun k => k ≠ g6 ∧ k ≠ g9) (fun k => wq.heap.size ≤ k) rfl rfl (k28_mkM _ _ _ x HRX.out) (fun k hk => ⟨⟨by have := HL69.out; have := HWQ.out; omega, by have := HL69.out; have := HWQ.out; omega⟩, fun e => by have := hbr k e.symm; omega⟩) (fun k hk => ⟨by have := blk_lt s6; omega, by have := blk_lt s9; omega⟩) hR hb hb.size (by have := HDL.out; omega) ?_
      intro v2 w9 hrf hb9 hg9 hat9
      obtain ⟨A5, c5, e5⟩ := Kd.R_slice hrf
      have hdl : (dn ++ [x]).length = dn.length + 1 := by rw [List.length_append]; rfl
      rw [hdl] at e5
      subst e5
      have S39 := Az.mk (blk_grown s3 hg9 (fun he => by obtain ⟨q, hq⟩ := Kd.R_typed hR g3 he.symm; exact absurd (blk_type hq s3) (by decide)))
      have S69 := Az.mk (blk_grown s6 hg9 (Kd.R_away hR (fun k hk => hk.1)))
      have S99 := Az.mk (blk_grown s9 hg9 (Kd.R_away hR (fun k hk => hk.2)))
      have HR9 := Az.mk hrf
      have HB9 := Az.mk hb9
      have HW9 := Az.mk (show wp.heap.size ≤ w9.heap.size from by have := hg9.size; have := HWA.out; omega)
      clear s3 s6 s9 hR hb hrf hb9 hg9 hat9 hbr HPSA SxA
      have m9 : w9.cell? ⟨g9, 2, none⟩ = some (.slice Ax dn.length cx) := (blk_cell S99.out 2).trans rfl
      have f9 := bkF S99.out 2
      go_wp2_with fail
      have HPSn := Az.mk (show PS w g3 g6 g9 A0 c0 sy A1 c1 fu t.f0 t.f1 A5 c5 (dn ++ [x]) (w9.setCell ⟨g9, 2, none⟩ (.slice A5 (dn.length + 1) c5)) from by
        unfold PS
        rw [hdl]
        exact ⟨blk_far (p := ⟨g9, 2, none⟩) S39.out (fun he => HN39.out he) _, blk_far (p := ⟨g9, 2, none⟩) S69.out (fun he => HN69.out he) _, blk_put S99.out 2 _ rfl, Kd.R_far (p := ⟨g9, 2, none⟩) HR9.out (fun k hk => hk.2) _, bset HB9.out HG9.out⟩)
      go_roundg k1
      case measure => omega
      case rel => exact ⟨_, dn ++ [x], xs, A5, c5, by first | rfl | (refine congrArg _ ?_; omega), rfl, ⟨by have := HK.out; omega⟩, HDN, HT2, HPSn, ⟨by have := HW9.out; have e := World.size_setCell w9 ⟨g9, 2, none⟩ (.slice A5 (dn.length + 1) c5); omega⟩⟩
    · cases x with
      | mk xk xn xl =>
      have h5 : xl = [] := h5
      subst h5
      have H2 := Az.mk h2
      have H4 := Az.mk (show PHead K tx sy fu c xk xn b from h4)
      have HT2 := Az.mk h6
      have h3w : IntKind.i64.wrap (a' + 1) = c := (i64_w _).trans h3
      clear h2 h4 h6
      go_upto_region 8 with (
        go_at_call 63
        (with_reducible refine (virgationref03_begins.calls tx a' (⟨#[32, 40]⟩ : ByteArray) false w7 H2.out).mono ?_)
        rintro e9 wq ⟨rfl, hd9⟩
        have HPSq := Az.mk (HPS7.out.below hd9.below)
        have Sxq := Az.mk (bkB Sx.out hd9.below)
        have HRWq := Az.mk (Kd.R_below HRW.out hd9.below)
        have HWQ := Az.mk (show wp.heap.size ≤ wq.heap.size from by have := HWP.out; have := HW6.out; have := HW7.out; have := hd9.below.size; omega)
        clear hd9
        skip)
      have HRq := Az.mk HPSq.out.2.2.2.1
      have HBQ := Az.mk HPSq.out.2.2.2.2
      have e0 : wq.cell? ⟨g3, 0, none⟩ = some (.slice A0 sy.length c0) := (blk_cell HPSq.out.1 0).trans rfl
      have e1 : wq.cell? ⟨g3, 1, none⟩ = some (.slice A1 fu.length c1) := (blk_cell HPSq.out.1 1).trans rfl
      clear HPS7 Sx
      go_upto_region 9 with (
        go_at_call 81
        (with_reducible refine (tmhead_calls K tx A0 c0 sy A1 c1 fu c xk xn b wq (Kd.C_below HR0.out HBQ.out) (Kd.C_below HR1.out HBQ.out) H4.out).mono ?_)
        rintro e9 wA ⟨rfl, hbA⟩
        have HPSD := Az.mk (HPSq.out.below hbA)
        have SxD := Az.mk (bkB Sxq.out hbA)
        have HRWD := Az.mk (Kd.R_below HRWq.out hbA)
        have HWD := Az.mk (show wp.heap.size ≤ wA.heap.size from by have := HWQ.out; have := hbA.size; omega)
        have z0 := (blk_cell SxD.out 0).trans rfl
        have z1 := (blk_cell SxD.out 1).trans rfl
        have z2 := (blk_cell SxD.out 2).trans rfl
        have f0 := bkF SxD.out 0
        have f1 := bkF SxD.out 1
        have f2 := bkF SxD.out 2
        clear hbA
        skip)
      clear e0 e1 z0 z1 z2 f0 f1 f2 HPSq Sxq
      have SxA := Az.mk (blk_set3 SxD.out (.int .i64 xk) (.int .i64 xn) (.slice none 0 0))
      have HPSA := Az.mk (show PS w g3 g6 g9 A0 c0 sy A1 c1 fu t.f0 t.f1 Ax cx dn _ from ⟨blk_far3 HPSD.out.1 (fun he => HN3x.out he) (.int .i64 xk) (.int .i64 xn) (.slice none 0 0), blk_far3 HPSD.out.2.1 (fun he => HNx.out.2 he.symm) _ _ _, blk_far3 HPSD.out.2.2.1 (fun he => HNx.out.1 he.symm) _ _ _, Kd.R_mono (Kd.R_far (p := ⟨gx, 2, none⟩) (Kd.R_far (p := ⟨gx, 1, none⟩) (Kd.R_far (p := ⟨gx, 0, none⟩) HRWD.out (fun k hk => hk.2) _) (fun k hk => hk.2) _) (fun k hk => hk.2) _) (fun k hk => hk.1), below_set3 HPSD.out.2.2.2.2 HGx.out _ _ _⟩)
      have HWA0 := Az.mk (show wp.heap.size ≤ (((wA.setCell ⟨gx, 0, none⟩ (.int .i64 xk)).setCell ⟨gx, 1, none⟩ (.int .i64 xn)).setCell ⟨gx, 2, none⟩ (.slice none 0 0)).heap.size from by simp only [World.size_setCell]; exact HWD.out)
      clear HPSD SxD HRWD HWD
      generalize (((wA.setCell ⟨gx, 0, none⟩ (.int .i64 xk)).setCell ⟨gx, 1, none⟩ (.int .i64 xn)).setCell ⟨gx, 2, none⟩ (.slice none 0 0)) = wB at *
      have HWA := Az.mk (show wp.heap.size ≤ wB.heap.size from HWA0.out)
      have HRX := Az.mk (show Kd.R k28 28 wB w.heap.size (fun k => wq.heap.size ≤ k) (.slice none 0 0) [] from Kd.R_nil _ _ _ _ _)
      have n0 : wB.cell? ⟨gx, 0, none⟩ = some (.int .i64 xk) := (blk_cell SxA.out 0).trans rfl
      have n1 : wB.cell? ⟨gx, 1, none⟩ = some (.int .i64 xn) := (blk_cell SxA.out 1).trans rfl
      have n2 : wB.cell? ⟨gx, 2, none⟩ = some (.slice none 0 0) := (blk_cell SxA.out 2).trans rfl
      have m2 : wB.cell? ⟨g9, 2, none⟩ = some (.slice Ax dn.length cx) := (blk_cell HPSA.out.2.2.1 2).trans rfl
      go_wp2_with (at_builtin; refine holdX ?_)
      unfold HoldX
      clear n0 n1 n2 m2
      obtain ⟨s3, s6, s9, hR, hb⟩ := HPSA.out
      have hbr := Kd.R_lt HRq.out
      refine Kd.R_append k28 (w0 := w) w.heap.size rfl (.tmp 62) (.tmp 64) 26 28 (.agg #[.int .i64 0, .int .i64 0, .slice none 0 0]) 40 rfl Try.underlying26 (by kernel_rfl) rfl (by decide) (by omega) (.slice Ax dn.length cx) dn (⟨xk, xn, []⟩ : S28) [.int .i64 xk, .int .i64 xn, .slice none 0 0] (fun k => k ≠ g6 ∧ k ≠ g9) (fun k => wq.heap.size ≤ k) rfl rfl (k28_mkM _ _ _ (⟨xk, xn, []⟩ : S28) HRX.out) (fun k hk => ⟨⟨by have := HL69.out; have := HWQ.out; omega, by have := HL69.out; have := HWQ.out; omega⟩, fun e => by have := hbr k e.symm; omega⟩) (fun k hk => ⟨by have := blk_lt s6; omega, by have := blk_lt s9; omega⟩) hR hb hb.size (by have := HDL.out; omega) ?_
      intro v2 w9 hrf hb9 hg9 hat9
      obtain ⟨A5, c5, e5⟩ := Kd.R_slice hrf
      have hdl : (dn ++ [(⟨xk, xn, []⟩ : S28)]).length = dn.length + 1 := by rw [List.length_append]; rfl
      rw [hdl] at e5
      subst e5
      have S39 := Az.mk (blk_grown s3 hg9 (fun he => by obtain ⟨q, hq⟩ := Kd.R_typed hR g3 he.symm; exact absurd (blk_type hq s3) (by decide)))
      have S69 := Az.mk (blk_grown s6 hg9 (Kd.R_away hR (fun k hk => hk.1)))
      have S99 := Az.mk (blk_grown s9 hg9 (Kd.R_away hR (fun k hk => hk.2)))
      have HR9 := Az.mk hrf
      have HB9 := Az.mk hb9
      have HW9 := Az.mk (show wp.heap.size ≤ w9.heap.size from by have := hg9.size; have := HWA.out; omega)
      clear s3 s6 s9 hR hb hrf hb9 hg9 hat9 hbr HPSA SxA
      have m9 : w9.cell? ⟨g9, 2, none⟩ = some (.slice Ax dn.length cx) := (blk_cell S99.out 2).trans rfl
      have f9 := bkF S99.out 2
      go_wp2_with fail
      have HPSn := Az.mk (show PS w g3 g6 g9 A0 c0 sy A1 c1 fu t.f0 t.f1 A5 c5 (dn ++ [(⟨xk, xn, []⟩ : S28)]) (w9.setCell ⟨g9, 2, none⟩ (.slice A5 (dn.length + 1) c5)) from by
        unfold PS
        rw [hdl]
        exact ⟨blk_far (p := ⟨g9, 2, none⟩) S39.out (fun he => HN39.out he) _, blk_far (p := ⟨g9, 2, none⟩) S69.out (fun he => HN69.out he) _, blk_put S99.out 2 _ rfl, Kd.R_far (p := ⟨g9, 2, none⟩) HR9.out (fun k hk => hk.2) _, bset HB9.out HG9.out⟩)
      go_roundg k1
      case measure => omega
      case rel => exact ⟨_, dn ++ [(⟨xk, xn, []⟩ : S28)], xs, A5, c5, by first | rfl | (refine congrArg _ ?_; omega), rfl, ⟨by have := HK.out; omega⟩, HDN, HT2, HPSn, ⟨by have := HW9.out; have e := World.size_setCell w9 ⟨g9, 2, none⟩ (.slice A5 (dn.length + 1) c5); omega⟩⟩
end Go.Proofs.Ytnfgpepggehegaa.I
namespace Go.Proofs.Ytnfgpepggehegaa.I
open Go.RowKit Go.Proofs.YtnfgpepggehegaaW.PrintWords Go.Proofs.YtnfgpepggehegaaW.PrintLast Go.Proofs.YtnfgpepggehegaaW.PrintMore
attribute [local go_sem] max2_int min2_int max_two min_two max_three min_three max_four min_four
set_option linter.unusedVariables false
set_option maxRecDepth 100000
set_option linter.unusedSimpArgs false
theorem V_at84 {w : World} {B n c : Nat} {P : Nat → Prop} {A : Option Addr} {l : List S84} (h : Kd.V k84 84 w B P (.slice A n c) l) {i : Nat} (h1 : i < n) :
    ∃ ad A3 c3 A4 c4, A = some ad ∧ w.cell? (ad.add (i * 5)) = some (.string (rd_T84 l (i : Int)).f0) ∧ w.cell? ⟨(ad.add (i * 5)).block, (ad.add (i * 5)).off + 1, none⟩ = some (.slice A3 (rd_T84 l (i : Int)).f1.f0.length c3) ∧ w.cell? ⟨(ad.add (i * 5)).block, (ad.add (i * 5)).off + 2, none⟩ = some (.int .i64 (rd_T84 l (i : Int)).f2.f0) ∧ w.cell? ⟨(ad.add (i * 5)).block, (ad.add (i * 5)).off + 3, none⟩ = some (.int .i64 (rd_T84 l (i : Int)).f2.f1) ∧ w.cell? ⟨(ad.add (i * 5)).block, (ad.add (i * 5)).off + 4, none⟩ = some (.slice A4 (rd_T84 l (i : Int)).f2.f2.length c4) ∧ (rd_T84 l (i : Int)).f1.f0.length ≤ c3 ∧ Kd.F k53 w P A3 (rd_T84 l (i : Int)).f1.f0.length (rd_T84 l (i : Int)).f1.f0 := by
  obtain ⟨ad, A3, c3, A4, c4, rfl, x0, x1, x2, x3, x4, l3, C3, l4, C4⟩ := at_T84 (Kd.V_reads' h).2.2 (i : Int) (by omega) (by have := (Kd.V_reads' h).1; omega)
  obtain ⟨ce, hce, hM, hcc⟩ := Kd.V_get h z84 (i : Int) (by omega) (by omega)
  obtain ⟨B3, d3, B4, d4, rfl, m3, f3, m4, f4⟩ := k84_openF hM
  have hv := hcc 1 _ rfl
  rw [Int.toNat_natCast] at x0 x1 x2 x3 x4 hv
  rw [show (k84).sz = 5 from rfl, add_field ad (i * 5) 1 (by omega)] at hv
  have e := Option.some.inj (hv.symm.trans x1)
  injection e with ea _ ec
  rw [ea] at f3
  exact ⟨ad, A3, c3, A4, c4, rfl, x0, x1, x2, x3, x4, l3, f3⟩
theorem take84s {l : List S84} {i : Nat} (h : i < l.length) : l.take (i + 1) = l.take i ++ [rd_T84 l (i : Int)] := by
  have e2 : rd_T84 l (i : Int) = l[i] := by unfold rd_T84; rw [Int.toNat_natCast, List.getD_eq_getElem?_getD, List.getElem?_eq_getElem h]; rfl
  rw [List.take_add_one, List.getElem?_eq_getElem h, e2]; rfl
def GtS (w4 : World) (g2 g4 : Nat) (A0 : Option Addr) (c0 : Nat) (A1 : Option Addr) (c1 : Nat) (Ab : Option Addr) (cb : Nat) (Ao : Option Addr) (co : Nat) (sy : List S87) (fu : List S84) (bo : List Int) (dn : List S84) (w : World) : Prop :=
  Kd.V k87 87 w 0 (fun k => g2 < k ∧ k < g4) (.slice A0 sy.length c0) sy ∧ Kd.V k84 84 w 0 (fun k => g2 < k ∧ k < g4) (.slice A1 fu.length c1) fu ∧ Kd.V (Kd.int .i64) 3 w 0 (fun k => g2 < k ∧ k < g4) (.slice Ab bo.length cb) bo ∧ Kd.N k84 84 w w4.heap.size (fun k => k ≠ g2 ∧ k ≠ g4) (.slice Ao dn.length co) dn ∧ w.heap[g4]? = some (.cells #[.slice A0 sy.length c0, .slice A1 fu.length c1] 25 (0, 0)) ∧ w.heap[g2]? = some (.cells #[.slice none 0 0, .slice none 0 0] 25 (0, 0)) ∧ Below w4.heap.size w4 w
theorem GtS.below {w4 : World} {g2 g4 : Nat} {A0 : Option Addr} {c0 : Nat} {A1 : Option Addr} {c1 : Nat} {Ab : Option Addr} {cb : Nat} {Ao : Option Addr} {co : Nat} {sy : List S87} {fu : List S84} {bo : List Int} {dn : List S84} {w w1 : World} (h : GtS w4 g2 g4 A0 c0 A1 c1 Ab cb Ao co sy fu bo dn w) (hb : Below w.heap.size w w1) : GtS w4 g2 g4 A0 c0 A1 c1 Ab cb Ao co sy fu bo dn w1 := by
  obtain ⟨h1, h2, h3, h4, h5, h6, h7⟩ := h
  exact ⟨Kd.V_below h1 hb, Kd.V_below h2 hb, Kd.V_below h3 hb, Kd.N_below h4 hb, bkB h5 hb, bkB h6 hb, bst h7 hb⟩
set_option maxHeartbeats 16000000 in
theorem get_calls (K N : Nat) (tx : ByteArray) (a1 : Int) (sy : List S87) (fu : List S84) (bo : List Int) (out : List S84) (w : World) (hsy : Syms tx sy 0 a1) (hfu : Funs tx fu bo a1) (hl1 : sy.length ≤ 1000) (hl2 : fu.length ≤ 1000) (hbl : bo.length = fu.length) (hol : out.length = fu.length) (hsz : tx.size ≤ 65536)
    (hN : N ≤ 1000) (hp : ∀ i : Nat, i < fu.length → ∃ b0 at_, PHead K tx sy fu (rd bo (i : Int)) (rd_T84 out (i : Int)).f2.f0 (rd_T84 out (i : Int)).f2.f1 b0 ∧ PTail K tx sy fu N b0 (rd_T84 out (i : Int)).f2.f2 at_ ∧ virgationref03_begins.f tx at_ (⟨#[10]⟩ : ByteArray) = some true ∧ (rd_T84 out (i : Int)).f0 = (rd_T84 fu (i : Int)).f0 ∧ (rd_T84 out (i : Int)).f1 = (rd_T84 fu (i : Int)).f1) (hs : schB sy out = true) :
    Calls Try.prog 34 #[.string tx] w fun e w' => ∃ A0 c0 A1 c1, e = .returned (.tuple #[.agg #[.slice A0 sy.length c0, .slice A1 out.length c1], .int .i64 0]) ∧ Kd.C k87 w' A0 sy.length sy ∧ sy.length ≤ c0 ∧ Kd.C k84 w' A1 out.length out ∧ out.length ≤ c1 ∧ Below w.heap.size w w' := by
  have hu25 := Try.underlying25
  have hu84 := Try.underlying84
  have hu53 := Try.underlying53
  have hu28 := Try.underlying28
  have HSY := Az.mk hsy
  have HFU := Az.mk hfu
  have HL1 := Az.mk hl1
  have HL2 := Az.mk hl2
  have HBL := Az.mk hbl
  have HOL := Az.mk hol
  have HP := Az.mk hp
  have HNN := Az.mk hN
  have HS := Az.mk hs
  have HSZ := Az.mk hsz
  have p0 : (65536 < tx.size) = False := eq_false (by omega)
  have p1 : ((65536 : Int) < (tx.size : Int)) = False := eq_false (by omega)
  clear hsy hfu hl1 hl2 hbl hol hp hs hsz hN
  go_enter Try.func34, Try.ntmps34
  go_wp2_with (first
    | ((with_reducible refine gate_dst (N := 2) rfl ?_)
       refine box_event ?hg (N := 2) ?hd (cs := #[.slice none 0 0, .slice none 0 0]) (t := 25) ?hr ?_
       (case hd => rfl)
       (case hg => rfl)
       (case hr => first | (go_simp; done) | (go_simp; rfl))
       intro g2 hg2 w2 hbox hb2
       have S2 := Az.mk hbox
       have HB2 := Az.mk hb2
       have HG2 := Az.mk (show w.heap.size ≤ g2 from by omega)
       have HL2g := Az.mk (show g2 < w2.heap.size from blk_lt hbox)
       clear hbox hb2 hg2)
    | (go_at_call 61
       (with_reducible refine (names_calls tx a1 sy fu bo w2 HSY.out HFU.out HL1.out HL2.out (by have := HBL.out; have := HL2.out; omega) (by have := HSZ.out; omega)).mono ?_)
       rintro e9 w3 ⟨A0, c0, A1, c1, Ab, cb, rfl, r1, r2, r3, hb3⟩
       have R1 := Az.mk (Kd.R_bound r1)
       have R2 := Az.mk (Kd.R_bound r2)
       have R3 := Az.mk (Kd.R_bound r3)
       have S23 := Az.mk (bkB S2.out hb3)
       have HB3 := Az.mk (bst HB2.out hb3)
       have H23 := Az.mk hb3.size
       clear r1 r2 r3 hb3 HSY HFU S2 HB2)
    | ((with_reducible refine gate_dst (N := 4) rfl ?_)
       refine box_event ?hg (N := 4) ?hd (cs := #[.slice none 0 0, .slice none 0 0]) (t := 25) ?hr ?_
       (case hd => rfl)
       (case hg => rfl)
       (case hr => first | (go_simp; done) | (go_simp; rfl))
       intro g4 hg4 w4 hbox hb4
       have hgw : w3.heap.size ≤ g4 := by omega
       have Hbw := Az.mk (bset (g := g4) (j := 1) (v := .slice A1 fu.length c1) (bset (g := g4) (j := 0) (v := .slice A0 sy.length c0) hb4 hgw) hgw)
       have S4 := Az.mk (blk_put (cs' := #[.slice A0 sy.length c0, .slice A1 fu.length c1]) (blk_put (cs' := #[.slice A0 sy.length c0, .slice none 0 0]) hbox 0 (.slice A0 sy.length c0) rfl) 1 (.slice A1 fu.length c1) rfl)
       have S24 := Az.mk (bkB S23.out Hbw.out)
       have HB4 := Az.mk (bst HB3.out Hbw.out)
       have HG24 := Az.mk (show g2 < g4 from by have := HL2g.out; have := H23.out; omega)
       have V1 := Az.mk (Kd.V_below (Kd.V_mono (ok' := fun k => g2 < k ∧ k < g4) (Kd.R_V (base' := 0) R1.out) (fun k hk => ⟨by have := HL2g.out; have := hk.2.1; omega, by have := hk.2.2.1; omega⟩)) Hbw.out)
       have V2 := Az.mk (Kd.V_below (Kd.V_mono (ok' := fun k => g2 < k ∧ k < g4) (Kd.R_V (base' := 0) R2.out) (fun k hk => ⟨by have := HL2g.out; have := hk.2.1; omega, by have := hk.2.2.1; omega⟩)) Hbw.out)
       have V3 := Az.mk (Kd.V_below (Kd.V_mono (ok' := fun k => g2 < k ∧ k < g4) (Kd.R_V (base' := 0) R3.out) (fun k hk => ⟨by have := HL2g.out; have := hk.2.1; omega, by have := hk.2.2.1; omega⟩)) Hbw.out)
       have hcz0 := (blk_cell hbox 0).trans rfl
       have hcz1 := (blk_cell hbox 1).trans rfl
       have hfz0 := bkF hbox 0
       have hfz1 := bkF hbox 1
       have e1 := (blk_cell S4.out 1).trans rfl
       clear hbox hb4 hg4 hgw R1 R2 R3 S23 HB3 H23 HL2g))
  clear hcz0 hcz1 hfz0 hfz1 e1 Hbw p0 p1
  generalize ((w4.setCell ⟨g4, 0, none⟩ (.slice A0 sy.length c0)).setCell ⟨g4, 1, none⟩ (.slice A1 fu.length c1)) = wp at *
  have ST := Az.mk (show GtS wp g2 g4 A0 c0 A1 c1 Ab cb none 0 sy fu bo [] wp from ⟨V1.out, V2.out, V3.out, Kd.N_nil _ _ _ _ _, S4.out, S24.out, Below.refl _ _⟩)
  have HL4 := Az.mk (blk_lt S4.out)
  clear V1 V2 V3 S4 S24
  go_loopg [7, 29] fu.length (fun kq v7 v29 wr => ∃ (i : Nat) (Ao : Option Addr) (co : Nat), v7 = .slice Ao i co ∧ v29 = .int .i64 (i : Int) ∧ Az (i + kq = fu.length) ∧ Az (GtS wp g2 g4 A0 c0 A1 c1 Ab cb Ao co sy fu bo (out.take i) wr))
  case atStart => exact ⟨0, none, 0, rfl, rfl, ⟨by omega⟩, ST⟩
  case round =>
    clear ST
    obtain ⟨i, Ao, co, rfl, rfl, Hi, ST⟩ := hrel
    by_cases hlt : i < fu.length
    rotate_left
    · have hie : i = out.length := by have := Hi.out; have := HOL.out; omega
      have hST := ST.out
      rw [hie, List.take_length] at hST
      have ST2 := Az.mk hST
      clear hST ST hlt Hi
      subst hie
      have q0 : ((out.length : Int) < (fu.length : Int)) = False := eq_false (by have := HOL.out; omega)
      have q1 : (out.length < fu.length) = False := eq_false (by have := HOL.out; omega)
      have c41 : wr.cell? ⟨g4, 1, none⟩ = some (.slice A1 fu.length c1) := (blk_cell ST2.out.2.2.2.2.1 1).trans rfl
      have f41 := bkF ST2.out.2.2.2.2.1 1
      have c40 : wr.cell? ⟨g4, 0, none⟩ = some (.slice A0 sy.length c0) := (blk_cell ST2.out.2.2.2.2.1 0).trans rfl
      go_wp2_with fail
      obtain ⟨v1, v2, v3, v4, s4, s2, hb⟩ := ST2.out
      have S4x := blk_put (cs' := #[.slice A0 sy.length c0, .slice Ao out.length co]) s4 1 (.slice Ao out.length co) rfl
      have S2x := blk_far (p := ⟨g4, 1, none⟩) s2 (show g2 ≠ g4 from by have := HG24.out; omega) (.slice Ao out.length co)
      have V1x := Kd.V_far (p := ⟨g4, 1, none⟩) v1 (fun k hk => by have := hk.2; show k ≠ g4; omega) (.slice Ao out.length co)
      have V4x := Kd.N_V (base' := 0) (Kd.N_far (p := ⟨g4, 1, none⟩) v4 (fun k hk => hk.2) (.slice Ao out.length co))
      have HBx := Az.mk (bset (g := g4) (j := 1) (v := .slice Ao out.length co) (bst HB4.out hb) (by have := HG2.out; have := HG24.out; omega))
      (with_reducible refine (refis_calls A0 c0 sy Ao co out _ (Kd.V_reads' V1x).2.2 (Kd.V_reads' V1x).2.1 (Kd.V_reads' V4x).2.2 (Kd.V_reads' V4x).2.1).mono ?_)
      rintro e w5 ⟨rfl, hb5⟩
      rw [HS.out]
      have S45 := Az.mk (bkB S4x hb5)
      have S25 := Az.mk (bkB S2x hb5)
      have V15 := Az.mk (Kd.V_below V1x hb5)
      have V45 := Az.mk (Kd.V_below V4x hb5)
      have HB5 := Az.mk (bst HBx.out hb5)
      clear hb5 c41 f41 c40 v1 v2 v3 v4 s4 s2 hb S4x S2x V1x V4x HBx ST2
      have d0 : w5.cell? ⟨g4, 0, none⟩ = some (.slice A0 sy.length c0) := (blk_cell S45.out 0).trans rfl
      have d1 : w5.cell? ⟨g4, 1, none⟩ = some (.slice Ao out.length co) := (blk_cell S45.out 1).trans rfl
      have z0 : w5.cell? ⟨g2, 0, none⟩ = some (.slice none 0 0) := (blk_cell S25.out 0).trans rfl
      have z1 : w5.cell? ⟨g2, 1, none⟩ = some (.slice none 0 0) := (blk_cell S25.out 1).trans rfl
      have f0 := bkF S25.out 0
      have f1 := bkF S25.out 1
      go_wp2_with fail
      have Sz := blk_put (cs' := #[.slice A0 sy.length c0, .slice Ao out.length co]) (blk_put (cs' := #[.slice A0 sy.length c0, .slice none 0 0]) S25.out 0 (.slice A0 sy.length c0) rfl) 1 (.slice Ao out.length co) rfl
      refine bodyPost_ret (results_ct rfl _ _ g2 25 #[.slice A0 sy.length c0, .slice Ao out.length co] (0, 0) _ rfl Sz Try.underlying25 rfl (by kernel_rfl)) rfl ?_
      have V1z := Kd.V_far (p := ⟨g2, 1, none⟩) (Kd.V_far (p := ⟨g2, 0, none⟩) V15.out (fun k hk => by have := hk.1; show k ≠ g2; omega) (.slice A0 sy.length c0)) (fun k hk => by have := hk.1; show k ≠ g2; omega) (.slice Ao out.length co)
      have V4z := Kd.V_far (p := ⟨g2, 1, none⟩) (Kd.V_far (p := ⟨g2, 0, none⟩) V45.out (fun k hk => hk.1) (.slice A0 sy.length c0)) (fun k hk => hk.1) (.slice Ao out.length co)
      exact ⟨A0, c0, Ao, co, rfl, (Kd.V_reads' V1z).2.2, (Kd.V_reads' V1z).2.1, (Kd.V_reads' V4z).2.2, (Kd.V_reads' V4z).2.1, bset (bset HB5.out HG2.out) HG2.out⟩
    have hk := Hi.out
    obtain ⟨k1, rfl⟩ : ∃ k1, gk = k1 + 1 := ⟨gk - 1, by omega⟩
    clear hk
    obtain ⟨b0, at_, hp0, hp1, hp2, hp3, hp4⟩ := HP.out i hlt
    have HP0 := Az.mk hp0
    have HP1 := Az.mk hp1
    have HP2 := Az.mk hp2
    have HSN := Az.mk (take84s (l := out) (i := i) (by have := HOL.out; omega))
    obtain ⟨ad, A3, c3, A4, c4, he, hx0, hx1, hx2, hx3, hx4, hl3, hF3⟩ := V_at84 ST.out.2.1 hlt
    obtain ⟨adb, heb, hxb⟩ := Kd.at_int (Kd.V_reads' ST.out.2.2.1).2.2 (i : Int) (by omega) (by have := HBL.out; omega)
    subst he
    subst heb
    rw [Int.toNat_natCast] at hxb
    rw [← hp3] at hx0
    rw [← hp4] at hx1 hl3 hF3
    have q1 : (0 ≤ (i : Int)) = True := eq_true (by omega)
    have q2 : ((i : Int) < (fu.length : Int)) = True := eq_true (by omega)
    have q3 : (i < fu.length) = True := eq_true (by omega)
    have q4 : ((i : Int) < (bo.length : Int)) = True := eq_true (by have := HBL.out; omega)
    have q5 : (i < bo.length) = True := eq_true (by have := HBL.out; omega)
    have Hl3 := Az.mk hl3
    have HF3 := Az.mk hF3
    clear hp0 hp1 hp2 hp3 hp4 hl3 hF3
    generalize rd bo (i : Int) = b at *
    generalize rd_T84 fu (i : Int) = x at *
    generalize rd_T84 out (i : Int) = y at *
    go_upto_region 10 with (
      (with_reducible refine gate_dst (N := 9) rfl ?_)
      refine box_event ?hg (N := 9) ?hd (cs := #[.string (⟨#[]⟩ : ByteArray), .slice none 0 0, .int .i64 0, .int .i64 0, .slice none 0 0]) (t := 84) ?hr ?_
      (case hd => rfl)
      (case hg => rfl)
      (case hr => first | (go_simp; done) | (go_simp; rfl))
      intro gi hgi w6 hbox hbb
      have hgw : wr.heap.size ≤ gi := by omega
      have Hbwgi := Az.mk (bset (g := gi) (j := 4) (v := .slice A4 x.f2.f2.length c4) (bset (g := gi) (j := 3) (v := .int .i64 x.f2.f1) (bset (g := gi) (j := 2) (v := .int .i64 x.f2.f0) (bset (g := gi) (j := 1) (v := .slice A3 y.f1.f0.length c3) (bset (g := gi) (j := 0) (v := .string y.f0) hbb hgw) hgw) hgw) hgw) hgw)
      have Sgi := Az.mk (blk_put (cs' := #[.string y.f0, .slice A3 y.f1.f0.length c3, .int .i64 x.f2.f0, .int .i64 x.f2.f1, .slice A4 x.f2.f2.length c4]) (blk_put (cs' := #[.string y.f0, .slice A3 y.f1.f0.length c3, .int .i64 x.f2.f0, .int .i64 x.f2.f1, .slice none 0 0]) (blk_put (cs' := #[.string y.f0, .slice A3 y.f1.f0.length c3, .int .i64 x.f2.f0, .int .i64 0, .slice none 0 0]) (blk_put (cs' := #[.string y.f0, .slice A3 y.f1.f0.length c3, .int .i64 0, .int .i64 0, .slice none 0 0]) (blk_put (cs' := #[.string y.f0, .slice none 0 0, .int .i64 0, .int .i64 0, .slice none 0 0]) hbox 0 (.string y.f0) rfl) 1 (.slice A3 y.f1.f0.length c3) rfl) 2 (.int .i64 x.f2.f0) rfl) 3 (.int .i64 x.f2.f1) rfl) 4 (.slice A4 x.f2.f2.length c4) rfl)
      have hczgi0 := (blk_cell hbox 0).trans rfl
      have hfzgi0 := bkF hbox 0
      have hczgi1 := (blk_cell hbox 1).trans rfl
      have hfzgi1 := bkF hbox 1
      have hczgi2 := (blk_cell hbox 2).trans rfl
      have hfzgi2 := bkF hbox 2
      have hczgi3 := (blk_cell hbox 3).trans rfl
      have hfzgi3 := bkF hbox 3
      have hczgi4 := (blk_cell hbox 4).trans rfl
      have hfzgi4 := bkF hbox 4
      clear hbox hbb hgi hgw)
    have hxb2 := Az.mk (cell_up Hbwgi.out hxb)
    have HF3q := Az.mk (Kd.F_below HF3.out Hbwgi.out)
    clear hczgi0 hfzgi0 hczgi1 hfzgi1 hczgi2 hfzgi2 hczgi3 hfzgi3 hczgi4 hfzgi4 hx0 hx1 hx2 hx3 hx4 hxb
    generalize (((((w6.setCell ⟨gi, 0, none⟩ (.string y.f0)).setCell ⟨gi, 1, none⟩ (.slice A3 y.f1.f0.length c3)).setCell ⟨gi, 2, none⟩ (.int .i64 x.f2.f0)).setCell ⟨gi, 3, none⟩ (.int .i64 x.f2.f1)).setCell ⟨gi, 4, none⟩ (.slice A4 x.f2.f2.length c4)) = wq at *
    have STq := Az.mk (ST.out.below Hbwgi.out)
    have e0 : wq.cell? ⟨g4, 0, none⟩ = some (.slice A0 sy.length c0) := (blk_cell STq.out.2.2.2.2.1 0).trans rfl
    have e1 : wq.cell? ⟨g4, 1, none⟩ = some (.slice (some ad) fu.length c1) := (blk_cell STq.out.2.2.2.2.1 1).trans rfl
    have e2 := hxb2.out
    have e0' := cel1 e0
    have e1' := cel1 e1
    have e2' := cel1 e2
    clear ST Hbwgi hxb2
    have HPT := Az.mk (show ∀ w', Below wq.heap.size wq w' → Calls Try.prog 62 #[.agg #[.slice A0 sy.length c0, .slice (some ad) fu.length c1], .string tx, .int .i64 b] w' fun e w'' => ∃ Av cv, e = .returned (.tuple #[.agg #[.int .i64 y.f2.f0, .int .i64 y.f2.f1, .slice Av y.f2.f2.length cv], .int .i64 at_, .bool true]) ∧ Kd.V k28 28 w'' 0 (fun k => w'.heap.size ≤ k) (.slice Av y.f2.f2.length cv) y.f2.f2 ∧ Below w'.heap.size w' w'' from by
      intro w' hb
      have S := STq.out.below hb
      refine (pterm_calls K tx A0 c0 sy (some ad) c1 fu N b b0 y.f2 at_ w' HNN.out (Kd.V_reads' S.1).2.2 (Kd.V_reads' S.2.1).2.2 HP0.out HP1.out).mono ?_
      rintro e w'' ⟨v, rfl, hR, hb2⟩
      obtain ⟨Av, cv, rfl⟩ := Kd.R_slice hR
      exact ⟨Av, cv, rfl, Kd.V_mono (Kd.R_V (base' := 0) (Kd.R_bound hR)) (fun k hk => hk.2.1), hb2⟩)
    try simp only [Act.put, List.setIfInBounds_toArray, List.set_cons_succ, List.set_cons_zero]
    go_cut [10, 11, 12] from 35 to 44 (fun v10 v11 v12 wc => ∃ (g : Nat) (Av : Option Addr) (cv : Nat), v10 = .pointer (some ⟨g, 0, none⟩) ∧ v11 = .int .i64 at_ ∧ v12 = .bool true ∧ Az (wc.heap[g]? = some (.cells #[.int .i64 y.f2.f0, .int .i64 y.f2.f1, .slice Av y.f2.f2.length cv] 28 (0, 0))) ∧ Az (Kd.V k28 28 wc 0 (fun k => wq.heap.size ≤ k) (.slice Av y.f2.f2.length cv) y.f2.f2) ∧ Az (Below wq.heap.size wq wc))
    case first =>
      go_region_law
        (go_simp
         go_at_call 62
         first
         | ((with_reducible refine (HPT.out wq.drew (below_drew (Below.refl _ _))).mono ?_)
            rintro e9 wA ⟨Av, cv, rfl, hV, hbA⟩
            have HVA := Az.mk hV
            have HBA := Az.mk (bst (below_drew (Below.refl wq.heap.size wq)) hbA)
            clear hV hbA)
         | ((with_reducible refine (HPT.out (wq.alloc (.cells #[.int .i64 0, .int .i64 0, .slice none 0 0] 28)).drew (below_drew (bal (Below.refl _ _) _))).mono ?_)
            rintro e9 wA ⟨Av, cv, rfl, hV, hbA⟩
            have HVA := Az.mk hV
            have HBA := Az.mk (bst (below_drew (bal (Below.refl wq.heap.size wq) _)) hbA)
            have G := bkB (blk_drew (blk_new wq (.cells #[.int .i64 0, .int .i64 0, .slice none 0 0] 28))) hbA
            have k90 := (blk_cell G 0).trans rfl
            have k91 := (blk_cell G 1).trans rfl
            have k92 := (blk_cell G 2).trans rfl
            have f90 := bkF G 0
            have f91 := bkF G 1
            have f92 := bkF G 2
            have HG9 := Az.mk G
            clear G hV hbA))
      all_goals (
        go_wp2_with fail
        go_meet
        first
        | exact ⟨_, Av, cv, rfl, rfl, rfl, ⟨blk_new _ _⟩, ⟨Kd.V_alloc HVA.out _⟩, ⟨bal HBA.out _⟩⟩
        | exact ⟨_, Av, cv, rfl, rfl, rfl, ⟨blk_put (cs' := #[.int .i64 y.f2.f0, .int .i64 y.f2.f1, .slice Av y.f2.f2.length cv]) (blk_put (cs' := #[.int .i64 y.f2.f0, .int .i64 y.f2.f1, .slice none 0 0]) (blk_put (cs' := #[.int .i64 y.f2.f0, .int .i64 0, .slice none 0 0]) HG9.out 0 _ rfl) 1 _ rfl) 2 _ rfl⟩, ⟨Kd.V_mono (Kd.V_far (p := ⟨wq.heap.size, 2, none⟩) (Kd.V_far (p := ⟨wq.heap.size, 1, none⟩) (Kd.V_far (p := ⟨wq.heap.size, 0, none⟩) (Kd.V_mono (ok' := fun k => wq.heap.size + 1 ≤ k) HVA.out (fun k hk => by have e : (wq.alloc (.cells #[.int .i64 0, .int .i64 0, .slice none 0 0] 28)).heap.size = wq.heap.size + 1 := Array.size_push _; have : (wq.alloc (.cells #[.int .i64 0, .int .i64 0, .slice none 0 0] 28)).heap.size ≤ k := hk; omega)) (fun k hk => by show k ≠ wq.heap.size; omega) _) (fun k hk => by show k ≠ wq.heap.size; omega) _) (fun k hk => by show k ≠ wq.heap.size; omega) _) (fun k hk => by omega)⟩, ⟨bset (bset (bset HBA.out (Nat.le_refl _)) (Nat.le_refl _)) (Nat.le_refl _)⟩⟩)
    case rest =>
      obtain ⟨g, Av, cv, rfl, rfl, rfl, S10, HV, HBc⟩ := hcut
      clear e0 e1 e2 e0' e1' e2' HPT
      have STc := Az.mk (STq.out.below HBc.out)
      have Sgc := Az.mk (bkB Sgi.out HBc.out)
      have Hq := Az.mk (show ∀ k, (Value.slice Ao i co).ownBlock = some k → k < wq.heap.size from by
        have h := STq.out.2.2.2.1
        rw [show (out.take i).length = i from by rw [List.length_take]; have := HOL.out; omega] at h
        exact Kd.N_lt h)
      have Hwq := Az.mk (STq.out.2.2.2.2.2.2.size)
      clear Sgi STq
      go_upto_region 13 with (
        go_at_call 63
        (with_reducible refine (virgationref03_begins.calls tx at_ (⟨#[10]⟩ : ByteArray) true _ HP2.out).mono ?_)
        rintro e9 w9 ⟨rfl, hd9⟩
        have ST9 := Az.mk (STc.out.below hd9.below)
        have Sg9 := Az.mk (bkB Sgc.out hd9.below)
        have S109 := Az.mk (bkB S10.out hd9.below)
        have HV9 := Az.mk (Kd.V_below HV.out hd9.below)
        have HB9 := Az.mk (bst HBc.out hd9.below)
        clear hd9 STc Sgc S10 HV HBc)
      have n0 : w9.cell? ⟨gi, 0, none⟩ = some (.string y.f0) := (blk_cell Sg9.out 0).trans rfl
      have n1 : w9.cell? ⟨gi, 1, none⟩ = some (.slice A3 y.f1.f0.length c3) := (blk_cell Sg9.out 1).trans rfl
      have m0 : w9.cell? ⟨g, 0, none⟩ = some (.int .i64 y.f2.f0) := (blk_cell S109.out 0).trans rfl
      have m1 : w9.cell? ⟨g, 1, none⟩ = some (.int .i64 y.f2.f1) := (blk_cell S109.out 1).trans rfl
      have m2 : w9.cell? ⟨g, 2, none⟩ = some (.slice Av y.f2.f2.length cv) := (blk_cell S109.out 2).trans rfl
      go_wp2_with (at_builtin; refine holdX ?_)
      unfold HoldX
      clear n0 n1 m0 m1 m2
      obtain ⟨v1, v2, v3, v4, s4, s2, hb⟩ := ST9.out
      have hdl : (out.take i).length = i := by rw [List.length_take]; have := HOL.out; omega
      rw [hdl] at v4
      have hbs := Kd.N_base v4
      have h4 := HL4.out
      have h24 := HG24.out
      have hwq := Hwq.out
      refine Kd.N_append k84 (w0 := wp) wp.heap.size rfl (.tmp 54) (.tmp 61) 23 84 (.agg #[.string ⟨#[]⟩, .slice none 0 0, .int .i64 0, .int .i64 0, .slice none 0 0]) 80 rfl Try.underlying23 (by kernel_rfl) rfl (by decide) (by omega) (.slice Ao i co) (out.take i) y [.string y.f0, .slice A3 y.f1.f0.length c3, .int .i64 y.f2.f0, .int .i64 y.f2.f1, .slice Av y.f2.f2.length cv] (fun k => k ≠ g2 ∧ k ≠ g4) (fun k => (g2 < k ∧ k < g4) ∨ wq.heap.size ≤ k) rfl rfl (k84_mkF _ _ y Hl3.out (Kd.F_mono (Kd.F_below HF3q.out HB9.out) (fun k hk => .inl hk)) (Kd.V_at HV9.out).2.1 (Kd.F_mono (Kd.V_at HV9.out).2.2 (fun k hk => .inr hk))) (fun k hk => by
          rcases hk with ⟨h1, h2⟩ | h1
          · exact ⟨⟨by omega, by omega⟩, fun e => by have := hbs k e.symm; omega⟩
          · exact ⟨⟨by omega, by omega⟩, fun e => by have := Hq.out k e.symm; omega⟩) (fun k hk => by have := hb.size; exact ⟨by omega, by omega⟩) v4 hb hb.size (by rw [hdl]; have := HL2.out; omega) ?_
      intro v5 w7 hn7 hb7 hg7 hat
      rw [← HSN.out] at hn7
      obtain ⟨A5, c5, e5⟩ := Kd.N_slice hn7
      rw [List.length_take, Nat.min_eq_left (by have := HOL.out; omega)] at e5
      subst e5
      have ST7 := Az.mk (show GtS wp g2 g4 A0 c0 (some ad) c1 (some adb) cb A5 c5 sy fu bo (out.take (i + 1)) w7 from by
        refine ⟨Kd.V_grown v1 hg7 (fun k hk e => by have := hbs k e.symm; omega), Kd.V_grown v2 hg7 (fun k hk e => by have := hbs k e.symm; omega), Kd.V_grown v3 hg7 (fun k hk e => by have := hbs k e.symm; omega), ?_, blk_grown s4 hg7 (Kd.N_away v4 (fun k hk => hk.2)), blk_grown s2 hg7 (Kd.N_away v4 (fun k hk => hk.1)), hb7⟩
        rw [show (out.take (i + 1)).length = i + 1 from by rw [List.length_take]; have := HOL.out; omega]
        exact hn7)
      clear hn7 hb7 hg7 hat v1 v2 v3 v4 s4 s2 hb hbs h4 h24 hwq hdl ST9 Sg9 S109 HV9 HB9
      go_wp2_with fail
      go_roundg k1
      case measure => omega
      case rel => have hl := HL2.out; exact ⟨i + 1, A5, c5, by first | rfl | (simp; done) | (simp [*]; done), by first | rfl | (refine congrArg _ ?_; unfold wrap64; omega), ⟨by have := Hi.out; omega⟩, ST7⟩
end Go.Proofs.Ytnfgpepggehegaa.I
namespace Go.Proofs.Ytnfgpepggehegaa.I
open Go.RowKit Go.Proofs.YtnfgpepggehegaaW.PrintWords
set_option maxRecDepth 100000
def exT : ByteArray := { data := (List.append [115, 121, 109, 98, 111, 108, 32, 97, 32, 50, 10, 115, 121, 109, 98, 111, 108, 32, 98, 32, 49, 10, 115, 121, 109, 98, 111, 108, 32, 99, 32, 48, 10, 102, 117, 110, 32, 115, 32, 58, 32, 111] [32, 61, 32, 102, 32, 35, 99, 10, 102, 117, 110, 32, 102, 32, 58, 32, 111, 32, 62, 32, 111, 32, 61, 32, 35, 97, 32, 36, 48, 32, 40, 102, 32, 40, 35, 98, 32, 36, 48, 41, 41, 10]).toArray }
def x0 : S28 := ⟨0, 0, []⟩
def x1 : S28 := ⟨2, 1, [x0]⟩
def x2 : S28 := ⟨1, 1, [x1]⟩
def x3 : S28 := ⟨2, 0, [x0, x2]⟩
def xc : S28 := ⟨2, 2, []⟩
def xs : S28 := ⟨1, 1, [xc]⟩
def exSy : List S87 := [⟨⟨#[97]⟩, 2⟩, ⟨⟨#[98]⟩, 1⟩, ⟨⟨#[99]⟩, 0⟩]
def exFu : List S84 := [⟨⟨#[115]⟩, ⟨[]⟩, ⟨0, 0, []⟩⟩, ⟨⟨#[102]⟩, ⟨[⟨[]⟩]⟩, ⟨0, 0, []⟩⟩]
def exOut : List S84 := [⟨⟨#[115]⟩, ⟨[]⟩, xs⟩, ⟨⟨#[102]⟩, ⟨[⟨[]⟩]⟩, x3⟩]
def exBo : List Int := [45, 66]
theorem ex_syms : Syms exT exSy 0 33 := by
  refine ⟨11, ⟨20, 7, 8, 9, 10, by kernel_rfl, by kernel_rfl, by kernel_rfl, ⟨by decide, by decide, by decide +kernel⟩, by kernel_rfl, by kernel_rfl, by kernel_rfl, by kernel_rfl, by kernel_rfl, by kernel_rfl, by kernel_rfl⟩, ?_⟩
  refine ⟨22, ⟨20, 18, 19, 20, 21, by kernel_rfl, by kernel_rfl, by kernel_rfl, ⟨by decide, by decide, by decide +kernel⟩, by kernel_rfl, by kernel_rfl, by kernel_rfl, by kernel_rfl, by kernel_rfl, by kernel_rfl, by kernel_rfl⟩, ?_⟩
  refine ⟨33, ⟨20, 29, 30, 31, 32, by kernel_rfl, by kernel_rfl, by kernel_rfl, ⟨by decide, by decide, by decide +kernel⟩, by kernel_rfl, by kernel_rfl, by kernel_rfl, by kernel_rfl, by kernel_rfl, by kernel_rfl, by kernel_rfl⟩, ?_⟩
  exact ⟨rfl, by kernel_rfl⟩
theorem ex_quiet1 : ∀ j : Nat, j < 49 → 42 ≤ j → bt exT (j : Int) ≠ 10 := by decide +kernel
theorem ex_quiet2 : ∀ j : Nat, j < 83 → 63 ≤ j → bt exT (j : Int) ≠ 10 := by decide +kernel
theorem ex_funs : Funs exT exFu exBo 33 := by
  refine ⟨45, [66], 50, rfl, ⟨40, 37, 38, 41, 42, 42, 49, by kernel_rfl, by kernel_rfl, by kernel_rfl, ⟨by decide, by decide, by decide +kernel⟩, by kernel_rfl, by kernel_rfl, by kernel_rfl, by kernel_rfl, by kernel_rfl, by kernel_rfl, by kernel_rfl, ⟨rfl, by decide, by decide +kernel, by decide⟩, fun j h1 h2 => ex_quiet1 j h2 h1, by kernel_rfl, rfl, rfl⟩, ?_⟩
  refine ⟨66, [], 84, rfl, ⟨40, 54, 55, 58, 63, 63, 83, by kernel_rfl, by kernel_rfl, by kernel_rfl, ⟨by decide, by decide, by decide +kernel⟩, by kernel_rfl, by kernel_rfl, by kernel_rfl, by kernel_rfl, by kernel_rfl, by kernel_rfl, by kernel_rfl, ⟨rfl, by decide, by decide +kernel, by decide⟩, fun j h1 h2 => ex_quiet2 j h2 h1, by kernel_rfl, rfl, rfl⟩, ?_⟩
  exact ⟨rfl, by kernel_rfl, by kernel_rfl⟩
theorem hS0 (a b a2 : Int) (h1 : virgationref03_begins.f exT a (⟨#[36]⟩ : ByteArray) = some false) (h2 : virgationref03_begins.f exT a (⟨#[35]⟩ : ByteArray) = some true) (h3 : wrap64 (a + 1) = b) (h4 : virgationref03_word.f 20 exT b = some a2) (h5 : 0 ≤ b ∧ b ≤ a2 ∧ a2 ≤ (exT.size : Int)) (m : Nat) (h6 : m < exSy.length) (h7 : ∀ j : Nat, j < m → ((rd_T87 exSy (j : Int)).f0.toList == (exT.extract b.toNat a2.toNat).toList) = false) (h8 : ((rd_T87 exSy (m : Int)).f0.toList == (exT.extract b.toNat a2.toNat).toList) = true) : PHead 20 exT exSy exFu a 2 (m : Int) a2 :=
  .inr (.inl ⟨h1, h2, rfl, b, m, h3, rfl, h4, h5, h6, h7, h8⟩)
theorem hF0 (a a2 : Int) (h1 : virgationref03_begins.f exT a (⟨#[36]⟩ : ByteArray) = some false) (h2 : virgationref03_begins.f exT a (⟨#[35]⟩ : ByteArray) = some false) (h4 : virgationref03_word.f 20 exT a = some a2) (h5 : 0 ≤ a ∧ a ≤ a2 ∧ a2 ≤ (exT.size : Int)) (m : Nat) (h6 : m < exFu.length) (h7 : ∀ j : Nat, j < m → ((rd_T84 exFu (j : Int)).f0.toList == (exT.extract a.toNat a2.toNat).toList) = false) (h8 : ((rd_T84 exFu (m : Int)).f0.toList == (exT.extract a.toNat a2.toNat).toList) = true) : PHead 20 exT exSy exFu a 1 (m : Int) a2 :=
  .inr (.inr ⟨h1, h2, rfl, a, m, rfl, rfl, h4, h5, h6, h7, h8⟩)
theorem hV0 (a b a2 : Int) (h1 : virgationref03_begins.f exT a (⟨#[36]⟩ : ByteArray) = some true) (h3 : wrap64 (a + 1) = b) (h4 : virgationref03_number.f 20 exT b = some (0, a2, true)) : PHead 20 exT exSy exFu a 0 0 a2 := .inl ⟨h1, rfl, b, h3, h4⟩
theorem hC (a b a2 : Int) (h1 : virgationref03_begins.f exT a (⟨#[36]⟩ : ByteArray) = some false) (h2 : virgationref03_begins.f exT a (⟨#[35]⟩ : ByteArray) = some true) (h3 : wrap64 (a + 1) = b) (h4 : virgationref03_word.f 20 exT b = some a2) (h5 : 0 ≤ b ∧ b ≤ a2 ∧ a2 ≤ (exT.size : Int)) (h7 : ∀ j : Nat, j < 2 → ((rd_T87 exSy (j : Int)).f0.toList == (exT.extract b.toNat a2.toNat).toList) = false) (h8 : ((rd_T87 exSy (2 : Int)).f0.toList == (exT.extract b.toNat a2.toNat).toList) = true) : PHead 20 exT exSy exFu a 2 2 a2 := hS0 a b a2 h1 h2 h3 h4 h5 2 (by decide) h7 h8
theorem pt_nil (N : Nat) (a : Int) (h : virgationref03_begins.f exT a (⟨#[32]⟩ : ByteArray) = some false) : PTail 20 exT exSy exFu (N + 1) a [] a := ⟨h, rfl⟩
theorem two_no {p : Nat → Prop} (h0 : p 0) (h1 : p 1) : ∀ j : Nat, j < 2 → p j
  | 0, _ => h0
  | 1, _ => h1
  | j + 2, h => absurd h (by omega)
theorem one_no {p : Nat → Prop} (h0 : p 0) : ∀ j : Nat, j < 1 → p j
  | 0, _ => h0
  | j + 1, h => absurd h (by omega)
theorem zer_no {p : Nat → Prop} : ∀ j : Nat, j < 0 → p j := fun j h => absurd h (by omega)
theorem pt_1 : PTail 20 exT exSy exFu 8 46 [xc] 49 :=
  ⟨by kernel_rfl, .inr ⟨by kernel_rfl, 47, 49, by kernel_rfl, hC 47 48 49 (by kernel_rfl) (by kernel_rfl) (by kernel_rfl) (by kernel_rfl) ⟨by decide, by decide, by decide +kernel⟩ (two_no (by kernel_rfl) (by kernel_rfl)) (by kernel_rfl), rfl, pt_nil 6 49 (by kernel_rfl)⟩⟩
theorem pt_b : PTail 20 exT exSy exFu 5 78 [x0] 81 :=
  ⟨by kernel_rfl, .inr ⟨by kernel_rfl, 79, 81, by kernel_rfl, hV0 79 80 81 (by kernel_rfl) (by kernel_rfl) (by kernel_rfl), rfl, pt_nil 3 81 (by kernel_rfl)⟩⟩
theorem pt_f : PTail 20 exT exSy exFu 6 74 [x1] 82 :=
  ⟨by kernel_rfl, .inl ⟨by kernel_rfl, 76, 78, 81, 82, by kernel_rfl, hS0 76 77 78 (by kernel_rfl) (by kernel_rfl) (by kernel_rfl) (by kernel_rfl) ⟨by decide, by decide, by decide +kernel⟩ 1 (by decide) (one_no (by kernel_rfl)) (by kernel_rfl), pt_b, by decide, by kernel_rfl, by kernel_rfl, pt_nil 4 82 (by kernel_rfl)⟩⟩
theorem pt_a2 : PTail 20 exT exSy exFu 7 71 [x2] 83 :=
  ⟨by kernel_rfl, .inl ⟨by kernel_rfl, 73, 74, 82, 83, by kernel_rfl, hF0 73 74 (by kernel_rfl) (by kernel_rfl) (by kernel_rfl) ⟨by decide, by decide, by decide +kernel⟩ 1 (by decide) (one_no (by kernel_rfl)) (by kernel_rfl), pt_f, by decide, by kernel_rfl, by kernel_rfl, pt_nil 5 83 (by kernel_rfl)⟩⟩
theorem pt_2 : PTail 20 exT exSy exFu 8 68 [x0, x2] 83 :=
  ⟨by kernel_rfl, .inr ⟨by kernel_rfl, 69, 71, by kernel_rfl, hV0 69 70 71 (by kernel_rfl) (by kernel_rfl) (by kernel_rfl), rfl, pt_a2⟩⟩
theorem ex_parse : ∀ i : Nat, i < exFu.length → ∃ b0 at_, PHead 20 exT exSy exFu (rd exBo (i : Int)) (rd_T84 exOut (i : Int)).f2.f0 (rd_T84 exOut (i : Int)).f2.f1 b0 ∧ PTail 20 exT exSy exFu 8 b0 (rd_T84 exOut (i : Int)).f2.f2 at_ ∧ virgationref03_begins.f exT at_ (⟨#[10]⟩ : ByteArray) = some true ∧ (rd_T84 exOut (i : Int)).f0 = (rd_T84 exFu (i : Int)).f0 ∧ (rd_T84 exOut (i : Int)).f1 = (rd_T84 exFu (i : Int)).f1
  | 0, _ => ⟨46, 49, hF0 45 46 (by kernel_rfl) (by kernel_rfl) (by kernel_rfl) ⟨by decide, by decide, by decide +kernel⟩ 1 (by decide) (one_no (by kernel_rfl)) (by kernel_rfl), pt_1, by kernel_rfl, rfl, rfl⟩
  | 1, _ => ⟨68, 83, hS0 66 67 68 (by kernel_rfl) (by kernel_rfl) (by kernel_rfl) (by kernel_rfl) ⟨by decide, by decide, by decide +kernel⟩ 0 (by decide) zer_no (by kernel_rfl), pt_2, by kernel_rfl, rfl, rfl⟩
  | i + 2, h => absurd h (by show ¬ (i + 2 < 2); omega)
theorem ex_sch : schB exSy exOut = true := by kernel_rfl
def xt : S28 := ⟨1, 0, []⟩
def xr : S28 := ⟨2, 0, [xc, ⟨1, 1, [⟨2, 1, [xc]⟩]⟩]⟩
theorem ex_step : stepF exSy exOut xt = (xs, true, 0) := by kernel_rfl
theorem ex_run : runF exSy exOut xt 2 = (xr, 2, 0) := by kernel_rfl
theorem ex_t1 : virgationref03_Term.f 60 exSy exOut 1 1 [xc] = some (⟨#[102, 32, 35, 99]⟩ : ByteArray) := by kernel_rfl
theorem ex_t2 : virgationref03_Term.f 60 exSy exOut xr.f0 xr.f1 xr.f2 = some (⟨#[35, 97, 32, 35, 99, 32, 40, 102, 32, 40, 35, 98, 32, 35, 99, 41, 41]⟩ : ByteArray) := by kernel_rfl
theorem get_ex (d : Array UInt8) (hd : d = exT.data) (w : World) :
    Calls Try.prog 34 #[.string { data := d }] w fun e w' => ∃ A0 c0 A1 c1, e = .returned (.tuple #[.agg #[.slice A0 3 c0, .slice A1 2 c1], .int .i64 0]) ∧ Kd.C k87 w' A0 exSy.length exSy ∧ exSy.length ≤ c0 ∧ Kd.C k84 w' A1 exOut.length exOut ∧ exOut.length ≤ c1 ∧ Below w.heap.size w w' := by
  subst hd
  exact get_calls 20 8 exT 33 exSy exFu exBo exOut w ex_syms ex_funs (by decide) (by decide) rfl rfl (by decide +kernel) (by decide) ex_parse ex_sch
end Go.Proofs.Ytnfgpepggehegaa.I
