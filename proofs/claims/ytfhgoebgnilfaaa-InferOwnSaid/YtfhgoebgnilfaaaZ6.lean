/- Texts of this session's proof, laid together: I11, IPO, IS3, IS4, IS5. -/
import Derived.Deep.RegionHeld3
import Derived.Deep.RegionLaw
import Derived.Test.YtfhgoebgnilfaaaZ5
namespace Go.Proofs.Ytfhgoebgnilfaaa.I
open Go.RowKit Go.Proofs.YtfhgoebgnilfaaaW.PrintWords Go.Proofs.YtfhgoebgnilfaaaW.PrintLast Go.Proofs.YtfhgoebgnilfaaaW.PrintMore
attribute [local go_sem] max2_int min2_int max_two min_two max_three min_three max_four min_four   -- for this text's walks alone
set_option linter.unusedVariables false
set_option linter.unusedSimpArgs false
mutual
def virgationref02_Equal.j0 : Nat → Bool → Int → Int → List (S44) → Int → Int → List (S44) → Option (Bool)
  | 0, _, _, _, _, _, _, _ => none
  | k + 1, x26, x302000, x302001, x302002, x303000, x303001, x303002 => if x26 = true then (some false) else (virgationref02_Equal.l0 k (x302002.length : Int) 0 x302000 x302001 x302002 x303000 x303001 x303002)
def virgationref02_Equal.l0 : Nat → Int → Int → Int → Int → List (S44) → Int → Int → List (S44) → Option (Bool)
  | 0, _, _, _, _, _, _, _, _ => none
  | k + 1, x29, x30, x302000, x302001, x302002, x303000, x303001, x303002 => if x30 < x29 then (if 0 ≤ x30 then (if x30 < (x302002.length : Int) then (if x30 < (x303002.length : Int) then ((virgationref02_Equal.f k ((rd_T44 x302002 x30).f0) ((rd_T44 x302002 x30).f1) ((rd_T44 x302002 x30).f2) ((rd_T44 x303002 x30).f0) ((rd_T44 x303002 x30).f1) ((rd_T44 x303002 x30).f2)).bind fun t305 => (if t305 = true then (virgationref02_Equal.l0 k x29 (wrap64 (x30 + 1)) x302000 x302001 x302002 x303000 x303001 x303002) else (some false))) else (none)) else (none)) else (none)) else (some true)
def virgationref02_Equal.f : Nat → Int → Int → List (S44) → Int → Int → List (S44) → Option (Bool)
  | 0, _, _, _, _, _, _ => none
  | k + 1, a0_0, a0_1, l0_2, a1_0, a1_1, l1_2 => if a0_0 = a1_0 then (if a0_1 = a1_1 then (virgationref02_Equal.j0 k ((l0_2.length : Int) != (l1_2.length : Int)) a0_0 a0_1 l0_2 a1_0 a1_1 l1_2) else (virgationref02_Equal.j0 k true a0_0 a0_1 l0_2 a1_0 a1_1 l1_2)) else (virgationref02_Equal.j0 k true a0_0 a0_1 l0_2 a1_0 a1_1 l1_2)
end
theorem virgationref02_Equal.mono_l : ∀ k, (∀ y0 y1 y2 y3 y4 y5, LeO (virgationref02_Equal.f k y0 y1 y2 y3 y4 y5) (virgationref02_Equal.f (k + 1) y0 y1 y2 y3 y4 y5)) ∧ (∀ y0 y1 y2 y3 y4 y5 y6, LeO (virgationref02_Equal.j0 k y0 y1 y2 y3 y4 y5 y6) (virgationref02_Equal.j0 (k + 1) y0 y1 y2 y3 y4 y5 y6)) ∧ (∀ y0 y1 y2 y3 y4 y5 y6 y7, LeO (virgationref02_Equal.l0 k y0 y1 y2 y3 y4 y5 y6 y7) (virgationref02_Equal.l0 (k + 1) y0 y1 y2 y3 y4 y5 y6 y7))
  | 0 => ⟨fun _ _ _ _ _ _ r h => by simp [virgationref02_Equal.f] at h, fun _ _ _ _ _ _ _ r h => by simp [virgationref02_Equal.j0] at h, fun _ _ _ _ _ _ _ _ r h => by simp [virgationref02_Equal.l0] at h⟩
  | k + 1 => by
    obtain ⟨ih0, ih1, ih2⟩ := virgationref02_Equal.mono_l k
    refine ⟨?_, ?_, ?_⟩
    · intro y0 y1 y2 y3 y4 y5
      unfold virgationref02_Equal.f
      repeat' first
      | (with_reducible exact ih0 _ _ _ _ _ _)
      | (with_reducible exact ih1 _ _ _ _ _ _ _)
      | (with_reducible exact ih2 _ _ _ _ _ _ _ _)
      | (with_reducible exact LeO.refl _)
      | (with_reducible exact LeO.none _)
      | (with_reducible refine LeO.ite ?_ ?_)
      | (with_reducible refine LeO.bind ?_ (fun _ => ?_))
      | exact ih0 _ _ _ _ _ _
      | exact ih1 _ _ _ _ _ _ _
      | exact ih2 _ _ _ _ _ _ _ _
      | exact LeO.none _
      | refine LeO.ite ?_ ?_
      | refine LeO.bind ?_ (fun _ => ?_)
    · intro y0 y1 y2 y3 y4 y5 y6
      unfold virgationref02_Equal.j0
      repeat' first
      | (with_reducible exact ih0 _ _ _ _ _ _)
      | (with_reducible exact ih1 _ _ _ _ _ _ _)
      | (with_reducible exact ih2 _ _ _ _ _ _ _ _)
      | (with_reducible exact LeO.refl _)
      | (with_reducible exact LeO.none _)
      | (with_reducible refine LeO.ite ?_ ?_)
      | (with_reducible refine LeO.bind ?_ (fun _ => ?_))
      | exact ih0 _ _ _ _ _ _
      | exact ih1 _ _ _ _ _ _ _
      | exact ih2 _ _ _ _ _ _ _ _
      | exact LeO.none _
      | refine LeO.ite ?_ ?_
      | refine LeO.bind ?_ (fun _ => ?_)
    · intro y0 y1 y2 y3 y4 y5 y6 y7
      unfold virgationref02_Equal.l0
      repeat' first
      | (with_reducible exact ih0 _ _ _ _ _ _)
      | (with_reducible exact ih1 _ _ _ _ _ _ _)
      | (with_reducible exact ih2 _ _ _ _ _ _ _ _)
      | (with_reducible exact LeO.refl _)
      | (with_reducible exact LeO.none _)
      | (with_reducible refine LeO.ite ?_ ?_)
      | (with_reducible refine LeO.bind ?_ (fun _ => ?_))
      | exact ih0 _ _ _ _ _ _
      | exact ih1 _ _ _ _ _ _ _
      | exact ih2 _ _ _ _ _ _ _ _
      | exact LeO.none _
      | refine LeO.ite ?_ ?_
      | refine LeO.bind ?_ (fun _ => ?_)
theorem virgationref02_Equal.mono : ∀ a0 a1 a2 a3 a4 a5 k, LeO (virgationref02_Equal.f k a0 a1 a2 a3 a4 a5) (virgationref02_Equal.f (k + 1) a0 a1 a2 a3 a4 a5) := by
  intro a0 a1 a2 a3 a4 a5 k
  obtain ⟨ih0, ih1, ih2⟩ := virgationref02_Equal.mono_l k
  exact ih0 a0 a1 a2 a3 a4 a5
def virgationref02_Equal.T6 : Bool × List (List Nat × List Nat) := (true, [([], []), ([0], [0]), ([], []), ([1, 2], [1, 2]), ([3], [3]), ([], []), ([5], [5]), ([], []), ([6, 7], [6, 7]), ([8], [8]), ([4, 9], [4, 9]), ([10], [10])])
def virgationref02_Equal.B6 : List Nat := [0, 1, 0, 7, 15, 0, 32, 0, 224, 480, 1023, 2047]
theorem virgationref02_Equal.tab6 : rtab .any (opsOf Try.f26 6) = virgationref02_Equal.T6 := by kernel_rfl
theorem virgationref02_Equal.bits6 : waitsOk virgationref02_Equal.T6.2 virgationref02_Equal.B6 = true := by kernel_rfl
set_option maxHeartbeats 8000000 in
set_option maxRecDepth 100000 in
theorem virgationref02_Equal.calls (k : Nat) : ∀ (a0_0 : Int) (a0_1 : Int) (A0_2 : Option Addr) (c0_2 : Nat) (l0_2 : List (S44)) (a1_0 : Int) (a1_1 : Int) (A1_2 : Option Addr) (c1_2 : Nat) (l1_2 : List (S44)) (r : Bool) (w : World) (hr0_2 : Kd.C k44 w A0_2 l0_2.length l0_2) (hc0_2 : l0_2.length ≤ c0_2) (hr1_2 : Kd.C k44 w A1_2 l1_2.length l1_2) (hc1_2 : l1_2.length ≤ c1_2) (h : virgationref02_Equal.f k a0_0 a0_1 l0_2 a1_0 a1_1 l1_2 = some r),
    Calls Try.prog 26 #[.agg #[.int .i64 a0_0, .int .i64 a0_1, .slice A0_2 l0_2.length c0_2], .agg #[.int .i64 a1_0, .int .i64 a1_1, .slice A1_2 l1_2.length c1_2]] w fun e w' => e = .returned (.bool r) ∧ Below w.heap.size w w' := by
  induction k using Nat.strongRecOn with
  | _ k ih =>
  intro a0_0 a0_1 A0_2 c0_2 l0_2 a1_0 a1_1 A1_2 c1_2 l1_2 r w hr0_2 hc0_2 hr1_2 hc1_2 h
  cases k with
  | zero => exact absurd h (by simp [virgationref02_Equal.f])
  | succ k =>
  simp only [virgationref02_Equal.f] at h
  have hu44 := Try.underlying44
  have HR0_2 := Aside0.mk hr0_2
  have HC0_2 := Aside0.mk hc0_2
  clear hr0_2 hc0_2
  have HR1_2 := Aside0.mk hr1_2
  have HC1_2 := Aside0.mk hc1_2
  clear hr1_2 hc1_2
  have HB := Aside0.mk (Below.refl w.heap.size w)
  have H : (if a0_0 = a1_0 then (if a0_1 = a1_1 then (virgationref02_Equal.j0 k ((l0_2.length : Int) != (l1_2.length : Int)) a0_0 a0_1 l0_2 a1_0 a1_1 l1_2) else (virgationref02_Equal.j0 k true a0_0 a0_1 l0_2 a1_0 a1_1 l1_2)) else (virgationref02_Equal.j0 k true a0_0 a0_1 l0_2 a1_0 a1_1 l1_2)) = some r := h
  clear h
  have HC3 := Aside0.mk H
  clear H
  go_enter Try.func26, Try.ntmps26
  go_upto_region 1 with (first | ((with_reducible refine gate_dst (N := 2) rfl ?_); (try (refine gate_guard (by rfl) ?_; dsimp only)); refine box_event ?hg (N := 2) ?hd (cs := #[.int .i64 a0_0, .int .i64 a0_1, .slice A0_2 l0_2.length c0_2]) (t := 44) ?hr ?_; (case hd => rfl); (case hg => rfl); (case hr => first | (go_simp; done) | (go_simp; rfl)); intro gb301 hg w4 hbox hb; have n0_ := Aside0.mk (below_step (by repeat (first | (with_reducible first | exact HB.out | apply below_alloc | apply pw_below_drewN | apply below_drew1) | exact HB.out)) hb); have n1_ := Aside0.mk (hbox); have n2_ := Aside0.mk ((by rw [hg]; exact (below_size (by repeat (first | (with_reducible first | exact HB.out | apply below_alloc | apply pw_below_drewN | apply below_drew1) | exact HB.out))) : w.heap.size ≤ gb301)); have n3_ := Aside0.mk ((by rw [hg]; exact (below_size (by repeat (first | (with_reducible first | exact HB.out | apply below_alloc | apply pw_below_drewN | apply below_drew1) | exact HB.out))) : w.heap.size ≤ gb301)); clear HB; have HB := n0_; have BK301 := n1_; have GW301 := n2_; have GE301 := n3_; clear n0_ n1_ n2_ n3_; clear hb hbox hg) | ((with_reducible refine gate_dst (N := 3) rfl ?_); (try (refine gate_guard (by rfl) ?_; dsimp only)); refine box_event ?hg (N := 3) ?hd (cs := #[.int .i64 a1_0, .int .i64 a1_1, .slice A1_2 l1_2.length c1_2]) (t := 44) ?hr ?_; (case hd => rfl); (case hg => rfl); (case hr => first | (go_simp; done) | (go_simp; rfl)); intro gb302 hg w5 hbox hb; have n0_ := Aside0.mk (blk_below (g := gb301) (o := .cells #[.int .i64 a0_0, .int .i64 a0_1, .slice A0_2 l0_2.length c0_2] 44 (0, 0)) (by (with_reducible repeat (first | refine blk_drewN ?_ _ | refine blk_drew ?_ | refine blk_alloc ?_ _)); exact BK301.out) hb); have n1_ := Aside0.mk (below_step (by repeat (first | (with_reducible first | exact HB.out | apply below_alloc | apply pw_below_drewN | apply below_drew1 | refine below_set ?_ GE301.out) | exact HB.out)) hb); have n2_ := Aside0.mk (hbox); have n3_ := Aside0.mk ((by rw [hg]; exact (below_size (by repeat (first | (with_reducible first | exact HB.out | apply below_alloc | apply pw_below_drewN | apply below_drew1 | refine below_set ?_ GE301.out) | exact HB.out))) : w.heap.size ≤ gb302)); have n4_ := Aside0.mk ((by rw [hg]; exact (below_size (by repeat (first | (with_reducible first | exact HB.out | apply below_alloc | apply pw_below_drewN | apply below_drew1 | refine below_set ?_ GE301.out) | exact HB.out))) : w.heap.size ≤ gb302)); have n5_ := Aside0.mk ((by rw [hg]; exact Nat.ne_of_lt (blk_lt (g := gb301) (o := .cells #[.int .i64 a0_0, .int .i64 a0_1, .slice A0_2 l0_2.length c0_2] 44 (0, 0)) (by (with_reducible repeat (first | refine blk_drewN ?_ _ | refine blk_drew ?_ | refine blk_alloc ?_ _)); exact BK301.out)) : gb301 ≠ gb302)); have n6_ := Aside0.mk ((by rw [hg]; exact Nat.ne_of_gt (blk_lt (g := gb301) (o := .cells #[.int .i64 a0_0, .int .i64 a0_1, .slice A0_2 l0_2.length c0_2] 44 (0, 0)) (by (with_reducible repeat (first | refine blk_drewN ?_ _ | refine blk_drew ?_ | refine blk_alloc ?_ _)); exact BK301.out)) : gb302 ≠ gb301)); clear BK301; clear HB; have BK301 := n0_; have HB := n1_; have BK302 := n2_; have GW302 := n3_; have GE302 := n4_; have NB301_302 := n5_; have NB302_301 := n6_; clear n0_ n1_ n2_ n3_ n4_ n5_ n6_; clear hb hbox hg))
  (try simp only [Act.put, List.setIfInBounds_toArray, List.set_cons_zero, List.set_cons_succ])
  go_cut [26] (fun v26 wc => ∃ (kq : Nat) (x26_2 : Bool), v26 = .bool x26_2 ∧ Aside0 (virgationref02_Equal.j0 kq x26_2 a0_0 a0_1 l0_2 a1_0 a1_1 l1_2 = some r) ∧ Aside0 (kq ≤ k) ∧ Aside0 (wc.heap[gb301]? = some (.cells #[.int .i64 a0_0, .int .i64 a0_1, (.slice A0_2 l0_2.length c0_2)] 44 (0, 0))) ∧ Aside0 (wc.heap[gb302]? = some (.cells #[.int .i64 a1_0, .int .i64 a1_1, (.slice A1_2 l1_2.length c1_2)] 44 (0, 0))) ∧ Aside0 (Below w.heap.size w wc))
  case first =>
    have H := HC3.out
    clear HC3
    by_cases c6 : a0_0 = a1_0
    · rw [if_pos c6] at H
      have c6b0 : (a0_0 == a1_0) = true := beq_iff_eq.mpr c6
      have c6b1 : (a0_0 != a1_0) = false := bne_eq_false_iff_eq.mpr c6
      clear c6
      (first | rw [c6b0] | (simp only [i64_w, i32_w]; rw [c6b0]) | skip)
      by_cases c7 : a0_1 = a1_1
      · rw [if_pos c7] at H
        have c7b0 : (a0_1 == a1_1) = true := beq_iff_eq.mpr c7
        have c7b1 : (a0_1 != a1_1) = false := bne_eq_false_iff_eq.mpr c7
        clear c7
        have H' := Aside0.mk H
        clear H
        have hnb8 := NB301_302.out
        have hnc8 := NB302_301.out
        have hcz9_0 : w5.cell? ⟨gb301, 0, none⟩ = some (.int .i64 a0_0) := (blk_cell BK301.out 0).trans rfl
        have hcz9_1 : w5.cell? ⟨gb301, 1, none⟩ = some (.int .i64 a0_1) := (blk_cell BK301.out 1).trans rfl
        have hcz9_2 : w5.cell? ⟨gb301, 2, none⟩ = some (.slice A0_2 l0_2.length c0_2) := (blk_cell BK301.out 2).trans rfl
        have hfz9_0 := blk_frozen BK301.out 0
        have hfz9_1 := blk_frozen BK301.out 1
        have hfz9_2 := blk_frozen BK301.out 2
        have hcz10_0 : w5.cell? ⟨gb302, 0, none⟩ = some (.int .i64 a1_0) := (blk_cell BK302.out 0).trans rfl
        have hcz10_1 : w5.cell? ⟨gb302, 1, none⟩ = some (.int .i64 a1_1) := (blk_cell BK302.out 1).trans rfl
        have hcz10_2 : w5.cell? ⟨gb302, 2, none⟩ = some (.slice A1_2 l1_2.length c1_2) := (blk_cell BK302.out 2).trans rfl
        have hfz10_0 := blk_frozen BK302.out 0
        have hfz10_1 := blk_frozen BK302.out 1
        have hfz10_2 := blk_frozen BK302.out 2
        go_wp2
        go_meet
        case rel => exact ⟨_, (((l0_2.length : Int) != (l1_2.length : Int))), (by first | rfl | (simp; done) | (simp [*]; done)), H', ⟨by first | omega | exact Nat.le_refl _⟩, ⟨by (with_reducible repeat (first | refine blk_drewN ?_ _ | refine blk_drew ?_ | refine blk_alloc ?_ _)); exact BK301.out⟩, ⟨by (with_reducible repeat (first | refine blk_drewN ?_ _ | refine blk_drew ?_ | refine blk_alloc ?_ _)); exact BK302.out⟩, ⟨by repeat (first | (with_reducible first | exact HB.out | apply below_alloc | apply pw_below_drewN | apply below_drew1 | refine below_set ?_ GE301.out | refine below_set ?_ GE302.out) | exact HB.out)⟩⟩
      · rw [if_neg c7] at H
        have c7b0 : (a0_1 == a1_1) = false := beq_eq_false_iff_ne.mpr c7
        have c7b1 : (a0_1 != a1_1) = true := bne_iff_ne.mpr c7
        have H' := Aside0.mk H
        clear H
        have hnb11 := NB301_302.out
        have hnc11 := NB302_301.out
        have hcz12_0 : w5.cell? ⟨gb301, 0, none⟩ = some (.int .i64 a0_0) := (blk_cell BK301.out 0).trans rfl
        have hcz12_1 : w5.cell? ⟨gb301, 1, none⟩ = some (.int .i64 a0_1) := (blk_cell BK301.out 1).trans rfl
        have hcz12_2 : w5.cell? ⟨gb301, 2, none⟩ = some (.slice A0_2 l0_2.length c0_2) := (blk_cell BK301.out 2).trans rfl
        have hfz12_0 := blk_frozen BK301.out 0
        have hfz12_1 := blk_frozen BK301.out 1
        have hfz12_2 := blk_frozen BK301.out 2
        have hcz13_0 : w5.cell? ⟨gb302, 0, none⟩ = some (.int .i64 a1_0) := (blk_cell BK302.out 0).trans rfl
        have hcz13_1 : w5.cell? ⟨gb302, 1, none⟩ = some (.int .i64 a1_1) := (blk_cell BK302.out 1).trans rfl
        have hcz13_2 : w5.cell? ⟨gb302, 2, none⟩ = some (.slice A1_2 l1_2.length c1_2) := (blk_cell BK302.out 2).trans rfl
        have hfz13_0 := blk_frozen BK302.out 0
        have hfz13_1 := blk_frozen BK302.out 1
        have hfz13_2 := blk_frozen BK302.out 2
        go_wp2
        go_meet
        case rel => exact ⟨_, (true), (by first | rfl | (simp; done) | (simp [*]; done)), H', ⟨by first | omega | exact Nat.le_refl _⟩, ⟨by (with_reducible repeat (first | refine blk_drewN ?_ _ | refine blk_drew ?_ | refine blk_alloc ?_ _)); exact BK301.out⟩, ⟨by (with_reducible repeat (first | refine blk_drewN ?_ _ | refine blk_drew ?_ | refine blk_alloc ?_ _)); exact BK302.out⟩, ⟨by repeat (first | (with_reducible first | exact HB.out | apply below_alloc | apply pw_below_drewN | apply below_drew1 | refine below_set ?_ GE301.out | refine below_set ?_ GE302.out) | exact HB.out)⟩⟩
    · rw [if_neg c6] at H
      have c6b0 : (a0_0 == a1_0) = false := beq_eq_false_iff_ne.mpr c6
      have c6b1 : (a0_0 != a1_0) = true := bne_iff_ne.mpr c6
      (first | rw [c6b0] | (simp only [i64_w, i32_w]; rw [c6b0]) | skip)
      have H' := Aside0.mk H
      clear H
      have hnb14 := NB301_302.out
      have hnc14 := NB302_301.out
      have hcz15_0 : w5.cell? ⟨gb301, 0, none⟩ = some (.int .i64 a0_0) := (blk_cell BK301.out 0).trans rfl
      have hcz15_1 : w5.cell? ⟨gb301, 1, none⟩ = some (.int .i64 a0_1) := (blk_cell BK301.out 1).trans rfl
      have hcz15_2 : w5.cell? ⟨gb301, 2, none⟩ = some (.slice A0_2 l0_2.length c0_2) := (blk_cell BK301.out 2).trans rfl
      have hfz15_0 := blk_frozen BK301.out 0
      have hfz15_1 := blk_frozen BK301.out 1
      have hfz15_2 := blk_frozen BK301.out 2
      have hcz16_0 : w5.cell? ⟨gb302, 0, none⟩ = some (.int .i64 a1_0) := (blk_cell BK302.out 0).trans rfl
      have hcz16_1 : w5.cell? ⟨gb302, 1, none⟩ = some (.int .i64 a1_1) := (blk_cell BK302.out 1).trans rfl
      have hcz16_2 : w5.cell? ⟨gb302, 2, none⟩ = some (.slice A1_2 l1_2.length c1_2) := (blk_cell BK302.out 2).trans rfl
      have hfz16_0 := blk_frozen BK302.out 0
      have hfz16_1 := blk_frozen BK302.out 1
      have hfz16_2 := blk_frozen BK302.out 2
      go_wp2
      go_meet
      case rel => exact ⟨_, (true), (by first | rfl | (simp; done) | (simp [*]; done)), H', ⟨by first | omega | exact Nat.le_refl _⟩, ⟨by (with_reducible repeat (first | refine blk_drewN ?_ _ | refine blk_drew ?_ | refine blk_alloc ?_ _)); exact BK301.out⟩, ⟨by (with_reducible repeat (first | refine blk_drewN ?_ _ | refine blk_drew ?_ | refine blk_alloc ?_ _)); exact BK302.out⟩, ⟨by repeat (first | (with_reducible first | exact HB.out | apply below_alloc | apply pw_below_drewN | apply below_drew1 | refine below_set ?_ GE301.out | refine below_set ?_ GE302.out) | exact HB.out)⟩⟩
  case rest =>
    clear HC3
    try clear c1
    try clear c2
    try clear p2
    try clear c6
    try clear c6b0
    try clear c6b1
    try clear c7
    try clear c7b0
    try clear c7b1
    try clear c8
    try clear c11
    try clear c14
    try clear hcz10_0
    try clear hcz10_1
    try clear hcz10_2
    try clear hcz12_0
    try clear hcz12_1
    try clear hcz12_2
    try clear hcz13_0
    try clear hcz13_1
    try clear hcz13_2
    try clear hcz15_0
    try clear hcz15_1
    try clear hcz15_2
    try clear hcz16_0
    try clear hcz16_1
    try clear hcz16_2
    try clear hcz9_0
    try clear hcz9_1
    try clear hcz9_2
    try clear hfz10_0
    try clear hfz10_1
    try clear hfz10_2
    try clear hfz12_0
    try clear hfz12_1
    try clear hfz12_2
    try clear hfz13_0
    try clear hfz13_1
    try clear hfz13_2
    try clear hfz15_0
    try clear hfz15_1
    try clear hfz15_2
    try clear hfz16_0
    try clear hfz16_1
    try clear hfz16_2
    try clear hfz9_0
    try clear hfz9_1
    try clear hfz9_2
    obtain ⟨kq, x26_2, rfl, HA, HJ2, BK301, BK302, HB⟩ := hcut
    cases kq with
    | zero => exact absurd HA.out (by simp [virgationref02_Equal.j0])
    | succ kj2 =>
      have H := HA.out
      clear HA
      simp only [virgationref02_Equal.j0] at H
      by_cases c17 : x26_2 = true
      · subst c17
        have H1 : (some false) = some r := by rw [if_pos rfl] at H; exact H
        clear H
        have H := H1
        clear H1
        obtain rfl := Option.some.inj H
        go_wp2
        go_ret
        exact ⟨by first | rfl | (simp [errW_none, errW_some] <;> rfl) | (simp [*, errW_none, errW_some] <;> rfl), by repeat (first | (with_reducible first | exact HB.out | apply below_alloc | apply pw_below_drewN | apply below_drew1 | refine below_set ?_ GE301.out | refine below_set ?_ GE302.out) | exact HB.out)⟩
      · replace c17 := Bool.eq_false_iff.mpr c17
        subst c17
        have H1 : (virgationref02_Equal.l0 kj2 (l0_2.length : Int) 0 a0_0 a0_1 l0_2 a1_0 a1_1 l1_2) = some r := by rw [if_neg (show ¬ (false = true) by decide)] at H; exact H
        clear H
        have H := H1
        clear H1
        have H' := Aside0.mk H
        clear H
        have hnb18 := NB301_302.out
        have hnc18 := NB302_301.out
        have hcz19_0 : wc.cell? ⟨gb301, 0, none⟩ = some (.int .i64 a0_0) := (blk_cell BK301.out 0).trans rfl
        have hcz19_1 : wc.cell? ⟨gb301, 1, none⟩ = some (.int .i64 a0_1) := (blk_cell BK301.out 1).trans rfl
        have hcz19_2 : wc.cell? ⟨gb301, 2, none⟩ = some (.slice A0_2 l0_2.length c0_2) := (blk_cell BK301.out 2).trans rfl
        have hfz19_0 := blk_frozen BK301.out 0
        have hfz19_1 := blk_frozen BK301.out 1
        have hfz19_2 := blk_frozen BK301.out 2
        go_wp2
        go_loopg [30] kj2 (fun kq v30 w' => ∃ (x30_2 : Int), v30 = .int .i64 x30_2 ∧ Aside0 (virgationref02_Equal.l0 kq (l0_2.length : Int) x30_2 a0_0 a0_1 l0_2 a1_0 a1_1 l1_2 = some r) ∧ Aside0 (kq ≤ kj2) ∧ Aside0 (w'.heap[gb301]? = some (.cells #[.int .i64 a0_0, .int .i64 a0_1, (.slice A0_2 l0_2.length c0_2)] 44 (0, 0))) ∧ Aside0 (w'.heap[gb302]? = some (.cells #[.int .i64 a1_0, .int .i64 a1_1, (.slice A1_2 l1_2.length c1_2)] 44 (0, 0))) ∧ Aside0 (Below w.heap.size w w'))
        case atStart => exact ⟨(0), (by first | rfl | (simp; done) | (simp [*]; done)), H', ⟨Nat.le_refl _⟩, ⟨by (with_reducible repeat (first | refine blk_drewN ?_ _ | refine blk_drew ?_ | refine blk_alloc ?_ _)); exact BK301.out⟩, ⟨by (with_reducible repeat (first | refine blk_drewN ?_ _ | refine blk_drew ?_ | refine blk_alloc ?_ _)); exact BK302.out⟩, ⟨by repeat (first | (with_reducible first | exact HB.out | apply below_alloc | apply pw_below_drewN | apply below_drew1 | refine below_set ?_ GE301.out | refine below_set ?_ GE302.out) | exact HB.out)⟩⟩
        case round =>
          clear H'
          try clear c1
          try clear c2
          try clear p2
          try clear c6
          try clear c6b0
          try clear c6b1
          try clear c7
          try clear c7b0
          try clear c7b1
          try clear c8
          try clear c11
          try clear c14
          try clear c17
          try clear c18
          try clear hcz10_0
          try clear hcz10_1
          try clear hcz10_2
          try clear hcz12_0
          try clear hcz12_1
          try clear hcz12_2
          try clear hcz13_0
          try clear hcz13_1
          try clear hcz13_2
          try clear hcz15_0
          try clear hcz15_1
          try clear hcz15_2
          try clear hcz16_0
          try clear hcz16_1
          try clear hcz16_2
          try clear hcz19_0
          try clear hcz19_1
          try clear hcz19_2
          try clear hcz9_0
          try clear hcz9_1
          try clear hcz9_2
          try clear hfz10_0
          try clear hfz10_1
          try clear hfz10_2
          try clear hfz12_0
          try clear hfz12_1
          try clear hfz12_2
          try clear hfz13_0
          try clear hfz13_1
          try clear hfz13_2
          try clear hfz15_0
          try clear hfz15_1
          try clear hfz15_2
          try clear hfz16_0
          try clear hfz16_1
          try clear hfz16_2
          try clear hfz19_0
          try clear hfz19_1
          try clear hfz19_2
          try clear hfz9_0
          try clear hfz9_1
          try clear hfz9_2
          try clear p2
          obtain ⟨x30_2, rfl, HA, HK2, BK301, BK302, HB⟩ := hrel
          cases gk with
          | zero => exact absurd HA.out (by simp [virgationref02_Equal.l0])
          | succ k2 =>
            have H := HA.out
            clear HA
            simp only [virgationref02_Equal.l0] at H
            by_cases c20 : x30_2 < (l0_2.length : Int)
            · rw [if_pos c20] at H
              have c20b0 : decide (x30_2 < (l0_2.length : Int)) = true := decide_eq_true c20
              clear c20
              by_cases c21 : 0 ≤ x30_2
              · rw [if_pos c21] at H
                have c21b0 : decide (0 ≤ x30_2) = true := decide_eq_true c21
                clear c21
                by_cases c22 : x30_2 < (l0_2.length : Int)
                · rw [if_pos c22] at H
                  have c22b0 : decide (x30_2 < (l0_2.length : Int)) = true := decide_eq_true c22
                  clear c22
                  by_cases c23 : x30_2 < (l1_2.length : Int)
                  · rw [if_pos c23] at H
                    have c23b0 : decide (x30_2 < (l1_2.length : Int)) = true := decide_eq_true c23
                    clear c23
                    replace H := Option.bind_eq_some_iff.mp H
                    obtain ⟨t305, A240, H⟩ := H
                    replace H : (if t305 = true then (virgationref02_Equal.l0 k2 (l0_2.length : Int) (wrap64 (x30_2 + 1)) a0_0 a0_1 l0_2 a1_0 a1_1 l1_2) else (some false)) = some r := H
                    have A24 := Aside0.mk A240
                    clear A240
                    by_cases c25 : t305 = true
                    · subst c25
                      have H1 : (virgationref02_Equal.l0 k2 (l0_2.length : Int) (wrap64 (x30_2 + 1)) a0_0 a0_1 l0_2 a1_0 a1_1 l1_2) = some r := by rw [if_pos rfl] at H; exact H
                      clear H
                      have H := H1
                      clear H1
                      have H' := Aside0.mk H
                      clear H
                      try go_wp2
                      have n0_ := Aside0.mk (blk_drew BK301.out)
                      have n1_ := Aside0.mk (blk_drew BK302.out)
                      have n2_ := Aside0.mk (below_drew1 HB.out)
                      clear BK301
                      clear BK302
                      clear HB
                      have BK301 := n0_
                      have BK302 := n1_
                      have HB := n2_
                      clear n0_ n1_ n2_
                      have p303 : 0 ≤ (x30_2 : Int) := of_decide_eq_true (by first | (with_reducible assumption) | assumption)
                      have q303 : x30_2 < (l0_2.length : Int) := of_decide_eq_true (by first | (with_reducible assumption) | assumption)
                      obtain ⟨ad303, A303_2, c303_2, e303, hx303_0, hx303_1, hx303_2, hl303_2, hi303_2⟩ := at_T44 HR0_2.out x30_2 p303 q303
                      have hw303_2 := hx303_2
                      have hw303_1 := hx303_1
                      have hw303_0 := hx303_0
                      cases e303
                      replace hx303_0 := (HB.out.cell (World.block_lt_of_cell? w _ hx303_0)).trans hx303_0
                      replace hx303_1 := (HB.out.cell (World.block_lt_of_cell? w _ hx303_1)).trans hx303_1
                      replace hx303_2 := (HB.out.cell (World.block_lt_of_cell? w _ hx303_2)).trans hx303_2
                      have HR303_2 := Aside0.mk hi303_2
                      have HC303_2 := Aside0.mk hl303_2
                      clear hi303_2 hl303_2
                      replace p303 := eq_true p303
                      replace q303 := eq_true q303
                      have p304 : 0 ≤ (x30_2 : Int) := of_decide_eq_true (by first | (with_reducible assumption) | assumption)
                      have q304 : x30_2 < (l1_2.length : Int) := of_decide_eq_true (by first | (with_reducible assumption) | assumption)
                      obtain ⟨ad304, A304_2, c304_2, e304, hx304_0, hx304_1, hx304_2, hl304_2, hi304_2⟩ := at_T44 HR1_2.out x30_2 p304 q304
                      have hw304_2 := hx304_2
                      have hw304_1 := hx304_1
                      have hw304_0 := hx304_0
                      cases e304
                      replace hx304_0 := (HB.out.cell (World.block_lt_of_cell? w _ hx304_0)).trans hx304_0
                      replace hx304_1 := (HB.out.cell (World.block_lt_of_cell? w _ hx304_1)).trans hx304_1
                      replace hx304_2 := (HB.out.cell (World.block_lt_of_cell? w _ hx304_2)).trans hx304_2
                      have HR304_2 := Aside0.mk hi304_2
                      have HC304_2 := Aside0.mk hl304_2
                      clear hi304_2 hl304_2
                      replace p304 := eq_true p304
                      replace q304 := eq_true q304
                      refine start_ (n := 12) (S := fun w' => w'.cell? ⟨gb301, 0, none⟩ = some (.int .i64 a0_0) ∧ w'.cell? ⟨gb301, 1, none⟩ = some (.int .i64 a0_1) ∧ w'.cell? ⟨gb301, 2, none⟩ = some (.slice (some ad303) l0_2.length c0_2) ∧ w'.cell? ⟨gb302, 0, none⟩ = some (.int .i64 a1_0) ∧ w'.cell? ⟨gb302, 1, none⟩ = some (.int .i64 a1_1) ∧ w'.cell? ⟨gb302, 2, none⟩ = some (.slice (some ad304) l1_2.length c1_2) ∧ w'.cell? (ad303.add ((x30_2).toNat * 3)) = some (.int .i64 ((rd_T44 l0_2 x30_2).f0)) ∧ w'.cell? ⟨(ad303.add ((x30_2).toNat * 3)).block, (ad303.add ((x30_2).toNat * 3)).off + 1, none⟩ = some (.int .i64 ((rd_T44 l0_2 x30_2).f1)) ∧ w'.cell? ⟨(ad303.add ((x30_2).toNat * 3)).block, (ad303.add ((x30_2).toNat * 3)).off + 2, none⟩ = some (.slice A303_2 ((rd_T44 l0_2 x30_2).f2).length c303_2) ∧ w'.cell? (ad304.add ((x30_2).toNat * 3)) = some (.int .i64 ((rd_T44 l1_2 x30_2).f0)) ∧ w'.cell? ⟨(ad304.add ((x30_2).toNat * 3)).block, (ad304.add ((x30_2).toNat * 3)).off + 1, none⟩ = some (.int .i64 ((rd_T44 l1_2 x30_2).f1)) ∧ w'.cell? ⟨(ad304.add ((x30_2).toNat * 3)).block, (ad304.add ((x30_2).toNat * 3)).off + 2, none⟩ = some (.slice A304_2 ((rd_T44 l1_2 x30_2).f2).length c304_2)) (ds := []) #[false, false, false, false, false, false, false, false, false, false, false, false] (by kernel_rfl) rfl rfl ⟨(blk_cell BK301.out 0).trans rfl, (blk_cell BK301.out 1).trans rfl, (blk_cell BK301.out 2).trans rfl, (blk_cell BK302.out 0).trans rfl, (blk_cell BK302.out 1).trans rfl, (blk_cell BK302.out 2).trans rfl, ((HB.out.cell (World.block_lt_of_cell? w _ hw303_0)).trans hw303_0), ((HB.out.cell (World.block_lt_of_cell? w _ hw303_1)).trans hw303_1), ((HB.out.cell (World.block_lt_of_cell? w _ hw303_2)).trans hw303_2), ((HB.out.cell (World.block_lt_of_cell? w _ hw304_0)).trans hw304_0), ((HB.out.cell (World.block_lt_of_cell? w _ hw304_1)).trans hw304_1), ((HB.out.cell (World.block_lt_of_cell? w _ hw304_2)).trans hw304_2)⟩ (fun hHeld => ?_); refine with_tabW virgationref02_Equal.tab6 virgationref02_Equal.bits6 (fun HT_ HW_ => ?_)
                      generalize wr.drew = w26 at BK301 BK302 HB HR303_2 HR304_2 hx303_0 hx303_1 hx303_2 hx304_0 hx304_1 hx304_2 hHeld ⊢
                      refine pure_ (i := 0) (N := some 33) (v := ?_) (a' := ?_) #[true, false, false, false, false, false, false, false, false, false, false, false] rfl rfl (any_of HT_.out (by kernel_rfl)) (fun _ _ _ h => h) (Or.inl ⟨by rfl, ?_⟩) ?_ ?_
                      rotate_left
                      · intro w'
                        go_simp
                        with_reducible rfl
                      rotate_left
                      · simp only [Act.put, List.setIfInBounds_toArray, List.set_cons_zero, List.set_cons_succ, i64_w, i32_w]
                        rfl
                      refine pure_ (i := 2) (N := some 35) (v := ?_) (a' := ?_) #[true, false, true, false, false, false, false, false, false, false, false, false] rfl rfl (any_of HT_.out (by kernel_rfl)) (fun _ _ _ h => h) (Or.inl ⟨by rfl, ?_⟩) ?_ ?_
                      rotate_left
                      · intro w'
                        go_simp
                        with_reducible rfl
                      rotate_left
                      · simp only [Act.put, List.setIfInBounds_toArray, List.set_cons_zero, List.set_cons_succ, i64_w, i32_w]
                        rfl
                      refine pure_ (i := 5) (N := some 38) (v := ?_) (a' := ?_) #[true, false, true, false, false, true, false, false, false, false, false, false] rfl rfl (any_of HT_.out (by kernel_rfl)) (fun _ _ _ h => h) (Or.inl ⟨by rfl, ?_⟩) ?_ ?_
                      rotate_left
                      · intro w'
                        go_simp
                        with_reducible rfl
                      rotate_left
                      · simp only [Act.put, List.setIfInBounds_toArray, List.set_cons_zero, List.set_cons_succ, i64_w, i32_w]
                        rfl
                      refine pure_ (i := 7) (N := some 40) (v := ?_) (a' := ?_) #[true, false, true, false, false, true, false, true, false, false, false, false] rfl rfl (any_of HT_.out (by kernel_rfl)) (fun _ _ _ h => h) (Or.inl ⟨by rfl, ?_⟩) ?_ ?_
                      rotate_left
                      · intro w'
                        go_simp
                        with_reducible rfl
                      rotate_left
                      · simp only [Act.put, List.setIfInBounds_toArray, List.set_cons_zero, List.set_cons_succ, i64_w, i32_w]
                        rfl
                      refine take_ (i := 1) (N := some 34) (v := ?_) (a' := ?_) #[true, true, true, false, false, true, false, true, false, false, false, false] rfl rfl (take_ofW HT_.out HW_.out (by kernel_rfl)) (fun _ _ _ h => h) (Or.inl ⟨by rfl, ?_⟩) hHeld ?_ ?_
                      rotate_left
                      · rintro w' ⟨s0, s1, s2, s3, s4, s5, s6, s7, s8, s9, s10, s11⟩
                        go_simp
                        with_reducible rfl
                      rotate_left
                      · simp only [Act.put, List.setIfInBounds_toArray, List.set_cons_zero, List.set_cons_succ, i64_w, i32_w]
                        rfl
                      refine pure_ (i := 3) (N := some 36) (v := ?_) (a' := ?_) #[true, true, true, true, false, true, false, true, false, false, false, false] rfl rfl (any_of HT_.out (by kernel_rfl)) (fun _ _ _ h => h) (Or.inl ⟨by rfl, ?_⟩) ?_ ?_
                      rotate_left
                      · intro w'
                        go_simp
                        with_reducible rfl
                      rotate_left
                      · simp only [Act.put, List.setIfInBounds_toArray, List.set_cons_zero, List.set_cons_succ, i64_w, i32_w]
                        rfl
                      refine take_ (i := 4) (N := some 37) (v := ?_) (a' := ?_) #[true, true, true, true, true, true, false, true, false, false, false, false] rfl rfl (take_ofW HT_.out HW_.out (by kernel_rfl)) (fun _ _ _ h => h) (Or.inl ⟨by rfl, ?_⟩) hHeld ?_ ?_
                      rotate_left
                      · rintro w' ⟨s0, s1, s2, s3, s4, s5, s6, s7, s8, s9, s10, s11⟩
                        go_simp
                        with_reducible rfl
                      rotate_left
                      · simp only [Act.put, List.setIfInBounds_toArray, List.set_cons_zero, List.set_cons_succ, i64_w, i32_w]
                        rfl
                      refine take_ (i := 6) (N := some 39) (v := ?_) (a' := ?_) #[true, true, true, true, true, true, true, true, false, false, false, false] rfl rfl (take_ofW HT_.out HW_.out (by kernel_rfl)) (fun _ _ _ h => h) (Or.inl ⟨by rfl, ?_⟩) hHeld ?_ ?_
                      rotate_left
                      · rintro w' ⟨s0, s1, s2, s3, s4, s5, s6, s7, s8, s9, s10, s11⟩
                        go_simp
                        with_reducible rfl
                      rotate_left
                      · simp only [Act.put, List.setIfInBounds_toArray, List.set_cons_zero, List.set_cons_succ, i64_w, i32_w]
                        rfl
                      refine pure_ (i := 8) (N := some 41) (v := ?_) (a' := ?_) #[true, true, true, true, true, true, true, true, true, false, false, false] rfl rfl (any_of HT_.out (by kernel_rfl)) (fun _ _ _ h => h) (Or.inl ⟨by rfl, ?_⟩) ?_ ?_
                      rotate_left
                      · intro w'
                        go_simp
                        with_reducible rfl
                      rotate_left
                      · simp only [Act.put, List.setIfInBounds_toArray, List.set_cons_zero, List.set_cons_succ, i64_w, i32_w]
                        rfl
                      refine take_ (i := 9) (N := some 42) (v := ?_) (a' := ?_) #[true, true, true, true, true, true, true, true, true, true, false, false] rfl rfl (take_ofW HT_.out HW_.out (by kernel_rfl)) (fun _ _ _ h => h) (Or.inl ⟨by rfl, ?_⟩) hHeld ?_ ?_
                      rotate_left
                      · rintro w' ⟨s0, s1, s2, s3, s4, s5, s6, s7, s8, s9, s10, s11⟩
                        go_simp
                        with_reducible rfl
                      rotate_left
                      · simp only [Act.put, List.setIfInBounds_toArray, List.set_cons_zero, List.set_cons_succ, i64_w, i32_w]
                        rfl
                      refine one_ (i := 10) (N := some 43) #[true, true, true, true, true, true, true, true, true, true, true, false] rfl rfl (one_of HT_.out (by kernel_rfl)) (by decide) (fun K hK => ?_)
                      refine goes_ Try.func26 (by kernel_rfl) rfl #[.agg #[.int .i64 ((rd_T44 l0_2 x30_2).f0), .int .i64 ((rd_T44 l0_2 x30_2).f1), .slice A303_2 ((rd_T44 l0_2 x30_2).f2).length c303_2], .agg #[.int .i64 ((rd_T44 l1_2 x30_2).f0), .int .i64 ((rd_T44 l1_2 x30_2).f1), .slice A304_2 ((rd_T44 l1_2 x30_2).f2).length c304_2]] (by rfl) rfl rfl (by (try simp only [List.map_toArray, List.map_cons, List.map_nil]); first | done | rfl | (simp only [List.length_drop, List.length_take]; rfl)) ?_
                      with_reducible refine (ih k2 (by have := HJ2.out; have := HK2.out; omega) ((rd_T44 l0_2 x30_2).f0) ((rd_T44 l0_2 x30_2).f1) _ _ ((rd_T44 l0_2 x30_2).f2) ((rd_T44 l1_2 x30_2).f0) ((rd_T44 l1_2 x30_2).f1) _ _ ((rd_T44 l1_2 x30_2).f2) true _ ?side1 ?side2 ?side3 ?side4 A24.out).mono ?_
                      (case side1 => repeat (first | exact (Kd.C_below HR303_2.out HB.out) | (with_reducible refine Kd.C_alloc ?_ _) | (with_reducible refine Kd.C_drewN ?_ _) | (with_reducible refine Kd.C_drew ?_)))
                      (case side2 => exact HC303_2.out)
                      (case side3 => repeat (first | exact (Kd.C_below HR304_2.out HB.out) | (with_reducible refine Kd.C_alloc ?_ _) | (with_reducible refine Kd.C_drewN ?_ _) | (with_reducible refine Kd.C_drew ?_)))
                      (case side4 => exact HC304_2.out)
                      rintro e w27 ⟨rfl, hb⟩
                      refine ⟨_, rfl, ?_⟩
                      have n0_ := Aside0.mk (blk_below (g := gb301) (o := .cells #[.int .i64 a0_0, .int .i64 a0_1, .slice (some ad303) l0_2.length c0_2] 44 (0, 0)) (by (with_reducible repeat (first | refine blk_drewN ?_ _ | refine blk_drew ?_ | refine blk_alloc ?_ _)); exact BK301.out) hb)
                      have n1_ := Aside0.mk (blk_below (g := gb302) (o := .cells #[.int .i64 a1_0, .int .i64 a1_1, .slice (some ad304) l1_2.length c1_2] 44 (0, 0)) (by (with_reducible repeat (first | refine blk_drewN ?_ _ | refine blk_drew ?_ | refine blk_alloc ?_ _)); exact BK302.out) hb)
                      have n2_ := Aside0.mk (below_step (by repeat (first | (with_reducible first | exact HB.out | apply below_alloc | apply pw_below_drewN | apply below_drew1 | refine below_set ?_ GE301.out | refine below_set ?_ GE302.out) | exact HB.out)) hb)
                      clear BK301
                      clear BK302
                      clear HB
                      have BK301 := n0_
                      have BK302 := n1_
                      have HB := n2_
                      clear n0_ n1_ n2_
                      (try clear hb)
                      (try clear hb2)
                      (try clear hk)
                      (try clear hi)
                      refine hK.out _ _ ⟨(blk_cell BK301.out 0).trans rfl, (blk_cell BK301.out 1).trans rfl, (blk_cell BK301.out 2).trans rfl, (blk_cell BK302.out 0).trans rfl, (blk_cell BK302.out 1).trans rfl, (blk_cell BK302.out 2).trans rfl, ((HB.out.cell (World.block_lt_of_cell? w _ hw303_0)).trans hw303_0), ((HB.out.cell (World.block_lt_of_cell? w _ hw303_1)).trans hw303_1), ((HB.out.cell (World.block_lt_of_cell? w _ hw303_2)).trans hw303_2), ((HB.out.cell (World.block_lt_of_cell? w _ hw304_0)).trans hw304_0), ((HB.out.cell (World.block_lt_of_cell? w _ hw304_1)).trans hw304_1), ((HB.out.cell (World.block_lt_of_cell? w _ hw304_2)).trans hw304_2)⟩ (fun hHeld => ?_)
                      clear hK K
                      refine norm_ (a' := ?_) ?_ ?_
                      rotate_left
                      · show Act.put _ (some 43) _ = _
                        simp only [Act.put, List.setIfInBounds_toArray, List.set_cons_zero, List.set_cons_succ, i64_w, i32_w]
                        rfl
                      refine pure_ (i := 11) (N := some 44) (v := ?_) (a' := ?_) #[true, true, true, true, true, true, true, true, true, true, true, true] rfl rfl (any_of HT_.out (by kernel_rfl)) (fun _ _ _ h => h) (Or.inl ⟨by rfl, ?_⟩) ?_ ?_
                      rotate_left
                      · intro w'
                        go_simp
                        with_reducible rfl
                      rotate_left
                      · simp only [Act.put, List.setIfInBounds_toArray, List.set_cons_zero, List.set_cons_succ, i64_w, i32_w]
                        rfl
                      refine done_ (done_of HT_.out (by kernel_rfl)) ?_
                      try go_wp2
                      go_roundg k2
                      case measure => have := HJ2.out; have := HK2.out; omega
                      case rel => exact ⟨(wrap64 (x30_2 + 1)), (by first | rfl | (simp; done) | (simp [*]; done)), H', ⟨by have := HJ2.out; have := HK2.out; omega⟩, ⟨by (with_reducible repeat (first | refine blk_drewN ?_ _ | refine blk_drew ?_ | refine blk_alloc ?_ _)); exact BK301.out⟩, ⟨by (with_reducible repeat (first | refine blk_drewN ?_ _ | refine blk_drew ?_ | refine blk_alloc ?_ _)); exact BK302.out⟩, ⟨by repeat (first | (with_reducible first | exact HB.out | apply below_alloc | apply pw_below_drewN | apply below_drew1 | refine below_set ?_ GE301.out | refine below_set ?_ GE302.out) | exact HB.out)⟩⟩
                    · replace c25 := Bool.eq_false_iff.mpr c25
                      subst c25
                      have H1 : (some false) = some r := by rw [if_neg (show ¬ (false = true) by decide)] at H; exact H
                      clear H
                      have H := H1
                      clear H1
                      obtain rfl := Option.some.inj H
                      try go_wp2
                      have n0_ := Aside0.mk (blk_drew BK301.out)
                      have n1_ := Aside0.mk (blk_drew BK302.out)
                      have n2_ := Aside0.mk (below_drew1 HB.out)
                      clear BK301
                      clear BK302
                      clear HB
                      have BK301 := n0_
                      have BK302 := n1_
                      have HB := n2_
                      clear n0_ n1_ n2_
                      have p303 : 0 ≤ (x30_2 : Int) := of_decide_eq_true (by first | (with_reducible assumption) | assumption)
                      have q303 : x30_2 < (l0_2.length : Int) := of_decide_eq_true (by first | (with_reducible assumption) | assumption)
                      obtain ⟨ad303, A303_2, c303_2, e303, hx303_0, hx303_1, hx303_2, hl303_2, hi303_2⟩ := at_T44 HR0_2.out x30_2 p303 q303
                      have hw303_2 := hx303_2
                      have hw303_1 := hx303_1
                      have hw303_0 := hx303_0
                      cases e303
                      replace hx303_0 := (HB.out.cell (World.block_lt_of_cell? w _ hx303_0)).trans hx303_0
                      replace hx303_1 := (HB.out.cell (World.block_lt_of_cell? w _ hx303_1)).trans hx303_1
                      replace hx303_2 := (HB.out.cell (World.block_lt_of_cell? w _ hx303_2)).trans hx303_2
                      have HR303_2 := Aside0.mk hi303_2
                      have HC303_2 := Aside0.mk hl303_2
                      clear hi303_2 hl303_2
                      replace p303 := eq_true p303
                      replace q303 := eq_true q303
                      have p304 : 0 ≤ (x30_2 : Int) := of_decide_eq_true (by first | (with_reducible assumption) | assumption)
                      have q304 : x30_2 < (l1_2.length : Int) := of_decide_eq_true (by first | (with_reducible assumption) | assumption)
                      obtain ⟨ad304, A304_2, c304_2, e304, hx304_0, hx304_1, hx304_2, hl304_2, hi304_2⟩ := at_T44 HR1_2.out x30_2 p304 q304
                      have hw304_2 := hx304_2
                      have hw304_1 := hx304_1
                      have hw304_0 := hx304_0
                      cases e304
                      replace hx304_0 := (HB.out.cell (World.block_lt_of_cell? w _ hx304_0)).trans hx304_0
                      replace hx304_1 := (HB.out.cell (World.block_lt_of_cell? w _ hx304_1)).trans hx304_1
                      replace hx304_2 := (HB.out.cell (World.block_lt_of_cell? w _ hx304_2)).trans hx304_2
                      have HR304_2 := Aside0.mk hi304_2
                      have HC304_2 := Aside0.mk hl304_2
                      clear hi304_2 hl304_2
                      replace p304 := eq_true p304
                      replace q304 := eq_true q304
                      refine start_ (n := 12) (S := fun w' => w'.cell? ⟨gb301, 0, none⟩ = some (.int .i64 a0_0) ∧ w'.cell? ⟨gb301, 1, none⟩ = some (.int .i64 a0_1) ∧ w'.cell? ⟨gb301, 2, none⟩ = some (.slice (some ad303) l0_2.length c0_2) ∧ w'.cell? ⟨gb302, 0, none⟩ = some (.int .i64 a1_0) ∧ w'.cell? ⟨gb302, 1, none⟩ = some (.int .i64 a1_1) ∧ w'.cell? ⟨gb302, 2, none⟩ = some (.slice (some ad304) l1_2.length c1_2) ∧ w'.cell? (ad303.add ((x30_2).toNat * 3)) = some (.int .i64 ((rd_T44 l0_2 x30_2).f0)) ∧ w'.cell? ⟨(ad303.add ((x30_2).toNat * 3)).block, (ad303.add ((x30_2).toNat * 3)).off + 1, none⟩ = some (.int .i64 ((rd_T44 l0_2 x30_2).f1)) ∧ w'.cell? ⟨(ad303.add ((x30_2).toNat * 3)).block, (ad303.add ((x30_2).toNat * 3)).off + 2, none⟩ = some (.slice A303_2 ((rd_T44 l0_2 x30_2).f2).length c303_2) ∧ w'.cell? (ad304.add ((x30_2).toNat * 3)) = some (.int .i64 ((rd_T44 l1_2 x30_2).f0)) ∧ w'.cell? ⟨(ad304.add ((x30_2).toNat * 3)).block, (ad304.add ((x30_2).toNat * 3)).off + 1, none⟩ = some (.int .i64 ((rd_T44 l1_2 x30_2).f1)) ∧ w'.cell? ⟨(ad304.add ((x30_2).toNat * 3)).block, (ad304.add ((x30_2).toNat * 3)).off + 2, none⟩ = some (.slice A304_2 ((rd_T44 l1_2 x30_2).f2).length c304_2)) (ds := []) #[false, false, false, false, false, false, false, false, false, false, false, false] (by kernel_rfl) rfl rfl ⟨(blk_cell BK301.out 0).trans rfl, (blk_cell BK301.out 1).trans rfl, (blk_cell BK301.out 2).trans rfl, (blk_cell BK302.out 0).trans rfl, (blk_cell BK302.out 1).trans rfl, (blk_cell BK302.out 2).trans rfl, ((HB.out.cell (World.block_lt_of_cell? w _ hw303_0)).trans hw303_0), ((HB.out.cell (World.block_lt_of_cell? w _ hw303_1)).trans hw303_1), ((HB.out.cell (World.block_lt_of_cell? w _ hw303_2)).trans hw303_2), ((HB.out.cell (World.block_lt_of_cell? w _ hw304_0)).trans hw304_0), ((HB.out.cell (World.block_lt_of_cell? w _ hw304_1)).trans hw304_1), ((HB.out.cell (World.block_lt_of_cell? w _ hw304_2)).trans hw304_2)⟩ (fun hHeld => ?_); refine with_tabW virgationref02_Equal.tab6 virgationref02_Equal.bits6 (fun HT_ HW_ => ?_)
                      generalize wr.drew = w28 at BK301 BK302 HB HR303_2 HR304_2 hx303_0 hx303_1 hx303_2 hx304_0 hx304_1 hx304_2 hHeld ⊢
                      refine pure_ (i := 0) (N := some 33) (v := ?_) (a' := ?_) #[true, false, false, false, false, false, false, false, false, false, false, false] rfl rfl (any_of HT_.out (by kernel_rfl)) (fun _ _ _ h => h) (Or.inl ⟨by rfl, ?_⟩) ?_ ?_
                      rotate_left
                      · intro w'
                        go_simp
                        with_reducible rfl
                      rotate_left
                      · simp only [Act.put, List.setIfInBounds_toArray, List.set_cons_zero, List.set_cons_succ, i64_w, i32_w]
                        rfl
                      refine pure_ (i := 2) (N := some 35) (v := ?_) (a' := ?_) #[true, false, true, false, false, false, false, false, false, false, false, false] rfl rfl (any_of HT_.out (by kernel_rfl)) (fun _ _ _ h => h) (Or.inl ⟨by rfl, ?_⟩) ?_ ?_
                      rotate_left
                      · intro w'
                        go_simp
                        with_reducible rfl
                      rotate_left
                      · simp only [Act.put, List.setIfInBounds_toArray, List.set_cons_zero, List.set_cons_succ, i64_w, i32_w]
                        rfl
                      refine pure_ (i := 5) (N := some 38) (v := ?_) (a' := ?_) #[true, false, true, false, false, true, false, false, false, false, false, false] rfl rfl (any_of HT_.out (by kernel_rfl)) (fun _ _ _ h => h) (Or.inl ⟨by rfl, ?_⟩) ?_ ?_
                      rotate_left
                      · intro w'
                        go_simp
                        with_reducible rfl
                      rotate_left
                      · simp only [Act.put, List.setIfInBounds_toArray, List.set_cons_zero, List.set_cons_succ, i64_w, i32_w]
                        rfl
                      refine pure_ (i := 7) (N := some 40) (v := ?_) (a' := ?_) #[true, false, true, false, false, true, false, true, false, false, false, false] rfl rfl (any_of HT_.out (by kernel_rfl)) (fun _ _ _ h => h) (Or.inl ⟨by rfl, ?_⟩) ?_ ?_
                      rotate_left
                      · intro w'
                        go_simp
                        with_reducible rfl
                      rotate_left
                      · simp only [Act.put, List.setIfInBounds_toArray, List.set_cons_zero, List.set_cons_succ, i64_w, i32_w]
                        rfl
                      refine take_ (i := 1) (N := some 34) (v := ?_) (a' := ?_) #[true, true, true, false, false, true, false, true, false, false, false, false] rfl rfl (take_ofW HT_.out HW_.out (by kernel_rfl)) (fun _ _ _ h => h) (Or.inl ⟨by rfl, ?_⟩) hHeld ?_ ?_
                      rotate_left
                      · rintro w' ⟨s0, s1, s2, s3, s4, s5, s6, s7, s8, s9, s10, s11⟩
                        go_simp
                        with_reducible rfl
                      rotate_left
                      · simp only [Act.put, List.setIfInBounds_toArray, List.set_cons_zero, List.set_cons_succ, i64_w, i32_w]
                        rfl
                      refine pure_ (i := 3) (N := some 36) (v := ?_) (a' := ?_) #[true, true, true, true, false, true, false, true, false, false, false, false] rfl rfl (any_of HT_.out (by kernel_rfl)) (fun _ _ _ h => h) (Or.inl ⟨by rfl, ?_⟩) ?_ ?_
                      rotate_left
                      · intro w'
                        go_simp
                        with_reducible rfl
                      rotate_left
                      · simp only [Act.put, List.setIfInBounds_toArray, List.set_cons_zero, List.set_cons_succ, i64_w, i32_w]
                        rfl
                      refine take_ (i := 4) (N := some 37) (v := ?_) (a' := ?_) #[true, true, true, true, true, true, false, true, false, false, false, false] rfl rfl (take_ofW HT_.out HW_.out (by kernel_rfl)) (fun _ _ _ h => h) (Or.inl ⟨by rfl, ?_⟩) hHeld ?_ ?_
                      rotate_left
                      · rintro w' ⟨s0, s1, s2, s3, s4, s5, s6, s7, s8, s9, s10, s11⟩
                        go_simp
                        with_reducible rfl
                      rotate_left
                      · simp only [Act.put, List.setIfInBounds_toArray, List.set_cons_zero, List.set_cons_succ, i64_w, i32_w]
                        rfl
                      refine take_ (i := 6) (N := some 39) (v := ?_) (a' := ?_) #[true, true, true, true, true, true, true, true, false, false, false, false] rfl rfl (take_ofW HT_.out HW_.out (by kernel_rfl)) (fun _ _ _ h => h) (Or.inl ⟨by rfl, ?_⟩) hHeld ?_ ?_
                      rotate_left
                      · rintro w' ⟨s0, s1, s2, s3, s4, s5, s6, s7, s8, s9, s10, s11⟩
                        go_simp
                        with_reducible rfl
                      rotate_left
                      · simp only [Act.put, List.setIfInBounds_toArray, List.set_cons_zero, List.set_cons_succ, i64_w, i32_w]
                        rfl
                      refine pure_ (i := 8) (N := some 41) (v := ?_) (a' := ?_) #[true, true, true, true, true, true, true, true, true, false, false, false] rfl rfl (any_of HT_.out (by kernel_rfl)) (fun _ _ _ h => h) (Or.inl ⟨by rfl, ?_⟩) ?_ ?_
                      rotate_left
                      · intro w'
                        go_simp
                        with_reducible rfl
                      rotate_left
                      · simp only [Act.put, List.setIfInBounds_toArray, List.set_cons_zero, List.set_cons_succ, i64_w, i32_w]
                        rfl
                      refine take_ (i := 9) (N := some 42) (v := ?_) (a' := ?_) #[true, true, true, true, true, true, true, true, true, true, false, false] rfl rfl (take_ofW HT_.out HW_.out (by kernel_rfl)) (fun _ _ _ h => h) (Or.inl ⟨by rfl, ?_⟩) hHeld ?_ ?_
                      rotate_left
                      · rintro w' ⟨s0, s1, s2, s3, s4, s5, s6, s7, s8, s9, s10, s11⟩
                        go_simp
                        with_reducible rfl
                      rotate_left
                      · simp only [Act.put, List.setIfInBounds_toArray, List.set_cons_zero, List.set_cons_succ, i64_w, i32_w]
                        rfl
                      refine one_ (i := 10) (N := some 43) #[true, true, true, true, true, true, true, true, true, true, true, false] rfl rfl (one_of HT_.out (by kernel_rfl)) (by decide) (fun K hK => ?_)
                      refine goes_ Try.func26 (by kernel_rfl) rfl #[.agg #[.int .i64 ((rd_T44 l0_2 x30_2).f0), .int .i64 ((rd_T44 l0_2 x30_2).f1), .slice A303_2 ((rd_T44 l0_2 x30_2).f2).length c303_2], .agg #[.int .i64 ((rd_T44 l1_2 x30_2).f0), .int .i64 ((rd_T44 l1_2 x30_2).f1), .slice A304_2 ((rd_T44 l1_2 x30_2).f2).length c304_2]] (by rfl) rfl rfl (by (try simp only [List.map_toArray, List.map_cons, List.map_nil]); first | done | rfl | (simp only [List.length_drop, List.length_take]; rfl)) ?_
                      with_reducible refine (ih k2 (by have := HJ2.out; have := HK2.out; omega) ((rd_T44 l0_2 x30_2).f0) ((rd_T44 l0_2 x30_2).f1) _ _ ((rd_T44 l0_2 x30_2).f2) ((rd_T44 l1_2 x30_2).f0) ((rd_T44 l1_2 x30_2).f1) _ _ ((rd_T44 l1_2 x30_2).f2) false _ ?side1 ?side2 ?side3 ?side4 A24.out).mono ?_
                      (case side1 => repeat (first | exact (Kd.C_below HR303_2.out HB.out) | (with_reducible refine Kd.C_alloc ?_ _) | (with_reducible refine Kd.C_drewN ?_ _) | (with_reducible refine Kd.C_drew ?_)))
                      (case side2 => exact HC303_2.out)
                      (case side3 => repeat (first | exact (Kd.C_below HR304_2.out HB.out) | (with_reducible refine Kd.C_alloc ?_ _) | (with_reducible refine Kd.C_drewN ?_ _) | (with_reducible refine Kd.C_drew ?_)))
                      (case side4 => exact HC304_2.out)
                      rintro e w29 ⟨rfl, hb⟩
                      refine ⟨_, rfl, ?_⟩
                      have n0_ := Aside0.mk (blk_below (g := gb301) (o := .cells #[.int .i64 a0_0, .int .i64 a0_1, .slice (some ad303) l0_2.length c0_2] 44 (0, 0)) (by (with_reducible repeat (first | refine blk_drewN ?_ _ | refine blk_drew ?_ | refine blk_alloc ?_ _)); exact BK301.out) hb)
                      have n1_ := Aside0.mk (blk_below (g := gb302) (o := .cells #[.int .i64 a1_0, .int .i64 a1_1, .slice (some ad304) l1_2.length c1_2] 44 (0, 0)) (by (with_reducible repeat (first | refine blk_drewN ?_ _ | refine blk_drew ?_ | refine blk_alloc ?_ _)); exact BK302.out) hb)
                      have n2_ := Aside0.mk (below_step (by repeat (first | (with_reducible first | exact HB.out | apply below_alloc | apply pw_below_drewN | apply below_drew1 | refine below_set ?_ GE301.out | refine below_set ?_ GE302.out) | exact HB.out)) hb)
                      clear BK301
                      clear BK302
                      clear HB
                      have BK301 := n0_
                      have BK302 := n1_
                      have HB := n2_
                      clear n0_ n1_ n2_
                      (try clear hb)
                      (try clear hb2)
                      (try clear hk)
                      (try clear hi)
                      refine hK.out _ _ ⟨(blk_cell BK301.out 0).trans rfl, (blk_cell BK301.out 1).trans rfl, (blk_cell BK301.out 2).trans rfl, (blk_cell BK302.out 0).trans rfl, (blk_cell BK302.out 1).trans rfl, (blk_cell BK302.out 2).trans rfl, ((HB.out.cell (World.block_lt_of_cell? w _ hw303_0)).trans hw303_0), ((HB.out.cell (World.block_lt_of_cell? w _ hw303_1)).trans hw303_1), ((HB.out.cell (World.block_lt_of_cell? w _ hw303_2)).trans hw303_2), ((HB.out.cell (World.block_lt_of_cell? w _ hw304_0)).trans hw304_0), ((HB.out.cell (World.block_lt_of_cell? w _ hw304_1)).trans hw304_1), ((HB.out.cell (World.block_lt_of_cell? w _ hw304_2)).trans hw304_2)⟩ (fun hHeld => ?_)
                      clear hK K
                      refine norm_ (a' := ?_) ?_ ?_
                      rotate_left
                      · show Act.put _ (some 43) _ = _
                        simp only [Act.put, List.setIfInBounds_toArray, List.set_cons_zero, List.set_cons_succ, i64_w, i32_w]
                        rfl
                      refine pure_ (i := 11) (N := some 44) (v := ?_) (a' := ?_) #[true, true, true, true, true, true, true, true, true, true, true, true] rfl rfl (any_of HT_.out (by kernel_rfl)) (fun _ _ _ h => h) (Or.inl ⟨by rfl, ?_⟩) ?_ ?_
                      rotate_left
                      · intro w'
                        go_simp
                        with_reducible rfl
                      rotate_left
                      · simp only [Act.put, List.setIfInBounds_toArray, List.set_cons_zero, List.set_cons_succ, i64_w, i32_w]
                        rfl
                      refine done_ (done_of HT_.out (by kernel_rfl)) ?_
                      try go_wp2
                      go_ret
                      exact ⟨by first | rfl | (simp [errW_none, errW_some] <;> rfl) | (simp [*, errW_none, errW_some] <;> rfl), by repeat (first | (with_reducible first | exact HB.out | apply below_alloc | apply pw_below_drewN | apply below_drew1 | refine below_set ?_ GE301.out | refine below_set ?_ GE302.out) | exact HB.out)⟩
                  · rw [if_neg c23] at H
                    exact absurd H (by simp)
                · rw [if_neg c22] at H
                  exact absurd H (by simp)
              · rw [if_neg c21] at H
                exact absurd H (by simp)
            · rw [if_neg c20] at H
              have c20b0 : decide (x30_2 < (l0_2.length : Int)) = false := decide_eq_false c20
              clear c20
              obtain rfl := Option.some.inj H
              go_wp2
              go_ret
              exact ⟨by first | rfl | (simp [errW_none, errW_some] <;> rfl) | (simp [*, errW_none, errW_some] <;> rfl), by repeat (first | (with_reducible first | exact HB.out | apply below_alloc | apply pw_below_drewN | apply below_drew1 | refine below_set ?_ GE301.out | refine below_set ?_ GE302.out) | exact HB.out)⟩
def virgationref02_Large.f (k : Nat) (a0_0 : Int) (a0_1 : Int) (l0_2 : List (S44)) : Option (Bool) := (virgationref02_Nodes.f k a0_0 a0_1 l0_2 100000).bind fun t325 => (some (decide (t325 > 100000)))
theorem virgationref02_Large.mono : ∀ a0 a1 a2 k, LeO (virgationref02_Large.f k a0 a1 a2) (virgationref02_Large.f (k + 1) a0 a1 a2) := by
  intro a0 a1 a2 k
  unfold virgationref02_Large.f
  repeat' first
      | (with_reducible exact virgationref02_Nodes.mono _ _ _ _ _)
      | (with_reducible exact LeO.refl _)
      | (with_reducible exact LeO.none _)
      | (with_reducible refine LeO.ite ?_ ?_)
      | (with_reducible refine LeO.bind ?_ (fun _ => ?_))
      | exact virgationref02_Nodes.mono _ _ _ _ _
      | exact LeO.none _
      | refine LeO.ite ?_ ?_
      | refine LeO.bind ?_ (fun _ => ?_)
def virgationref02_Same.f (k : Nat) (a0_0 : Int) (a0_1 : Int) (l0_2 : List (S44)) (a1_0 : Int) (a1_1 : Int) (l1_2 : List (S44)) : Option (Bool) := (virgationref02_Large.f k a0_0 a0_1 l0_2).bind fun t328 => (if t328 = true then (some false) else ((virgationref02_Large.f k a1_0 a1_1 l1_2).bind fun t329 => (if t329 = true then (some false) else ((virgationref02_Equal.f k a0_0 a0_1 l0_2 a1_0 a1_1 l1_2).bind fun t330 => (some t330)))))
theorem virgationref02_Same.mono : ∀ a0 a1 a2 a3 a4 a5 k, LeO (virgationref02_Same.f k a0 a1 a2 a3 a4 a5) (virgationref02_Same.f (k + 1) a0 a1 a2 a3 a4 a5) := by
  intro a0 a1 a2 a3 a4 a5 k
  unfold virgationref02_Same.f
  repeat' first
      | (with_reducible exact virgationref02_Equal.mono _ _ _ _ _ _ _)
      | (with_reducible exact virgationref02_Large.mono _ _ _ _)
      | (with_reducible exact LeO.refl _)
      | (with_reducible exact LeO.none _)
      | (with_reducible refine LeO.ite ?_ ?_)
      | (with_reducible refine LeO.bind ?_ (fun _ => ?_))
      | exact virgationref02_Equal.mono _ _ _ _ _ _ _
      | exact virgationref02_Large.mono _ _ _ _
      | exact LeO.none _
      | refine LeO.ite ?_ ?_
      | refine LeO.bind ?_ (fun _ => ?_)
end Go.Proofs.Ytfhgoebgnilfaaa.I
namespace Go.Proofs.Ytfhgoebgnilfaaa.I
open Go.RowKit Go.Proofs.YtfhgoebgnilfaaaW.PrintWords
set_option linter.unusedVariables false
theorem infer_copied_ev (N : Nat) : ∀ (a b : Int) (l : List S44), SizeOf.sizeOf l < N → tcntL l ≤ 1000 → Ev (fun k => infer_copied.f k a b l) (a, b, l) := by
  induction N with
  | zero => intro a b l h; omega
  | succ N ih =>
  intro a b l hN h1
  have hlen := tcntL_ge l
  have loop : ∀ (n i : Nat) (x3 : List S44), l.length - i = n → i ≤ l.length → x3.length = i → Ev (fun k => infer_copied.l0 k l (l.length : Int) (i : Int) a b x3) (a, b, x3 ++ l.drop i) := by
    intro n
    induction n with
    | zero =>
      intro i x3 hn hi h2
      have hd : l.drop i = [] := List.drop_eq_nil_of_le (by omega)
      rw [hd, List.append_nil]
      exact Ev.step (fun k => by rw [infer_copied.l0, if_neg (by omega)]) (Ev.now _)
    | succ n ihn =>
      intro i x3 hn hi h2
      have hil : i < l.length := by omega
      have hch := tcnt_child l i hil
      refine Ev.step (fun k => by rw [infer_copied.l0, if_pos (by omega), if_pos (by omega), if_pos (by omega)]) ?_
      refine Ev.bind (a := ((rd_T44 l (i : Int)).f0, (rd_T44 l (i : Int)).f1, (rd_T44 l (i : Int)).f2)) ?_ ?_
      · exact ih _ _ _ (by have := rd_T44_mem l i hil; omega) (by omega)
      · refine Ev.ifp (by omega) ?_
        have ew : wrap64 ((i : Int) + 1) = ((i + 1 : Nat) : Int) := by unfold wrap64; omega
        rw [ew, rd_T44_drop l i hil, show (⟨(rd_T44 l (i : Int)).f0, (rd_T44 l (i : Int)).f1, (rd_T44 l (i : Int)).f2⟩ : S44) = rd_T44 l (i : Int) from by cases rd_T44 l (i : Int); rfl]
        have := ihn (i + 1) (x3 ++ [rd_T44 l (i : Int)]) (by omega) (by omega) (by rw [List.length_append, h2]; rfl)
        rw [List.append_assoc] at this
        exact this
  refine Ev.step (fun k => by rw [infer_copied.f]) ?_
  have := loop l.length 0 [] (by omega) (by omega) rfl
  rw [List.drop_zero] at this
  exact this
theorem virgationref02_Copy_ev (N : Nat) : ∀ (a b : Int) (l : List S44), SizeOf.sizeOf l < N → tcntL l ≤ 1000 → Ev (fun k => virgationref02_Copy.f k a b l) (a, b, l) := by
  induction N with
  | zero => intro a b l h; omega
  | succ N ih =>
  intro a b l hN h1
  have hlen := tcntL_ge l
  have loop : ∀ (n i : Nat) (x3 : List S44), l.length - i = n → i ≤ l.length → x3.length = i → Ev (fun k => virgationref02_Copy.l0 k l (l.length : Int) (i : Int) a b x3) (a, b, x3 ++ l.drop i) := by
    intro n
    induction n with
    | zero =>
      intro i x3 hn hi h2
      have hd : l.drop i = [] := List.drop_eq_nil_of_le (by omega)
      rw [hd, List.append_nil]
      exact Ev.step (fun k => by rw [virgationref02_Copy.l0, if_neg (by omega)]) (Ev.now _)
    | succ n ihn =>
      intro i x3 hn hi h2
      have hil : i < l.length := by omega
      have hch := tcnt_child l i hil
      refine Ev.step (fun k => by rw [virgationref02_Copy.l0, if_pos (by omega), if_pos (by omega), if_pos (by omega)]) ?_
      refine Ev.bind (a := ((rd_T44 l (i : Int)).f0, (rd_T44 l (i : Int)).f1, (rd_T44 l (i : Int)).f2)) ?_ ?_
      · exact ih _ _ _ (by have := rd_T44_mem l i hil; omega) (by omega)
      · refine Ev.ifp (by omega) ?_
        have ew : wrap64 ((i : Int) + 1) = ((i + 1 : Nat) : Int) := by unfold wrap64; omega
        rw [ew, rd_T44_drop l i hil, show (⟨(rd_T44 l (i : Int)).f0, (rd_T44 l (i : Int)).f1, (rd_T44 l (i : Int)).f2⟩ : S44) = rd_T44 l (i : Int) from by cases rd_T44 l (i : Int); rfl]
        have := ihn (i + 1) (x3 ++ [rd_T44 l (i : Int)]) (by omega) (by omega) (by rw [List.length_append, h2]; rfl)
        rw [List.append_assoc] at this
        exact this
  refine Ev.step (fun k => by rw [virgationref02_Copy.f]) ?_
  have := loop l.length 0 [] (by omega) (by omega) rfl
  rw [List.drop_zero] at this
  exact this
theorem equal_refl_ev (N : Nat) : ∀ (a b : Int) (l : List S44), SizeOf.sizeOf l < N → tcntL l ≤ 1000 → Ev (fun k => virgationref02_Equal.f k a b l a b l) true := by
  induction N with
  | zero => intro a b l h; omega
  | succ N ih =>
  intro a b l hN h1
  have hlen := tcntL_ge l
  have loop : ∀ (n i : Nat), l.length - i = n → i ≤ l.length → Ev (fun k => virgationref02_Equal.l0 k (l.length : Int) (i : Int) a b l a b l) true := by
    intro n
    induction n with
    | zero =>
      intro i hn hi
      exact Ev.step (fun k => by rw [virgationref02_Equal.l0, if_neg (by omega)]) (Ev.now _)
    | succ n ihn =>
      intro i hn hi
      have hil : i < l.length := by omega
      have hch := tcnt_child l i hil
      refine Ev.step (fun k => by rw [virgationref02_Equal.l0, if_pos (by omega), if_pos (by omega), if_pos (by omega), if_pos (by omega)]) ?_
      refine Ev.bind (a := true) ?_ ?_
      · exact ih _ _ _ (by have := rd_T44_mem l i hil; omega) (by omega)
      · refine Ev.ifp rfl ?_
        have ew : wrap64 ((i : Int) + 1) = ((i + 1 : Nat) : Int) := by unfold wrap64; omega
        rw [ew]
        exact ihn (i + 1) (by omega) (by omega)
  refine Ev.step (fun k => by rw [virgationref02_Equal.f, if_pos rfl, if_pos rfl]) ?_
  refine Ev.step (fun k => by rw [virgationref02_Equal.j0, if_neg (by simp)]) ?_
  exact loop l.length 0 (by omega) (by omega)
end Go.Proofs.Ytfhgoebgnilfaaa.I
namespace Go.Proofs.Ytfhgoebgnilfaaa.I
open Go.RowKit Go.Proofs.YtfhgoebgnilfaaaW.PrintWords Go.Proofs.YtfhgoebgnilfaaaW.PrintLast Go.Proofs.YtfhgoebgnilfaaaW.PrintMore
set_option linter.unusedVariables false
set_option maxRecDepth 100000
set_option linter.unusedSimpArgs false
theorem TS_of (N : Nat) : ∀ {w : World} {B : Nat} {ok : Nat → Prop} {v : Value} {l : List S44}, SizeOf.sizeOf l < N → Kd.R k44 44 w B ok v l → TS w B N l v := by
  induction N with
  | zero => intro w B ok v l hN; omega
  | succ N ih =>
    intro w B ok v l hN hR
    obtain ⟨A, c, rfl⟩ := Kd.R_slice hR
    have hlen : l.length ≤ 9223372036854775807 := (Kd.R_reads' hR).2.2.2.1
    refine ⟨A, c, rfl, hlen, fun hz => ?_⟩
    obtain ⟨g, cap, e, hB, _, cells, hg⟩ := Kd.R_form hR hz
    injection e with e1 _ e2
    subst e1 e2
    refine ⟨g, cells, rfl, hB, hg, fun j hj => ?_⟩
    obtain ⟨co, _, hM, hcc, _⟩ := Kd.R_elem hR z44 (j : Int) (by omega) (by omega)
    obtain ⟨v2, rfl, h2⟩ := k44_openM hM
    have q0 := hcc 0 _ rfl
    have q1 := hcc 1 _ rfl
    have q2 := hcc 2 _ rfl
    rw [Int.toNat_natCast] at q0 q1 q2
    refine ⟨_, _, v2, (blk_cell hg _).symm.trans q0, (blk_cell hg _).symm.trans q1, (blk_cell hg _).symm.trans q2, ih ?_ h2⟩
    have hm : rd_T44 l (j : Int) ∈ l := by
      unfold rd_T44
      rw [Int.toNat_natCast, List.getD_eq_getElem?_getD, List.getElem?_eq_getElem hj]
      exact List.getElem_mem hj
    have h1 := List.sizeOf_lt_of_mem hm
    have h3 : SizeOf.sizeOf (rd_T44 l (j : Int)).f2 < SizeOf.sizeOf (rd_T44 l (j : Int)) := by
      cases rd_T44 l (j : Int) with
      | mk a b m => simp; omega
    show SizeOf.sizeOf (rd_T44 l (j : Int)).f2 < N
    omega
theorem looseL_big : ∀ (l : List S48) (nf ns : Int) (L : List ByteArray), looseL l nf ns L = true → ∀ x ∈ l, big x.f2 = false
  | [], _, _, _, _, x, hx => by cases hx
  | y :: ys, nf, ns, L, h, x, hx => by
    unfold looseL at h
    by_cases hb : looseBad y nf ns L = true
    · rw [if_pos hb] at h; cases h
    · rw [if_neg hb] at h
      rcases List.mem_cons.1 hx with e | hx
      · rw [e]
        rw [loose_eq] at hb
        cases hg : big y.f2
        · rfl
        · rw [hg] at hb; simp at hb
      · exact looseL_big ys nf ns _ h x hx
theorem chk_big {syms : List S59} {l : List S48} (h : chkF syms l = some 0) : ∀ x ∈ l, tcntL x.f2.f2 ≤ 1000 := by
  have hb : ∀ x ∈ l, big x.f2 = false := by
    unfold chkF at h
    injection h with h
    split at h
    · cases h
    · split at h
      · cases h
      · split at h
        · rename_i h1 h2 h3
          exact looseL_big _ _ _ _ h3
        · cases h
  intro x hx
  have h1 := hb x hx
  unfold big at h1
  rw [Bool.or_eq_false_iff] at h1
  have h2 := of_decide_eq_false h1.1
  have h3 := tcnt_f2 x.f2
  omega
theorem copied_all : ∀ (l : List S48), (∀ x ∈ l, tcntL x.f2.f2 ≤ 1000) → ∃ K, ∀ k, K ≤ k → ∀ x ∈ l, infer_copied.f k x.f2.f0 x.f2.f1 x.f2.f2 = some (x.f2.f0, x.f2.f1, x.f2.f2)
  | [], _ => ⟨0, fun _ _ x hx => by cases hx⟩
  | y :: ys, h => by
    obtain ⟨K, hK⟩ := copied_all ys (fun x hx => h x (List.mem_cons_of_mem _ hx))
    obtain ⟨K2, hK2⟩ := infer_copied_ev _ y.f2.f0 y.f2.f1 y.f2.f2 (Nat.lt_succ_self _) (h y List.mem_cons_self)
    refine ⟨max K K2, fun k hk x hx => ?_⟩
    rcases List.mem_cons.1 hx with e | hx
    · rw [e]; exact hK2 k (by omega)
    · exact hK k (by omega) x hx
theorem sorts_total {syms : List S59} {l : List S48} (hw : looseWf l = true) (hc : chkF syms l = some 0) : ∃ k out er, infer_Sorts.f k syms l = some (out, er) ∧ (er = 0 → out.length = l.length) := by
  unfold infer_Sorts.f
  rcases sorts_main syms l hc with ⟨As0, hT, _, f, hf⟩ | ⟨_, f, hf⟩
  · by_cases hg : (gam As0).all goodB = true
    · rw [if_pos hg] at hf
      refine ⟨f, _, _, by rw [if_pos hw]; exact hf, fun _ => ?_⟩
      have := congrArg List.length hT.1
      rw [List.length_map, List.length_map] at this
      rw [List.length_map]
      unfold gam
      rw [List.length_map]
      exact this
    · rw [if_neg hg] at hf
      exact ⟨f, _, _, by rw [if_pos hw]; exact hf, fun h => by cases h⟩
  · exact ⟨f, _, _, by rw [if_pos hw]; exact hf, fun h => by cases h⟩
theorem scheme_any (A0 : Option Addr) (c0 : Nat) (l0 : List S59) (A1 : Option Addr) (c1 : Nat) (l1 : List S48) (w : World) (hr0 : Kd.C k59 w A0 l0.length l0) (hc0 : l0.length ≤ c0) (hr1 : Kd.C k48 w A1 l1.length l1) (hc1 : l1.length ≤ c1) (hw : looseWf l1 = true) (hk : chkF l0 l1 = some 0) :
    Calls Try.prog 20 #[.slice A0 l0.length c0, .slice A1 l1.length c1] w fun e w' => ∃ (v1 v2 : Value) (la : List S59) (lb : List S46) (er : Int), e = .returned (.tuple #[.agg #[v1, v2], .int .i64 er]) ∧ Kd.R k59 59 w' w.heap.size (fun _ => True) v1 la ∧ Kd.R k46 46 w' w.heap.size (fun _ => True) v2 lb ∧ Below w.heap.size w w' := by
  obtain ⟨f, out, er, hf, hl⟩ := sorts_total hw hk
  by_cases he : er = 0
  · subst he
    obtain ⟨K, hK⟩ := copied_all l1 (chk_big hk)
    have hok := fCheck_ok hk
    refine (scheme_ok f K A0 c0 l0 A1 c1 l1 out w hr0 hc0 hr1 hc1 hf (hK K (Nat.le_refl _)) (hl rfl) hok.2.1 hok.2.2.2.1).mono ?_
    rintro e w' ⟨v1, v2, rfl, h1, h2, hb⟩
    exact ⟨v1, v2, _, _, _, rfl, h1, h2, hb⟩
  · refine (scheme_err f A0 c0 l0 A1 c1 l1 out er w hr0 hc0 hr1 hc1 hf he).mono ?_
    rintro e w' ⟨rfl, hb⟩
    exact ⟨_, _, [], [], _, rfl, Kd.R_nil _ _ _ _ _, Kd.R_nil _ _ _ _ _, hb⟩
end Go.Proofs.Ytfhgoebgnilfaaa.I
namespace Go.Proofs.Ytfhgoebgnilfaaa.I
open Go.RowKit Go.Proofs.YtfhgoebgnilfaaaW.PrintWords Go.Proofs.YtfhgoebgnilfaaaW.PrintLast Go.Proofs.YtfhgoebgnilfaaaW.PrintMore
attribute [local go_sem] max2_int min2_int max_two min_two max_three min_three max_four min_four
set_option linter.unusedVariables false
set_option maxRecDepth 100000
set_option linter.unusedSimpArgs false
def HoldI8 (p : Prop) : Prop := p
theorem holdI8 {p : Prop} (h : HoldI8 p) : p := h
theorem copy56_ev (x : S56) (h : tcntL x.f2.f2 ≤ 1000) : Ev (fun k => virgationref02_Copy.f k x.f2.f0 x.f2.f1 x.f2.f2) (x.f2.f0, x.f2.f1, x.f2.f2) := virgationref02_Copy_ev _ _ _ _ (Nat.lt_succ_self _) h
theorem copy_all : ∀ (l : List S56), (∀ x ∈ l, tcntL x.f2.f2 ≤ 1000) → ∃ K, ∀ x ∈ l, virgationref02_Copy.f K x.f2.f0 x.f2.f1 x.f2.f2 = some (x.f2.f0, x.f2.f1, x.f2.f2) := by
  intro l h
  have : ∃ K, ∀ k, K ≤ k → ∀ x ∈ l, virgationref02_Copy.f k x.f2.f0 x.f2.f1 x.f2.f2 = some (x.f2.f0, x.f2.f1, x.f2.f2) := by
    induction l with
    | nil => exact ⟨0, fun _ _ x hx => by cases hx⟩
    | cons y ys ih =>
      obtain ⟨K, hK⟩ := ih (fun x hx => h x (List.mem_cons_of_mem _ hx))
      obtain ⟨K2, hK2⟩ := copy56_ev y (h y List.mem_cons_self)
      refine ⟨max K K2, fun k hk x hx => ?_⟩
      rcases List.mem_cons.1 hx with e | hx
      · rw [e]; exact hK2 k (by omega)
      · exact hK k (by omega) x hx
  obtain ⟨K, hK⟩ := this
  exact ⟨K, hK K (Nat.le_refl _)⟩
theorem equal_all : ∀ (l : List S56), (∀ x ∈ l, tcntL x.f2.f2 ≤ 1000) → ∃ K, ∀ x ∈ l, virgationref02_Equal.f K x.f2.f0 x.f2.f1 x.f2.f2 x.f2.f0 x.f2.f1 x.f2.f2 = some true := by
  intro l h
  have : ∃ K, ∀ k, K ≤ k → ∀ x ∈ l, virgationref02_Equal.f k x.f2.f0 x.f2.f1 x.f2.f2 x.f2.f0 x.f2.f1 x.f2.f2 = some true := by
    induction l with
    | nil => exact ⟨0, fun _ _ x hx => by cases hx⟩
    | cons y ys ih =>
      obtain ⟨K, hK⟩ := ih (fun x hx => h x (List.mem_cons_of_mem _ hx))
      obtain ⟨K2, hK2⟩ := equal_refl_ev _ y.f2.f0 y.f2.f1 y.f2.f2 (Nat.lt_succ_self _) (h y List.mem_cons_self)
      refine ⟨max K K2, fun k hk x hx => ?_⟩
      rcases List.mem_cons.1 hx with e | hx
      · rw [e]; exact hK2 k (by omega)
      · exact hK k (by omega) x hx
  obtain ⟨K, hK⟩ := this
  exact ⟨K, hK K (Nat.le_refl _)⟩
theorem take56_snoc {l : List S56} {i : Nat} (h : i < l.length) : l.take i ++ [⟨l[i].f0, l[i].f1, ⟨l[i].f2.f0, l[i].f2.f1, l[i].f2.f2⟩⟩] = l.take (i + 1) := by
  have e1 : l.take (i + 1) = l.take i ++ [l[i]] := by rw [List.take_add_one, List.getElem?_eq_getElem h]; rfl
  rw [e1]
  generalize l[i] = x
  obtain ⟨a, b, ⟨c, d, e⟩⟩ := x
  rfl
theorem given_any (k : Nat) (A1 : Option Addr) (c1 : Nat) (l1 : List S56) (w : World) (hr : Kd.C k56 w A1 l1.length l1) (hc : l1.length ≤ c1) (h : virgationlaw04_given.f k l1 = some (l1.map to48)) :
    Calls Try.prog 11 #[.slice A1 l1.length c1] w fun e w' => ∃ A c, e = .returned (.slice A l1.length c) ∧ l1.length ≤ c ∧ Kd.C k48 w' A l1.length (l1.map to48) ∧ Below w.heap.size w w' := by
  refine (virgationlaw04_given.calls k (fun k_ => k_ < w.heap.size) _ _ l1 _ _ (Kd.V_mk hc (Kd.C_F k56_heap hr)) h).mono ?_
  rintro e w' ⟨v, rfl, ho, hb⟩
  obtain ⟨A, c, rfl⟩ := Kd.N_slice ho
  have h2 := Kd.N_reads' ho
  rw [List.length_map] at h2
  exact ⟨A, c, by rw [List.length_map], h2.2.1, h2.2.2, hb⟩
theorem sorts56 (A0 : Option Addr) (c0 : Nat) (l0 : List S59) (A1 : Option Addr) (c1 : Nat) (l1 : List S56) (w : World) (hr0 : Kd.C k59 w A0 l0.length l0) (hc0 : l0.length ≤ c0) (hr1 : Kd.C k48 w A1 l1.length (l1.map to48)) (hc1 : l1.length ≤ c1) (hw : looseWf (l1.map to48) = true) (hk : chkF l0 (l1.map to48) = some 0) :
    Calls Try.prog 13 #[.slice A0 l0.length c0, .slice A1 l1.length c1] w fun e w' => ∃ (v : Value) (er : Int), e = .returned (.tuple #[v, .int .i64 er]) ∧ Below w.heap.size w w' := by
  obtain ⟨f, out, er, hf, _⟩ := sorts_total hw hk
  have h := infer_Sorts.calls f A0 c0 l0 A1 c1 (l1.map to48) out er w hr0 hc0 (by rw [List.length_map]; exact hr1) (by rw [List.length_map]; exact hc1) hf
  rw [List.length_map] at h
  refine h.mono ?_
  rintro e w' ⟨v, rfl, _, hb⟩
  exact ⟨v, er, rfl, hb⟩
theorem scheme56 (A0 : Option Addr) (c0 : Nat) (l0 : List S59) (A1 : Option Addr) (c1 : Nat) (l1 : List S56) (w : World) (hr0 : Kd.C k59 w A0 l0.length l0) (hc0 : l0.length ≤ c0) (hr1 : Kd.C k48 w A1 l1.length (l1.map to48)) (hc1 : l1.length ≤ c1) (hw : looseWf (l1.map to48) = true) (hk : chkF l0 (l1.map to48) = some 0) :
    Calls Try.prog 20 #[.slice A0 l0.length c0, .slice A1 l1.length c1] w fun e w' => ∃ (v1 v2 : Value) (la : List S59) (lb : List S46) (er : Int), e = .returned (.tuple #[.agg #[v1, v2], .int .i64 er]) ∧ Kd.R k59 59 w' w.heap.size (fun _ => True) v1 la ∧ Kd.R k46 46 w' w.heap.size (fun _ => True) v2 lb ∧ Below w.heap.size w w' := by
  have h := scheme_any A0 c0 l0 A1 c1 (l1.map to48) w hr0 hc0 (by rw [List.length_map]; exact hr1) (by rw [List.length_map]; exact hc1) hw hk
  rw [List.length_map] at h
  exact h
theorem IntSt.of_below {B : Nat} {w w' : World} (h : Below w.heap.size w w') : IntSt B w w' := ⟨h.os, h.tape, h.output, h.size, fun k hk => .inl (h.block k hk)⟩
/-- The functions of a scheme in memory: their bodies' arguments have the shape that turn keeps. -/
def FT (w : World) (B : Nat) (v : Value) (l : List S46) : Prop := 0 < l.length → ∃ (g c : Nat) (cells : Array Value), v = .slice (some ⟨g, 0, none⟩) l.length c ∧ w.heap[g]? = some (.cells cells 46 (0, 0)) ∧
  ∀ j, j < l.length → ∃ (N : Nat) (A : Option Addr) (c' : Nat), cells[j * 5 + 4]? = some (.slice A (rd_T46 l (j : Int)).f2.f2.length c') ∧ TS w B N (rd_T46 l (j : Int)).f2.f2 (.slice A (rd_T46 l (j : Int)).f2.f2.length c')
theorem FT_of {w : World} {B : Nat} {ok : Nat → Prop} {v : Value} {l : List S46} (h : Kd.R k46 46 w B ok v l) : FT w B v l := by
  intro hz
  obtain ⟨g, cap, rfl, hB, _, cells, hg⟩ := Kd.R_form h hz
  refine ⟨g, cap, cells, rfl, hg, fun j hj => ?_⟩
  obtain ⟨co, _, hM, hcc, _⟩ := Kd.R_elem h z46 (j : Int) (by omega) (by omega)
  obtain ⟨v1, v4, rfl, _, h2⟩ := k46_openM hM
  obtain ⟨A, c, rfl⟩ := Kd.R_slice h2
  have q := hcc 4 _ rfl
  rw [Int.toNat_natCast] at q
  exact ⟨_, A, c, (blk_cell hg _).symm.trans q, TS_of _ (Nat.lt_succ_self _) h2⟩
theorem FT_keep {w w' : World} {B : Nat} {v : Value} {l : List S46} (hi : IntSt B w w') (h : FT w B v l) : FT w' B v l := by
  intro hz
  obtain ⟨g, c, cells, rfl, hg, hj⟩ := h hz
  exact ⟨g, c, cells, rfl, hi.other hg (by decide), fun j hj' => by obtain ⟨N, A, c', h1, h2⟩ := hj j hj'; exact ⟨N, A, c', h1, TS_keep hi h2⟩⟩
/-- Symbols in memory: a number behind each name. -/
def ST (w : World) (B : Nat) (v : Value) (n : Nat) : Prop := 0 < n → ∃ (g c : Nat) (cells : Array Value), v = .slice (some ⟨g, 0, none⟩) n c ∧ B ≤ g ∧ w.heap[g]? = some (.cells cells 59 (0, 0)) ∧ ∀ j, j < n → ∃ a : Int, cells[j * 2 + 1]? = some (.int .i64 a)
theorem ST_of {w : World} {B : Nat} {ok : Nat → Prop} {v : Value} {l : List S59} (h : Kd.R k59 59 w B ok v l) : ST w B v l.length := by
  intro hz
  obtain ⟨g, cap, rfl, hB, _, cells, hg⟩ := Kd.R_form h hz
  refine ⟨g, cap, cells, rfl, hB, hg, fun j hj => ?_⟩
  obtain ⟨co, _, hM, hcc, _⟩ := Kd.R_elem h z59 (j : Int) (by omega) (by omega)
  have e := k59_openM hM
  subst e
  have q := hcc 1 _ rfl
  rw [Int.toNat_natCast] at q
  exact ⟨_, (blk_cell hg _).symm.trans q⟩
theorem ST_keep {w w' : World} {B n : Nat} {v : Value} (hi : IntSt B w w') (h : ST w B v n) : ST w' B v n := by
  intro hz
  obtain ⟨g, c, cells, rfl, hB, hg, hj⟩ := h hz
  exact ⟨g, c, cells, rfl, hB, hi.other hg (by decide), hj⟩
theorem ST_set {w : World} {B n g c i : Nat} {a : Int} (h : ST w B (.slice (some ⟨g, 0, none⟩) n c) n) (hi : i < n) : ST (w.setCell ⟨g, i * 2 + 1, none⟩ (.int .i64 a)) B (.slice (some ⟨g, 0, none⟩) n c) n := by
  intro hz
  obtain ⟨g', c', cells, e, hB, hg, hj⟩ := h hz
  injection e with e _ _
  injection e with e
  injection e with e
  subst e
  refine ⟨g, c, _, rfl, hB, blk_set hg _ _, fun j hj' => ?_⟩
  obtain ⟨x, hx⟩ := hj j hj'
  rw [Array.getElem?_setIfInBounds]
  by_cases he : i * 2 + 1 = j * 2 + 1
  · rw [if_pos he, if_pos (by rw [he]; exact (Array.getElem?_eq_some_iff.1 hx).1)]
    exact ⟨a, rfl⟩
  · rw [if_neg he]
    exact ⟨x, hx⟩
set_option maxHeartbeats 8000000 in
theorem own_calls (A0 : Option Addr) (c0 : Nat) (l0 : List S59) (A1 : Option Addr) (c1 : Nat) (l1 : List S56) (w : World) (hr0 : Kd.C k59 w A0 l0.length l0) (hc0 : l0.length ≤ c0) (hr1 : Kd.C k56 w A1 l1.length l1) (hc1 : l1.length ≤ c1) (hw : looseWf (l1.map to48) = true) :
    Calls Try.prog 8 #[.slice A0 l0.length c0, .slice A1 l1.length c1] w fun e w' => e = .returned (.bool true) ∧ Below w.heap.size w w' := by
  have hu56 := Try.underlying56
  have hu44 := Try.underlying44
  have hu59 := Try.underlying59
  have hu46 := Try.underlying46
  have hu38 := Try.underlying38
  obtain ⟨r, hr, he⟩ := check_ev l0 l1
  obtain ⟨kC, hC⟩ := he.rounds
  have HR0 := Aside0.mk hr0
  have HC0 := Aside0.mk hc0
  have HR1 := Aside0.mk hr1
  have HC1 := Aside0.mk hc1
  have HCk := Aside0.mk hC
  have HW := Aside0.mk hw
  have HK := Aside0.mk hr
  have hlen1 : l1.length ≤ 9223372036854775807 := hr1.2.1
  have hlen0 : l0.length ≤ 9223372036854775807 := hr0.2.1
  clear hr0 hc0 hr1 hc1 hC he hw hr
  by_cases hz : r = 0
  rotate_left
  · have hne : (r != 0) = true := bne_iff_ne.2 hz
    clear hz HK
    go_enter Try.func8, Try.ntmps8
    go_wp2_with fail
    (with_reducible refine (virgationref04_Check.calls kC A0 c0 l0 A1 c1 l1 r _ HR0.out HC0.out HR1.out HC1.out HCk.out).mono ?_)
    rintro e w1 ⟨rfl, hb1⟩
    have HB1 := Aside0.mk hb1
    clear hb1
    go_wp2_with fail
    (with_reducible refine (alive_calls _).mono ?_)
    rintro e w2 ⟨rfl, hb2⟩
    have HB2 := Aside0.mk (below_step HB1.out hb2)
    clear hb2
    go_wp2_with fail
    go_ret
    exact ⟨rfl, HB2.out⟩
  subst hz
  have hbg : ∀ x ∈ l1, tcntL x.f2.f2 ≤ 1000 := fun x hx => chk_big HK.out (to48 x) (List.mem_map_of_mem hx)
  obtain ⟨kY, hY⟩ := copy_all l1 hbg
  obtain ⟨kE, hE⟩ := equal_all l1 hbg
  have HY := Aside0.mk hY
  have HE := Aside0.mk hE
  have hok := fCheck_ok HK.out
  rw [List.length_map] at hok
  have h24 : l0.length ≤ 24 := hok.2.1
  have h64 : l1.length ≤ 64 := hok.2.2.2.1
  obtain ⟨kG, hG⟩ := (given_ev l1 (by omega)).rounds
  have HGv := Aside0.mk hG
  clear hok hY hE hbg hG
  go_enter Try.func8, Try.ntmps8
  go_wp2_with fail
  (with_reducible refine (virgationref04_Check.calls kC A0 c0 l0 A1 c1 l1 0 _ HR0.out HC0.out HR1.out HC1.out HCk.out).mono ?_)
  rintro e w1 ⟨rfl, hb1⟩
  have HB1 := Aside0.mk hb1
  clear hb1 HCk
  go_wp2_with fail
  go_loopg [5, 23] l1.length (fun kq v5 v23 wr => ∃ (i : Nat) (Aw : Option Addr) (cw : Nat), v5 = .slice Aw i cw ∧ v23 = .int .i64 (i : Int) ∧ Aside0 (i + kq = l1.length) ∧ Aside0 (Kd.R k56 56 wr w.heap.size (fun _ => True) (.slice Aw i cw) (l1.take i)) ∧ Aside0 (Below w.heap.size w wr))
  case atStart => exact ⟨0, none, 0, rfl, rfl, ⟨by omega⟩, ⟨Kd.R_nil _ _ _ _ _⟩, HB1⟩
  case round =>
    clear HB1
    obtain ⟨i, Aw, cw, rfl, rfl, Hi, HRw, HB⟩ := hrel
    by_cases hlt : i < l1.length
    · cases gk with
      | zero => exact absurd Hi.out (by omega)
      | succ k1 =>
      have Hlt := Aside0.mk hlt
      have HSN := Aside0.mk (take56_snoc hlt)
      obtain ⟨ad0, A4, c4, he, hx1, hx2, hx3, hx4, hx5, hl4, hC4⟩ := at_T56 HR1.out (i : Int) (by omega) (by omega)
      cases he
      replace hx1 := (HB.out.cell (World.block_lt_of_cell? w _ hx1)).trans hx1
      replace hx2 := (HB.out.cell (World.block_lt_of_cell? w _ hx2)).trans hx2
      replace hx3 := (HB.out.cell (World.block_lt_of_cell? w _ hx3)).trans hx3
      replace hx4 := (HB.out.cell (World.block_lt_of_cell? w _ hx4)).trans hx4
      replace hx5 := (HB.out.cell (World.block_lt_of_cell? w _ hx5)).trans hx5
      rw [Int.toNat_natCast] at hx1 hx2 hx3 hx4 hx5
      have hxe : rd_T56 l1 (i : Int) = l1[i] := by unfold rd_T56; rw [Int.toNat_natCast, List.getD_eq_getElem?_getD, List.getElem?_eq_getElem hlt]; rfl
      have HYi := Aside0.mk (HY.out l1[i] (List.getElem_mem hlt))
      rw [hxe] at hx1 hx2 hx3 hx4 hx5 hl4 hC4
      have HC4 := Aside0.mk (Kd.C_below hC4 HB.out)
      have Hl4 := Aside0.mk hl4
      clear hl4 hC4 hxe
      have p1 : (0 ≤ (i : Int)) = True := eq_true (by omega)
      have p2 : ((i : Int) < (l1.length : Int)) = True := eq_true (by omega)
      have p3 : (i < l1.length) = True := eq_true (by omega)
      generalize l1[i] = x at *
      go_upto_region 7 with (
          (with_reducible refine gate_dst (N := 7) rfl ?_)
          refine box_event ?hg (N := 7) ?hd (cs := #[.string (⟨#[]⟩ : ByteArray), .int .i64 0, .int .i64 0, .int .i64 0, .slice none 0 0]) (t := 56) ?hr ?_
          (case hd => rfl)
          (case hg => rfl)
          (case hr => first | (go_simp; done) | (go_simp; rfl))
          intro gi hgi w6 hbox hb3
          have hgw : wr.heap.size ≤ gi := by omega
          have hbw := below_set (g := gi) (j := 4) (v := .slice A4 x.f2.f2.length c4) (below_set (g := gi) (j := 3) (v := .int .i64 x.f2.f1) (below_set (g := gi) (j := 2) (v := .int .i64 x.f2.f0) (below_set (g := gi) (j := 1) (v := .int .i64 x.f1) (below_set (g := gi) (j := 0) (v := .string x.f0) hb3 hgw) hgw) hgw) hgw) hgw
          have Hbw := Aside0.mk hbw
          have Hgi := Aside0.mk (blk_put (cs' := #[.string x.f0, .int .i64 x.f1, .int .i64 x.f2.f0, .int .i64 x.f2.f1, .slice A4 x.f2.f2.length c4]) (blk_put (cs' := #[.string x.f0, .int .i64 x.f1, .int .i64 x.f2.f0, .int .i64 x.f2.f1, .slice none 0 0]) (blk_put (cs' := #[.string x.f0, .int .i64 x.f1, .int .i64 x.f2.f0, .int .i64 0, .slice none 0 0]) (blk_put (cs' := #[.string x.f0, .int .i64 x.f1, .int .i64 0, .int .i64 0, .slice none 0 0]) (blk_put (cs' := #[.string x.f0, .int .i64 0, .int .i64 0, .int .i64 0, .slice none 0 0]) (hbox) 0 (.string x.f0) rfl) 1 (.int .i64 x.f1) rfl) 2 (.int .i64 x.f2.f0) rfl) 3 (.int .i64 x.f2.f1) rfl) 4 (.slice A4 x.f2.f2.length c4) rfl)
          have hcz0 := (blk_cell hbox 0).trans rfl
          have hfz0 := blk_frozen hbox 0
          have hcz1 := (blk_cell hbox 1).trans rfl
          have hfz1 := blk_frozen hbox 1
          have hcz2 := (blk_cell hbox 2).trans rfl
          have hfz2 := blk_frozen hbox 2
          have hcz3 := (blk_cell hbox 3).trans rfl
          have hfz3 := blk_frozen hbox 3
          have hcz4 := (blk_cell hbox 4).trans rfl
          have hfz4 := blk_frozen hbox 4
          clear hbox hb3 hgi hgw hbw)
      clear hcz0 hcz1 hcz2 hcz3 hcz4 hfz0 hfz1 hfz2 hfz3 hfz4 hx1 hx2 hx3 hx4 hx5
      generalize (((((w6.setCell ⟨gi, 0, none⟩ (.string x.f0)).setCell ⟨gi, 1, none⟩ (.int .i64 x.f1)).setCell ⟨gi, 2, none⟩ (.int .i64 x.f2.f0)).setCell ⟨gi, 3, none⟩ (.int .i64 x.f2.f1)).setCell ⟨gi, 4, none⟩ (.slice A4 x.f2.f2.length c4)) = wq at *
      have HRq := Aside0.mk (Kd.R_below HRw.out Hbw.out)
      have HBq := Aside0.mk (below_step HB.out Hbw.out)
      have HC5 := Aside0.mk (Kd.C_below HC4.out Hbw.out)
      have n0 : wq.cell? ⟨gi, 0, none⟩ = some (.string x.f0) := (blk_cell Hgi.out 0).trans rfl
      have n1 : wq.cell? ⟨gi, 1, none⟩ = some (.int .i64 x.f1) := (blk_cell Hgi.out 1).trans rfl
      have n2 : wq.cell? ⟨gi, 2, none⟩ = some (.int .i64 x.f2.f0) := (blk_cell Hgi.out 2).trans rfl
      have n3 : wq.cell? ⟨gi, 3, none⟩ = some (.int .i64 x.f2.f1) := (blk_cell Hgi.out 3).trans rfl
      have n4 : wq.cell? ⟨gi, 4, none⟩ = some (.slice A4 x.f2.f2.length c4) := (blk_cell Hgi.out 4).trans rfl
      clear HRw HB HC4 Hbw
      go_region_law
        (first
          | (refine Kd.R_append_step k56 (w0 := w) w.heap.size rfl (.tmp 27) (.tmp 36) 23 56 (.agg #[.string ⟨#[]⟩, .int .i64 0, .int .i64 0, .int .i64 0, .slice none 0 0]) 64 rfl Try.underlying23 (by kernel_rfl) rfl (by decide) (by omega) (.slice Aw i cw) (l1.take i) ⟨x.f0, x.f1, ⟨x.f2.f0, x.f2.f1, x.f2.f2⟩⟩ [.string x.f0, .int .i64 x.f1, .int .i64 x.f2.f0, .int .i64 x.f2.f1, .slice A5 x.f2.f2.length c5] (fun _ => True) (fun k => ∃ q cells, q ≠ 56 ∧ wA.heap[k]? = some (.cells cells q (0, 0))) rfl rfl (by exact k56_mkM _ _ _ ⟨x.f0, x.f1, ⟨x.f2.f0, x.f2.f1, x.f2.f2⟩⟩ (Kd.R_mono (Kd.R_bound HR4A.out) (fun k hk => by obtain ⟨_, _, _, q, hq, cells, hc⟩ := hk; refine ⟨q, cells, ?_, hc⟩; rcases List.mem_cons.1 hq with rfl | hq; decide; rw [List.mem_singleton.1 hq]; decide))) (fun k hk => ⟨trivial, fun he => by obtain ⟨q, cells, hq, hc⟩ := hk; obtain ⟨c2, h2⟩ := Kd.R_typed HRA.out k he.symm; exact hq (blk_type hc h2)⟩) (fun _ _ => trivial) HRA.out HBA.out HBA.out.size (by rw [List.length_take]; omega) ?_
             intro v2 w7 hrf hb7 hg7 hat
             rw [HSN.out] at hrf
             obtain ⟨A2, c2, e2⟩ := Kd.R_slice hrf
             rw [show (l1.take (i + 1)).length = i + 1 from by rw [List.length_take]; have := Hlt.out; omega] at e2
             subst e2
             have HR7 := Aside0.mk hrf
             have HB7 := Aside0.mk hb7
             clear hrf hb7 hg7 hat a0 a1 a2 a3 a4)
          | (go_simp
             go_at_call 24
             (with_reducible refine (virgationref02_Copy.calls kY x.f2.f0 x.f2.f1 A4 c4 x.f2.f2 x.f2.f0 x.f2.f1 x.f2.f2 _ (Kd.C_below HC5.out (below_drew (Below.refl _ _))) Hl4.out HYi.out).mono ?_)
             rintro e wA ⟨v4, rfl, hR4, hbA⟩
             obtain ⟨A5, c5, rfl⟩ := Kd.R_slice hR4
             have HRA := Aside0.mk (Kd.R_below (Kd.R_drew HRq.out) hbA)
             have HBA := Aside0.mk (below_step (below_drew HBq.out) hbA)
             have HR4A := Aside0.mk (Kd.R_lower hR4 (show w.heap.size ≤ wq.drew.heap.size from HBq.out.size))
             have HgiA := Aside0.mk (blk_below (blk_drew Hgi.out) hbA)
             have a0 := cell_up hbA (show wq.drew.cell? _ = _ from n0)
             have a1 := cell_up hbA (show wq.drew.cell? _ = _ from n1)
             have a2 := cell_up hbA (show wq.drew.cell? _ = _ from n2)
             have a3 := cell_up hbA (show wq.drew.cell? _ = _ from n3)
             have a4 := cell_up hbA (show wq.drew.cell? _ = _ from n4)
             clear hR4 hbA))
      all_goals go_wp2_with fail
      all_goals go_roundg k1
      all_goals try (case measure => omega)
      all_goals (case rel => exact ⟨i + 1, A2, c2, rfl, by go_num, ⟨by have := Hi.out; omega⟩, HR7, HB7⟩)
    · have hie : i = l1.length := by have := Hi.out; omega
      subst hie
      have HRw' := HRw.out
      rw [List.take_length] at HRw'
      have HW1 := Aside0.mk HRw'
      clear HRw HRw'
      go_wp2_with (at_builtin; refine holdI8 ?_)
      unfold HoldI8
      have hl0 : Kd.R k59 59 (wr.alloc (Obj.cells #[] 59)) w.heap.size (fun _ => True) (.slice (some ⟨wr.heap.size, 0, none⟩) 0 0) [] := ⟨fun _ _ => trivial, OwnRow.lit wr w.heap.size (inner := []) (Reps.none _ _) HB.out.size (by simp)⟩
      refine Kd.R_append_rows k59 (Rr := k59.K (wr.alloc (Obj.cells #[] 59))) (w0 := w) w.heap.size rfl (.tmp 39) (.tmp 40) 22 59 (.agg #[.string ⟨#[]⟩, .int .i64 0]) 24 rfl Try.underlying22 (by kernel_rfl) rfl (by decide) (by omega) (.slice (some ⟨wr.heap.size, 0, none⟩) 0 0) [] l0 A0 l0.length c0 (fun _ => True) (fun _ => False) rfl rfl hl0 ?aR ?aK (fun _ hk => hk.elim) (fun _ _ => trivial) (below_alloc HB.out _) (below_alloc HB.out _).size (by simp only [List.length_nil]; omega) ?_
      (case aR => exact Kd.C_below HR0.out (below_alloc HB.out _))
      (case aK => intro x cs hx; rw [k59_open hx]; exact k59_mkM _ _ _ x)
      intro v1 w2 hs4 hb4 hg4 _
      rw [List.nil_append] at hs4
      obtain ⟨An, cn, rfl⟩ := Kd.R_slice hs4
      have HW2 := Aside0.mk (Kd.R_mono (ok' := fun _ => True) (Kd.R_grown (Kd.R_below (Kd.R_bound HW1.out) (below_alloc (Below.refl wr.heap.size wr) (Obj.cells #[] 59))) hg4 (fun k hk he => by have := hk.2.2.1; simp [Value.ownBlock] at he; omega)) (fun _ _ => trivial))
      have HN2 := Aside0.mk hs4
      have HB2 := Aside0.mk hb4
      clear hs4 hb4 hg4 HW1 HB hl0
      go_wp2_with fail
      (with_reducible refine (given_any kG A1 c1 l1 w2 (Kd.C_below HR1.out HB2.out) HC1.out HGv.out).mono ?_)
      rintro e w3 ⟨Ag, cg, rfl, hlg, hCg, hb3⟩
      have HL3 := Aside0.mk hlg
      have HC3 := Aside0.mk hCg
      have HB3 := Aside0.mk (below_step HB2.out hb3)
      have HW3 := Aside0.mk (Kd.R_below HW2.out hb3)
      have HN3 := Aside0.mk (Kd.R_below HN2.out hb3)
      clear hlg hCg hb3 HW2 HN2 HB2
      go_wp2_with fail
      (with_reducible refine (sorts56 A0 c0 l0 Ag cg l1 w3 (Kd.C_below HR0.out HB3.out) HC0.out HC3.out HL3.out HW.out HK.out).mono ?_)
      rintro e w4 ⟨v4, e4, rfl, hb4⟩
      have HB4 := Aside0.mk (below_step HB3.out hb4)
      have HW4 := Aside0.mk (Kd.R_below HW3.out hb4)
      have HN4 := Aside0.mk (Kd.R_below HN3.out hb4)
      clear hb4 HW3 HN3 HB3 HL3 HC3
      go_wp2_with fail
      (with_reducible refine (given_any kG A1 c1 l1 w4 (Kd.C_below HR1.out HB4.out) HC1.out HGv.out).mono ?_)
      rintro e w5 ⟨Ah, ch, rfl, hlg, hCg, hb5⟩
      have HL5 := Aside0.mk hlg
      have HC5 := Aside0.mk hCg
      have HB5 := Aside0.mk (below_step HB4.out hb5)
      have HW5 := Aside0.mk (Kd.R_below HW4.out hb5)
      have HN5 := Aside0.mk (Kd.R_below HN4.out hb5)
      clear hlg hCg hb5 HW4 HN4 HB4
      go_wp2_with fail
      (with_reducible refine (scheme56 A0 c0 l0 Ah ch l1 w5 (Kd.C_below HR0.out HB5.out) HC0.out HC5.out HL5.out HW.out HK.out).mono ?_)
      rintro e w6 ⟨v1, v2, la, lb, er, rfl, hr1, hr2, hb6⟩
      obtain ⟨Aa, ca, rfl⟩ := Kd.R_slice hr1
      obtain ⟨Ab, cb, rfl⟩ := Kd.R_slice hr2
      have hla : la.length ≤ 9223372036854775807 := (Kd.R_reads' hr1).2.2.2.1
      have hlb : lb.length ≤ 9223372036854775807 := (Kd.R_reads' hr2).2.2.2.1
      have HST := Aside0.mk (ST_of hr1)
      have HFT := Aside0.mk (FT_of hr2)
      have HB6 := Aside0.mk hb6
      clear hr1 hr2 hb6 HL5 HC5
      go_wp2_with (
          (with_reducible refine gate_dst (N := 9) rfl ?_)
          refine box_event ?hg (N := 9) ?hd (cs := #[.slice none 0 0, .slice none 0 0]) (t := 38) ?hr ?_
          (case hd => rfl)
          (case hg => rfl)
          (case hr => first | (go_simp; done) | (go_simp; rfl))
          intro g9 hg9 w7 hbox hb7
          have hgw : w6.heap.size ≤ g9 := by omega
          have Hbw := Aside0.mk (below_set (g := g9) (j := 1) (v := .slice Ab lb.length cb) (below_set (g := g9) (j := 0) (v := .slice Aa la.length ca) hb7 hgw) hgw)
          have Hgi := Aside0.mk (blk_put (cs' := #[.slice Aa la.length ca, .slice Ab lb.length cb]) (blk_put (cs' := #[.slice Aa la.length ca, .slice none 0 0]) hbox 0 (.slice Aa la.length ca) rfl) 1 (.slice Ab lb.length cb) rfl)
          have hcz0 := (blk_cell hbox 0).trans rfl
          have hfz0 := blk_frozen hbox 0
          have hcz1 := (blk_cell hbox 1).trans rfl
          have hfz1 := blk_frozen hbox 1
          clear hbox hb7 hg9 hgw)
      clear hcz0 hcz1 hfz0 hfz1
      generalize ((w7.setCell ⟨g9, 0, none⟩ (.slice Aa la.length ca)).setCell ⟨g9, 1, none⟩ (.slice Ab lb.length cb)) = w8 at *
      have HFT8 := Aside0.mk (FT_keep (IntSt.of_below Hbw.out) HFT.out)
      have HST8 := Aside0.mk (ST_keep (IntSt.of_below Hbw.out) HST.out)
      have HB8 := Aside0.mk (below_step HB6.out Hbw.out)
      clear HFT HST HB6 Hbw
      go_loopg [56] lb.length (fun kq v56 wr => ∃ (i : Nat), v56 = .int .i64 (i : Int) ∧ Aside0 (i + kq = lb.length) ∧ Aside0 (FT wr w5.heap.size (.slice Ab lb.length cb) lb) ∧ Aside0 (ST wr w5.heap.size (.slice Aa la.length ca) la.length) ∧ Aside0 (wr.heap[g9]? = some (.cells #[.slice Aa la.length ca, .slice Ab lb.length cb] 38 (0, 0))) ∧ Aside0 (Below w5.heap.size w5 wr))
      case atStart => exact ⟨0, rfl, ⟨by omega⟩, HFT8, HST8, Hgi, HB8⟩
      case round =>
        clear HFT8 HST8 Hgi HB8
        obtain ⟨i, rfl, Hi, HFT, HST, Hg9, HB⟩ := hrel
        by_cases hlt : i < lb.length
        · obtain ⟨gf, cf, cells, ev, hgf, hj⟩ := HFT.out (by omega)
          injection ev with e1 _ e2
          subst e1 e2
          obtain ⟨N, Ax, cx, q, hTS⟩ := hj i hlt
          have HTS := Aside0.mk hTS
          have q4 : wr.cell? ⟨gf, i * 5 + 2 + 2, none⟩ = some (.slice Ax (rd_T46 lb (i : Int)).f2.f2.length cx) := (blk_cell hgf _).trans q
          have q9 : wr.cell? ⟨g9, 1, none⟩ = some (.slice (some ⟨gf, 0, none⟩) lb.length cb) := (blk_cell Hg9.out 1).trans rfl
          clear hj hTS q hgf
          have p1 : (0 ≤ (i : Int)) = True := eq_true (by omega)
          have p2 : ((i : Int) < (lb.length : Int)) = True := eq_true (by omega)
          have p3 : (i < lb.length) = True := eq_true (by omega)
          generalize (rd_T46 lb (i : Int)).f2.f2 = x at *
          go_wp2_with fail
          (with_reducible refine (turn_calls w5.heap.size N x _ wr HTS.out).mono ?_)
          rintro e w9 ⟨rfl, hT⟩
          have HFT9 := Aside0.mk (FT_keep hT HFT.out)
          have HST9 := Aside0.mk (ST_keep hT HST.out)
          have Hg99 := Aside0.mk (hT.other Hg9.out (by decide))
          have HB9 := Aside0.mk (hT.elder HB.out (Nat.le_refl _) HB.out.size)
          clear hT HFT HST Hg9 HB HTS q4 q9
          go_wp2_with fail
          have hk := Hi.out
          obtain ⟨k1, rfl⟩ : ∃ k1, gk = k1 + 1 := ⟨gk - 1, by omega⟩
          go_roundg k1
          case measure => omega
          case rel => exact ⟨i + 1, by go_num, ⟨by omega⟩, HFT9, HST9, Hg99, HB9⟩
        · have q0 : wr.cell? ⟨g9, 0, none⟩ = some (.slice Aa la.length ca) := (blk_cell Hg9.out 0).trans rfl
          clear HFT
          go_wp2_with fail
          clear q0
          go_loopg [71] la.length (fun kq v71 wr => ∃ (i : Nat), v71 = .int .i64 (i : Int) ∧ Aside0 (i + kq = la.length) ∧ Aside0 (ST wr w5.heap.size (.slice Aa la.length ca) la.length) ∧ Aside0 (wr.heap[g9]? = some (.cells #[.slice Aa la.length ca, .slice Ab lb.length cb] 38 (0, 0))) ∧ Aside0 (Below w5.heap.size w5 wr))
          case atStart => exact ⟨0, rfl, ⟨by omega⟩, HST, Hg9, HB⟩
          case round =>
            clear HST Hg9 HB
            obtain ⟨i, rfl, Hi, HST, Hg9, HB⟩ := hrel
            by_cases hlt : i < la.length
            · obtain ⟨gs, cs, cells, ev, hBs, hgs, hj⟩ := HST.out (by omega)
              injection ev with e1 _ e2
              subst e1 e2
              obtain ⟨a, q⟩ := hj i hlt
              have q1 : wr.cell? ⟨gs, i * 2 + 1, none⟩ = some (.int .i64 a) := (blk_cell hgs _).trans q
              have q2 : wr.frozen? ⟨gs, i * 2 + 1, none⟩ = false := blk_frozen hgs _
              have q0 : wr.cell? ⟨g9, 0, none⟩ = some (.slice (some ⟨gs, 0, none⟩) la.length ca) := (blk_cell Hg9.out 0).trans rfl
              have H1 := Aside0.mk (fun b : Int => ST_set (a := b) HST.out hlt)
              have H2 := Aside0.mk (fun b : Int => blk_far (p := ⟨gs, i * 2 + 1, none⟩) Hg9.out (blk_ne Hg9.out hgs (by decide)) (.int .i64 b))
              have H3 := Aside0.mk (fun b : Int => below_set (j := i * 2 + 1) (v := .int .i64 b) HB.out hBs)
              clear hj q hgs hBs HST Hg9 HB
              have p1 : (0 ≤ (i : Int)) = True := eq_true (by omega)
              have p2 : ((i : Int) < (la.length : Int)) = True := eq_true (by omega)
              have p3 : (i < la.length) = True := eq_true (by omega)
              go_wp2_with fail
              have hk := Hi.out
              obtain ⟨k1, rfl⟩ : ∃ k1, gk = k1 + 1 := ⟨gk - 1, by omega⟩
              go_roundg k1
              case measure => omega
              case rel => exact ⟨i + 1, by go_num, ⟨by omega⟩, ⟨H1.out _⟩, ⟨H2.out _⟩, ⟨H3.out _⟩⟩
            · have HWx := Aside0.mk (Kd.R_below HW5.out HB.out)
              have HNx := Aside0.mk (Kd.R_below HN5.out HB.out)
              have HBx := Aside0.mk (below_step HB5.out HB.out)
              clear HB HST Hg9 HW5 HN5 HB5
              go_wp2_with fail
              go_loopg [86] l1.length (fun kq v86 wr => ∃ (i : Nat), v86 = .int .i64 (i : Int) ∧ Aside0 (i + kq = l1.length) ∧ Aside0 (Kd.R k56 56 wr w.heap.size (fun _ => True) (.slice Aw l1.length cw) l1) ∧ Aside0 (Kd.R k59 59 wr w.heap.size (fun _ => True) (.slice An l0.length cn) l0) ∧ Aside0 (Below w.heap.size w wr))
              case atStart => exact ⟨0, rfl, ⟨by omega⟩, HWx, HNx, HBx⟩
              case round =>
                clear HWx HNx HBx
                obtain ⟨i, rfl, Hi, HRw, HRn, HB⟩ := hrel
                by_cases hlt : i < l1.length
                · obtain ⟨ad0, A4, c4, he, hx1, hx2, hx3, hx4, hx5, hl4, hC4⟩ := at_T56 HR1.out (i : Int) (by omega) (by omega)
                  cases he
                  replace hx1 := (HB.out.cell (World.block_lt_of_cell? w _ hx1)).trans hx1
                  replace hx2 := (HB.out.cell (World.block_lt_of_cell? w _ hx2)).trans hx2
                  replace hx3 := (HB.out.cell (World.block_lt_of_cell? w _ hx3)).trans hx3
                  replace hx4 := (HB.out.cell (World.block_lt_of_cell? w _ hx4)).trans hx4
                  replace hx5 := (HB.out.cell (World.block_lt_of_cell? w _ hx5)).trans hx5
                  rw [Int.toNat_natCast] at hx1 hx2 hx3 hx4 hx5
                  have hxe : rd_T56 l1 (i : Int) = l1[i] := by unfold rd_T56; rw [Int.toNat_natCast, List.getD_eq_getElem?_getD, List.getElem?_eq_getElem hlt]; rfl
                  have HEi := Aside0.mk (HE.out l1[i] (List.getElem_mem hlt))
                  rw [hxe] at hx1 hx2 hx3 hx4 hx5 hl4 hC4
                  have HC4 := Aside0.mk (Kd.C_below hC4 HB.out)
                  have Hl4 := Aside0.mk hl4
                  obtain ⟨gw, cpo, hov, _, _, _⟩ := Kd.R_form HRw.out (by omega)
                  injection hov with hov1 _ hov2
                  subst hov1 hov2
                  obtain ⟨co1, hcl, hM, hcc, _⟩ := Kd.R_elem HRw.out z56 (i : Int) (by omega) (by omega)
                  obtain ⟨v0, rfl, hR0⟩ := k56_openM hM
                  have hoe : l1.getD (i : Int).toNat z56 = l1[i] := by rw [Int.toNat_natCast, List.getD_eq_getElem?_getD, List.getElem?_eq_getElem hlt]; rfl
                  rw [hoe] at hR0 hcc
                  obtain ⟨Av, cv, rfl⟩ := Kd.R_slice hR0
                  obtain ⟨_, hcv, hCv⟩ := Kd.R_reads' hR0
                  have y2 := hcc 2 _ rfl
                  have y3 := hcc 3 _ rfl
                  have y4 := hcc 4 _ rfl
                  rw [Int.toNat_natCast] at y2 y3 y4
                  replace y2 : wr.cell? ⟨gw, i * 5 + 2, none⟩ = _ := y2
                  replace y3 : wr.cell? ⟨gw, i * 5 + 2 + 1, none⟩ = _ := y3
                  replace y4 : wr.cell? ⟨gw, i * 5 + 2 + 2, none⟩ = _ := y4
                  have HCv := Aside0.mk hCv
                  have Hcv := Aside0.mk hcv
                  clear hl4 hC4 hxe hcl hM hcc hR0 hoe hcv hCv
                  have p1 : (0 ≤ (i : Int)) = True := eq_true (by omega)
                  have p2 : ((i : Int) < (l1.length : Int)) = True := eq_true (by omega)
                  have p3 : (i < l1.length) = True := eq_true (by omega)
                  generalize l1[i] = x at *
                  go_upto_region 25 with (
                      (with_reducible refine gate_dst (N := 14) rfl ?_)
                      refine box_event ?hg (N := 14) ?hd (cs := #[.string (⟨#[]⟩ : ByteArray), .int .i64 0, .int .i64 0, .int .i64 0, .slice none 0 0]) (t := 56) ?hr ?_
                      (case hd => rfl)
                      (case hg => rfl)
                      (case hr => first | (go_simp; done) | (go_simp; rfl))
                      intro gi hgi w6' hbox hb3
                      have hgw : wr.heap.size ≤ gi := by omega
                      have hbw := below_set (g := gi) (j := 4) (v := .slice A4 x.f2.f2.length c4) (below_set (g := gi) (j := 3) (v := .int .i64 x.f2.f1) (below_set (g := gi) (j := 2) (v := .int .i64 x.f2.f0) (below_set (g := gi) (j := 1) (v := .int .i64 x.f1) (below_set (g := gi) (j := 0) (v := .string x.f0) hb3 hgw) hgw) hgw) hgw) hgw
                      have Hbw := Aside0.mk hbw
                      have Hgi := Aside0.mk (blk_put (cs' := #[.string x.f0, .int .i64 x.f1, .int .i64 x.f2.f0, .int .i64 x.f2.f1, .slice A4 x.f2.f2.length c4]) (blk_put (cs' := #[.string x.f0, .int .i64 x.f1, .int .i64 x.f2.f0, .int .i64 x.f2.f1, .slice none 0 0]) (blk_put (cs' := #[.string x.f0, .int .i64 x.f1, .int .i64 x.f2.f0, .int .i64 0, .slice none 0 0]) (blk_put (cs' := #[.string x.f0, .int .i64 x.f1, .int .i64 0, .int .i64 0, .slice none 0 0]) (blk_put (cs' := #[.string x.f0, .int .i64 0, .int .i64 0, .int .i64 0, .slice none 0 0]) (hbox) 0 (.string x.f0) rfl) 1 (.int .i64 x.f1) rfl) 2 (.int .i64 x.f2.f0) rfl) 3 (.int .i64 x.f2.f1) rfl) 4 (.slice A4 x.f2.f2.length c4) rfl)
                      have hcz0 := (blk_cell hbox 0).trans rfl
                      have hfz0 := blk_frozen hbox 0
                      have hcz1 := (blk_cell hbox 1).trans rfl
                      have hfz1 := blk_frozen hbox 1
                      have hcz2 := (blk_cell hbox 2).trans rfl
                      have hfz2 := blk_frozen hbox 2
                      have hcz3 := (blk_cell hbox 3).trans rfl
                      have hfz3 := blk_frozen hbox 3
                      have hcz4 := (blk_cell hbox 4).trans rfl
                      have hfz4 := blk_frozen hbox 4
                      clear hbox hb3 hgi hgw hbw)
                  clear hcz0 hcz1 hcz2 hcz3 hcz4 hfz0 hfz1 hfz2 hfz3 hfz4 hx1 hx2 hx3 hx4 hx5
                  generalize (((((w6'.setCell ⟨gi, 0, none⟩ (.string x.f0)).setCell ⟨gi, 1, none⟩ (.int .i64 x.f1)).setCell ⟨gi, 2, none⟩ (.int .i64 x.f2.f0)).setCell ⟨gi, 3, none⟩ (.int .i64 x.f2.f1)).setCell ⟨gi, 4, none⟩ (.slice A4 x.f2.f2.length c4)) = wq at *
                  have HRq := Aside0.mk (Kd.R_below HRw.out Hbw.out)
                  have HNq := Aside0.mk (Kd.R_below HRn.out Hbw.out)
                  have HBq := Aside0.mk (below_step HB.out Hbw.out)
                  have HC5 := Aside0.mk (Kd.C_below HC4.out Hbw.out)
                  have HC6 := Aside0.mk (Kd.C_below HCv.out Hbw.out)
                  have n2 : wq.cell? ⟨gi, 2, none⟩ = some (.int .i64 x.f2.f0) := (blk_cell Hgi.out 2).trans rfl
                  have n3 : wq.cell? ⟨gi, 3, none⟩ = some (.int .i64 x.f2.f1) := (blk_cell Hgi.out 3).trans rfl
                  have n4 : wq.cell? ⟨gi, 4, none⟩ = some (.slice A4 x.f2.f2.length c4) := (blk_cell Hgi.out 4).trans rfl
                  have m2 := cell_up Hbw.out y2
                  have m3 := cell_up Hbw.out y3
                  have m4 := cell_up Hbw.out y4
                  clear HRw HRn HB HC4 HCv Hbw y2 y3 y4
                  go_region_held3 (fun w' => w'.cell? ⟨gi, 2, none⟩ = some (.int .i64 x.f2.f0) ∧ w'.cell? ⟨gi, 3, none⟩ = some (.int .i64 x.f2.f1) ∧ w'.cell? ⟨gi, 4, none⟩ = some (.slice A4 x.f2.f2.length c4) ∧ w'.cell? ⟨gw, i * 5 + 2, none⟩ = some (.int .i64 x.f2.f0) ∧ w'.cell? ⟨gw, i * 5 + 2 + 1, none⟩ = some (.int .i64 x.f2.f1) ∧ w'.cell? ⟨gw, i * 5 + 2 + 2, none⟩ = some (.slice Av x.f2.f2.length cv)) (go_keep)
                    (first
                    | (go_at_call 26
                       (with_reducible refine (virgationref02_Equal.calls kE x.f2.f0 x.f2.f1 A4 c4 x.f2.f2 x.f2.f0 x.f2.f1 Av cv x.f2.f2 true _ (Kd.C_below HC5.out (below_drew (Below.refl _ _))) Hl4.out (Kd.C_below HC6.out (below_drew (Below.refl _ _))) Hcv.out HEi.out).mono ?_)
                       rintro e wA ⟨rfl, hbA⟩
                       have HRA := Aside0.mk (Kd.R_below (Kd.R_drew HRq.out) hbA)
                       have HNA := Aside0.mk (Kd.R_below (Kd.R_drew HNq.out) hbA)
                       have HBA := Aside0.mk (below_step (below_drew HBq.out) hbA)
                       have a2 := cell_up hbA (show wq.drew.cell? _ = _ from n2)
                       have a3 := cell_up hbA (show wq.drew.cell? _ = _ from n3)
                       have a4 := cell_up hbA (show wq.drew.cell? _ = _ from n4)
                       have b2 := cell_up hbA (show wq.drew.cell? _ = _ from m2)
                       have b3 := cell_up hbA (show wq.drew.cell? _ = _ from m3)
                       have b4 := cell_up hbA (show wq.drew.cell? _ = _ from m4)
                       clear hbA))
                  all_goals go_wp2_with fail
                  all_goals (
                    have hk := Hi.out
                    obtain ⟨k1, rfl⟩ : ∃ k1, gk = k1 + 1 := ⟨gk - 1, by omega⟩
                    go_roundg k1
                    case measure => omega
                    case rel => exact ⟨i + 1, by go_num, ⟨by omega⟩, HRA, HNA, HBA⟩)
                · clear HRw
                  go_wp2_with fail
                  go_loopg [103] l0.length (fun kq v103 wr => ∃ (i : Nat), v103 = .int .i64 (i : Int) ∧ Aside0 (i + kq = l0.length) ∧ Aside0 (Kd.R k59 59 wr w.heap.size (fun _ => True) (.slice An l0.length cn) l0) ∧ Aside0 (Below w.heap.size w wr))
                  case atStart => exact ⟨0, rfl, ⟨by omega⟩, HRn, HB⟩
                  case round =>
                    clear HRn HB
                    obtain ⟨i, rfl, Hi, HRn, HB⟩ := hrel
                    by_cases hlt : i < l0.length
                    · obtain ⟨ad0, he, hx1, hx2⟩ := at_T59 HR0.out (i : Int) (by omega) (by omega)
                      cases he
                      replace hx1 := (HB.out.cell (World.block_lt_of_cell? w _ hx1)).trans hx1
                      replace hx2 := (HB.out.cell (World.block_lt_of_cell? w _ hx2)).trans hx2
                      rw [Int.toNat_natCast] at hx1 hx2
                      obtain ⟨gn, cpo, hov, _, _, _⟩ := Kd.R_form HRn.out (by omega)
                      injection hov with hov1 _ hov2
                      subst hov1 hov2
                      obtain ⟨co1, hcl, hM, hcc, _⟩ := Kd.R_elem HRn.out z59 (i : Int) (by omega) (by omega)
                      have e := k59_openM hM
                      subst e
                      have y0 := hcc 0 _ rfl
                      have y1 := hcc 1 _ rfl
                      rw [Int.toNat_natCast] at y0 y1
                      replace y0 : wr.cell? ⟨gn, i * 2, none⟩ = some (.string (rd_T59 l0 (i : Int)).f0) := y0
                      replace y1 : wr.cell? ⟨gn, i * 2 + 1, none⟩ = some (.int .i64 (rd_T59 l0 (i : Int)).f1) := y1
                      clear hcl hM hcc
                      have p1 : (0 ≤ (i : Int)) = True := eq_true (by omega)
                      have p2 : ((i : Int) < (l0.length : Int)) = True := eq_true (by omega)
                      have p3 : (i < l0.length) = True := eq_true (by omega)
                      generalize (rd_T59 l0 (i : Int)) = x at *
                      go_wp2_with fail
                      go_quiet (fail)
                      go_wp2_with fail
                      have hk := Hi.out
                      obtain ⟨k1, rfl⟩ : ∃ k1, gk = k1 + 1 := ⟨gk - 1, by omega⟩
                      go_roundg k1
                      case measure => omega
                      case rel => exact ⟨i + 1, by go_num, ⟨by omega⟩, ⟨Kd.R_drewN HRn.out _⟩, ⟨pw_below_drewN HB.out _⟩⟩
                    · clear HRn
                      go_wp2_with fail
                      (with_reducible refine (alive_calls _).mono ?_)
                      rintro e w2' ⟨rfl, hb2⟩
                      have HB2 := Aside0.mk (below_step HB.out hb2)
                      clear hb2
                      go_wp2_with fail
                      go_ret
                      exact ⟨rfl, HB2.out⟩
end Go.Proofs.Ytfhgoebgnilfaaa.I
namespace Go.Proofs.Ytfhgoebgnilfaaa.I
open Go.RowKit Go.Proofs.YtfhgoebgnilfaaaW.PrintWords
set_option linter.unusedVariables false
def virgationlaw04_InferOwn.f (k : Nat) (l0 : List S59) (l1 : List S56) : Option Bool := if looseWf (l1.map to48) = true then some true else none
theorem virgationlaw04_InferOwn.calls (k : Nat) (A0 : Option Addr) (c0 : Nat) (l0 : List S59) (A1 : Option Addr) (c1 : Nat) (l1 : List S56) (r : Bool) (w : World) (hr0 : Kd.C k59 w A0 l0.length l0) (hc0 : l0.length ≤ c0) (hr1 : Kd.C k56 w A1 l1.length l1) (hc1 : l1.length ≤ c1) (h : virgationlaw04_InferOwn.f k l0 l1 = some r) :
    Calls Try.prog 8 #[.slice A0 l0.length c0, .slice A1 l1.length c1] w fun e w' => e = .returned (.bool r) ∧ Below w.heap.size w w' := by
  unfold virgationlaw04_InferOwn.f at h
  by_cases hw : looseWf (l1.map to48) = true
  · rw [if_pos hw] at h
    injection h with h
    subst h
    exact own_calls A0 c0 l0 A1 c1 l1 w hr0 hc0 hr1 hc1 hw
  · rw [if_neg hw] at h; cases h
theorem pure_InferOwn : ∀ (x0 : (List S59)) (x1 : (List S56)), (x0.length ≤ 9223372036854775807 ∧ (∀ y_, y_ ∈ x0 → wf59 y_)) → (x1.length ≤ 9223372036854775807 ∧ (∀ y_, y_ ∈ x1 → wf56 y_)) → ∃ k, virgationlaw04_InferOwn.f k x0 x1 = some true := by
  intro s l hs hl
  refine ⟨0, ?_⟩
  unfold virgationlaw04_InferOwn.f
  rw [if_pos (looseWf_to48 hl.2)]
end Go.Proofs.Ytfhgoebgnilfaaa.I
