/- Texts of this session's proof, laid together: I4, I5, IK1, IK2, IK3, IK4. -/
import Derived.LaidEqlPtr
import Derived.Laws.Pointers
import Derived.Deep.RegionHeld3
import Derived.Test.YtfhgoebgnilfaaaY1
namespace Go.Proofs.Ytfhgoebgnilfaaa.I
open Go.RowKit Go.Proofs.YtfhgoebgnilfaaaW.PrintWords Go.Proofs.YtfhgoebgnilfaaaW.PrintLast Go.Proofs.YtfhgoebgnilfaaaW.PrintMore
attribute [local go_sem] max2_int min2_int max_two min_two max_three min_three max_four min_four   -- for this text's walks alone
set_option linter.unusedVariables false
set_option linter.unusedSimpArgs false
mutual
def virgationref04_exist.j0 : Nat → Int → Int → Int → Int → Int → Int → List (S44) → Option (Bool)
  | 0, _, _, _, _, _, _, _ => none
  | k + 1, x1, x2, x3, x9, x140000, x140001, x140002 => if x140001 < 0 then (virgationref04_exist.j1 k x1 x2 x3 true x140000 x140001 x140002) else (virgationref04_exist.j1 k x1 x2 x3 (decide (x140001 ≥ x9)) x140000 x140001 x140002)
def virgationref04_exist.j1 : Nat → Int → Int → Int → Bool → Int → Int → List (S44) → Option (Bool)
  | 0, _, _, _, _, _, _, _ => none
  | k + 1, x1, x2, x3, x31, x140000, x140001, x140002 => if x31 = true then (some false) else (virgationref04_exist.l0 k x1 x2 x3 x140002 (x140002.length : Int) 0)
def virgationref04_exist.l0 : Nat → Int → Int → Int → List (S44) → Int → Int → Option (Bool)
  | 0, _, _, _, _, _, _ => none
  | k + 1, x1, x2, x3, x33, x34, x35 => if x35 < x34 then (if 0 ≤ x35 then (if x35 < (x33.length : Int) then ((virgationref04_exist.f k ((rd_T44 x33 x35).f0) ((rd_T44 x33 x35).f1) ((rd_T44 x33 x35).f2) x1 x2 x3).bind fun t142 => (if t142 = true then (virgationref04_exist.l0 k x1 x2 x3 x33 x34 (wrap64 (x35 + 1))) else (some false))) else (none)) else (none)) else (some true)
def virgationref04_exist.f : Nat → Int → Int → List (S44) → Int → Int → Int → Option (Bool)
  | 0, _, _, _, _, _, _ => none
  | k + 1, a0_0, a0_1, l0_2, a1, a2, a3 => if a0_0 = 0 then (virgationref04_exist.j0 k a1 a2 a3 a1 a0_0 a0_1 l0_2) else (if a0_0 = 1 then (virgationref04_exist.j0 k a1 a2 a3 a2 a0_0 a0_1 l0_2) else (if a0_0 = 2 then (virgationref04_exist.j0 k a1 a2 a3 a3 a0_0 a0_1 l0_2) else (virgationref04_exist.j0 k a1 a2 a3 0 a0_0 a0_1 l0_2)))
end
theorem virgationref04_exist.mono_l : ∀ k, (∀ y0 y1 y2 y3 y4 y5, LeO (virgationref04_exist.f k y0 y1 y2 y3 y4 y5) (virgationref04_exist.f (k + 1) y0 y1 y2 y3 y4 y5)) ∧ (∀ y0 y1 y2 y3 y4 y5 y6, LeO (virgationref04_exist.j0 k y0 y1 y2 y3 y4 y5 y6) (virgationref04_exist.j0 (k + 1) y0 y1 y2 y3 y4 y5 y6)) ∧ (∀ y0 y1 y2 y3 y4 y5 y6, LeO (virgationref04_exist.j1 k y0 y1 y2 y3 y4 y5 y6) (virgationref04_exist.j1 (k + 1) y0 y1 y2 y3 y4 y5 y6)) ∧ (∀ y0 y1 y2 y3 y4 y5, LeO (virgationref04_exist.l0 k y0 y1 y2 y3 y4 y5) (virgationref04_exist.l0 (k + 1) y0 y1 y2 y3 y4 y5))
  | 0 => ⟨fun _ _ _ _ _ _ r h => by simp [virgationref04_exist.f] at h, fun _ _ _ _ _ _ _ r h => by simp [virgationref04_exist.j0] at h, fun _ _ _ _ _ _ _ r h => by simp [virgationref04_exist.j1] at h, fun _ _ _ _ _ _ r h => by simp [virgationref04_exist.l0] at h⟩
  | k + 1 => by
    obtain ⟨ih0, ih1, ih2, ih3⟩ := virgationref04_exist.mono_l k
    refine ⟨?_, ?_, ?_, ?_⟩
    · intro y0 y1 y2 y3 y4 y5
      unfold virgationref04_exist.f
      repeat' first
      | (with_reducible exact ih0 _ _ _ _ _ _)
      | (with_reducible exact ih1 _ _ _ _ _ _ _)
      | (with_reducible exact ih2 _ _ _ _ _ _ _)
      | (with_reducible exact ih3 _ _ _ _ _ _)
      | (with_reducible exact LeO.refl _)
      | (with_reducible exact LeO.none _)
      | (with_reducible refine LeO.ite ?_ ?_)
      | (with_reducible refine LeO.bind ?_ (fun _ => ?_))
      | exact ih0 _ _ _ _ _ _
      | exact ih1 _ _ _ _ _ _ _
      | exact ih2 _ _ _ _ _ _ _
      | exact ih3 _ _ _ _ _ _
      | exact LeO.none _
      | refine LeO.ite ?_ ?_
      | refine LeO.bind ?_ (fun _ => ?_)
    · intro y0 y1 y2 y3 y4 y5 y6
      unfold virgationref04_exist.j0
      repeat' first
      | (with_reducible exact ih0 _ _ _ _ _ _)
      | (with_reducible exact ih1 _ _ _ _ _ _ _)
      | (with_reducible exact ih2 _ _ _ _ _ _ _)
      | (with_reducible exact ih3 _ _ _ _ _ _)
      | (with_reducible exact LeO.refl _)
      | (with_reducible exact LeO.none _)
      | (with_reducible refine LeO.ite ?_ ?_)
      | (with_reducible refine LeO.bind ?_ (fun _ => ?_))
      | exact ih0 _ _ _ _ _ _
      | exact ih1 _ _ _ _ _ _ _
      | exact ih2 _ _ _ _ _ _ _
      | exact ih3 _ _ _ _ _ _
      | exact LeO.none _
      | refine LeO.ite ?_ ?_
      | refine LeO.bind ?_ (fun _ => ?_)
    · intro y0 y1 y2 y3 y4 y5 y6
      unfold virgationref04_exist.j1
      repeat' first
      | (with_reducible exact ih0 _ _ _ _ _ _)
      | (with_reducible exact ih1 _ _ _ _ _ _ _)
      | (with_reducible exact ih2 _ _ _ _ _ _ _)
      | (with_reducible exact ih3 _ _ _ _ _ _)
      | (with_reducible exact LeO.refl _)
      | (with_reducible exact LeO.none _)
      | (with_reducible refine LeO.ite ?_ ?_)
      | (with_reducible refine LeO.bind ?_ (fun _ => ?_))
      | exact ih0 _ _ _ _ _ _
      | exact ih1 _ _ _ _ _ _ _
      | exact ih2 _ _ _ _ _ _ _
      | exact ih3 _ _ _ _ _ _
      | exact LeO.none _
      | refine LeO.ite ?_ ?_
      | refine LeO.bind ?_ (fun _ => ?_)
    · intro y0 y1 y2 y3 y4 y5
      unfold virgationref04_exist.l0
      repeat' first
      | (with_reducible exact ih0 _ _ _ _ _ _)
      | (with_reducible exact ih1 _ _ _ _ _ _ _)
      | (with_reducible exact ih2 _ _ _ _ _ _ _)
      | (with_reducible exact ih3 _ _ _ _ _ _)
      | (with_reducible exact LeO.refl _)
      | (with_reducible exact LeO.none _)
      | (with_reducible refine LeO.ite ?_ ?_)
      | (with_reducible refine LeO.bind ?_ (fun _ => ?_))
      | exact ih0 _ _ _ _ _ _
      | exact ih1 _ _ _ _ _ _ _
      | exact ih2 _ _ _ _ _ _ _
      | exact ih3 _ _ _ _ _ _
      | exact LeO.none _
      | refine LeO.ite ?_ ?_
      | refine LeO.bind ?_ (fun _ => ?_)
theorem virgationref04_exist.mono : ∀ a0 a1 a2 a3 a4 a5 k, LeO (virgationref04_exist.f k a0 a1 a2 a3 a4 a5) (virgationref04_exist.f (k + 1) a0 a1 a2 a3 a4 a5) := by
  intro a0 a1 a2 a3 a4 a5 k
  obtain ⟨ih0, ih1, ih2, ih3⟩ := virgationref04_exist.mono_l k
  exact ih0 a0 a1 a2 a3 a4 a5
set_option maxHeartbeats 8000000 in
set_option maxRecDepth 100000 in
theorem virgationref04_exist.calls (k : Nat) : ∀ (a0_0 : Int) (a0_1 : Int) (A0_2 : Option Addr) (c0_2 : Nat) (l0_2 : List (S44)) (a1 : Int) (a2 : Int) (a3 : Int) (r : Bool) (w : World) (hr0_2 : Kd.C k44 w A0_2 l0_2.length l0_2) (hc0_2 : l0_2.length ≤ c0_2) (h : virgationref04_exist.f k a0_0 a0_1 l0_2 a1 a2 a3 = some r),
    Calls Try.prog 36 #[.agg #[.int .i64 a0_0, .int .i64 a0_1, .slice A0_2 l0_2.length c0_2], .int .i64 a1, .int .i64 a2, .int .i64 a3] w fun e w' => e = .returned (.bool r) ∧ Below w.heap.size w w' := by
  induction k using Nat.strongRecOn with
  | _ k ih =>
  intro a0_0 a0_1 A0_2 c0_2 l0_2 a1 a2 a3 r w hr0_2 hc0_2 h
  cases k with
  | zero => exact absurd h (by simp [virgationref04_exist.f])
  | succ k =>
  simp only [virgationref04_exist.f] at h
  have hu44 := Try.underlying44
  have HR0_2 := Aside0.mk hr0_2
  have HC0_2 := Aside0.mk hc0_2
  clear hr0_2 hc0_2
  have HB := Aside0.mk (Below.refl w.heap.size w)
  have H : (if a0_0 = 0 then (virgationref04_exist.j0 k a1 a2 a3 a1 a0_0 a0_1 l0_2) else (if a0_0 = 1 then (virgationref04_exist.j0 k a1 a2 a3 a2 a0_0 a0_1 l0_2) else (if a0_0 = 2 then (virgationref04_exist.j0 k a1 a2 a3 a3 a0_0 a0_1 l0_2) else (virgationref04_exist.j0 k a1 a2 a3 0 a0_0 a0_1 l0_2)))) = some r := h
  clear h
  have HC5 := Aside0.mk H
  clear H
  go_enter Try.func36, Try.ntmps36
  go_upto_block 0 with (first | ((with_reducible refine gate_dst (N := 4) rfl ?_); refine box_event ?hg (N := 4) ?hd (cs := #[.int .i64 a0_0, .int .i64 a0_1, .slice A0_2 l0_2.length c0_2]) (t := 44) ?hr ?_; (case hd => rfl); (case hg => rfl); (case hr => first | (go_simp; done) | (go_simp; rfl)); intro gb139 hg w6 hbox hb; have n0_ := Aside0.mk (below_step (by repeat (first | (with_reducible first | exact HB.out | apply below_alloc | apply pw_below_drewN | apply below_drew1) | exact HB.out)) hb); have n1_ := Aside0.mk (hbox); have n2_ := Aside0.mk ((by rw [hg]; exact (below_size (by repeat (first | (with_reducible first | exact HB.out | apply below_alloc | apply pw_below_drewN | apply below_drew1) | exact HB.out))) : w.heap.size ≤ gb139)); have n3_ := Aside0.mk ((by rw [hg]; exact (below_size (by repeat (first | (with_reducible first | exact HB.out | apply below_alloc | apply pw_below_drewN | apply below_drew1) | exact HB.out))) : w.heap.size ≤ gb139)); clear HB; have HB := n0_; have BK139 := n1_; have GW139 := n2_; have GE139 := n3_; clear n0_ n1_ n2_ n3_; clear hb hbox hg; have hcz7_0 : w6.cell? ⟨gb139, 0, none⟩ = some (.int .i64 a0_0) := (blk_cell BK139.out 0).trans rfl; have hcz7_1 : w6.cell? ⟨gb139, 1, none⟩ = some (.int .i64 a0_1) := (blk_cell BK139.out 1).trans rfl; have hcz7_2 : w6.cell? ⟨gb139, 2, none⟩ = some (.slice A0_2 l0_2.length c0_2) := (blk_cell BK139.out 2).trans rfl; have hfz7_0 := blk_frozen BK139.out 0; have hfz7_1 := blk_frozen BK139.out 1; have hfz7_2 := blk_frozen BK139.out 2))
  (try simp only [Act.put, List.setIfInBounds_toArray, List.set_cons_zero, List.set_cons_succ])
  go_cut [9] (fun v9 wc => ∃ (kq : Nat) (x9_4 : Int), v9 = .int .i64 x9_4 ∧ Aside0 (virgationref04_exist.j0 kq a1 a2 a3 x9_4 a0_0 a0_1 l0_2 = some r) ∧ Aside0 (kq ≤ k) ∧ Aside0 (wc.heap[gb139]? = some (.cells #[.int .i64 a0_0, .int .i64 a0_1, (.slice A0_2 l0_2.length c0_2)] 44 (0, 0))) ∧ Aside0 (Below w.heap.size w wc))
  case first =>
    have H := HC5.out
    clear HC5
    by_cases c8 : a0_0 = 0
    · rw [if_pos c8] at H
      have c8b0 : (a0_0 == 0) = true := beq_iff_eq.mpr c8
      have c8b1 : (a0_0 != 0) = false := bne_eq_false_iff_eq.mpr c8
      clear c8
      (first | rw [c8b0] | (simp only [i64_w, i32_w]; rw [c8b0]) | skip)
      have H' := Aside0.mk H
      clear H
      go_wp2
      go_meet
      case rel => exact ⟨_, (a1), (by first | rfl | (simp; done) | (simp [*]; done)), H', ⟨by first | omega | exact Nat.le_refl _⟩, ⟨by (with_reducible repeat (first | refine blk_drewN ?_ _ | refine blk_drew ?_ | refine blk_alloc ?_ _)); exact BK139.out⟩, ⟨by repeat (first | (with_reducible first | exact HB.out | apply below_alloc | apply pw_below_drewN | apply below_drew1 | refine below_set ?_ GE139.out) | exact HB.out)⟩⟩
    · rw [if_neg c8] at H
      have c8b0 : (a0_0 == 0) = false := beq_eq_false_iff_ne.mpr c8
      have c8b1 : (a0_0 != 0) = true := bne_iff_ne.mpr c8
      (first | rw [c8b0] | (simp only [i64_w, i32_w]; rw [c8b0]) | skip)
      by_cases c9 : a0_0 = 1
      · rw [if_pos c9] at H
        have c9b0 : (a0_0 == 1) = true := beq_iff_eq.mpr c9
        have c9b1 : (a0_0 != 1) = false := bne_eq_false_iff_eq.mpr c9
        clear c9
        have H' := Aside0.mk H
        clear H
        go_wp2
        go_meet
        case rel => exact ⟨_, (a2), (by first | rfl | (simp; done) | (simp [*]; done)), H', ⟨by first | omega | exact Nat.le_refl _⟩, ⟨by (with_reducible repeat (first | refine blk_drewN ?_ _ | refine blk_drew ?_ | refine blk_alloc ?_ _)); exact BK139.out⟩, ⟨by repeat (first | (with_reducible first | exact HB.out | apply below_alloc | apply pw_below_drewN | apply below_drew1 | refine below_set ?_ GE139.out) | exact HB.out)⟩⟩
      · rw [if_neg c9] at H
        have c9b0 : (a0_0 == 1) = false := beq_eq_false_iff_ne.mpr c9
        have c9b1 : (a0_0 != 1) = true := bne_iff_ne.mpr c9
        by_cases c10 : a0_0 = 2
        · rw [if_pos c10] at H
          have c10b0 : (a0_0 == 2) = true := beq_iff_eq.mpr c10
          have c10b1 : (a0_0 != 2) = false := bne_eq_false_iff_eq.mpr c10
          clear c10
          have H' := Aside0.mk H
          clear H
          go_wp2
          go_meet
          case rel => exact ⟨_, (a3), (by first | rfl | (simp; done) | (simp [*]; done)), H', ⟨by first | omega | exact Nat.le_refl _⟩, ⟨by (with_reducible repeat (first | refine blk_drewN ?_ _ | refine blk_drew ?_ | refine blk_alloc ?_ _)); exact BK139.out⟩, ⟨by repeat (first | (with_reducible first | exact HB.out | apply below_alloc | apply pw_below_drewN | apply below_drew1 | refine below_set ?_ GE139.out) | exact HB.out)⟩⟩
        · rw [if_neg c10] at H
          have c10b0 : (a0_0 == 2) = false := beq_eq_false_iff_ne.mpr c10
          have c10b1 : (a0_0 != 2) = true := bne_iff_ne.mpr c10
          have H' := Aside0.mk H
          clear H
          go_wp2
          go_meet
          case rel => exact ⟨_, (0), (by first | rfl | (simp; done) | (simp [*]; done)), H', ⟨by first | omega | exact Nat.le_refl _⟩, ⟨by (with_reducible repeat (first | refine blk_drewN ?_ _ | refine blk_drew ?_ | refine blk_alloc ?_ _)); exact BK139.out⟩, ⟨by repeat (first | (with_reducible first | exact HB.out | apply below_alloc | apply pw_below_drewN | apply below_drew1 | refine below_set ?_ GE139.out) | exact HB.out)⟩⟩
  case rest =>
    clear HC5
    try clear c1
    try clear p2
    try clear c3
    try clear c8
    try clear c8b0
    try clear c8b1
    try clear c9
    try clear c9b0
    try clear c9b1
    try clear c10
    try clear c10b0
    try clear c10b1
    try clear hcz7_0
    try clear hcz7_1
    try clear hcz7_2
    try clear hfz7_0
    try clear hfz7_1
    try clear hfz7_2
    obtain ⟨kq, x9_4, rfl, HA, HJ4, BK139, HB⟩ := hcut
    cases kq with
    | zero => exact absurd HA.out (by simp [virgationref04_exist.j0])
    | succ kj4 =>
      have H := HA.out
      clear HA
      simp only [virgationref04_exist.j0] at H
      have HC11 := Aside0.mk H
      clear H
      go_upto_region 9 with (fail)
      go_cut [31] (fun v31 wc => ∃ (kq : Nat) (x31_10 : Bool), v31 = .bool x31_10 ∧ Aside0 (virgationref04_exist.j1 kq a1 a2 a3 x31_10 a0_0 a0_1 l0_2 = some r) ∧ Aside0 (kq ≤ kj4) ∧ Aside0 (wc.heap[gb139]? = some (.cells #[.int .i64 a0_0, .int .i64 a0_1, (.slice A0_2 l0_2.length c0_2)] 44 (0, 0))) ∧ Aside0 (Below w.heap.size w wc))
      case first =>
        have H := HC11.out
        clear HC11
        by_cases c12 : a0_1 < 0
        · rw [if_pos c12] at H
          have c12b0 : decide (a0_1 < 0) = true := decide_eq_true c12
          clear c12
          (first | rw [c12b0] | (simp only [i64_w, i32_w]; rw [c12b0]) | skip)
          have H' := Aside0.mk H
          clear H
          have hcz13_0 : wc.cell? ⟨gb139, 0, none⟩ = some (.int .i64 a0_0) := (blk_cell BK139.out 0).trans rfl
          have hcz13_1 : wc.cell? ⟨gb139, 1, none⟩ = some (.int .i64 a0_1) := (blk_cell BK139.out 1).trans rfl
          have hcz13_2 : wc.cell? ⟨gb139, 2, none⟩ = some (.slice A0_2 l0_2.length c0_2) := (blk_cell BK139.out 2).trans rfl
          have hfz13_0 := blk_frozen BK139.out 0
          have hfz13_1 := blk_frozen BK139.out 1
          have hfz13_2 := blk_frozen BK139.out 2
          go_wp2
          go_meet
          case rel => exact ⟨_, (true), (by first | rfl | (simp; done) | (simp [*]; done)), H', ⟨by have := HJ4.out; first | omega | exact Nat.le_refl _⟩, ⟨by (with_reducible repeat (first | refine blk_drewN ?_ _ | refine blk_drew ?_ | refine blk_alloc ?_ _)); exact BK139.out⟩, ⟨by repeat (first | (with_reducible first | exact HB.out | apply below_alloc | apply pw_below_drewN | apply below_drew1 | refine below_set ?_ GE139.out) | exact HB.out)⟩⟩
        · rw [if_neg c12] at H
          have c12b0 : decide (a0_1 < 0) = false := decide_eq_false c12
          clear c12
          (first | rw [c12b0] | (simp only [i64_w, i32_w]; rw [c12b0]) | skip)
          have H' := Aside0.mk H
          clear H
          have hcz14_0 : wc.cell? ⟨gb139, 0, none⟩ = some (.int .i64 a0_0) := (blk_cell BK139.out 0).trans rfl
          have hcz14_1 : wc.cell? ⟨gb139, 1, none⟩ = some (.int .i64 a0_1) := (blk_cell BK139.out 1).trans rfl
          have hcz14_2 : wc.cell? ⟨gb139, 2, none⟩ = some (.slice A0_2 l0_2.length c0_2) := (blk_cell BK139.out 2).trans rfl
          have hfz14_0 := blk_frozen BK139.out 0
          have hfz14_1 := blk_frozen BK139.out 1
          have hfz14_2 := blk_frozen BK139.out 2
          go_wp2
          go_meet
          case rel => exact ⟨_, (decide (a0_1 ≥ x9_4)), (by first | rfl | (simp; done) | (simp [*]; done)), H', ⟨by have := HJ4.out; first | omega | exact Nat.le_refl _⟩, ⟨by (with_reducible repeat (first | refine blk_drewN ?_ _ | refine blk_drew ?_ | refine blk_alloc ?_ _)); exact BK139.out⟩, ⟨by repeat (first | (with_reducible first | exact HB.out | apply below_alloc | apply pw_below_drewN | apply below_drew1 | refine below_set ?_ GE139.out) | exact HB.out)⟩⟩
      case rest =>
        clear HC11
        try clear c1
        try clear p2
        try clear c3
        try clear c8
        try clear c8b0
        try clear c8b1
        try clear c9
        try clear c9b0
        try clear c9b1
        try clear c10
        try clear c10b0
        try clear c10b1
        try clear c12
        try clear c12b0
        try clear hcz13_0
        try clear hcz13_1
        try clear hcz13_2
        try clear hcz14_0
        try clear hcz14_1
        try clear hcz14_2
        try clear hcz7_0
        try clear hcz7_1
        try clear hcz7_2
        try clear hfz13_0
        try clear hfz13_1
        try clear hfz13_2
        try clear hfz14_0
        try clear hfz14_1
        try clear hfz14_2
        try clear hfz7_0
        try clear hfz7_1
        try clear hfz7_2
        try clear p2
        obtain ⟨kq, x31_10, rfl, HA, HJ10, BK139, HB⟩ := hcut
        cases kq with
        | zero => exact absurd HA.out (by simp [virgationref04_exist.j1])
        | succ kj10 =>
          have H := HA.out
          clear HA
          simp only [virgationref04_exist.j1] at H
          by_cases c15 : x31_10 = true
          · subst c15
            have H1 : (some false) = some r := by rw [if_pos rfl] at H; exact H
            clear H
            have H := H1
            clear H1
            obtain rfl := Option.some.inj H
            go_wp2
            go_ret
            exact ⟨by first | rfl | (simp [errW_none, errW_some] <;> rfl) | (simp [*, errW_none, errW_some] <;> rfl), by repeat (first | (with_reducible first | exact HB.out | apply below_alloc | apply pw_below_drewN | apply below_drew1 | refine below_set ?_ GE139.out) | exact HB.out)⟩
          · replace c15 := Bool.eq_false_iff.mpr c15
            subst c15
            have H1 : (virgationref04_exist.l0 kj10 a1 a2 a3 l0_2 (l0_2.length : Int) 0) = some r := by rw [if_neg (show ¬ (false = true) by decide)] at H; exact H
            clear H
            have H := H1
            clear H1
            have H' := Aside0.mk H
            clear H
            have hcz16_0 : wc.cell? ⟨gb139, 0, none⟩ = some (.int .i64 a0_0) := (blk_cell BK139.out 0).trans rfl
            have hcz16_1 : wc.cell? ⟨gb139, 1, none⟩ = some (.int .i64 a0_1) := (blk_cell BK139.out 1).trans rfl
            have hcz16_2 : wc.cell? ⟨gb139, 2, none⟩ = some (.slice A0_2 l0_2.length c0_2) := (blk_cell BK139.out 2).trans rfl
            have hfz16_0 := blk_frozen BK139.out 0
            have hfz16_1 := blk_frozen BK139.out 1
            have hfz16_2 := blk_frozen BK139.out 2
            go_wp2
            go_loopg [35] kj10 (fun kq v35 w' => ∃ (x35_3 : Int), v35 = .int .i64 x35_3 ∧ Aside0 (virgationref04_exist.l0 kq a1 a2 a3 l0_2 (l0_2.length : Int) x35_3 = some r) ∧ Aside0 (kq ≤ kj10) ∧ Aside0 (w'.heap[gb139]? = some (.cells #[.int .i64 a0_0, .int .i64 a0_1, (.slice A0_2 l0_2.length c0_2)] 44 (0, 0))) ∧ Aside0 (Below w.heap.size w w'))
            case atStart => exact ⟨(0), (by first | rfl | (simp; done) | (simp [*]; done)), H', ⟨Nat.le_refl _⟩, ⟨by (with_reducible repeat (first | refine blk_drewN ?_ _ | refine blk_drew ?_ | refine blk_alloc ?_ _)); exact BK139.out⟩, ⟨by repeat (first | (with_reducible first | exact HB.out | apply below_alloc | apply pw_below_drewN | apply below_drew1 | refine below_set ?_ GE139.out) | exact HB.out)⟩⟩
            case round =>
              clear H'
              try clear c1
              try clear p2
              try clear c3
              try clear c8
              try clear c8b0
              try clear c8b1
              try clear c9
              try clear c9b0
              try clear c9b1
              try clear c10
              try clear c10b0
              try clear c10b1
              try clear c12
              try clear c12b0
              try clear c15
              try clear hcz13_0
              try clear hcz13_1
              try clear hcz13_2
              try clear hcz14_0
              try clear hcz14_1
              try clear hcz14_2
              try clear hcz16_0
              try clear hcz16_1
              try clear hcz16_2
              try clear hcz7_0
              try clear hcz7_1
              try clear hcz7_2
              try clear hfz13_0
              try clear hfz13_1
              try clear hfz13_2
              try clear hfz14_0
              try clear hfz14_1
              try clear hfz14_2
              try clear hfz16_0
              try clear hfz16_1
              try clear hfz16_2
              try clear hfz7_0
              try clear hfz7_1
              try clear hfz7_2
              try clear p2
              obtain ⟨x35_3, rfl, HA, HK3, BK139, HB⟩ := hrel
              cases gk with
              | zero => exact absurd HA.out (by simp [virgationref04_exist.l0])
              | succ k3 =>
                have H := HA.out
                clear HA
                simp only [virgationref04_exist.l0] at H
                by_cases c17 : x35_3 < (l0_2.length : Int)
                · rw [if_pos c17] at H
                  have c17b0 : decide (x35_3 < (l0_2.length : Int)) = true := decide_eq_true c17
                  clear c17
                  by_cases c18 : 0 ≤ x35_3
                  · rw [if_pos c18] at H
                    have c18b0 : decide (0 ≤ x35_3) = true := decide_eq_true c18
                    clear c18
                    by_cases c19 : x35_3 < (l0_2.length : Int)
                    · rw [if_pos c19] at H
                      have c19b0 : decide (x35_3 < (l0_2.length : Int)) = true := decide_eq_true c19
                      clear c19
                      replace H := Option.bind_eq_some_iff.mp H
                      obtain ⟨t142, A200, H⟩ := H
                      replace H : (if t142 = true then (virgationref04_exist.l0 k3 a1 a2 a3 l0_2 (l0_2.length : Int) (wrap64 (x35_3 + 1))) else (some false)) = some r := H
                      have A20 := Aside0.mk A200
                      clear A200
                      by_cases c21 : t142 = true
                      · subst c21
                        have H1 : (virgationref04_exist.l0 k3 a1 a2 a3 l0_2 (l0_2.length : Int) (wrap64 (x35_3 + 1))) = some r := by rw [if_pos rfl] at H; exact H
                        clear H
                        have H := H1
                        clear H1
                        have H' := Aside0.mk H
                        clear H
                        have p140 : 0 ≤ (x35_3 : Int) := of_decide_eq_true (by first | (with_reducible assumption) | assumption)
                        have q140 : x35_3 < (l0_2.length : Int) := of_decide_eq_true (by first | (with_reducible assumption) | assumption)
                        obtain ⟨ad140, A140_2, c140_2, e140, hx140_0, hx140_1, hx140_2, hl140_2, hi140_2⟩ := at_T44 HR0_2.out x35_3 p140 q140
                        cases e140
                        replace hx140_0 := (HB.out.cell (World.block_lt_of_cell? w _ hx140_0)).trans hx140_0
                        replace hx140_1 := (HB.out.cell (World.block_lt_of_cell? w _ hx140_1)).trans hx140_1
                        replace hx140_2 := (HB.out.cell (World.block_lt_of_cell? w _ hx140_2)).trans hx140_2
                        have HR140_2 := Aside0.mk hi140_2
                        have HC140_2 := Aside0.mk hl140_2
                        clear hi140_2 hl140_2
                        replace p140 := eq_true p140
                        replace q140 := eq_true q140
                        go_wp2_with (first | ((with_reducible refine gate_dst (N := 11) rfl ?_); refine box_event ?hg (N := 11) ?hd (cs := #[.int .i64 0, .int .i64 0, .slice none 0 0]) (t := 44) ?hr ?_; (case hd => rfl); (case hg => rfl); (case hr => first | (go_simp; done) | (go_simp; rfl)); intro gb141 hg w22 hbox hb; have n0_ := Aside0.mk (blk_below (g := gb139) (o := .cells #[.int .i64 a0_0, .int .i64 a0_1, .slice (some ad140) l0_2.length c0_2] 44 (0, 0)) (by (with_reducible repeat (first | refine blk_drewN ?_ _ | refine blk_drew ?_ | refine blk_alloc ?_ _)); exact BK139.out) hb); have n1_ := Aside0.mk (below_step (by repeat (first | (with_reducible first | exact HB.out | apply below_alloc | apply pw_below_drewN | apply below_drew1 | refine below_set ?_ GE139.out) | exact HB.out)) hb); have n2_ := Aside0.mk (hbox); have n3_ := Aside0.mk ((by rw [hg]; exact (below_size (by repeat (first | (with_reducible first | exact HB.out | apply below_alloc | apply pw_below_drewN | apply below_drew1 | refine below_set ?_ GE139.out) | exact HB.out))) : w.heap.size ≤ gb141)); have n4_ := Aside0.mk ((by rw [hg]; exact (below_size (by repeat (first | (with_reducible first | exact HB.out | apply below_alloc | apply pw_below_drewN | apply below_drew1 | refine below_set ?_ GE139.out) | exact HB.out))) : w.heap.size ≤ gb141)); have n5_ := Aside0.mk ((by rw [hg]; exact Nat.ne_of_lt (blk_lt (g := gb139) (o := .cells #[.int .i64 a0_0, .int .i64 a0_1, .slice (some ad140) l0_2.length c0_2] 44 (0, 0)) (by (with_reducible repeat (first | refine blk_drewN ?_ _ | refine blk_drew ?_ | refine blk_alloc ?_ _)); exact BK139.out)) : gb139 ≠ gb141)); have n6_ := Aside0.mk ((by rw [hg]; exact Nat.ne_of_gt (blk_lt (g := gb139) (o := .cells #[.int .i64 a0_0, .int .i64 a0_1, .slice (some ad140) l0_2.length c0_2] 44 (0, 0)) (by (with_reducible repeat (first | refine blk_drewN ?_ _ | refine blk_drew ?_ | refine blk_alloc ?_ _)); exact BK139.out)) : gb141 ≠ gb139)); clear BK139; clear HB; have BK139 := n0_; have HB := n1_; have BK141 := n2_; have GW141 := n3_; have GE141 := n4_; have NB139_141 := n5_; have NB141_139 := n6_; clear n0_ n1_ n2_ n3_ n4_ n5_ n6_; clear hb hbox hg; have hnb23 := NB141_139.out; have hnc23 := NB139_141.out; have hcz24_0 : w22.cell? ⟨gb141, 0, none⟩ = some (.int .i64 0) := (blk_cell BK141.out 0).trans rfl; have hcz24_1 : w22.cell? ⟨gb141, 1, none⟩ = some (.int .i64 0) := (blk_cell BK141.out 1).trans rfl; have hcz24_2 : w22.cell? ⟨gb141, 2, none⟩ = some (.slice none 0 0) := (blk_cell BK141.out 2).trans rfl; have hfz24_0 := blk_frozen BK141.out 0; have hfz24_1 := blk_frozen BK141.out 1; have hfz24_2 := blk_frozen BK141.out 2) | ((with_reducible refine gate_callee (f := 36) rfl ?_); refine goesL_ (some 43) rfl rfl Try.func36 (by kernel_rfl) rfl #[.agg #[.int .i64 ((rd_T44 l0_2 x35_3).f0), .int .i64 ((rd_T44 l0_2 x35_3).f1), .slice A140_2 ((rd_T44 l0_2 x35_3).f2).length c140_2], .int .i64 a1, .int .i64 a2, .int .i64 a3] rfl (by (try simp only [List.map_toArray, List.map_cons, List.map_nil]); first | done | rfl | (simp only [List.length_drop, List.length_take]; rfl)) ?_; (with_reducible refine (ih k3 (by have := HJ4.out; have := HJ10.out; have := HK3.out; omega) ((rd_T44 l0_2 x35_3).f0) ((rd_T44 l0_2 x35_3).f1) _ _ ((rd_T44 l0_2 x35_3).f2) a1 a2 a3 true _ ?side1 ?side2 A20.out).mono ?_); (case side1 => exact Kd.C_below HR140_2.out (by repeat (first | (with_reducible first | exact HB.out | apply below_alloc | apply pw_below_drewN | apply below_drew1 | refine below_set ?_ GE139.out | refine below_set ?_ GE141.out) | exact HB.out))); (case side2 => exact HC140_2.out); rintro e w25 ⟨rfl, hb⟩; refine ⟨_, rfl, ?_⟩; have n0_ := Aside0.mk (blk_below (g := gb139) (o := .cells #[.int .i64 a0_0, .int .i64 a0_1, .slice (some ad140) l0_2.length c0_2] 44 (0, 0)) (by (with_reducible repeat (first | refine blk_drewN ?_ _ | refine blk_drew ?_ | refine blk_alloc ?_ _)); refine blk_far ?_ NB139_141.out _; (with_reducible repeat (first | refine blk_drewN ?_ _ | refine blk_drew ?_ | refine blk_alloc ?_ _)); refine blk_far ?_ NB139_141.out _; (with_reducible repeat (first | refine blk_drewN ?_ _ | refine blk_drew ?_ | refine blk_alloc ?_ _)); refine blk_far ?_ NB139_141.out _; (with_reducible repeat (first | refine blk_drewN ?_ _ | refine blk_drew ?_ | refine blk_alloc ?_ _)); exact BK139.out) hb); have n1_ := Aside0.mk (blk_below (g := gb141) (o := .cells #[.int .i64 ((rd_T44 l0_2 x35_3).f0), .int .i64 ((rd_T44 l0_2 x35_3).f1), .slice A140_2 ((rd_T44 l0_2 x35_3).f2).length c140_2] 44 (0, 0)) (by (with_reducible repeat (first | refine blk_drewN ?_ _ | refine blk_drew ?_ | refine blk_alloc ?_ _)); refine blk_put (cs := #[.int .i64 ((rd_T44 l0_2 x35_3).f0), .int .i64 ((rd_T44 l0_2 x35_3).f1), .slice none 0 0]) ?_ 2 _ rfl; (with_reducible repeat (first | refine blk_drewN ?_ _ | refine blk_drew ?_ | refine blk_alloc ?_ _)); refine blk_put (cs := #[.int .i64 ((rd_T44 l0_2 x35_3).f0), .int .i64 0, .slice none 0 0]) ?_ 1 _ rfl; (with_reducible repeat (first | refine blk_drewN ?_ _ | refine blk_drew ?_ | refine blk_alloc ?_ _)); refine blk_put (cs := #[.int .i64 0, .int .i64 0, .slice none 0 0]) ?_ 0 _ rfl; (with_reducible repeat (first | refine blk_drewN ?_ _ | refine blk_drew ?_ | refine blk_alloc ?_ _)); exact BK141.out) hb); have n2_ := Aside0.mk (below_step (by repeat (first | (with_reducible first | exact HB.out | apply below_alloc | apply pw_below_drewN | apply below_drew1 | refine below_set ?_ GE139.out | refine below_set ?_ GE141.out) | exact HB.out)) hb); clear BK139; clear BK141; clear HB; have BK139 := n0_; have BK141 := n1_; have HB := n2_; clear n0_ n1_ n2_; (try clear hb); (try clear hb2); (try clear hk); (try clear hi)))
                        go_roundg k3
                        case measure => have := HJ4.out; have := HJ10.out; have := HK3.out; omega
                        case rel => exact ⟨(wrap64 (x35_3 + 1)), (by first | rfl | (simp; done) | (simp [*]; done)), H', ⟨by have := HJ4.out; have := HJ10.out; have := HK3.out; omega⟩, ⟨by (with_reducible repeat (first | refine blk_drewN ?_ _ | refine blk_drew ?_ | refine blk_alloc ?_ _)); exact BK139.out⟩, ⟨by repeat (first | (with_reducible first | exact HB.out | apply below_alloc | apply pw_below_drewN | apply below_drew1 | refine below_set ?_ GE139.out | refine below_set ?_ GE141.out) | exact HB.out)⟩⟩
                      · replace c21 := Bool.eq_false_iff.mpr c21
                        subst c21
                        have H1 : (some false) = some r := by rw [if_neg (show ¬ (false = true) by decide)] at H; exact H
                        clear H
                        have H := H1
                        clear H1
                        obtain rfl := Option.some.inj H
                        have p140 : 0 ≤ (x35_3 : Int) := of_decide_eq_true (by first | (with_reducible assumption) | assumption)
                        have q140 : x35_3 < (l0_2.length : Int) := of_decide_eq_true (by first | (with_reducible assumption) | assumption)
                        obtain ⟨ad140, A140_2, c140_2, e140, hx140_0, hx140_1, hx140_2, hl140_2, hi140_2⟩ := at_T44 HR0_2.out x35_3 p140 q140
                        cases e140
                        replace hx140_0 := (HB.out.cell (World.block_lt_of_cell? w _ hx140_0)).trans hx140_0
                        replace hx140_1 := (HB.out.cell (World.block_lt_of_cell? w _ hx140_1)).trans hx140_1
                        replace hx140_2 := (HB.out.cell (World.block_lt_of_cell? w _ hx140_2)).trans hx140_2
                        have HR140_2 := Aside0.mk hi140_2
                        have HC140_2 := Aside0.mk hl140_2
                        clear hi140_2 hl140_2
                        replace p140 := eq_true p140
                        replace q140 := eq_true q140
                        go_wp2_with (first | ((with_reducible refine gate_dst (N := 11) rfl ?_); refine box_event ?hg (N := 11) ?hd (cs := #[.int .i64 0, .int .i64 0, .slice none 0 0]) (t := 44) ?hr ?_; (case hd => rfl); (case hg => rfl); (case hr => first | (go_simp; done) | (go_simp; rfl)); intro gb141 hg w26 hbox hb; have n0_ := Aside0.mk (blk_below (g := gb139) (o := .cells #[.int .i64 a0_0, .int .i64 a0_1, .slice (some ad140) l0_2.length c0_2] 44 (0, 0)) (by (with_reducible repeat (first | refine blk_drewN ?_ _ | refine blk_drew ?_ | refine blk_alloc ?_ _)); exact BK139.out) hb); have n1_ := Aside0.mk (below_step (by repeat (first | (with_reducible first | exact HB.out | apply below_alloc | apply pw_below_drewN | apply below_drew1 | refine below_set ?_ GE139.out) | exact HB.out)) hb); have n2_ := Aside0.mk (hbox); have n3_ := Aside0.mk ((by rw [hg]; exact (below_size (by repeat (first | (with_reducible first | exact HB.out | apply below_alloc | apply pw_below_drewN | apply below_drew1 | refine below_set ?_ GE139.out) | exact HB.out))) : w.heap.size ≤ gb141)); have n4_ := Aside0.mk ((by rw [hg]; exact (below_size (by repeat (first | (with_reducible first | exact HB.out | apply below_alloc | apply pw_below_drewN | apply below_drew1 | refine below_set ?_ GE139.out) | exact HB.out))) : w.heap.size ≤ gb141)); have n5_ := Aside0.mk ((by rw [hg]; exact Nat.ne_of_lt (blk_lt (g := gb139) (o := .cells #[.int .i64 a0_0, .int .i64 a0_1, .slice (some ad140) l0_2.length c0_2] 44 (0, 0)) (by (with_reducible repeat (first | refine blk_drewN ?_ _ | refine blk_drew ?_ | refine blk_alloc ?_ _)); exact BK139.out)) : gb139 ≠ gb141)); have n6_ := Aside0.mk ((by rw [hg]; exact Nat.ne_of_gt (blk_lt (g := gb139) (o := .cells #[.int .i64 a0_0, .int .i64 a0_1, .slice (some ad140) l0_2.length c0_2] 44 (0, 0)) (by (with_reducible repeat (first | refine blk_drewN ?_ _ | refine blk_drew ?_ | refine blk_alloc ?_ _)); exact BK139.out)) : gb141 ≠ gb139)); clear BK139; clear HB; have BK139 := n0_; have HB := n1_; have BK141 := n2_; have GW141 := n3_; have GE141 := n4_; have NB139_141 := n5_; have NB141_139 := n6_; clear n0_ n1_ n2_ n3_ n4_ n5_ n6_; clear hb hbox hg; have hnb27 := NB141_139.out; have hnc27 := NB139_141.out; have hcz28_0 : w26.cell? ⟨gb141, 0, none⟩ = some (.int .i64 0) := (blk_cell BK141.out 0).trans rfl; have hcz28_1 : w26.cell? ⟨gb141, 1, none⟩ = some (.int .i64 0) := (blk_cell BK141.out 1).trans rfl; have hcz28_2 : w26.cell? ⟨gb141, 2, none⟩ = some (.slice none 0 0) := (blk_cell BK141.out 2).trans rfl; have hfz28_0 := blk_frozen BK141.out 0; have hfz28_1 := blk_frozen BK141.out 1; have hfz28_2 := blk_frozen BK141.out 2) | ((with_reducible refine gate_callee (f := 36) rfl ?_); refine goesL_ (some 43) rfl rfl Try.func36 (by kernel_rfl) rfl #[.agg #[.int .i64 ((rd_T44 l0_2 x35_3).f0), .int .i64 ((rd_T44 l0_2 x35_3).f1), .slice A140_2 ((rd_T44 l0_2 x35_3).f2).length c140_2], .int .i64 a1, .int .i64 a2, .int .i64 a3] rfl (by (try simp only [List.map_toArray, List.map_cons, List.map_nil]); first | done | rfl | (simp only [List.length_drop, List.length_take]; rfl)) ?_; (with_reducible refine (ih k3 (by have := HJ4.out; have := HJ10.out; have := HK3.out; omega) ((rd_T44 l0_2 x35_3).f0) ((rd_T44 l0_2 x35_3).f1) _ _ ((rd_T44 l0_2 x35_3).f2) a1 a2 a3 false _ ?side1 ?side2 A20.out).mono ?_); (case side1 => exact Kd.C_below HR140_2.out (by repeat (first | (with_reducible first | exact HB.out | apply below_alloc | apply pw_below_drewN | apply below_drew1 | refine below_set ?_ GE139.out | refine below_set ?_ GE141.out) | exact HB.out))); (case side2 => exact HC140_2.out); rintro e w29 ⟨rfl, hb⟩; refine ⟨_, rfl, ?_⟩; have n0_ := Aside0.mk (blk_below (g := gb139) (o := .cells #[.int .i64 a0_0, .int .i64 a0_1, .slice (some ad140) l0_2.length c0_2] 44 (0, 0)) (by (with_reducible repeat (first | refine blk_drewN ?_ _ | refine blk_drew ?_ | refine blk_alloc ?_ _)); refine blk_far ?_ NB139_141.out _; (with_reducible repeat (first | refine blk_drewN ?_ _ | refine blk_drew ?_ | refine blk_alloc ?_ _)); refine blk_far ?_ NB139_141.out _; (with_reducible repeat (first | refine blk_drewN ?_ _ | refine blk_drew ?_ | refine blk_alloc ?_ _)); refine blk_far ?_ NB139_141.out _; (with_reducible repeat (first | refine blk_drewN ?_ _ | refine blk_drew ?_ | refine blk_alloc ?_ _)); exact BK139.out) hb); have n1_ := Aside0.mk (blk_below (g := gb141) (o := .cells #[.int .i64 ((rd_T44 l0_2 x35_3).f0), .int .i64 ((rd_T44 l0_2 x35_3).f1), .slice A140_2 ((rd_T44 l0_2 x35_3).f2).length c140_2] 44 (0, 0)) (by (with_reducible repeat (first | refine blk_drewN ?_ _ | refine blk_drew ?_ | refine blk_alloc ?_ _)); refine blk_put (cs := #[.int .i64 ((rd_T44 l0_2 x35_3).f0), .int .i64 ((rd_T44 l0_2 x35_3).f1), .slice none 0 0]) ?_ 2 _ rfl; (with_reducible repeat (first | refine blk_drewN ?_ _ | refine blk_drew ?_ | refine blk_alloc ?_ _)); refine blk_put (cs := #[.int .i64 ((rd_T44 l0_2 x35_3).f0), .int .i64 0, .slice none 0 0]) ?_ 1 _ rfl; (with_reducible repeat (first | refine blk_drewN ?_ _ | refine blk_drew ?_ | refine blk_alloc ?_ _)); refine blk_put (cs := #[.int .i64 0, .int .i64 0, .slice none 0 0]) ?_ 0 _ rfl; (with_reducible repeat (first | refine blk_drewN ?_ _ | refine blk_drew ?_ | refine blk_alloc ?_ _)); exact BK141.out) hb); have n2_ := Aside0.mk (below_step (by repeat (first | (with_reducible first | exact HB.out | apply below_alloc | apply pw_below_drewN | apply below_drew1 | refine below_set ?_ GE139.out | refine below_set ?_ GE141.out) | exact HB.out)) hb); clear BK139; clear BK141; clear HB; have BK139 := n0_; have BK141 := n1_; have HB := n2_; clear n0_ n1_ n2_; (try clear hb); (try clear hb2); (try clear hk); (try clear hi)))
                        go_ret
                        exact ⟨by first | rfl | (simp [errW_none, errW_some] <;> rfl) | (simp [*, errW_none, errW_some] <;> rfl), by repeat (first | (with_reducible first | exact HB.out | apply below_alloc | apply pw_below_drewN | apply below_drew1 | refine below_set ?_ GE139.out | refine below_set ?_ GE141.out) | exact HB.out)⟩
                    · rw [if_neg c19] at H
                      exact absurd H (by simp)
                  · rw [if_neg c18] at H
                    exact absurd H (by simp)
                · rw [if_neg c17] at H
                  have c17b0 : decide (x35_3 < (l0_2.length : Int)) = false := decide_eq_false c17
                  clear c17
                  obtain rfl := Option.some.inj H
                  go_wp2
                  go_ret
                  exact ⟨by first | rfl | (simp [errW_none, errW_some] <;> rfl) | (simp [*, errW_none, errW_some] <;> rfl), by repeat (first | (with_reducible first | exact HB.out | apply below_alloc | apply pw_below_drewN | apply below_drew1 | refine below_set ?_ GE139.out) | exact HB.out)⟩
end Go.Proofs.Ytfhgoebgnilfaaa.I
namespace Go.Proofs.Ytfhgoebgnilfaaa.I
open Go.RowKit Go.Proofs.YtfhgoebgnilfaaaW.PrintWords Go.Proofs.YtfhgoebgnilfaaaW.PrintLast Go.Proofs.YtfhgoebgnilfaaaW.PrintMore
attribute [local go_sem] max2_int min2_int max_two min_two max_three min_three max_four min_four   -- for this text's walks alone
set_option linter.unusedVariables false
set_option linter.unusedSimpArgs false
mutual
def virgationref04_Check.j0 : Nat → List (S59) → List (S56) → Bool → Option (Int)
  | 0, _, _, _ => none
  | k + 1, x0, x1, x26 => if x26 = true then (some 4) else (virgationref04_Check.l0 k x0 x1 x1 (x1.length : Int) 0)
def virgationref04_Check.l0 : Nat → List (S59) → List (S56) → List (S56) → Int → Int → Option (Int)
  | 0, _, _, _, _, _ => none
  | k + 1, x0, x1, x27, x28, x29 => if x29 < x28 then (if 0 ≤ x29 then (if x29 < (x27.length : Int) then ((virgationref02_Name.f k ((rd_T56 x27 x29).f0)).bind fun t147 => (if t147 = true then (if ((rd_T56 x27 x29).f1) < 0 then (virgationref04_Check.j2 k x0 x1 x29 x27 x28 x29 true ((rd_T56 x27 x29).f0) ((rd_T56 x27 x29).f1) ((rd_T56 x27 x29).f2.f0) ((rd_T56 x27 x29).f2.f1) ((rd_T56 x27 x29).f2.f2)) else (if ((rd_T56 x27 x29).f1) > 8 then (virgationref04_Check.j2 k x0 x1 x29 x27 x28 x29 true ((rd_T56 x27 x29).f0) ((rd_T56 x27 x29).f1) ((rd_T56 x27 x29).f2.f0) ((rd_T56 x27 x29).f2.f1) ((rd_T56 x27 x29).f2.f2)) else ((virgationref02_Nodes.f k ((rd_T56 x27 x29).f2.f0) ((rd_T56 x27 x29).f2.f1) ((rd_T56 x27 x29).f2.f2) 400).bind fun t148 => (if t148 > 400 then (virgationref04_Check.j2 k x0 x1 x29 x27 x28 x29 true ((rd_T56 x27 x29).f0) ((rd_T56 x27 x29).f1) ((rd_T56 x27 x29).f2.f0) ((rd_T56 x27 x29).f2.f1) ((rd_T56 x27 x29).f2.f2)) else ((virgationref02_Depth.f k ((rd_T56 x27 x29).f2.f0) ((rd_T56 x27 x29).f2.f1) ((rd_T56 x27 x29).f2.f2)).bind fun t149 => (if t149 > 30 then (virgationref04_Check.j2 k x0 x1 x29 x27 x28 x29 true ((rd_T56 x27 x29).f0) ((rd_T56 x27 x29).f1) ((rd_T56 x27 x29).f2.f0) ((rd_T56 x27 x29).f2.f1) ((rd_T56 x27 x29).f2.f2)) else ((virgationref04_exist.f k ((rd_T56 x27 x29).f2.f0) ((rd_T56 x27 x29).f2.f1) ((rd_T56 x27 x29).f2.f2) ((rd_T56 x27 x29).f1) (x1.length : Int) (x0.length : Int)).bind fun t150 => (virgationref04_Check.j2 k x0 x1 x29 x27 x28 x29 (!t150) ((rd_T56 x27 x29).f0) ((rd_T56 x27 x29).f1) ((rd_T56 x27 x29).f2.f0) ((rd_T56 x27 x29).f2.f1) ((rd_T56 x27 x29).f2.f2))))))))) else (virgationref04_Check.j2 k x0 x1 x29 x27 x28 x29 true ((rd_T56 x27 x29).f0) ((rd_T56 x27 x29).f1) ((rd_T56 x27 x29).f2.f0) ((rd_T56 x27 x29).f2.f1) ((rd_T56 x27 x29).f2.f2)))) else (none)) else (none)) else (some 0)
def virgationref04_Check.j2 : Nat → List (S59) → List (S56) → Int → List (S56) → Int → Int → Bool → ByteArray → Int → Int → Int → List (S44) → Option (Int)
  | 0, _, _, _, _, _, _, _, _, _, _, _, _ => none
  | k + 1, x0, x1, x5, x27, x28, x29, x71, x147000, x147001, x147002, x147003, x147004 => if x71 = true then (some 4) else (if 0 ≤ x5 then (if x5 ≤ (x1.length : Int) then ((some (x1.take (x5 : Int).toNat : List (S56))).bind fun y151 => (virgationref04_Check.l1 k x0 x1 x27 x28 x29 y151 (y151.length : Int) 0 x147000 x147001 x147002 x147003 x147004)) else (none)) else (none))
def virgationref04_Check.l1 : Nat → List (S59) → List (S56) → List (S56) → Int → Int → List (S56) → Int → Int → ByteArray → Int → Int → Int → List (S44) → Option (Int)
  | 0, _, _, _, _, _, _, _, _, _, _, _, _, _ => none
  | k + 1, x0, x1, x27, x28, x29, x74, x75, x76, x147000, x147001, x147002, x147003, x147004 => if x76 < x75 then (if 0 ≤ x76 then (if x76 < (x74.length : Int) then (if x147000.toList = ((rd_T56 x74 x76).f0).toList then (some 4) else (virgationref04_Check.l1 k x0 x1 x27 x28 x29 x74 x75 (wrap64 (x76 + 1)) x147000 x147001 x147002 x147003 x147004)) else (none)) else (none)) else (virgationref04_Check.l0 k x0 x1 x27 x28 (wrap64 (x29 + 1)))
end
def virgationref04_Check.f (k : Nat) (l0 : List (S59)) (l1 : List (S56)) : Option (Int) := (virgationref02_Symbols.f k l0).bind fun t143 => (if t143 = true then (if (l1.length : Int) < 1 then (virgationref04_Check.j0 k l0 l1 true) else (if (l1.length : Int) > 64 then (virgationref04_Check.j0 k l0 l1 true) else (if 0 < (l1.length : Int) then (virgationref04_Check.j0 k l0 l1 (((rd_T56 l1 0).f1) != 0)) else (none)))) else (some 2))
theorem virgationref04_Check.mono_l : ∀ k, (∀ y0 y1 y2, LeO (virgationref04_Check.j0 k y0 y1 y2) (virgationref04_Check.j0 (k + 1) y0 y1 y2)) ∧ (∀ y0 y1 y2 y3 y4, LeO (virgationref04_Check.l0 k y0 y1 y2 y3 y4) (virgationref04_Check.l0 (k + 1) y0 y1 y2 y3 y4)) ∧ (∀ y0 y1 y2 y3 y4 y5 y6 y7 y8 y9 y10 y11, LeO (virgationref04_Check.j2 k y0 y1 y2 y3 y4 y5 y6 y7 y8 y9 y10 y11) (virgationref04_Check.j2 (k + 1) y0 y1 y2 y3 y4 y5 y6 y7 y8 y9 y10 y11)) ∧ (∀ y0 y1 y2 y3 y4 y5 y6 y7 y8 y9 y10 y11 y12, LeO (virgationref04_Check.l1 k y0 y1 y2 y3 y4 y5 y6 y7 y8 y9 y10 y11 y12) (virgationref04_Check.l1 (k + 1) y0 y1 y2 y3 y4 y5 y6 y7 y8 y9 y10 y11 y12))
  | 0 => ⟨fun _ _ _ r h => by simp [virgationref04_Check.j0] at h, fun _ _ _ _ _ r h => by simp [virgationref04_Check.l0] at h, fun _ _ _ _ _ _ _ _ _ _ _ _ r h => by simp [virgationref04_Check.j2] at h, fun _ _ _ _ _ _ _ _ _ _ _ _ _ r h => by simp [virgationref04_Check.l1] at h⟩
  | k + 1 => by
    obtain ⟨ih0, ih1, ih2, ih3⟩ := virgationref04_Check.mono_l k
    refine ⟨?_, ?_, ?_, ?_⟩
    · intro y0 y1 y2
      unfold virgationref04_Check.j0
      repeat' first
      | (with_reducible exact ih0 _ _ _)
      | (with_reducible exact ih1 _ _ _ _ _)
      | (with_reducible exact ih2 _ _ _ _ _ _ _ _ _ _ _ _)
      | (with_reducible exact ih3 _ _ _ _ _ _ _ _ _ _ _ _ _)
      | (with_reducible exact virgationref02_Depth.mono _ _ _ _)
      | (with_reducible exact virgationref02_Name.mono _ _)
      | (with_reducible exact virgationref02_Nodes.mono _ _ _ _ _)
      | (with_reducible exact virgationref02_Symbols.mono _ _)
      | (with_reducible exact virgationref04_exist.mono _ _ _ _ _ _ _)
      | (with_reducible exact LeO.refl _)
      | (with_reducible exact LeO.none _)
      | (with_reducible refine LeO.ite ?_ ?_)
      | (with_reducible refine LeO.bind ?_ (fun _ => ?_))
      | exact ih0 _ _ _
      | exact ih1 _ _ _ _ _
      | exact ih2 _ _ _ _ _ _ _ _ _ _ _ _
      | exact ih3 _ _ _ _ _ _ _ _ _ _ _ _ _
      | exact virgationref02_Depth.mono _ _ _ _
      | exact virgationref02_Name.mono _ _
      | exact virgationref02_Nodes.mono _ _ _ _ _
      | exact virgationref02_Symbols.mono _ _
      | exact virgationref04_exist.mono _ _ _ _ _ _ _
      | exact LeO.none _
      | refine LeO.ite ?_ ?_
      | refine LeO.bind ?_ (fun _ => ?_)
    · intro y0 y1 y2 y3 y4
      unfold virgationref04_Check.l0
      repeat' first
      | (with_reducible exact ih0 _ _ _)
      | (with_reducible exact ih1 _ _ _ _ _)
      | (with_reducible exact ih2 _ _ _ _ _ _ _ _ _ _ _ _)
      | (with_reducible exact ih3 _ _ _ _ _ _ _ _ _ _ _ _ _)
      | (with_reducible exact virgationref02_Depth.mono _ _ _ _)
      | (with_reducible exact virgationref02_Name.mono _ _)
      | (with_reducible exact virgationref02_Nodes.mono _ _ _ _ _)
      | (with_reducible exact virgationref02_Symbols.mono _ _)
      | (with_reducible exact virgationref04_exist.mono _ _ _ _ _ _ _)
      | (with_reducible exact LeO.refl _)
      | (with_reducible exact LeO.none _)
      | (with_reducible refine LeO.ite ?_ ?_)
      | (with_reducible refine LeO.bind ?_ (fun _ => ?_))
      | exact ih0 _ _ _
      | exact ih1 _ _ _ _ _
      | exact ih2 _ _ _ _ _ _ _ _ _ _ _ _
      | exact ih3 _ _ _ _ _ _ _ _ _ _ _ _ _
      | exact virgationref02_Depth.mono _ _ _ _
      | exact virgationref02_Name.mono _ _
      | exact virgationref02_Nodes.mono _ _ _ _ _
      | exact virgationref02_Symbols.mono _ _
      | exact virgationref04_exist.mono _ _ _ _ _ _ _
      | exact LeO.none _
      | refine LeO.ite ?_ ?_
      | refine LeO.bind ?_ (fun _ => ?_)
    · intro y0 y1 y2 y3 y4 y5 y6 y7 y8 y9 y10 y11
      unfold virgationref04_Check.j2
      repeat' first
      | (with_reducible exact ih0 _ _ _)
      | (with_reducible exact ih1 _ _ _ _ _)
      | (with_reducible exact ih2 _ _ _ _ _ _ _ _ _ _ _ _)
      | (with_reducible exact ih3 _ _ _ _ _ _ _ _ _ _ _ _ _)
      | (with_reducible exact virgationref02_Depth.mono _ _ _ _)
      | (with_reducible exact virgationref02_Name.mono _ _)
      | (with_reducible exact virgationref02_Nodes.mono _ _ _ _ _)
      | (with_reducible exact virgationref02_Symbols.mono _ _)
      | (with_reducible exact virgationref04_exist.mono _ _ _ _ _ _ _)
      | (with_reducible exact LeO.refl _)
      | (with_reducible exact LeO.none _)
      | (with_reducible refine LeO.ite ?_ ?_)
      | (with_reducible refine LeO.bind ?_ (fun _ => ?_))
      | exact ih0 _ _ _
      | exact ih1 _ _ _ _ _
      | exact ih2 _ _ _ _ _ _ _ _ _ _ _ _
      | exact ih3 _ _ _ _ _ _ _ _ _ _ _ _ _
      | exact virgationref02_Depth.mono _ _ _ _
      | exact virgationref02_Name.mono _ _
      | exact virgationref02_Nodes.mono _ _ _ _ _
      | exact virgationref02_Symbols.mono _ _
      | exact virgationref04_exist.mono _ _ _ _ _ _ _
      | exact LeO.none _
      | refine LeO.ite ?_ ?_
      | refine LeO.bind ?_ (fun _ => ?_)
    · intro y0 y1 y2 y3 y4 y5 y6 y7 y8 y9 y10 y11 y12
      unfold virgationref04_Check.l1
      repeat' first
      | (with_reducible exact ih0 _ _ _)
      | (with_reducible exact ih1 _ _ _ _ _)
      | (with_reducible exact ih2 _ _ _ _ _ _ _ _ _ _ _ _)
      | (with_reducible exact ih3 _ _ _ _ _ _ _ _ _ _ _ _ _)
      | (with_reducible exact virgationref02_Depth.mono _ _ _ _)
      | (with_reducible exact virgationref02_Name.mono _ _)
      | (with_reducible exact virgationref02_Nodes.mono _ _ _ _ _)
      | (with_reducible exact virgationref02_Symbols.mono _ _)
      | (with_reducible exact virgationref04_exist.mono _ _ _ _ _ _ _)
      | (with_reducible exact LeO.refl _)
      | (with_reducible exact LeO.none _)
      | (with_reducible refine LeO.ite ?_ ?_)
      | (with_reducible refine LeO.bind ?_ (fun _ => ?_))
      | exact ih0 _ _ _
      | exact ih1 _ _ _ _ _
      | exact ih2 _ _ _ _ _ _ _ _ _ _ _ _
      | exact ih3 _ _ _ _ _ _ _ _ _ _ _ _ _
      | exact virgationref02_Depth.mono _ _ _ _
      | exact virgationref02_Name.mono _ _
      | exact virgationref02_Nodes.mono _ _ _ _ _
      | exact virgationref02_Symbols.mono _ _
      | exact virgationref04_exist.mono _ _ _ _ _ _ _
      | exact LeO.none _
      | refine LeO.ite ?_ ?_
      | refine LeO.bind ?_ (fun _ => ?_)
theorem virgationref04_Check.mono : ∀ a0 a1 k, LeO (virgationref04_Check.f k a0 a1) (virgationref04_Check.f (k + 1) a0 a1) := by
  intro a0 a1 k
  obtain ⟨ih0, ih1, ih2, ih3⟩ := virgationref04_Check.mono_l k
  unfold virgationref04_Check.f
  repeat' first
      | (with_reducible exact ih0 _ _ _)
      | (with_reducible exact ih1 _ _ _ _ _)
      | (with_reducible exact ih2 _ _ _ _ _ _ _ _ _ _ _ _)
      | (with_reducible exact ih3 _ _ _ _ _ _ _ _ _ _ _ _ _)
      | (with_reducible exact virgationref02_Depth.mono _ _ _ _)
      | (with_reducible exact virgationref02_Name.mono _ _)
      | (with_reducible exact virgationref02_Nodes.mono _ _ _ _ _)
      | (with_reducible exact virgationref02_Symbols.mono _ _)
      | (with_reducible exact virgationref04_exist.mono _ _ _ _ _ _ _)
      | (with_reducible exact LeO.refl _)
      | (with_reducible exact LeO.none _)
      | (with_reducible refine LeO.ite ?_ ?_)
      | (with_reducible refine LeO.bind ?_ (fun _ => ?_))
      | exact ih0 _ _ _
      | exact ih1 _ _ _ _ _
      | exact ih2 _ _ _ _ _ _ _ _ _ _ _ _
      | exact ih3 _ _ _ _ _ _ _ _ _ _ _ _ _
      | exact virgationref02_Depth.mono _ _ _ _
      | exact virgationref02_Name.mono _ _
      | exact virgationref02_Nodes.mono _ _ _ _ _
      | exact virgationref02_Symbols.mono _ _
      | exact virgationref04_exist.mono _ _ _ _ _ _ _
      | exact LeO.none _
      | refine LeO.ite ?_ ?_
      | refine LeO.bind ?_ (fun _ => ?_)
set_option maxHeartbeats 8000000 in
set_option maxRecDepth 100000 in
theorem virgationref04_Check.calls (k : Nat) (A0 : Option Addr) (c0 : Nat) (l0 : List (S59)) (A1 : Option Addr) (c1 : Nat) (l1 : List (S56)) (r : Int) (w : World) (hr0 : Kd.C k59 w A0 l0.length l0) (hc0 : l0.length ≤ c0) (hr1 : Kd.C k56 w A1 l1.length l1) (hc1 : l1.length ≤ c1) (h : virgationref04_Check.f k l0 l1 = some r) :
    Calls Try.prog 12 #[.slice A0 l0.length c0, .slice A1 l1.length c1] w fun e w' => e = .returned (.int .i64 r) ∧ Below w.heap.size w w' := by
  have hu56 := Try.underlying56
  have hu44 := Try.underlying44
  have HR0 := Aside0.mk hr0
  have HC0 := Aside0.mk hc0
  clear hr0 hc0
  have HR1 := Aside0.mk hr1
  have HC1 := Aside0.mk hc1
  clear hr1 hc1
  have HB := Aside0.mk (Below.refl w.heap.size w)
  have H : ((virgationref02_Symbols.f k l0).bind fun t143 => (if t143 = true then (if (l1.length : Int) < 1 then (virgationref04_Check.j0 k l0 l1 true) else (if (l1.length : Int) > 64 then (virgationref04_Check.j0 k l0 l1 true) else (if 0 < (l1.length : Int) then (virgationref04_Check.j0 k l0 l1 (((rd_T56 l1 0).f1) != 0)) else (none)))) else (some 2))) = some r := h
  clear h
  replace H := Option.bind_eq_some_iff.mp H
  obtain ⟨t143, A30, H⟩ := H
  replace H : (if t143 = true then (if (l1.length : Int) < 1 then (virgationref04_Check.j0 k l0 l1 true) else (if (l1.length : Int) > 64 then (virgationref04_Check.j0 k l0 l1 true) else (if 0 < (l1.length : Int) then (virgationref04_Check.j0 k l0 l1 (((rd_T56 l1 0).f1) != 0)) else (none)))) else (some 2)) = some r := H
  have A3 := Aside0.mk A30
  clear A30
  by_cases c4 : t143 = true
  · subst c4
    have H1 : (if (l1.length : Int) < 1 then (virgationref04_Check.j0 k l0 l1 true) else (if (l1.length : Int) > 64 then (virgationref04_Check.j0 k l0 l1 true) else (if 0 < (l1.length : Int) then (virgationref04_Check.j0 k l0 l1 (((rd_T56 l1 0).f1) != 0)) else (none)))) = some r := by rw [if_pos rfl] at H; exact H
    clear H
    have H := H1
    clear H1
    have HC5 := Aside0.mk H
    clear H
    go_enter Try.func12, Try.ntmps12
    go_upto_region 3 with (first | ((with_reducible refine gate_callee (f := 32) rfl ?_); refine goesL_ (some 10) rfl rfl Try.func32 (by kernel_rfl) rfl #[.slice A0 l0.length c0] rfl (by (try simp only [List.map_toArray, List.map_cons, List.map_nil]); first | done | rfl | (simp only [List.length_drop, List.length_take]; rfl)) ?_; (with_reducible refine (virgationref02_Symbols.calls k _ _ l0 true _ ?side1 ?side2 A3.out).mono ?_); (case side1 => repeat (first | exact HR0.out | (with_reducible refine Kd.C_alloc ?_ _) | (with_reducible refine Kd.C_drewN ?_ _) | (with_reducible refine Kd.C_drew ?_))); (case side2 => exact HC0.out); rintro e w6 ⟨rfl, hb⟩; refine ⟨_, rfl, ?_⟩; have n0_ := Aside0.mk (below_step (by repeat (first | (with_reducible first | exact HB.out | apply below_alloc | apply pw_below_drewN | apply below_drew1) | exact HB.out)) hb); clear HB; have HB := n0_; clear n0_; (try clear hb); (try clear hb2); (try clear hk); (try clear hi)))
    (try simp only [Act.put, List.setIfInBounds_toArray, List.set_cons_zero, List.set_cons_succ])
    go_cut [26] (fun v26 wc => ∃ (kq : Nat) (x26_4 : Bool), v26 = .bool x26_4 ∧ Aside0 (virgationref04_Check.j0 kq l0 l1 x26_4 = some r) ∧ Aside0 (kq ≤ k) ∧ Aside0 (Below w.heap.size w wc))
    case first =>
      have H := HC5.out
      clear HC5
      by_cases c7 : (l1.length : Int) < 1
      · rw [if_pos c7] at H
        have c7b0 : decide ((l1.length : Int) < 1) = true := decide_eq_true c7
        have c7b1 : decide (l1.length < 1) = true := decide_eq_true (by omega)
        clear c7
        (first | rw [c7b0] | (simp only [i64_w, i32_w]; rw [c7b0]) | skip)
        have H' := Aside0.mk H
        clear H
        go_wp2
        go_meet
        case rel => exact ⟨_, (true), (by first | rfl | (simp; done) | (simp [*]; done)), H', ⟨by first | omega | exact Nat.le_refl _⟩, ⟨by repeat (first | (with_reducible first | exact HB.out | apply below_alloc | apply pw_below_drewN | apply below_drew1) | exact HB.out)⟩⟩
      · rw [if_neg c7] at H
        have c7b0 : decide ((l1.length : Int) < 1) = false := decide_eq_false c7
        have c7b1 : decide (l1.length < 1) = false := decide_eq_false (by omega)
        clear c7
        (first | rw [c7b0] | (simp only [i64_w, i32_w]; rw [c7b0]) | skip)
        by_cases c8 : (l1.length : Int) > 64
        · rw [if_pos c8] at H
          have c8b0 : decide (64 < (l1.length : Int)) = true := decide_eq_true c8
          have c8b1 : decide (64 < l1.length) = true := decide_eq_true (by omega)
          clear c8
          have H' := Aside0.mk H
          clear H
          go_wp2
          go_meet
          case rel => exact ⟨_, (true), (by first | rfl | (simp; done) | (simp [*]; done)), H', ⟨by first | omega | exact Nat.le_refl _⟩, ⟨by repeat (first | (with_reducible first | exact HB.out | apply below_alloc | apply pw_below_drewN | apply below_drew1) | exact HB.out)⟩⟩
        · rw [if_neg c8] at H
          have c8b0 : decide (64 < (l1.length : Int)) = false := decide_eq_false c8
          have c8b1 : decide (64 < l1.length) = false := decide_eq_false (by omega)
          clear c8
          by_cases c9 : 0 < (l1.length : Int)
          · rw [if_pos c9] at H
            have c9b0 : decide (0 < (l1.length : Int)) = true := decide_eq_true c9
            have c9b1 : decide (0 < l1.length) = true := decide_eq_true (by omega)
            clear c9
            have H' := Aside0.mk H
            clear H
            have p144 : 0 ≤ (0 : Int) := (by omega)
            have q144 : 0 < (l1.length : Int) := of_decide_eq_true (by first | (with_reducible assumption) | assumption)
            obtain ⟨ad144, A144_4, c144_4, e144, hx144_0, hx144_1, hx144_2, hx144_3, hx144_4, hl144_4, hi144_4⟩ := at_T56 HR1.out 0 p144 q144
            cases e144
            have qi144 : (0 < l1.length) = True := eq_true (by omega)
            (try rw [show ((0 : Int)).toNat = 0 from rfl] at hx144_0)
            (try rw [show 0 * 5 = 0 from rfl] at hx144_0)
            (try rw [Addr.add_zero'] at hx144_0)
            (try rw [show ((0 : Int)).toNat = 0 from rfl] at hx144_1)
            (try rw [show 0 * 5 = 0 from rfl] at hx144_1)
            (try rw [Addr.add_zero'] at hx144_1)
            (try rw [show ((0 : Int)).toNat = 0 from rfl] at hx144_2)
            (try rw [show 0 * 5 = 0 from rfl] at hx144_2)
            (try rw [Addr.add_zero'] at hx144_2)
            (try rw [show ((0 : Int)).toNat = 0 from rfl] at hx144_3)
            (try rw [show 0 * 5 = 0 from rfl] at hx144_3)
            (try rw [Addr.add_zero'] at hx144_3)
            (try rw [show ((0 : Int)).toNat = 0 from rfl] at hx144_4)
            (try rw [show 0 * 5 = 0 from rfl] at hx144_4)
            (try rw [Addr.add_zero'] at hx144_4)
            replace hx144_0 := (HB.out.cell (World.block_lt_of_cell? w _ hx144_0)).trans hx144_0
            replace hx144_1 := (HB.out.cell (World.block_lt_of_cell? w _ hx144_1)).trans hx144_1
            replace hx144_2 := (HB.out.cell (World.block_lt_of_cell? w _ hx144_2)).trans hx144_2
            replace hx144_3 := (HB.out.cell (World.block_lt_of_cell? w _ hx144_3)).trans hx144_3
            replace hx144_4 := (HB.out.cell (World.block_lt_of_cell? w _ hx144_4)).trans hx144_4
            have HR144_4 := Aside0.mk hi144_4
            have HC144_4 := Aside0.mk hl144_4
            clear hi144_4 hl144_4
            replace p144 := eq_true p144
            replace q144 := eq_true q144
            go_wp2
            go_meet
            case rel => exact ⟨_, ((((rd_T56 l1 0).f1) != 0)), (by first | rfl | (simp; done) | (simp [*]; done)), H', ⟨by first | omega | exact Nat.le_refl _⟩, ⟨by repeat (first | (with_reducible first | exact HB.out | apply below_alloc | apply pw_below_drewN | apply below_drew1) | exact HB.out)⟩⟩
          · rw [if_neg c9] at H
            exact absurd H (by simp)
    case rest =>
      clear HC5
      try clear c1
      try clear p1
      try clear q1
      try clear hx1
      try clear qi1
      try clear p2
      try clear c3
      try clear c4
      try clear c7
      try clear c7b0
      try clear c7b1
      try clear c8
      try clear c8b0
      try clear c8b1
      try clear c9
      try clear c9b0
      try clear c9b1
      try clear hx144_0
      try clear hx144_1
      try clear hx144_2
      try clear hx144_3
      try clear hx144_4
      try clear p144
      try clear q144
      obtain ⟨kq, x26_4, rfl, HA, HJ4, HB⟩ := hcut
      cases kq with
      | zero => exact absurd HA.out (by simp [virgationref04_Check.j0])
      | succ kj4 =>
        have H := HA.out
        clear HA
        simp only [virgationref04_Check.j0] at H
        by_cases c10 : x26_4 = true
        · subst c10
          have H1 : (some 4) = some r := by rw [if_pos rfl] at H; exact H
          clear H
          have H := H1
          clear H1
          obtain rfl := Option.some.inj H
          go_wp2
          go_ret
          exact ⟨by first | rfl | (simp [errW_none, errW_some] <;> rfl) | (simp [*, errW_none, errW_some] <;> rfl), by repeat (first | (with_reducible first | exact HB.out | apply below_alloc | apply pw_below_drewN | apply below_drew1) | exact HB.out)⟩
        · replace c10 := Bool.eq_false_iff.mpr c10
          subst c10
          have H1 : (virgationref04_Check.l0 kj4 l0 l1 l1 (l1.length : Int) 0) = some r := by rw [if_neg (show ¬ (false = true) by decide)] at H; exact H
          clear H
          have H := H1
          clear H1
          have H' := Aside0.mk H
          clear H
          go_wp2
          go_loopg [29] kj4 (fun kq v29 w' => ∃ (x29_2 : Int), v29 = .int .i64 x29_2 ∧ Aside0 (virgationref04_Check.l0 kq l0 l1 l1 (l1.length : Int) x29_2 = some r) ∧ Aside0 (kq ≤ kj4) ∧ Aside0 (Below w.heap.size w w'))
          case atStart => exact ⟨(0), (by first | rfl | (simp; done) | (simp [*]; done)), H', ⟨Nat.le_refl _⟩, ⟨by repeat (first | (with_reducible first | exact HB.out | apply below_alloc | apply pw_below_drewN | apply below_drew1) | exact HB.out)⟩⟩
          case round =>
            clear H'
            try clear c1
            try clear p1
            try clear q1
            try clear hx1
            try clear qi1
            try clear p2
            try clear c3
            try clear c4
            try clear c7
            try clear c7b0
            try clear c7b1
            try clear c8
            try clear c8b0
            try clear c8b1
            try clear c9
            try clear c9b0
            try clear c9b1
            try clear c10
            try clear hx144_0
            try clear hx144_1
            try clear hx144_2
            try clear hx144_3
            try clear hx144_4
            try clear p1
            try clear p144
            try clear p2
            try clear q1
            try clear q144
            obtain ⟨x29_2, rfl, HA, HK2, HB⟩ := hrel
            cases gk with
            | zero => exact absurd HA.out (by simp [virgationref04_Check.l0])
            | succ k2 =>
              have H := HA.out
              clear HA
              simp only [virgationref04_Check.l0] at H
              by_cases c11 : x29_2 < (l1.length : Int)
              · rw [if_pos c11] at H
                have c11b0 : decide (x29_2 < (l1.length : Int)) = true := decide_eq_true c11
                clear c11
                by_cases c12 : 0 ≤ x29_2
                · rw [if_pos c12] at H
                  have c12b0 : decide (0 ≤ x29_2) = true := decide_eq_true c12
                  clear c12
                  by_cases c13 : x29_2 < (l1.length : Int)
                  · rw [if_pos c13] at H
                    have c13b0 : decide (x29_2 < (l1.length : Int)) = true := decide_eq_true c13
                    clear c13
                    have HC14 := Aside0.mk H
                    clear H
                    have p145 : 0 ≤ (x29_2 : Int) := of_decide_eq_true (by first | (with_reducible assumption) | assumption)
                    have q145 : x29_2 < (l1.length : Int) := of_decide_eq_true (by first | (with_reducible assumption) | assumption)
                    obtain ⟨ad145, A145_4, c145_4, e145, hx145_0, hx145_1, hx145_2, hx145_3, hx145_4, hl145_4, hi145_4⟩ := at_T56 HR1.out x29_2 p145 q145
                    cases e145
                    replace hx145_0 := (HB.out.cell (World.block_lt_of_cell? w _ hx145_0)).trans hx145_0
                    replace hx145_1 := (HB.out.cell (World.block_lt_of_cell? w _ hx145_1)).trans hx145_1
                    replace hx145_2 := (HB.out.cell (World.block_lt_of_cell? w _ hx145_2)).trans hx145_2
                    replace hx145_3 := (HB.out.cell (World.block_lt_of_cell? w _ hx145_3)).trans hx145_3
                    replace hx145_4 := (HB.out.cell (World.block_lt_of_cell? w _ hx145_4)).trans hx145_4
                    have HR145_4 := Aside0.mk hi145_4
                    have HC145_4 := Aside0.mk hl145_4
                    clear hi145_4 hl145_4
                    replace p145 := eq_true p145
                    replace q145 := eq_true q145
                    go_upto_region 8 with (first | ((with_reducible refine gate_dst (N := 6) rfl ?_); (try (refine gate_guard (by rfl) ?_; dsimp only)); refine box_event ?hg (N := 6) ?hd (cs := #[.string (⟨#[]⟩ : ByteArray), .int .i64 0, .int .i64 0, .int .i64 0, .slice none 0 0]) (t := 56) ?hr ?_; (case hd => rfl); (case hg => rfl); (case hr => first | (go_simp; done) | (go_simp; rfl)); intro gb146 hg w15 hbox hb; have n0_ := Aside0.mk (below_step (by repeat (first | (with_reducible first | exact HB.out | apply below_alloc | apply pw_below_drewN | apply below_drew1) | exact HB.out)) hb); have n1_ := Aside0.mk (hbox); have n2_ := Aside0.mk ((by rw [hg]; exact (below_size (by repeat (first | (with_reducible first | exact HB.out | apply below_alloc | apply pw_below_drewN | apply below_drew1) | exact HB.out))) : w.heap.size ≤ gb146)); have n3_ := Aside0.mk ((by rw [hg]; exact (below_size (by repeat (first | (with_reducible first | exact HB.out | apply below_alloc | apply pw_below_drewN | apply below_drew1) | exact HB.out))) : w.heap.size ≤ gb146)); clear HB; have HB := n0_; have BK146 := n1_; have GW146 := n2_; have GE146 := n3_; clear n0_ n1_ n2_ n3_; clear hb hbox hg; have hcz16_0 : w15.cell? ⟨gb146, 0, none⟩ = some (.string (⟨#[]⟩ : ByteArray)) := (blk_cell BK146.out 0).trans rfl; have hcz16_1 : w15.cell? ⟨gb146, 1, none⟩ = some (.int .i64 0) := (blk_cell BK146.out 1).trans rfl; have hcz16_2 : w15.cell? ⟨gb146, 2, none⟩ = some (.int .i64 0) := (blk_cell BK146.out 2).trans rfl; have hcz16_3 : w15.cell? ⟨gb146, 3, none⟩ = some (.int .i64 0) := (blk_cell BK146.out 3).trans rfl; have hcz16_4 : w15.cell? ⟨gb146, 4, none⟩ = some (.slice none 0 0) := (blk_cell BK146.out 4).trans rfl; have hfz16_0 := blk_frozen BK146.out 0; have hfz16_1 := blk_frozen BK146.out 1; have hfz16_2 := blk_frozen BK146.out 2; have hfz16_3 := blk_frozen BK146.out 3; have hfz16_4 := blk_frozen BK146.out 4))
                    (try simp only [Act.put, List.setIfInBounds_toArray, List.set_cons_zero, List.set_cons_succ])
                    go_cut [71] (fun v71 wc => ∃ (kq : Nat) (x71_13 : Bool), v71 = .bool x71_13 ∧ Aside0 (virgationref04_Check.j2 kq l0 l1 x29_2 l1 (l1.length : Int) x29_2 x71_13 ((rd_T56 l1 x29_2).f0) ((rd_T56 l1 x29_2).f1) ((rd_T56 l1 x29_2).f2.f0) ((rd_T56 l1 x29_2).f2.f1) ((rd_T56 l1 x29_2).f2.f2) = some r) ∧ Aside0 (kq ≤ k2) ∧ Aside0 (wc.heap[gb146]? = some (.cells #[.string ((rd_T56 l1 x29_2).f0), .int .i64 ((rd_T56 l1 x29_2).f1), .int .i64 ((rd_T56 l1 x29_2).f2.f0), .int .i64 ((rd_T56 l1 x29_2).f2.f1), (.slice A145_4 ((rd_T56 l1 x29_2).f2.f2).length c145_4)] 56 (0, 0))) ∧ Aside0 (Below w.heap.size w wc))
                    case first =>
                      have H := HC14.out
                      clear HC14
                      replace H := Option.bind_eq_some_iff.mp H
                      obtain ⟨t147, A170, H⟩ := H
                      replace H : (if t147 = true then (if ((rd_T56 l1 x29_2).f1) < 0 then (virgationref04_Check.j2 k2 l0 l1 x29_2 l1 (l1.length : Int) x29_2 true ((rd_T56 l1 x29_2).f0) ((rd_T56 l1 x29_2).f1) ((rd_T56 l1 x29_2).f2.f0) ((rd_T56 l1 x29_2).f2.f1) ((rd_T56 l1 x29_2).f2.f2)) else (if ((rd_T56 l1 x29_2).f1) > 8 then (virgationref04_Check.j2 k2 l0 l1 x29_2 l1 (l1.length : Int) x29_2 true ((rd_T56 l1 x29_2).f0) ((rd_T56 l1 x29_2).f1) ((rd_T56 l1 x29_2).f2.f0) ((rd_T56 l1 x29_2).f2.f1) ((rd_T56 l1 x29_2).f2.f2)) else ((virgationref02_Nodes.f k2 ((rd_T56 l1 x29_2).f2.f0) ((rd_T56 l1 x29_2).f2.f1) ((rd_T56 l1 x29_2).f2.f2) 400).bind fun t148 => (if t148 > 400 then (virgationref04_Check.j2 k2 l0 l1 x29_2 l1 (l1.length : Int) x29_2 true ((rd_T56 l1 x29_2).f0) ((rd_T56 l1 x29_2).f1) ((rd_T56 l1 x29_2).f2.f0) ((rd_T56 l1 x29_2).f2.f1) ((rd_T56 l1 x29_2).f2.f2)) else ((virgationref02_Depth.f k2 ((rd_T56 l1 x29_2).f2.f0) ((rd_T56 l1 x29_2).f2.f1) ((rd_T56 l1 x29_2).f2.f2)).bind fun t149 => (if t149 > 30 then (virgationref04_Check.j2 k2 l0 l1 x29_2 l1 (l1.length : Int) x29_2 true ((rd_T56 l1 x29_2).f0) ((rd_T56 l1 x29_2).f1) ((rd_T56 l1 x29_2).f2.f0) ((rd_T56 l1 x29_2).f2.f1) ((rd_T56 l1 x29_2).f2.f2)) else ((virgationref04_exist.f k2 ((rd_T56 l1 x29_2).f2.f0) ((rd_T56 l1 x29_2).f2.f1) ((rd_T56 l1 x29_2).f2.f2) ((rd_T56 l1 x29_2).f1) (l1.length : Int) (l0.length : Int)).bind fun t150 => (virgationref04_Check.j2 k2 l0 l1 x29_2 l1 (l1.length : Int) x29_2 (!t150) ((rd_T56 l1 x29_2).f0) ((rd_T56 l1 x29_2).f1) ((rd_T56 l1 x29_2).f2.f0) ((rd_T56 l1 x29_2).f2.f1) ((rd_T56 l1 x29_2).f2.f2))))))))) else (virgationref04_Check.j2 k2 l0 l1 x29_2 l1 (l1.length : Int) x29_2 true ((rd_T56 l1 x29_2).f0) ((rd_T56 l1 x29_2).f1) ((rd_T56 l1 x29_2).f2.f0) ((rd_T56 l1 x29_2).f2.f1) ((rd_T56 l1 x29_2).f2.f2))) = some r := H
                      have A17 := Aside0.mk A170
                      clear A170
                      by_cases c18 : t147 = true
                      · subst c18
                        have H1 : (if ((rd_T56 l1 x29_2).f1) < 0 then (virgationref04_Check.j2 k2 l0 l1 x29_2 l1 (l1.length : Int) x29_2 true ((rd_T56 l1 x29_2).f0) ((rd_T56 l1 x29_2).f1) ((rd_T56 l1 x29_2).f2.f0) ((rd_T56 l1 x29_2).f2.f1) ((rd_T56 l1 x29_2).f2.f2)) else (if ((rd_T56 l1 x29_2).f1) > 8 then (virgationref04_Check.j2 k2 l0 l1 x29_2 l1 (l1.length : Int) x29_2 true ((rd_T56 l1 x29_2).f0) ((rd_T56 l1 x29_2).f1) ((rd_T56 l1 x29_2).f2.f0) ((rd_T56 l1 x29_2).f2.f1) ((rd_T56 l1 x29_2).f2.f2)) else ((virgationref02_Nodes.f k2 ((rd_T56 l1 x29_2).f2.f0) ((rd_T56 l1 x29_2).f2.f1) ((rd_T56 l1 x29_2).f2.f2) 400).bind fun t148 => (if t148 > 400 then (virgationref04_Check.j2 k2 l0 l1 x29_2 l1 (l1.length : Int) x29_2 true ((rd_T56 l1 x29_2).f0) ((rd_T56 l1 x29_2).f1) ((rd_T56 l1 x29_2).f2.f0) ((rd_T56 l1 x29_2).f2.f1) ((rd_T56 l1 x29_2).f2.f2)) else ((virgationref02_Depth.f k2 ((rd_T56 l1 x29_2).f2.f0) ((rd_T56 l1 x29_2).f2.f1) ((rd_T56 l1 x29_2).f2.f2)).bind fun t149 => (if t149 > 30 then (virgationref04_Check.j2 k2 l0 l1 x29_2 l1 (l1.length : Int) x29_2 true ((rd_T56 l1 x29_2).f0) ((rd_T56 l1 x29_2).f1) ((rd_T56 l1 x29_2).f2.f0) ((rd_T56 l1 x29_2).f2.f1) ((rd_T56 l1 x29_2).f2.f2)) else ((virgationref04_exist.f k2 ((rd_T56 l1 x29_2).f2.f0) ((rd_T56 l1 x29_2).f2.f1) ((rd_T56 l1 x29_2).f2.f2) ((rd_T56 l1 x29_2).f1) (l1.length : Int) (l0.length : Int)).bind fun t150 => (virgationref04_Check.j2 k2 l0 l1 x29_2 l1 (l1.length : Int) x29_2 (!t150) ((rd_T56 l1 x29_2).f0) ((rd_T56 l1 x29_2).f1) ((rd_T56 l1 x29_2).f2.f0) ((rd_T56 l1 x29_2).f2.f1) ((rd_T56 l1 x29_2).f2.f2))))))))) = some r := by rw [if_pos rfl] at H; exact H
                        clear H
                        have H := H1
                        clear H1
                        by_cases c19 : ((rd_T56 l1 x29_2).f1) < 0
                        · rw [if_pos c19] at H
                          have c19b0 : decide (((rd_T56 l1 x29_2).f1) < 0) = true := decide_eq_true c19
                          clear c19
                          (first | rw [c19b0] | (simp only [i64_w, i32_w]; rw [c19b0]) | skip)
                          have H' := Aside0.mk H
                          clear H
                          have hcz20_0 : w15.cell? ⟨gb146, 0, none⟩ = some (.string (⟨#[]⟩ : ByteArray)) := (blk_cell BK146.out 0).trans rfl
                          have hcz20_1 : w15.cell? ⟨gb146, 1, none⟩ = some (.int .i64 0) := (blk_cell BK146.out 1).trans rfl
                          have hcz20_2 : w15.cell? ⟨gb146, 2, none⟩ = some (.int .i64 0) := (blk_cell BK146.out 2).trans rfl
                          have hcz20_3 : w15.cell? ⟨gb146, 3, none⟩ = some (.int .i64 0) := (blk_cell BK146.out 3).trans rfl
                          have hcz20_4 : w15.cell? ⟨gb146, 4, none⟩ = some (.slice none 0 0) := (blk_cell BK146.out 4).trans rfl
                          have hfz20_0 := blk_frozen BK146.out 0
                          have hfz20_1 := blk_frozen BK146.out 1
                          have hfz20_2 := blk_frozen BK146.out 2
                          have hfz20_3 := blk_frozen BK146.out 3
                          have hfz20_4 := blk_frozen BK146.out 4
                          go_wp2_with (first | ((with_reducible refine gate_callee (f := 33) rfl ?_); refine goesL_ (some 36) rfl rfl Try.func33 (by kernel_rfl) rfl #[.string ((rd_T56 l1 x29_2).f0)] rfl (by (try simp only [List.map_toArray, List.map_cons, List.map_nil]); first | done | rfl | (simp only [List.length_drop, List.length_take]; rfl)) ?_; (with_reducible refine (virgationref02_Name.calls k2 ((rd_T56 l1 x29_2).f0) true _ A17.out).mono ?_); rintro e w' ⟨rfl, ⟨nd, rfl⟩⟩; refine ⟨_, rfl, ?_⟩))
                          go_meet
                          case rel => exact ⟨_, (true), (by first | rfl | (simp; done) | (simp [*]; done)), H', ⟨by have := HJ4.out; have := HK2.out; first | omega | exact Nat.le_refl _⟩, ⟨by (with_reducible repeat (first | refine blk_drewN ?_ _ | refine blk_drew ?_ | refine blk_alloc ?_ _)); refine blk_put (cs := #[.string ((rd_T56 l1 x29_2).f0), .int .i64 ((rd_T56 l1 x29_2).f1), .int .i64 ((rd_T56 l1 x29_2).f2.f0), .int .i64 ((rd_T56 l1 x29_2).f2.f1), .slice none 0 0]) ?_ 4 _ rfl; (with_reducible repeat (first | refine blk_drewN ?_ _ | refine blk_drew ?_ | refine blk_alloc ?_ _)); refine blk_put (cs := #[.string ((rd_T56 l1 x29_2).f0), .int .i64 ((rd_T56 l1 x29_2).f1), .int .i64 ((rd_T56 l1 x29_2).f2.f0), .int .i64 0, .slice none 0 0]) ?_ 3 _ rfl; (with_reducible repeat (first | refine blk_drewN ?_ _ | refine blk_drew ?_ | refine blk_alloc ?_ _)); refine blk_put (cs := #[.string ((rd_T56 l1 x29_2).f0), .int .i64 ((rd_T56 l1 x29_2).f1), .int .i64 0, .int .i64 0, .slice none 0 0]) ?_ 2 _ rfl; (with_reducible repeat (first | refine blk_drewN ?_ _ | refine blk_drew ?_ | refine blk_alloc ?_ _)); refine blk_put (cs := #[.string ((rd_T56 l1 x29_2).f0), .int .i64 0, .int .i64 0, .int .i64 0, .slice none 0 0]) ?_ 1 _ rfl; (with_reducible repeat (first | refine blk_drewN ?_ _ | refine blk_drew ?_ | refine blk_alloc ?_ _)); refine blk_put (cs := #[.string (⟨#[]⟩ : ByteArray), .int .i64 0, .int .i64 0, .int .i64 0, .slice none 0 0]) ?_ 0 _ rfl; (with_reducible repeat (first | refine blk_drewN ?_ _ | refine blk_drew ?_ | refine blk_alloc ?_ _)); exact BK146.out⟩, ⟨by repeat (first | (with_reducible first | exact HB.out | apply below_alloc | apply pw_below_drewN | apply below_drew1 | refine below_set ?_ GE146.out) | exact HB.out)⟩⟩
                        · rw [if_neg c19] at H
                          have c19b0 : decide (((rd_T56 l1 x29_2).f1) < 0) = false := decide_eq_false c19
                          clear c19
                          (first | rw [c19b0] | (simp only [i64_w, i32_w]; rw [c19b0]) | skip)
                          by_cases c21 : ((rd_T56 l1 x29_2).f1) > 8
                          · rw [if_pos c21] at H
                            have c21b0 : decide (8 < ((rd_T56 l1 x29_2).f1)) = true := decide_eq_true c21
                            clear c21
                            have H' := Aside0.mk H
                            clear H
                            have hcz22_0 : w15.cell? ⟨gb146, 0, none⟩ = some (.string (⟨#[]⟩ : ByteArray)) := (blk_cell BK146.out 0).trans rfl
                            have hcz22_1 : w15.cell? ⟨gb146, 1, none⟩ = some (.int .i64 0) := (blk_cell BK146.out 1).trans rfl
                            have hcz22_2 : w15.cell? ⟨gb146, 2, none⟩ = some (.int .i64 0) := (blk_cell BK146.out 2).trans rfl
                            have hcz22_3 : w15.cell? ⟨gb146, 3, none⟩ = some (.int .i64 0) := (blk_cell BK146.out 3).trans rfl
                            have hcz22_4 : w15.cell? ⟨gb146, 4, none⟩ = some (.slice none 0 0) := (blk_cell BK146.out 4).trans rfl
                            have hfz22_0 := blk_frozen BK146.out 0
                            have hfz22_1 := blk_frozen BK146.out 1
                            have hfz22_2 := blk_frozen BK146.out 2
                            have hfz22_3 := blk_frozen BK146.out 3
                            have hfz22_4 := blk_frozen BK146.out 4
                            go_wp2_with (first | ((with_reducible refine gate_callee (f := 33) rfl ?_); refine goesL_ (some 36) rfl rfl Try.func33 (by kernel_rfl) rfl #[.string ((rd_T56 l1 x29_2).f0)] rfl (by (try simp only [List.map_toArray, List.map_cons, List.map_nil]); first | done | rfl | (simp only [List.length_drop, List.length_take]; rfl)) ?_; (with_reducible refine (virgationref02_Name.calls k2 ((rd_T56 l1 x29_2).f0) true _ A17.out).mono ?_); rintro e w' ⟨rfl, ⟨nd, rfl⟩⟩; refine ⟨_, rfl, ?_⟩))
                            go_meet
                            case rel => exact ⟨_, (true), (by first | rfl | (simp; done) | (simp [*]; done)), H', ⟨by have := HJ4.out; have := HK2.out; first | omega | exact Nat.le_refl _⟩, ⟨by (with_reducible repeat (first | refine blk_drewN ?_ _ | refine blk_drew ?_ | refine blk_alloc ?_ _)); refine blk_put (cs := #[.string ((rd_T56 l1 x29_2).f0), .int .i64 ((rd_T56 l1 x29_2).f1), .int .i64 ((rd_T56 l1 x29_2).f2.f0), .int .i64 ((rd_T56 l1 x29_2).f2.f1), .slice none 0 0]) ?_ 4 _ rfl; (with_reducible repeat (first | refine blk_drewN ?_ _ | refine blk_drew ?_ | refine blk_alloc ?_ _)); refine blk_put (cs := #[.string ((rd_T56 l1 x29_2).f0), .int .i64 ((rd_T56 l1 x29_2).f1), .int .i64 ((rd_T56 l1 x29_2).f2.f0), .int .i64 0, .slice none 0 0]) ?_ 3 _ rfl; (with_reducible repeat (first | refine blk_drewN ?_ _ | refine blk_drew ?_ | refine blk_alloc ?_ _)); refine blk_put (cs := #[.string ((rd_T56 l1 x29_2).f0), .int .i64 ((rd_T56 l1 x29_2).f1), .int .i64 0, .int .i64 0, .slice none 0 0]) ?_ 2 _ rfl; (with_reducible repeat (first | refine blk_drewN ?_ _ | refine blk_drew ?_ | refine blk_alloc ?_ _)); refine blk_put (cs := #[.string ((rd_T56 l1 x29_2).f0), .int .i64 0, .int .i64 0, .int .i64 0, .slice none 0 0]) ?_ 1 _ rfl; (with_reducible repeat (first | refine blk_drewN ?_ _ | refine blk_drew ?_ | refine blk_alloc ?_ _)); refine blk_put (cs := #[.string (⟨#[]⟩ : ByteArray), .int .i64 0, .int .i64 0, .int .i64 0, .slice none 0 0]) ?_ 0 _ rfl; (with_reducible repeat (first | refine blk_drewN ?_ _ | refine blk_drew ?_ | refine blk_alloc ?_ _)); exact BK146.out⟩, ⟨by repeat (first | (with_reducible first | exact HB.out | apply below_alloc | apply pw_below_drewN | apply below_drew1 | refine below_set ?_ GE146.out) | exact HB.out)⟩⟩
                          · rw [if_neg c21] at H
                            have c21b0 : decide (8 < ((rd_T56 l1 x29_2).f1)) = false := decide_eq_false c21
                            clear c21
                            replace H := Option.bind_eq_some_iff.mp H
                            obtain ⟨t148, A230, H⟩ := H
                            replace H : (if t148 > 400 then (virgationref04_Check.j2 k2 l0 l1 x29_2 l1 (l1.length : Int) x29_2 true ((rd_T56 l1 x29_2).f0) ((rd_T56 l1 x29_2).f1) ((rd_T56 l1 x29_2).f2.f0) ((rd_T56 l1 x29_2).f2.f1) ((rd_T56 l1 x29_2).f2.f2)) else ((virgationref02_Depth.f k2 ((rd_T56 l1 x29_2).f2.f0) ((rd_T56 l1 x29_2).f2.f1) ((rd_T56 l1 x29_2).f2.f2)).bind fun t149 => (if t149 > 30 then (virgationref04_Check.j2 k2 l0 l1 x29_2 l1 (l1.length : Int) x29_2 true ((rd_T56 l1 x29_2).f0) ((rd_T56 l1 x29_2).f1) ((rd_T56 l1 x29_2).f2.f0) ((rd_T56 l1 x29_2).f2.f1) ((rd_T56 l1 x29_2).f2.f2)) else ((virgationref04_exist.f k2 ((rd_T56 l1 x29_2).f2.f0) ((rd_T56 l1 x29_2).f2.f1) ((rd_T56 l1 x29_2).f2.f2) ((rd_T56 l1 x29_2).f1) (l1.length : Int) (l0.length : Int)).bind fun t150 => (virgationref04_Check.j2 k2 l0 l1 x29_2 l1 (l1.length : Int) x29_2 (!t150) ((rd_T56 l1 x29_2).f0) ((rd_T56 l1 x29_2).f1) ((rd_T56 l1 x29_2).f2.f0) ((rd_T56 l1 x29_2).f2.f1) ((rd_T56 l1 x29_2).f2.f2)))))) = some r := H
                            have A23 := Aside0.mk A230
                            clear A230
                            by_cases c24 : t148 > 400
                            · rw [if_pos c24] at H
                              have c24b0 : decide (400 < t148) = true := decide_eq_true c24
                              clear c24
                              have H' := Aside0.mk H
                              clear H
                              have hcz25_0 : w15.cell? ⟨gb146, 0, none⟩ = some (.string (⟨#[]⟩ : ByteArray)) := (blk_cell BK146.out 0).trans rfl
                              have hcz25_1 : w15.cell? ⟨gb146, 1, none⟩ = some (.int .i64 0) := (blk_cell BK146.out 1).trans rfl
                              have hcz25_2 : w15.cell? ⟨gb146, 2, none⟩ = some (.int .i64 0) := (blk_cell BK146.out 2).trans rfl
                              have hcz25_3 : w15.cell? ⟨gb146, 3, none⟩ = some (.int .i64 0) := (blk_cell BK146.out 3).trans rfl
                              have hcz25_4 : w15.cell? ⟨gb146, 4, none⟩ = some (.slice none 0 0) := (blk_cell BK146.out 4).trans rfl
                              have hfz25_0 := blk_frozen BK146.out 0
                              have hfz25_1 := blk_frozen BK146.out 1
                              have hfz25_2 := blk_frozen BK146.out 2
                              have hfz25_3 := blk_frozen BK146.out 3
                              have hfz25_4 := blk_frozen BK146.out 4
                              go_wp2_with (first | ((with_reducible refine gate_callee (f := 33) rfl ?_); refine goesL_ (some 36) rfl rfl Try.func33 (by kernel_rfl) rfl #[.string ((rd_T56 l1 x29_2).f0)] rfl (by (try simp only [List.map_toArray, List.map_cons, List.map_nil]); first | done | rfl | (simp only [List.length_drop, List.length_take]; rfl)) ?_; (with_reducible refine (virgationref02_Name.calls k2 ((rd_T56 l1 x29_2).f0) true _ A17.out).mono ?_); rintro e w' ⟨rfl, ⟨nd, rfl⟩⟩; refine ⟨_, rfl, ?_⟩) | (go_at_call 34; (with_reducible refine (virgationref02_Nodes.calls k2 ((rd_T56 l1 x29_2).f2.f0) ((rd_T56 l1 x29_2).f2.f1) _ _ ((rd_T56 l1 x29_2).f2.f2) 400 t148 _ ?side1 ?side2 A23.out).mono ?_); (case side1 => exact Kd.C_below HR145_4.out (by repeat (first | (with_reducible first | exact HB.out | apply below_alloc | apply pw_below_drewN | apply below_drew1 | refine below_set ?_ GE146.out) | exact HB.out))); (case side2 => exact HC145_4.out); rintro e w26 ⟨rfl, hb⟩; have n0_ := Aside0.mk (blk_below (g := gb146) (o := .cells #[.string ((rd_T56 l1 x29_2).f0), .int .i64 ((rd_T56 l1 x29_2).f1), .int .i64 ((rd_T56 l1 x29_2).f2.f0), .int .i64 ((rd_T56 l1 x29_2).f2.f1), .slice A145_4 ((rd_T56 l1 x29_2).f2.f2).length c145_4] 56 (0, 0)) (by (with_reducible repeat (first | refine blk_drewN ?_ _ | refine blk_drew ?_ | refine blk_alloc ?_ _)); refine blk_put (cs := #[.string ((rd_T56 l1 x29_2).f0), .int .i64 ((rd_T56 l1 x29_2).f1), .int .i64 ((rd_T56 l1 x29_2).f2.f0), .int .i64 ((rd_T56 l1 x29_2).f2.f1), .slice none 0 0]) ?_ 4 _ rfl; (with_reducible repeat (first | refine blk_drewN ?_ _ | refine blk_drew ?_ | refine blk_alloc ?_ _)); refine blk_put (cs := #[.string ((rd_T56 l1 x29_2).f0), .int .i64 ((rd_T56 l1 x29_2).f1), .int .i64 ((rd_T56 l1 x29_2).f2.f0), .int .i64 0, .slice none 0 0]) ?_ 3 _ rfl; (with_reducible repeat (first | refine blk_drewN ?_ _ | refine blk_drew ?_ | refine blk_alloc ?_ _)); refine blk_put (cs := #[.string ((rd_T56 l1 x29_2).f0), .int .i64 ((rd_T56 l1 x29_2).f1), .int .i64 0, .int .i64 0, .slice none 0 0]) ?_ 2 _ rfl; (with_reducible repeat (first | refine blk_drewN ?_ _ | refine blk_drew ?_ | refine blk_alloc ?_ _)); refine blk_put (cs := #[.string ((rd_T56 l1 x29_2).f0), .int .i64 0, .int .i64 0, .int .i64 0, .slice none 0 0]) ?_ 1 _ rfl; (with_reducible repeat (first | refine blk_drewN ?_ _ | refine blk_drew ?_ | refine blk_alloc ?_ _)); refine blk_put (cs := #[.string (⟨#[]⟩ : ByteArray), .int .i64 0, .int .i64 0, .int .i64 0, .slice none 0 0]) ?_ 0 _ rfl; (with_reducible repeat (first | refine blk_drewN ?_ _ | refine blk_drew ?_ | refine blk_alloc ?_ _)); exact BK146.out) hb); have n1_ := Aside0.mk (below_step (by repeat (first | (with_reducible first | exact HB.out | apply below_alloc | apply pw_below_drewN | apply below_drew1 | refine below_set ?_ GE146.out) | exact HB.out)) hb); clear BK146; clear HB; have BK146 := n0_; have HB := n1_; clear n0_ n1_; (try clear hb); (try clear hb2); (try clear hk); (try clear hi)))
                              go_meet
                              case rel => exact ⟨_, (true), (by first | rfl | (simp; done) | (simp [*]; done)), H', ⟨by have := HJ4.out; have := HK2.out; first | omega | exact Nat.le_refl _⟩, ⟨by (with_reducible repeat (first | refine blk_drewN ?_ _ | refine blk_drew ?_ | refine blk_alloc ?_ _)); exact BK146.out⟩, ⟨by repeat (first | (with_reducible first | exact HB.out | apply below_alloc | apply pw_below_drewN | apply below_drew1 | refine below_set ?_ GE146.out) | exact HB.out)⟩⟩
                            · rw [if_neg c24] at H
                              have c24b0 : decide (400 < t148) = false := decide_eq_false c24
                              clear c24
                              replace H := Option.bind_eq_some_iff.mp H
                              obtain ⟨t149, A270, H⟩ := H
                              replace H : (if t149 > 30 then (virgationref04_Check.j2 k2 l0 l1 x29_2 l1 (l1.length : Int) x29_2 true ((rd_T56 l1 x29_2).f0) ((rd_T56 l1 x29_2).f1) ((rd_T56 l1 x29_2).f2.f0) ((rd_T56 l1 x29_2).f2.f1) ((rd_T56 l1 x29_2).f2.f2)) else ((virgationref04_exist.f k2 ((rd_T56 l1 x29_2).f2.f0) ((rd_T56 l1 x29_2).f2.f1) ((rd_T56 l1 x29_2).f2.f2) ((rd_T56 l1 x29_2).f1) (l1.length : Int) (l0.length : Int)).bind fun t150 => (virgationref04_Check.j2 k2 l0 l1 x29_2 l1 (l1.length : Int) x29_2 (!t150) ((rd_T56 l1 x29_2).f0) ((rd_T56 l1 x29_2).f1) ((rd_T56 l1 x29_2).f2.f0) ((rd_T56 l1 x29_2).f2.f1) ((rd_T56 l1 x29_2).f2.f2)))) = some r := H
                              have A27 := Aside0.mk A270
                              clear A270
                              by_cases c28 : t149 > 30
                              · rw [if_pos c28] at H
                                have c28b0 : decide (30 < t149) = true := decide_eq_true c28
                                clear c28
                                have H' := Aside0.mk H
                                clear H
                                have hcz29_0 : w15.cell? ⟨gb146, 0, none⟩ = some (.string (⟨#[]⟩ : ByteArray)) := (blk_cell BK146.out 0).trans rfl
                                have hcz29_1 : w15.cell? ⟨gb146, 1, none⟩ = some (.int .i64 0) := (blk_cell BK146.out 1).trans rfl
                                have hcz29_2 : w15.cell? ⟨gb146, 2, none⟩ = some (.int .i64 0) := (blk_cell BK146.out 2).trans rfl
                                have hcz29_3 : w15.cell? ⟨gb146, 3, none⟩ = some (.int .i64 0) := (blk_cell BK146.out 3).trans rfl
                                have hcz29_4 : w15.cell? ⟨gb146, 4, none⟩ = some (.slice none 0 0) := (blk_cell BK146.out 4).trans rfl
                                have hfz29_0 := blk_frozen BK146.out 0
                                have hfz29_1 := blk_frozen BK146.out 1
                                have hfz29_2 := blk_frozen BK146.out 2
                                have hfz29_3 := blk_frozen BK146.out 3
                                have hfz29_4 := blk_frozen BK146.out 4
                                go_wp2_with (first | ((with_reducible refine gate_callee (f := 33) rfl ?_); refine goesL_ (some 36) rfl rfl Try.func33 (by kernel_rfl) rfl #[.string ((rd_T56 l1 x29_2).f0)] rfl (by (try simp only [List.map_toArray, List.map_cons, List.map_nil]); first | done | rfl | (simp only [List.length_drop, List.length_take]; rfl)) ?_; (with_reducible refine (virgationref02_Name.calls k2 ((rd_T56 l1 x29_2).f0) true _ A17.out).mono ?_); rintro e w' ⟨rfl, ⟨nd, rfl⟩⟩; refine ⟨_, rfl, ?_⟩) | (go_at_call 34; (with_reducible refine (virgationref02_Nodes.calls k2 ((rd_T56 l1 x29_2).f2.f0) ((rd_T56 l1 x29_2).f2.f1) _ _ ((rd_T56 l1 x29_2).f2.f2) 400 t148 _ ?side1 ?side2 A23.out).mono ?_); (case side1 => exact Kd.C_below HR145_4.out (by repeat (first | (with_reducible first | exact HB.out | apply below_alloc | apply pw_below_drewN | apply below_drew1 | refine below_set ?_ GE146.out) | exact HB.out))); (case side2 => exact HC145_4.out); rintro e w30 ⟨rfl, hb⟩; have n0_ := Aside0.mk (blk_below (g := gb146) (o := .cells #[.string ((rd_T56 l1 x29_2).f0), .int .i64 ((rd_T56 l1 x29_2).f1), .int .i64 ((rd_T56 l1 x29_2).f2.f0), .int .i64 ((rd_T56 l1 x29_2).f2.f1), .slice A145_4 ((rd_T56 l1 x29_2).f2.f2).length c145_4] 56 (0, 0)) (by (with_reducible repeat (first | refine blk_drewN ?_ _ | refine blk_drew ?_ | refine blk_alloc ?_ _)); refine blk_put (cs := #[.string ((rd_T56 l1 x29_2).f0), .int .i64 ((rd_T56 l1 x29_2).f1), .int .i64 ((rd_T56 l1 x29_2).f2.f0), .int .i64 ((rd_T56 l1 x29_2).f2.f1), .slice none 0 0]) ?_ 4 _ rfl; (with_reducible repeat (first | refine blk_drewN ?_ _ | refine blk_drew ?_ | refine blk_alloc ?_ _)); refine blk_put (cs := #[.string ((rd_T56 l1 x29_2).f0), .int .i64 ((rd_T56 l1 x29_2).f1), .int .i64 ((rd_T56 l1 x29_2).f2.f0), .int .i64 0, .slice none 0 0]) ?_ 3 _ rfl; (with_reducible repeat (first | refine blk_drewN ?_ _ | refine blk_drew ?_ | refine blk_alloc ?_ _)); refine blk_put (cs := #[.string ((rd_T56 l1 x29_2).f0), .int .i64 ((rd_T56 l1 x29_2).f1), .int .i64 0, .int .i64 0, .slice none 0 0]) ?_ 2 _ rfl; (with_reducible repeat (first | refine blk_drewN ?_ _ | refine blk_drew ?_ | refine blk_alloc ?_ _)); refine blk_put (cs := #[.string ((rd_T56 l1 x29_2).f0), .int .i64 0, .int .i64 0, .int .i64 0, .slice none 0 0]) ?_ 1 _ rfl; (with_reducible repeat (first | refine blk_drewN ?_ _ | refine blk_drew ?_ | refine blk_alloc ?_ _)); refine blk_put (cs := #[.string (⟨#[]⟩ : ByteArray), .int .i64 0, .int .i64 0, .int .i64 0, .slice none 0 0]) ?_ 0 _ rfl; (with_reducible repeat (first | refine blk_drewN ?_ _ | refine blk_drew ?_ | refine blk_alloc ?_ _)); exact BK146.out) hb); have n1_ := Aside0.mk (below_step (by repeat (first | (with_reducible first | exact HB.out | apply below_alloc | apply pw_below_drewN | apply below_drew1 | refine below_set ?_ GE146.out) | exact HB.out)) hb); clear BK146; clear HB; have BK146 := n0_; have HB := n1_; clear n0_ n1_; (try clear hb); (try clear hb2); (try clear hk); (try clear hi); have hcz31_0 : w30.cell? ⟨gb146, 0, none⟩ = some (.string ((rd_T56 l1 x29_2).f0)) := (blk_cell BK146.out 0).trans rfl; have hcz31_1 : w30.cell? ⟨gb146, 1, none⟩ = some (.int .i64 ((rd_T56 l1 x29_2).f1)) := (blk_cell BK146.out 1).trans rfl; have hcz31_2 : w30.cell? ⟨gb146, 2, none⟩ = some (.int .i64 ((rd_T56 l1 x29_2).f2.f0)) := (blk_cell BK146.out 2).trans rfl; have hcz31_3 : w30.cell? ⟨gb146, 3, none⟩ = some (.int .i64 ((rd_T56 l1 x29_2).f2.f1)) := (blk_cell BK146.out 3).trans rfl; have hcz31_4 : w30.cell? ⟨gb146, 4, none⟩ = some (.slice A145_4 ((rd_T56 l1 x29_2).f2.f2).length c145_4) := (blk_cell BK146.out 4).trans rfl; have hfz31_0 := blk_frozen BK146.out 0; have hfz31_1 := blk_frozen BK146.out 1; have hfz31_2 := blk_frozen BK146.out 2; have hfz31_3 := blk_frozen BK146.out 3; have hfz31_4 := blk_frozen BK146.out 4) | (go_at_call 35; (with_reducible refine (virgationref02_Depth.calls k2 ((rd_T56 l1 x29_2).f2.f0) ((rd_T56 l1 x29_2).f2.f1) _ _ ((rd_T56 l1 x29_2).f2.f2) t149 _ ?side1 ?side2 A27.out).mono ?_); (case side1 => repeat (first | exact (Kd.C_below HR145_4.out HB.out) | (with_reducible refine Kd.C_alloc ?_ _) | (with_reducible refine Kd.C_drewN ?_ _) | (with_reducible refine Kd.C_drew ?_))); (case side2 => exact HC145_4.out); rintro e w32 ⟨rfl, hb⟩; have n0_ := Aside0.mk (blk_below (g := gb146) (o := .cells #[.string ((rd_T56 l1 x29_2).f0), .int .i64 ((rd_T56 l1 x29_2).f1), .int .i64 ((rd_T56 l1 x29_2).f2.f0), .int .i64 ((rd_T56 l1 x29_2).f2.f1), .slice A145_4 ((rd_T56 l1 x29_2).f2.f2).length c145_4] 56 (0, 0)) (by (with_reducible repeat (first | refine blk_drewN ?_ _ | refine blk_drew ?_ | refine blk_alloc ?_ _)); exact BK146.out) hb); have n1_ := Aside0.mk (below_step (by repeat (first | (with_reducible first | exact HB.out | apply below_alloc | apply pw_below_drewN | apply below_drew1 | refine below_set ?_ GE146.out) | exact HB.out)) hb); clear BK146; clear HB; have BK146 := n0_; have HB := n1_; clear n0_ n1_; (try clear hb); (try clear hb2); (try clear hk); (try clear hi)))
                                go_meet
                                case rel => exact ⟨_, (true), (by first | rfl | (simp; done) | (simp [*]; done)), H', ⟨by have := HJ4.out; have := HK2.out; first | omega | exact Nat.le_refl _⟩, ⟨by (with_reducible repeat (first | refine blk_drewN ?_ _ | refine blk_drew ?_ | refine blk_alloc ?_ _)); exact BK146.out⟩, ⟨by repeat (first | (with_reducible first | exact HB.out | apply below_alloc | apply pw_below_drewN | apply below_drew1 | refine below_set ?_ GE146.out) | exact HB.out)⟩⟩
                              · rw [if_neg c28] at H
                                have c28b0 : decide (30 < t149) = false := decide_eq_false c28
                                clear c28
                                replace H := Option.bind_eq_some_iff.mp H
                                obtain ⟨t150, A330, H⟩ := H
                                replace H : (virgationref04_Check.j2 k2 l0 l1 x29_2 l1 (l1.length : Int) x29_2 (!t150) ((rd_T56 l1 x29_2).f0) ((rd_T56 l1 x29_2).f1) ((rd_T56 l1 x29_2).f2.f0) ((rd_T56 l1 x29_2).f2.f1) ((rd_T56 l1 x29_2).f2.f2)) = some r := H
                                have A33 := Aside0.mk A330
                                clear A330
                                have H' := Aside0.mk H
                                clear H
                                have hcz34_0 : w15.cell? ⟨gb146, 0, none⟩ = some (.string (⟨#[]⟩ : ByteArray)) := (blk_cell BK146.out 0).trans rfl
                                have hcz34_1 : w15.cell? ⟨gb146, 1, none⟩ = some (.int .i64 0) := (blk_cell BK146.out 1).trans rfl
                                have hcz34_2 : w15.cell? ⟨gb146, 2, none⟩ = some (.int .i64 0) := (blk_cell BK146.out 2).trans rfl
                                have hcz34_3 : w15.cell? ⟨gb146, 3, none⟩ = some (.int .i64 0) := (blk_cell BK146.out 3).trans rfl
                                have hcz34_4 : w15.cell? ⟨gb146, 4, none⟩ = some (.slice none 0 0) := (blk_cell BK146.out 4).trans rfl
                                have hfz34_0 := blk_frozen BK146.out 0
                                have hfz34_1 := blk_frozen BK146.out 1
                                have hfz34_2 := blk_frozen BK146.out 2
                                have hfz34_3 := blk_frozen BK146.out 3
                                have hfz34_4 := blk_frozen BK146.out 4
                                go_wp2_with (first | ((with_reducible refine gate_callee (f := 33) rfl ?_); refine goesL_ (some 36) rfl rfl Try.func33 (by kernel_rfl) rfl #[.string ((rd_T56 l1 x29_2).f0)] rfl (by (try simp only [List.map_toArray, List.map_cons, List.map_nil]); first | done | rfl | (simp only [List.length_drop, List.length_take]; rfl)) ?_; (with_reducible refine (virgationref02_Name.calls k2 ((rd_T56 l1 x29_2).f0) true _ A17.out).mono ?_); rintro e w' ⟨rfl, ⟨nd, rfl⟩⟩; refine ⟨_, rfl, ?_⟩) | (go_at_call 34; (with_reducible refine (virgationref02_Nodes.calls k2 ((rd_T56 l1 x29_2).f2.f0) ((rd_T56 l1 x29_2).f2.f1) _ _ ((rd_T56 l1 x29_2).f2.f2) 400 t148 _ ?side1 ?side2 A23.out).mono ?_); (case side1 => exact Kd.C_below HR145_4.out (by repeat (first | (with_reducible first | exact HB.out | apply below_alloc | apply pw_below_drewN | apply below_drew1 | refine below_set ?_ GE146.out) | exact HB.out))); (case side2 => exact HC145_4.out); rintro e w35 ⟨rfl, hb⟩; have n0_ := Aside0.mk (blk_below (g := gb146) (o := .cells #[.string ((rd_T56 l1 x29_2).f0), .int .i64 ((rd_T56 l1 x29_2).f1), .int .i64 ((rd_T56 l1 x29_2).f2.f0), .int .i64 ((rd_T56 l1 x29_2).f2.f1), .slice A145_4 ((rd_T56 l1 x29_2).f2.f2).length c145_4] 56 (0, 0)) (by (with_reducible repeat (first | refine blk_drewN ?_ _ | refine blk_drew ?_ | refine blk_alloc ?_ _)); refine blk_put (cs := #[.string ((rd_T56 l1 x29_2).f0), .int .i64 ((rd_T56 l1 x29_2).f1), .int .i64 ((rd_T56 l1 x29_2).f2.f0), .int .i64 ((rd_T56 l1 x29_2).f2.f1), .slice none 0 0]) ?_ 4 _ rfl; (with_reducible repeat (first | refine blk_drewN ?_ _ | refine blk_drew ?_ | refine blk_alloc ?_ _)); refine blk_put (cs := #[.string ((rd_T56 l1 x29_2).f0), .int .i64 ((rd_T56 l1 x29_2).f1), .int .i64 ((rd_T56 l1 x29_2).f2.f0), .int .i64 0, .slice none 0 0]) ?_ 3 _ rfl; (with_reducible repeat (first | refine blk_drewN ?_ _ | refine blk_drew ?_ | refine blk_alloc ?_ _)); refine blk_put (cs := #[.string ((rd_T56 l1 x29_2).f0), .int .i64 ((rd_T56 l1 x29_2).f1), .int .i64 0, .int .i64 0, .slice none 0 0]) ?_ 2 _ rfl; (with_reducible repeat (first | refine blk_drewN ?_ _ | refine blk_drew ?_ | refine blk_alloc ?_ _)); refine blk_put (cs := #[.string ((rd_T56 l1 x29_2).f0), .int .i64 0, .int .i64 0, .int .i64 0, .slice none 0 0]) ?_ 1 _ rfl; (with_reducible repeat (first | refine blk_drewN ?_ _ | refine blk_drew ?_ | refine blk_alloc ?_ _)); refine blk_put (cs := #[.string (⟨#[]⟩ : ByteArray), .int .i64 0, .int .i64 0, .int .i64 0, .slice none 0 0]) ?_ 0 _ rfl; (with_reducible repeat (first | refine blk_drewN ?_ _ | refine blk_drew ?_ | refine blk_alloc ?_ _)); exact BK146.out) hb); have n1_ := Aside0.mk (below_step (by repeat (first | (with_reducible first | exact HB.out | apply below_alloc | apply pw_below_drewN | apply below_drew1 | refine below_set ?_ GE146.out) | exact HB.out)) hb); clear BK146; clear HB; have BK146 := n0_; have HB := n1_; clear n0_ n1_; (try clear hb); (try clear hb2); (try clear hk); (try clear hi); have hcz36_0 : w35.cell? ⟨gb146, 0, none⟩ = some (.string ((rd_T56 l1 x29_2).f0)) := (blk_cell BK146.out 0).trans rfl; have hcz36_1 : w35.cell? ⟨gb146, 1, none⟩ = some (.int .i64 ((rd_T56 l1 x29_2).f1)) := (blk_cell BK146.out 1).trans rfl; have hcz36_2 : w35.cell? ⟨gb146, 2, none⟩ = some (.int .i64 ((rd_T56 l1 x29_2).f2.f0)) := (blk_cell BK146.out 2).trans rfl; have hcz36_3 : w35.cell? ⟨gb146, 3, none⟩ = some (.int .i64 ((rd_T56 l1 x29_2).f2.f1)) := (blk_cell BK146.out 3).trans rfl; have hcz36_4 : w35.cell? ⟨gb146, 4, none⟩ = some (.slice A145_4 ((rd_T56 l1 x29_2).f2.f2).length c145_4) := (blk_cell BK146.out 4).trans rfl; have hfz36_0 := blk_frozen BK146.out 0; have hfz36_1 := blk_frozen BK146.out 1; have hfz36_2 := blk_frozen BK146.out 2; have hfz36_3 := blk_frozen BK146.out 3; have hfz36_4 := blk_frozen BK146.out 4) | (go_at_call 35; (with_reducible refine (virgationref02_Depth.calls k2 ((rd_T56 l1 x29_2).f2.f0) ((rd_T56 l1 x29_2).f2.f1) _ _ ((rd_T56 l1 x29_2).f2.f2) t149 _ ?side1 ?side2 A27.out).mono ?_); (case side1 => repeat (first | exact (Kd.C_below HR145_4.out HB.out) | (with_reducible refine Kd.C_alloc ?_ _) | (with_reducible refine Kd.C_drewN ?_ _) | (with_reducible refine Kd.C_drew ?_))); (case side2 => exact HC145_4.out); rintro e w37 ⟨rfl, hb⟩; have n0_ := Aside0.mk (blk_below (g := gb146) (o := .cells #[.string ((rd_T56 l1 x29_2).f0), .int .i64 ((rd_T56 l1 x29_2).f1), .int .i64 ((rd_T56 l1 x29_2).f2.f0), .int .i64 ((rd_T56 l1 x29_2).f2.f1), .slice A145_4 ((rd_T56 l1 x29_2).f2.f2).length c145_4] 56 (0, 0)) (by (with_reducible repeat (first | refine blk_drewN ?_ _ | refine blk_drew ?_ | refine blk_alloc ?_ _)); exact BK146.out) hb); have n1_ := Aside0.mk (below_step (by repeat (first | (with_reducible first | exact HB.out | apply below_alloc | apply pw_below_drewN | apply below_drew1 | refine below_set ?_ GE146.out) | exact HB.out)) hb); clear BK146; clear HB; have BK146 := n0_; have HB := n1_; clear n0_ n1_; (try clear hb); (try clear hb2); (try clear hk); (try clear hi); have hcz38_0 : w37.cell? ⟨gb146, 0, none⟩ = some (.string ((rd_T56 l1 x29_2).f0)) := (blk_cell BK146.out 0).trans rfl; have hcz38_1 : w37.cell? ⟨gb146, 1, none⟩ = some (.int .i64 ((rd_T56 l1 x29_2).f1)) := (blk_cell BK146.out 1).trans rfl; have hcz38_2 : w37.cell? ⟨gb146, 2, none⟩ = some (.int .i64 ((rd_T56 l1 x29_2).f2.f0)) := (blk_cell BK146.out 2).trans rfl; have hcz38_3 : w37.cell? ⟨gb146, 3, none⟩ = some (.int .i64 ((rd_T56 l1 x29_2).f2.f1)) := (blk_cell BK146.out 3).trans rfl; have hcz38_4 : w37.cell? ⟨gb146, 4, none⟩ = some (.slice A145_4 ((rd_T56 l1 x29_2).f2.f2).length c145_4) := (blk_cell BK146.out 4).trans rfl; have hfz38_0 := blk_frozen BK146.out 0; have hfz38_1 := blk_frozen BK146.out 1; have hfz38_2 := blk_frozen BK146.out 2; have hfz38_3 := blk_frozen BK146.out 3; have hfz38_4 := blk_frozen BK146.out 4) | (go_at_call 36; (with_reducible refine (virgationref04_exist.calls k2 ((rd_T56 l1 x29_2).f2.f0) ((rd_T56 l1 x29_2).f2.f1) _ _ ((rd_T56 l1 x29_2).f2.f2) ((rd_T56 l1 x29_2).f1) (l1.length : Int) (l0.length : Int) t150 _ ?side1 ?side2 A33.out).mono ?_); (case side1 => repeat (first | exact (Kd.C_below HR145_4.out HB.out) | (with_reducible refine Kd.C_alloc ?_ _) | (with_reducible refine Kd.C_drewN ?_ _) | (with_reducible refine Kd.C_drew ?_))); (case side2 => exact HC145_4.out); rintro e w39 ⟨rfl, hb⟩; have n0_ := Aside0.mk (blk_below (g := gb146) (o := .cells #[.string ((rd_T56 l1 x29_2).f0), .int .i64 ((rd_T56 l1 x29_2).f1), .int .i64 ((rd_T56 l1 x29_2).f2.f0), .int .i64 ((rd_T56 l1 x29_2).f2.f1), .slice A145_4 ((rd_T56 l1 x29_2).f2.f2).length c145_4] 56 (0, 0)) (by (with_reducible repeat (first | refine blk_drewN ?_ _ | refine blk_drew ?_ | refine blk_alloc ?_ _)); exact BK146.out) hb); have n1_ := Aside0.mk (below_step (by repeat (first | (with_reducible first | exact HB.out | apply below_alloc | apply pw_below_drewN | apply below_drew1 | refine below_set ?_ GE146.out) | exact HB.out)) hb); clear BK146; clear HB; have BK146 := n0_; have HB := n1_; clear n0_ n1_; (try clear hb); (try clear hb2); (try clear hk); (try clear hi)))
                                go_meet
                                case rel => exact ⟨_, (!t150), (by first | rfl | (simp; done) | (simp [*]; done)), H', ⟨by have := HJ4.out; have := HK2.out; first | omega | exact Nat.le_refl _⟩, ⟨by (with_reducible repeat (first | refine blk_drewN ?_ _ | refine blk_drew ?_ | refine blk_alloc ?_ _)); exact BK146.out⟩, ⟨by repeat (first | (with_reducible first | exact HB.out | apply below_alloc | apply pw_below_drewN | apply below_drew1 | refine below_set ?_ GE146.out) | exact HB.out)⟩⟩
                      · replace c18 := Bool.eq_false_iff.mpr c18
                        subst c18
                        have H1 : (virgationref04_Check.j2 k2 l0 l1 x29_2 l1 (l1.length : Int) x29_2 true ((rd_T56 l1 x29_2).f0) ((rd_T56 l1 x29_2).f1) ((rd_T56 l1 x29_2).f2.f0) ((rd_T56 l1 x29_2).f2.f1) ((rd_T56 l1 x29_2).f2.f2)) = some r := by rw [if_neg (show ¬ (false = true) by decide)] at H; exact H
                        clear H
                        have H := H1
                        clear H1
                        have H' := Aside0.mk H
                        clear H
                        have hcz40_0 : w15.cell? ⟨gb146, 0, none⟩ = some (.string (⟨#[]⟩ : ByteArray)) := (blk_cell BK146.out 0).trans rfl
                        have hcz40_1 : w15.cell? ⟨gb146, 1, none⟩ = some (.int .i64 0) := (blk_cell BK146.out 1).trans rfl
                        have hcz40_2 : w15.cell? ⟨gb146, 2, none⟩ = some (.int .i64 0) := (blk_cell BK146.out 2).trans rfl
                        have hcz40_3 : w15.cell? ⟨gb146, 3, none⟩ = some (.int .i64 0) := (blk_cell BK146.out 3).trans rfl
                        have hcz40_4 : w15.cell? ⟨gb146, 4, none⟩ = some (.slice none 0 0) := (blk_cell BK146.out 4).trans rfl
                        have hfz40_0 := blk_frozen BK146.out 0
                        have hfz40_1 := blk_frozen BK146.out 1
                        have hfz40_2 := blk_frozen BK146.out 2
                        have hfz40_3 := blk_frozen BK146.out 3
                        have hfz40_4 := blk_frozen BK146.out 4
                        go_wp2_with (first | ((with_reducible refine gate_callee (f := 33) rfl ?_); refine goesL_ (some 36) rfl rfl Try.func33 (by kernel_rfl) rfl #[.string ((rd_T56 l1 x29_2).f0)] rfl (by (try simp only [List.map_toArray, List.map_cons, List.map_nil]); first | done | rfl | (simp only [List.length_drop, List.length_take]; rfl)) ?_; (with_reducible refine (virgationref02_Name.calls k2 ((rd_T56 l1 x29_2).f0) false _ A17.out).mono ?_); rintro e w' ⟨rfl, ⟨nd, rfl⟩⟩; refine ⟨_, rfl, ?_⟩))
                        go_meet
                        case rel => exact ⟨_, (true), (by first | rfl | (simp; done) | (simp [*]; done)), H', ⟨by have := HJ4.out; have := HK2.out; first | omega | exact Nat.le_refl _⟩, ⟨by (with_reducible repeat (first | refine blk_drewN ?_ _ | refine blk_drew ?_ | refine blk_alloc ?_ _)); refine blk_put (cs := #[.string ((rd_T56 l1 x29_2).f0), .int .i64 ((rd_T56 l1 x29_2).f1), .int .i64 ((rd_T56 l1 x29_2).f2.f0), .int .i64 ((rd_T56 l1 x29_2).f2.f1), .slice none 0 0]) ?_ 4 _ rfl; (with_reducible repeat (first | refine blk_drewN ?_ _ | refine blk_drew ?_ | refine blk_alloc ?_ _)); refine blk_put (cs := #[.string ((rd_T56 l1 x29_2).f0), .int .i64 ((rd_T56 l1 x29_2).f1), .int .i64 ((rd_T56 l1 x29_2).f2.f0), .int .i64 0, .slice none 0 0]) ?_ 3 _ rfl; (with_reducible repeat (first | refine blk_drewN ?_ _ | refine blk_drew ?_ | refine blk_alloc ?_ _)); refine blk_put (cs := #[.string ((rd_T56 l1 x29_2).f0), .int .i64 ((rd_T56 l1 x29_2).f1), .int .i64 0, .int .i64 0, .slice none 0 0]) ?_ 2 _ rfl; (with_reducible repeat (first | refine blk_drewN ?_ _ | refine blk_drew ?_ | refine blk_alloc ?_ _)); refine blk_put (cs := #[.string ((rd_T56 l1 x29_2).f0), .int .i64 0, .int .i64 0, .int .i64 0, .slice none 0 0]) ?_ 1 _ rfl; (with_reducible repeat (first | refine blk_drewN ?_ _ | refine blk_drew ?_ | refine blk_alloc ?_ _)); refine blk_put (cs := #[.string (⟨#[]⟩ : ByteArray), .int .i64 0, .int .i64 0, .int .i64 0, .slice none 0 0]) ?_ 0 _ rfl; (with_reducible repeat (first | refine blk_drewN ?_ _ | refine blk_drew ?_ | refine blk_alloc ?_ _)); exact BK146.out⟩, ⟨by repeat (first | (with_reducible first | exact HB.out | apply below_alloc | apply pw_below_drewN | apply below_drew1 | refine below_set ?_ GE146.out) | exact HB.out)⟩⟩
                    case rest =>
                      clear HC14
                      try clear c1
                      try clear p1
                      try clear q1
                      try clear hx1
                      try clear qi1
                      try clear c2
                      try clear p2
                      try clear c3
                      try clear c4
                      try clear c7
                      try clear c7b0
                      try clear c7b1
                      try clear c8
                      try clear c8b0
                      try clear c8b1
                      try clear c9
                      try clear c9b0
                      try clear c9b1
                      try clear c10
                      try clear c11
                      try clear c11b0
                      try clear c12
                      try clear c12b0
                      try clear c13
                      try clear c13b0
                      try clear c14
                      try clear p14
                      try clear q14
                      try clear hx14
                      try clear qi14
                      try clear c18
                      try clear c19
                      try clear c19b0
                      try clear c21
                      try clear c21b0
                      try clear c24
                      try clear c24b0
                      try clear c28
                      try clear c28b0
                      try clear c32
                      try clear c33
                      try clear hcz16_0
                      try clear hcz16_1
                      try clear hcz16_2
                      try clear hcz16_3
                      try clear hcz16_4
                      try clear hcz20_0
                      try clear hcz20_1
                      try clear hcz20_2
                      try clear hcz20_3
                      try clear hcz20_4
                      try clear hcz22_0
                      try clear hcz22_1
                      try clear hcz22_2
                      try clear hcz22_3
                      try clear hcz22_4
                      try clear hcz25_0
                      try clear hcz25_1
                      try clear hcz25_2
                      try clear hcz25_3
                      try clear hcz25_4
                      try clear hcz29_0
                      try clear hcz29_1
                      try clear hcz29_2
                      try clear hcz29_3
                      try clear hcz29_4
                      try clear hcz31_0
                      try clear hcz31_1
                      try clear hcz31_2
                      try clear hcz31_3
                      try clear hcz31_4
                      try clear hcz34_0
                      try clear hcz34_1
                      try clear hcz34_2
                      try clear hcz34_3
                      try clear hcz34_4
                      try clear hcz36_0
                      try clear hcz36_1
                      try clear hcz36_2
                      try clear hcz36_3
                      try clear hcz36_4
                      try clear hcz38_0
                      try clear hcz38_1
                      try clear hcz38_2
                      try clear hcz38_3
                      try clear hcz38_4
                      try clear hcz40_0
                      try clear hcz40_1
                      try clear hcz40_2
                      try clear hcz40_3
                      try clear hcz40_4
                      try clear hfz16_0
                      try clear hfz16_1
                      try clear hfz16_2
                      try clear hfz16_3
                      try clear hfz16_4
                      try clear hfz20_0
                      try clear hfz20_1
                      try clear hfz20_2
                      try clear hfz20_3
                      try clear hfz20_4
                      try clear hfz22_0
                      try clear hfz22_1
                      try clear hfz22_2
                      try clear hfz22_3
                      try clear hfz22_4
                      try clear hfz25_0
                      try clear hfz25_1
                      try clear hfz25_2
                      try clear hfz25_3
                      try clear hfz25_4
                      try clear hfz29_0
                      try clear hfz29_1
                      try clear hfz29_2
                      try clear hfz29_3
                      try clear hfz29_4
                      try clear hfz31_0
                      try clear hfz31_1
                      try clear hfz31_2
                      try clear hfz31_3
                      try clear hfz31_4
                      try clear hfz34_0
                      try clear hfz34_1
                      try clear hfz34_2
                      try clear hfz34_3
                      try clear hfz34_4
                      try clear hfz36_0
                      try clear hfz36_1
                      try clear hfz36_2
                      try clear hfz36_3
                      try clear hfz36_4
                      try clear hfz38_0
                      try clear hfz38_1
                      try clear hfz38_2
                      try clear hfz38_3
                      try clear hfz38_4
                      try clear hfz40_0
                      try clear hfz40_1
                      try clear hfz40_2
                      try clear hfz40_3
                      try clear hfz40_4
                      try clear hx144_0
                      try clear hx144_1
                      try clear hx144_2
                      try clear hx144_3
                      try clear hx144_4
                      try clear hx145_0
                      try clear hx145_1
                      try clear hx145_2
                      try clear hx145_3
                      try clear hx145_4
                      try clear p1
                      try clear p144
                      try clear p145
                      try clear p2
                      try clear q1
                      try clear q144
                      try clear q145
                      obtain ⟨kq, x71_13, rfl, HA, HJ13, BK146, HB⟩ := hcut
                      cases kq with
                      | zero => exact absurd HA.out (by simp [virgationref04_Check.j2])
                      | succ kj13 =>
                        have H := HA.out
                        clear HA
                        simp only [virgationref04_Check.j2] at H
                        by_cases c41 : x71_13 = true
                        · subst c41
                          have H1 : (some 4) = some r := by rw [if_pos rfl] at H; exact H
                          clear H
                          have H := H1
                          clear H1
                          obtain rfl := Option.some.inj H
                          go_wp2
                          go_ret
                          exact ⟨by first | rfl | (simp [errW_none, errW_some] <;> rfl) | (simp [*, errW_none, errW_some] <;> rfl), by repeat (first | (with_reducible first | exact HB.out | apply below_alloc | apply pw_below_drewN | apply below_drew1 | refine below_set ?_ GE146.out) | exact HB.out)⟩
                        · replace c41 := Bool.eq_false_iff.mpr c41
                          subst c41
                          have H1 : (if 0 ≤ x29_2 then (if x29_2 ≤ (l1.length : Int) then ((some (l1.take (x29_2 : Int).toNat : List (S56))).bind fun y151 => (virgationref04_Check.l1 kj13 l0 l1 l1 (l1.length : Int) x29_2 y151 (y151.length : Int) 0 ((rd_T56 l1 x29_2).f0) ((rd_T56 l1 x29_2).f1) ((rd_T56 l1 x29_2).f2.f0) ((rd_T56 l1 x29_2).f2.f1) ((rd_T56 l1 x29_2).f2.f2))) else (none)) else (none)) = some r := by rw [if_neg (show ¬ (false = true) by decide)] at H; exact H
                          clear H
                          have H := H1
                          clear H1
                          by_cases c42 : 0 ≤ x29_2
                          · rw [if_pos c42] at H
                            have c42b0 := eq_true c42
                            have c42b1 : decide (0 ≤ x29_2) = true := decide_eq_true c42
                            clear c42
                            by_cases c43 : x29_2 ≤ (l1.length : Int)
                            · rw [if_pos c43] at H
                              have c43b0 := eq_true c43
                              have c43b1 : decide (x29_2 ≤ (l1.length : Int)) = true := decide_eq_true c43
                              clear c43
                              obtain ⟨y151, hy151⟩ : ∃ y_ : List (S56), y_ = (l1.take (x29_2 : Int).toNat) := ⟨_, rfl⟩
                              replace H : (virgationref04_Check.l1 kj13 l0 l1 l1 (l1.length : Int) x29_2 y151 (y151.length : Int) 0 ((rd_T56 l1 x29_2).f0) ((rd_T56 l1 x29_2).f1) ((rd_T56 l1 x29_2).f2.f0) ((rd_T56 l1 x29_2).f2.f1) ((rd_T56 l1 x29_2).f2.f2)) = some r := by first | (rw [hy151]; with_reducible exact H) | (have H2_ := (Option.bind_some _ _).symm.trans H; rw [hy151]; with_reducible exact H2_) | (have H2_ := (Option.bind_some _ _).symm.trans H; with_reducible exact H2_) | with_reducible exact H | (rw [hy151]; exact H) | exact H
                              have Ny151 := Aside0.mk hy151
                              clear hy151
                              have H' := Aside0.mk H
                              clear H
                              have q44 : (x29_2 : Int) ≤ ((l1.length : Int) : Int) := of_decide_eq_true (by first | (with_reducible assumption) | assumption)
                              obtain ⟨i044, hi044, _, hsz44, _⟩ := info_parts info56
                              have hroom44 : l1.length ≤ c1 := HC1.out
                              have hC44 : Kd.C k56 _ (some ad145) l1.length l1 := HR1.out
                              have hcut44 := cut_to (P := Try.prog) 23 56 .i64 Try.underlying23 hi044 (some ad145) l1.length c1 x29_2 (of_decide_eq_true (by first | (with_reducible assumption) | assumption)) q44 hroom44
                              have hr44 := Kd.C_take (m := (x29_2 : Int).toNat) hC44 (by omega)
                              have hy44 : y151.length = (x29_2 : Int).toNat := (by rw [Ny151.out, List.length_take]; omega)
                              rw [← Ny151.out] at hr44
                              rw [← hy44] at hcut44
                              have HR154 := Aside0.mk hr44
                              have HC154 := Aside0.mk (show y151.length ≤ c1 from by omega)
                              clear hr44 hC44 hroom44 hi044 hsz44
                              have KY44 := Aside0.mk hy44
                              clear hy44
                              replace q44 := eq_true q44
                              go_wp2
                              go_loopg [76] kj13 (fun kq v76 w' => ∃ (x76_4 : Int), v76 = .int .i64 x76_4 ∧ Aside0 (virgationref04_Check.l1 kq l0 l1 l1 (l1.length : Int) x29_2 y151 (y151.length : Int) x76_4 ((rd_T56 l1 x29_2).f0) ((rd_T56 l1 x29_2).f1) ((rd_T56 l1 x29_2).f2.f0) ((rd_T56 l1 x29_2).f2.f1) ((rd_T56 l1 x29_2).f2.f2) = some r) ∧ Aside0 (kq ≤ kj13) ∧ Aside0 (w'.heap[gb146]? = some (.cells #[.string ((rd_T56 l1 x29_2).f0), .int .i64 ((rd_T56 l1 x29_2).f1), .int .i64 ((rd_T56 l1 x29_2).f2.f0), .int .i64 ((rd_T56 l1 x29_2).f2.f1), (.slice A145_4 ((rd_T56 l1 x29_2).f2.f2).length c145_4)] 56 (0, 0))) ∧ Aside0 (Below w.heap.size w w'))
                              case atStart => exact ⟨(0), (by first | rfl | (simp; done) | (simp [*]; done)), H', ⟨Nat.le_refl _⟩, ⟨by (with_reducible repeat (first | refine blk_drewN ?_ _ | refine blk_drew ?_ | refine blk_alloc ?_ _)); exact BK146.out⟩, ⟨by repeat (first | (with_reducible first | exact HB.out | apply below_alloc | apply pw_below_drewN | apply below_drew1 | refine below_set ?_ GE146.out) | exact HB.out)⟩⟩
                              case round =>
                                clear H'
                                try clear c1
                                try clear p1
                                try clear q1
                                try clear hx1
                                try clear qi1
                                try clear c2
                                try clear p2
                                try clear c3
                                try clear c4
                                try clear q4
                                try clear c7
                                try clear c7b0
                                try clear c7b1
                                try clear c8
                                try clear c8b0
                                try clear c8b1
                                try clear c9
                                try clear c9b0
                                try clear c9b1
                                try clear c10
                                try clear c11
                                try clear c11b0
                                try clear c12
                                try clear c12b0
                                try clear c13
                                try clear c13b0
                                try clear c14
                                try clear p14
                                try clear q14
                                try clear hx14
                                try clear qi14
                                try clear c18
                                try clear c19
                                try clear c19b0
                                try clear c21
                                try clear c21b0
                                try clear c24
                                try clear c24b0
                                try clear c28
                                try clear c28b0
                                try clear c32
                                try clear c33
                                try clear c41
                                try clear c42
                                try clear c42b0
                                try clear c42b1
                                try clear c43
                                try clear c43b0
                                try clear c43b1
                                try clear q44
                                try clear hcz16_0
                                try clear hcz16_1
                                try clear hcz16_2
                                try clear hcz16_3
                                try clear hcz16_4
                                try clear hcz20_0
                                try clear hcz20_1
                                try clear hcz20_2
                                try clear hcz20_3
                                try clear hcz20_4
                                try clear hcz22_0
                                try clear hcz22_1
                                try clear hcz22_2
                                try clear hcz22_3
                                try clear hcz22_4
                                try clear hcz25_0
                                try clear hcz25_1
                                try clear hcz25_2
                                try clear hcz25_3
                                try clear hcz25_4
                                try clear hcz29_0
                                try clear hcz29_1
                                try clear hcz29_2
                                try clear hcz29_3
                                try clear hcz29_4
                                try clear hcz31_0
                                try clear hcz31_1
                                try clear hcz31_2
                                try clear hcz31_3
                                try clear hcz31_4
                                try clear hcz34_0
                                try clear hcz34_1
                                try clear hcz34_2
                                try clear hcz34_3
                                try clear hcz34_4
                                try clear hcz36_0
                                try clear hcz36_1
                                try clear hcz36_2
                                try clear hcz36_3
                                try clear hcz36_4
                                try clear hcz38_0
                                try clear hcz38_1
                                try clear hcz38_2
                                try clear hcz38_3
                                try clear hcz38_4
                                try clear hcz40_0
                                try clear hcz40_1
                                try clear hcz40_2
                                try clear hcz40_3
                                try clear hcz40_4
                                try clear hfz16_0
                                try clear hfz16_1
                                try clear hfz16_2
                                try clear hfz16_3
                                try clear hfz16_4
                                try clear hfz20_0
                                try clear hfz20_1
                                try clear hfz20_2
                                try clear hfz20_3
                                try clear hfz20_4
                                try clear hfz22_0
                                try clear hfz22_1
                                try clear hfz22_2
                                try clear hfz22_3
                                try clear hfz22_4
                                try clear hfz25_0
                                try clear hfz25_1
                                try clear hfz25_2
                                try clear hfz25_3
                                try clear hfz25_4
                                try clear hfz29_0
                                try clear hfz29_1
                                try clear hfz29_2
                                try clear hfz29_3
                                try clear hfz29_4
                                try clear hfz31_0
                                try clear hfz31_1
                                try clear hfz31_2
                                try clear hfz31_3
                                try clear hfz31_4
                                try clear hfz34_0
                                try clear hfz34_1
                                try clear hfz34_2
                                try clear hfz34_3
                                try clear hfz34_4
                                try clear hfz36_0
                                try clear hfz36_1
                                try clear hfz36_2
                                try clear hfz36_3
                                try clear hfz36_4
                                try clear hfz38_0
                                try clear hfz38_1
                                try clear hfz38_2
                                try clear hfz38_3
                                try clear hfz38_4
                                try clear hfz40_0
                                try clear hfz40_1
                                try clear hfz40_2
                                try clear hfz40_3
                                try clear hfz40_4
                                try clear hx144_0
                                try clear hx144_1
                                try clear hx144_2
                                try clear hx144_3
                                try clear hx144_4
                                try clear hx145_0
                                try clear hx145_1
                                try clear hx145_2
                                try clear hx145_3
                                try clear hx145_4
                                try clear p1
                                try clear p14
                                try clear p144
                                try clear p145
                                try clear p2
                                try clear q1
                                try clear q14
                                try clear q144
                                try clear q145
                                try clear q44
                                obtain ⟨x76_4, rfl, HA, HK4, BK146, HB⟩ := hrel
                                cases gk with
                                | zero => exact absurd HA.out (by simp [virgationref04_Check.l1])
                                | succ k4 =>
                                  have H := HA.out
                                  clear HA
                                  simp only [virgationref04_Check.l1] at H
                                  by_cases c45 : x76_4 < (y151.length : Int)
                                  · rw [if_pos c45] at H
                                    have c45b0 : decide (x76_4 < (y151.length : Int)) = true := decide_eq_true c45
                                    clear c45
                                    by_cases c46 : 0 ≤ x76_4
                                    · rw [if_pos c46] at H
                                      have c46b0 : decide (0 ≤ x76_4) = true := decide_eq_true c46
                                      clear c46
                                      by_cases c47 : x76_4 < (y151.length : Int)
                                      · rw [if_pos c47] at H
                                        have c47b0 : decide (x76_4 < (y151.length : Int)) = true := decide_eq_true c47
                                        clear c47
                                        by_cases c48 : ((rd_T56 l1 x29_2).f0).toList = ((rd_T56 y151 x76_4).f0).toList
                                        · rw [if_pos c48] at H
                                          have c48b0 : (((rd_T56 l1 x29_2).f0).toList == ((rd_T56 y151 x76_4).f0).toList) = true := beq_iff_eq.mpr c48
                                          have c48b1 : (((rd_T56 l1 x29_2).f0).toList != ((rd_T56 y151 x76_4).f0).toList) = false := bne_eq_false_iff_eq.mpr c48
                                          clear c48
                                          obtain rfl := Option.some.inj H
                                          have p155 : 0 ≤ (x76_4 : Int) := of_decide_eq_true (by first | (with_reducible assumption) | assumption)
                                          have q155 : x76_4 < (y151.length : Int) := of_decide_eq_true (by first | (with_reducible assumption) | assumption)
                                          obtain ⟨ad155, A155_4, c155_4, e155, hx155_0, hx155_1, hx155_2, hx155_3, hx155_4, hl155_4, hi155_4⟩ := at_T56 HR154.out x76_4 p155 q155
                                          obtain rfl : ad145 = ad155 := (by injection e155)
                                          replace hx155_0 := (HB.out.cell (World.block_lt_of_cell? w _ hx155_0)).trans hx155_0
                                          replace hx155_1 := (HB.out.cell (World.block_lt_of_cell? w _ hx155_1)).trans hx155_1
                                          replace hx155_2 := (HB.out.cell (World.block_lt_of_cell? w _ hx155_2)).trans hx155_2
                                          replace hx155_3 := (HB.out.cell (World.block_lt_of_cell? w _ hx155_3)).trans hx155_3
                                          replace hx155_4 := (HB.out.cell (World.block_lt_of_cell? w _ hx155_4)).trans hx155_4
                                          have HR155_4 := Aside0.mk hi155_4
                                          have HC155_4 := Aside0.mk hl155_4
                                          clear hi155_4 hl155_4
                                          replace p155 := eq_true p155
                                          replace q155 := eq_true q155
                                          go_wp2_with (first | ((with_reducible refine gate_dst (N := 8) rfl ?_); (try (refine gate_guard (by rfl) ?_; dsimp only)); refine box_event ?hg (N := 8) ?hd (cs := #[.string (⟨#[]⟩ : ByteArray), .int .i64 0, .int .i64 0, .int .i64 0, .slice none 0 0]) (t := 56) ?hr ?_; (case hd => rfl); (case hg => rfl); (case hr => first | (go_simp; done) | (go_simp; rfl)); intro gb156 hg w49 hbox hb; have n0_ := Aside0.mk (blk_below (g := gb146) (o := .cells #[.string ((rd_T56 l1 x29_2).f0), .int .i64 ((rd_T56 l1 x29_2).f1), .int .i64 ((rd_T56 l1 x29_2).f2.f0), .int .i64 ((rd_T56 l1 x29_2).f2.f1), .slice A145_4 ((rd_T56 l1 x29_2).f2.f2).length c145_4] 56 (0, 0)) (by (with_reducible repeat (first | refine blk_drewN ?_ _ | refine blk_drew ?_ | refine blk_alloc ?_ _)); exact BK146.out) hb); have n1_ := Aside0.mk (below_step (by repeat (first | (with_reducible first | exact HB.out | apply below_alloc | apply pw_below_drewN | apply below_drew1 | refine below_set ?_ GE146.out) | exact HB.out)) hb); have n2_ := Aside0.mk (hbox); have n3_ := Aside0.mk ((by rw [hg]; exact (below_size (by repeat (first | (with_reducible first | exact HB.out | apply below_alloc | apply pw_below_drewN | apply below_drew1 | refine below_set ?_ GE146.out) | exact HB.out))) : w.heap.size ≤ gb156)); have n4_ := Aside0.mk ((by rw [hg]; exact (below_size (by repeat (first | (with_reducible first | exact HB.out | apply below_alloc | apply pw_below_drewN | apply below_drew1 | refine below_set ?_ GE146.out) | exact HB.out))) : w.heap.size ≤ gb156)); have n5_ := Aside0.mk ((by rw [hg]; exact Nat.ne_of_lt (blk_lt (g := gb146) (o := .cells #[.string ((rd_T56 l1 x29_2).f0), .int .i64 ((rd_T56 l1 x29_2).f1), .int .i64 ((rd_T56 l1 x29_2).f2.f0), .int .i64 ((rd_T56 l1 x29_2).f2.f1), .slice A145_4 ((rd_T56 l1 x29_2).f2.f2).length c145_4] 56 (0, 0)) (by (with_reducible repeat (first | refine blk_drewN ?_ _ | refine blk_drew ?_ | refine blk_alloc ?_ _)); exact BK146.out)) : gb146 ≠ gb156)); have n6_ := Aside0.mk ((by rw [hg]; exact Nat.ne_of_gt (blk_lt (g := gb146) (o := .cells #[.string ((rd_T56 l1 x29_2).f0), .int .i64 ((rd_T56 l1 x29_2).f1), .int .i64 ((rd_T56 l1 x29_2).f2.f0), .int .i64 ((rd_T56 l1 x29_2).f2.f1), .slice A145_4 ((rd_T56 l1 x29_2).f2.f2).length c145_4] 56 (0, 0)) (by (with_reducible repeat (first | refine blk_drewN ?_ _ | refine blk_drew ?_ | refine blk_alloc ?_ _)); exact BK146.out)) : gb156 ≠ gb146)); clear BK146; clear HB; have BK146 := n0_; have HB := n1_; have BK156 := n2_; have GW156 := n3_; have GE156 := n4_; have NB146_156 := n5_; have NB156_146 := n6_; clear n0_ n1_ n2_ n3_ n4_ n5_ n6_; clear hb hbox hg; have hnb50 := NB156_146.out; have hnc50 := NB146_156.out; have hcz51_0 : w49.cell? ⟨gb156, 0, none⟩ = some (.string (⟨#[]⟩ : ByteArray)) := (blk_cell BK156.out 0).trans rfl; have hcz51_1 : w49.cell? ⟨gb156, 1, none⟩ = some (.int .i64 0) := (blk_cell BK156.out 1).trans rfl; have hcz51_2 : w49.cell? ⟨gb156, 2, none⟩ = some (.int .i64 0) := (blk_cell BK156.out 2).trans rfl; have hcz51_3 : w49.cell? ⟨gb156, 3, none⟩ = some (.int .i64 0) := (blk_cell BK156.out 3).trans rfl; have hcz51_4 : w49.cell? ⟨gb156, 4, none⟩ = some (.slice none 0 0) := (blk_cell BK156.out 4).trans rfl; have hfz51_0 := blk_frozen BK156.out 0; have hfz51_1 := blk_frozen BK156.out 1; have hfz51_2 := blk_frozen BK156.out 2; have hfz51_3 := blk_frozen BK156.out 3; have hfz51_4 := blk_frozen BK156.out 4; have hcz52_0 : w49.cell? ⟨gb146, 0, none⟩ = some (.string ((rd_T56 l1 x29_2).f0)) := (blk_cell BK146.out 0).trans rfl; have hcz52_1 : w49.cell? ⟨gb146, 1, none⟩ = some (.int .i64 ((rd_T56 l1 x29_2).f1)) := (blk_cell BK146.out 1).trans rfl; have hcz52_2 : w49.cell? ⟨gb146, 2, none⟩ = some (.int .i64 ((rd_T56 l1 x29_2).f2.f0)) := (blk_cell BK146.out 2).trans rfl; have hcz52_3 : w49.cell? ⟨gb146, 3, none⟩ = some (.int .i64 ((rd_T56 l1 x29_2).f2.f1)) := (blk_cell BK146.out 3).trans rfl; have hcz52_4 : w49.cell? ⟨gb146, 4, none⟩ = some (.slice A145_4 ((rd_T56 l1 x29_2).f2.f2).length c145_4) := (blk_cell BK146.out 4).trans rfl; have hfz52_0 := blk_frozen BK146.out 0; have hfz52_1 := blk_frozen BK146.out 1; have hfz52_2 := blk_frozen BK146.out 2; have hfz52_3 := blk_frozen BK146.out 3; have hfz52_4 := blk_frozen BK146.out 4))
                                          go_ret
                                          exact ⟨by first | rfl | (simp [errW_none, errW_some] <;> rfl) | (simp [*, errW_none, errW_some] <;> rfl), by repeat (first | (with_reducible first | exact HB.out | apply below_alloc | apply pw_below_drewN | apply below_drew1 | refine below_set ?_ GE146.out | refine below_set ?_ GE156.out) | exact HB.out)⟩
                                        · rw [if_neg c48] at H
                                          have c48b0 : (((rd_T56 l1 x29_2).f0).toList == ((rd_T56 y151 x76_4).f0).toList) = false := beq_eq_false_iff_ne.mpr c48
                                          have c48b1 : (((rd_T56 l1 x29_2).f0).toList != ((rd_T56 y151 x76_4).f0).toList) = true := bne_iff_ne.mpr c48
                                          have H' := Aside0.mk H
                                          clear H
                                          have p155 : 0 ≤ (x76_4 : Int) := of_decide_eq_true (by first | (with_reducible assumption) | assumption)
                                          have q155 : x76_4 < (y151.length : Int) := of_decide_eq_true (by first | (with_reducible assumption) | assumption)
                                          obtain ⟨ad155, A155_4, c155_4, e155, hx155_0, hx155_1, hx155_2, hx155_3, hx155_4, hl155_4, hi155_4⟩ := at_T56 HR154.out x76_4 p155 q155
                                          obtain rfl : ad145 = ad155 := (by injection e155)
                                          replace hx155_0 := (HB.out.cell (World.block_lt_of_cell? w _ hx155_0)).trans hx155_0
                                          replace hx155_1 := (HB.out.cell (World.block_lt_of_cell? w _ hx155_1)).trans hx155_1
                                          replace hx155_2 := (HB.out.cell (World.block_lt_of_cell? w _ hx155_2)).trans hx155_2
                                          replace hx155_3 := (HB.out.cell (World.block_lt_of_cell? w _ hx155_3)).trans hx155_3
                                          replace hx155_4 := (HB.out.cell (World.block_lt_of_cell? w _ hx155_4)).trans hx155_4
                                          have HR155_4 := Aside0.mk hi155_4
                                          have HC155_4 := Aside0.mk hl155_4
                                          clear hi155_4 hl155_4
                                          replace p155 := eq_true p155
                                          replace q155 := eq_true q155
                                          go_wp2_with (first | ((with_reducible refine gate_dst (N := 8) rfl ?_); (try (refine gate_guard (by rfl) ?_; dsimp only)); refine box_event ?hg (N := 8) ?hd (cs := #[.string (⟨#[]⟩ : ByteArray), .int .i64 0, .int .i64 0, .int .i64 0, .slice none 0 0]) (t := 56) ?hr ?_; (case hd => rfl); (case hg => rfl); (case hr => first | (go_simp; done) | (go_simp; rfl)); intro gb156 hg w53 hbox hb; have n0_ := Aside0.mk (blk_below (g := gb146) (o := .cells #[.string ((rd_T56 l1 x29_2).f0), .int .i64 ((rd_T56 l1 x29_2).f1), .int .i64 ((rd_T56 l1 x29_2).f2.f0), .int .i64 ((rd_T56 l1 x29_2).f2.f1), .slice A145_4 ((rd_T56 l1 x29_2).f2.f2).length c145_4] 56 (0, 0)) (by (with_reducible repeat (first | refine blk_drewN ?_ _ | refine blk_drew ?_ | refine blk_alloc ?_ _)); exact BK146.out) hb); have n1_ := Aside0.mk (below_step (by repeat (first | (with_reducible first | exact HB.out | apply below_alloc | apply pw_below_drewN | apply below_drew1 | refine below_set ?_ GE146.out) | exact HB.out)) hb); have n2_ := Aside0.mk (hbox); have n3_ := Aside0.mk ((by rw [hg]; exact (below_size (by repeat (first | (with_reducible first | exact HB.out | apply below_alloc | apply pw_below_drewN | apply below_drew1 | refine below_set ?_ GE146.out) | exact HB.out))) : w.heap.size ≤ gb156)); have n4_ := Aside0.mk ((by rw [hg]; exact (below_size (by repeat (first | (with_reducible first | exact HB.out | apply below_alloc | apply pw_below_drewN | apply below_drew1 | refine below_set ?_ GE146.out) | exact HB.out))) : w.heap.size ≤ gb156)); have n5_ := Aside0.mk ((by rw [hg]; exact Nat.ne_of_lt (blk_lt (g := gb146) (o := .cells #[.string ((rd_T56 l1 x29_2).f0), .int .i64 ((rd_T56 l1 x29_2).f1), .int .i64 ((rd_T56 l1 x29_2).f2.f0), .int .i64 ((rd_T56 l1 x29_2).f2.f1), .slice A145_4 ((rd_T56 l1 x29_2).f2.f2).length c145_4] 56 (0, 0)) (by (with_reducible repeat (first | refine blk_drewN ?_ _ | refine blk_drew ?_ | refine blk_alloc ?_ _)); exact BK146.out)) : gb146 ≠ gb156)); have n6_ := Aside0.mk ((by rw [hg]; exact Nat.ne_of_gt (blk_lt (g := gb146) (o := .cells #[.string ((rd_T56 l1 x29_2).f0), .int .i64 ((rd_T56 l1 x29_2).f1), .int .i64 ((rd_T56 l1 x29_2).f2.f0), .int .i64 ((rd_T56 l1 x29_2).f2.f1), .slice A145_4 ((rd_T56 l1 x29_2).f2.f2).length c145_4] 56 (0, 0)) (by (with_reducible repeat (first | refine blk_drewN ?_ _ | refine blk_drew ?_ | refine blk_alloc ?_ _)); exact BK146.out)) : gb156 ≠ gb146)); clear BK146; clear HB; have BK146 := n0_; have HB := n1_; have BK156 := n2_; have GW156 := n3_; have GE156 := n4_; have NB146_156 := n5_; have NB156_146 := n6_; clear n0_ n1_ n2_ n3_ n4_ n5_ n6_; clear hb hbox hg; have hnb54 := NB156_146.out; have hnc54 := NB146_156.out; have hcz55_0 : w53.cell? ⟨gb156, 0, none⟩ = some (.string (⟨#[]⟩ : ByteArray)) := (blk_cell BK156.out 0).trans rfl; have hcz55_1 : w53.cell? ⟨gb156, 1, none⟩ = some (.int .i64 0) := (blk_cell BK156.out 1).trans rfl; have hcz55_2 : w53.cell? ⟨gb156, 2, none⟩ = some (.int .i64 0) := (blk_cell BK156.out 2).trans rfl; have hcz55_3 : w53.cell? ⟨gb156, 3, none⟩ = some (.int .i64 0) := (blk_cell BK156.out 3).trans rfl; have hcz55_4 : w53.cell? ⟨gb156, 4, none⟩ = some (.slice none 0 0) := (blk_cell BK156.out 4).trans rfl; have hfz55_0 := blk_frozen BK156.out 0; have hfz55_1 := blk_frozen BK156.out 1; have hfz55_2 := blk_frozen BK156.out 2; have hfz55_3 := blk_frozen BK156.out 3; have hfz55_4 := blk_frozen BK156.out 4; have hcz56_0 : w53.cell? ⟨gb146, 0, none⟩ = some (.string ((rd_T56 l1 x29_2).f0)) := (blk_cell BK146.out 0).trans rfl; have hcz56_1 : w53.cell? ⟨gb146, 1, none⟩ = some (.int .i64 ((rd_T56 l1 x29_2).f1)) := (blk_cell BK146.out 1).trans rfl; have hcz56_2 : w53.cell? ⟨gb146, 2, none⟩ = some (.int .i64 ((rd_T56 l1 x29_2).f2.f0)) := (blk_cell BK146.out 2).trans rfl; have hcz56_3 : w53.cell? ⟨gb146, 3, none⟩ = some (.int .i64 ((rd_T56 l1 x29_2).f2.f1)) := (blk_cell BK146.out 3).trans rfl; have hcz56_4 : w53.cell? ⟨gb146, 4, none⟩ = some (.slice A145_4 ((rd_T56 l1 x29_2).f2.f2).length c145_4) := (blk_cell BK146.out 4).trans rfl; have hfz56_0 := blk_frozen BK146.out 0; have hfz56_1 := blk_frozen BK146.out 1; have hfz56_2 := blk_frozen BK146.out 2; have hfz56_3 := blk_frozen BK146.out 3; have hfz56_4 := blk_frozen BK146.out 4))
                                          go_roundg k4
                                          case measure => have := HJ4.out; have := HK2.out; have := HJ13.out; have := HK4.out; omega
                                          case rel => exact ⟨(wrap64 (x76_4 + 1)), (by first | rfl | (simp; done) | (simp [*]; done)), H', ⟨by have := HJ4.out; have := HK2.out; have := HJ13.out; have := HK4.out; omega⟩, ⟨by (with_reducible repeat (first | refine blk_drewN ?_ _ | refine blk_drew ?_ | refine blk_alloc ?_ _)); refine blk_far ?_ NB146_156.out _; (with_reducible repeat (first | refine blk_drewN ?_ _ | refine blk_drew ?_ | refine blk_alloc ?_ _)); refine blk_far ?_ NB146_156.out _; (with_reducible repeat (first | refine blk_drewN ?_ _ | refine blk_drew ?_ | refine blk_alloc ?_ _)); refine blk_far ?_ NB146_156.out _; (with_reducible repeat (first | refine blk_drewN ?_ _ | refine blk_drew ?_ | refine blk_alloc ?_ _)); refine blk_far ?_ NB146_156.out _; (with_reducible repeat (first | refine blk_drewN ?_ _ | refine blk_drew ?_ | refine blk_alloc ?_ _)); refine blk_far ?_ NB146_156.out _; (with_reducible repeat (first | refine blk_drewN ?_ _ | refine blk_drew ?_ | refine blk_alloc ?_ _)); exact BK146.out⟩, ⟨by repeat (first | (with_reducible first | exact HB.out | apply below_alloc | apply pw_below_drewN | apply below_drew1 | refine below_set ?_ GE146.out | refine below_set ?_ GE156.out) | exact HB.out)⟩⟩
                                      · rw [if_neg c47] at H
                                        exact absurd H (by simp)
                                    · rw [if_neg c46] at H
                                      exact absurd H (by simp)
                                  · rw [if_neg c45] at H
                                    have c45b0 : decide (x76_4 < (y151.length : Int)) = false := decide_eq_false c45
                                    clear c45
                                    have H' := Aside0.mk H
                                    clear H
                                    go_wp2
                                    go_roundg k4
                                    case measure => have := HJ4.out; have := HK2.out; have := HJ13.out; have := HK4.out; omega
                                    case rel => exact ⟨(wrap64 (x29_2 + 1)), (by first | rfl | (simp; done) | (simp [*]; done)), H', ⟨by have := HJ4.out; have := HK2.out; have := HJ13.out; have := HK4.out; omega⟩, ⟨by repeat (first | (with_reducible first | exact HB.out | apply below_alloc | apply pw_below_drewN | apply below_drew1 | refine below_set ?_ GE146.out) | exact HB.out)⟩⟩
                            · rw [if_neg c43] at H
                              exact absurd H (by simp)
                          · rw [if_neg c42] at H
                            exact absurd H (by simp)
                  · rw [if_neg c13] at H
                    exact absurd H (by simp)
                · rw [if_neg c12] at H
                  exact absurd H (by simp)
              · rw [if_neg c11] at H
                have c11b0 : decide (x29_2 < (l1.length : Int)) = false := decide_eq_false c11
                clear c11
                obtain rfl := Option.some.inj H
                go_wp2
                go_ret
                exact ⟨by first | rfl | (simp [errW_none, errW_some] <;> rfl) | (simp [*, errW_none, errW_some] <;> rfl), by repeat (first | (with_reducible first | exact HB.out | apply below_alloc | apply pw_below_drewN | apply below_drew1) | exact HB.out)⟩
  · replace c4 := Bool.eq_false_iff.mpr c4
    subst c4
    have H1 : (some 2) = some r := by rw [if_neg (show ¬ (false = true) by decide)] at H; exact H
    clear H
    have H := H1
    clear H1
    obtain rfl := Option.some.inj H
    go_enter Try.func12, Try.ntmps12
    go_wp2_with (first | ((with_reducible refine gate_callee (f := 32) rfl ?_); refine goesL_ (some 10) rfl rfl Try.func32 (by kernel_rfl) rfl #[.slice A0 l0.length c0] rfl (by (try simp only [List.map_toArray, List.map_cons, List.map_nil]); first | done | rfl | (simp only [List.length_drop, List.length_take]; rfl)) ?_; (with_reducible refine (virgationref02_Symbols.calls k _ _ l0 false _ ?side1 ?side2 A3.out).mono ?_); (case side1 => repeat (first | exact HR0.out | (with_reducible refine Kd.C_alloc ?_ _) | (with_reducible refine Kd.C_drewN ?_ _) | (with_reducible refine Kd.C_drew ?_))); (case side2 => exact HC0.out); rintro e w57 ⟨rfl, hb⟩; refine ⟨_, rfl, ?_⟩; have n0_ := Aside0.mk (below_step (by repeat (first | (with_reducible first | exact HB.out | apply below_alloc | apply pw_below_drewN | apply below_drew1) | exact HB.out)) hb); clear HB; have HB := n0_; clear n0_; (try clear hb); (try clear hb2); (try clear hk); (try clear hi)))
    go_ret
    exact ⟨by first | rfl | (simp [errW_none, errW_some] <;> rfl) | (simp [*, errW_none, errW_some] <;> rfl), by repeat (first | (with_reducible first | exact HB.out | apply below_alloc | apply pw_below_drewN | apply below_drew1) | exact HB.out)⟩
end Go.Proofs.Ytfhgoebgnilfaaa.I
namespace Go.Proofs.Ytfhgoebgnilfaaa.I
open Go.RowKit Go.Proofs.YtfhgoebgnilfaaaW.PrintWords Go.Proofs.YtfhgoebgnilfaaaW.PrintLast Go.Proofs.YtfhgoebgnilfaaaW.PrintMore
attribute [local go_sem] max2_int min2_int max_two min_two max_three min_three max_four min_four
set_option linter.unusedVariables false
set_option maxRecDepth 100000
set_option linter.unusedSimpArgs false
/-- A kind; its pointers are places in the list of all of them. -/
structure KN where
  lk : Option Nat
  bs : Bool
  fr : Option Nat
  tk : Option Nat
/-- The block of the kind at a place. -/
def bk (ad : List Nat) (i : Nat) : Nat := ad.getD i 0
/-- A pointer to the kind at a place. -/
abbrev pk (ad : List Nat) (i : Nat) : Value := .pointer (some ⟨bk ad i, 0, none⟩)
def pv (ad : List Nat) : Option Nat → Value
  | none => .pointer none
  | some i => pk ad i
def kcells (ad : List Nat) (n : KN) : Array Value := #[pv ad n.lk, .bool n.bs, pv ad n.fr, pv ad n.tk]
def inS (m : Nat) (o : Option Nat) : Prop := ∀ j, o = some j → j < m
/-- The kinds lie in memory, each in a block of its own from B on. -/
structure Held (B : Nat) (s : List KN) (ad : List Nat) (w : World) : Prop where
  len : ad.length = s.length
  nodup : ad.Nodup
  ge : ∀ b, b ∈ ad → B ≤ b
  cell : ∀ (i : Nat) (n : KN), s[i]? = some n → w.heap[bk ad i]? = some (.cells (kcells ad n) 74 (0, 0))
  ok : ∀ (i : Nat) (n : KN), s[i]? = some n → inS s.length n.lk ∧ inS s.length n.fr ∧ inS s.length n.tk
theorem Held.below {B : Nat} {s : List KN} {ad : List Nat} {w w1 : World} (h : Held B s ad w) (hb : Below w.heap.size w w1) : Held B s ad w1 :=
  ⟨h.len, h.nodup, h.ge, fun i n hn => blk_below (h.cell i n hn) hb, h.ok⟩
theorem Held.at {B : Nat} {s : List KN} {ad : List Nat} {w : World} (h : Held B s ad w) {i : Nat} (hi : i < s.length) : ∃ n, s[i]? = some n ∧ w.heap[bk ad i]? = some (.cells (kcells ad n) 74 (0, 0)) :=
  ⟨s[i], List.getElem?_eq_getElem hi, h.cell i _ (List.getElem?_eq_getElem hi)⟩
theorem Held.inj {B : Nat} {s : List KN} {ad : List Nat} {w : World} (h : Held B s ad w) {i j : Nat} (hi : i < s.length) (hj : j < s.length) : bk ad i = bk ad j ↔ i = j := by
  have hi' : i < ad.length := by rw [h.len]; exact hi
  have hj' : j < ad.length := by rw [h.len]; exact hj
  unfold bk
  rw [List.getD_eq_getElem?_getD, List.getD_eq_getElem?_getD, List.getElem?_eq_getElem hi', List.getElem?_eq_getElem hj']
  simp only [Option.getD_some]
  constructor
  · intro e
    have hp := List.pairwise_iff_getElem.1 h.nodup
    rcases Nat.lt_trichotomy i j with hij | hij | hij
    · exact absurd e (hp i j hi' hj' hij)
    · exact hij
    · exact absurd e.symm (hp j i hj' hi' hij)
  · rintro rfl
    rfl
theorem info74 : ∃ j, Try.prog.info? 74 = some j ∧ j.size = 4 := by
  have h : (Try.prog.info? 74).map (fun i => i.size) = some 4 := by kernel_rfl
  obtain ⟨j, hj, hs⟩ := Option.map_eq_some_iff.1 h
  exact ⟨j, hj, hs⟩
/-- Two pointers to kinds are the same just if the places are. -/
theorem peq_run {B : Nat} {s : List KN} {ad : List Nat} {w : World} (h : Held B s ad w) {i j : Nat} (hi : i < s.length) (hj : j < s.length) :
    (binOp .eql 72 (.pointer (some ⟨bk ad i, 0, none⟩)) (.pointer (some ⟨bk ad j, 0, none⟩))).run Try.prog w = .ok (.bool (decide (i = j))) w := by
  obtain ⟨t, ht, hs⟩ := info74
  by_cases hij : i = j
  · subst hij
    rw [decide_eq_true rfl]
    exact run_eql_ptr_same w _ Try.underlying72 ht
  · rw [decide_eq_false hij]
    obtain ⟨n, _, hn⟩ := h.at hi
    obtain ⟨m, _, hm⟩ := h.at hj
    exact run_eql_ptr_other w Try.underlying72 ht (by rw [hs]; decide) (fun e => hij ((h.inj hi hj).1 (by injection e))) hn hm
/-- Following links. -/
def fend (s : List KN) : Nat → Nat → Option Nat
  | 0, _ => none
  | k + 1, i => match s[i]? with
    | none => none
    | some n => match n.lk with
      | none => some i
      | some j => fend s k j
theorem fend_lt {s : List KN} : ∀ {k i r : Nat}, fend s k i = some r → r < s.length
  | 0, i, r, h => by simp [fend] at h
  | k + 1, i, r, h => by
    unfold fend at h
    cases hn : s[i]? with
    | none => rw [hn] at h; cases h
    | some n =>
      rw [hn] at h
      simp only at h
      cases hl : n.lk with
      | none => rw [hl] at h; injection h with h; subst h; exact (List.getElem?_eq_some_iff.1 hn).1
      | some j => rw [hl] at h; exact fend_lt h
set_option maxHeartbeats 4000000 in
theorem kend_calls (B : Nat) (s : List KN) (ad : List Nat) (k i r : Nat) (w : World) (hH : Held B s ad w) (h : fend s k i = some r) :
    Calls Try.prog 58 #[pk ad i] w fun e w' => e = .returned (pk ad r) ∧ w' = w := by
  have hu74 := Try.underlying74
  have HH := Aside0.mk hH
  have H := Aside0.mk h
  clear hH h
  go_enter Try.func58, Try.ntmps58
  go_wp2_with fail
  go_loopg [0] k (fun kq v0 wr => ∃ (i : Nat), v0 = pk ad i ∧ Aside0 (fend s kq i = some r) ∧ wr = w)
  case atStart => exact ⟨i, rfl, H, rfl⟩
  case round =>
    obtain ⟨i, rfl, HF, rfl⟩ := hrel
    have hf := HF.out
    cases gk with
    | zero => exact absurd hf (by simp [fend])
    | succ k1 =>
      unfold fend at hf
      cases hn : s[i]? with
      | none => rw [hn] at hf; cases hf
      | some n =>
        rw [hn] at hf
        simp only at hf
        have hc := HH.out.cell i n hn
        have hc0 : wr.cell? ⟨bk ad i, 0, none⟩ = some (pv ad n.lk) := (blk_cell hc 0).trans rfl
        clear hc HF hn
        cases hl : n.lk with
        | none =>
          rw [hl] at hf hc0
          injection hf with hf
          subst hf
          simp only [pv] at hc0
          try simp only [pk]
          go_wp2_with fail
          go_ret
          exact ⟨rfl, rfl⟩
        | some j =>
          rw [hl] at hf hc0
          simp only at hf
          have HF2 := Aside0.mk hf
          clear hf
          simp only [pv, pk] at hc0
          try simp only [pk]
          go_wp2_with fail
          go_roundg k1
          case measure => omega
          case rel => exact ⟨j, rfl, HF2, rfl⟩
end Go.Proofs.Ytfhgoebgnilfaaa.I
namespace Go.Proofs.Ytfhgoebgnilfaaa.I
open Go.RowKit Go.Proofs.YtfhgoebgnilfaaaW.PrintWords Go.Proofs.YtfhgoebgnilfaaaW.PrintLast Go.Proofs.YtfhgoebgnilfaaaW.PrintMore
attribute [local go_sem] max2_int min2_int max_two min_two max_three min_three max_four min_four
set_option linter.unusedVariables false
set_option maxRecDepth 100000
set_option linter.unusedSimpArgs false
/-- Is a kind in another one? -/
def fwithin (s : List KN) : Nat → Nat → Nat → Option Bool
  | 0, _, _ => none
  | f + 1, k, i => match fend s f i with
    | none => none
    | some r => if k = r then some true else match s[r]? with
      | none => none
      | some n => match n.fr with
        | none => some false
        | some a => match fwithin s f k a with
          | none => none
          | some true => some true
          | some false => match n.tk with
            | none => none
            | some t => fwithin s f k t
set_option maxHeartbeats 4000000 in
theorem within_calls (B : Nat) (s : List KN) (ad : List Nat) (f : Nat) : ∀ (k i : Nat) (r : Bool) (w : World) (hH : Held B s ad w) (hk : k < s.length) (h : fwithin s f k i = some r),
    Calls Try.prog 59 #[pk ad k, pk ad i] w fun e w' => e = .returned (.bool r) ∧ w' = w := by
  induction f using Nat.strongRecOn with
  | _ f ih =>
  intro k i r w hH hk h
  have hu74 := Try.underlying74
  cases f with
  | zero => exact absurd h (by simp [fwithin])
  | succ f =>
  unfold fwithin at h
  cases hr : fend s f i with
  | none => rw [hr] at h; cases h
  | some q =>
  rw [hr] at h
  simp only at h
  have HH := Aside0.mk hH
  have HE := Aside0.mk hr
  have hq := fend_lt hr
  have hinj := hH.inj hk hq
  have IH := Aside0.mk ih
  obtain ⟨n, hn, hc⟩ := hH.at hq
  have hok := hH.ok q n hn
  have hc2 : w.cell? ⟨bk ad q, 2, none⟩ = some (pv ad n.fr) := (blk_cell hc 2).trans rfl
  have hc3 : w.cell? ⟨bk ad q, 3, none⟩ = some (pv ad n.tk) := (blk_cell hc 3).trans rfl
  rw [hn] at h
  simp only at h
  clear hH hr ih hc hn
  go_enter Try.func59, Try.ntmps59
  go_wp2_with fail
  (with_reducible refine (kend_calls B s ad f i q w HH.out HE.out).mono ?_)
  rintro e w1 ⟨rfl, rfl⟩
  have hpe := peq_run HH.out hk hq
  by_cases hkq : k = q
  · rw [if_pos hkq] at h
    injection h with h
    subst h
    rw [decide_eq_true hkq] at hpe
    clear hkq hinj
    try simp only [pk]
    go_wp2_with fail
    go_ret
    exact ⟨rfl, rfl⟩
  · rw [if_neg hkq] at h
    rw [decide_eq_false hkq] at hpe
    clear hkq hinj
    try simp only [pk]
    cases hf : n.fr with
    | none =>
      rw [hf] at h hc2
      injection h with h
      subst h
      simp only [pv] at hc2
      clear hc3 hok hf
      go_wp2_with fail
      go_ret
      exact ⟨rfl, rfl⟩
    | some a =>
      rw [hf] at h hc2
      simp only at h
      simp only [pv, pk] at hc2
      cases hwa : fwithin s f k a with
      | none => rw [hwa] at h; cases h
      | some ba =>
      rw [hwa] at h
      have HWa := Aside0.mk hwa
      clear hwa hf
      go_wp2_with fail
      (with_reducible refine (IH.out f (Nat.lt_succ_self f) k a ba w1 HH.out hk HWa.out).mono ?_)
      rintro e w2 ⟨rfl, rfl⟩
      cases ba with
      | true =>
        injection h with h
        subst h
        go_wp2_with fail
        go_ret
        exact ⟨rfl, rfl⟩
      | false =>
        simp only at h
        cases ht : n.tk with
        | none => rw [ht] at h; cases h
        | some t =>
        rw [ht] at h hc3
        simp only at h
        simp only [pv, pk] at hc3
        have HWt := Aside0.mk h
        clear h ht
        go_wp2_with fail
        (with_reducible refine (IH.out f (Nat.lt_succ_self f) k t r w2 HH.out hk HWt.out).mono ?_)
        rintro e w3 ⟨rfl, rfl⟩
        go_wp2_with fail
        go_ret
        exact ⟨rfl, rfl⟩
end Go.Proofs.Ytfhgoebgnilfaaa.I
namespace Go.Proofs.Ytfhgoebgnilfaaa.I
open Go.RowKit Go.Proofs.YtfhgoebgnilfaaaW.PrintWords Go.Proofs.YtfhgoebgnilfaaaW.PrintLast Go.Proofs.YtfhgoebgnilfaaaW.PrintMore
attribute [local go_sem] max2_int min2_int max_two min_two max_three min_three max_four min_four
set_option linter.unusedVariables false
set_option maxRecDepth 100000
set_option linter.unusedSimpArgs false
/-- All blocks but some, and the new ones, are as they were. -/
structure Turned (ok : Nat → Prop) (w w' : World) : Prop where
  os : w'.os = w.os
  tape : w'.tape = w.tape
  output : w'.output = w.output
  size : w.heap.size ≤ w'.heap.size
  block : ∀ k, k < w.heap.size → ¬ ok k → w'.heap[k]? = w.heap[k]?
theorem Turned.refl (ok : Nat → Prop) (w : World) : Turned ok w w := ⟨rfl, rfl, rfl, Nat.le_refl _, fun _ _ _ => rfl⟩
theorem Turned.trans {ok ok' : Nat → Prop} {w w1 w2 : World} (h : Turned ok w w1) (k : Turned ok' w1 w2) (ho : ∀ k, ok' k → k < w.heap.size → ok k) : Turned ok w w2 :=
  ⟨k.os.trans h.os, k.tape.trans h.tape, k.output.trans h.output, Nat.le_trans h.size k.size, fun j hj hn => (k.block j (Nat.lt_of_lt_of_le hj h.size) (fun h2 => hn (ho j h2 hj))).trans (h.block j hj hn)⟩
theorem Turned.of_below {ok : Nat → Prop} {w w1 : World} (h : Below w.heap.size w w1) : Turned ok w w1 := ⟨h.os, h.tape, h.output, h.size, fun k hk _ => h.block k hk⟩
theorem Turned.set {ok : Nat → Prop} {w w1 : World} (h : Turned ok w w1) (g j : Nat) (u : Value) (hg : ok g) : Turned ok w (w1.setCell ⟨g, j, none⟩ u) :=
  ⟨h.os, h.tape, h.output, by simpa [World.setCell] using h.size, fun k hk hn => (Below.heap_setCell w1 ⟨g, j, none⟩ u k (fun e => hn (by simp only at e; rw [e]; exact hg))).trans (h.block k hk hn)⟩
theorem Turned.below {ok : Nat → Prop} {w0 w w1 : World} {B : Nat} (h : Turned ok w w1) (hB : Below B w0 w) (hb : B ≤ w.heap.size) (ho : ∀ k, ok k → B ≤ k) : Below B w0 w1 :=
  ⟨h.os.trans hB.os, h.tape.trans hB.tape, h.output.trans hB.output, Nat.le_trans hB.size h.size, fun k hk => (h.block k (Nat.lt_of_lt_of_le hk hb) (fun h2 => by have := ho k h2; omega)).trans (hB.block k hk)⟩
theorem bk_mem {B : Nat} {s : List KN} {ad : List Nat} {w : World} (h : Held B s ad w) {i : Nat} (hi : i < s.length) : bk ad i ∈ ad := by
  have hi' : i < ad.length := by rw [h.len]; exact hi
  unfold bk
  rw [List.getD_eq_getElem?_getD, List.getElem?_eq_getElem hi']
  exact List.getElem_mem hi'
def setlk (s : List KN) (i : Nat) (n : KN) (j : Nat) : List KN := s.set i { n with lk := some j }
theorem Held.setlk {B : Nat} {s : List KN} {ad : List Nat} {w : World} (h : Held B s ad w) {i j : Nat} {n : KN} (hn : s[i]? = some n) (hj : j < s.length) :
    Held B (setlk s i n j) ad (w.setCell ⟨bk ad i, 0, none⟩ (pk ad j)) := by
  have hi : i < s.length := (List.getElem?_eq_some_iff.1 hn).1
  refine ⟨by unfold I.setlk; rw [List.length_set]; exact h.len, h.nodup, h.ge, fun k m hm => ?_, fun k m hm => ?_⟩
  · unfold I.setlk at hm
    rw [List.getElem?_set] at hm
    by_cases hik : i = k
    · subst hik
      rw [if_pos rfl, if_pos hi] at hm
      injection hm with hm
      subst hm
      exact blk_put (cs' := kcells ad { n with lk := some j }) (h.cell i n hn) 0 (pk ad j) rfl
    · rw [if_neg hik] at hm
      have hk : k < s.length := (List.getElem?_eq_some_iff.1 hm).1
      exact blk_far (p := ⟨bk ad i, 0, none⟩) (h.cell k m hm) (fun e => hik ((h.inj hi hk).1 e.symm)) _
  · unfold I.setlk at hm ⊢
    rw [List.length_set]
    rw [List.getElem?_set] at hm
    by_cases hik : i = k
    · subst hik
      rw [if_pos rfl, if_pos hi] at hm
      injection hm with hm
      subst hm
      have := h.ok i n hn
      exact ⟨fun q hq => by injection hq with hq; omega, this.2.1, this.2.2⟩
    · rw [if_neg hik] at hm
      exact h.ok k m hm
/-- Two kinds are made the same, if they can be. -/
def fjoin : Nat → List KN → Nat → Nat → Option (Bool × List KN)
  | 0, _, _, _ => none
  | f + 1, s, a, b => match fend s f a with
    | none => none
    | some a => match fend s f b with
      | none => none
      | some b => if a = b then some (true, s) else match s[a]? with
        | none => none
        | some x => match s[b]? with
          | none => none
          | some y => if x.bs = false ∧ x.fr = none then (match fwithin s f a b with
              | none => none
              | some true => some (false, s)
              | some false => some (true, setlk s a x b))
            else if y.bs = false ∧ y.fr = none then fjoin f s b a
            else if x.bs = true ∨ y.bs = true then some (x.bs && y.bs, s)
            else match x.fr with
              | none => none
              | some xf => match y.fr with
                | none => none
                | some yf => match fjoin f s xf yf with
                  | none => none
                  | some (false, s1) => some (false, s1)
                  | some (true, s1) => match s1[a]? with
                    | none => none
                    | some x1 => match s1[b]? with
                      | none => none
                      | some y1 => match x1.tk with
                        | none => none
                        | some xt => match y1.tk with
                          | none => none
                          | some yt => fjoin f s1 xt yt
def shp (n : KN) : Bool × Option Nat × Option Nat := (n.bs, n.fr, n.tk)
theorem setlk_shape {s : List KN} {i j : Nat} {n : KN} (hn : s[i]? = some n) (k : Nat) : ((setlk s i n j)[k]?).map shp = (s[k]?).map shp := by
  have hi : i < s.length := (List.getElem?_eq_some_iff.1 hn).1
  unfold setlk
  rw [List.getElem?_set]
  by_cases hik : i = k
  · subst hik
    rw [if_pos rfl, if_pos hi, hn]
    rfl
  · rw [if_neg hik]
theorem fjoin_shape : ∀ (f : Nat) (s : List KN) (a b : Nat) (r : Bool) (s' : List KN), fjoin f s a b = some (r, s') → ∀ (k : Nat), (s'[k]?).map shp = (s[k]?).map shp
  | 0, s, a, b, r, s', h, k => by simp [fjoin] at h
  | f + 1, s, a, b, r, s', h, k => by
    unfold fjoin at h
    repeat' (split at h)
    all_goals first
      | (cases h; done)
      | (injection h with h; injection h with h1 h2; subst h2; rfl)
      | (injection h with h; injection h with h1 h2; subst h2; exact setlk_shape (by assumption) k)
      | (injection h with h; injection h with h1 h2; subst h2; exact fjoin_shape f _ _ _ _ _ (by assumption) k)
      | exact fjoin_shape f _ _ _ _ _ h k
      | exact (fjoin_shape f _ _ _ _ _ h k).trans (fjoin_shape f _ _ _ _ _ (by assumption) k)
theorem shape_fr {s s1 : List KN} {p : Nat} {x : KN} (h : (s1[p]?).map shp = (s[p]?).map shp) (hx : s[p]? = some x) : ∃ x1, s1[p]? = some x1 ∧ x1.fr = x.fr ∧ x1.tk = x.tk := by
  rw [hx] at h
  cases h1 : s1[p]? with
  | none => rw [h1] at h; cases h
  | some x1 =>
    rw [h1] at h
    injection h with h
    injection h with _ h
    injection h with h2 h3
    exact ⟨x1, rfl, h2, h3⟩
theorem Held.heap {B : Nat} {s : List KN} {ad : List Nat} {w w1 : World} (h : Held B s ad w) (e : w1.heap = w.heap) : Held B s ad w1 :=
  ⟨h.len, h.nodup, h.ge, fun i n hn => by rw [e]; exact h.cell i n hn, h.ok⟩
theorem cell_fr {B : Nat} {s : List KN} {ad : List Nat} {w : World} {i j : Nat} {n : KN} (h : Held B s ad w) (hn : s[i]? = some n) (hf : n.fr = some j) : w.cell? ⟨bk ad i, 2, none⟩ = some (pk ad j) := by
  have := (blk_cell (h.cell i n hn) 2).trans rfl
  rw [this]
  show some (pv ad n.fr) = _
  rw [hf]
  rfl
theorem cell_tk {B : Nat} {s : List KN} {ad : List Nat} {w : World} {i j : Nat} {n : KN} (h : Held B s ad w) (hn : s[i]? = some n) (hf : n.tk = some j) : w.cell? ⟨bk ad i, 3, none⟩ = some (pk ad j) := by
  have := (blk_cell (h.cell i n hn) 3).trans rfl
  rw [this]
  show some (pv ad n.tk) = _
  rw [hf]
  rfl
set_option maxHeartbeats 8000000 in
theorem join_calls (B : Nat) (ad : List Nat) (f : Nat) : ∀ (s : List KN) (a b : Nat) (r : Bool) (s' : List KN) (w : World) (hH : Held B s ad w) (h : fjoin f s a b = some (r, s')),
    Calls Try.prog 39 #[pk ad a, pk ad b] w fun e w' => e = .returned (.bool r) ∧ Held B s' ad w' ∧ Turned (fun k => k ∈ ad) w w' := by
  induction f using Nat.strongRecOn with
  | _ f ih =>
  intro s a b r s' w hH h
  have hu74 := Try.underlying74
  cases f with
  | zero => exact absurd h (by simp [fjoin])
  | succ f =>
  unfold fjoin at h
  cases ha : fend s f a with
  | none => rw [ha] at h; cases h
  | some p =>
  rw [ha] at h
  simp only at h
  cases hb : fend s f b with
  | none => rw [hb] at h; cases h
  | some q =>
  rw [hb] at h
  simp only at h
  have HH := Aside0.mk hH
  have HA := Aside0.mk ha
  have HB := Aside0.mk hb
  have hp := fend_lt ha
  have hq := fend_lt hb
  have IH := Aside0.mk ih
  have hpe := peq_run hH hp hq
  clear ih ha hb
  go_enter Try.func39, Try.ntmps39
  go_wp2_with fail
  (with_reducible refine (kend_calls B s ad f a p w HH.out HA.out).mono ?_)
  rintro e w1 ⟨rfl, rfl⟩
  go_wp2_with fail
  (with_reducible refine (kend_calls B s ad f b q w1 HH.out HB.out).mono ?_)
  rintro e w2 ⟨rfl, rfl⟩
  by_cases hpq : p = q
  · rw [if_pos hpq] at h
    injection h with h
    injection h with h1 h2
    subst h1 h2
    rw [decide_eq_true hpq] at hpe
    clear hpq hH
    go_wp2_with fail
    go_ret
    exact ⟨rfl, HH.out, Turned.refl _ _⟩
  rw [if_neg hpq] at h
  rw [decide_eq_false hpq] at hpe
  clear hpq
  cases hx : s[p]? with
  | none => rw [hx] at h; cases h
  | some x =>
  cases hy : s[q]? with
  | none => rw [hx, hy] at h; cases h
  | some y =>
  rw [hx, hy] at h
  simp only at h
  have hcx := hH.cell p x hx
  have hcy := hH.cell q y hy
  have cx0 : w2.cell? ⟨bk ad p, 0, none⟩ = some (pv ad x.lk) := (blk_cell hcx 0).trans rfl
  have cx1 : w2.cell? ⟨bk ad p, 1, none⟩ = some (.bool x.bs) := (blk_cell hcx 1).trans rfl
  have cx2 : w2.cell? ⟨bk ad p, 2, none⟩ = some (pv ad x.fr) := (blk_cell hcx 2).trans rfl
  have fx0 := blk_frozen hcx 0
  have cy1 : w2.cell? ⟨bk ad q, 1, none⟩ = some (.bool y.bs) := (blk_cell hcy 1).trans rfl
  have cy2 : w2.cell? ⟨bk ad q, 2, none⟩ = some (pv ad y.fr) := (blk_cell hcy 2).trans rfl
  have Hx := Aside0.mk hx
  have Hy := Aside0.mk hy
  clear hcx hcy hx hy hH
  by_cases hox : x.bs = false ∧ x.fr = none
  · rw [if_pos hox] at h
    obtain ⟨ho1, ho2⟩ := hox
    rw [ho1] at cx1
    rw [ho2] at cx2
    simp only [pv] at cx2
    cases hw : fwithin s f p q with
    | none => rw [hw] at h; cases h
    | some bw =>
    rw [hw] at h
    have HW := Aside0.mk hw
    have hpa := Aside0.mk hp
    clear hw ho1 ho2 cy1 cy2
    go_wp2_with fail
    (with_reducible refine (within_calls B s ad f p q bw w2 HH.out hp HW.out).mono ?_)
    rintro e w3 ⟨rfl, rfl⟩
    cases bw with
    | true =>
      injection h with h
      injection h with h1 h2
      subst h1 h2
      go_wp2_with fail
      go_ret
      exact ⟨rfl, HH.out, Turned.refl _ _⟩
    | false =>
      injection h with h
      injection h with h1 h2
      subst h1 h2
      go_wp2_with fail
      go_ret
      exact ⟨rfl, Held.setlk HH.out Hx.out hq, Turned.set (Turned.refl _ _) _ _ _ (bk_mem HH.out hp)⟩
  · rw [if_neg hox] at h
    have hxs : x.bs = true ∨ ∃ xf, x.bs = false ∧ x.fr = some xf := by
      cases hb : x.bs with
      | true => exact .inl rfl
      | false =>
        cases hf : x.fr with
        | none => exact absurd ⟨hb, hf⟩ hox
        | some xf => exact .inr ⟨xf, rfl, rfl⟩
    clear hox
    by_cases hoy : y.bs = false ∧ y.fr = none
    · rw [if_pos hoy] at h
      obtain ⟨ho1, ho2⟩ := hoy
      rw [ho1] at cy1
      rw [ho2] at cy2
      simp only [pv] at cy2
      have HJ := Aside0.mk h
      clear h ho1 ho2
      rcases hxs with hxb | ⟨xf, hxb, hxf⟩
      · rw [hxb] at cx1
        clear hxb
        go_wp2_with fail
        (with_reducible refine (IH.out f (Nat.lt_succ_self f) s q p r s' w2 HH.out HJ.out).mono ?_)
        rintro e w3 ⟨rfl, h3, t3⟩
        go_wp2_with fail
        go_ret
        exact ⟨rfl, h3, t3⟩
      · rw [hxb] at cx1
        rw [hxf] at cx2
        simp only [pv] at cx2
        clear hxb hxf
        go_wp2_with fail
        (with_reducible refine (IH.out f (Nat.lt_succ_self f) s q p r s' w2 HH.out HJ.out).mono ?_)
        rintro e w3 ⟨rfl, h3, t3⟩
        go_wp2_with fail
        go_ret
        exact ⟨rfl, h3, t3⟩
    rw [if_neg hoy] at h
    have hys : y.bs = true ∨ ∃ yf, y.bs = false ∧ y.fr = some yf := by
      cases hb : y.bs with
      | true => exact .inl rfl
      | false =>
        cases hf : y.fr with
        | none => exact absurd ⟨hb, hf⟩ hoy
        | some yf => exact .inr ⟨yf, rfl, rfl⟩
    clear hoy
    rcases hxs with hxb | ⟨xf, hxb, hxf⟩
    · rw [if_pos (.inl hxb), hxb, Bool.true_and] at h
      injection h with h
      injection h with h1 h2
      subst h2
      rw [hxb] at cx1
      clear hxb
      rcases hys with hyb | ⟨yf, hyb, hyf⟩
      · rw [hyb] at cy1 h1
        subst h1
        clear hyb
        go_wp2_with fail
        go_ret
        exact ⟨rfl, HH.out, Turned.refl _ _⟩
      · rw [hyb] at cy1 h1
        rw [hyf] at cy2
        simp only [pv] at cy2
        subst h1
        clear hyb hyf
        go_wp2_with fail
        go_ret
        exact ⟨rfl, HH.out, Turned.refl _ _⟩
    · rw [hxb] at cx1 h
      rw [hxf] at cx2
      simp only [pv] at cx2
      rcases hys with hyb | ⟨yf, hyb, hyf⟩
      · rw [if_pos (.inr hyb), hyb, Bool.false_and] at h
        injection h with h
        injection h with h1 h2
        subst h1 h2
        rw [hyb] at cy1
        clear hxb hxf hyb
        go_wp2_with fail
        go_ret
        exact ⟨rfl, HH.out, Turned.refl _ _⟩
      · rw [hyb] at cy1
        rw [if_neg (by simp [hyb])] at h
        rw [hyf] at cy2
        simp only [pv] at cy2
        rw [hxf, hyf] at h
        simp only at h
        cases hj : fjoin f s xf yf with
        | none => rw [hj] at h; cases h
        | some rs =>
        obtain ⟨r1, s1⟩ := rs
        rw [hj] at h
        obtain ⟨x1, hx1, hf1, ht1⟩ := shape_fr (fjoin_shape f s xf yf r1 s1 hj p) Hx.out
        obtain ⟨y1, hy1, gf1, gt1⟩ := shape_fr (fjoin_shape f s xf yf r1 s1 hj q) Hy.out
        have HJ := Aside0.mk hj
        have HX1 := Aside0.mk hx1
        have HY1 := Aside0.mk hy1
        have HF1 := Aside0.mk (hf1.trans hxf)
        have HG1 := Aside0.mk (gf1.trans hyf)
        have HH' := Aside0.mk h
        clear hxb hxf hyb hyf hj hx1 hy1 hf1 gf1 h
        go_wp2_with fail
        go_region_held3 (fun w' => w'.cell? ⟨bk ad p, 2, none⟩ = some (pk ad xf) ∧ w'.cell? ⟨bk ad q, 2, none⟩ = some (pk ad yf)) (go_keep)
          (first | (go_at_call 39; refine (IH.out f (Nat.lt_succ_self f) s xf yf r1 s1 w2.drew (Held.heap HH.out rfl) HJ.out).mono ?_; rintro e w3 ⟨rfl, h3, t3⟩; have k1 := cell_fr h3 HX1.out HF1.out; have k2 := cell_fr h3 HY1.out HG1.out))
        have T3 := Aside0.mk (Turned.trans (Turned.of_below (ok := fun k => k ∈ ad) (below_drew (Below.refl w2.heap.size w2))) t3 (fun k hk _ => hk))
        have H3 := Aside0.mk h3
        have h := HH'.out
        clear HH' h3 t3 k1 k2
        cases r1 with
        | false =>
          injection h with h
          injection h with h1 h2
          subst h1 h2
          go_wp2_with fail
          go_ret
          exact ⟨rfl, H3.out, T3.out⟩
        | true =>
          simp only [HX1.out, HY1.out] at h
          cases hxt : x1.tk with
          | none => rw [hxt] at h; cases h
          | some xt =>
          cases hyt : y1.tk with
          | none => rw [hxt, hyt] at h; cases h
          | some yt =>
          rw [hxt, hyt] at h
          simp only at h
          have HT := Aside0.mk hxt
          have HU := Aside0.mk hyt
          have HF := Aside0.mk h
          have k1 := cell_tk H3.out HX1.out hxt
          have k2 := cell_tk H3.out HY1.out hyt
          clear h hxt hyt cx0 cx1 cx2 fx0 cy1 cy2 hpe
          go_wp2_with fail
          obtain ⟨x2, hx2, _, gx2⟩ := shape_fr (fjoin_shape f s1 xt yt r s' HF.out p) HX1.out
          obtain ⟨y2, hy2, _, gy2⟩ := shape_fr (fjoin_shape f s1 xt yt r s' HF.out q) HY1.out
          have HX2 := Aside0.mk hx2
          have HY2 := Aside0.mk hy2
          have HT2 := Aside0.mk (gx2.trans HT.out)
          have HU2 := Aside0.mk (gy2.trans HU.out)
          clear hx2 hy2 gx2 gy2
          go_region_held3 (fun w' => w'.cell? ⟨bk ad p, 3, none⟩ = some (pk ad xt) ∧ w'.cell? ⟨bk ad q, 3, none⟩ = some (pk ad yt)) (go_keep)
            (first | (go_at_call 39; refine (IH.out f (Nat.lt_succ_self f) s1 xt yt r s' w3.drew (Held.heap H3.out rfl) HF.out).mono ?_; rintro e w4 ⟨rfl, h4, t4⟩; have k3 := cell_tk h4 HX2.out HT2.out; have k4 := cell_tk h4 HY2.out HU2.out))
          have T4 := Aside0.mk (Turned.trans T3.out (Turned.trans (Turned.of_below (ok := fun k => k ∈ ad) (below_drew (Below.refl w3.heap.size w3))) t4 (fun k hk _ => hk)) (fun k hk _ => hk))
          have H4 := Aside0.mk h4
          clear h4 t4 k1 k2 k3 k4
          go_wp2_with fail
          go_ret
          exact ⟨rfl, H4.out, T4.out⟩
end Go.Proofs.Ytfhgoebgnilfaaa.I
namespace Go.Proofs.Ytfhgoebgnilfaaa.I
open Go.RowKit Go.Proofs.YtfhgoebgnilfaaaW.PrintWords Go.Proofs.YtfhgoebgnilfaaaW.PrintLast Go.Proofs.YtfhgoebgnilfaaaW.PrintMore
attribute [local go_sem] max2_int min2_int max_two min_two max_three min_three max_four min_four
set_option linter.unusedVariables false
set_option maxRecDepth 100000
set_option linter.unusedSimpArgs false
theorem bk_app {ad e : List Nat} {i : Nat} (h : i < ad.length) : bk (ad ++ e) i = bk ad i := by
  unfold bk
  rw [List.getD_eq_getElem?_getD, List.getD_eq_getElem?_getD, List.getElem?_append_left h]
theorem pv_app {ad e : List Nat} {o : Option Nat} (h : inS ad.length o) : pv (ad ++ e) o = pv ad o := by
  cases o with
  | none => rfl
  | some j => show pk (ad ++ e) j = pk ad j; unfold pk; rw [bk_app (h j rfl)]
/-- A new kind is made. -/
theorem Held.push {B : Nat} {s : List KN} {ad : List Nat} {w w1 : World} {g : Nat} {n : KN} (h : Held B s ad w) (hb : Below w.heap.size w w1) (hg : w.heap.size ≤ g) (hB : B ≤ w.heap.size) (hn : inS s.length n.lk ∧ inS s.length n.fr ∧ inS s.length n.tk)
    (hc : w1.heap[g]? = some (.cells (kcells ad n) 74 (0, 0))) : Held B (s ++ [n]) (ad ++ [g]) w1 := by
  have hl := h.len
  have up : ∀ o, inS s.length o → inS (s ++ [n]).length o := fun o ho j hj => by rw [List.length_append]; have := ho j hj; simp only [List.length_cons, List.length_nil]; omega
  refine ⟨by rw [List.length_append, List.length_append, hl]; rfl, ?_, ?_, ?_, ?_⟩
  · rw [List.nodup_append]
    refine ⟨h.nodup, by simp, ?_⟩
    intro a ha b hb' e
    rw [List.mem_singleton] at hb'
    subst hb' e
    obtain ⟨i, hi, e⟩ := List.getElem_of_mem ha
    obtain ⟨m, _, hm⟩ := h.at (i := i) (by rw [← hl]; exact hi)
    have := blk_lt hm
    unfold bk at this
    rw [List.getD_eq_getElem?_getD, List.getElem?_eq_getElem hi] at this
    simp only [Option.getD_some] at this
    omega
  · intro b hb'
    rcases List.mem_append.1 hb' with h1 | h1
    · exact h.ge b h1
    · rw [List.mem_singleton] at h1; omega
  · intro i m hm
    by_cases hi : i < s.length
    · rw [List.getElem?_append_left hi] at hm
      have ho := h.ok i m hm
      rw [← hl] at ho
      rw [bk_app (by omega)]
      have e : kcells (ad ++ [g]) m = kcells ad m := by unfold kcells; rw [pv_app ho.1, pv_app ho.2.1, pv_app ho.2.2]
      rw [e]
      exact blk_below (h.cell i m hm) hb
    · have hil : i < (s ++ [n]).length := (List.getElem?_eq_some_iff.1 hm).1
      rw [List.length_append] at hil
      simp only [List.length_cons, List.length_nil] at hil
      have hie : i = s.length := by omega
      subst hie
      rw [List.getElem?_append_right (Nat.le_refl _), Nat.sub_self] at hm
      injection hm with hm
      subst hm
      have e : bk (ad ++ [g]) s.length = g := by
        unfold bk
        rw [List.getD_eq_getElem?_getD, ← hl, List.getElem?_append_right (Nat.le_refl _), Nat.sub_self]
        rfl
      rw [e]
      rw [← hl] at hn
      have e2 : kcells (ad ++ [g]) n = kcells ad n := by unfold kcells; rw [pv_app hn.1, pv_app hn.2.1, pv_app hn.2.2]
      rw [e2]
      exact hc
  · intro i m hm
    by_cases hi : i < s.length
    · rw [List.getElem?_append_left hi] at hm
      have ho := h.ok i m hm
      exact ⟨up _ ho.1, up _ ho.2.1, up _ ho.2.2⟩
    · have hil : i < (s ++ [n]).length := (List.getElem?_eq_some_iff.1 hm).1
      rw [List.length_append] at hil
      simp only [List.length_cons, List.length_nil] at hil
      have hie : i = s.length := by omega
      subst hie
      rw [List.getElem?_append_right (Nat.le_refl _), Nat.sub_self] at hm
      injection hm with hm
      subst hm
      exact ⟨up _ hn.1, up _ hn.2.1, up _ hn.2.2⟩
theorem bk_new {ad : List Nat} {s : List KN} {g : Nat} (hl : ad.length = s.length) : bk (ad ++ [g]) s.length = g := by
  unfold bk
  rw [List.getD_eq_getElem?_getD, ← hl, List.getElem?_append_right (Nat.le_refl _), Nat.sub_self]
  rfl
/-- A row of pointers to kinds is read. -/
def Ptrs (ad : List Nat) (w : World) (A : Option Addr) (ps : List Nat) : Prop :=
  ps.length ≤ 9223372036854775807 ∧ (∀ p, p ∈ ps → p < ad.length) ∧ (0 < ps.length → ∃ adr, A = some adr ∧ ∀ (j : Nat) (p : Nat), ps[j]? = some p → w.cell? (adr.add j) = some (pk ad p))
/-- Arrows from kinds, the last one first. -/
def farrowR : List KN → Nat → List Nat → Nat × List KN
  | s, k, [] => (k, s)
  | s, k, p :: rest => farrowR (s ++ [⟨none, false, some p, some k⟩]) s.length rest
def farrow (s : List KN) (o : Nat) (ps : List Nat) : Nat × List KN := farrowR s o ps.reverse
set_option maxHeartbeats 4000000 in
theorem arrow_calls (B : Nat) (s : List KN) (ad : List Nat) (o : Nat) (A : Option Addr) (c : Nat) (ps : List Nat) (gf : Nat) (v1 v2 v3 : Value) (w : World) (hH : Held B s ad w) (ho : o < s.length) (hB : B ≤ w.heap.size) (hP : Ptrs ad w A ps)
    (hf : w.heap[gf]? = some (.cells #[pk ad o, v1, v2, v3] 77 (0, 0))) :
    Calls Try.prog 37 #[.pointer (some ⟨gf, 0, none⟩), .slice A ps.length c] w fun e w' => ∃ ad', e = .returned (pk (ad ++ ad') (farrow s o ps).1) ∧ Held B (farrow s o ps).2 (ad ++ ad') w' ∧ Below w.heap.size w w' ∧ (farrow s o ps).1 < (farrow s o ps).2.length ∧ ∀ b, b ∈ ad' → w.heap.size ≤ b := by
  have hu74 := Try.underlying74
  have hu77 := Try.underlying77
  have hlen := hP.1
  have HH := Aside0.mk hH
  have HO := Aside0.mk ho
  have HBB := Aside0.mk hB
  have HP := Aside0.mk hP
  have hc0 : w.cell? ⟨gf, 0, none⟩ = some (pk ad o) := (blk_cell hf 0).trans rfl
  have HL := Aside0.mk hH.len
  clear hH ho hB hP hf
  go_enter Try.func37, Try.ntmps37
  go_wp2_with fail
  go_loopg [5, 6] ps.length (fun kq v5 v6 wr => ∃ (m : Nat) (s1 : List KN) (e1 : List Nat) (k : Nat), v5 = pk (ad ++ e1) k ∧ v6 = .int .i64 ((m : Int) - 1) ∧ Aside0 (kq = m ∧ m ≤ ps.length) ∧ Aside0 (farrowR s1 k (ps.take m).reverse = farrow s o ps) ∧ Aside0 (Held B s1 (ad ++ e1) wr) ∧ Aside0 (k < s1.length ∧ s.length ≤ s1.length) ∧ Aside0 (Below w.heap.size w wr) ∧ Aside0 (∀ b, b ∈ e1 → w.heap.size ≤ b))
  case atStart => exact ⟨ps.length, s, [], o, by rw [List.append_nil], by go_num, ⟨rfl, Nat.le_refl _⟩, ⟨by rw [List.take_length]; rfl⟩, ⟨by rw [List.append_nil]; exact HH.out⟩, ⟨HO.out, Nat.le_refl _⟩, ⟨Below.refl _ _⟩, ⟨by intro b hb; cases hb⟩⟩
  case round =>
    obtain ⟨m, s1, e1, k, rfl, rfl, Hm, HF, H1, HK, HB, HN1⟩ := hrel
    cases m with
    | zero =>
      have hj : decide ((0 : Int) ≤ ((0 : Nat) : Int) - 1) = false := by decide
      have e := HF.out
      rw [List.take_zero, List.reverse_nil, farrowR] at e
      have e' := Aside0.mk e
      clear e
      go_wp2_with fail
      go_ret
      exact ⟨e1, by rw [← e'.out]; rfl, by rw [← e'.out]; exact H1.out, HB.out, by rw [← e'.out]; exact HK.out.1, HN1.out⟩
    | succ m =>
      have hmle := Hm.out.2
      have hmi : m < ps.length := by omega
      have hpm := Aside0.mk (List.getElem?_eq_getElem hmi)
      have htk : (ps.take (m + 1)).reverse = ps[m] :: (ps.take m).reverse := by
        rw [List.take_add_one, List.getElem?_eq_getElem hmi]
        simp
      have HT := Aside0.mk htk
      have hpl := HP.out.2.1 ps[m] (List.getElem_mem hmi)
      obtain ⟨adr, hadr, hcells⟩ := HP.out.2.2 (by omega)
      cases hadr
      have hx1 := hcells m ps[m] hpm.out
      replace hx1 := (HB.out.cell (World.block_lt_of_cell? w _ hx1)).trans hx1
      have hfo := (HB.out.cell (World.block_lt_of_cell? w _ hc0)).trans hc0
      generalize hp : ps[m] = p at *
      have hml := HL.out
      have hppe : pk (ad ++ e1) p = pk ad p := by unfold pk; rw [bk_app hpl]
      have Hpp := Aside0.mk hppe
      have hj : decide ((0 : Int) ≤ (m : Int)) = true := decide_eq_true (by omega)
      have p1 : (0 ≤ (m : Int)) = True := eq_true (by omega)
      have p2 : ((m : Int) < (ps.length : Int)) = True := eq_true (by omega)
      have p3 : (m < ps.length) = True := eq_true hmi
      rw [show (((m + 1 : Nat) : Int) - 1) = (m : Int) from by omega]
      clear hcells htk hp hppe hpm
      go_wp2_with (
        (with_reducible refine gate_dst (N := 24) rfl ?_)
        refine box_event ?hg (N := 24) ?hd (cs := #[.pointer none, .bool false, pk ad p, pk (ad ++ e1) k]) (t := 74) ?hr ?_
        (case hd => rfl)
        (case hg => rfl)
        (case hr => first | (go_simp; done) | (go_simp; rfl))
        intro g hg w3 hbox hb3
        have hsz := HB.out.size
        have H3 := Aside0.mk (Held.push (n := ⟨none, false, some p, some k⟩) H1.out hb3 (Nat.le_of_eq hg.symm) (Nat.le_trans HBB.out hsz) ⟨(by intro j hj; cases hj), (by intro j hj; injection hj with hj; have := HK.out.2; omega), (by intro j hj; injection hj with hj; have := HK.out.1; omega)⟩ (by rw [hbox]; unfold kcells; show _ = some (Obj.cells #[.pointer none, .bool false, pk (ad ++ e1) p, pk (ad ++ e1) k] 74 (0, 0)); rw [Hpp.out]))
        have HB3 := Aside0.mk (below_step HB.out hb3)
        have HN3 := Aside0.mk (show ∀ b, b ∈ e1 ++ [g] → w.heap.size ≤ b from fun b hb => by
          rcases List.mem_append.1 hb with hb | hb
          · exact HN1.out b hb
          · rw [List.mem_singleton] at hb; omega)
        have hbn := Aside0.mk (show bk (ad ++ e1 ++ [g]) s1.length = g from bk_new H1.out.len)
        clear hbox hb3 hsz hg)
      have hgk := Hm.out.1
      go_roundg m
      case measure => omega
      case rel => exact ⟨m, s1 ++ [⟨none, false, some p, some k⟩], e1 ++ [g], s1.length, by rw [← List.append_assoc]; unfold pk; rw [hbn.out], by go_num, ⟨rfl, by omega⟩, ⟨by rw [← HF.out, HT.out, farrowR]⟩, ⟨by rw [← List.append_assoc]; exact H3.out⟩, ⟨by rw [List.length_append]; simp, by rw [List.length_append]; have := HK.out.2; omega⟩, HB3, HN3⟩
end Go.Proofs.Ytfhgoebgnilfaaa.I
