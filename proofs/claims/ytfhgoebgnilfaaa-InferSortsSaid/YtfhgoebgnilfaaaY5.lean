/- Texts of this session's proof, laid together: I7, IT1, IT2, IT3, IT4, IT5, IT6, IT7, IS1. -/
import Derived.Deep.RegionLaw
import Derived.Test.YtfhgoebgnilfaaaY4
namespace Go.Proofs.Ytfhgoebgnilfaaa.I
open Go.RowKit Go.Proofs.YtfhgoebgnilfaaaW.PrintWords Go.Proofs.YtfhgoebgnilfaaaW.PrintLast Go.Proofs.YtfhgoebgnilfaaaW.PrintMore
attribute [local go_sem] max2_int min2_int max_two min_two max_three min_three max_four min_four   -- for this text's walks alone
set_option linter.unusedVariables false
set_option linter.unusedSimpArgs false
mutual
def virgationref01_Equal.l0 : Nat → Int → Int → List (S41) → List (S41) → Option (Bool)
  | 0, _, _, _, _ => none
  | k + 1, x15, x16, x187000, x188000 => if x16 < x15 then (if 0 ≤ x16 then (if x16 < (x187000.length : Int) then (if x16 < (x188000.length : Int) then ((virgationref01_Equal.f k ((rd_T41 x187000 x16).f0) ((rd_T41 x188000 x16).f0)).bind fun t190 => (if t190 = true then (virgationref01_Equal.l0 k x15 (wrap64 (x16 + 1)) x187000 x188000) else (some false))) else (none)) else (none)) else (none)) else (some true)
def virgationref01_Equal.f : Nat → List (S41) → List (S41) → Option (Bool)
  | 0, _, _ => none
  | k + 1, l0_0, l1_0 => if (l0_0.length : Int) = (l1_0.length : Int) then (virgationref01_Equal.l0 k (l0_0.length : Int) 0 l0_0 l1_0) else (some false)
end
def virgationref01_Equal.T6 : Bool × List (List Nat × List Nat) := (true, [([], []), ([0], [0]), ([], []), ([1, 2], [1, 2]), ([3], [3]), ([], []), ([5], [5]), ([], []), ([6, 7], [6, 7]), ([8], [8]), ([4, 9], [4, 9]), ([10], [10])])
def virgationref01_Equal.B6 : List Nat := [0, 1, 0, 7, 15, 0, 32, 0, 224, 480, 1023, 2047]
theorem virgationref01_Equal.tab6 : rtab .any (opsOf Try.f64 6) = virgationref01_Equal.T6 := by kernel_rfl
theorem virgationref01_Equal.bits6 : waitsOk virgationref01_Equal.T6.2 virgationref01_Equal.B6 = true := by kernel_rfl
set_option maxHeartbeats 8000000 in
set_option maxRecDepth 100000 in
theorem virgationref01_Equal.calls (k : Nat) : ∀ (A0_0 : Option Addr) (c0_0 : Nat) (l0_0 : List (S41)) (A1_0 : Option Addr) (c1_0 : Nat) (l1_0 : List (S41)) (r : Bool) (w : World) (hr0_0 : Kd.C k41 w A0_0 l0_0.length l0_0) (hc0_0 : l0_0.length ≤ c0_0) (hr1_0 : Kd.C k41 w A1_0 l1_0.length l1_0) (hc1_0 : l1_0.length ≤ c1_0) (h : virgationref01_Equal.f k l0_0 l1_0 = some r),
    Calls Try.prog 64 #[.agg #[.slice A0_0 l0_0.length c0_0], .agg #[.slice A1_0 l1_0.length c1_0]] w fun e w' => e = .returned (.bool r) ∧ Below w.heap.size w w' := by
  induction k using Nat.strongRecOn with
  | _ k ih =>
  intro A0_0 c0_0 l0_0 A1_0 c1_0 l1_0 r w hr0_0 hc0_0 hr1_0 hc1_0 h
  cases k with
  | zero => exact absurd h (by simp [virgationref01_Equal.f])
  | succ k =>
  simp only [virgationref01_Equal.f] at h
  have hu41 := Try.underlying41
  have HR0_0 := Aside0.mk hr0_0
  have HC0_0 := Aside0.mk hc0_0
  clear hr0_0 hc0_0
  have HR1_0 := Aside0.mk hr1_0
  have HC1_0 := Aside0.mk hc1_0
  clear hr1_0 hc1_0
  have HB := Aside0.mk (Below.refl w.heap.size w)
  have H : (if (l0_0.length : Int) = (l1_0.length : Int) then (virgationref01_Equal.l0 k (l0_0.length : Int) 0 l0_0 l1_0) else (some false)) = some r := h
  clear h
  by_cases c3 : (l0_0.length : Int) = (l1_0.length : Int)
  · rw [if_pos c3] at H
    have c3b0 : ((l0_0.length : Int) == (l1_0.length : Int)) = true := beq_iff_eq.mpr c3
    have c3b1 : ((l0_0.length : Int) != (l1_0.length : Int)) = false := bne_eq_false_iff_eq.mpr c3
    have c3b2 : (l0_0.length == l1_0.length) = true := by first | simpa using c3 | (simp at c3 ⊢; omega)
    clear c3
    have H' := Aside0.mk H
    clear H
    go_enter Try.func64, Try.ntmps64
    go_wp2_with (first | ((with_reducible refine gate_dst (N := 2) rfl ?_); refine box_event ?hg (N := 2) ?hd (cs := #[.slice A0_0 l0_0.length c0_0]) (t := 41) ?hr ?_; (case hd => rfl); (case hg => rfl); (case hr => first | (go_simp; done) | (go_simp; rfl)); intro gb186 hg w4 hbox hb; have n0_ := Aside0.mk (below_step (by repeat (first | (with_reducible first | exact HB.out | apply below_alloc | apply pw_below_drewN | apply below_drew1) | exact HB.out)) hb); have n1_ := Aside0.mk (hbox); have n2_ := Aside0.mk ((by rw [hg]; exact (below_size (by repeat (first | (with_reducible first | exact HB.out | apply below_alloc | apply pw_below_drewN | apply below_drew1) | exact HB.out))) : w.heap.size ≤ gb186)); have n3_ := Aside0.mk ((by rw [hg]; exact (below_size (by repeat (first | (with_reducible first | exact HB.out | apply below_alloc | apply pw_below_drewN | apply below_drew1) | exact HB.out))) : w.heap.size ≤ gb186)); clear HB; have HB := n0_; have BK186 := n1_; have GW186 := n2_; have GE186 := n3_; clear n0_ n1_ n2_ n3_; clear hb hbox hg) | ((with_reducible refine gate_dst (N := 3) rfl ?_); refine box_event ?hg (N := 3) ?hd (cs := #[.slice A1_0 l1_0.length c1_0]) (t := 41) ?hr ?_; (case hd => rfl); (case hg => rfl); (case hr => first | (go_simp; done) | (go_simp; rfl)); intro gb187 hg w5 hbox hb; have n0_ := Aside0.mk (blk_below (g := gb186) (o := .cells #[.slice A0_0 l0_0.length c0_0] 41 (0, 0)) (by (with_reducible repeat (first | refine blk_drewN ?_ _ | refine blk_drew ?_ | refine blk_alloc ?_ _)); exact BK186.out) hb); have n1_ := Aside0.mk (below_step (by repeat (first | (with_reducible first | exact HB.out | apply below_alloc | apply pw_below_drewN | apply below_drew1 | refine below_set ?_ GE186.out) | exact HB.out)) hb); have n2_ := Aside0.mk (hbox); have n3_ := Aside0.mk ((by rw [hg]; exact (below_size (by repeat (first | (with_reducible first | exact HB.out | apply below_alloc | apply pw_below_drewN | apply below_drew1 | refine below_set ?_ GE186.out) | exact HB.out))) : w.heap.size ≤ gb187)); have n4_ := Aside0.mk ((by rw [hg]; exact (below_size (by repeat (first | (with_reducible first | exact HB.out | apply below_alloc | apply pw_below_drewN | apply below_drew1 | refine below_set ?_ GE186.out) | exact HB.out))) : w.heap.size ≤ gb187)); have n5_ := Aside0.mk ((by rw [hg]; exact Nat.ne_of_lt (blk_lt (g := gb186) (o := .cells #[.slice A0_0 l0_0.length c0_0] 41 (0, 0)) (by (with_reducible repeat (first | refine blk_drewN ?_ _ | refine blk_drew ?_ | refine blk_alloc ?_ _)); exact BK186.out)) : gb186 ≠ gb187)); have n6_ := Aside0.mk ((by rw [hg]; exact Nat.ne_of_gt (blk_lt (g := gb186) (o := .cells #[.slice A0_0 l0_0.length c0_0] 41 (0, 0)) (by (with_reducible repeat (first | refine blk_drewN ?_ _ | refine blk_drew ?_ | refine blk_alloc ?_ _)); exact BK186.out)) : gb187 ≠ gb186)); clear BK186; clear HB; have BK186 := n0_; have HB := n1_; have BK187 := n2_; have GW187 := n3_; have GE187 := n4_; have NB186_187 := n5_; have NB187_186 := n6_; clear n0_ n1_ n2_ n3_ n4_ n5_ n6_; clear hb hbox hg; have hnb6 := NB186_187.out; have hnc6 := NB187_186.out; have hcz7_0 : w5.cell? ⟨gb186, 0, none⟩ = some (.slice A0_0 l0_0.length c0_0) := (blk_cell BK186.out 0).trans rfl; have hfz7_0 := blk_frozen BK186.out 0; have hcz8_0 : w5.cell? ⟨gb187, 0, none⟩ = some (.slice A1_0 l1_0.length c1_0) := (blk_cell BK187.out 0).trans rfl; have hfz8_0 := blk_frozen BK187.out 0))
    go_loopg [16] k (fun kq v16 w' => ∃ (x16_1 : Int), v16 = .int .i64 x16_1 ∧ Aside0 (virgationref01_Equal.l0 kq (l0_0.length : Int) x16_1 l0_0 l1_0 = some r) ∧ Aside0 (kq ≤ k) ∧ Aside0 (w'.heap[gb186]? = some (.cells #[(.slice A0_0 l0_0.length c0_0)] 41 (0, 0))) ∧ Aside0 (w'.heap[gb187]? = some (.cells #[(.slice A1_0 l1_0.length c1_0)] 41 (0, 0))) ∧ Aside0 (Below w.heap.size w w'))
    case atStart => exact ⟨(0), (by first | rfl | (simp; done) | (simp [*]; done)), H', ⟨Nat.le_refl _⟩, ⟨by (with_reducible repeat (first | refine blk_drewN ?_ _ | refine blk_drew ?_ | refine blk_alloc ?_ _)); exact BK186.out⟩, ⟨by (with_reducible repeat (first | refine blk_drewN ?_ _ | refine blk_drew ?_ | refine blk_alloc ?_ _)); exact BK187.out⟩, ⟨by repeat (first | (with_reducible first | exact HB.out | apply below_alloc | apply pw_below_drewN | apply below_drew1 | refine below_set ?_ GE186.out | refine below_set ?_ GE187.out) | exact HB.out)⟩⟩
    case round =>
      clear H'
      try clear c1
      try clear p2
      try clear c3
      try clear c3b0
      try clear c3b1
      try clear c3b2
      try clear c6
      try clear hcz7_0
      try clear hcz8_0
      try clear hfz7_0
      try clear hfz8_0
      obtain ⟨x16_1, rfl, HA, HK1, BK186, BK187, HB⟩ := hrel
      cases gk with
      | zero => exact absurd HA.out (by simp [virgationref01_Equal.l0])
      | succ k1 =>
        have H := HA.out
        clear HA
        simp only [virgationref01_Equal.l0] at H
        by_cases c9 : x16_1 < (l0_0.length : Int)
        · rw [if_pos c9] at H
          have c9b0 : decide (x16_1 < (l0_0.length : Int)) = true := decide_eq_true c9
          clear c9
          by_cases c10 : 0 ≤ x16_1
          · rw [if_pos c10] at H
            have c10b0 : decide (0 ≤ x16_1) = true := decide_eq_true c10
            clear c10
            by_cases c11 : x16_1 < (l0_0.length : Int)
            · rw [if_pos c11] at H
              have c11b0 : decide (x16_1 < (l0_0.length : Int)) = true := decide_eq_true c11
              clear c11
              by_cases c12 : x16_1 < (l1_0.length : Int)
              · rw [if_pos c12] at H
                have c12b0 : decide (x16_1 < (l1_0.length : Int)) = true := decide_eq_true c12
                clear c12
                replace H := Option.bind_eq_some_iff.mp H
                obtain ⟨t190, A130, H⟩ := H
                replace H : (if t190 = true then (virgationref01_Equal.l0 k1 (l0_0.length : Int) (wrap64 (x16_1 + 1)) l0_0 l1_0) else (some false)) = some r := H
                have A13 := Aside0.mk A130
                clear A130
                by_cases c14 : t190 = true
                · subst c14
                  have H1 : (virgationref01_Equal.l0 k1 (l0_0.length : Int) (wrap64 (x16_1 + 1)) l0_0 l1_0) = some r := by rw [if_pos rfl] at H; exact H
                  clear H
                  have H := H1
                  clear H1
                  have H' := Aside0.mk H
                  clear H
                  try go_wp2
                  have n0_ := Aside0.mk (blk_drew BK186.out)
                  have n1_ := Aside0.mk (blk_drew BK187.out)
                  have n2_ := Aside0.mk (below_drew1 HB.out)
                  clear BK186
                  clear BK187
                  clear HB
                  have BK186 := n0_
                  have BK187 := n1_
                  have HB := n2_
                  clear n0_ n1_ n2_
                  have p188 : 0 ≤ (x16_1 : Int) := of_decide_eq_true (by first | (with_reducible assumption) | assumption)
                  have q188 : x16_1 < (l0_0.length : Int) := of_decide_eq_true (by first | (with_reducible assumption) | assumption)
                  obtain ⟨ad188, A188_0, c188_0, e188, hx188_0, hl188_0, hi188_0⟩ := at_T41 HR0_0.out x16_1 p188 q188
                  have hw188_0 := hx188_0
                  cases e188
                  replace hx188_0 := (HB.out.cell (World.block_lt_of_cell? w _ hx188_0)).trans hx188_0
                  have HR188_0 := Aside0.mk hi188_0
                  have HC188_0 := Aside0.mk hl188_0
                  clear hi188_0 hl188_0
                  replace p188 := eq_true p188
                  replace q188 := eq_true q188
                  have p189 : 0 ≤ (x16_1 : Int) := of_decide_eq_true (by first | (with_reducible assumption) | assumption)
                  have q189 : x16_1 < (l1_0.length : Int) := of_decide_eq_true (by first | (with_reducible assumption) | assumption)
                  obtain ⟨ad189, A189_0, c189_0, e189, hx189_0, hl189_0, hi189_0⟩ := at_T41 HR1_0.out x16_1 p189 q189
                  have hw189_0 := hx189_0
                  cases e189
                  replace hx189_0 := (HB.out.cell (World.block_lt_of_cell? w _ hx189_0)).trans hx189_0
                  have HR189_0 := Aside0.mk hi189_0
                  have HC189_0 := Aside0.mk hl189_0
                  clear hi189_0 hl189_0
                  replace p189 := eq_true p189
                  replace q189 := eq_true q189
                  refine start_ (n := 12) (S := fun w' => w'.cell? ⟨gb186, 0, none⟩ = some (.slice (some ad188) l0_0.length c0_0) ∧ w'.cell? ⟨gb187, 0, none⟩ = some (.slice (some ad189) l1_0.length c1_0) ∧ w'.cell? (ad188.add (x16_1).toNat) = some (.slice A188_0 ((rd_T41 l0_0 x16_1).f0).length c188_0) ∧ w'.cell? (ad189.add (x16_1).toNat) = some (.slice A189_0 ((rd_T41 l1_0 x16_1).f0).length c189_0)) (ds := []) #[false, false, false, false, false, false, false, false, false, false, false, false] (by kernel_rfl) rfl rfl ⟨(blk_cell BK186.out 0).trans rfl, (blk_cell BK187.out 0).trans rfl, ((HB.out.cell (World.block_lt_of_cell? w _ hw188_0)).trans hw188_0), ((HB.out.cell (World.block_lt_of_cell? w _ hw189_0)).trans hw189_0)⟩ (fun hHeld => ?_); refine with_tabW virgationref01_Equal.tab6 virgationref01_Equal.bits6 (fun HT_ HW_ => ?_)
                  generalize wr.drew = w15 at BK186 BK187 HB HR188_0 HR189_0 hx188_0 hx189_0 hHeld ⊢
                  refine pure_ (i := 0) (N := some 19) (v := ?_) (a' := ?_) #[true, false, false, false, false, false, false, false, false, false, false, false] rfl rfl (any_of HT_.out (by kernel_rfl)) (fun _ _ _ h => h) (Or.inl ⟨by rfl, ?_⟩) ?_ ?_
                  rotate_left
                  · intro w'
                    go_simp
                    with_reducible rfl
                  rotate_left
                  · simp only [Act.put, List.setIfInBounds_toArray, List.set_cons_zero, List.set_cons_succ, i64_w, i32_w]
                    rfl
                  refine pure_ (i := 2) (N := some 21) (v := ?_) (a' := ?_) #[true, false, true, false, false, false, false, false, false, false, false, false] rfl rfl (any_of HT_.out (by kernel_rfl)) (fun _ _ _ h => h) (Or.inl ⟨by rfl, ?_⟩) ?_ ?_
                  rotate_left
                  · intro w'
                    go_simp
                    with_reducible rfl
                  rotate_left
                  · simp only [Act.put, List.setIfInBounds_toArray, List.set_cons_zero, List.set_cons_succ, i64_w, i32_w]
                    rfl
                  refine pure_ (i := 5) (N := some 24) (v := ?_) (a' := ?_) #[true, false, true, false, false, true, false, false, false, false, false, false] rfl rfl (any_of HT_.out (by kernel_rfl)) (fun _ _ _ h => h) (Or.inl ⟨by rfl, ?_⟩) ?_ ?_
                  rotate_left
                  · intro w'
                    go_simp
                    with_reducible rfl
                  rotate_left
                  · simp only [Act.put, List.setIfInBounds_toArray, List.set_cons_zero, List.set_cons_succ, i64_w, i32_w]
                    rfl
                  refine pure_ (i := 7) (N := some 26) (v := ?_) (a' := ?_) #[true, false, true, false, false, true, false, true, false, false, false, false] rfl rfl (any_of HT_.out (by kernel_rfl)) (fun _ _ _ h => h) (Or.inl ⟨by rfl, ?_⟩) ?_ ?_
                  rotate_left
                  · intro w'
                    go_simp
                    with_reducible rfl
                  rotate_left
                  · simp only [Act.put, List.setIfInBounds_toArray, List.set_cons_zero, List.set_cons_succ, i64_w, i32_w]
                    rfl
                  refine take_ (i := 1) (N := some 20) (v := ?_) (a' := ?_) #[true, true, true, false, false, true, false, true, false, false, false, false] rfl rfl (take_ofW HT_.out HW_.out (by kernel_rfl)) (fun _ _ _ h => h) (Or.inl ⟨by rfl, ?_⟩) hHeld ?_ ?_
                  rotate_left
                  · rintro w' ⟨s0, s1, s2, s3⟩
                    go_simp
                    with_reducible rfl
                  rotate_left
                  · simp only [Act.put, List.setIfInBounds_toArray, List.set_cons_zero, List.set_cons_succ, i64_w, i32_w]
                    rfl
                  refine pure_ (i := 3) (N := some 22) (v := ?_) (a' := ?_) #[true, true, true, true, false, true, false, true, false, false, false, false] rfl rfl (any_of HT_.out (by kernel_rfl)) (fun _ _ _ h => h) (Or.inl ⟨by rfl, ?_⟩) ?_ ?_
                  rotate_left
                  · intro w'
                    go_simp
                    with_reducible rfl
                  rotate_left
                  · simp only [Act.put, List.setIfInBounds_toArray, List.set_cons_zero, List.set_cons_succ, i64_w, i32_w]
                    rfl
                  refine take_ (i := 4) (N := some 23) (v := ?_) (a' := ?_) #[true, true, true, true, true, true, false, true, false, false, false, false] rfl rfl (take_ofW HT_.out HW_.out (by kernel_rfl)) (fun _ _ _ h => h) (Or.inl ⟨by rfl, ?_⟩) hHeld ?_ ?_
                  rotate_left
                  · rintro w' ⟨s0, s1, s2, s3⟩
                    go_simp
                    with_reducible rfl
                  rotate_left
                  · simp only [Act.put, List.setIfInBounds_toArray, List.set_cons_zero, List.set_cons_succ, i64_w, i32_w]
                    rfl
                  refine take_ (i := 6) (N := some 25) (v := ?_) (a' := ?_) #[true, true, true, true, true, true, true, true, false, false, false, false] rfl rfl (take_ofW HT_.out HW_.out (by kernel_rfl)) (fun _ _ _ h => h) (Or.inl ⟨by rfl, ?_⟩) hHeld ?_ ?_
                  rotate_left
                  · rintro w' ⟨s0, s1, s2, s3⟩
                    go_simp
                    with_reducible rfl
                  rotate_left
                  · simp only [Act.put, List.setIfInBounds_toArray, List.set_cons_zero, List.set_cons_succ, i64_w, i32_w]
                    rfl
                  refine pure_ (i := 8) (N := some 27) (v := ?_) (a' := ?_) #[true, true, true, true, true, true, true, true, true, false, false, false] rfl rfl (any_of HT_.out (by kernel_rfl)) (fun _ _ _ h => h) (Or.inl ⟨by rfl, ?_⟩) ?_ ?_
                  rotate_left
                  · intro w'
                    go_simp
                    with_reducible rfl
                  rotate_left
                  · simp only [Act.put, List.setIfInBounds_toArray, List.set_cons_zero, List.set_cons_succ, i64_w, i32_w]
                    rfl
                  refine take_ (i := 9) (N := some 28) (v := ?_) (a' := ?_) #[true, true, true, true, true, true, true, true, true, true, false, false] rfl rfl (take_ofW HT_.out HW_.out (by kernel_rfl)) (fun _ _ _ h => h) (Or.inl ⟨by rfl, ?_⟩) hHeld ?_ ?_
                  rotate_left
                  · rintro w' ⟨s0, s1, s2, s3⟩
                    go_simp
                    with_reducible rfl
                  rotate_left
                  · simp only [Act.put, List.setIfInBounds_toArray, List.set_cons_zero, List.set_cons_succ, i64_w, i32_w]
                    rfl
                  refine one_ (i := 10) (N := some 29) #[true, true, true, true, true, true, true, true, true, true, true, false] rfl rfl (one_of HT_.out (by kernel_rfl)) (by decide) (fun K hK => ?_)
                  refine goes_ Try.func64 (by kernel_rfl) rfl #[.agg #[.slice A188_0 ((rd_T41 l0_0 x16_1).f0).length c188_0], .agg #[.slice A189_0 ((rd_T41 l1_0 x16_1).f0).length c189_0]] (by rfl) rfl rfl (by (try simp only [List.map_toArray, List.map_cons, List.map_nil]); first | done | rfl | (simp only [List.length_drop, List.length_take]; rfl)) ?_
                  with_reducible refine (ih k1 (by have := HK1.out; omega) _ _ ((rd_T41 l0_0 x16_1).f0) _ _ ((rd_T41 l1_0 x16_1).f0) true _ ?side1 ?side2 ?side3 ?side4 A13.out).mono ?_
                  (case side1 => repeat (first | exact (Kd.C_below HR188_0.out HB.out) | (with_reducible refine Kd.C_alloc ?_ _) | (with_reducible refine Kd.C_drewN ?_ _) | (with_reducible refine Kd.C_drew ?_)))
                  (case side2 => exact HC188_0.out)
                  (case side3 => repeat (first | exact (Kd.C_below HR189_0.out HB.out) | (with_reducible refine Kd.C_alloc ?_ _) | (with_reducible refine Kd.C_drewN ?_ _) | (with_reducible refine Kd.C_drew ?_)))
                  (case side4 => exact HC189_0.out)
                  rintro e w16 ⟨rfl, hb⟩
                  refine ⟨_, rfl, ?_⟩
                  have n0_ := Aside0.mk (blk_below (g := gb186) (o := .cells #[.slice (some ad188) l0_0.length c0_0] 41 (0, 0)) (by (with_reducible repeat (first | refine blk_drewN ?_ _ | refine blk_drew ?_ | refine blk_alloc ?_ _)); exact BK186.out) hb)
                  have n1_ := Aside0.mk (blk_below (g := gb187) (o := .cells #[.slice (some ad189) l1_0.length c1_0] 41 (0, 0)) (by (with_reducible repeat (first | refine blk_drewN ?_ _ | refine blk_drew ?_ | refine blk_alloc ?_ _)); exact BK187.out) hb)
                  have n2_ := Aside0.mk (below_step (by repeat (first | (with_reducible first | exact HB.out | apply below_alloc | apply pw_below_drewN | apply below_drew1 | refine below_set ?_ GE186.out | refine below_set ?_ GE187.out) | exact HB.out)) hb)
                  clear BK186
                  clear BK187
                  clear HB
                  have BK186 := n0_
                  have BK187 := n1_
                  have HB := n2_
                  clear n0_ n1_ n2_
                  (try clear hb)
                  (try clear hb2)
                  (try clear hk)
                  (try clear hi)
                  refine hK.out _ _ ⟨(blk_cell BK186.out 0).trans rfl, (blk_cell BK187.out 0).trans rfl, ((HB.out.cell (World.block_lt_of_cell? w _ hw188_0)).trans hw188_0), ((HB.out.cell (World.block_lt_of_cell? w _ hw189_0)).trans hw189_0)⟩ (fun hHeld => ?_)
                  clear hK K
                  refine norm_ (a' := ?_) ?_ ?_
                  rotate_left
                  · show Act.put _ (some 29) _ = _
                    simp only [Act.put, List.setIfInBounds_toArray, List.set_cons_zero, List.set_cons_succ, i64_w, i32_w]
                    rfl
                  refine pure_ (i := 11) (N := some 30) (v := ?_) (a' := ?_) #[true, true, true, true, true, true, true, true, true, true, true, true] rfl rfl (any_of HT_.out (by kernel_rfl)) (fun _ _ _ h => h) (Or.inl ⟨by rfl, ?_⟩) ?_ ?_
                  rotate_left
                  · intro w'
                    go_simp
                    with_reducible rfl
                  rotate_left
                  · simp only [Act.put, List.setIfInBounds_toArray, List.set_cons_zero, List.set_cons_succ, i64_w, i32_w]
                    rfl
                  refine done_ (done_of HT_.out (by kernel_rfl)) ?_
                  try go_wp2
                  go_roundg k1
                  case measure => have := HK1.out; omega
                  case rel => exact ⟨(wrap64 (x16_1 + 1)), (by first | rfl | (simp; done) | (simp [*]; done)), H', ⟨by have := HK1.out; omega⟩, ⟨by (with_reducible repeat (first | refine blk_drewN ?_ _ | refine blk_drew ?_ | refine blk_alloc ?_ _)); exact BK186.out⟩, ⟨by (with_reducible repeat (first | refine blk_drewN ?_ _ | refine blk_drew ?_ | refine blk_alloc ?_ _)); exact BK187.out⟩, ⟨by repeat (first | (with_reducible first | exact HB.out | apply below_alloc | apply pw_below_drewN | apply below_drew1 | refine below_set ?_ GE186.out | refine below_set ?_ GE187.out) | exact HB.out)⟩⟩
                · replace c14 := Bool.eq_false_iff.mpr c14
                  subst c14
                  have H1 : (some false) = some r := by rw [if_neg (show ¬ (false = true) by decide)] at H; exact H
                  clear H
                  have H := H1
                  clear H1
                  obtain rfl := Option.some.inj H
                  try go_wp2
                  have n0_ := Aside0.mk (blk_drew BK186.out)
                  have n1_ := Aside0.mk (blk_drew BK187.out)
                  have n2_ := Aside0.mk (below_drew1 HB.out)
                  clear BK186
                  clear BK187
                  clear HB
                  have BK186 := n0_
                  have BK187 := n1_
                  have HB := n2_
                  clear n0_ n1_ n2_
                  have p188 : 0 ≤ (x16_1 : Int) := of_decide_eq_true (by first | (with_reducible assumption) | assumption)
                  have q188 : x16_1 < (l0_0.length : Int) := of_decide_eq_true (by first | (with_reducible assumption) | assumption)
                  obtain ⟨ad188, A188_0, c188_0, e188, hx188_0, hl188_0, hi188_0⟩ := at_T41 HR0_0.out x16_1 p188 q188
                  have hw188_0 := hx188_0
                  cases e188
                  replace hx188_0 := (HB.out.cell (World.block_lt_of_cell? w _ hx188_0)).trans hx188_0
                  have HR188_0 := Aside0.mk hi188_0
                  have HC188_0 := Aside0.mk hl188_0
                  clear hi188_0 hl188_0
                  replace p188 := eq_true p188
                  replace q188 := eq_true q188
                  have p189 : 0 ≤ (x16_1 : Int) := of_decide_eq_true (by first | (with_reducible assumption) | assumption)
                  have q189 : x16_1 < (l1_0.length : Int) := of_decide_eq_true (by first | (with_reducible assumption) | assumption)
                  obtain ⟨ad189, A189_0, c189_0, e189, hx189_0, hl189_0, hi189_0⟩ := at_T41 HR1_0.out x16_1 p189 q189
                  have hw189_0 := hx189_0
                  cases e189
                  replace hx189_0 := (HB.out.cell (World.block_lt_of_cell? w _ hx189_0)).trans hx189_0
                  have HR189_0 := Aside0.mk hi189_0
                  have HC189_0 := Aside0.mk hl189_0
                  clear hi189_0 hl189_0
                  replace p189 := eq_true p189
                  replace q189 := eq_true q189
                  refine start_ (n := 12) (S := fun w' => w'.cell? ⟨gb186, 0, none⟩ = some (.slice (some ad188) l0_0.length c0_0) ∧ w'.cell? ⟨gb187, 0, none⟩ = some (.slice (some ad189) l1_0.length c1_0) ∧ w'.cell? (ad188.add (x16_1).toNat) = some (.slice A188_0 ((rd_T41 l0_0 x16_1).f0).length c188_0) ∧ w'.cell? (ad189.add (x16_1).toNat) = some (.slice A189_0 ((rd_T41 l1_0 x16_1).f0).length c189_0)) (ds := []) #[false, false, false, false, false, false, false, false, false, false, false, false] (by kernel_rfl) rfl rfl ⟨(blk_cell BK186.out 0).trans rfl, (blk_cell BK187.out 0).trans rfl, ((HB.out.cell (World.block_lt_of_cell? w _ hw188_0)).trans hw188_0), ((HB.out.cell (World.block_lt_of_cell? w _ hw189_0)).trans hw189_0)⟩ (fun hHeld => ?_); refine with_tabW virgationref01_Equal.tab6 virgationref01_Equal.bits6 (fun HT_ HW_ => ?_)
                  generalize wr.drew = w17 at BK186 BK187 HB HR188_0 HR189_0 hx188_0 hx189_0 hHeld ⊢
                  refine pure_ (i := 0) (N := some 19) (v := ?_) (a' := ?_) #[true, false, false, false, false, false, false, false, false, false, false, false] rfl rfl (any_of HT_.out (by kernel_rfl)) (fun _ _ _ h => h) (Or.inl ⟨by rfl, ?_⟩) ?_ ?_
                  rotate_left
                  · intro w'
                    go_simp
                    with_reducible rfl
                  rotate_left
                  · simp only [Act.put, List.setIfInBounds_toArray, List.set_cons_zero, List.set_cons_succ, i64_w, i32_w]
                    rfl
                  refine pure_ (i := 2) (N := some 21) (v := ?_) (a' := ?_) #[true, false, true, false, false, false, false, false, false, false, false, false] rfl rfl (any_of HT_.out (by kernel_rfl)) (fun _ _ _ h => h) (Or.inl ⟨by rfl, ?_⟩) ?_ ?_
                  rotate_left
                  · intro w'
                    go_simp
                    with_reducible rfl
                  rotate_left
                  · simp only [Act.put, List.setIfInBounds_toArray, List.set_cons_zero, List.set_cons_succ, i64_w, i32_w]
                    rfl
                  refine pure_ (i := 5) (N := some 24) (v := ?_) (a' := ?_) #[true, false, true, false, false, true, false, false, false, false, false, false] rfl rfl (any_of HT_.out (by kernel_rfl)) (fun _ _ _ h => h) (Or.inl ⟨by rfl, ?_⟩) ?_ ?_
                  rotate_left
                  · intro w'
                    go_simp
                    with_reducible rfl
                  rotate_left
                  · simp only [Act.put, List.setIfInBounds_toArray, List.set_cons_zero, List.set_cons_succ, i64_w, i32_w]
                    rfl
                  refine pure_ (i := 7) (N := some 26) (v := ?_) (a' := ?_) #[true, false, true, false, false, true, false, true, false, false, false, false] rfl rfl (any_of HT_.out (by kernel_rfl)) (fun _ _ _ h => h) (Or.inl ⟨by rfl, ?_⟩) ?_ ?_
                  rotate_left
                  · intro w'
                    go_simp
                    with_reducible rfl
                  rotate_left
                  · simp only [Act.put, List.setIfInBounds_toArray, List.set_cons_zero, List.set_cons_succ, i64_w, i32_w]
                    rfl
                  refine take_ (i := 1) (N := some 20) (v := ?_) (a' := ?_) #[true, true, true, false, false, true, false, true, false, false, false, false] rfl rfl (take_ofW HT_.out HW_.out (by kernel_rfl)) (fun _ _ _ h => h) (Or.inl ⟨by rfl, ?_⟩) hHeld ?_ ?_
                  rotate_left
                  · rintro w' ⟨s0, s1, s2, s3⟩
                    go_simp
                    with_reducible rfl
                  rotate_left
                  · simp only [Act.put, List.setIfInBounds_toArray, List.set_cons_zero, List.set_cons_succ, i64_w, i32_w]
                    rfl
                  refine pure_ (i := 3) (N := some 22) (v := ?_) (a' := ?_) #[true, true, true, true, false, true, false, true, false, false, false, false] rfl rfl (any_of HT_.out (by kernel_rfl)) (fun _ _ _ h => h) (Or.inl ⟨by rfl, ?_⟩) ?_ ?_
                  rotate_left
                  · intro w'
                    go_simp
                    with_reducible rfl
                  rotate_left
                  · simp only [Act.put, List.setIfInBounds_toArray, List.set_cons_zero, List.set_cons_succ, i64_w, i32_w]
                    rfl
                  refine take_ (i := 4) (N := some 23) (v := ?_) (a' := ?_) #[true, true, true, true, true, true, false, true, false, false, false, false] rfl rfl (take_ofW HT_.out HW_.out (by kernel_rfl)) (fun _ _ _ h => h) (Or.inl ⟨by rfl, ?_⟩) hHeld ?_ ?_
                  rotate_left
                  · rintro w' ⟨s0, s1, s2, s3⟩
                    go_simp
                    with_reducible rfl
                  rotate_left
                  · simp only [Act.put, List.setIfInBounds_toArray, List.set_cons_zero, List.set_cons_succ, i64_w, i32_w]
                    rfl
                  refine take_ (i := 6) (N := some 25) (v := ?_) (a' := ?_) #[true, true, true, true, true, true, true, true, false, false, false, false] rfl rfl (take_ofW HT_.out HW_.out (by kernel_rfl)) (fun _ _ _ h => h) (Or.inl ⟨by rfl, ?_⟩) hHeld ?_ ?_
                  rotate_left
                  · rintro w' ⟨s0, s1, s2, s3⟩
                    go_simp
                    with_reducible rfl
                  rotate_left
                  · simp only [Act.put, List.setIfInBounds_toArray, List.set_cons_zero, List.set_cons_succ, i64_w, i32_w]
                    rfl
                  refine pure_ (i := 8) (N := some 27) (v := ?_) (a' := ?_) #[true, true, true, true, true, true, true, true, true, false, false, false] rfl rfl (any_of HT_.out (by kernel_rfl)) (fun _ _ _ h => h) (Or.inl ⟨by rfl, ?_⟩) ?_ ?_
                  rotate_left
                  · intro w'
                    go_simp
                    with_reducible rfl
                  rotate_left
                  · simp only [Act.put, List.setIfInBounds_toArray, List.set_cons_zero, List.set_cons_succ, i64_w, i32_w]
                    rfl
                  refine take_ (i := 9) (N := some 28) (v := ?_) (a' := ?_) #[true, true, true, true, true, true, true, true, true, true, false, false] rfl rfl (take_ofW HT_.out HW_.out (by kernel_rfl)) (fun _ _ _ h => h) (Or.inl ⟨by rfl, ?_⟩) hHeld ?_ ?_
                  rotate_left
                  · rintro w' ⟨s0, s1, s2, s3⟩
                    go_simp
                    with_reducible rfl
                  rotate_left
                  · simp only [Act.put, List.setIfInBounds_toArray, List.set_cons_zero, List.set_cons_succ, i64_w, i32_w]
                    rfl
                  refine one_ (i := 10) (N := some 29) #[true, true, true, true, true, true, true, true, true, true, true, false] rfl rfl (one_of HT_.out (by kernel_rfl)) (by decide) (fun K hK => ?_)
                  refine goes_ Try.func64 (by kernel_rfl) rfl #[.agg #[.slice A188_0 ((rd_T41 l0_0 x16_1).f0).length c188_0], .agg #[.slice A189_0 ((rd_T41 l1_0 x16_1).f0).length c189_0]] (by rfl) rfl rfl (by (try simp only [List.map_toArray, List.map_cons, List.map_nil]); first | done | rfl | (simp only [List.length_drop, List.length_take]; rfl)) ?_
                  with_reducible refine (ih k1 (by have := HK1.out; omega) _ _ ((rd_T41 l0_0 x16_1).f0) _ _ ((rd_T41 l1_0 x16_1).f0) false _ ?side1 ?side2 ?side3 ?side4 A13.out).mono ?_
                  (case side1 => repeat (first | exact (Kd.C_below HR188_0.out HB.out) | (with_reducible refine Kd.C_alloc ?_ _) | (with_reducible refine Kd.C_drewN ?_ _) | (with_reducible refine Kd.C_drew ?_)))
                  (case side2 => exact HC188_0.out)
                  (case side3 => repeat (first | exact (Kd.C_below HR189_0.out HB.out) | (with_reducible refine Kd.C_alloc ?_ _) | (with_reducible refine Kd.C_drewN ?_ _) | (with_reducible refine Kd.C_drew ?_)))
                  (case side4 => exact HC189_0.out)
                  rintro e w18 ⟨rfl, hb⟩
                  refine ⟨_, rfl, ?_⟩
                  have n0_ := Aside0.mk (blk_below (g := gb186) (o := .cells #[.slice (some ad188) l0_0.length c0_0] 41 (0, 0)) (by (with_reducible repeat (first | refine blk_drewN ?_ _ | refine blk_drew ?_ | refine blk_alloc ?_ _)); exact BK186.out) hb)
                  have n1_ := Aside0.mk (blk_below (g := gb187) (o := .cells #[.slice (some ad189) l1_0.length c1_0] 41 (0, 0)) (by (with_reducible repeat (first | refine blk_drewN ?_ _ | refine blk_drew ?_ | refine blk_alloc ?_ _)); exact BK187.out) hb)
                  have n2_ := Aside0.mk (below_step (by repeat (first | (with_reducible first | exact HB.out | apply below_alloc | apply pw_below_drewN | apply below_drew1 | refine below_set ?_ GE186.out | refine below_set ?_ GE187.out) | exact HB.out)) hb)
                  clear BK186
                  clear BK187
                  clear HB
                  have BK186 := n0_
                  have BK187 := n1_
                  have HB := n2_
                  clear n0_ n1_ n2_
                  (try clear hb)
                  (try clear hb2)
                  (try clear hk)
                  (try clear hi)
                  refine hK.out _ _ ⟨(blk_cell BK186.out 0).trans rfl, (blk_cell BK187.out 0).trans rfl, ((HB.out.cell (World.block_lt_of_cell? w _ hw188_0)).trans hw188_0), ((HB.out.cell (World.block_lt_of_cell? w _ hw189_0)).trans hw189_0)⟩ (fun hHeld => ?_)
                  clear hK K
                  refine norm_ (a' := ?_) ?_ ?_
                  rotate_left
                  · show Act.put _ (some 29) _ = _
                    simp only [Act.put, List.setIfInBounds_toArray, List.set_cons_zero, List.set_cons_succ, i64_w, i32_w]
                    rfl
                  refine pure_ (i := 11) (N := some 30) (v := ?_) (a' := ?_) #[true, true, true, true, true, true, true, true, true, true, true, true] rfl rfl (any_of HT_.out (by kernel_rfl)) (fun _ _ _ h => h) (Or.inl ⟨by rfl, ?_⟩) ?_ ?_
                  rotate_left
                  · intro w'
                    go_simp
                    with_reducible rfl
                  rotate_left
                  · simp only [Act.put, List.setIfInBounds_toArray, List.set_cons_zero, List.set_cons_succ, i64_w, i32_w]
                    rfl
                  refine done_ (done_of HT_.out (by kernel_rfl)) ?_
                  try go_wp2
                  go_ret
                  exact ⟨by first | rfl | (simp [errW_none, errW_some] <;> rfl) | (simp [*, errW_none, errW_some] <;> rfl), by repeat (first | (with_reducible first | exact HB.out | apply below_alloc | apply pw_below_drewN | apply below_drew1 | refine below_set ?_ GE186.out | refine below_set ?_ GE187.out) | exact HB.out)⟩
              · rw [if_neg c12] at H
                exact absurd H (by simp)
            · rw [if_neg c11] at H
              exact absurd H (by simp)
          · rw [if_neg c10] at H
            exact absurd H (by simp)
        · rw [if_neg c9] at H
          have c9b0 : decide (x16_1 < (l0_0.length : Int)) = false := decide_eq_false c9
          clear c9
          obtain rfl := Option.some.inj H
          go_wp2
          go_ret
          exact ⟨by first | rfl | (simp [errW_none, errW_some] <;> rfl) | (simp [*, errW_none, errW_some] <;> rfl), by repeat (first | (with_reducible first | exact HB.out | apply below_alloc | apply pw_below_drewN | apply below_drew1 | refine below_set ?_ GE186.out | refine below_set ?_ GE187.out) | exact HB.out)⟩
  · rw [if_neg c3] at H
    have c3b0 : ((l0_0.length : Int) == (l1_0.length : Int)) = false := beq_eq_false_iff_ne.mpr c3
    have c3b1 : ((l0_0.length : Int) != (l1_0.length : Int)) = true := bne_iff_ne.mpr c3
    have c3b2 : (l0_0.length == l1_0.length) = false := by first | simpa using c3 | (simp at c3 ⊢; omega)
    obtain rfl := Option.some.inj H
    go_enter Try.func64, Try.ntmps64
    go_wp2_with (first | ((with_reducible refine gate_dst (N := 2) rfl ?_); refine box_event ?hg (N := 2) ?hd (cs := #[.slice A0_0 l0_0.length c0_0]) (t := 41) ?hr ?_; (case hd => rfl); (case hg => rfl); (case hr => first | (go_simp; done) | (go_simp; rfl)); intro gb186 hg w19 hbox hb; have n0_ := Aside0.mk (below_step (by repeat (first | (with_reducible first | exact HB.out | apply below_alloc | apply pw_below_drewN | apply below_drew1) | exact HB.out)) hb); have n1_ := Aside0.mk (hbox); have n2_ := Aside0.mk ((by rw [hg]; exact (below_size (by repeat (first | (with_reducible first | exact HB.out | apply below_alloc | apply pw_below_drewN | apply below_drew1) | exact HB.out))) : w.heap.size ≤ gb186)); have n3_ := Aside0.mk ((by rw [hg]; exact (below_size (by repeat (first | (with_reducible first | exact HB.out | apply below_alloc | apply pw_below_drewN | apply below_drew1) | exact HB.out))) : w.heap.size ≤ gb186)); clear HB; have HB := n0_; have BK186 := n1_; have GW186 := n2_; have GE186 := n3_; clear n0_ n1_ n2_ n3_; clear hb hbox hg) | ((with_reducible refine gate_dst (N := 3) rfl ?_); refine box_event ?hg (N := 3) ?hd (cs := #[.slice A1_0 l1_0.length c1_0]) (t := 41) ?hr ?_; (case hd => rfl); (case hg => rfl); (case hr => first | (go_simp; done) | (go_simp; rfl)); intro gb187 hg w20 hbox hb; have n0_ := Aside0.mk (blk_below (g := gb186) (o := .cells #[.slice A0_0 l0_0.length c0_0] 41 (0, 0)) (by (with_reducible repeat (first | refine blk_drewN ?_ _ | refine blk_drew ?_ | refine blk_alloc ?_ _)); exact BK186.out) hb); have n1_ := Aside0.mk (below_step (by repeat (first | (with_reducible first | exact HB.out | apply below_alloc | apply pw_below_drewN | apply below_drew1 | refine below_set ?_ GE186.out) | exact HB.out)) hb); have n2_ := Aside0.mk (hbox); have n3_ := Aside0.mk ((by rw [hg]; exact (below_size (by repeat (first | (with_reducible first | exact HB.out | apply below_alloc | apply pw_below_drewN | apply below_drew1 | refine below_set ?_ GE186.out) | exact HB.out))) : w.heap.size ≤ gb187)); have n4_ := Aside0.mk ((by rw [hg]; exact (below_size (by repeat (first | (with_reducible first | exact HB.out | apply below_alloc | apply pw_below_drewN | apply below_drew1 | refine below_set ?_ GE186.out) | exact HB.out))) : w.heap.size ≤ gb187)); have n5_ := Aside0.mk ((by rw [hg]; exact Nat.ne_of_lt (blk_lt (g := gb186) (o := .cells #[.slice A0_0 l0_0.length c0_0] 41 (0, 0)) (by (with_reducible repeat (first | refine blk_drewN ?_ _ | refine blk_drew ?_ | refine blk_alloc ?_ _)); exact BK186.out)) : gb186 ≠ gb187)); have n6_ := Aside0.mk ((by rw [hg]; exact Nat.ne_of_gt (blk_lt (g := gb186) (o := .cells #[.slice A0_0 l0_0.length c0_0] 41 (0, 0)) (by (with_reducible repeat (first | refine blk_drewN ?_ _ | refine blk_drew ?_ | refine blk_alloc ?_ _)); exact BK186.out)) : gb187 ≠ gb186)); clear BK186; clear HB; have BK186 := n0_; have HB := n1_; have BK187 := n2_; have GW187 := n3_; have GE187 := n4_; have NB186_187 := n5_; have NB187_186 := n6_; clear n0_ n1_ n2_ n3_ n4_ n5_ n6_; clear hb hbox hg; have hnb21 := NB186_187.out; have hnc21 := NB187_186.out; have hcz22_0 : w20.cell? ⟨gb186, 0, none⟩ = some (.slice A0_0 l0_0.length c0_0) := (blk_cell BK186.out 0).trans rfl; have hfz22_0 := blk_frozen BK186.out 0; have hcz23_0 : w20.cell? ⟨gb187, 0, none⟩ = some (.slice A1_0 l1_0.length c1_0) := (blk_cell BK187.out 0).trans rfl; have hfz23_0 := blk_frozen BK187.out 0))
    go_ret
    exact ⟨by first | rfl | (simp [errW_none, errW_some] <;> rfl) | (simp [*, errW_none, errW_some] <;> rfl), by repeat (first | (with_reducible first | exact HB.out | apply below_alloc | apply pw_below_drewN | apply below_drew1 | refine below_set ?_ GE186.out | refine below_set ?_ GE187.out) | exact HB.out)⟩
def virgationref01_Same.f (k : Nat) (l0_0 : List (S41)) (l1_0 : List (S41)) : Option (Bool) := (virgationref01_Nodes.f k l0_0 60).bind fun t193 => (if t193 ≤ 60 then ((virgationref01_Nodes.f k l1_0 60).bind fun t194 => (if t194 ≤ 60 then ((virgationref01_Equal.f k l0_0 l1_0).bind fun t195 => (some t195)) else (some false))) else (some false))
set_option maxHeartbeats 8000000 in
set_option maxRecDepth 100000 in
theorem virgationref01_Same.calls (k : Nat) (A0_0 : Option Addr) (c0_0 : Nat) (l0_0 : List (S41)) (A1_0 : Option Addr) (c1_0 : Nat) (l1_0 : List (S41)) (r : Bool) (w : World) (hr0_0 : Kd.C k41 w A0_0 l0_0.length l0_0) (hc0_0 : l0_0.length ≤ c0_0) (hr1_0 : Kd.C k41 w A1_0 l1_0.length l1_0) (hc1_0 : l1_0.length ≤ c1_0) (h : virgationref01_Same.f k l0_0 l1_0 = some r) :
    Calls Try.prog 49 #[.agg #[.slice A0_0 l0_0.length c0_0], .agg #[.slice A1_0 l1_0.length c1_0]] w fun e w' => e = .returned (.bool r) ∧ Below w.heap.size w w' := by
  have hu41 := Try.underlying41
  have HR0_0 := Aside0.mk hr0_0
  have HC0_0 := Aside0.mk hc0_0
  clear hr0_0 hc0_0
  have HR1_0 := Aside0.mk hr1_0
  have HC1_0 := Aside0.mk hc1_0
  clear hr1_0 hc1_0
  have HB := Aside0.mk (Below.refl w.heap.size w)
  have H : ((virgationref01_Nodes.f k l0_0 60).bind fun t193 => (if t193 ≤ 60 then ((virgationref01_Nodes.f k l1_0 60).bind fun t194 => (if t194 ≤ 60 then ((virgationref01_Equal.f k l0_0 l1_0).bind fun t195 => (some t195)) else (some false))) else (some false))) = some r := h
  clear h
  replace H := Option.bind_eq_some_iff.mp H
  obtain ⟨t193, A30, H⟩ := H
  replace H : (if t193 ≤ 60 then ((virgationref01_Nodes.f k l1_0 60).bind fun t194 => (if t194 ≤ 60 then ((virgationref01_Equal.f k l0_0 l1_0).bind fun t195 => (some t195)) else (some false))) else (some false)) = some r := H
  have A3 := Aside0.mk A30
  clear A30
  by_cases c4 : t193 ≤ 60
  · rw [if_pos c4] at H
    have c4b0 : decide (t193 ≤ 60) = true := decide_eq_true c4
    clear c4
    replace H := Option.bind_eq_some_iff.mp H
    obtain ⟨t194, A50, H⟩ := H
    replace H : (if t194 ≤ 60 then ((virgationref01_Equal.f k l0_0 l1_0).bind fun t195 => (some t195)) else (some false)) = some r := H
    have A5 := Aside0.mk A50
    clear A50
    by_cases c6 : t194 ≤ 60
    · rw [if_pos c6] at H
      have c6b0 : decide (t194 ≤ 60) = true := decide_eq_true c6
      clear c6
      replace H := Option.bind_eq_some_iff.mp H
      obtain ⟨t195, A70, H⟩ := H
      replace H : (some t195) = some r := H
      have A7 := Aside0.mk A70
      clear A70
      obtain rfl := Option.some.inj H
      go_enter Try.func49, Try.ntmps49
      go_wp2_with (first | ((with_reducible refine gate_dst (N := 2) rfl ?_); refine box_event ?hg (N := 2) ?hd (cs := #[.slice A0_0 l0_0.length c0_0]) (t := 41) ?hr ?_; (case hd => rfl); (case hg => rfl); (case hr => first | (go_simp; done) | (go_simp; rfl)); intro gb191 hg w8 hbox hb; have n0_ := Aside0.mk (below_step (by repeat (first | (with_reducible first | exact HB.out | apply below_alloc | apply pw_below_drewN | apply below_drew1) | exact HB.out)) hb); have n1_ := Aside0.mk (hbox); have n2_ := Aside0.mk ((by rw [hg]; exact (below_size (by repeat (first | (with_reducible first | exact HB.out | apply below_alloc | apply pw_below_drewN | apply below_drew1) | exact HB.out))) : w.heap.size ≤ gb191)); have n3_ := Aside0.mk ((by rw [hg]; exact (below_size (by repeat (first | (with_reducible first | exact HB.out | apply below_alloc | apply pw_below_drewN | apply below_drew1) | exact HB.out))) : w.heap.size ≤ gb191)); clear HB; have HB := n0_; have BK191 := n1_; have GW191 := n2_; have GE191 := n3_; clear n0_ n1_ n2_ n3_; clear hb hbox hg) | ((with_reducible refine gate_dst (N := 3) rfl ?_); refine box_event ?hg (N := 3) ?hd (cs := #[.slice A1_0 l1_0.length c1_0]) (t := 41) ?hr ?_; (case hd => rfl); (case hg => rfl); (case hr => first | (go_simp; done) | (go_simp; rfl)); intro gb192 hg w9 hbox hb; have n0_ := Aside0.mk (blk_below (g := gb191) (o := .cells #[.slice A0_0 l0_0.length c0_0] 41 (0, 0)) (by (with_reducible repeat (first | refine blk_drewN ?_ _ | refine blk_drew ?_ | refine blk_alloc ?_ _)); exact BK191.out) hb); have n1_ := Aside0.mk (below_step (by repeat (first | (with_reducible first | exact HB.out | apply below_alloc | apply pw_below_drewN | apply below_drew1 | refine below_set ?_ GE191.out) | exact HB.out)) hb); have n2_ := Aside0.mk (hbox); have n3_ := Aside0.mk ((by rw [hg]; exact (below_size (by repeat (first | (with_reducible first | exact HB.out | apply below_alloc | apply pw_below_drewN | apply below_drew1 | refine below_set ?_ GE191.out) | exact HB.out))) : w.heap.size ≤ gb192)); have n4_ := Aside0.mk ((by rw [hg]; exact (below_size (by repeat (first | (with_reducible first | exact HB.out | apply below_alloc | apply pw_below_drewN | apply below_drew1 | refine below_set ?_ GE191.out) | exact HB.out))) : w.heap.size ≤ gb192)); have n5_ := Aside0.mk ((by rw [hg]; exact Nat.ne_of_lt (blk_lt (g := gb191) (o := .cells #[.slice A0_0 l0_0.length c0_0] 41 (0, 0)) (by (with_reducible repeat (first | refine blk_drewN ?_ _ | refine blk_drew ?_ | refine blk_alloc ?_ _)); exact BK191.out)) : gb191 ≠ gb192)); have n6_ := Aside0.mk ((by rw [hg]; exact Nat.ne_of_gt (blk_lt (g := gb191) (o := .cells #[.slice A0_0 l0_0.length c0_0] 41 (0, 0)) (by (with_reducible repeat (first | refine blk_drewN ?_ _ | refine blk_drew ?_ | refine blk_alloc ?_ _)); exact BK191.out)) : gb192 ≠ gb191)); clear BK191; clear HB; have BK191 := n0_; have HB := n1_; have BK192 := n2_; have GW192 := n3_; have GE192 := n4_; have NB191_192 := n5_; have NB192_191 := n6_; clear n0_ n1_ n2_ n3_ n4_ n5_ n6_; clear hb hbox hg; have hnb10 := NB191_192.out; have hnc10 := NB192_191.out; have hcz11_0 : w9.cell? ⟨gb191, 0, none⟩ = some (.slice A0_0 l0_0.length c0_0) := (blk_cell BK191.out 0).trans rfl; have hfz11_0 := blk_frozen BK191.out 0) | ((with_reducible refine gate_callee (f := 19) rfl ?_); refine goesL_ (some 6) rfl rfl Try.func19 (by kernel_rfl) rfl #[.agg #[.slice A0_0 l0_0.length c0_0], .int .i64 60] rfl (by (try simp only [List.map_toArray, List.map_cons, List.map_nil]); first | done | rfl | (simp only [List.length_drop, List.length_take]; rfl)) ?_; (with_reducible refine (virgationref01_Nodes.calls k _ _ l0_0 60 t193 _ ?side1 ?side2 A3.out).mono ?_); (case side1 => repeat (first | exact (Kd.C_below HR0_0.out HB.out) | (with_reducible refine Kd.C_alloc ?_ _) | (with_reducible refine Kd.C_drewN ?_ _) | (with_reducible refine Kd.C_drew ?_))); (case side2 => exact HC0_0.out); rintro e w12 ⟨rfl, hb⟩; refine ⟨_, rfl, ?_⟩; have n0_ := Aside0.mk (blk_below (g := gb191) (o := .cells #[.slice A0_0 l0_0.length c0_0] 41 (0, 0)) (by (with_reducible repeat (first | refine blk_drewN ?_ _ | refine blk_drew ?_ | refine blk_alloc ?_ _)); exact BK191.out) hb); have n1_ := Aside0.mk (blk_below (g := gb192) (o := .cells #[.slice A1_0 l1_0.length c1_0] 41 (0, 0)) (by (with_reducible repeat (first | refine blk_drewN ?_ _ | refine blk_drew ?_ | refine blk_alloc ?_ _)); exact BK192.out) hb); have n2_ := Aside0.mk (below_step (by repeat (first | (with_reducible first | exact HB.out | apply below_alloc | apply pw_below_drewN | apply below_drew1 | refine below_set ?_ GE191.out | refine below_set ?_ GE192.out) | exact HB.out)) hb); clear BK191; clear BK192; clear HB; have BK191 := n0_; have BK192 := n1_; have HB := n2_; clear n0_ n1_ n2_; (try clear hb); (try clear hb2); (try clear hk); (try clear hi); have hcz13_0 : w12.cell? ⟨gb192, 0, none⟩ = some (.slice A1_0 l1_0.length c1_0) := (blk_cell BK192.out 0).trans rfl; have hfz13_0 := blk_frozen BK192.out 0) | (go_at_call 19; (with_reducible refine (virgationref01_Nodes.calls k _ _ l1_0 60 t194 _ ?side1 ?side2 A5.out).mono ?_); (case side1 => repeat (first | exact (Kd.C_below HR1_0.out HB.out) | (with_reducible refine Kd.C_alloc ?_ _) | (with_reducible refine Kd.C_drewN ?_ _) | (with_reducible refine Kd.C_drew ?_))); (case side2 => exact HC1_0.out); rintro e w14 ⟨rfl, hb⟩; have n0_ := Aside0.mk (blk_below (g := gb191) (o := .cells #[.slice A0_0 l0_0.length c0_0] 41 (0, 0)) (by (with_reducible repeat (first | refine blk_drewN ?_ _ | refine blk_drew ?_ | refine blk_alloc ?_ _)); exact BK191.out) hb); have n1_ := Aside0.mk (blk_below (g := gb192) (o := .cells #[.slice A1_0 l1_0.length c1_0] 41 (0, 0)) (by (with_reducible repeat (first | refine blk_drewN ?_ _ | refine blk_drew ?_ | refine blk_alloc ?_ _)); exact BK192.out) hb); have n2_ := Aside0.mk (below_step (by repeat (first | (with_reducible first | exact HB.out | apply below_alloc | apply pw_below_drewN | apply below_drew1 | refine below_set ?_ GE191.out | refine below_set ?_ GE192.out) | exact HB.out)) hb); clear BK191; clear BK192; clear HB; have BK191 := n0_; have BK192 := n1_; have HB := n2_; clear n0_ n1_ n2_; (try clear hb); (try clear hb2); (try clear hk); (try clear hi); have hcz15_0 : w14.cell? ⟨gb191, 0, none⟩ = some (.slice A0_0 l0_0.length c0_0) := (blk_cell BK191.out 0).trans rfl; have hfz15_0 := blk_frozen BK191.out 0; have hcz16_0 : w14.cell? ⟨gb192, 0, none⟩ = some (.slice A1_0 l1_0.length c1_0) := (blk_cell BK192.out 0).trans rfl; have hfz16_0 := blk_frozen BK192.out 0) | (go_at_call 64; (with_reducible refine (virgationref01_Equal.calls k _ _ l0_0 _ _ l1_0 t195 _ ?side1 ?side2 ?side3 ?side4 A7.out).mono ?_); (case side1 => repeat (first | exact (Kd.C_below HR0_0.out HB.out) | (with_reducible refine Kd.C_alloc ?_ _) | (with_reducible refine Kd.C_drewN ?_ _) | (with_reducible refine Kd.C_drew ?_))); (case side2 => exact HC0_0.out); (case side3 => repeat (first | exact (Kd.C_below HR1_0.out HB.out) | (with_reducible refine Kd.C_alloc ?_ _) | (with_reducible refine Kd.C_drewN ?_ _) | (with_reducible refine Kd.C_drew ?_))); (case side4 => exact HC1_0.out); rintro e w17 ⟨rfl, hb⟩; have n0_ := Aside0.mk (blk_below (g := gb191) (o := .cells #[.slice A0_0 l0_0.length c0_0] 41 (0, 0)) (by (with_reducible repeat (first | refine blk_drewN ?_ _ | refine blk_drew ?_ | refine blk_alloc ?_ _)); exact BK191.out) hb); have n1_ := Aside0.mk (blk_below (g := gb192) (o := .cells #[.slice A1_0 l1_0.length c1_0] 41 (0, 0)) (by (with_reducible repeat (first | refine blk_drewN ?_ _ | refine blk_drew ?_ | refine blk_alloc ?_ _)); exact BK192.out) hb); have n2_ := Aside0.mk (below_step (by repeat (first | (with_reducible first | exact HB.out | apply below_alloc | apply pw_below_drewN | apply below_drew1 | refine below_set ?_ GE191.out | refine below_set ?_ GE192.out) | exact HB.out)) hb); clear BK191; clear BK192; clear HB; have BK191 := n0_; have BK192 := n1_; have HB := n2_; clear n0_ n1_ n2_; (try clear hb); (try clear hb2); (try clear hk); (try clear hi)))
      go_ret
      exact ⟨by first | rfl | (simp [errW_none, errW_some] <;> rfl) | (simp [*, errW_none, errW_some] <;> rfl), by repeat (first | (with_reducible first | exact HB.out | apply below_alloc | apply pw_below_drewN | apply below_drew1 | refine below_set ?_ GE191.out | refine below_set ?_ GE192.out) | exact HB.out)⟩
    · rw [if_neg c6] at H
      have c6b0 : decide (t194 ≤ 60) = false := decide_eq_false c6
      clear c6
      obtain rfl := Option.some.inj H
      go_enter Try.func49, Try.ntmps49
      go_wp2_with (first | ((with_reducible refine gate_dst (N := 2) rfl ?_); refine box_event ?hg (N := 2) ?hd (cs := #[.slice A0_0 l0_0.length c0_0]) (t := 41) ?hr ?_; (case hd => rfl); (case hg => rfl); (case hr => first | (go_simp; done) | (go_simp; rfl)); intro gb191 hg w18 hbox hb; have n0_ := Aside0.mk (below_step (by repeat (first | (with_reducible first | exact HB.out | apply below_alloc | apply pw_below_drewN | apply below_drew1) | exact HB.out)) hb); have n1_ := Aside0.mk (hbox); have n2_ := Aside0.mk ((by rw [hg]; exact (below_size (by repeat (first | (with_reducible first | exact HB.out | apply below_alloc | apply pw_below_drewN | apply below_drew1) | exact HB.out))) : w.heap.size ≤ gb191)); have n3_ := Aside0.mk ((by rw [hg]; exact (below_size (by repeat (first | (with_reducible first | exact HB.out | apply below_alloc | apply pw_below_drewN | apply below_drew1) | exact HB.out))) : w.heap.size ≤ gb191)); clear HB; have HB := n0_; have BK191 := n1_; have GW191 := n2_; have GE191 := n3_; clear n0_ n1_ n2_ n3_; clear hb hbox hg) | ((with_reducible refine gate_dst (N := 3) rfl ?_); refine box_event ?hg (N := 3) ?hd (cs := #[.slice A1_0 l1_0.length c1_0]) (t := 41) ?hr ?_; (case hd => rfl); (case hg => rfl); (case hr => first | (go_simp; done) | (go_simp; rfl)); intro gb192 hg w19 hbox hb; have n0_ := Aside0.mk (blk_below (g := gb191) (o := .cells #[.slice A0_0 l0_0.length c0_0] 41 (0, 0)) (by (with_reducible repeat (first | refine blk_drewN ?_ _ | refine blk_drew ?_ | refine blk_alloc ?_ _)); exact BK191.out) hb); have n1_ := Aside0.mk (below_step (by repeat (first | (with_reducible first | exact HB.out | apply below_alloc | apply pw_below_drewN | apply below_drew1 | refine below_set ?_ GE191.out) | exact HB.out)) hb); have n2_ := Aside0.mk (hbox); have n3_ := Aside0.mk ((by rw [hg]; exact (below_size (by repeat (first | (with_reducible first | exact HB.out | apply below_alloc | apply pw_below_drewN | apply below_drew1 | refine below_set ?_ GE191.out) | exact HB.out))) : w.heap.size ≤ gb192)); have n4_ := Aside0.mk ((by rw [hg]; exact (below_size (by repeat (first | (with_reducible first | exact HB.out | apply below_alloc | apply pw_below_drewN | apply below_drew1 | refine below_set ?_ GE191.out) | exact HB.out))) : w.heap.size ≤ gb192)); have n5_ := Aside0.mk ((by rw [hg]; exact Nat.ne_of_lt (blk_lt (g := gb191) (o := .cells #[.slice A0_0 l0_0.length c0_0] 41 (0, 0)) (by (with_reducible repeat (first | refine blk_drewN ?_ _ | refine blk_drew ?_ | refine blk_alloc ?_ _)); exact BK191.out)) : gb191 ≠ gb192)); have n6_ := Aside0.mk ((by rw [hg]; exact Nat.ne_of_gt (blk_lt (g := gb191) (o := .cells #[.slice A0_0 l0_0.length c0_0] 41 (0, 0)) (by (with_reducible repeat (first | refine blk_drewN ?_ _ | refine blk_drew ?_ | refine blk_alloc ?_ _)); exact BK191.out)) : gb192 ≠ gb191)); clear BK191; clear HB; have BK191 := n0_; have HB := n1_; have BK192 := n2_; have GW192 := n3_; have GE192 := n4_; have NB191_192 := n5_; have NB192_191 := n6_; clear n0_ n1_ n2_ n3_ n4_ n5_ n6_; clear hb hbox hg; have hnb20 := NB191_192.out; have hnc20 := NB192_191.out; have hcz21_0 : w19.cell? ⟨gb191, 0, none⟩ = some (.slice A0_0 l0_0.length c0_0) := (blk_cell BK191.out 0).trans rfl; have hfz21_0 := blk_frozen BK191.out 0) | ((with_reducible refine gate_callee (f := 19) rfl ?_); refine goesL_ (some 6) rfl rfl Try.func19 (by kernel_rfl) rfl #[.agg #[.slice A0_0 l0_0.length c0_0], .int .i64 60] rfl (by (try simp only [List.map_toArray, List.map_cons, List.map_nil]); first | done | rfl | (simp only [List.length_drop, List.length_take]; rfl)) ?_; (with_reducible refine (virgationref01_Nodes.calls k _ _ l0_0 60 t193 _ ?side1 ?side2 A3.out).mono ?_); (case side1 => repeat (first | exact (Kd.C_below HR0_0.out HB.out) | (with_reducible refine Kd.C_alloc ?_ _) | (with_reducible refine Kd.C_drewN ?_ _) | (with_reducible refine Kd.C_drew ?_))); (case side2 => exact HC0_0.out); rintro e w22 ⟨rfl, hb⟩; refine ⟨_, rfl, ?_⟩; have n0_ := Aside0.mk (blk_below (g := gb191) (o := .cells #[.slice A0_0 l0_0.length c0_0] 41 (0, 0)) (by (with_reducible repeat (first | refine blk_drewN ?_ _ | refine blk_drew ?_ | refine blk_alloc ?_ _)); exact BK191.out) hb); have n1_ := Aside0.mk (blk_below (g := gb192) (o := .cells #[.slice A1_0 l1_0.length c1_0] 41 (0, 0)) (by (with_reducible repeat (first | refine blk_drewN ?_ _ | refine blk_drew ?_ | refine blk_alloc ?_ _)); exact BK192.out) hb); have n2_ := Aside0.mk (below_step (by repeat (first | (with_reducible first | exact HB.out | apply below_alloc | apply pw_below_drewN | apply below_drew1 | refine below_set ?_ GE191.out | refine below_set ?_ GE192.out) | exact HB.out)) hb); clear BK191; clear BK192; clear HB; have BK191 := n0_; have BK192 := n1_; have HB := n2_; clear n0_ n1_ n2_; (try clear hb); (try clear hb2); (try clear hk); (try clear hi); have hcz23_0 : w22.cell? ⟨gb192, 0, none⟩ = some (.slice A1_0 l1_0.length c1_0) := (blk_cell BK192.out 0).trans rfl; have hfz23_0 := blk_frozen BK192.out 0) | (go_at_call 19; (with_reducible refine (virgationref01_Nodes.calls k _ _ l1_0 60 t194 _ ?side1 ?side2 A5.out).mono ?_); (case side1 => repeat (first | exact (Kd.C_below HR1_0.out HB.out) | (with_reducible refine Kd.C_alloc ?_ _) | (with_reducible refine Kd.C_drewN ?_ _) | (with_reducible refine Kd.C_drew ?_))); (case side2 => exact HC1_0.out); rintro e w24 ⟨rfl, hb⟩; have n0_ := Aside0.mk (blk_below (g := gb191) (o := .cells #[.slice A0_0 l0_0.length c0_0] 41 (0, 0)) (by (with_reducible repeat (first | refine blk_drewN ?_ _ | refine blk_drew ?_ | refine blk_alloc ?_ _)); exact BK191.out) hb); have n1_ := Aside0.mk (blk_below (g := gb192) (o := .cells #[.slice A1_0 l1_0.length c1_0] 41 (0, 0)) (by (with_reducible repeat (first | refine blk_drewN ?_ _ | refine blk_drew ?_ | refine blk_alloc ?_ _)); exact BK192.out) hb); have n2_ := Aside0.mk (below_step (by repeat (first | (with_reducible first | exact HB.out | apply below_alloc | apply pw_below_drewN | apply below_drew1 | refine below_set ?_ GE191.out | refine below_set ?_ GE192.out) | exact HB.out)) hb); clear BK191; clear BK192; clear HB; have BK191 := n0_; have BK192 := n1_; have HB := n2_; clear n0_ n1_ n2_; (try clear hb); (try clear hb2); (try clear hk); (try clear hi)))
      go_ret
      exact ⟨by first | rfl | (simp [errW_none, errW_some] <;> rfl) | (simp [*, errW_none, errW_some] <;> rfl), by repeat (first | (with_reducible first | exact HB.out | apply below_alloc | apply pw_below_drewN | apply below_drew1 | refine below_set ?_ GE191.out | refine below_set ?_ GE192.out) | exact HB.out)⟩
  · rw [if_neg c4] at H
    have c4b0 : decide (t193 ≤ 60) = false := decide_eq_false c4
    clear c4
    obtain rfl := Option.some.inj H
    go_enter Try.func49, Try.ntmps49
    go_wp2_with (first | ((with_reducible refine gate_dst (N := 2) rfl ?_); refine box_event ?hg (N := 2) ?hd (cs := #[.slice A0_0 l0_0.length c0_0]) (t := 41) ?hr ?_; (case hd => rfl); (case hg => rfl); (case hr => first | (go_simp; done) | (go_simp; rfl)); intro gb191 hg w25 hbox hb; have n0_ := Aside0.mk (below_step (by repeat (first | (with_reducible first | exact HB.out | apply below_alloc | apply pw_below_drewN | apply below_drew1) | exact HB.out)) hb); have n1_ := Aside0.mk (hbox); have n2_ := Aside0.mk ((by rw [hg]; exact (below_size (by repeat (first | (with_reducible first | exact HB.out | apply below_alloc | apply pw_below_drewN | apply below_drew1) | exact HB.out))) : w.heap.size ≤ gb191)); have n3_ := Aside0.mk ((by rw [hg]; exact (below_size (by repeat (first | (with_reducible first | exact HB.out | apply below_alloc | apply pw_below_drewN | apply below_drew1) | exact HB.out))) : w.heap.size ≤ gb191)); clear HB; have HB := n0_; have BK191 := n1_; have GW191 := n2_; have GE191 := n3_; clear n0_ n1_ n2_ n3_; clear hb hbox hg) | ((with_reducible refine gate_dst (N := 3) rfl ?_); refine box_event ?hg (N := 3) ?hd (cs := #[.slice A1_0 l1_0.length c1_0]) (t := 41) ?hr ?_; (case hd => rfl); (case hg => rfl); (case hr => first | (go_simp; done) | (go_simp; rfl)); intro gb192 hg w26 hbox hb; have n0_ := Aside0.mk (blk_below (g := gb191) (o := .cells #[.slice A0_0 l0_0.length c0_0] 41 (0, 0)) (by (with_reducible repeat (first | refine blk_drewN ?_ _ | refine blk_drew ?_ | refine blk_alloc ?_ _)); exact BK191.out) hb); have n1_ := Aside0.mk (below_step (by repeat (first | (with_reducible first | exact HB.out | apply below_alloc | apply pw_below_drewN | apply below_drew1 | refine below_set ?_ GE191.out) | exact HB.out)) hb); have n2_ := Aside0.mk (hbox); have n3_ := Aside0.mk ((by rw [hg]; exact (below_size (by repeat (first | (with_reducible first | exact HB.out | apply below_alloc | apply pw_below_drewN | apply below_drew1 | refine below_set ?_ GE191.out) | exact HB.out))) : w.heap.size ≤ gb192)); have n4_ := Aside0.mk ((by rw [hg]; exact (below_size (by repeat (first | (with_reducible first | exact HB.out | apply below_alloc | apply pw_below_drewN | apply below_drew1 | refine below_set ?_ GE191.out) | exact HB.out))) : w.heap.size ≤ gb192)); have n5_ := Aside0.mk ((by rw [hg]; exact Nat.ne_of_lt (blk_lt (g := gb191) (o := .cells #[.slice A0_0 l0_0.length c0_0] 41 (0, 0)) (by (with_reducible repeat (first | refine blk_drewN ?_ _ | refine blk_drew ?_ | refine blk_alloc ?_ _)); exact BK191.out)) : gb191 ≠ gb192)); have n6_ := Aside0.mk ((by rw [hg]; exact Nat.ne_of_gt (blk_lt (g := gb191) (o := .cells #[.slice A0_0 l0_0.length c0_0] 41 (0, 0)) (by (with_reducible repeat (first | refine blk_drewN ?_ _ | refine blk_drew ?_ | refine blk_alloc ?_ _)); exact BK191.out)) : gb192 ≠ gb191)); clear BK191; clear HB; have BK191 := n0_; have HB := n1_; have BK192 := n2_; have GW192 := n3_; have GE192 := n4_; have NB191_192 := n5_; have NB192_191 := n6_; clear n0_ n1_ n2_ n3_ n4_ n5_ n6_; clear hb hbox hg; have hnb27 := NB191_192.out; have hnc27 := NB192_191.out; have hcz28_0 : w26.cell? ⟨gb191, 0, none⟩ = some (.slice A0_0 l0_0.length c0_0) := (blk_cell BK191.out 0).trans rfl; have hfz28_0 := blk_frozen BK191.out 0) | ((with_reducible refine gate_callee (f := 19) rfl ?_); refine goesL_ (some 6) rfl rfl Try.func19 (by kernel_rfl) rfl #[.agg #[.slice A0_0 l0_0.length c0_0], .int .i64 60] rfl (by (try simp only [List.map_toArray, List.map_cons, List.map_nil]); first | done | rfl | (simp only [List.length_drop, List.length_take]; rfl)) ?_; (with_reducible refine (virgationref01_Nodes.calls k _ _ l0_0 60 t193 _ ?side1 ?side2 A3.out).mono ?_); (case side1 => repeat (first | exact (Kd.C_below HR0_0.out HB.out) | (with_reducible refine Kd.C_alloc ?_ _) | (with_reducible refine Kd.C_drewN ?_ _) | (with_reducible refine Kd.C_drew ?_))); (case side2 => exact HC0_0.out); rintro e w29 ⟨rfl, hb⟩; refine ⟨_, rfl, ?_⟩; have n0_ := Aside0.mk (blk_below (g := gb191) (o := .cells #[.slice A0_0 l0_0.length c0_0] 41 (0, 0)) (by (with_reducible repeat (first | refine blk_drewN ?_ _ | refine blk_drew ?_ | refine blk_alloc ?_ _)); exact BK191.out) hb); have n1_ := Aside0.mk (blk_below (g := gb192) (o := .cells #[.slice A1_0 l1_0.length c1_0] 41 (0, 0)) (by (with_reducible repeat (first | refine blk_drewN ?_ _ | refine blk_drew ?_ | refine blk_alloc ?_ _)); exact BK192.out) hb); have n2_ := Aside0.mk (below_step (by repeat (first | (with_reducible first | exact HB.out | apply below_alloc | apply pw_below_drewN | apply below_drew1 | refine below_set ?_ GE191.out | refine below_set ?_ GE192.out) | exact HB.out)) hb); clear BK191; clear BK192; clear HB; have BK191 := n0_; have BK192 := n1_; have HB := n2_; clear n0_ n1_ n2_; (try clear hb); (try clear hb2); (try clear hk); (try clear hi)))
    go_ret
    exact ⟨by first | rfl | (simp [errW_none, errW_some] <;> rfl) | (simp [*, errW_none, errW_some] <;> rfl), by repeat (first | (with_reducible first | exact HB.out | apply below_alloc | apply pw_below_drewN | apply below_drew1 | refine below_set ?_ GE191.out | refine below_set ?_ GE192.out) | exact HB.out)⟩
end Go.Proofs.Ytfhgoebgnilfaaa.I
namespace Go.Proofs.Ytfhgoebgnilfaaa.I
open Go.RowKit
set_option linter.unusedVariables false
/-- A finite sort: o, or an arrow. -/
inductive KT where
  | o : KT
  | ar : KT → KT → KT
def KT.sz : KT → Nat
  | .o => 1
  | .ar a b => a.sz + b.sz + 1
/-- The kinds' equations hold. -/
def Sol (s : List KN) (ρ : Nat → KT) : Prop :=
  ∀ (i : Nat) (n : KN), s[i]? = some n → (∀ j, n.lk = some j → ρ i = ρ j) ∧ (n.bs = true → ρ i = .o) ∧ (∀ a t, n.fr = some a → n.tk = some t → ρ i = .ar (ρ a) (ρ t))
/-- A store without rings: a height falls along all pointers. -/
structure WF (s : List KN) (h : Nat → Nat) : Prop where
  rng : ∀ (i : Nat) (n : KN), s[i]? = some n → inS s.length n.lk ∧ inS s.length n.fr ∧ inS s.length n.tk
  arr : ∀ (i : Nat) (n : KN), s[i]? = some n → (n.fr = none ↔ n.tk = none)
  bas : ∀ (i : Nat) (n : KN), s[i]? = some n → n.bs = true → n.fr = none
  lnk : ∀ (i : Nat) (n : KN), s[i]? = some n → n.lk ≠ none → n.bs = false ∧ n.fr = none
  dec : ∀ (i : Nat) (n : KN), s[i]? = some n → (∀ j, n.lk = some j → h j < h i) ∧ (∀ j, n.fr = some j → h j < h i) ∧ (∀ j, n.tk = some j → h j < h i)
theorem fend_le {s : List KN} {i r : Nat} {k k' : Nat} (hk : k ≤ k') (h : fend s k i = some r) : fend s k' i = some r := by
  induction hk with
  | refl => exact h
  | step _ ih => exact fend_s s _ _ _ ih
theorem fwithin_le {s : List KN} {k i : Nat} {b : Bool} {f f' : Nat} (hf : f ≤ f') (h : fwithin s f k i = some b) : fwithin s f' k i = some b := by
  induction hf with
  | refl => exact h
  | step _ ih => exact fwithin_s s _ _ _ _ ih
theorem fjoin_le {s : List KN} {a b : Nat} {r : Bool × List KN} {f f' : Nat} (hf : f ≤ f') (h : fjoin f s a b = some r) : fjoin f' s a b = some r := by
  induction hf with
  | refl => exact h
  | step _ ih => exact fjoin_s _ _ _ _ _ ih
theorem fend_ok {s : List KN} : ∀ {f i r : Nat}, fend s f i = some r → (∃ n, s[r]? = some n ∧ n.lk = none) ∧ (∀ ρ, Sol s ρ → ρ i = ρ r) ∧ (∀ h, WF s h → h r ≤ h i)
  | 0, i, r, e => by simp [fend] at e
  | f + 1, i, r, e => by
    unfold fend at e
    cases hn : s[i]? with
    | none => rw [hn] at e; cases e
    | some n =>
      rw [hn] at e
      simp only at e
      cases hl : n.lk with
      | none =>
        rw [hl] at e
        injection e with e
        subst e
        exact ⟨⟨n, hn, hl⟩, fun _ _ => rfl, fun _ _ => Nat.le_refl _⟩
      | some j =>
        rw [hl] at e
        obtain ⟨h1, h2, h3⟩ := fend_ok e
        exact ⟨h1, fun ρ hs => ((hs i n hn).1 j hl).trans (h2 ρ hs), fun h w => Nat.le_trans (h3 h w) (Nat.le_of_lt ((w.dec i n hn).1 j hl))⟩
theorem fend_tot {s : List KN} {h : Nat → Nat} (w : WF s h) : ∀ (m i : Nat), h i < m → i < s.length → ∃ r, fend s m i = some r
  | 0, i, hm, hi => absurd hm (by omega)
  | m + 1, i, hm, hi => by
    have hn := List.getElem?_eq_getElem hi
    unfold fend
    rw [hn]
    simp only
    cases hl : (s[i]).lk with
    | none => exact ⟨i, rfl⟩
    | some j =>
      have hd := (w.dec i _ hn).1 j hl
      exact fend_tot w m j (by omega) ((w.rng i _ hn).1 j hl)
theorem fend_self {s : List KN} {i : Nat} {n : KN} (f : Nat) (hn : s[i]? = some n) (hl : n.lk = none) : fend s (f + 1) i = some i := by
  unfold fend
  rw [hn]
  simp only
  rw [hl]
theorem fwithin_tot {s : List KN} {h : Nat → Nat} (w : WF s h) (k : Nat) : ∀ (m i : Nat), h i + 2 ≤ m → i < s.length → ∃ b, fwithin s m k i = some b
  | 0, i, hm, hi => absurd hm (by omega)
  | m + 1, i, hm, hi => by
    obtain ⟨r, hr⟩ := fend_tot w m i (by omega) hi
    obtain ⟨⟨n, hn, hl⟩, _, h3⟩ := fend_ok hr
    have hle := h3 h w
    unfold fwithin
    rw [hr]
    simp only
    by_cases hk : k = r
    · rw [if_pos hk]; exact ⟨true, rfl⟩
    · rw [if_neg hk, hn]
      simp only
      cases hf : n.fr with
      | none => exact ⟨false, rfl⟩
      | some a =>
        have ha := (w.dec r n hn).2.1 a hf
        obtain ⟨b, hb⟩ := fwithin_tot w k m a (by omega) ((w.rng r n hn).2.1 a hf)
        simp only
        rw [hb]
        cases b with
        | true => exact ⟨true, rfl⟩
        | false =>
          simp only
          cases ht : n.tk with
          | none => exact absurd ((w.arr r n hn).2 ht) (by rw [hf]; simp)
          | some t =>
            have htd := (w.dec r n hn).2.2 t ht
            exact fwithin_tot w k m t (by omega) ((w.rng r n hn).2.2 t ht)
theorem KT.sz_pos (t : KT) : 0 < t.sz := by cases t <;> simp [KT.sz]
theorem fwithin_sz {s : List KN} {k : Nat} {ρ : Nat → KT} (harr : ∀ (i : Nat) (n : KN), s[i]? = some n → (n.fr = none ↔ n.tk = none)) (hs : Sol s ρ) : ∀ {f i : Nat}, fwithin s f k i = some true → (ρ k).sz ≤ (ρ i).sz
  | 0, i, e => by simp [fwithin] at e
  | f + 1, i, e => by
    unfold fwithin at e
    cases hr : fend s f i with
    | none => rw [hr] at e; cases e
    | some r =>
      rw [hr] at e
      simp only at e
      obtain ⟨_, h2, _⟩ := fend_ok hr
      rw [h2 ρ hs]
      by_cases hk : k = r
      · rw [hk]; exact Nat.le_refl _
      · rw [if_neg hk] at e
        cases hn : s[r]? with
        | none => rw [hn] at e; cases e
        | some n =>
          rw [hn] at e
          simp only at e
          cases hf : n.fr with
          | none => rw [hf] at e; cases e
          | some a =>
            rw [hf] at e
            simp only at e
            cases hw : fwithin s f k a with
            | none => rw [hw] at e; cases e
            | some b =>
              rw [hw] at e
              cases ht : n.tk with
              | none => exact absurd ((harr r n hn).2 ht) (by rw [hf]; simp)
              | some t =>
                have h3 := (hs r n hn).2.2 a t hf ht
                rw [h3, KT.sz]
                cases b with
                | true =>
                  have h4 := fwithin_sz harr hs hw
                  omega
                | false =>
                  simp only at e
                  rw [ht] at e
                  have h4 := fwithin_sz harr hs e
                  omega
/-- k is met on the way down from a kind. -/
inductive Reach (s : List KN) (k : Nat) : Nat → Prop
  | here : Reach s k k
  | lk {i j : Nat} {n : KN} : s[i]? = some n → n.lk = some j → Reach s k j → Reach s k i
  | fr {i j : Nat} {n : KN} : s[i]? = some n → n.fr = some j → Reach s k j → Reach s k i
  | tk {i j : Nat} {n : KN} : s[i]? = some n → n.tk = some j → Reach s k j → Reach s k i
theorem reach_end {s : List KN} {h : Nat → Nat} (w : WF s h) {k : Nat} {nk : KN} (hk : s[k]? = some nk) (hl : nk.lk = none) : ∀ {f i r : Nat}, fend s f i = some r → Reach s k i → Reach s k r
  | 0, i, r, e, _ => by simp [fend] at e
  | f + 1, i, r, e, hr => by
    unfold fend at e
    cases hn : s[i]? with
    | none => rw [hn] at e; cases e
    | some n =>
      rw [hn] at e
      simp only at e
      cases hll : n.lk with
      | none => rw [hll] at e; injection e with e; rw [← e]; exact hr
      | some j =>
        rw [hll] at e
        have hj : Reach s k j := by
          cases hr with
          | here => rw [hk] at hn; injection hn with hn; rw [hn] at hl; rw [hl] at hll; cases hll
          | lk h1 h2 h3 => rw [hn] at h1; injection h1 with h1; rw [← h1] at h2; rw [hll] at h2; injection h2 with h2; rw [h2]; exact h3
          | fr h1 h2 h3 => rw [hn] at h1; injection h1 with h1; rw [← h1] at h2; have := (w.lnk i n hn (by rw [hll]; simp)).2; rw [this] at h2; cases h2
          | tk h1 h2 h3 => rw [hn] at h1; injection h1 with h1; rw [← h1] at h2; have h4 := (w.lnk i n hn (by rw [hll]; simp)).2; have := (w.arr i n hn).1 h4; rw [this] at h2; cases h2
        exact reach_end w hk hl e hj
theorem fwithin_false {s : List KN} {h : Nat → Nat} (w : WF s h) {k : Nat} {nk : KN} (hk : s[k]? = some nk) (hl : nk.lk = none) : ∀ {f i : Nat}, fwithin s f k i = some false → ¬ Reach s k i
  | 0, i, e, _ => by simp [fwithin] at e
  | f + 1, i, e, hr => by
    unfold fwithin at e
    cases hre : fend s f i with
    | none => rw [hre] at e; cases e
    | some r =>
      rw [hre] at e
      simp only at e
      obtain ⟨⟨n, hn, hnl⟩, _, _⟩ := fend_ok hre
      have hrr := reach_end w hk hl hre hr
      by_cases hkr : k = r
      · rw [if_pos hkr] at e; cases e
      · rw [if_neg hkr, hn] at e
        simp only at e
        cases hf : n.fr with
        | none =>
          have ht := (w.arr r n hn).1 hf
          cases hrr with
          | here => exact hkr rfl
          | lk h1 h2 h3 => rw [hn] at h1; injection h1 with h1; rw [← h1, hnl] at h2; cases h2
          | fr h1 h2 h3 => rw [hn] at h1; injection h1 with h1; rw [← h1, hf] at h2; cases h2
          | tk h1 h2 h3 => rw [hn] at h1; injection h1 with h1; rw [← h1, ht] at h2; cases h2
        | some a =>
          rw [hf] at e
          simp only at e
          cases hw : fwithin s f k a with
          | none => rw [hw] at e; cases e
          | some b =>
            rw [hw] at e
            cases b with
            | true => cases e
            | false =>
              simp only at e
              cases ht : n.tk with
              | none => rw [ht] at e; cases e
              | some t =>
                rw [ht] at e
                cases hrr with
                | here => exact hkr rfl
                | lk h1 h2 h3 => rw [hn] at h1; injection h1 with h1; rw [← h1, hnl] at h2; cases h2
                | fr h1 h2 h3 => rw [hn] at h1; injection h1 with h1; rw [← h1, hf] at h2; injection h2 with h2; subst h2; exact fwithin_false w hk hl hw h3
                | tk h1 h2 h3 => rw [hn] at h1; injection h1 with h1; rw [← h1, ht] at h2; injection h2 with h2; subst h2; exact fwithin_false w hk hl e h3
/-- How many kinds are still open. -/
def opn (n : KN) : Bool := n.lk.isNone && !n.bs && n.fr.isNone
def US (s : List KN) : Nat := s.countP opn
theorem countP_set_lt : ∀ (s : List KN) (i : Nat) (x y : KN), s[i]? = some x → opn x = true → opn y = false → (s.set i y).countP opn < s.countP opn
  | [], i, x, y, h, _, _ => by simp at h
  | z :: s, 0, x, y, h, hx, hy => by
    injection h with h
    subst h
    rw [List.set_cons_zero, List.countP_cons, List.countP_cons, if_pos hx, if_neg (by rw [hy]; simp)]
    omega
  | z :: s, i + 1, x, y, h, hx, hy => by
    have := countP_set_lt s i x y h hx hy
    rw [List.set_cons_succ, List.countP_cons, List.countP_cons]
    omega
open Classical in
/-- An open kind is linked to one in which it is not. -/
theorem WF.link {s : List KN} {h : Nat → Nat} (w : WF s h) {p q : Nat} {x : KN} (hp : s[p]? = some x) (hxl : x.lk = none) (hxb : x.bs = false) (hxf : x.fr = none) (hq : q < s.length) (hr : ¬ Reach s p q) :
    (∃ h', WF (setlk s p x q) h') ∧ US (setlk s p x q) < US s ∧ ∀ ρ, Sol (setlk s p x q) ρ ↔ Sol s ρ ∧ ρ p = ρ q := by
  have hpl : p < s.length := (List.getElem?_eq_some_iff.1 hp).1
  have hxt := (w.arr p x hp).1 hxf
  have get : ∀ (i : Nat) (n : KN), (setlk s p x q)[i]? = some n → (i = p ∧ n = { x with lk := some q }) ∨ (i ≠ p ∧ s[i]? = some n) := by
    intro i n hn
    unfold setlk at hn
    rw [List.getElem?_set] at hn
    by_cases hip : p = i
    · rw [if_pos hip, if_pos (by omega)] at hn
      injection hn with hn
      exact .inl ⟨hip.symm, hn.symm⟩
    · rw [if_neg hip] at hn
      exact .inr ⟨fun e => hip e.symm, hn⟩
  have len : (setlk s p x q).length = s.length := by unfold setlk; rw [List.length_set]
  refine ⟨⟨fun i => if Reach s p i then h i + h q + 1 else h i, ?_, ?_, ?_, ?_, ?_⟩, ?_, ?_⟩
  · intro i n hn
    rw [len]
    rcases get i n hn with ⟨rfl, rfl⟩ | ⟨_, hn⟩
    · exact ⟨fun j hj => by injection hj with hj; omega, (w.rng i x hp).2.1, (w.rng i x hp).2.2⟩
    · exact w.rng i n hn
  · intro i n hn
    rcases get i n hn with ⟨rfl, rfl⟩ | ⟨_, hn⟩
    · exact w.arr i x hp
    · exact w.arr i n hn
  · intro i n hn
    rcases get i n hn with ⟨rfl, rfl⟩ | ⟨_, hn⟩
    · exact w.bas i x hp
    · exact w.bas i n hn
  · intro i n hn
    rcases get i n hn with ⟨rfl, rfl⟩ | ⟨_, hn⟩
    · exact fun _ => ⟨hxb, hxf⟩
    · exact w.lnk i n hn
  · have down : ∀ (i j : Nat), h j < h i → (Reach s p j → Reach s p i) → (if Reach s p j then h j + h q + 1 else h j) < (if Reach s p i then h i + h q + 1 else h i) := by
      intro i j hlt himp
      by_cases hj : Reach s p j
      · rw [if_pos hj, if_pos (himp hj)]; omega
      · rw [if_neg hj]
        by_cases hi : Reach s p i
        · rw [if_pos hi]; omega
        · rw [if_neg hi]; exact hlt
    intro i n hn
    rcases get i n hn with ⟨rfl, rfl⟩ | ⟨_, hn⟩
    · refine ⟨fun j hj => ?_, fun j hj => ?_, fun j hj => ?_⟩
      · injection hj with hj
        subst hj
        show (if Reach s i q then h q + h q + 1 else h q) < (if Reach s i i then h i + h q + 1 else h i)
        rw [if_neg hr, if_pos Reach.here]
        omega
      · have : x.fr = some j := hj
        rw [hxf] at this
        cases this
      · have : x.tk = some j := hj
        rw [hxt] at this
        cases this
    · exact ⟨fun j hj => down i j ((w.dec i n hn).1 j hj) (fun r => Reach.lk hn hj r), fun j hj => down i j ((w.dec i n hn).2.1 j hj) (fun r => Reach.fr hn hj r), fun j hj => down i j ((w.dec i n hn).2.2 j hj) (fun r => Reach.tk hn hj r)⟩
  · unfold US setlk
    exact countP_set_lt s p x _ hp (by unfold opn; rw [hxl, hxb, hxf]; rfl) (by unfold opn; rfl)
  · intro ρ
    constructor
    · intro hs
      have hq' : ρ p = ρ q := (hs p { x with lk := some q } (by unfold setlk; rw [List.getElem?_set, if_pos rfl, if_pos hpl])).1 q rfl
      refine ⟨fun i n hn => ?_, hq'⟩
      by_cases hip : i = p
      · subst hip
        rw [hp] at hn
        injection hn with hn
        subst hn
        refine ⟨fun j hj => (by rw [hxl] at hj; cases hj), fun hb => (by rw [hxb] at hb; cases hb), fun a t ha _ => (by rw [hxf] at ha; cases ha)⟩
      · exact hs i n (by unfold setlk; rw [List.getElem?_set, if_neg (fun e => hip e.symm)]; exact hn)
    · rintro ⟨hs, hq'⟩ i n hn
      rcases get i n hn with ⟨rfl, rfl⟩ | ⟨_, hn⟩
      · refine ⟨fun j hj => by injection hj with hj; rw [← hj]; exact hq', fun hb => ?_, fun a t ha _ => ?_⟩
        · have : x.bs = true := hb
          rw [hxb] at this
          cases this
        · have : x.fr = some a := ha
          rw [hxf] at this
          cases this
      · exact hs i n hn
/-- What a join comes to. -/
structure Joined (s : List KN) (h : Nat → Nat) (a b : Nat) (r : Bool) (s' : List KN) : Prop where
  yes : r = true → ∃ h', WF s' h' ∧ ((s' = s ∧ h' = h) ∨ US s' < US s)
  sol : r = true → ∀ ρ, Sol s' ρ ↔ Sol s ρ ∧ ρ a = ρ b
  no : r = false → ∀ ρ, Sol s ρ → ρ a ≠ ρ b
/-- The first kind is open. -/
theorem join_open {s : List KN} {h : Nat → Nat} (w : WF s h) {a b p q : Nat} {f : Nat} (ha : fend s f a = some p) (hb : fend s f b = some q) (hpq : p ≠ q) {x : KN} (hx : s[p]? = some x) (hxb : x.bs = false) (hxf : x.fr = none) :
    ∃ f r s', fjoin f s a b = some (r, s') ∧ Joined s h a b r s' := by
  obtain ⟨⟨x', hx', hxl⟩, sa, _⟩ := fend_ok ha
  rw [hx] at hx'
  injection hx' with hx'
  subst hx'
  obtain ⟨⟨y, hy, hyl⟩, sb, _⟩ := fend_ok hb
  have hql : q < s.length := fend_lt hb
  obtain ⟨bw, hw⟩ := fwithin_tot w p (h q + 2) q (Nat.le_refl _) hql
  have hw' := fwithin_le (Nat.le_max_right f (h q + 2)) hw
  have ha' := fend_le (Nat.le_max_left f (h q + 2)) ha
  have hb' := fend_le (Nat.le_max_left f (h q + 2)) hb
  generalize max f (h q + 2) = F at *
  refine ⟨F + 1, ?_⟩
  have hxl' := hxl
  cases bw with
  | true =>
    refine ⟨false, s, ?_, fun e => (by cases e), fun e => (by cases e), fun _ ρ hs e => ?_⟩
    · unfold fjoin
      rw [ha', hb']
      simp only
      rw [if_neg hpq, hx, hy]
      simp only
      rw [if_pos ⟨hxb, hxf⟩, hw']
    · have e2 : ρ p = ρ q := by rw [← sa ρ hs, ← sb ρ hs]; exact e
      -- q holds p strictly
      cases F with
      | zero => simp [fwithin] at hw'
      | succ F =>
      cases F with
      | zero => simp [fwithin, fend] at hw'
      | succ F =>
        unfold fwithin at hw'
        rw [fend_self F hy hyl] at hw'
        simp only at hw'
        rw [if_neg hpq, hy] at hw'
        simp only at hw'
        cases hf : y.fr with
        | none => rw [hf] at hw'; cases hw'
        | some c =>
          rw [hf] at hw'
          simp only at hw'
          cases ht : y.tk with
          | none => exact absurd ((w.arr q y hy).2 ht) (by rw [hf]; simp)
          | some t =>
            have h3 := (hs q y hy).2.2 c t hf ht
            cases hc : fwithin s (F + 1) p c with
            | none => rw [hc] at hw'; cases hw'
            | some bc =>
              rw [hc] at hw'
              have e3 : (ρ q).sz = (ρ c).sz + (ρ t).sz + 1 := by rw [h3, KT.sz]
              have p1 := (ρ c).sz_pos
              have p2 := (ρ t).sz_pos
              rw [← e2] at e3
              cases bc with
              | true => have := fwithin_sz w.arr hs hc; omega
              | false =>
                simp only at hw'
                rw [ht] at hw'
                have := fwithin_sz w.arr hs hw'
                omega
  | false =>
    have hnr := fwithin_false w hx hxl' hw'
    obtain ⟨⟨h', w'⟩, hU, hS⟩ := w.link hx hxl' hxb hxf hql hnr
    refine ⟨true, setlk s p x q, ?_, fun _ => ⟨h', w', .inr hU⟩, fun _ ρ => ?_, fun e => (by cases e)⟩
    · unfold fjoin
      rw [ha', hb']
      simp only
      rw [if_neg hpq, hx, hy]
      simp only
      rw [if_pos ⟨hxb, hxf⟩, hw']
    · rw [hS ρ]
      constructor
      · rintro ⟨h1, h2⟩
        exact ⟨h1, by rw [sa ρ h1, sb ρ h1]; exact h2⟩
      · rintro ⟨h1, h2⟩
        exact ⟨h1, by rw [← sa ρ h1, ← sb ρ h1]; exact h2⟩
theorem join_main : ∀ (n m : Nat) (s : List KN) (h : Nat → Nat) (a b : Nat), WF s h → a < s.length → b < s.length → US s ≤ n → h a + h b ≤ m → ∃ f r s', fjoin f s a b = some (r, s') ∧ Joined s h a b r s' := by
  intro n
  induction n using Nat.strongRecOn with
  | _ n ihn =>
  intro m
  induction m using Nat.strongRecOn with
  | _ m ihm =>
  intro s h a b w hal hbl hU hm
  obtain ⟨p, hp⟩ := fend_tot w (h a + 1) a (by omega) hal
  obtain ⟨q, hq⟩ := fend_tot w (h b + 1) b (by omega) hbl
  have hp := fend_le (Nat.le_max_left (h a + 1) (h b + 1)) hp
  have hq := fend_le (Nat.le_max_right (h a + 1) (h b + 1)) hq
  generalize max (h a + 1) (h b + 1) = F at *
  obtain ⟨⟨x, hx, hxl⟩, sa, la⟩ := fend_ok hp
  obtain ⟨⟨y, hy, hyl⟩, sb, lb⟩ := fend_ok hq
  have la := la h w
  have lb := lb h w
  have hpl : p < s.length := fend_lt hp
  have hql : q < s.length := fend_lt hq
  by_cases hpq : p = q
  · refine ⟨F + 1, true, s, ?_, fun _ => ⟨h, w, .inl ⟨rfl, rfl⟩⟩, fun _ ρ => ?_, fun e => (by cases e)⟩
    · unfold fjoin
      rw [hp, hq]
      simp only
      rw [if_pos hpq]
    · exact ⟨fun hs => ⟨hs, by rw [sa ρ hs, sb ρ hs, hpq]⟩, fun hs => hs.1⟩
  by_cases c1 : x.bs = false ∧ x.fr = none
  · exact join_open w hp hq hpq hx c1.1 c1.2
  by_cases c2 : y.bs = false ∧ y.fr = none
  · cases F with
    | zero => simp [fend] at hp
    | succ F0 =>
    obtain ⟨f, r, s', hj, J⟩ := join_open w (f := F0 + 1) (a := q) (b := p) (fend_self F0 hy hyl) (fend_self F0 hx hxl) (fun e => hpq e.symm) hy c2.1 c2.2
    have hj := fjoin_le (Nat.le_max_right (F0 + 1) f) hj
    have hp := fend_le (Nat.le_max_left (F0 + 1) f) hp
    have hq := fend_le (Nat.le_max_left (F0 + 1) f) hq
    generalize max (F0 + 1) f = G at *
    refine ⟨G + 1, r, s', ?_, J.yes, fun e ρ => ?_, fun e ρ hs e2 => ?_⟩
    · unfold fjoin
      rw [hp, hq]
      simp only
      rw [if_neg hpq, hx, hy]
      simp only
      rw [if_neg c1, if_pos c2]
      exact hj
    · rw [J.sol e ρ]
      constructor
      · rintro ⟨h1, h2⟩; exact ⟨h1, by rw [sa ρ h1, sb ρ h1]; exact h2.symm⟩
      · rintro ⟨h1, h2⟩; exact ⟨h1, by rw [← sa ρ h1, ← sb ρ h1]; exact h2.symm⟩
    · exact J.no e ρ hs (by rw [← sa ρ hs, ← sb ρ hs]; exact e2.symm)
  by_cases c3 : x.bs = true ∨ y.bs = true
  · refine ⟨F + 1, x.bs && y.bs, s, ?_, fun e => ⟨h, w, .inl ⟨rfl, rfl⟩⟩, fun e ρ => ?_, fun e ρ hs e2 => ?_⟩
    · unfold fjoin
      rw [hp, hq]
      simp only
      rw [if_neg hpq, hx, hy]
      simp only
      rw [if_neg c1, if_neg c2, if_pos c3]
    · rw [Bool.and_eq_true] at e
      exact ⟨fun hs => ⟨hs, by rw [sa ρ hs, sb ρ hs, (hs p x hx).2.1 e.1, (hs q y hy).2.1 e.2]⟩, fun hs => hs.1⟩
    · rw [sa ρ hs, sb ρ hs] at e2
      cases hxb : x.bs with
      | true =>
        cases hyb : y.bs with
        | true => rw [hxb, hyb] at e; cases e
        | false =>
          have hyf : y.fr ≠ none := fun e3 => c2 ⟨hyb, e3⟩
          obtain ⟨c, hc⟩ := Option.ne_none_iff_exists'.1 hyf
          have hyt : y.tk ≠ none := fun e3 => hyf ((w.arr q y hy).2 e3)
          obtain ⟨t, ht⟩ := Option.ne_none_iff_exists'.1 hyt
          rw [(hs p x hx).2.1 hxb, (hs q y hy).2.2 c t hc ht] at e2
          cases e2
      | false =>
        have hyb : y.bs = true := by rcases c3 with c | c; rw [hxb] at c; cases c; exact c
        have hxf : x.fr ≠ none := fun e3 => c1 ⟨hxb, e3⟩
        obtain ⟨c, hc⟩ := Option.ne_none_iff_exists'.1 hxf
        have hxt : x.tk ≠ none := fun e3 => hxf ((w.arr p x hx).2 e3)
        obtain ⟨t, ht⟩ := Option.ne_none_iff_exists'.1 hxt
        rw [(hs q y hy).2.1 hyb, (hs p x hx).2.2 c t hc ht] at e2
        cases e2
  -- two arrows
  have hxb : x.bs = false := by cases e : x.bs; rfl; exact absurd (.inl e) c3
  have hyb : y.bs = false := by cases e : y.bs; rfl; exact absurd (.inr e) c3
  have hxf : x.fr ≠ none := fun e3 => c1 ⟨hxb, e3⟩
  have hyf : y.fr ≠ none := fun e3 => c2 ⟨hyb, e3⟩
  obtain ⟨xf, hxf⟩ := Option.ne_none_iff_exists'.1 hxf
  obtain ⟨yf, hyf⟩ := Option.ne_none_iff_exists'.1 hyf
  obtain ⟨xt, hxt⟩ := Option.ne_none_iff_exists'.1 (show x.tk ≠ none from fun e3 => by rw [(w.arr p x hx).2 e3] at hxf; cases hxf)
  obtain ⟨yt, hyt⟩ := Option.ne_none_iff_exists'.1 (show y.tk ≠ none from fun e3 => by rw [(w.arr q y hy).2 e3] at hyf; cases hyf)
  have dx := w.dec p x hx
  have dy := w.dec q y hy
  have d1 := dx.2.1 xf hxf
  have d2 := dx.2.2 xt hxt
  have d3 := dy.2.1 yf hyf
  have d4 := dy.2.2 yt hyt
  have r1 := (w.rng p x hx).2.1 xf hxf
  have r2 := (w.rng p x hx).2.2 xt hxt
  have r3 := (w.rng q y hy).2.1 yf hyf
  have r4 := (w.rng q y hy).2.2 yt hyt
  have ex : ∀ ρ, Sol s ρ → ρ a = .ar (ρ xf) (ρ xt) := fun ρ hs => (sa ρ hs).trans ((hs p x hx).2.2 xf xt hxf hxt)
  have ey : ∀ ρ, Sol s ρ → ρ b = .ar (ρ yf) (ρ yt) := fun ρ hs => (sb ρ hs).trans ((hs q y hy).2.2 yf yt hyf hyt)
  obtain ⟨f1, rj, s1, hj1, J1⟩ := ihm (h xf + h yf) (by omega) s h xf yf w r1 r3 hU (Nat.le_refl _)
  cases rj with
  | false =>
    have hj1 := fjoin_le (Nat.le_max_right F f1) hj1
    have hp := fend_le (Nat.le_max_left F f1) hp
    have hq := fend_le (Nat.le_max_left F f1) hq
    generalize max F f1 = G at *
    refine ⟨G + 1, false, s1, ?_, fun e => (by cases e), fun e => (by cases e), fun _ ρ hs e => ?_⟩
    · unfold fjoin
      rw [hp, hq]
      simp only
      rw [if_neg hpq, hx, hy]
      simp only
      rw [if_neg c1, if_neg c2, if_neg c3, hxf, hyf]
      simp only
      rw [hj1]
    · rw [ex ρ hs, ey ρ hs] at e
      injection e with e1 e2
      exact J1.no rfl ρ hs e1
  | true =>
    obtain ⟨h1, w1, hU1⟩ := J1.yes rfl
    have hS1 := J1.sol rfl
    have sh := fjoin_shape f1 s xf yf true s1 hj1
    obtain ⟨x1, hx1, _, hxt1⟩ := shape_fr (sh p) hx
    obtain ⟨y1, hy1, _, hyt1⟩ := shape_fr (sh q) hy
    rw [hxt] at hxt1
    rw [hyt] at hyt1
    have len : s1.length = s.length := by
      have g := fun k => congrArg Option.isSome (sh k)
      simp only [Option.isSome_map] at g
      by_cases hlt : s1.length < s.length
      · have := g s1.length
        rw [List.getElem?_eq_none (Nat.le_refl _), List.getElem?_eq_getElem hlt] at this
        cases this
      · by_cases hgt : s.length < s1.length
        · have := g s.length
          rw [List.getElem?_eq_none (Nat.le_refl _), List.getElem?_eq_getElem hgt] at this
          cases this
        · omega
    have second : ∃ f r s', fjoin f s1 xt yt = some (r, s') ∧ Joined s1 h1 xt yt r s' ∧ (US s1 ≤ US s) := by
      rcases hU1 with ⟨e1, e2⟩ | hlt
      · subst e1 e2
        obtain ⟨f, r, s', k1, k2⟩ := ihm (h1 xt + h1 yt) (by omega) s1 h1 xt yt w1 r2 r4 hU (Nat.le_refl _)
        exact ⟨f, r, s', k1, k2, Nat.le_refl _⟩
      · obtain ⟨f, r, s', k1, k2⟩ := ihn (US s1) (by omega) (h1 xt + h1 yt) s1 h1 xt yt w1 (by rw [len]; exact r2) (by rw [len]; exact r4) (Nat.le_refl _) (Nat.le_refl _)
        exact ⟨f, r, s', k1, k2, by omega⟩
    obtain ⟨f2, r, s', hj2, J2, hU2⟩ := second
    have hj1 := fjoin_le (Nat.le_trans (Nat.le_max_left f1 f2) (Nat.le_max_right F (max f1 f2))) hj1
    have hj2 := fjoin_le (Nat.le_trans (Nat.le_max_right f1 f2) (Nat.le_max_right F (max f1 f2))) hj2
    have hp := fend_le (Nat.le_max_left F (max f1 f2)) hp
    have hq := fend_le (Nat.le_max_left F (max f1 f2)) hq
    generalize max F (max f1 f2) = G at *
    refine ⟨G + 1, r, s', ?_, fun e => ?_, fun e ρ => ?_, fun e ρ hs e2 => ?_⟩
    · unfold fjoin
      rw [hp, hq]
      simp only
      rw [if_neg hpq, hx, hy]
      simp only
      rw [if_neg c1, if_neg c2, if_neg c3, hxf, hyf]
      simp only
      rw [hj1]
      simp only
      rw [hx1, hy1]
      simp only
      rw [hxt1, hyt1]
      exact hj2
    · obtain ⟨h2, w2, h3⟩ := J2.yes e
      refine ⟨h2, w2, ?_⟩
      rcases h3 with ⟨e1, e2⟩ | h3
      · rcases hU1 with ⟨e3, e4⟩ | hlt
        · exact .inl ⟨e1.trans e3, e2.trans e4⟩
        · exact .inr (by rw [e1]; exact hlt)
      · exact .inr (by omega)
    · rw [J2.sol e ρ, hS1 ρ]
      constructor
      · rintro ⟨⟨k1, k2⟩, k3⟩
        exact ⟨k1, by rw [ex ρ k1, ey ρ k1, k2, k3]⟩
      · rintro ⟨k1, k2⟩
        rw [ex ρ k1, ey ρ k1] at k2
        injection k2 with k2 k3
        exact ⟨⟨k1, k2⟩, k3⟩
    · rw [ex ρ hs, ey ρ hs] at e2
      injection e2 with e3 e4
      exact J2.no e ρ ((hS1 ρ).2 ⟨hs, e3⟩) e4
/-- A join ends, and tells whether the equations and this one hold together. -/
theorem join_ok {s : List KN} {h : Nat → Nat} (w : WF s h) {a b : Nat} (ha : a < s.length) (hb : b < s.length) : ∃ f r s', fjoin f s a b = some (r, s') ∧ Joined s h a b r s' :=
  join_main (US s) (h a + h b) s h a b w ha hb (Nat.le_refl _) (Nat.le_refl _)
end Go.Proofs.Ytfhgoebgnilfaaa.I
namespace Go.Proofs.Ytfhgoebgnilfaaa.I
open Go.RowKit
set_option linter.unusedVariables false
theorem Sol.agree {s : List KN} {h : Nat → Nat} (w : WF s h) {ρ ρ' : Nat → KT} (e : ∀ i, i < s.length → ρ' i = ρ i) (hs : Sol s ρ) : Sol s ρ' := by
  intro i n hn
  have hi : i < s.length := (List.getElem?_eq_some_iff.1 hn).1
  have hr := w.rng i n hn
  refine ⟨fun j hj => ?_, fun hb => ?_, fun a t ha ht => ?_⟩
  · rw [e i hi, e j (hr.1 j hj)]; exact (hs i n hn).1 j hj
  · rw [e i hi]; exact (hs i n hn).2.1 hb
  · rw [e i hi, e a (hr.2.1 a ha), e t (hr.2.2 t ht)]; exact (hs i n hn).2.2 a t ha ht
theorem get_push {s : List KN} {n m : KN} {i : Nat} (h : (s ++ [n])[i]? = some m) : (i < s.length ∧ s[i]? = some m) ∨ (i = s.length ∧ m = n) := by
  by_cases hi : i < s.length
  · rw [List.getElem?_append_left hi] at h
    exact .inl ⟨hi, h⟩
  · have hl : i < (s ++ [n]).length := (List.getElem?_eq_some_iff.1 h).1
    rw [List.length_append] at hl
    simp only [List.length_cons, List.length_nil] at hl
    have hie : i = s.length := by omega
    subst hie
    rw [List.getElem?_append_right (Nat.le_refl _), Nat.sub_self] at h
    injection h with h
    exact .inr ⟨rfl, h.symm⟩
theorem WF.push {s : List KN} {h : Nat → Nat} (w : WF s h) {n : KN} (hl : n.lk = none) (hf : inS s.length n.fr) (ht : inS s.length n.tk) (ha : n.fr = none ↔ n.tk = none) (hb : n.bs = true → n.fr = none) :
    ∃ h', WF (s ++ [n]) h' := by
  refine ⟨fun i => if i < s.length then h i else ((n.fr.map h).getD 0 + (n.tk.map h).getD 0) + 1, ?_, ?_, ?_, ?_, ?_⟩
  · intro i m hm
    have up : ∀ o, inS s.length o → inS (s ++ [n]).length o := fun o ho j hj => by rw [List.length_append]; have := ho j hj; omega
    rcases get_push hm with ⟨hi, hm⟩ | ⟨hi, rfl⟩
    · have := w.rng i m hm
      exact ⟨up _ this.1, up _ this.2.1, up _ this.2.2⟩
    · exact ⟨fun j hj => (by rw [hl] at hj; cases hj), up _ hf, up _ ht⟩
  · intro i m hm
    rcases get_push hm with ⟨hi, hm⟩ | ⟨hi, rfl⟩
    · exact w.arr i m hm
    · exact ha
  · intro i m hm
    rcases get_push hm with ⟨hi, hm⟩ | ⟨hi, rfl⟩
    · exact w.bas i m hm
    · exact hb
  · intro i m hm
    rcases get_push hm with ⟨hi, hm⟩ | ⟨hi, rfl⟩
    · exact w.lnk i m hm
    · exact fun e => absurd hl e
  · intro i m hm
    rcases get_push hm with ⟨hi, hm⟩ | ⟨hi, rfl⟩
    · have hr := w.rng i m hm
      have hd := w.dec i m hm
      rw [if_pos hi]
      exact ⟨fun j hj => by rw [if_pos (hr.1 j hj)]; exact hd.1 j hj, fun j hj => by rw [if_pos (hr.2.1 j hj)]; exact hd.2.1 j hj, fun j hj => by rw [if_pos (hr.2.2 j hj)]; exact hd.2.2 j hj⟩
    · subst hi
      rw [if_neg (Nat.lt_irrefl _)]
      refine ⟨fun j hj => (by rw [hl] at hj; cases hj), fun j hj => ?_, fun j hj => ?_⟩
      · rw [if_pos (hf j hj), hj]; simp only [Option.map_some, Option.getD_some]; omega
      · rw [if_pos (ht j hj), hj]; simp only [Option.map_some, Option.getD_some]; omega
theorem Sol.push {s : List KN} {n : KN} {ρ : Nat → KT} : Sol (s ++ [n]) ρ ↔ Sol s ρ ∧ ((∀ j, n.lk = some j → ρ s.length = ρ j) ∧ (n.bs = true → ρ s.length = .o) ∧ (∀ a t, n.fr = some a → n.tk = some t → ρ s.length = .ar (ρ a) (ρ t))) := by
  constructor
  · intro hs
    refine ⟨fun i m hm => hs i m ?_, hs s.length n ?_⟩
    · rw [List.getElem?_append_left (List.getElem?_eq_some_iff.1 hm).1]; exact hm
    · rw [List.getElem?_append_right (Nat.le_refl _), Nat.sub_self]; rfl
  · rintro ⟨hs, hn⟩ i m hm
    rcases get_push hm with ⟨hi, hm⟩ | ⟨rfl, rfl⟩
    · exact hs i m hm
    · exact hn
/-- s' is s with more kinds, and C tells what more its solutions are. -/
structure Ext (s s' : List KN) : Prop where
  len : s.length ≤ s'.length
  wf : ∃ h', WF s' h'
  down : ∀ ρ, Sol s' ρ → Sol s ρ
theorem Ext.refl {s : List KN} {h : Nat → Nat} (w : WF s h) : Ext s s := ⟨Nat.le_refl _, ⟨h, w⟩, fun _ hs => hs⟩
theorem Ext.trans {s s1 s2 : List KN} (a : Ext s s1) (b : Ext s1 s2) : Ext s s2 := ⟨Nat.le_trans a.len b.len, b.wf, fun ρ hs => a.down ρ (b.down ρ hs)⟩
/-- A new kind that is an arrow. -/
theorem push_arrow {s : List KN} {h : Nat → Nat} (w : WF s h) {a t : Nat} (ha : a < s.length) (ht : t < s.length) :
    Ext s (s ++ [⟨none, false, some a, some t⟩]) ∧ (∀ ρ, Sol (s ++ [⟨none, false, some a, some t⟩]) ρ ↔ Sol s ρ ∧ ρ s.length = .ar (ρ a) (ρ t)) := by
  refine ⟨⟨by rw [List.length_append]; omega, w.push (n := ⟨none, false, some a, some t⟩) rfl (fun j hj => by injection hj with hj; omega) (fun j hj => by injection hj with hj; omega) ⟨fun e => (by cases e), fun e => (by cases e)⟩ (fun e => (by cases e)), fun ρ hs => (Sol.push.1 hs).1⟩, fun ρ => ?_⟩
  rw [Sol.push]
  constructor
  · rintro ⟨h1, h2⟩; exact ⟨h1, h2.2.2 a t rfl rfl⟩
  · rintro ⟨h1, h2⟩
    exact ⟨h1, fun j hj => (by cases hj), fun e => (by cases e), fun a' t' e1 e2 => by injection e1 with e1; injection e2 with e2; subst e1 e2; exact h2⟩
/-- A new open kind. -/
theorem push_bare {s : List KN} {h : Nat → Nat} (w : WF s h) : Ext s (s ++ [kbare]) ∧ (∀ ρ, Sol (s ++ [kbare]) ρ ↔ Sol s ρ) := by
  refine ⟨⟨by rw [List.length_append]; omega, w.push (n := kbare) rfl (fun j hj => (by cases hj)) (fun j hj => (by cases hj)) ⟨fun _ => rfl, fun _ => rfl⟩ (fun e => (by cases e)), fun ρ hs => (Sol.push.1 hs).1⟩, fun ρ => ?_⟩
  rw [Sol.push]
  exact ⟨fun e => e.1, fun e => ⟨e, fun j hj => (by cases hj), fun e => (by cases e), fun a t e1 _ => (by cases e1)⟩⟩
/-- An arrow from some sorts, in order, to another one. -/
def ars : List KT → KT → KT
  | [], t => t
  | a :: l, t => .ar a (ars l t)
theorem ars_snoc (l : List KT) (a t : KT) : ars (l ++ [a]) t = ars l (.ar a t) := by
  induction l with
  | nil => rfl
  | cons b l ih => rw [List.cons_append, ars, ars, ih]
/-- ρ, with one place told anew. -/
def upd (ρ : Nat → KT) (i : Nat) (t : KT) : Nat → KT := fun j => if j = i then t else ρ j
theorem farrowR_ok : ∀ (ps : List Nat) {s : List KN} {h : Nat → Nat} {k : Nat}, WF s h → k < s.length → (∀ p, p ∈ ps → p < s.length) →
    Ext s (farrowR s k ps).2 ∧ (farrowR s k ps).1 < (farrowR s k ps).2.length ∧ (∀ ρ, Sol (farrowR s k ps).2 ρ → ρ (farrowR s k ps).1 = ars (ps.reverse.map ρ) (ρ k)) ∧ (∀ ρ, Sol s ρ → ∃ ρ', (∀ i, i < s.length → ρ' i = ρ i) ∧ Sol (farrowR s k ps).2 ρ')
  | [], s, h, k, w, hk, hp => ⟨Ext.refl w, hk, fun ρ _ => rfl, fun ρ hs => ⟨ρ, fun _ _ => rfl, hs⟩⟩
  | p :: ps, s, h, k, w, hk, hp => by
    have hpl := hp p List.mem_cons_self
    obtain ⟨x1, hS⟩ := push_arrow w hpl hk
    obtain ⟨h1, w1⟩ := x1.wf
    have len1 : (s ++ [(⟨none, false, some p, some k⟩ : KN)]).length = s.length + 1 := by rw [List.length_append]; rfl
    obtain ⟨x2, hk2, hA, hE⟩ := farrowR_ok ps (s := s ++ [⟨none, false, some p, some k⟩]) (k := s.length) w1 (by rw [len1]; omega) (fun q hq => by rw [len1]; have := hp q (List.mem_cons_of_mem _ hq); omega)
    refine ⟨x1.trans x2, hk2, fun ρ hs => ?_, fun ρ hs => ?_⟩
    · show ρ (farrowR (s ++ [⟨none, false, some p, some k⟩]) s.length ps).1 = _
      rw [hA ρ hs, ((hS ρ).1 (x2.down ρ hs)).2, List.reverse_cons, List.map_append, List.map_cons, List.map_nil, ars_snoc]
    · have hs1 : Sol (s ++ [⟨none, false, some p, some k⟩]) (upd ρ s.length (.ar (ρ p) (ρ k))) := by
        rw [hS]
        refine ⟨Sol.agree w (fun i hi => by unfold upd; rw [if_neg (by omega)]) hs, ?_⟩
        unfold upd
        rw [if_pos rfl, if_neg (by omega), if_neg (by omega)]
      obtain ⟨ρ', he, hs'⟩ := hE _ hs1
      exact ⟨ρ', fun i hi => (he i (by rw [len1]; omega)).trans (by unfold upd; rw [if_neg (by omega)]), hs'⟩
theorem farrow_ok (ps : List Nat) {s : List KN} {h : Nat → Nat} {k : Nat} (w : WF s h) (hk : k < s.length) (hp : ∀ p, p ∈ ps → p < s.length) :
    Ext s (farrow s k ps).2 ∧ (farrow s k ps).1 < (farrow s k ps).2.length ∧ (∀ ρ, Sol (farrow s k ps).2 ρ → ρ (farrow s k ps).1 = ars (ps.map ρ) (ρ k)) ∧ (∀ ρ, Sol s ρ → ∃ ρ', (∀ i, i < s.length → ρ' i = ρ i) ∧ Sol (farrow s k ps).2 ρ') := by
  have h := farrowR_ok ps.reverse w hk (fun p hpr => hp p (List.mem_reverse.1 hpr))
  rw [List.reverse_reverse] at h
  exact h
mutual
/-- A term has a sort, the heads having these. -/
def Ty (hd : Int → Int → Option KT) : S44 → KT → Prop
  | ⟨k, n, l⟩, t => ∃ t0, hd k n = some t0 ∧ TyL hd t0 l t
def TyL (hd : Int → Int → Option KT) (t0 : KT) : List S44 → KT → Prop
  | [], t => t = t0
  | x :: xs, t => ∃ a b, t0 = .ar a b ∧ Ty hd x a ∧ TyL hd b xs t
end
/-- The sorts of the heads. -/
def hdE (E : FE) (ρ : Nat → KT) (kd n : Int) : Option KT :=
  if n < 0 then none
  else if kd = 0 then (E.params[n.toNat]?).map ρ
  else if kd = 1 then (E.funs[n.toNat]?).map ρ
  else (E.syms[n.toNat]?).map (fun x => ars (List.replicate x.f1.toNat .o) .o)
structure FEok (E : FE) (s : List KN) : Prop where
  o0 : E.o = 0
  pos : 0 < s.length
  zero : ∀ ρ, Sol s ρ → ρ 0 = .o
  funs : ∀ p, p ∈ E.funs → p < s.length
  params : ∀ p, p ∈ E.params → p < s.length
theorem FEok.ext {E : FE} {s s' : List KN} (e : FEok E s) (x : Ext s s') : FEok E s' :=
  ⟨e.o0, Nat.lt_of_lt_of_le e.pos x.len, fun ρ hs => e.zero ρ (x.down ρ hs), fun p hp => Nat.lt_of_lt_of_le (e.funs p hp) x.len, fun p hp => Nat.lt_of_lt_of_le (e.params p hp) x.len⟩
theorem hdE_agree {E : FE} {s : List KN} (e : FEok E s) {ρ ρ' : Nat → KT} (h : ∀ i, i < s.length → ρ' i = ρ i) : hdE E ρ' = hdE E ρ := by
  funext kd n
  unfold hdE
  by_cases h0 : n < 0
  · rw [if_pos h0, if_pos h0]
  · rw [if_neg h0, if_neg h0]
    by_cases h1 : kd = 0
    · rw [if_pos h1, if_pos h1]
      cases hp : E.params[n.toNat]? with
      | none => rfl
      | some p => simp only [Option.map_some]; rw [h p (e.params p (List.mem_of_getElem? hp))]
    · rw [if_neg h1, if_neg h1]
      by_cases h2 : kd = 1
      · rw [if_pos h2, if_pos h2]
        cases hp : E.funs[n.toNat]? with
        | none => rfl
        | some p => simp only [Option.map_some]; rw [h p (e.funs p (List.mem_of_getElem? hp))]
      · rw [if_neg h2, if_neg h2]
theorem map_replicate_rho {ρ : Nat → KT} {t : KT} {o : Nat} (h : ρ o = t) (m : Nat) : (List.replicate m o).map ρ = List.replicate m t := by rw [List.map_replicate, h]
/-- A head that is known. -/
theorem head_ok {E : FE} {s : List KN} {h : Nat → Nat} (w : WF s h) (e : FEok E s) {kd n : Int} (hn : 0 ≤ n) (hk : (kd = 0 ∧ n < E.params.length) ∨ (kd = 1 ∧ n < E.funs.length) ∨ (kd = 2 ∧ n < E.syms.length)) :
    ∃ k s', fhead E s kd n = some (k, s') ∧ k < s'.length ∧ Ext s s' ∧ (∀ ρ, Sol s' ρ → hdE E ρ kd n = some (ρ k)) ∧ (∀ ρ, Sol s ρ → ∃ ρ', (∀ i, i < s.length → ρ' i = ρ i) ∧ Sol s' ρ') := by
  unfold fhead hdE
  rw [if_neg (by omega)]
  rcases hk with ⟨rfl, hl⟩ | ⟨rfl, hl⟩ | ⟨rfl, hl⟩
  · have hlt : n.toNat < E.params.length := by omega
    have hg := List.getElem?_eq_getElem hlt
    rw [if_pos rfl, hg]
    exact ⟨_, s, rfl, e.params _ (List.getElem_mem hlt), Ext.refl w, fun ρ _ => by rw [if_neg (by omega), if_pos rfl]; rfl, fun ρ hs => ⟨ρ, fun _ _ => rfl, hs⟩⟩
  · have hlt : n.toNat < E.funs.length := by omega
    have hg := List.getElem?_eq_getElem hlt
    rw [if_neg (by decide), if_pos rfl, hg]
    exact ⟨_, s, rfl, e.funs _ (List.getElem_mem hlt), Ext.refl w, fun ρ _ => by rw [if_neg (by omega), if_neg (by decide), if_pos rfl]; rfl, fun ρ hs => ⟨ρ, fun _ _ => rfl, hs⟩⟩
  · have hlt : n.toNat < E.syms.length := by omega
    have hg := List.getElem?_eq_getElem hlt
    rw [if_neg (by decide), if_neg (by decide), hg]
    generalize E.syms[n.toNat] = x at *
    obtain ⟨x1, hk1, hA, hE⟩ := farrow_ok (List.replicate x.f1.toNat E.o) w (k := E.o) (by rw [e.o0]; exact e.pos) (fun p hp => by rw [(List.mem_replicate.1 hp).2, e.o0]; exact e.pos)
    refine ⟨(farrow s E.o (List.replicate x.f1.toNat E.o)).1, (farrow s E.o (List.replicate x.f1.toNat E.o)).2, rfl, hk1, x1, fun ρ hs => ?_, hE⟩
    rw [if_neg (by omega), if_neg (by decide), if_neg (by decide)]
    simp only [Option.map_some]
    have hz : ρ E.o = .o := by rw [e.o0]; exact e.zero ρ (x1.down ρ hs)
    rw [hA ρ hs, map_replicate_rho hz, hz]
/-- What finder.term comes to: the solutions are those at which the term has the sort of its kind; or there are none. -/
structure Termed (E : FE) (s : List KN) (P : (Nat → KT) → KT → Prop) (r : Option Nat) (s' : List KN) : Prop where
  yes : ∀ k, r = some k → k < s'.length ∧ Ext s s' ∧ (∀ ρ, Sol s' ρ → P ρ (ρ k)) ∧ (∀ ρ t, Sol s ρ → P ρ t → ∃ ρ', (∀ i, i < s.length → ρ' i = ρ i) ∧ Sol s' ρ' ∧ ρ' k = t)
  no : r = none → ∀ ρ t, Sol s ρ → ¬ P ρ t
theorem fterm_le {E : FE} {s : List KN} {kd n : Int} {l : List S44} {r : Option Nat × List KN} {f f' : Nat} (hf : f ≤ f') (h : fterm E f s kd n l = some r) : fterm E f' s kd n l = some r := by
  induction hf with
  | refl => exact h
  | step _ ih => exact (fterm_s E _).1 _ _ _ _ _ ih
theorem ftermL_le {E : FE} {s : List KN} {k : Nat} {l : List S44} {r : Option Nat × List KN} {f f' : Nat} (hf : f ≤ f') (h : ftermL E f s k l = some r) : ftermL E f' s k l = some r := by
  induction hf with
  | refl => exact h
  | step _ ih => exact (fterm_s E _).2 _ _ _ _ ih
mutual
theorem term_ok {E : FE} : ∀ (x : S44) {s : List KN} {h : Nat → Nat}, WF s h → FEok E s → knownS x E.params.length E.funs.length E.syms.length = true →
    ∃ f r s', fterm E f s x.f0 x.f1 x.f2 = some (r, s') ∧ Termed E s (fun ρ t => Ty (hdE E ρ) x t) r s'
  | ⟨kd, n, l⟩, s, h, w, e, hk => by
    unfold knownS at hk
    simp only [Bool.and_eq_true, decide_eq_true_eq] at hk
    obtain ⟨⟨hkd, hn, hlt⟩, hkl⟩ := hk
    have hcase : (kd = 0 ∧ n < E.params.length) ∨ (kd = 1 ∧ n < E.funs.length) ∨ (kd = 2 ∧ n < E.syms.length) := by
      unfold isK at hkd
      unfold manyK at hlt
      grind
    obtain ⟨k, s1, hh, hk1, x1, hd, up⟩ := head_ok w e hn hcase
    obtain ⟨h1, w1⟩ := x1.wf
    obtain ⟨f, r, s', hf, T⟩ := termL_ok l w1 (e.ext x1) hk1 hkl
    refine ⟨f + 1, r, s', ?_, ?_, ?_⟩
    · show fterm E (f + 1) s kd n l = _
      unfold fterm
      rw [hh]
      exact hf
    · intro q hq
      obtain ⟨a1, a2, a3, a4⟩ := T.yes q hq
      refine ⟨a1, x1.trans a2, fun ρ hs => ?_, fun ρ t hs ht => ?_⟩
      · unfold Ty
        exact ⟨ρ k, hd ρ (a2.down ρ hs), a3 ρ hs⟩
      · unfold Ty at ht
        obtain ⟨t0, ht0, ht⟩ := ht
        obtain ⟨ρ1, ag, hs1⟩ := up ρ hs
        have e1 := hdE_agree e ag
        have e2 := hd ρ1 hs1
        rw [e1, ht0] at e2
        injection e2 with e2
        obtain ⟨ρ2, ag2, hs2, hq2⟩ := a4 ρ1 t hs1 (by rw [e1, ← e2]; exact ht)
        exact ⟨ρ2, fun i hi => (ag2 i (Nat.lt_of_lt_of_le hi x1.len)).trans (ag i hi), hs2, hq2⟩
    · intro hr ρ t hs ht
      unfold Ty at ht
      obtain ⟨t0, ht0, ht⟩ := ht
      obtain ⟨ρ1, ag, hs1⟩ := up ρ hs
      have e1 := hdE_agree e ag
      have e2 := hd ρ1 hs1
      rw [e1, ht0] at e2
      injection e2 with e2
      exact T.no hr ρ1 t hs1 (by rw [e1, ← e2]; exact ht)
theorem termL_ok {E : FE} : ∀ (l : List S44) {s : List KN} {h : Nat → Nat} {k : Nat}, WF s h → FEok E s → k < s.length → knownL l E.params.length E.funs.length E.syms.length = true →
    ∃ f r s', ftermL E f s k l = some (r, s') ∧ Termed E s (fun ρ t => TyL (hdE E ρ) (ρ k) l t) r s'
  | [], s, h, k, w, e, hk, _ => by
    refine ⟨1, some k, s, rfl, fun q hq => ?_, fun e => (by cases e)⟩
    injection hq with hq
    subst hq
    exact ⟨hk, Ext.refl w, fun ρ hs => rfl, fun ρ t hs ht => ⟨ρ, fun _ _ => rfl, hs, ht.symm⟩⟩
  | x :: xs, s, h, k, w, e, hk, hkn => by
    unfold knownL at hkn
    rw [Bool.and_eq_true] at hkn
    obtain ⟨f1, r1, s1, hf1, T1⟩ := term_ok x w e hkn.1
    cases r1 with
    | none =>
      refine ⟨f1 + 1, none, s1, ?_, fun q hq => (by cases hq), fun _ ρ t hs ht => ?_⟩
      · unfold ftermL
        rw [hf1]
      · unfold TyL at ht
        obtain ⟨a, b, _, ha, _⟩ := ht
        exact T1.no rfl ρ a hs ha
    | some xk =>
      obtain ⟨hxk, x1, down1, up1⟩ := T1.yes xk rfl
      obtain ⟨h1, w1⟩ := x1.wf
      obtain ⟨x2, hS2⟩ := push_bare w1
      obtain ⟨h2, w2⟩ := x2.wf
      have len2 : (s1 ++ [kbare]).length = s1.length + 1 := by rw [List.length_append]; rfl
      obtain ⟨x3, hS3⟩ := push_arrow w2 (a := xk) (t := s1.length) (by rw [len2]; omega) (by rw [len2]; omega)
      obtain ⟨h3, w3⟩ := x3.wf
      have len3 : (s1 ++ [kbare] ++ [(⟨none, false, some xk, some s1.length⟩ : KN)]).length = s1.length + 2 := by rw [List.length_append, len2]; rfl
      have hks1 : k < s1.length := Nat.lt_of_lt_of_le hk x1.len
      obtain ⟨fj, rj, sj, hj, J⟩ := join_ok w3 (a := k) (b := s1.length + 1) (by rw [len3]; omega) (by rw [len3]; omega)
      have x03 := x1.trans (x2.trans x3)
      -- the equations behind the new kinds
      have eqs : ∀ ρ, Sol (s1 ++ [kbare] ++ [⟨none, false, some xk, some s1.length⟩]) ρ ↔ Sol s1 ρ ∧ ρ (s1.length + 1) = .ar (ρ xk) (ρ s1.length) := by
        intro ρ
        rw [hS3, hS2, len2]
      cases rj with
      | false =>
        have hj := fjoin_le (Nat.le_max_right f1 fj) hj
        have hf1 := fterm_le (Nat.le_max_left f1 fj) hf1
        refine ⟨max f1 fj + 1, none, sj, ?_, fun q hq => (by cases hq), fun _ ρ t hs ht => ?_⟩
        · unfold ftermL
          rw [hf1]
          simp only
          have hj' : fjoin (max f1 fj) (s1 ++ [⟨none, false, none, none⟩] ++ [⟨none, false, some xk, some s1.length⟩]) k (s1.length + 1) = some (false, sj) := hj
          rw [hj']
        · unfold TyL at ht
          obtain ⟨a, b, hab, ha, _⟩ := ht
          obtain ⟨ρ1, ag1, hs1, hx1⟩ := up1 ρ a hs ha
          have ag : ∀ i, i < s1.length → upd (upd ρ1 s1.length b) (s1.length + 1) (.ar a b) i = ρ1 i := fun i hi => by unfold upd; rw [if_neg (by omega), if_neg (by omega)]
          refine J.no rfl (upd (upd ρ1 s1.length b) (s1.length + 1) (.ar a b)) ((eqs _).2 ⟨Sol.agree w1 ag hs1, ?_⟩) ?_
          · rw [ag xk hxk, hx1]
            unfold upd
            rw [if_pos rfl, if_neg (by omega), if_pos rfl]
          · rw [ag k hks1, ag1 k hk, hab]
            unfold upd
            rw [if_pos rfl]
      | true =>
        obtain ⟨h4, w4, _⟩ := J.yes rfl
        have hS4 := J.sol rfl
        have lenj : sj.length = s1.length + 2 := by
          have sh := fjoin_shape fj _ k (s1.length + 1) true sj hj
          have g := fun q => congrArg Option.isSome (sh q)
          simp only [Option.isSome_map] at g
          rw [← len3]
          generalize s1 ++ [kbare] ++ [(⟨none, false, some xk, some s1.length⟩ : KN)] = z at *
          by_cases hlt : sj.length < z.length
          · have := g sj.length
            rw [List.getElem?_eq_none (Nat.le_refl _), List.getElem?_eq_getElem hlt] at this
            cases this
          · by_cases hgt : z.length < sj.length
            · have := g z.length
              rw [List.getElem?_eq_none (Nat.le_refl _), List.getElem?_eq_getElem hgt] at this
              cases this
            · omega
        have x4 : Ext s sj := ⟨by rw [lenj]; have := x1.len; omega, ⟨h4, w4⟩, fun ρ hs => x03.down ρ ((hS4 ρ).1 hs).1⟩
        obtain ⟨f2, r, s', hf2, T2⟩ := termL_ok xs (k := s1.length) w4 (e.ext x4) (by rw [lenj]; omega) hkn.2
        have hm1 : f1 ≤ max f1 (max fj f2) := Nat.le_max_left _ _
        have hm2 : fj ≤ max f1 (max fj f2) := Nat.le_trans (Nat.le_max_left _ _) (Nat.le_max_right _ _)
        have hm3 : f2 ≤ max f1 (max fj f2) := Nat.le_trans (Nat.le_max_right _ _) (Nat.le_max_right _ _)
        have hf1 := fterm_le hm1 hf1
        have hj := fjoin_le hm2 hj
        have hf2 := ftermL_le hm3 hf2
        generalize max f1 (max fj f2) = F at *
        refine ⟨F + 1, r, s', ?_, fun q hq => ?_, fun hr ρ t hs ht => ?_⟩
        · unfold ftermL
          rw [hf1]
          simp only
          have hj' : fjoin F (s1 ++ [⟨none, false, none, none⟩] ++ [⟨none, false, some xk, some s1.length⟩]) k (s1.length + 1) = some (true, sj) := hj
          rw [hj']
          exact hf2
        · obtain ⟨a1, a2, a3, a4⟩ := T2.yes q hq
          refine ⟨a1, x4.trans a2, fun ρ hs => ?_, fun ρ t hs ht => ?_⟩
          · have hsj := a2.down ρ hs
            obtain ⟨b1, b2⟩ := (hS4 ρ).1 hsj
            obtain ⟨c1, c2⟩ := (eqs ρ).1 b1
            unfold TyL
            exact ⟨ρ xk, ρ s1.length, by rw [b2, c2], down1 ρ c1, a3 ρ hs⟩
          · unfold TyL at ht
            obtain ⟨a, b, hab, ha, hb⟩ := ht
            obtain ⟨ρ1, ag1, hs1, hx1⟩ := up1 ρ a hs ha
            have ag : ∀ i, i < s1.length → upd (upd ρ1 s1.length b) (s1.length + 1) (.ar a b) i = ρ1 i := fun i hi => by unfold upd; rw [if_neg (by omega), if_neg (by omega)]
            have agS : ∀ i, i < s.length → upd (upd ρ1 s1.length b) (s1.length + 1) (.ar a b) i = ρ i := fun i hi => (ag i (Nat.lt_of_lt_of_le hi x1.len)).trans (ag1 i hi)
            have hsj : Sol sj (upd (upd ρ1 s1.length b) (s1.length + 1) (.ar a b)) := by
              rw [hS4, eqs]
              refine ⟨⟨Sol.agree w1 ag hs1, ?_⟩, ?_⟩
              · rw [ag xk hxk, hx1]
                unfold upd
                rw [if_pos rfl, if_neg (by omega), if_pos rfl]
              · rw [ag k hks1, ag1 k hk, hab]
                unfold upd
                rw [if_pos rfl]
            have hbv : upd (upd ρ1 s1.length b) (s1.length + 1) (.ar a b) s1.length = b := by unfold upd; rw [if_neg (by omega), if_pos rfl]
            obtain ⟨ρ2, ag2, hs2, hq2⟩ := a4 _ t hsj (by rw [hdE_agree e agS, hbv]; exact hb)
            exact ⟨ρ2, fun i hi => (ag2 i (Nat.lt_of_lt_of_le hi x4.len)).trans (agS i hi), hs2, hq2⟩
        · unfold TyL at ht
          obtain ⟨a, b, hab, ha, hb⟩ := ht
          obtain ⟨ρ1, ag1, hs1, hx1⟩ := up1 ρ a hs ha
          have ag : ∀ i, i < s1.length → upd (upd ρ1 s1.length b) (s1.length + 1) (.ar a b) i = ρ1 i := fun i hi => by unfold upd; rw [if_neg (by omega), if_neg (by omega)]
          have agS : ∀ i, i < s.length → upd (upd ρ1 s1.length b) (s1.length + 1) (.ar a b) i = ρ i := fun i hi => (ag i (Nat.lt_of_lt_of_le hi x1.len)).trans (ag1 i hi)
          have hsj : Sol sj (upd (upd ρ1 s1.length b) (s1.length + 1) (.ar a b)) := by
            rw [hS4, eqs]
            refine ⟨⟨Sol.agree w1 ag hs1, ?_⟩, ?_⟩
            · rw [ag xk hxk, hx1]
              unfold upd
              rw [if_pos rfl, if_neg (by omega), if_pos rfl]
            · rw [ag k hks1, ag1 k hk, hab]
              unfold upd
              rw [if_pos rfl]
          have hbv : upd (upd ρ1 s1.length b) (s1.length + 1) (.ar a b) s1.length = b := by unfold upd; rw [if_neg (by omega), if_pos rfl]
          exact T2.no hr _ t hsj (by rw [hdE_agree e agS, hbv]; exact hb)
end
end Go.Proofs.Ytfhgoebgnilfaaa.I
namespace Go.Proofs.Ytfhgoebgnilfaaa.I
open Go.RowKit
set_option linter.unusedVariables false
/-- One sort is another one, with o in the place of some parts. -/
def KT.le : KT → KT → Prop
  | .o, _ => True
  | .ar a b, .ar c d => a.le c ∧ b.le d
  | .ar _ _, .o => False
theorem KT.le_antisymm : ∀ {s t : KT}, s.le t → t.le s → s = t
  | .o, .o, _, _ => rfl
  | .o, .ar _ _, _, h => h.elim
  | .ar _ _, .o, h, _ => h.elim
  | .ar a b, .ar c d, h1, h2 => by rw [KT.le_antisymm h1.1 h2.1, KT.le_antisymm h1.2 h2.2]
/-- The reading of a store. -/
def rdF (s : List KN) : Nat → Nat → KT
  | 0, _ => .o
  | f + 1, i => match s[i]? with
    | none => .o
    | some n => match n.lk with
      | some j => rdF s f j
      | none => match n.fr with
        | none => .o
        | some a => match n.tk with
          | none => .o
          | some t => .ar (rdF s f a) (rdF s f t)
theorem rdF_stable {s : List KN} {h : Nat → Nat} (w : WF s h) : ∀ (f f' i : Nat), h i < f → h i < f' → rdF s f i = rdF s f' i
  | 0, f', i, h1, h2 => absurd h1 (by omega)
  | f + 1, 0, i, h1, h2 => absurd h2 (by omega)
  | f + 1, f' + 1, i, h1, h2 => by
    unfold rdF
    cases hn : s[i]? with
    | none => rfl
    | some n =>
      simp only
      have hd := w.dec i n hn
      cases hl : n.lk with
      | some j =>
        have := hd.1 j hl
        exact rdF_stable w f f' j (by omega) (by omega)
      | none =>
        simp only
        cases hf : n.fr with
        | none => rfl
        | some a =>
          simp only
          cases ht : n.tk with
          | none => rfl
          | some t =>
            have h3 := hd.2.1 a hf
            have h4 := hd.2.2 t ht
            simp only
            rw [rdF_stable w f f' a (by omega) (by omega), rdF_stable w f f' t (by omega) (by omega)]
/-- The least solution. -/
def rho (s : List KN) (h : Nat → Nat) (i : Nat) : KT := rdF s (h i + 1) i
theorem rho_eq {s : List KN} {h : Nat → Nat} (w : WF s h) {f i : Nat} (hf : h i < f) : rdF s f i = rho s h i := rdF_stable w _ _ i hf (by omega)
theorem rho_sol {s : List KN} {h : Nat → Nat} (w : WF s h) : Sol s (rho s h) := by
  intro i n hn
  have hd := w.dec i n hn
  have e : rho s h i = match n.lk with
      | some j => rdF s (h i) j
      | none => match n.fr with
        | none => .o
        | some a => match n.tk with
          | none => .o
          | some t => .ar (rdF s (h i) a) (rdF s (h i) t) := by
    unfold rho
    rw [rdF, hn]
  refine ⟨fun j hj => ?_, fun hb => ?_, fun a t ha ht => ?_⟩
  · rw [e, hj]
    exact rho_eq w (hd.1 j hj)
  · rw [e]
    cases hl : n.lk with
    | some j =>
      have := (w.lnk i n hn (by rw [hl]; simp)).1
      rw [hb] at this
      cases this
    | none => simp only; rw [w.bas i n hn hb]
  · rw [e]
    cases hl : n.lk with
    | some j =>
      have := (w.lnk i n hn (by rw [hl]; simp)).2
      rw [ha] at this
      cases this
    | none =>
      simp only
      rw [ha, ht]
      simp only
      rw [rho_eq w (hd.2.1 a ha), rho_eq w (hd.2.2 t ht)]
theorem rdF_least {s : List KN} {ρ : Nat → KT} (hs : Sol s ρ) : ∀ (f i : Nat), (rdF s f i).le (ρ i)
  | 0, i => trivial
  | f + 1, i => by
    unfold rdF
    cases hn : s[i]? with
    | none => exact trivial
    | some n =>
      simp only
      cases hl : n.lk with
      | some j => rw [(hs i n hn).1 j hl]; exact rdF_least hs f j
      | none =>
        simp only
        cases hf : n.fr with
        | none => exact trivial
        | some a =>
          simp only
          cases ht : n.tk with
          | none => exact trivial
          | some t =>
            rw [(hs i n hn).2.2 a t hf ht]
            exact ⟨rdF_least hs f a, rdF_least hs f t⟩
theorem rho_least {s : List KN} {h : Nat → Nat} {ρ : Nat → KT} (hs : Sol s ρ) (i : Nat) : (rho s h i).le (ρ i) := rdF_least hs _ i
/-- Some open kinds more. -/
theorem push_bares (m : Nat) {s : List KN} {h : Nat → Nat} (w : WF s h) : Ext s (s ++ List.replicate m kbare) ∧ (∀ ρ, Sol (s ++ List.replicate m kbare) ρ ↔ Sol s ρ) := by
  induction m with
  | zero => rw [List.replicate_zero, List.append_nil]; exact ⟨Ext.refl w, fun _ => Iff.rfl⟩
  | succ m ih =>
    obtain ⟨x1, hS1⟩ := ih
    obtain ⟨h1, w1⟩ := x1.wf
    obtain ⟨x2, hS2⟩ := push_bare w1
    have e : s ++ List.replicate (m + 1) kbare = s ++ List.replicate m kbare ++ [kbare] := by rw [List.replicate_succ', List.append_assoc]
    rw [e]
    exact ⟨x1.trans x2, fun ρ => by rw [hS2, hS1]⟩
/-- What the heads come to. -/
structure Headed (s : List KN) (l : List S48) (pss : List (List Nat)) (ks : List Nat) (s' : List KN) : Prop where
  ext : Ext s s'
  lp : ∀ ps, ps ∈ pss → ∀ p, p ∈ ps → p < s'.length
  lk : ∀ k, k ∈ ks → k < s'.length
  many : pss.map List.length = l.map (fun x => x.f1.toNat)
  down : ∀ ρ, Sol s' ρ → ks.map ρ = pss.map (fun ps => ars (ps.map ρ) .o)
  up : ∀ ρ (As : List (List KT)), As.map List.length = l.map (fun x => x.f1.toNat) → Sol s ρ → ∃ ρ', (∀ i, i < s.length → ρ' i = ρ i) ∧ Sol s' ρ' ∧ pss.map (fun ps => ps.map ρ') = As
theorem heads_ok : ∀ (l : List S48) {s : List KN} {h : Nat → Nat}, WF s h → 0 < s.length → (∀ ρ, Sol s ρ → ρ 0 = .o) → Headed s l (fheads s l).1.1 (fheads s l).1.2 (fheads s l).2
  | [], s, h, w, hp, hz => ⟨Ext.refl w, (fun ps hp => by cases hp), (fun k hk => by cases hk), rfl, fun _ _ => rfl, fun ρ As hA hs => ⟨ρ, fun _ _ => rfl, hs, by
      cases As with
      | nil => rfl
      | cons a As => cases hA⟩⟩
  | x :: xs, s, h, w, hp, hz => by
    obtain ⟨x1, hS1⟩ := push_bares x.f1.toNat w
    obtain ⟨h1, w1⟩ := x1.wf
    have len1 : (s ++ List.replicate x.f1.toNat kbare).length = s.length + x.f1.toNat := by rw [List.length_append, List.length_replicate]
    have hr : ∀ p, p ∈ List.range' s.length x.f1.toNat → s.length ≤ p ∧ p < s.length + x.f1.toNat := fun p hp => by
      have := List.mem_range'_1.1 hp
      omega
    obtain ⟨x2, hk2, hA2, hE2⟩ := farrow_ok (List.range' s.length x.f1.toNat) w1 (k := 0) (by rw [len1]; omega) (fun p hp => by rw [len1]; exact (hr p hp).2)
    obtain ⟨h2, w2⟩ := x2.wf
    have hz2 : ∀ ρ, Sol (farrow (s ++ List.replicate x.f1.toNat kbare) 0 (List.range' s.length x.f1.toNat)).2 ρ → ρ 0 = .o := fun ρ hs => hz ρ ((hS1 ρ).1 (x2.down ρ hs))
    have I := heads_ok xs w2 (Nat.lt_of_lt_of_le (Nat.lt_of_lt_of_le hp x1.len) x2.len) hz2
    show Headed s (x :: xs) (List.range' s.length x.f1.toNat :: (fheads (farrow (s ++ List.replicate x.f1.toNat kbare) 0 (List.range' s.length x.f1.toNat)).2 xs).1.1) ((farrow (s ++ List.replicate x.f1.toNat kbare) 0 (List.range' s.length x.f1.toNat)).1 :: (fheads (farrow (s ++ List.replicate x.f1.toNat kbare) 0 (List.range' s.length x.f1.toNat)).2 xs).1.2) (fheads (farrow (s ++ List.replicate x.f1.toNat kbare) 0 (List.range' s.length x.f1.toNat)).2 xs).2
    generalize hfa : farrow (s ++ List.replicate x.f1.toNat kbare) 0 (List.range' s.length x.f1.toNat) = fa at *
    generalize fheads fa.2 xs = fh at *
    have l12 := x2.len
    rw [len1] at l12
    refine ⟨x1.trans (x2.trans I.ext), fun ps hps p hpp => ?_, fun k hk => ?_, ?_, fun ρ hs => ?_, fun ρ As hAs hs => ?_⟩
    · rcases List.mem_cons.1 hps with rfl | hps
      · have := (hr p hpp).2; have := I.ext.len; omega
      · exact I.lp ps hps p hpp
    · rcases List.mem_cons.1 hk with rfl | hk
      · exact Nat.lt_of_lt_of_le hk2 I.ext.len
      · exact I.lk k hk
    · rw [List.map_cons, List.map_cons, I.many, List.length_range']
    · have hs2 := I.ext.down ρ hs
      rw [List.map_cons, List.map_cons, I.down ρ hs, hA2 ρ hs2, hz2 ρ hs2]
    · cases As with
      | nil => cases hAs
      | cons A As =>
        rw [List.map_cons, List.map_cons] at hAs
        injection hAs with hA hAs
        have ag : ∀ i, i < s.length → (fun i => if s.length ≤ i then A.getD (i - s.length) .o else ρ i) i = ρ i := fun i hi => if_neg (by omega)
        have hs1 : Sol (s ++ List.replicate x.f1.toNat kbare) (fun i => if s.length ≤ i then A.getD (i - s.length) .o else ρ i) := (hS1 _).2 (Sol.agree w ag hs)
        obtain ⟨ρ2, ag2, hs2⟩ := hE2 _ hs1
        obtain ⟨ρ3, ag3, hs3, hm⟩ := I.up ρ2 As hAs hs2
        refine ⟨ρ3, fun i hi => ?_, hs3, ?_⟩
        · rw [ag3 i (by omega), ag2 i (by rw [len1]; omega)]
          exact ag i hi
        · rw [List.map_cons, hm]
          congr 1
          apply List.ext_getElem
          · rw [List.length_map, List.length_range', hA]
          · intro i h1 h2
            rw [List.getElem_map, List.getElem_range']
            rw [List.length_map, List.length_range'] at h1
            rw [ag3 _ (by omega), ag2 _ (by rw [len1]; omega)]
            rw [if_pos (by omega), show s.length + 1 * i - s.length = i from by omega, List.getD_eq_getElem?_getD, List.getElem?_eq_getElem h2]
            rfl
/-- All bodies have the sort o. -/
def Alls (syms : List S59) (funs : List Nat) (ρ : Nat → KT) : List (List Nat) → List S48 → Prop
  | _, [] => True
  | [], _ :: _ => False
  | ps :: pss, x :: xs => Ty (hdE ⟨0, syms, funs, ps⟩ ρ) x.f2 .o ∧ Alls syms funs ρ pss xs
theorem Alls_agree {syms : List S59} {funs : List Nat} {N : Nat} {ρ ρ' : Nat → KT} (ag : ∀ i, i < N → ρ' i = ρ i) (hf : ∀ p, p ∈ funs → p < N) : ∀ (pss : List (List Nat)) (l : List S48), (∀ ps, ps ∈ pss → ∀ p, p ∈ ps → p < N) → Alls syms funs ρ pss l → Alls syms funs ρ' pss l
  | _, [], _, _ => (by unfold Alls; trivial)
  | [], _ :: _, _, h => h
  | ps :: pss, x :: xs, hp, h => by
    refine ⟨?_, Alls_agree ag hf pss xs (fun q hq => hp q (List.mem_cons_of_mem _ hq)) h.2⟩
    have e : hdE ⟨0, syms, funs, ps⟩ ρ' = hdE ⟨0, syms, funs, ps⟩ ρ := by
      funext kd n
      unfold hdE
      by_cases h0 : n < 0
      · rw [if_pos h0, if_pos h0]
      · rw [if_neg h0, if_neg h0]
        by_cases h1 : kd = 0
        · rw [if_pos h1, if_pos h1]
          cases hq : ps[n.toNat]? with
          | none => rfl
          | some p => simp only [Option.map_some]; rw [ag p (hp ps List.mem_cons_self p (List.mem_of_getElem? hq))]
        · rw [if_neg h1, if_neg h1]
          by_cases h2 : kd = 1
          · rw [if_pos h2, if_pos h2]
            cases hq : funs[n.toNat]? with
            | none => rfl
            | some p => simp only [Option.map_some]; rw [ag p (hf p (List.mem_of_getElem? hq))]
          · rw [if_neg h2, if_neg h2]
    rw [e]
    exact h.1
theorem fbodies_le {syms : List S59} {funs : List Nat} {s : List KN} {pss : List (List Nat)} {l : List S48} {r : Bool × List KN} {f f' : Nat} (hf : f ≤ f') (h : fbodies syms funs f s pss l = some r) : fbodies syms funs f' s pss l = some r := by
  induction hf with
  | refl => exact h
  | step _ ih => exact fbodies_s _ _ _ _ _ _ _ ih
theorem bodies_ok {syms : List S59} {funs : List Nat} : ∀ (l : List S48) (pss : List (List Nat)) {s : List KN} {h : Nat → Nat}, WF s h → 0 < s.length → (∀ ρ, Sol s ρ → ρ 0 = .o) → (∀ p, p ∈ funs → p < s.length) → (∀ ps, ps ∈ pss → ∀ p, p ∈ ps → p < s.length) → pss.map List.length = l.map (fun x => x.f1.toNat) →
    (∀ x, x ∈ l → knownS x.f2 x.f1.toNat funs.length syms.length = true) →
    ∃ f b s', fbodies syms funs f s pss l = some (b, s') ∧ (b = true → Ext s s' ∧ (∀ ρ, Sol s' ρ → Alls syms funs ρ pss l) ∧ (∀ ρ, Sol s ρ → Alls syms funs ρ pss l → ∃ ρ', (∀ i, i < s.length → ρ' i = ρ i) ∧ Sol s' ρ')) ∧ (b = false → ∀ ρ, Sol s ρ → ¬ Alls syms funs ρ pss l)
  | [], pss, s, h, w, hp, hz, hf, hps, hm, hk => ⟨0, true, s, by unfold fbodies; rfl, fun _ => ⟨Ext.refl w, fun _ _ => (by unfold Alls; trivial), fun ρ hs _ => ⟨ρ, fun _ _ => rfl, hs⟩⟩, fun e => (by cases e)⟩
  | x :: xs, [], s, h, w, hp, hz, hf, hps, hm, hk => by cases hm
  | x :: xs, ps :: pss, s, h, w, hp, hz, hf, hps, hm, hk => by
    rw [List.map_cons, List.map_cons] at hm
    injection hm with hm0 hm
    have e : FEok ⟨0, syms, funs, ps⟩ s := ⟨rfl, hp, hz, hf, hps ps List.mem_cons_self⟩
    obtain ⟨f1, r1, s1, hf1, T⟩ := term_ok (E := ⟨0, syms, funs, ps⟩) x.f2 w e (by
      have := hk x List.mem_cons_self
      rw [← hm0] at this
      exact this)
    cases r1 with
    | none =>
      refine ⟨f1, false, s1, ?_, fun e => (by cases e), fun _ ρ hs ha => T.no rfl ρ .o hs ha.1⟩
      unfold fbodies
      rw [hf1]
    | some k =>
      obtain ⟨hk1, x1, d1, u1⟩ := T.yes k rfl
      obtain ⟨h1, w1⟩ := x1.wf
      obtain ⟨fj, rj, sj, hj, J⟩ := join_ok w1 (a := k) (b := 0) hk1 (Nat.lt_of_lt_of_le hp x1.len)
      cases rj with
      | false =>
        refine ⟨max f1 fj, false, sj, ?_, fun e => (by cases e), fun _ ρ hs ha => ?_⟩
        · unfold fbodies
          rw [fterm_le (Nat.le_max_left f1 fj) hf1]
          simp only
          rw [fjoin_le (Nat.le_max_right f1 fj) hj]
        · obtain ⟨ρ', ag, hs', hkt⟩ := u1 ρ .o hs ha.1
          exact J.no rfl ρ' hs' (by rw [hkt, hz ρ' (x1.down ρ' hs')])
      | true =>
        obtain ⟨h2, w2, _⟩ := J.yes rfl
        have hS := J.sol rfl
        have lenj : sj.length = s1.length := by
          have sh := fjoin_shape fj _ k 0 true sj hj
          have g := fun q => congrArg Option.isSome (sh q)
          simp only [Option.isSome_map] at g
          by_cases hlt : sj.length < s1.length
          · have := g sj.length
            rw [List.getElem?_eq_none (Nat.le_refl _), List.getElem?_eq_getElem hlt] at this
            cases this
          · by_cases hgt : s1.length < sj.length
            · have := g s1.length
              rw [List.getElem?_eq_none (Nat.le_refl _), List.getElem?_eq_getElem hgt] at this
              cases this
            · omega
        have x2 : Ext s sj := ⟨by rw [lenj]; exact x1.len, ⟨h2, w2⟩, fun ρ hs => x1.down ρ ((hS ρ).1 hs).1⟩
        have l2 := x2.len
        obtain ⟨f2, b, s', hf2, Y, N⟩ := bodies_ok xs pss w2 (Nat.lt_of_lt_of_le hp l2) (fun ρ hs => hz ρ (x2.down ρ hs)) (fun p hp => Nat.lt_of_lt_of_le (hf p hp) l2) (fun q hq p hp => Nat.lt_of_lt_of_le (hps q (List.mem_cons_of_mem _ hq) p hp) l2) hm (fun y hy => hk y (List.mem_cons_of_mem _ hy))
        have hm1 : f1 ≤ max f1 (max fj f2) := Nat.le_max_left _ _
        have hm2 : fj ≤ max f1 (max fj f2) := Nat.le_trans (Nat.le_max_left _ _) (Nat.le_max_right _ _)
        have hm3 : f2 ≤ max f1 (max fj f2) := Nat.le_trans (Nat.le_max_right _ _) (Nat.le_max_right _ _)
        have step : ∀ ρ, Sol s ρ → Ty (hdE ⟨0, syms, funs, ps⟩ ρ) x.f2 .o → ∃ ρ', (∀ i, i < s.length → ρ' i = ρ i) ∧ Sol sj ρ' := by
          intro ρ hs ht
          obtain ⟨ρ', ag, hs', hkt⟩ := u1 ρ .o hs ht
          exact ⟨ρ', ag, (hS ρ').2 ⟨hs', by rw [hkt, hz ρ' (x1.down ρ' hs')]⟩⟩
        have hpss : ∀ q, q ∈ pss → ∀ p, p ∈ q → p < s.length := fun q hq => hps q (List.mem_cons_of_mem _ hq)
        refine ⟨max f1 (max fj f2), b, s', ?_, fun hb => ?_, fun hb ρ hs ha => ?_⟩
        · unfold fbodies
          rw [fterm_le hm1 hf1]
          simp only
          rw [fjoin_le hm2 hj]
          exact fbodies_le hm3 hf2
        · obtain ⟨y1, y2, y3⟩ := Y hb
          refine ⟨x2.trans y1, fun ρ hs => ⟨?_, y2 ρ hs⟩, fun ρ hs ha => ?_⟩
          · have hs1 := (hS ρ).1 (y1.down ρ hs)
            have := d1 ρ hs1.1
            rw [hs1.2, hz ρ (x1.down ρ hs1.1)] at this
            exact this
          · obtain ⟨ρ1, ag1, hs1⟩ := step ρ hs ha.1
            obtain ⟨ρ2, ag2, hs2⟩ := y3 ρ1 hs1 (Alls_agree ag1 hf pss xs hpss ha.2)
            exact ⟨ρ2, fun i hi => (ag2 i (Nat.lt_of_lt_of_le hi l2)).trans (ag1 i hi), hs2⟩
        · obtain ⟨ρ1, ag1, hs1⟩ := step ρ hs ha.1
          exact N hb ρ1 hs1 (Alls_agree ag1 hf pss xs hpss ha.2)
end Go.Proofs.Ytfhgoebgnilfaaa.I
namespace Go.Proofs.Ytfhgoebgnilfaaa.I
open Go.RowKit
set_option linter.unusedVariables false
/-- The nodes of a sort. -/
def nS : KT → Int
  | .o => 1
  | .ar a b => nS a + nS b
theorem nS_pos : ∀ t : KT, 1 ≤ nS t
  | .o => by simp [nS]
  | .ar a b => by have := nS_pos a; have := nS_pos b; simp only [nS]; omega
/-- The arguments of a sort. -/
def toS : KT → List S41
  | .o => []
  | .ar a b => ⟨toS a⟩ :: toS b
theorem fshown_le {s : List KN} {i : Nat} {l : Int} {r : Option (List S41) × Int} {f f' : Nat} (hf : f ≤ f') (h : fshown s f i l = some r) : fshown s f' i l = some r := by
  induction hf with
  | refl => exact h
  | step _ ih => exact (fshown_s s _).1 _ _ _ ih
theorem fshownL_le {s : List KN} {i : Nat} {acc : List S41} {l : Int} {r : Option (List S41) × Int} {f f' : Nat} (hf : f ≤ f') (h : fshownL s f i acc l = some r) : fshownL s f' i acc l = some r := by
  induction hf with
  | refl => exact h
  | step _ ih => exact (fshown_s s _).2 _ _ _ _ ih
theorem fouts_le {s : List KN} {acc : List S41} {ks : List Nat} {r : Option (List S41)} {f f' : Nat} (hf : f ≤ f') (h : fouts s f acc ks = some r) : fouts s f' acc ks = some r := by
  induction hf with
  | refl => exact h
  | step _ ih => exact fouts_s s _ _ _ _ ih
theorem rho_end {s : List KN} {h : Nat → Nat} (w : WF s h) {f i r : Nat} (e : fend s f i = some r) : rho s h i = rho s h r := (fend_ok e).2.1 _ (rho_sol w)
theorem shown_ok {s : List KN} {h : Nat → Nat} (w : WF s h) : ∀ m : Nat,
    (∀ (i : Nat) (left : Int), h i < m → i < s.length → 0 ≤ left → left ≤ 1000 → ∃ f o l', fshown s f i left = some (o, l') ∧ (nS (rho s h i) ≤ left → o = some (toS (rho s h i)) ∧ l' = left - nS (rho s h i)) ∧ (left < nS (rho s h i) → o = none)) ∧
    (∀ (r : Nat) (n : KN) (acc : List S41) (left : Int), h r < m → s[r]? = some n → n.lk = none → 0 ≤ left → acc.length + left ≤ 1000 → ∃ f o l', fshownL s f r acc left = some (o, l') ∧ (nS (rho s h r) - 1 ≤ left → o = some (acc ++ toS (rho s h r)) ∧ l' = left - (nS (rho s h r) - 1)) ∧ (left < nS (rho s h r) - 1 → o = none)) := by
  intro m
  induction m with
  | zero => exact ⟨fun i left hm => absurd hm (by omega), fun r n acc left hm => absurd hm (by omega)⟩
  | succ m ih =>
    obtain ⟨ihA, ihB⟩ := ih
    have B : ∀ (r : Nat) (n : KN) (acc : List S41) (left : Int), h r < m + 1 → s[r]? = some n → n.lk = none → 0 ≤ left → acc.length + left ≤ 1000 → ∃ f o l', fshownL s f r acc left = some (o, l') ∧ (nS (rho s h r) - 1 ≤ left → o = some (acc ++ toS (rho s h r)) ∧ l' = left - (nS (rho s h r) - 1)) ∧ (left < nS (rho s h r) - 1 → o = none) := by
      intro r n acc left hm hn hl h0 hb
      have hd := w.dec r n hn
      have hr := w.rng r n hn
      cases hf : n.fr with
      | none =>
        have e : rho s h r = .o := by
          unfold rho
          rw [rdF, hn]
          simp only
          rw [hl]
          simp only
          rw [hf]
        refine ⟨1, some acc, left, ?_, fun _ => ?_, fun hlt => ?_⟩
        · unfold fshownL
          rw [hn]
          simp only
          rw [hf]
        · refine ⟨by rw [e, toS, List.append_nil], ?_⟩
          rw [e]
          simp only [nS]
          omega
        · rw [e] at hlt
          simp only [nS] at hlt
          omega
      | some a =>
        cases ht : n.tk with
        | none => exact absurd ((w.arr r n hn).2 ht) (by rw [hf]; simp)
        | some t =>
          have da := hd.2.1 a hf
          have dt := hd.2.2 t ht
          have e : rho s h r = .ar (rho s h a) (rho s h t) := (rho_sol w r n hn).2.2 a t hf ht
          obtain ⟨r2, hr2⟩ := fend_tot w (h t + 1) t (by omega) (hr.2.2 t ht)
          obtain ⟨⟨n2, hn2, hl2⟩, _, hle⟩ := fend_ok hr2
          have hle := hle h w
          have et := rho_end w hr2
          have pa := nS_pos (rho s h a)
          have pt := nS_pos (rho s h t)
          obtain ⟨f1, o1, l1, hs1, y1, n1⟩ := ihA a left (by omega) (hr.2.1 a hf) h0 (by omega)
          by_cases hfit : nS (rho s h a) ≤ left
          · obtain ⟨eo, el⟩ := y1 hfit
            subst eo el
            obtain ⟨f2, o2, l2, hs2, y2, n2'⟩ := ihB r2 n2 (acc ++ [⟨toS (rho s h a)⟩]) (left - nS (rho s h a)) (by omega) hn2 hl2 (by omega) (by rw [List.length_append]; simp only [List.length_cons, List.length_nil]; omega)
            have m1 : f1 ≤ max f1 (max f2 (h t + 1)) := Nat.le_max_left _ _
            have m2 : f2 ≤ max f1 (max f2 (h t + 1)) := Nat.le_trans (Nat.le_max_left _ _) (Nat.le_max_right _ _)
            have m3 : h t + 1 ≤ max f1 (max f2 (h t + 1)) := Nat.le_trans (Nat.le_max_right _ _) (Nat.le_max_right _ _)
            refine ⟨max f1 (max f2 (h t + 1)) + 1, o2, l2, ?_, fun hg => ?_, fun hg => ?_⟩
            · unfold fshownL
              rw [hn]
              simp only
              rw [hf]
              simp only
              rw [fshown_le m1 hs1]
              simp only
              rw [if_pos (by omega), ht]
              simp only
              rw [fend_le m3 hr2]
              exact fshownL_le m2 hs2
            · rw [e] at hg ⊢
              simp only [nS] at hg ⊢
              obtain ⟨z1, z2⟩ := y2 (by rw [← et]; omega)
              rw [← et] at z1 z2
              exact ⟨by rw [z1, toS, List.append_assoc]; rfl, by omega⟩
            · rw [e] at hg
              simp only [nS] at hg
              exact n2' (by rw [← et]; omega)
          · have eo := n1 (by omega)
            subst eo
            refine ⟨f1 + 1, none, l1, ?_, fun hg => ?_, fun _ => rfl⟩
            · unfold fshownL
              rw [hn]
              simp only
              rw [hf]
              simp only
              rw [hs1]
            · rw [e] at hg
              simp only [nS] at hg
              omega
    refine ⟨fun i left hm hi h0 hb => ?_, B⟩
    have p := nS_pos (rho s h i)
    by_cases hz : left - 1 < 0
    · refine ⟨1, none, left - 1, ?_, fun hg => by omega, fun _ => rfl⟩
      unfold fshown
      rw [if_pos hz]
    · obtain ⟨r, hr⟩ := fend_tot w (h i + 1) i (by omega) hi
      obtain ⟨⟨n, hn, hl⟩, _, hle⟩ := fend_ok hr
      have hle := hle h w
      have er := rho_end w hr
      obtain ⟨f, o, l', hs, y, nn⟩ := B r n [] (left - 1) (by omega) hn hl (by omega) (by simp only [List.length_nil]; omega)
      refine ⟨max f (h i + 1) + 1, o, l', ?_, fun hg => ?_, fun hg => ?_⟩
      · unfold fshown
        rw [if_neg hz, fend_le (Nat.le_max_right f (h i + 1)) hr]
        exact fshownL_le (Nat.le_max_left f (h i + 1)) hs
      · rw [er] at hg ⊢
        obtain ⟨z1, z2⟩ := y (by omega)
        exact ⟨by rw [z1, List.nil_append], by omega⟩
      · rw [er] at hg
        exact nn (by omega)
/-- A sort that may be shown. -/
def goodB (t : KT) : Bool := decide (nS t ≤ 60) && decide (sorts_Check.f (toS t) = some 0)
theorem outs_ok {s : List KN} {h : Nat → Nat} (w : WF s h) : ∀ (ks : List Nat) (acc : List S41), (∀ k, k ∈ ks → k < s.length) →
    ∃ f, fouts s f acc ks = some (if (ks.map (rho s h)).all goodB = true then some (acc ++ (ks.map (rho s h)).map (fun t => (⟨toS t⟩ : S41))) else none)
  | [], acc, _ => ⟨0, by unfold fouts; simp⟩
  | k :: ks, acc, hk => by
    obtain ⟨f1, o, l', hs, y, n⟩ := (shown_ok w (h k + 1)).1 k 60 (by omega) (hk k List.mem_cons_self) (by omega) (by omega)
    obtain ⟨f2, h2⟩ := outs_ok w ks (acc ++ [⟨toS (rho s h k)⟩]) (fun q hq => hk q (List.mem_cons_of_mem _ hq))
    rw [List.map_cons, List.all_cons]
    have hc : sorts_Check.f (toS (rho s h k)) = some 0 ∨ sorts_Check.f (toS (rho s h k)) = some 6 := by
      unfold sorts_Check.f
      split
      · exact .inr rfl
      · exact .inl rfl
    by_cases hfit : nS (rho s h k) ≤ 60
    · obtain ⟨eo, _⟩ := y hfit
      subst eo
      rcases hc with hc | hc
      · have g : goodB (rho s h k) = true := by unfold goodB; rw [decide_eq_true hfit, decide_eq_true hc]; rfl
        refine ⟨max f1 f2, ?_⟩
        unfold fouts
        rw [fshown_le (Nat.le_max_left f1 f2) hs]
        simp only
        rw [hc]
        dsimp only
        rw [if_pos rfl, fouts_le (Nat.le_max_right f1 f2) h2, g, Bool.true_and, List.map_cons, List.append_assoc]
        rfl
      · have g : goodB (rho s h k) = false := by unfold goodB; rw [decide_eq_false (p := sorts_Check.f (toS (rho s h k)) = some 0) (by rw [hc]; decide), Bool.and_false]
        refine ⟨f1, ?_⟩
        unfold fouts
        rw [hs]
        simp only
        rw [hc]
        dsimp only
        rw [if_neg (by decide), g, Bool.false_and, if_neg (by simp)]
    · have eo := n (by omega)
      subst eo
      have g : goodB (rho s h k) = false := by unfold goodB; rw [decide_eq_false hfit, Bool.false_and]
      refine ⟨f1, ?_⟩
      unfold fouts
      rw [hs, g, Bool.false_and, if_neg (by simp)]
/-- The sorts of heads, the functions having these sorts and the parameters those. -/
def hdG (syms : List S59) (G vs : List KT) (kd n : Int) : Option KT :=
  if n < 0 then none
  else if kd = 0 then vs[n.toNat]?
  else if kd = 1 then G[n.toNat]?
  else (syms[n.toNat]?).map (fun x => ars (List.replicate x.f1.toNat .o) .o)
def AllT (syms : List S59) (G : List KT) : List (List KT) → List S48 → Prop
  | _, [] => True
  | [], _ :: _ => False
  | vs :: As, x :: xs => Ty (hdG syms G vs) x.f2 .o ∧ AllT syms G As xs
/-- The functions' sorts. -/
def gam (As : List (List KT)) : List KT := As.map (fun vs => ars vs .o)
/-- Sorts of the functions' parameters with which all bodies have the sort o. -/
def Typed (syms : List S59) (l : List S48) (As : List (List KT)) : Prop := As.map List.length = l.map (fun x => x.f1.toNat) ∧ AllT syms (gam As) As l
theorem hdE_hdG (syms : List S59) (funs ps : List Nat) (ρ : Nat → KT) : hdE ⟨0, syms, funs, ps⟩ ρ = hdG syms (funs.map ρ) (ps.map ρ) := by
  funext kd n
  unfold hdE hdG
  rw [List.getElem?_map, List.getElem?_map]
theorem Alls_AllT {syms : List S59} {funs : List Nat} {ρ : Nat → KT} : ∀ (pss : List (List Nat)) (l : List S48), Alls syms funs ρ pss l ↔ AllT syms (funs.map ρ) (pss.map (fun ps => ps.map ρ)) l
  | pss, [] => by
    cases pss <;> (unfold Alls AllT; exact Iff.rfl)
  | [], x :: xs => by unfold Alls; rw [List.map_nil]; unfold AllT; exact Iff.rfl
  | ps :: pss, x :: xs => by
    rw [List.map_cons]
    unfold Alls AllT
    rw [hdE_hdG, Alls_AllT pss xs]
def lesL : List KT → List KT → Prop
  | [], [] => True
  | a :: vs, b :: ws => a.le b ∧ lesL vs ws
  | _, _ => False
theorem lesL_map {ρ ρ' : Nat → KT} (h : ∀ i, (ρ i).le (ρ' i)) : ∀ ks : List Nat, lesL (ks.map ρ) (ks.map ρ')
  | [] => trivial
  | k :: ks => ⟨h k, lesL_map h ks⟩
theorem looseL_known : ∀ (l : List S48) (nf ns : Int) (L : List ByteArray), looseL l nf ns L = true → ∀ x ∈ l, knownS x.f2 x.f1 nf ns = true
  | [], _, _, _, _, x, hx => by cases hx
  | y :: ys, nf, ns, L, h, x, hx => by
    unfold looseL at h
    by_cases hb : looseBad y nf ns L = true
    · rw [if_pos hb] at h; cases h
    · rw [if_neg hb] at h
      rcases List.mem_cons.1 hx with hx | hx
      · subst hx
        unfold looseBad at hb
        simp only [Bool.or_eq_true, not_or, Bool.not_eq_true', Bool.not_eq_true] at hb
        obtain ⟨_, _, _, _, _, _, h7⟩ := hb
        have e : (⟨x.f2.f0, x.f2.f1, x.f2.f2⟩ : S44) = x.f2 := by cases x.f2; rfl
        rw [e] at h7
        simpa using h7
      · exact looseL_known ys nf ns _ h x hx
theorem chkF_known {l0 : List S59} {l1 : List S48} (h : chkF l0 l1 = some 0) : ∀ x ∈ l1, knownS x.f2 x.f1 l1.length l0.length = true := by
  unfold chkF at h
  injection h with h
  split at h
  · cases h
  · split at h
    · cases h
    · split at h
      · rename_i h1 h2 h3
        exact looseL_known _ _ _ _ h3
      · cases h
/-- infer.Sorts. -/
theorem sorts_main (syms : List S59) (l : List S48) (hc : chkF syms l = some 0) :
    (∃ As0, Typed syms l As0 ∧ (∀ As, Typed syms l As → lesL (gam As0) (gam As)) ∧ ∃ f, fsorts f syms l = some (if (gam As0).all goodB = true then ((gam As0).map (fun t => (⟨toS t⟩ : S41)), 0) else ([], 3))) ∨
    ((∀ As, ¬ Typed syms l As) ∧ ∃ f, fsorts f syms l = some ([], 6)) := by
  have hok := fCheck_ok hc
  have w0 : WF [(⟨none, true, none, none⟩ : KN)] (fun _ => 0) := by
    refine ⟨?_, ?_, ?_, ?_, ?_⟩ <;> (intro i n hn; cases i with
      | zero => injection hn with hn; subst hn; simp [inS]
      | succ i => cases hn)
  have hz0 : ∀ ρ, Sol [(⟨none, true, none, none⟩ : KN)] ρ → ρ 0 = .o := fun ρ hs => (hs 0 ⟨none, true, none, none⟩ rfl).2.1 rfl
  have H := heads_ok l w0 (by decide) hz0
  have un : ∀ f, fsorts f syms l = match fbodies syms (fheads [⟨none, true, none, none⟩] l).1.2 f (fheads [⟨none, true, none, none⟩] l).2 (fheads [⟨none, true, none, none⟩] l).1.1 l with
      | none => none
      | some (false, _) => some ([], 6)
      | some (true, s) => match fouts s f [] (fheads [⟨none, true, none, none⟩] l).1.2 with
        | none => none
        | some none => some ([], 3)
        | some (some out) => some (out, 0) := by
    intro f
    unfold fsorts
    rw [hc]
    dsimp only
    rw [if_pos rfl]
    rfl
  generalize fheads [⟨none, true, none, none⟩] l = hd at *
  obtain ⟨h1, w1⟩ := H.ext.wf
  have hks : hd.1.2.length = l.length := by
    have e1 := congrArg List.length (H.down (rho hd.2 h1) (rho_sol w1))
    have e2 := congrArg List.length H.many
    simp only [List.length_map] at e1 e2
    omega
  obtain ⟨f1, b, s', hf1, Y, N⟩ := bodies_ok (syms := syms) (funs := hd.1.2) l hd.1.1 w1 (Nat.lt_of_lt_of_le (by decide) H.ext.len) (fun ρ hs => hz0 ρ (H.ext.down ρ hs)) H.lk H.lp H.many (fun x hx => by
    have h2 := chkF_known hc x hx
    have h3 := (hok.2.2.2.2 x hx).1
    rw [hks, Int.toNat_of_nonneg h3]
    exact h2)
  -- typings are solutions
  have up : ∀ As, Typed syms l As → ∃ ρ, Sol hd.2 ρ ∧ Alls syms hd.1.2 ρ hd.1.1 l ∧ hd.1.2.map ρ = gam As := by
    intro As hT
    obtain ⟨ρ, ag, hs, hm⟩ := H.up (fun _ => .o) As hT.1 (by
      intro i n hn
      cases i with
      | zero => injection hn with hn; subst hn; exact ⟨fun j hj => (by cases hj), fun _ => rfl, fun a t ha _ => (by cases ha)⟩
      | succ i => cases hn)
    have hg : hd.1.2.map ρ = gam As := by
      rw [H.down ρ hs, ← hm]
      unfold gam
      rw [List.map_map]
      rfl
    refine ⟨ρ, hs, ?_, hg⟩
    rw [Alls_AllT, hg, hm]
    exact hT.2
  have down : ∀ ρ, Sol hd.2 ρ → Alls syms hd.1.2 ρ hd.1.1 l → Typed syms l (hd.1.1.map (fun ps => ps.map ρ)) ∧ gam (hd.1.1.map (fun ps => ps.map ρ)) = hd.1.2.map ρ := by
    intro ρ hs ha
    have hg : gam (hd.1.1.map (fun ps => ps.map ρ)) = hd.1.2.map ρ := by
      rw [H.down ρ hs]
      unfold gam
      rw [List.map_map]
      rfl
    refine ⟨⟨?_, ?_⟩, hg⟩
    · rw [← H.many, List.map_map]
      exact List.map_congr_left (fun ps _ => by simp)
    · rw [hg, ← Alls_AllT]
      exact ha
  cases b with
  | false =>
    refine .inr ⟨fun As hT => ?_, f1, ?_⟩
    · obtain ⟨ρ, hs, ha, _⟩ := up As hT
      exact N rfl ρ hs ha
    · rw [un, hf1]
  | true =>
    obtain ⟨x2, d2, u2⟩ := Y rfl
    obtain ⟨h2, w2⟩ := x2.wf
    have hs2 := rho_sol w2
    obtain ⟨hT0, hg0⟩ := down (rho s' h2) (x2.down _ hs2) (d2 _ hs2)
    refine .inl ⟨_, hT0, fun As hT => ?_, ?_⟩
    · obtain ⟨ρ, hs, ha, hg⟩ := up As hT
      obtain ⟨ρ', ag, hs'⟩ := u2 ρ hs ha
      have e : hd.1.2.map ρ' = hd.1.2.map ρ := List.map_congr_left (fun k hk => ag k (H.lk k hk))
      rw [hg0, ← hg, ← e]
      exact lesL_map (fun i => rho_least hs' i) _
    · obtain ⟨f2, ho⟩ := outs_ok w2 hd.1.2 [] (fun k hk => Nat.lt_of_lt_of_le (H.lk k hk) x2.len)
      refine ⟨max f1 f2, ?_⟩
      rw [un, fbodies_le (Nat.le_max_left f1 f2) hf1]
      simp only
      rw [fouts_le (Nat.le_max_right f1 f2) ho, hg0]
      by_cases hgood : (hd.1.2.map (rho s' h2)).all goodB = true
      · rw [if_pos hgood, if_pos hgood, List.nil_append]
      · rw [if_neg hgood, if_neg hgood]
end Go.Proofs.Ytfhgoebgnilfaaa.I
namespace Go.Proofs.Ytfhgoebgnilfaaa.I
open Go.RowKit
set_option linter.unusedVariables false
/-- A node: 0 open, 1 o, 2 an arrow, 3 a link. -/
structure GN where
  k : Nat
  a : Nat
  b : Nat
inductive GEnd (s : List GN) : Nat → Nat → Nat → Prop
  | stop {i : Nat} {n : GN} : s[i]? = some n → n.k ≠ 3 → GEnd s 0 i i
  | go {m i r : Nat} {n : GN} : s[i]? = some n → n.k = 3 → GEnd s m n.a r → GEnd s (m + 1) i r
inductive GUni : List GN → Nat → Nat → Bool → List GN → Prop
  | same {s : List GN} {a b p i j : Nat} : GEnd s i a p → GEnd s j b p → GUni s a b true s
  | openL {s : List GN} {a b p q i j : Nat} {x : GN} : GEnd s i a p → GEnd s j b q → p ≠ q → s[p]? = some x → x.k = 0 → GUni s a b true (s.set p ⟨3, q, 0⟩)
  | openR {s : List GN} {a b p q i j : Nat} {x y : GN} : GEnd s i a p → GEnd s j b q → p ≠ q → s[p]? = some x → s[q]? = some y → x.k ≠ 0 → y.k = 0 → GUni s a b true (s.set q ⟨3, p, 0⟩)
  | clash {s : List GN} {a b p q i j : Nat} {x y : GN} : GEnd s i a p → GEnd s j b q → p ≠ q → s[p]? = some x → s[q]? = some y → x.k ≠ 0 → y.k ≠ 0 → x.k ≠ y.k → GUni s a b false s
  | base {s : List GN} {a b p q i j : Nat} {x y : GN} : GEnd s i a p → GEnd s j b q → p ≠ q → s[p]? = some x → s[q]? = some y → x.k = 1 → y.k = 1 → GUni s a b true (s.set p ⟨3, q, 0⟩)
  | arF {s s1 : List GN} {a b p q i j : Nat} {x y : GN} : GEnd s i a p → GEnd s j b q → p ≠ q → s[p]? = some x → s[q]? = some y → x.k = 2 → y.k = 2 → GUni (s.set p ⟨3, q, 0⟩) x.a y.a false s1 → GUni s a b false s1
  | arT {s s1 s2 : List GN} {a b p q i j : Nat} {x y : GN} {r : Bool} : GEnd s i a p → GEnd s j b q → p ≠ q → s[p]? = some x → s[q]? = some y → x.k = 2 → y.k = 2 → GUni (s.set p ⟨3, q, 0⟩) x.a y.a true s1 → GUni s1 x.b y.b r s2 → GUni s a b r s2
/-- The equations. -/
def GSol (s : List GN) (ρ : Nat → KT) : Prop :=
  ∀ (i : Nat) (n : GN), s[i]? = some n → (n.k = 1 → ρ i = .o) ∧ (n.k = 2 → ρ i = .ar (ρ n.a) (ρ n.b)) ∧ (n.k = 3 → ρ i = ρ n.a)
structure GWF (s : List GN) : Prop where
  rng : ∀ (i : Nat) (n : GN), s[i]? = some n → n.k ≤ 3 ∧ (n.k = 2 → n.a < s.length ∧ n.b < s.length) ∧ (n.k = 3 → n.a < s.length)
  fin : ∀ i, i < s.length → ∃ m r, GEnd s m i r
theorem GEnd.lt {s : List GN} {m i r : Nat} (h : GEnd s m i r) : i < s.length ∧ r < s.length ∧ ∃ n, s[r]? = some n ∧ n.k ≠ 3 := by
  induction h with
  | stop h1 h2 => exact ⟨(List.getElem?_eq_some_iff.1 h1).1, (List.getElem?_eq_some_iff.1 h1).1, _, h1, h2⟩
  | go h1 h2 _ ih => exact ⟨(List.getElem?_eq_some_iff.1 h1).1, ih.2⟩
theorem GEnd.sol {s : List GN} {ρ : Nat → KT} (hs : GSol s ρ) {m i r : Nat} (h : GEnd s m i r) : ρ i = ρ r := by
  induction h with
  | stop h1 h2 => rfl
  | go h1 h2 _ ih => exact ((hs _ _ h1).2.2 h2).trans ih
/-- An end is linked to another one. -/
theorem GEnd.link {s : List GN} {p q : Nat} {x y : GN} (hp : s[p]? = some x) (hx : x.k ≠ 3) (hq : s[q]? = some y) (hy : y.k ≠ 3) (hpq : p ≠ q) {m i r : Nat} (h : GEnd s m i r) : ∃ m' r', GEnd (s.set p ⟨3, q, 0⟩) m' i r' := by
  have hpl : p < s.length := (List.getElem?_eq_some_iff.1 hp).1
  have hq' : GEnd (s.set p ⟨3, q, 0⟩) 0 q q := .stop (n := y) (by rw [List.getElem?_set, if_neg hpq]; exact hq) hy
  have hp' : GEnd (s.set p ⟨3, q, 0⟩) 1 p q := .go (n := ⟨3, q, 0⟩) (by rw [List.getElem?_set, if_pos rfl, if_pos hpl]) rfl hq'
  induction h with
  | @stop i n h1 h2 =>
    by_cases e : i = p
    · subst e; exact ⟨_, _, hp'⟩
    · exact ⟨0, i, .stop (n := n) (by rw [List.getElem?_set, if_neg (fun h => e h.symm)]; exact h1) h2⟩
  | @go m i r n h1 h2 _ ih =>
    obtain ⟨m', r', h'⟩ := ih
    refine ⟨m' + 1, r', .go (n := n) ?_ h2 h'⟩
    rw [List.getElem?_set, if_neg (fun e => by subst e; rw [hp] at h1; injection h1 with h1; rw [← h1] at h2; exact hx h2)]
    exact h1
theorem GWF.link {s : List GN} (w : GWF s) {p q : Nat} {x y : GN} (hp : s[p]? = some x) (hx : x.k ≠ 3) (hq : s[q]? = some y) (hy : y.k ≠ 3) (hpq : p ≠ q) : GWF (s.set p ⟨3, q, 0⟩) := by
  refine ⟨fun i n hn => ?_, fun i hi => ?_⟩
  · rw [List.length_set]
    rw [List.getElem?_set] at hn
    by_cases e : p = i
    · rw [if_pos e, if_pos (by subst e; exact (List.getElem?_eq_some_iff.1 hp).1)] at hn
      injection hn with hn
      subst hn
      exact ⟨Nat.le_refl _, (fun h => by cases h), fun _ => (List.getElem?_eq_some_iff.1 hq).1⟩
    · rw [if_neg e] at hn
      exact w.rng i n hn
  · rw [List.length_set] at hi
    obtain ⟨m, r, h⟩ := w.fin i hi
    exact h.link hp hx hq hy hpq
/-- The equations behind a link. -/
theorem GSol.link {s : List GN} {p q : Nat} {x : GN} (hp : s[p]? = some x) {ρ : Nat → KT} :
    GSol (s.set p ⟨3, q, 0⟩) ρ ↔ (∀ (i : Nat) (n : GN), i ≠ p → s[i]? = some n → (n.k = 1 → ρ i = .o) ∧ (n.k = 2 → ρ i = .ar (ρ n.a) (ρ n.b)) ∧ (n.k = 3 → ρ i = ρ n.a)) ∧ ρ p = ρ q := by
  have hpl : p < s.length := (List.getElem?_eq_some_iff.1 hp).1
  constructor
  · intro h
    refine ⟨fun i n hi hn => h i n (by rw [List.getElem?_set, if_neg (fun e => hi e.symm)]; exact hn), ?_⟩
    exact (h p ⟨3, q, 0⟩ (by rw [List.getElem?_set, if_pos rfl, if_pos hpl])).2.2 rfl
  · rintro ⟨h, e⟩ i n hn
    rw [List.getElem?_set] at hn
    by_cases ei : p = i
    · rw [if_pos ei, if_pos (by subst ei; exact hpl)] at hn
      injection hn with hn
      subst hn ei
      exact ⟨(fun h => by cases h), (fun h => by cases h), fun _ => e⟩
    · rw [if_neg ei] at hn
      exact h i n (fun e => ei e.symm) hn
theorem GSol.split {s : List GN} {p : Nat} {x : GN} (hp : s[p]? = some x) {ρ : Nat → KT} :
    GSol s ρ ↔ (∀ (i : Nat) (n : GN), i ≠ p → s[i]? = some n → (n.k = 1 → ρ i = .o) ∧ (n.k = 2 → ρ i = .ar (ρ n.a) (ρ n.b)) ∧ (n.k = 3 → ρ i = ρ n.a)) ∧ (x.k = 1 → ρ p = .o) ∧ (x.k = 2 → ρ p = .ar (ρ x.a) (ρ x.b)) ∧ (x.k = 3 → ρ p = ρ x.a) := by
  constructor
  · exact fun h => ⟨fun i n _ hn => h i n hn, h p x hp⟩
  · rintro ⟨h, e⟩ i n hn
    by_cases ei : i = p
    · subst ei
      rw [hp] at hn
      injection hn with hn
      subst hn
      exact e
    · exact h i n ei hn
/-- How many nodes are no links. -/
def nol (n : GN) : Bool := n.k != 3
def NL (s : List GN) : Nat := s.countP nol
theorem NL_set {s : List GN} {p q : Nat} {x : GN} (hp : s[p]? = some x) (hx : x.k ≠ 3) : NL (s.set p ⟨3, q, 0⟩) < NL s := by
  unfold NL
  induction s generalizing p with
  | nil => simp at hp
  | cons z s ih =>
    cases p with
    | zero =>
      injection hp with hp
      subst hp
      have e1 : nol z = true := bne_iff_ne.2 hx
      have e2 : nol ⟨3, q, 0⟩ = false := rfl
      rw [List.set_cons_zero, List.countP_cons, List.countP_cons, e1, e2]
      simp
    | succ p =>
      have := ih (p := p) hp
      rw [List.set_cons_succ, List.countP_cons, List.countP_cons]
      omega
/-- What unify comes to. -/
structure Unified (s : List GN) (a b : Nat) (r : Bool) (s' : List GN) : Prop where
  len : s'.length = s.length
  wf : GWF s'
  nl : NL s' ≤ NL s
  yes : r = true → ∀ ρ, GSol s' ρ ↔ GSol s ρ ∧ ρ a = ρ b
  no : r = false → ∀ ρ, GSol s ρ → ρ a ≠ ρ b
theorem GUni.ok {s : List GN} {a b : Nat} {r : Bool} {s' : List GN} (h : GUni s a b r s') : GWF s → Unified s a b r s' := by
  induction h with
  | same h1 h2 =>
    intro w
    exact ⟨rfl, w, Nat.le_refl _, fun _ ρ => ⟨fun hs => ⟨hs, (h1.sol hs).trans (h2.sol hs).symm⟩, fun h => h.1⟩, fun e => (by cases e)⟩
  | @openL s a b p q i j x h1 h2 hpq hx h0 =>
    intro w
    obtain ⟨_, _, y, hy, hy3⟩ := h2.lt
    refine ⟨List.length_set .., w.link hx (by omega) hy hy3 hpq, Nat.le_of_lt (NL_set hx (by omega)), fun _ ρ => ?_, fun e => (by cases e)⟩
    rw [GSol.link hx]
    constructor
    · rintro ⟨h, e⟩
      have hs : GSol s ρ := (GSol.split hx).2 ⟨h, fun e => by omega, fun e => by omega, fun e => by omega⟩
      exact ⟨hs, by rw [h1.sol hs, h2.sol hs, e]⟩
    · rintro ⟨hs, e⟩
      rw [h1.sol hs, h2.sol hs] at e
      exact ⟨((GSol.split hx).1 hs).1, e⟩
  | @openR s a b p q i j x y h1 h2 hpq hx hy hx0 h0 =>
    intro w
    obtain ⟨_, _, x', hx', hx3⟩ := h1.lt
    rw [hx] at hx'
    injection hx' with hx'
    subst hx'
    refine ⟨List.length_set .., w.link hy (by omega) hx hx3 (fun e => hpq e.symm), Nat.le_of_lt (NL_set hy (by omega)), fun _ ρ => ?_, fun e => (by cases e)⟩
    rw [GSol.link hy]
    constructor
    · rintro ⟨h, e⟩
      have hs : GSol s ρ := (GSol.split hy).2 ⟨h, fun e => by omega, fun e => by omega, fun e => by omega⟩
      exact ⟨hs, by rw [h1.sol hs, h2.sol hs, e]⟩
    · rintro ⟨hs, e⟩
      rw [h1.sol hs, h2.sol hs] at e
      exact ⟨((GSol.split hy).1 hs).1, e.symm⟩
  | @clash s a b p q i j x y h1 h2 hpq hx hy hx0 hy0 hk =>
    intro w
    obtain ⟨_, _, x', hx', hx3⟩ := h1.lt
    obtain ⟨_, _, y', hy', hy3⟩ := h2.lt
    rw [hx] at hx'
    injection hx' with hx'
    subst hx'
    rw [hy] at hy'
    injection hy' with hy'
    subst hy'
    have r1 := (w.rng _ _ hx).1
    have r2 := (w.rng _ _ hy).1
    refine ⟨rfl, w, Nat.le_refl _, fun e => (by cases e), fun _ ρ hs e => ?_⟩
    rw [h1.sol hs, h2.sol hs] at e
    have e1 := hs p _ hx
    have e2 := hs q _ hy
    by_cases k1 : x.k = 1
    · have k2 : y.k = 2 := by omega
      rw [e1.1 k1, e2.2.1 k2] at e
      cases e
    · have k1' : x.k = 2 := by omega
      have k2 : y.k = 1 := by omega
      rw [e1.2.1 k1', e2.1 k2] at e
      cases e
  | @base s a b p q i j x y h1 h2 hpq hx hy hx1 hy1 =>
    intro w
    refine ⟨List.length_set .., w.link hx (by omega) hy (by omega) hpq, Nat.le_of_lt (NL_set hx (by omega)), fun _ ρ => ?_, fun e => (by cases e)⟩
    rw [GSol.link hx]
    constructor
    · rintro ⟨h, e⟩
      have hs : GSol s ρ := (GSol.split hx).2 ⟨h, fun _ => by rw [e]; exact (h q y (fun e => hpq e.symm) hy).1 hy1, fun e => by omega, fun e => by omega⟩
      exact ⟨hs, by rw [h1.sol hs, h2.sol hs, e]⟩
    · rintro ⟨hs, e⟩
      rw [h1.sol hs, h2.sol hs] at e
      exact ⟨((GSol.split hx).1 hs).1, e⟩
  | @arF s s1 a b p q i j x y h1 h2 hpq hx hy hx2 hy2 hu ih =>
    intro w
    have w1 := w.link hx (by omega) hy (by omega) hpq
    have U := ih w1
    refine ⟨U.len.trans (List.length_set ..), U.wf, Nat.le_trans U.nl (Nat.le_of_lt (NL_set hx (by omega))), fun e => (by cases e), fun _ ρ hs e => ?_⟩
    rw [h1.sol hs, h2.sol hs] at e
    have e1 := (hs p _ hx).2.1 hx2
    have e2 := (hs q _ hy).2.1 hy2
    have hs1 : GSol (s.set p ⟨3, q, 0⟩) ρ := (GSol.link hx).2 ⟨((GSol.split hx).1 hs).1, e⟩
    rw [e1, e2] at e
    injection e with e3 e4
    exact U.no rfl ρ hs1 e3
  | @arT s s1 s2 a b p q i j x y r h1 h2 hpq hx hy hx2 hy2 hu hv ih1 ih2 =>
    intro w
    have w1 := w.link hx (by omega) hy (by omega) hpq
    have U := ih1 w1
    have V := ih2 U.wf
    refine ⟨V.len.trans (U.len.trans (List.length_set ..)), V.wf, Nat.le_trans V.nl (Nat.le_trans U.nl (Nat.le_of_lt (NL_set hx (by omega)))), fun hr ρ => ?_, fun hr ρ hs e => ?_⟩
    · rw [V.yes hr, U.yes rfl, GSol.link hx]
      constructor
      · rintro ⟨⟨⟨h, e⟩, ea⟩, eb⟩
        have hq := (h q y (fun e => hpq e.symm) hy).2.1 hy2
        have hs : GSol s ρ := (GSol.split hx).2 ⟨h, fun e => by omega, fun _ => by rw [e, hq, ea, eb], fun e => by omega⟩
        exact ⟨hs, by rw [h1.sol hs, h2.sol hs, e]⟩
      · rintro ⟨hs, e⟩
        rw [h1.sol hs, h2.sol hs] at e
        have e1 := (hs p _ hx).2.1 hx2
        have e2 := (hs q _ hy).2.1 hy2
        have e0 := e
        rw [e1, e2] at e
        injection e with e3 e4
        exact ⟨⟨⟨((GSol.split hx).1 hs).1, e0⟩, e3⟩, e4⟩
    · rw [h1.sol hs, h2.sol hs] at e
      have e1 := (hs p _ hx).2.1 hx2
      have e2 := (hs q _ hy).2.1 hy2
      have hs1 : GSol (s.set p ⟨3, q, 0⟩) ρ := (GSol.link hx).2 ⟨((GSol.split hx).1 hs).1, e⟩
      rw [e1, e2] at e
      injection e with e3 e4
      exact V.no hr ρ ((U.yes rfl ρ).2 ⟨hs1, e3⟩) e4
theorem GUni.tot : ∀ (n : Nat) (s : List GN) (a b : Nat), GWF s → NL s ≤ n → a < s.length → b < s.length → ∃ r s', GUni s a b r s' := by
  intro n
  induction n with
  | zero =>
    intro s a b w hn ha hb
    obtain ⟨m, r, h⟩ := w.fin a ha
    obtain ⟨_, _, x, hx, hx3⟩ := h.lt
    have := NL_set (q := 0) hx hx3
    omega
  | succ n ih =>
    intro s a b w hn ha hb
    obtain ⟨i, p, h1⟩ := w.fin a ha
    obtain ⟨j, q, h2⟩ := w.fin b hb
    obtain ⟨_, _, x, hx, hx3⟩ := h1.lt
    obtain ⟨_, _, y, hy, hy3⟩ := h2.lt
    by_cases hpq : p = q
    · subst hpq; exact ⟨_, _, .same h1 h2⟩
    by_cases x0 : x.k = 0
    · exact ⟨_, _, .openL h1 h2 hpq hx x0⟩
    by_cases y0 : y.k = 0
    · exact ⟨_, _, .openR h1 h2 hpq hx hy x0 y0⟩
    by_cases hk : x.k = y.k
    rotate_left
    · exact ⟨_, _, .clash h1 h2 hpq hx hy x0 y0 hk⟩
    have r1 := w.rng _ _ hx
    have r2 := w.rng _ _ hy
    by_cases x1 : x.k = 1
    · exact ⟨_, _, .base h1 h2 hpq hx hy x1 (by omega)⟩
    have x2 : x.k = 2 := by omega
    have y2 : y.k = 2 := by omega
    have w1 := w.link hx (by omega) hy (by omega) hpq
    have l1 : (s.set p ⟨3, q, 0⟩).length = s.length := List.length_set ..
    have n1 := NL_set (q := q) hx hx3
    obtain ⟨r, s1, hu⟩ := ih (s.set p ⟨3, q, 0⟩) x.a y.a w1 (by omega) (by rw [l1]; exact (r1.2.1 x2).1) (by rw [l1]; exact (r2.2.1 y2).1)
    have U := hu.ok w1
    cases r with
    | false => exact ⟨_, _, .arF h1 h2 hpq hx hy x2 y2 hu⟩
    | true =>
      have l2 := U.len
      have n2 := U.nl
      obtain ⟨r, s2, hv⟩ := ih s1 x.b y.b U.wf (by omega) (by rw [l2, l1]; exact (r1.2.1 x2).2) (by rw [l2, l1]; exact (r2.2.1 y2).2)
      exact ⟨_, _, .arT h1 h2 hpq hx hy x2 y2 hu hv⟩
end Go.Proofs.Ytfhgoebgnilfaaa.I
namespace Go.Proofs.Ytfhgoebgnilfaaa.I
open Go.RowKit
set_option linter.unusedVariables false
theorem gget_push {s : List GN} {n m : GN} {i : Nat} (h : (s ++ [n])[i]? = some m) : (i < s.length ∧ s[i]? = some m) ∨ (i = s.length ∧ m = n) := by
  rcases Nat.lt_trichotomy i s.length with hi | hi | hi
  · rw [List.getElem?_append_left hi] at h
    exact .inl ⟨hi, h⟩
  · subst hi
    rw [List.getElem?_append_right (Nat.le_refl _), Nat.sub_self] at h
    injection h with h
    exact .inr ⟨rfl, h.symm⟩
  · rw [List.getElem?_eq_none (by rw [List.length_append]; simp only [List.length_cons, List.length_nil]; omega)] at h
    cases h
theorem GEnd.push {s : List GN} {n : GN} {m i r : Nat} (h : GEnd s m i r) : GEnd (s ++ [n]) m i r := by
  induction h with
  | stop h1 h2 => exact .stop (by rw [List.getElem?_append_left (List.getElem?_eq_some_iff.1 h1).1]; exact h1) h2
  | go h1 h2 _ ih => exact .go (by rw [List.getElem?_append_left (List.getElem?_eq_some_iff.1 h1).1]; exact h1) h2 ih
theorem GWF.push {s : List GN} (w : GWF s) {n : GN} (hk : n.k < 3) (hr : n.k = 2 → n.a < s.length ∧ n.b < s.length) : GWF (s ++ [n]) := by
  refine ⟨fun i m hm => ?_, fun i hi => ?_⟩
  · rw [List.length_append, List.length_singleton]
    rcases gget_push hm with ⟨hi, hm⟩ | ⟨rfl, rfl⟩
    · have := w.rng i m hm
      exact ⟨this.1, fun h => ⟨by have := (this.2.1 h).1; omega, by have := (this.2.1 h).2; omega⟩, fun h => by have := this.2.2 h; omega⟩
    · exact ⟨by omega, fun h => ⟨by have := (hr h).1; omega, by have := (hr h).2; omega⟩, fun h => by omega⟩
  · rw [List.length_append, List.length_singleton] at hi
    by_cases e : i = s.length
    · subst e
      exact ⟨0, s.length, .stop (n := n) (by rw [List.getElem?_append_right (Nat.le_refl _), Nat.sub_self]; rfl) (by omega)⟩
    · obtain ⟨m, r, h⟩ := w.fin i (by omega)
      exact ⟨m, r, h.push⟩
theorem GSol.push {s : List GN} {n : GN} {ρ : Nat → KT} : GSol (s ++ [n]) ρ ↔ GSol s ρ ∧ (n.k = 1 → ρ s.length = .o) ∧ (n.k = 2 → ρ s.length = .ar (ρ n.a) (ρ n.b)) ∧ (n.k = 3 → ρ s.length = ρ n.a) := by
  constructor
  · intro h
    exact ⟨fun i m hm => h i m (by rw [List.getElem?_append_left (List.getElem?_eq_some_iff.1 hm).1]; exact hm), h s.length n (by rw [List.getElem?_append_right (Nat.le_refl _), Nat.sub_self]; rfl)⟩
  · rintro ⟨h, e⟩ i m hm
    rcases gget_push hm with ⟨hi, hm⟩ | ⟨rfl, rfl⟩
    · exact h i m hm
    · exact e
theorem GSol.agree {s : List GN} (w : GWF s) {ρ ρ' : Nat → KT} (e : ∀ i, i < s.length → ρ' i = ρ i) (hs : GSol s ρ) : GSol s ρ' := by
  intro i n hn
  have hi : i < s.length := (List.getElem?_eq_some_iff.1 hn).1
  have r := w.rng i n hn
  have h := hs i n hn
  refine ⟨fun k => by rw [e i hi]; exact h.1 k, fun k => ?_, fun k => ?_⟩
  · rw [e i hi, e _ (r.2.1 k).1, e _ (r.2.1 k).2]; exact h.2.1 k
  · rw [e i hi, e _ (r.2.2 k)]; exact h.2.2 k
/-- One graph, more nodes: its solutions are those of the elder one. -/
structure GExt (s s' : List GN) : Prop where
  len : s.length ≤ s'.length
  wf : GWF s'
  down : ∀ ρ, GSol s' ρ → GSol s ρ
theorem GExt.refl {s : List GN} (w : GWF s) : GExt s s := ⟨Nat.le_refl _, w, fun _ hs => hs⟩
theorem GExt.trans {s s1 s2 : List GN} (a : GExt s s1) (b : GExt s1 s2) : GExt s s2 := ⟨Nat.le_trans a.len b.len, b.wf, fun ρ hs => a.down ρ (b.down ρ hs)⟩
theorem gpush_open {s : List GN} (w : GWF s) : GExt s (s ++ [⟨0, 0, 0⟩]) ∧ ∀ ρ, GSol (s ++ [⟨0, 0, 0⟩]) ρ ↔ GSol s ρ := by
  have h : ∀ ρ, GSol (s ++ [⟨0, 0, 0⟩]) ρ ↔ GSol s ρ := fun ρ => by
    rw [GSol.push]
    exact ⟨fun h => h.1, fun h => ⟨h, (fun e => by cases e), (fun e => by cases e), (fun e => by cases e)⟩⟩
  exact ⟨⟨by rw [List.length_append]; omega, w.push (by decide) (fun e => by cases e), fun ρ hs => (h ρ).1 hs⟩, h⟩
theorem gpush_arrow {s : List GN} (w : GWF s) {a b : Nat} (ha : a < s.length) (hb : b < s.length) : GExt s (s ++ [⟨2, a, b⟩]) ∧ ∀ ρ, GSol (s ++ [⟨2, a, b⟩]) ρ ↔ GSol s ρ ∧ ρ s.length = .ar (ρ a) (ρ b) := by
  have h : ∀ ρ, GSol (s ++ [⟨2, a, b⟩]) ρ ↔ GSol s ρ ∧ ρ s.length = .ar (ρ a) (ρ b) := fun ρ => by
    rw [GSol.push]
    exact ⟨fun h => ⟨h.1, h.2.2.1 rfl⟩, fun h => ⟨h.1, (fun e => by cases e), (fun _ => h.2), (fun e => by cases e)⟩⟩
  exact ⟨⟨by rw [List.length_append]; omega, w.push (Nat.lt_succ_self 2) (fun _ => ⟨ha, hb⟩), fun ρ hs => ((h ρ).1 hs).1⟩, h⟩
/-- graph.chain: the arrows from the last node on. -/
def gchainR : List GN → Nat → List Nat → Nat × List GN
  | s, d0, [] => (d0, s)
  | s, d0, p :: ps => gchainR (s ++ [⟨2, p, d0⟩]) s.length ps
def gchain (s : List GN) (from_ : List Nat) (d0 : Nat) : Nat × List GN := gchainR s d0 from_.reverse
theorem gchainR_ok : ∀ (ps : List Nat) {s : List GN} {d0 : Nat}, GWF s → d0 < s.length → (∀ p, p ∈ ps → p < s.length) →
    GExt s (gchainR s d0 ps).2 ∧ (gchainR s d0 ps).1 < (gchainR s d0 ps).2.length ∧ (∀ ρ, GSol (gchainR s d0 ps).2 ρ → ρ (gchainR s d0 ps).1 = ars (ps.reverse.map ρ) (ρ d0)) ∧ (∀ ρ, GSol s ρ → ∃ ρ', (∀ i, i < s.length → ρ' i = ρ i) ∧ GSol (gchainR s d0 ps).2 ρ')
  | [], s, d0, w, ht, hp => ⟨GExt.refl w, ht, fun ρ hs => rfl, fun ρ hs => ⟨ρ, fun _ _ => rfl, hs⟩⟩
  | p :: ps, s, d0, w, ht, hp => by
    obtain ⟨x1, hS⟩ := gpush_arrow w (hp p List.mem_cons_self) ht
    have l1 : (s ++ [(⟨2, p, d0⟩ : GN)]).length = s.length + 1 := by rw [List.length_append]; rfl
    obtain ⟨a1, a2, a3, a4⟩ := gchainR_ok ps (d0 := s.length) x1.wf (by rw [l1]; omega) (fun q hq => by rw [l1]; have := hp q (List.mem_cons_of_mem _ hq); omega)
    refine ⟨x1.trans a1, a2, fun ρ hs => ?_, fun ρ hs => ?_⟩
    · show ρ (gchainR (s ++ [⟨2, p, d0⟩]) s.length ps).1 = _
      rw [a3 ρ hs, List.reverse_cons, List.map_append, ((hS ρ).1 (a1.down ρ hs)).2]
      exact (ars_snoc _ _ _).symm
    · have hs1 : GSol (s ++ [⟨2, p, d0⟩]) (upd ρ s.length (.ar (ρ p) (ρ d0))) := by
        have hpl := hp p List.mem_cons_self
        refine (hS _).2 ⟨GSol.agree w (fun i hi => by unfold upd; rw [if_neg (by omega)]) hs, ?_⟩
        unfold upd
        rw [if_pos rfl, if_neg (by omega), if_neg (by omega)]
      obtain ⟨ρ', he, hs'⟩ := a4 _ hs1
      exact ⟨ρ', fun i hi => (he i (by rw [l1]; omega)).trans (by unfold upd; rw [if_neg (by omega)]), hs'⟩
theorem gchain_ok (ps : List Nat) {s : List GN} {d0 : Nat} (w : GWF s) (ht : d0 < s.length) (hp : ∀ p, p ∈ ps → p < s.length) :
    GExt s (gchain s ps d0).2 ∧ (gchain s ps d0).1 < (gchain s ps d0).2.length ∧ (∀ ρ, GSol (gchain s ps d0).2 ρ → ρ (gchain s ps d0).1 = ars (ps.map ρ) (ρ d0)) ∧ (∀ ρ, GSol s ρ → ∃ ρ', (∀ i, i < s.length → ρ' i = ρ i) ∧ GSol (gchain s ps d0).2 ρ') := by
  have h := gchainR_ok ps.reverse w ht (fun p hpr => hp p (List.mem_reverse.1 hpr))
  rw [List.reverse_reverse] at h
  exact h
/-- The arguments of a term whose head is a node: the node of the term; none: it has no sort. -/
inductive GSort (hd : Int → Int → Option Nat) : List GN → Nat → List S44 → Option Nat → List GN → Prop
  | nil {s : List GN} {n : Nat} : GSort hd s n [] (some n) s
  | bad {s s1 : List GN} {n m : Nat} {x : S44} {xs : List S44} : hd x.f0 x.f1 = some m → GSort hd s m x.f2 none s1 → GSort hd s n (x :: xs) none s1
  | clash {s s1 s2 : List GN} {n m a : Nat} {x : S44} {xs : List S44} : hd x.f0 x.f1 = some m → GSort hd s m x.f2 (some a) s1 → GUni (s1 ++ [⟨0, 0, 0⟩] ++ [⟨2, a, s1.length⟩]) n (s1.length + 1) false s2 → GSort hd s n (x :: xs) none s2
  | step {s s1 s2 s3 : List GN} {n m a : Nat} {x : S44} {xs : List S44} {r : Option Nat} : hd x.f0 x.f1 = some m → GSort hd s m x.f2 (some a) s1 → GUni (s1 ++ [⟨0, 0, 0⟩] ++ [⟨2, a, s1.length⟩]) n (s1.length + 1) true s2 → GSort hd s2 s1.length xs r s3 → GSort hd s n (x :: xs) r s3
def hdN (hd : Int → Int → Option Nat) (ρ : Nat → KT) (k n : Int) : Option KT := (hd k n).map ρ
structure GTermed (s : List GN) (P : (Nat → KT) → KT → Prop) (r : Option Nat) (s' : List GN) : Prop where
  yes : ∀ k, r = some k → k < s'.length ∧ GExt s s' ∧ (∀ ρ, GSol s' ρ → P ρ (ρ k)) ∧ (∀ ρ t, GSol s ρ → P ρ t → ∃ ρ', (∀ i, i < s.length → ρ' i = ρ i) ∧ GSol s' ρ' ∧ ρ' k = t)
  no : r = none → ∀ ρ t, GSol s ρ → ¬ P ρ t
theorem hdN_agree {hd : Int → Int → Option Nat} {N : Nat} (hh : ∀ k n m, hd k n = some m → m < N) {ρ ρ' : Nat → KT} (e : ∀ i, i < N → ρ' i = ρ i) : hdN hd ρ' = hdN hd ρ := by
  funext k n
  unfold hdN
  cases hm : hd k n with
  | none => rfl
  | some m => simp only [Option.map_some]; rw [e m (hh k n m hm)]
/-- What is behind the two new nodes. -/
theorem gtwo {s1 : List GN} (w : GWF s1) {a : Nat} (ha : a < s1.length) : GExt s1 (s1 ++ [⟨0, 0, 0⟩] ++ [⟨2, a, s1.length⟩]) ∧ (s1 ++ [(⟨0, 0, 0⟩ : GN)] ++ [(⟨2, a, s1.length⟩ : GN)]).length = s1.length + 2 ∧
    (∀ ρ, GSol (s1 ++ [⟨0, 0, 0⟩] ++ [⟨2, a, s1.length⟩]) ρ ↔ GSol s1 ρ ∧ ρ (s1.length + 1) = .ar (ρ a) (ρ s1.length)) := by
  obtain ⟨x2, hS2⟩ := gpush_open w
  have l2 : (s1 ++ [(⟨0, 0, 0⟩ : GN)]).length = s1.length + 1 := by rw [List.length_append]; rfl
  obtain ⟨x3, hS3⟩ := gpush_arrow x2.wf (a := a) (b := s1.length) (by rw [l2]; omega) (by rw [l2]; omega)
  refine ⟨x2.trans x3, by rw [List.length_append, l2]; rfl, fun ρ => ?_⟩
  rw [hS3, hS2, l2]
theorem GSort.ok {hd : Int → Int → Option Nat} {s : List GN} {n : Nat} {l : List S44} {r : Option Nat} {s' : List GN} (h : GSort hd s n l r s') : GWF s → n < s.length → (∀ k n m, hd k n = some m → m < s.length) →
    GTermed s (fun ρ t => TyL (hdN hd ρ) (ρ n) l t) r s' := by
  induction h with
  | @nil s n =>
    intro w hn hh
    refine ⟨fun k hk => ?_, fun e => (by cases e)⟩
    injection hk with hk
    subst hk
    exact ⟨hn, GExt.refl w, fun ρ _ => by unfold TyL; rfl, fun ρ t hs ht => ⟨ρ, fun _ _ => rfl, hs, by unfold TyL at ht; exact ht.symm⟩⟩
  | @bad s s1 n m x xs hm _ ih =>
    intro w hn hh
    have T := ih w (hh _ _ _ hm) hh
    refine ⟨fun k hk => (by cases hk), fun _ ρ t hs ht => ?_⟩
    unfold TyL at ht
    obtain ⟨a, b, _, ha, _⟩ := ht
    obtain ⟨xk, xn, xl⟩ := x
    unfold Ty at ha
    obtain ⟨t0, h0, ha⟩ := ha
    unfold hdN at h0
    rw [hm] at h0
    simp only [Option.map_some] at h0
    injection h0 with h0
    subst h0
    exact T.no rfl ρ a hs ha
  | @clash s s1 s2 n m a x xs hm _ hu ih =>
    intro w hn hh
    have T := ih w (hh _ _ _ hm) hh
    obtain ⟨hal, ext1, d1, u1⟩ := T.yes a rfl
    obtain ⟨x3, l3, eqs⟩ := gtwo ext1.wf hal
    have U := hu.ok x3.wf
    have hn1 : n < s1.length := Nat.lt_of_lt_of_le hn ext1.len
    have x03 := ext1.trans x3
    refine ⟨fun k hk => (by cases hk), fun _ ρ t hs ht => ?_⟩
    · unfold TyL at ht
      obtain ⟨a', b, hab, ha, _⟩ := ht
      obtain ⟨xk, xn, xl⟩ := x
      unfold Ty at ha
      obtain ⟨t0, h0, ha⟩ := ha
      unfold hdN at h0
      rw [hm] at h0
      simp only [Option.map_some] at h0
      injection h0 with h0
      subst h0
      obtain ⟨ρ1, ag1, hs1, hx1⟩ := u1 ρ a' hs ha
      have ag : ∀ i : Nat, i < s1.length → upd (upd ρ1 s1.length b) (s1.length + 1) (.ar a' b) i = ρ1 i := fun i hi => by unfold upd; rw [if_neg (by omega), if_neg (by omega)]
      refine U.no rfl (upd (upd ρ1 s1.length b) (s1.length + 1) (.ar a' b)) ((eqs _).2 ⟨GSol.agree ext1.wf ag hs1, ?_⟩) ?_
      · rw [ag a hal, hx1]
        unfold upd
        rw [if_pos rfl, if_neg (by omega), if_pos rfl]
      · rw [ag n hn1, ag1 n hn, hab]
        unfold upd
        rw [if_pos rfl]
  | @step s s1 s2 s3 n m a x xs r hm _ hu _ ih1 ih2 =>
    intro w hn hh
    have T := ih1 w (hh _ _ _ hm) hh
    obtain ⟨hal, ext1, d1, u1⟩ := T.yes a rfl
    obtain ⟨x3, l3, eqs⟩ := gtwo ext1.wf hal
    have U := hu.ok x3.wf
    have hS4 := U.yes rfl
    have hn1 : n < s1.length := Nat.lt_of_lt_of_le hn ext1.len
    have x03 := ext1.trans x3
    have l4 : s2.length = s1.length + 2 := U.len.trans l3
    have x4 : GExt s s2 := ⟨by rw [l4]; have := ext1.len; omega, U.wf, fun ρ hs => x03.down ρ ((hS4 ρ).1 hs).1⟩
    have T2 := ih2 U.wf (by omega) (fun k n m hm => Nat.lt_of_lt_of_le (hh k n m hm) x4.len)
    obtain ⟨xk, xn, xl⟩ := x
    have key : ∀ ρ t, GSol s ρ → TyL (hdN hd ρ) (ρ n) (⟨xk, xn, xl⟩ :: xs) t → ∃ ρ', (∀ i, i < s.length → ρ' i = ρ i) ∧ GSol s2 ρ' ∧ TyL (hdN hd ρ') (ρ' s1.length) xs t := by
      intro ρ t hs ht
      unfold TyL at ht
      obtain ⟨a', b, hab, ha, hb⟩ := ht
      unfold Ty at ha
      obtain ⟨t0, h0, ha⟩ := ha
      unfold hdN at h0
      rw [hm] at h0
      simp only [Option.map_some] at h0
      injection h0 with h0
      subst h0
      obtain ⟨ρ1, ag1, hs1, hx1⟩ := u1 ρ a' hs ha
      have ag : ∀ i : Nat, i < s1.length → upd (upd ρ1 s1.length b) (s1.length + 1) (.ar a' b) i = ρ1 i := fun i hi => by unfold upd; rw [if_neg (by omega), if_neg (by omega)]
      have agS : ∀ i, i < s.length → upd (upd ρ1 s1.length b) (s1.length + 1) (.ar a' b) i = ρ i := fun i hi => (ag i (Nat.lt_of_lt_of_le hi ext1.len)).trans (ag1 i hi)
      refine ⟨upd (upd ρ1 s1.length b) (s1.length + 1) (.ar a' b), agS, (hS4 _).2 ⟨(eqs _).2 ⟨GSol.agree ext1.wf ag hs1, ?_⟩, ?_⟩, ?_⟩
      · rw [ag a hal, hx1]
        unfold upd
        rw [if_pos rfl, if_neg (by omega), if_pos rfl]
      · rw [ag n hn1, ag1 n hn, hab]
        unfold upd
        rw [if_pos rfl]
      · rw [hdN_agree hh agS]
        have hbv : upd (upd ρ1 s1.length b) (s1.length + 1) (.ar a' b) s1.length = b := by unfold upd; rw [if_neg (by omega), if_pos rfl]
        rw [hbv]
        exact hb
    refine ⟨fun q hq => ?_, fun hr ρ t hs ht => ?_⟩
    · obtain ⟨a1, ext2, a3, a4⟩ := T2.yes q hq
      refine ⟨a1, x4.trans ext2, fun ρ hs => ?_, fun ρ t hs ht => ?_⟩
      · have hs2 := ext2.down ρ hs
        obtain ⟨b1, b2⟩ := (hS4 ρ).1 hs2
        obtain ⟨c1, c2⟩ := (eqs ρ).1 b1
        unfold TyL
        refine ⟨ρ a, ρ s1.length, by rw [b2, c2], ?_, a3 ρ hs⟩
        unfold Ty
        exact ⟨ρ m, by unfold hdN; rw [hm]; rfl, d1 ρ c1⟩
      · obtain ⟨ρ1, ag1, hs1, ht1⟩ := key ρ t hs ht
        obtain ⟨ρ2, ag2, hs2, hq2⟩ := a4 ρ1 t hs1 ht1
        exact ⟨ρ2, fun i hi => (ag2 i (Nat.lt_of_lt_of_le hi x4.len)).trans (ag1 i hi), hs2, hq2⟩
    · obtain ⟨ρ1, ag1, hs1, ht1⟩ := key ρ t hs ht
      exact T2.no hr ρ1 t hs1 ht1
end Go.Proofs.Ytfhgoebgnilfaaa.I
namespace Go.Proofs.Ytfhgoebgnilfaaa.I
open Go.RowKit
set_option linter.unusedVariables false
def toK (n : GN) : KN := if n.k = 1 then ⟨none, true, none, none⟩ else if n.k = 2 then ⟨none, false, some n.a, some n.b⟩ else if n.k = 3 then ⟨some n.a, false, none, none⟩ else ⟨none, false, none, none⟩
theorem toK0 {n : GN} (h : n.k ≠ 1) (h2 : n.k ≠ 2) (h3 : n.k ≠ 3) : toK n = ⟨none, false, none, none⟩ := by unfold toK; rw [if_neg h, if_neg h2, if_neg h3]
theorem toK1 {n : GN} (h : n.k = 1) : toK n = ⟨none, true, none, none⟩ := by unfold toK; rw [if_pos h]
theorem toK2 {n : GN} (h : n.k = 2) : toK n = ⟨none, false, some n.a, some n.b⟩ := by unfold toK; rw [if_neg (by omega), if_pos h]
theorem toK3 {n : GN} (h : n.k = 3) : toK n = ⟨some n.a, false, none, none⟩ := by unfold toK; rw [if_neg (by omega), if_neg (by omega), if_pos h]
theorem toK_get {s : List GN} {i : Nat} {m : KN} (h : (s.map toK)[i]? = some m) : ∃ n, s[i]? = some n ∧ m = toK n := by
  rw [List.getElem?_map] at h
  cases hn : s[i]? with
  | none => rw [hn] at h; cases h
  | some n => rw [hn] at h; injection h with h; exact ⟨n, rfl, h.symm⟩
theorem GSol_toK {s : List GN} {ρ : Nat → KT} : GSol s ρ ↔ Sol (s.map toK) ρ := by
  constructor
  · intro h i m hm
    obtain ⟨n, hn, rfl⟩ := toK_get hm
    obtain ⟨h1, h2, h3⟩ := h i n hn
    by_cases k1 : n.k = 1
    · rw [toK1 k1]; exact ⟨(fun j e => by cases e), fun _ => h1 k1, (fun a t e => by cases e)⟩
    by_cases k2 : n.k = 2
    · rw [toK2 k2]; exact ⟨(fun j e => by cases e), (fun e => by cases e), fun a t e e' => by injection e with e; injection e' with e'; rw [← e, ← e']; exact h2 k2⟩
    by_cases k3 : n.k = 3
    · rw [toK3 k3]; exact ⟨(fun j e => by injection e with e; rw [← e]; exact h3 k3), (fun e => by cases e), (fun a t e => by cases e)⟩
    · rw [toK0 k1 k2 k3]; exact ⟨(fun j e => by cases e), (fun e => by cases e), (fun a t e => by cases e)⟩
  · intro h i n hn
    obtain ⟨h1, h2, h3⟩ := h i (toK n) (by rw [List.getElem?_map, hn]; rfl)
    refine ⟨fun k1 => h2 (by rw [toK1 k1]), fun k2 => h3 n.a n.b (by rw [toK2 k2]) (by rw [toK2 k2]), fun k3 => h1 n.a (by rw [toK3 k3])⟩
/-- graph.round with its states. -/
inductive GRound (s : List GN) : List Nat → Nat → Bool → List Nat → Prop
  | on {st : List Nat} {n p m : Nat} : GEnd s m n p → st[p]? = some 1 → GRound s st n true st
  | done {st : List Nat} {n p m v : Nat} {x : GN} : GEnd s m n p → s[p]? = some x → st[p]? = some v → v ≠ 1 → (v = 2 ∨ x.k ≠ 2) → GRound s st n false st
  | ringL {st st1 : List Nat} {n p m v : Nat} {x : GN} : GEnd s m n p → s[p]? = some x → st[p]? = some v → v ≠ 1 → v ≠ 2 → x.k = 2 → GRound s (st.set p 1) x.a true st1 → GRound s st n true st1
  | ringR {st st1 st2 : List Nat} {n p m v : Nat} {x : GN} : GEnd s m n p → s[p]? = some x → st[p]? = some v → v ≠ 1 → v ≠ 2 → x.k = 2 → GRound s (st.set p 1) x.a false st1 → GRound s st1 x.b true st2 → GRound s st n true st2
  | no {st st1 st2 : List Nat} {n p m v : Nat} {x : GN} : GEnd s m n p → s[p]? = some x → st[p]? = some v → v ≠ 1 → v ≠ 2 → x.k = 2 → GRound s (st.set p 1) x.a false st1 → GRound s st1 x.b false st2 → GRound s st n false (st2.set p 2)
/-- What is below a node ends. -/
def finD (s : List GN) : Nat → Nat → Prop
  | 0, _ => False
  | m + 1, i => ∃ n, s[i]? = some n ∧ (n.k = 0 ∨ n.k = 1 ∨ (n.k = 3 ∧ finD s m n.a) ∨ (n.k = 2 ∧ finD s m n.a ∧ finD s m n.b))
theorem finD_s {s : List GN} : ∀ {m i : Nat}, finD s m i → finD s (m + 1) i
  | 0, _, h => h.elim
  | m + 1, i, ⟨n, hn, h⟩ => ⟨n, hn, by
    rcases h with h | h | ⟨h, h1⟩ | ⟨h, h1, h2⟩
    · exact .inl h
    · exact .inr (.inl h)
    · exact .inr (.inr (.inl ⟨h, finD_s h1⟩))
    · exact .inr (.inr (.inr ⟨h, finD_s h1, finD_s h2⟩))⟩
theorem finD_le {s : List GN} {m m' i : Nat} (hm : m ≤ m') (h : finD s m i) : finD s m' i := by
  induction hm with
  | refl => exact h
  | step _ ih => exact finD_s ih
def Fin_ (s : List GN) (i : Nat) : Prop := ∃ m, finD s m i
theorem GEnd.fin {s : List GN} {m i r : Nat} (h : GEnd s m i r) : Fin_ s r → Fin_ s i := by
  induction h with
  | stop _ _ => exact fun h => h
  | go h1 h2 _ ih =>
    intro hr
    obtain ⟨d, hd⟩ := ih hr
    exact ⟨d + 1, _, h1, .inr (.inr (.inl ⟨h2, hd⟩))⟩
theorem get_set_ne {α : Type} {l : List α} {p q : Nat} {v : α} (h : p ≠ q) : (l.set p v)[q]? = l[q]? := by rw [List.getElem?_set, if_neg h]
theorem get_set_eq {α : Type} {l : List α} {p : Nat} {v w : α} (h : (l.set p v)[p]? = some w) : w = v := by
  rw [List.getElem?_set, if_pos rfl] at h
  split at h
  · injection h with h; exact h.symm
  · cases h
theorem GRound.len {s : List GN} {st st' : List Nat} {n : Nat} {r : Bool} (h : GRound s st n r st') : st'.length = st.length := by
  induction h with
  | on => rfl
  | done => rfl
  | ringL _ _ _ _ _ _ _ ih => rw [ih, List.length_set]
  | ringR _ _ _ _ _ _ _ _ ih1 ih2 => rw [ih2, ih1, List.length_set]
  | no _ _ _ _ _ _ _ _ ih1 ih2 => rw [List.length_set, ih2, ih1, List.length_set]
theorem GRound.fin {s : List GN} (w : GWF s) {st st' : List Nat} {n : Nat} {r : Bool} (h : GRound s st n r st') : r = false → (∀ p, st[p]? = some 2 → Fin_ s p) → Fin_ s n ∧ (∀ p, st'[p]? = some 2 → Fin_ s p) := by
  induction h with
  | on => intro e; cases e
  | @done st n p m v x h1 hx hv v1 hd =>
    intro _ hf
    refine ⟨h1.fin ?_, hf⟩
    rcases hd with hd | hd
    · subst hd; exact hf p hv
    · obtain ⟨_, _, x', hx', h3⟩ := h1.lt
      rw [hx] at hx'
      injection hx' with hx'
      subst hx'
      have := (w.rng _ _ hx).1
      exact ⟨1, x, hx, by omega⟩
  | ringL => intro e; cases e
  | ringR => intro e; cases e
  | @no st st1 st2 n p m v x h1 hx hv v1 v2 hk _ _ ih1 ih2 =>
    intro _ hf
    obtain ⟨fa, hf1⟩ := ih1 rfl (fun q hq => by
      by_cases e : p = q
      · subst e; have := get_set_eq hq; omega
      · rw [get_set_ne e] at hq; exact hf q hq)
    obtain ⟨fb, hf2⟩ := ih2 rfl hf1
    have fp : Fin_ s p := by
      obtain ⟨d1, k1⟩ := fa
      obtain ⟨d2, k2⟩ := fb
      exact ⟨max d1 d2 + 1, x, hx, .inr (.inr (.inr ⟨hk, finD_le (Nat.le_max_left _ _) k1, finD_le (Nat.le_max_right _ _) k2⟩))⟩
    refine ⟨h1.fin fp, fun q hq => ?_⟩
    by_cases e : p = q
    · subst e; exact fp
    · rw [get_set_ne e] at hq; exact hf2 q hq
theorem GRound.ones {s : List GN} {st st' : List Nat} {n : Nat} {r : Bool} (h : GRound s st n r st') : r = false → ∀ q : Nat, st'[q]? = some 1 → st[q]? = some 1 := by
  induction h with
  | on => intro e; cases e
  | done => exact fun _ _ h => h
  | ringL => intro e; cases e
  | ringR => intro e; cases e
  | @no st st1 st2 n p m v x h1 hx hv v1 v2 hk _ _ ih1 ih2 =>
    intro _ q hq
    by_cases e : p = q
    · subst e; have := get_set_eq hq; omega
    · rw [get_set_ne e] at hq
      have := ih1 rfl q (ih2 rfl q hq)
      rwa [get_set_ne e] at this
theorem GRound.ring {s : List GN} {ρ : Nat → KT} (hs : GSol s ρ) {st st' : List Nat} {n : Nat} {r : Bool} (h : GRound s st n r st') : r = true → (∀ q, st[q]? = some 1 → (ρ n).sz < (ρ q).sz) → False := by
  induction h with
  | @on st n p m h1 hp =>
    intro _ h
    have := h p hp
    rw [h1.sol hs] at this
    omega
  | done => intro e; cases e
  | @ringL st st1 n p m v x h1 hx hv v1 v2 hk _ ih =>
    intro _ h
    have e := (hs p x hx).2.1 hk
    refine ih rfl (fun q hq => ?_)
    have hz : (ρ x.a).sz < (ρ p).sz := by rw [e, KT.sz]; omega
    by_cases eq : p = q
    · subst eq; exact hz
    · rw [get_set_ne eq] at hq
      have := h q hq
      rw [h1.sol hs] at this
      omega
  | @ringR st st1 st2 n p m v x h1 hx hv v1 v2 hk hf _ _ ih =>
    intro _ h
    have e := (hs p x hx).2.1 hk
    refine ih rfl (fun q hq => ?_)
    have hz : (ρ x.b).sz < (ρ p).sz := by rw [e, KT.sz]; omega
    have hq := hf.ones rfl q hq
    by_cases eq : p = q
    · subst eq; exact hz
    · rw [get_set_ne eq] at hq
      have := h q hq
      rw [h1.sol hs] at this
      omega
  | no => intro e; cases e
def zer (v : Nat) : Bool := v == 0
theorem zer_set : ∀ {st : List Nat} {p : Nat}, st[p]? = some 0 → (st.set p 1).countP zer < st.countP zer
  | [], p, h => by simp at h
  | z :: st, 0, h => by
    injection h with h
    subst h
    rw [List.set_cons_zero, List.countP_cons, List.countP_cons]
    simp [zer]
  | z :: st, p + 1, h => by
    have := zer_set (st := st) (p := p) h
    rw [List.set_cons_succ, List.countP_cons, List.countP_cons]
    omega
theorem zer_set2 : ∀ {st : List Nat} {p : Nat}, (st.set p 2).countP zer ≤ st.countP zer
  | [], p => by simp
  | z :: st, 0 => by
    rw [List.set_cons_zero, List.countP_cons, List.countP_cons]
    simp [zer]
  | z :: st, p + 1 => by
    have := zer_set2 (st := st) (p := p)
    rw [List.set_cons_succ, List.countP_cons, List.countP_cons]
    omega
theorem GRound.tot {s : List GN} (w : GWF s) : ∀ (c : Nat) (st : List Nat) (n : Nat), st.countP zer ≤ c → st.length = s.length → n < s.length → (∀ (p v : Nat), st[p]? = some v → v ≤ 2) → ∃ r st', GRound s st n r st' ∧ st'.countP zer ≤ st.countP zer ∧ (∀ (p v : Nat), st'[p]? = some v → v ≤ 2) := by
  intro c
  induction c with
  | zero =>
    intro st n hc hl hn hv
    obtain ⟨m, p, h1⟩ := w.fin n hn
    obtain ⟨_, hp, x, hx, h3⟩ := h1.lt
    have hv2 := List.getElem?_eq_getElem (l := st) (i := p) (by omega)
    by_cases v1 : st[p]'(by omega) = 1
    · exact ⟨true, st, .on h1 (by rw [hv2, v1]), Nat.le_refl _, hv⟩
    by_cases v2 : st[p]'(by omega) = 2
    · exact ⟨false, st, .done h1 hx hv2 v1 (.inl v2), Nat.le_refl _, hv⟩
    by_cases hk : x.k = 2
    · have := hv p _ hv2
      have v0 : st[p]'(by omega) = 0 := by omega
      have := zer_set (st := st) (p := p) (by rw [hv2, v0])
      omega
    · exact ⟨false, st, .done h1 hx hv2 v1 (.inr hk), Nat.le_refl _, hv⟩
  | succ c ih =>
    intro st n hc hl hn hv
    obtain ⟨m, p, h1⟩ := w.fin n hn
    obtain ⟨_, hp, x, hx, h3⟩ := h1.lt
    have hv2 := List.getElem?_eq_getElem (l := st) (i := p) (by omega)
    by_cases v1 : st[p]'(by omega) = 1
    · exact ⟨true, st, .on h1 (by rw [hv2, v1]), Nat.le_refl _, hv⟩
    by_cases v2 : st[p]'(by omega) = 2
    · exact ⟨false, st, .done h1 hx hv2 v1 (.inl v2), Nat.le_refl _, hv⟩
    by_cases hk : x.k = 2
    rotate_left
    · exact ⟨false, st, .done h1 hx hv2 v1 (.inr hk), Nat.le_refl _, hv⟩
    have := hv p _ hv2
    have v0 : st[p]'(by omega) = 0 := by omega
    have hz := zer_set (st := st) (p := p) (by rw [hv2, v0])
    have rg := (w.rng p x hx).2.1 hk
    have hvs : ∀ (q v : Nat), (st.set p 1)[q]? = some v → v ≤ 2 := fun q v hq => by
      by_cases e : p = q
      · subst e; have := get_set_eq hq; omega
      · rw [get_set_ne e] at hq; exact hv q v hq
    obtain ⟨r, st1, g1, z1, b1⟩ := ih (st.set p 1) x.a (by omega) (by rw [List.length_set]; exact hl) rg.1 hvs
    cases r with
    | true => exact ⟨true, st1, .ringL h1 hx hv2 v1 v2 hk g1, by omega, b1⟩
    | false =>
      obtain ⟨r, st2, g2, z2, b2⟩ := ih st1 x.b (by omega) (by rw [g1.len, List.length_set]; exact hl) rg.2 b1
      cases r with
      | true => exact ⟨true, st2, .ringR h1 hx hv2 v1 v2 hk g1 g2, by omega, b2⟩
      | false =>
        refine ⟨false, _, .no h1 hx hv2 v1 v2 hk g1 g2, ?_, fun q v hq => ?_⟩
        · have := zer_set2 (st := st2) (p := p); omega
        · by_cases e : p = q
          · subst e; have := get_set_eq hq; omega
          · rw [get_set_ne e] at hq; exact b2 q v hq
/-- A round at every node. -/
inductive GRounds (s : List GN) : List Nat → Nat → Bool → Prop
  | done {st : List Nat} {i : Nat} : s.length ≤ i → GRounds s st i false
  | ring {st st' : List Nat} {i : Nat} : i < s.length → GRound s st i true st' → GRounds s st i true
  | next {st st' : List Nat} {i : Nat} {r : Bool} : i < s.length → GRound s st i false st' → GRounds s st' (i + 1) r → GRounds s st i r
theorem GRounds.ok {s : List GN} (w : GWF s) {st : List Nat} {i : Nat} {r : Bool} (h : GRounds s st i r) : (∀ p : Nat, st[p]? ≠ some 1) → (∀ p, st[p]? = some 2 → Fin_ s p) → (∀ j, j < i → Fin_ s j) → (r = true → ∀ ρ, ¬ GSol s ρ) ∧ (r = false → ∀ j, j < s.length → Fin_ s j) := by
  induction h with
  | done hi => exact fun _ _ h => ⟨(fun e => by cases e), fun _ j hj => h j (by omega)⟩
  | ring hi hr => exact fun h1 _ _ => ⟨fun _ ρ hs => hr.ring hs rfl (fun q hq => absurd hq (h1 q)), (fun e => by cases e)⟩
  | @next st st' i r hi hr _ ih =>
    intro h1 h2 h3
    obtain ⟨f1, f2⟩ := hr.fin w rfl h2
    exact ih (fun p hp => h1 p (hr.ones rfl p hp)) f2 (fun j hj => by
      by_cases e : j = i
      · subst e; exact f1
      · exact h3 j (by omega))
theorem GRounds.tot {s : List GN} (w : GWF s) : ∀ (n i : Nat) (st : List Nat), s.length - i = n → st.length = s.length → (∀ (p v : Nat), st[p]? = some v → v ≤ 2) → ∃ r, GRounds s st i r := by
  intro n
  induction n with
  | zero => intro i st hn hl hv; exact ⟨false, .done (by omega)⟩
  | succ n ih =>
    intro i st hn hl hv
    obtain ⟨r, st', h, _, hv'⟩ := GRound.tot w _ st i (Nat.le_refl _) hl (by omega) hv
    cases r with
    | true => exact ⟨true, .ring (by omega) h⟩
    | false =>
      obtain ⟨r, hr⟩ := ih (i + 1) st' (by omega) (h.len.trans hl) hv'
      exact ⟨r, .next (by omega) h hr⟩
theorem WF_of_fin {s : List GN} (w : GWF s) (hf : ∀ j, j < s.length → Fin_ s j) : ∃ h, WF (s.map toK) h := by
  have least : ∀ j, j < s.length → ∃ m, finD s m j ∧ ∀ m', finD s m' j → m ≤ m' := by
    intro j hj
    obtain ⟨m, hm⟩ := hf j hj
    induction m using Nat.strongRecOn with
    | _ m ih =>
      by_cases h : ∃ m', m' < m ∧ finD s m' j
      · obtain ⟨m', h1, h2⟩ := h
        exact ih m' h1 h2
      · exact ⟨m, hm, fun m' hm' => by
          rcases Nat.lt_or_ge m' m with h1 | h1
          · exact absurd ⟨m', h1, hm'⟩ h
          · exact h1⟩
  have : ∃ h : Nat → Nat, ∀ j, j < s.length → finD s (h j) j ∧ ∀ m', finD s m' j → h j ≤ m' := by
    refine ⟨fun j => if hj : j < s.length then Classical.choose (least j hj) else 0, fun j hj => ?_⟩
    simp only [dif_pos hj]
    exact Classical.choose_spec (least j hj)
  obtain ⟨h, hh⟩ := this
  have down : ∀ (i : Nat) (n : GN), s[i]? = some n → (n.k = 3 → h n.a < h i) ∧ (n.k = 2 → h n.a < h i ∧ h n.b < h i) := by
    intro i n hn
    have hi : i < s.length := (List.getElem?_eq_some_iff.1 hn).1
    have rg := w.rng i n hn
    obtain ⟨h1, _⟩ := hh i hi
    cases hm : h i with
    | zero => rw [hm] at h1; exact h1.elim
    | succ m =>
      rw [hm] at h1
      obtain ⟨n', hn', hc⟩ := h1
      rw [hn] at hn'
      injection hn' with hn'
      subst hn'
      refine ⟨fun k3 => ?_, fun k2 => ?_⟩
      · rcases hc with hc | hc | ⟨_, hc⟩ | ⟨hc, _⟩
        · omega
        · omega
        · have := (hh n.a (rg.2.2 k3)).2 m hc; omega
        · omega
      · rcases hc with hc | hc | ⟨hc, _⟩ | ⟨_, hc, hd⟩
        · omega
        · omega
        · omega
        · have := (hh n.a (rg.2.1 k2).1).2 m hc
          have := (hh n.b (rg.2.1 k2).2).2 m hd
          omega
  refine ⟨h, ⟨?_, ?_, ?_, ?_, ?_⟩⟩ <;> (
    intro i m hm
    obtain ⟨n, hn, rfl⟩ := toK_get hm
    have rg := w.rng i n hn
    have dn := down i n hn
    by_cases k1 : n.k = 1
    · rw [toK1 k1]; try simp [inS]
    by_cases k2 : n.k = 2
    · have := rg.2.1 k2
      have := dn.2 k2
      rw [toK2 k2]
      try (simp [inS]; try omega)
    by_cases k3 : n.k = 3
    · have := rg.2.2 k3
      have := dn.1 k3
      rw [toK3 k3]
      try (simp [inS]; try omega)
    · rw [toK0 k1 k2 k3]; try simp [inS])
/-- graph.nodes. -/
inductive GNodesL (s : List GN) : Nat → Nat → Nat → Nat → Prop
  | leaf {p most k : Nat} {x : GN} : s[p]? = some x → x.k ≠ 2 → GNodesL s p most k k
  | full {p most k : Nat} {x : GN} : s[p]? = some x → x.k = 2 → most < k → GNodesL s p most k k
  | step {p q e most k m c d r : Nat} {x : GN} : s[p]? = some x → x.k = 2 → k ≤ most → GEnd s c x.a e → GNodesL s e (most - k) 1 m → GEnd s d x.b q → GNodesL s q most (k + m) r → GNodesL s p most k r
theorem GNodesL.ok {s : List GN} (w : GWF s) {ρ : Nat → KT} (hs : GSol s ρ) (hl : ∀ (i : Nat) (n : GN), s[i]? = some n → n.k = 0 → ρ i = .o) {p most k r : Nat} (h : GNodesL s p most k r) : (∀ x, s[p]? = some x → x.k ≠ 3) → ((k : Int) + nS (ρ p) - 1 ≤ most → (r : Int) = k + nS (ρ p) - 1) ∧ ((most : Int) < k + nS (ρ p) - 1 → most < r) := by
  induction h with
  | @leaf p most k x hx hk =>
    intro h3
    have k3 := h3 x hx
    have rg := (w.rng p x hx).1
    have e : ρ p = .o := by
      by_cases k0 : x.k = 0
      · exact hl p x hx k0
      · exact (hs p x hx).1 (by omega)
    rw [e, nS]
    exact ⟨fun _ => by omega, fun h => by omega⟩
  | @full p most k x hx hk hm =>
    intro _
    have := nS_pos (ρ p)
    exact ⟨fun h => by omega, fun _ => hm⟩
  | @step p q e most k m c d r x hx hk hkm h1 _ h2 _ ih1 ih2 =>
    intro _
    obtain ⟨_, _, x1, e1, n1⟩ := h1.lt
    obtain ⟨_, _, x2, e2, n2⟩ := h2.lt
    obtain ⟨a1, a2⟩ := ih1 (fun y hy => by rw [e1] at hy; injection hy with hy; rw [← hy]; exact n1)
    obtain ⟨b1, b2⟩ := ih2 (fun y hy => by rw [e2] at hy; injection hy with hy; rw [← hy]; exact n2)
    rw [(hs p x hx).2.1 hk, nS, h1.sol hs, h2.sol hs]
    have p1 := nS_pos (ρ e)
    have p2 := nS_pos (ρ q)
    refine ⟨fun h => ?_, fun h => ?_⟩
    · have := a1 (by omega)
      have := b1 (by omega)
      omega
    · by_cases g : (1 : Int) + nS (ρ e) - 1 ≤ (most - k : Nat)
      · have := a1 g
        exact b2 (by omega)
      · have := a2 (by omega)
        exact b2 (by omega)
/-- graph.out. -/
inductive GOutL (s : List GN) : Nat → List S41 → List S41 → Prop
  | leaf {p : Nat} {acc : List S41} {x : GN} : s[p]? = some x → x.k ≠ 2 → GOutL s p acc acc
  | step {p q e c d : Nat} {acc m out : List S41} {x : GN} : s[p]? = some x → x.k = 2 → GEnd s c x.a e → GOutL s e [] m → GEnd s d x.b q → GOutL s q (acc ++ [⟨m⟩]) out → GOutL s p acc out
theorem GOutL.ok {s : List GN} (w : GWF s) {ρ : Nat → KT} (hs : GSol s ρ) (hl : ∀ (i : Nat) (n : GN), s[i]? = some n → n.k = 0 → ρ i = .o) {p : Nat} {acc out : List S41} (h : GOutL s p acc out) : (∀ x, s[p]? = some x → x.k ≠ 3) → out = acc ++ toS (ρ p) := by
  induction h with
  | @leaf p acc x hx hk =>
    intro h3
    have k3 := h3 x hx
    have rg := (w.rng p x hx).1
    have e : ρ p = .o := by
      by_cases k0 : x.k = 0
      · exact hl p x hx k0
      · exact (hs p x hx).1 (by omega)
    rw [e, toS, List.append_nil]
  | @step p q e c d acc m out x hx hk h1 _ h2 _ ih1 ih2 =>
    intro _
    obtain ⟨_, _, x1, e1, n1⟩ := h1.lt
    obtain ⟨_, _, x2, e2, n2⟩ := h2.lt
    have a1 := ih1 (fun y hy => by rw [e1] at hy; injection hy with hy; rw [← hy]; exact n1)
    have b1 := ih2 (fun y hy => by rw [e2] at hy; injection hy with hy; rw [← hy]; exact n2)
    rw [b1, a1, (hs p x hx).2.1 hk, toS, h1.sol hs, h2.sol hs, List.nil_append, List.append_assoc]
    rfl
theorem GEnd.hgt {s : List GN} {h : Nat → Nat} (w : WF (s.map toK) h) {m i r : Nat} (e : GEnd s m i r) : h r ≤ h i := by
  induction e with
  | stop => exact Nat.le_refl _
  | @go m i r n h1 h2 _ ih =>
    have := (w.dec i (toK n) (by rw [List.getElem?_map, h1]; rfl)).1 n.a (by rw [toK3 h2])
    omega
theorem GNodesL.tot {s : List GN} (w : GWF s) {h : Nat → Nat} (wf : WF (s.map toK) h) : ∀ (c p most k : Nat), h p < c → p < s.length → (∀ x, s[p]? = some x → x.k ≠ 3) → ∃ r, GNodesL s p most k r := by
  intro c
  induction c with
  | zero => intro p most k hc; omega
  | succ c ih =>
    intro p most k hc hp h3
    have hx := List.getElem?_eq_getElem hp
    by_cases hk : (s[p]).k = 2
    rotate_left
    · exact ⟨k, .leaf hx hk⟩
    by_cases hm : most < k
    · exact ⟨k, .full hx hk hm⟩
    have rg := (w.rng p _ hx).2.1 hk
    have dn := wf.dec p (toK s[p]) (by rw [List.getElem?_map, hx]; rfl)
    have d1 := dn.2.1 (s[p]).a (by rw [toK2 hk])
    have d2 := dn.2.2 (s[p]).b (by rw [toK2 hk])
    obtain ⟨i1, e, h1⟩ := w.fin _ rg.1
    obtain ⟨i2, q, h2⟩ := w.fin _ rg.2
    have g1 := h1.hgt wf
    have g2 := h2.hgt wf
    obtain ⟨_, le, x1, e1, n1⟩ := h1.lt
    obtain ⟨_, lq, x2, e2, n2⟩ := h2.lt
    obtain ⟨m, hm1⟩ := ih e (most - k) 1 (by omega) le (fun y hy => by rw [e1] at hy; injection hy with hy; rw [← hy]; exact n1)
    obtain ⟨r, hr⟩ := ih q most (k + m) (by omega) lq (fun y hy => by rw [e2] at hy; injection hy with hy; rw [← hy]; exact n2)
    exact ⟨r, .step hx hk (by omega) h1 hm1 h2 hr⟩
theorem GOutL.tot {s : List GN} (w : GWF s) {h : Nat → Nat} (wf : WF (s.map toK) h) : ∀ (c p : Nat) (acc : List S41), h p < c → p < s.length → (∀ x, s[p]? = some x → x.k ≠ 3) → ∃ r, GOutL s p acc r := by
  intro c
  induction c with
  | zero => intro p acc hc; omega
  | succ c ih =>
    intro p acc hc hp h3
    have hx := List.getElem?_eq_getElem hp
    by_cases hk : (s[p]).k = 2
    rotate_left
    · exact ⟨acc, .leaf hx hk⟩
    have rg := (w.rng p _ hx).2.1 hk
    have dn := wf.dec p (toK s[p]) (by rw [List.getElem?_map, hx]; rfl)
    have d1 := dn.2.1 (s[p]).a (by rw [toK2 hk])
    have d2 := dn.2.2 (s[p]).b (by rw [toK2 hk])
    obtain ⟨i1, e, h1⟩ := w.fin _ rg.1
    obtain ⟨i2, q, h2⟩ := w.fin _ rg.2
    have g1 := h1.hgt wf
    have g2 := h2.hgt wf
    obtain ⟨_, le, x1, e1, n1⟩ := h1.lt
    obtain ⟨_, lq, x2, e2, n2⟩ := h2.lt
    obtain ⟨m, hm1⟩ := ih e [] (by omega) le (fun y hy => by rw [e1] at hy; injection hy with hy; rw [← hy]; exact n1)
    obtain ⟨r, hr⟩ := ih q (acc ++ [⟨m⟩]) (by omega) lq (fun y hy => by rw [e2] at hy; injection hy with hy; rw [← hy]; exact n2)
    exact ⟨r, .step hx hk h1 hm1 h2 hr⟩
mutual
theorem GSort.totS {hd : Int → Int → Option Nat} {P F S : Int} (hk : ∀ kd n, isK kd = true → 0 ≤ n → n < manyK kd P F S → ∃ m, hd kd n = some m) : ∀ (x : S44) (s : List GN), GWF s → (∀ k n m, hd k n = some m → m < s.length) → knownS x P F S = true → ∃ m r s', hd x.f0 x.f1 = some m ∧ GSort hd s m x.f2 r s'
  | ⟨kd, n, l⟩, s, w, hh, h => by
    unfold knownS at h
    simp only [Bool.and_eq_true, decide_eq_true_eq] at h
    obtain ⟨⟨hkd, hn, hlt⟩, hkl⟩ := h
    obtain ⟨m, hm⟩ := hk kd n hkd hn hlt
    obtain ⟨r, s', hs⟩ := GSort.totL hk l s m w (hh _ _ _ hm) hh hkl
    exact ⟨m, r, s', hm, hs⟩
theorem GSort.totL {hd : Int → Int → Option Nat} {P F S : Int} (hk : ∀ kd n, isK kd = true → 0 ≤ n → n < manyK kd P F S → ∃ m, hd kd n = some m) : ∀ (l : List S44) (s : List GN) (n : Nat), GWF s → n < s.length → (∀ k n m, hd k n = some m → m < s.length) → knownL l P F S = true → ∃ r s', GSort hd s n l r s'
  | [], s, n, w, hn, hh, h => ⟨_, _, .nil⟩
  | x :: xs, s, n, w, hn, hh, h => by
    unfold knownL at h
    rw [Bool.and_eq_true] at h
    obtain ⟨m, r, s1, hm, h1⟩ := GSort.totS hk x s w hh h.1
    cases r with
    | none => exact ⟨_, _, .bad hm h1⟩
    | some a =>
      have T := h1.ok w (hh _ _ _ hm) hh
      obtain ⟨hal, x1, _, _⟩ := T.yes a rfl
      obtain ⟨x3, l3, _⟩ := gtwo x1.wf hal
      obtain ⟨r, s2, hu⟩ := GUni.tot _ (s1 ++ [⟨0, 0, 0⟩] ++ [⟨2, a, s1.length⟩]) n (s1.length + 1) x3.wf (Nat.le_refl _) (by rw [l3]; have := x1.len; omega) (by rw [l3]; omega)
      cases r with
      | false => exact ⟨_, _, .clash hm h1 hu⟩
      | true =>
        have U := hu.ok x3.wf
        have l4 : s2.length = s1.length + 2 := U.len.trans l3
        obtain ⟨r, s3, h2⟩ := GSort.totL hk xs s2 s1.length U.wf (by omega) (fun k n m hm => by have := hh k n m hm; have := x1.len; omega) h.2
        exact ⟨_, _, .step hm h1 hu h2⟩
end
end Go.Proofs.Ytfhgoebgnilfaaa.I
namespace Go.Proofs.Ytfhgoebgnilfaaa.I
open Go.RowKit Go.Proofs.YtfhgoebgnilfaaaW.PrintWords Go.Proofs.YtfhgoebgnilfaaaW.PrintLast Go.Proofs.YtfhgoebgnilfaaaW.PrintMore
attribute [local go_sem] max2_int min2_int max_two min_two max_three min_three max_four min_four
set_option linter.unusedVariables false
set_option maxRecDepth 100000
set_option linter.unusedSimpArgs false
theorem blk_type {w : World} {k q t : Nat} {c c' : Array Value} (h : w.heap[k]? = some (.cells c q (0, 0))) (h' : w.heap[k]? = some (.cells c' t (0, 0))) : q = t := by
  have := h.symm.trans h'
  injection this with this
  injection this
end Go.Proofs.Ytfhgoebgnilfaaa.I
