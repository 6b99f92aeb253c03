/- Texts of this session's proof, laid together: I7, I10, IS1, IX1, IT1, IT2, IT3. -/
import Derived.Deep.RegionLaw
import Derived.Deep.DeepMust
import Derived.Test.YtfhgoebgnilfaaaV3
namespace Go.Proofs.Ytfhgoebgnilfaaa.I
open Go.RowKit Go.Proofs.YtfhgoebgnilfaaaW.PrintWords Go.Proofs.YtfhgoebgnilfaaaW.PrintLast Go.Proofs.YtfhgoebgnilfaaaW.PrintMore
attribute [local go_sem] max2_int min2_int max_two min_two max_three min_three max_four min_four   -- for this text's walks alone
set_option linter.unusedVariables false
set_option linter.unusedSimpArgs false
mutual
def virgationref01_Equal.l0 : Nat → Int → Int → List (S41) → List (S41) → Option (Bool)
  | 0, _, _, _, _ => none
  | k + 1, x15, x16, x187000, x188000 => if x16 < x15 then (if 0 ≤ x16 then (if x16 < (x187000.length : Int) then (if x16 < (x188000.length : Int) then ((virgationref01_Equal.f k ((rd_T41 x187000 x16).f0) ((rd_T41 x188000 x16).f0)).bind fun t190 => (if t190 = true then (virgationref01_Equal.l0 k x15 (wrap64 (x16 + 1)) x187000 x188000) else (some false))) else (none)) else (none)) else (none)) else (some true)
def virgationref01_Equal.f : Nat → List (S41) → List (S41) → Option (Bool)
  | 0, _, _ => none
  | k + 1, l0_0, l1_0 => if (l0_0.length : Int) = (l1_0.length : Int) then (virgationref01_Equal.l0 k (l0_0.length : Int) 0 l0_0 l1_0) else (some false)
end
def virgationref01_Equal.T6 : Bool × List (List Nat × List Nat) := (true, [([], []), ([0], [0]), ([], []), ([1, 2], [1, 2]), ([3], [3]), ([], []), ([5], [5]), ([], []), ([6, 7], [6, 7]), ([8], [8]), ([4, 9], [4, 9]), ([10], [10])])
def virgationref01_Equal.B6 : List Nat := [0, 1, 0, 7, 15, 0, 32, 0, 224, 480, 1023, 2047]
theorem virgationref01_Equal.tab6 : rtab .any (opsOf Try.f64 6) = virgationref01_Equal.T6 := by kernel_rfl
theorem virgationref01_Equal.bits6 : waitsOk virgationref01_Equal.T6.2 virgationref01_Equal.B6 = true := by kernel_rfl
set_option maxHeartbeats 8000000 in
set_option maxRecDepth 100000 in
theorem virgationref01_Equal.calls (k : Nat) : ∀ (A0_0 : Option Addr) (c0_0 : Nat) (l0_0 : List (S41)) (A1_0 : Option Addr) (c1_0 : Nat) (l1_0 : List (S41)) (r : Bool) (w : World) (hr0_0 : Kd.C k41 w A0_0 l0_0.length l0_0) (hc0_0 : l0_0.length ≤ c0_0) (hr1_0 : Kd.C k41 w A1_0 l1_0.length l1_0) (hc1_0 : l1_0.length ≤ c1_0) (h : virgationref01_Equal.f k l0_0 l1_0 = some r),
    Calls Try.prog 64 #[.agg #[.slice A0_0 l0_0.length c0_0], .agg #[.slice A1_0 l1_0.length c1_0]] w fun e w' => e = .returned (.bool r) ∧ Below w.heap.size w w' := by
  induction k using Nat.strongRecOn with
  | _ k ih =>
  intro A0_0 c0_0 l0_0 A1_0 c1_0 l1_0 r w hr0_0 hc0_0 hr1_0 hc1_0 h
  cases k with
  | zero => exact absurd h (by simp [virgationref01_Equal.f])
  | succ k =>
  simp only [virgationref01_Equal.f] at h
  have hu41 := Try.underlying41
  have HR0_0 := Aside0.mk hr0_0
  have HC0_0 := Aside0.mk hc0_0
  clear hr0_0 hc0_0
  have HR1_0 := Aside0.mk hr1_0
  have HC1_0 := Aside0.mk hc1_0
  clear hr1_0 hc1_0
  have HB := Aside0.mk (Below.refl w.heap.size w)
  have H : (if (l0_0.length : Int) = (l1_0.length : Int) then (virgationref01_Equal.l0 k (l0_0.length : Int) 0 l0_0 l1_0) else (some false)) = some r := h
  clear h
  by_cases c3 : (l0_0.length : Int) = (l1_0.length : Int)
  · rw [if_pos c3] at H
    have c3b0 : ((l0_0.length : Int) == (l1_0.length : Int)) = true := beq_iff_eq.mpr c3
    have c3b1 : ((l0_0.length : Int) != (l1_0.length : Int)) = false := bne_eq_false_iff_eq.mpr c3
    have c3b2 : (l0_0.length == l1_0.length) = true := by first | simpa using c3 | (simp at c3 ⊢; omega)
    clear c3
    have H' := Aside0.mk H
    clear H
    go_enter Try.func64, Try.ntmps64
    go_wp2_with (first | ((with_reducible refine gate_dst (N := 2) rfl ?_); refine box_event ?hg (N := 2) ?hd (cs := #[.slice A0_0 l0_0.length c0_0]) (t := 41) ?hr ?_; (case hd => rfl); (case hg => rfl); (case hr => first | (go_simp; done) | (go_simp; rfl)); intro gb186 hg w4 hbox hb; have n0_ := Aside0.mk (below_step (by repeat (first | (with_reducible first | exact HB.out | apply below_alloc | apply pw_below_drewN | apply below_drew1) | exact HB.out)) hb); have n1_ := Aside0.mk (hbox); have n2_ := Aside0.mk ((by rw [hg]; exact (below_size (by repeat (first | (with_reducible first | exact HB.out | apply below_alloc | apply pw_below_drewN | apply below_drew1) | exact HB.out))) : w.heap.size ≤ gb186)); have n3_ := Aside0.mk ((by rw [hg]; exact (below_size (by repeat (first | (with_reducible first | exact HB.out | apply below_alloc | apply pw_below_drewN | apply below_drew1) | exact HB.out))) : w.heap.size ≤ gb186)); clear HB; have HB := n0_; have BK186 := n1_; have GW186 := n2_; have GE186 := n3_; clear n0_ n1_ n2_ n3_; clear hb hbox hg) | ((with_reducible refine gate_dst (N := 3) rfl ?_); refine box_event ?hg (N := 3) ?hd (cs := #[.slice A1_0 l1_0.length c1_0]) (t := 41) ?hr ?_; (case hd => rfl); (case hg => rfl); (case hr => first | (go_simp; done) | (go_simp; rfl)); intro gb187 hg w5 hbox hb; have n0_ := Aside0.mk (blk_below (g := gb186) (o := .cells #[.slice A0_0 l0_0.length c0_0] 41 (0, 0)) (by (with_reducible repeat (first | refine blk_drewN ?_ _ | refine blk_drew ?_ | refine blk_alloc ?_ _)); exact BK186.out) hb); have n1_ := Aside0.mk (below_step (by repeat (first | (with_reducible first | exact HB.out | apply below_alloc | apply pw_below_drewN | apply below_drew1 | refine below_set ?_ GE186.out) | exact HB.out)) hb); have n2_ := Aside0.mk (hbox); have n3_ := Aside0.mk ((by rw [hg]; exact (below_size (by repeat (first | (with_reducible first | exact HB.out | apply below_alloc | apply pw_below_drewN | apply below_drew1 | refine below_set ?_ GE186.out) | exact HB.out))) : w.heap.size ≤ gb187)); have n4_ := Aside0.mk ((by rw [hg]; exact (below_size (by repeat (first | (with_reducible first | exact HB.out | apply below_alloc | apply pw_below_drewN | apply below_drew1 | refine below_set ?_ GE186.out) | exact HB.out))) : w.heap.size ≤ gb187)); have n5_ := Aside0.mk ((by rw [hg]; exact Nat.ne_of_lt (blk_lt (g := gb186) (o := .cells #[.slice A0_0 l0_0.length c0_0] 41 (0, 0)) (by (with_reducible repeat (first | refine blk_drewN ?_ _ | refine blk_drew ?_ | refine blk_alloc ?_ _)); exact BK186.out)) : gb186 ≠ gb187)); have n6_ := Aside0.mk ((by rw [hg]; exact Nat.ne_of_gt (blk_lt (g := gb186) (o := .cells #[.slice A0_0 l0_0.length c0_0] 41 (0, 0)) (by (with_reducible repeat (first | refine blk_drewN ?_ _ | refine blk_drew ?_ | refine blk_alloc ?_ _)); exact BK186.out)) : gb187 ≠ gb186)); clear BK186; clear HB; have BK186 := n0_; have HB := n1_; have BK187 := n2_; have GW187 := n3_; have GE187 := n4_; have NB186_187 := n5_; have NB187_186 := n6_; clear n0_ n1_ n2_ n3_ n4_ n5_ n6_; clear hb hbox hg; have hnb6 := NB186_187.out; have hnc6 := NB187_186.out; have hcz7_0 : w5.cell? ⟨gb186, 0, none⟩ = some (.slice A0_0 l0_0.length c0_0) := (blk_cell BK186.out 0).trans rfl; have hfz7_0 := blk_frozen BK186.out 0; have hcz8_0 : w5.cell? ⟨gb187, 0, none⟩ = some (.slice A1_0 l1_0.length c1_0) := (blk_cell BK187.out 0).trans rfl; have hfz8_0 := blk_frozen BK187.out 0))
    go_loopg [16] k (fun kq v16 w' => ∃ (x16_1 : Int), v16 = .int .i64 x16_1 ∧ Aside0 (virgationref01_Equal.l0 kq (l0_0.length : Int) x16_1 l0_0 l1_0 = some r) ∧ Aside0 (kq ≤ k) ∧ Aside0 (w'.heap[gb186]? = some (.cells #[(.slice A0_0 l0_0.length c0_0)] 41 (0, 0))) ∧ Aside0 (w'.heap[gb187]? = some (.cells #[(.slice A1_0 l1_0.length c1_0)] 41 (0, 0))) ∧ Aside0 (Below w.heap.size w w'))
    case atStart => exact ⟨(0), (by first | rfl | (simp; done) | (simp [*]; done)), H', ⟨Nat.le_refl _⟩, ⟨by (with_reducible repeat (first | refine blk_drewN ?_ _ | refine blk_drew ?_ | refine blk_alloc ?_ _)); exact BK186.out⟩, ⟨by (with_reducible repeat (first | refine blk_drewN ?_ _ | refine blk_drew ?_ | refine blk_alloc ?_ _)); exact BK187.out⟩, ⟨by repeat (first | (with_reducible first | exact HB.out | apply below_alloc | apply pw_below_drewN | apply below_drew1 | refine below_set ?_ GE186.out | refine below_set ?_ GE187.out) | exact HB.out)⟩⟩
    case round =>
      clear H'
      try clear c1
      try clear p2
      try clear c3
      try clear c3b0
      try clear c3b1
      try clear c3b2
      try clear c6
      try clear hcz7_0
      try clear hcz8_0
      try clear hfz7_0
      try clear hfz8_0
      obtain ⟨x16_1, rfl, HA, HK1, BK186, BK187, HB⟩ := hrel
      cases gk with
      | zero => exact absurd HA.out (by simp [virgationref01_Equal.l0])
      | succ k1 =>
        have H := HA.out
        clear HA
        simp only [virgationref01_Equal.l0] at H
        by_cases c9 : x16_1 < (l0_0.length : Int)
        · rw [if_pos c9] at H
          have c9b0 : decide (x16_1 < (l0_0.length : Int)) = true := decide_eq_true c9
          clear c9
          by_cases c10 : 0 ≤ x16_1
          · rw [if_pos c10] at H
            have c10b0 : decide (0 ≤ x16_1) = true := decide_eq_true c10
            clear c10
            by_cases c11 : x16_1 < (l0_0.length : Int)
            · rw [if_pos c11] at H
              have c11b0 : decide (x16_1 < (l0_0.length : Int)) = true := decide_eq_true c11
              clear c11
              by_cases c12 : x16_1 < (l1_0.length : Int)
              · rw [if_pos c12] at H
                have c12b0 : decide (x16_1 < (l1_0.length : Int)) = true := decide_eq_true c12
                clear c12
                replace H := Option.bind_eq_some_iff.mp H
                obtain ⟨t190, A130, H⟩ := H
                replace H : (if t190 = true then (virgationref01_Equal.l0 k1 (l0_0.length : Int) (wrap64 (x16_1 + 1)) l0_0 l1_0) else (some false)) = some r := H
                have A13 := Aside0.mk A130
                clear A130
                by_cases c14 : t190 = true
                · subst c14
                  have H1 : (virgationref01_Equal.l0 k1 (l0_0.length : Int) (wrap64 (x16_1 + 1)) l0_0 l1_0) = some r := by rw [if_pos rfl] at H; exact H
                  clear H
                  have H := H1
                  clear H1
                  have H' := Aside0.mk H
                  clear H
                  try go_wp2
                  have n0_ := Aside0.mk (blk_drew BK186.out)
                  have n1_ := Aside0.mk (blk_drew BK187.out)
                  have n2_ := Aside0.mk (below_drew1 HB.out)
                  clear BK186
                  clear BK187
                  clear HB
                  have BK186 := n0_
                  have BK187 := n1_
                  have HB := n2_
                  clear n0_ n1_ n2_
                  have p188 : 0 ≤ (x16_1 : Int) := of_decide_eq_true (by first | (with_reducible assumption) | assumption)
                  have q188 : x16_1 < (l0_0.length : Int) := of_decide_eq_true (by first | (with_reducible assumption) | assumption)
                  obtain ⟨ad188, A188_0, c188_0, e188, hx188_0, hl188_0, hi188_0⟩ := at_T41 HR0_0.out x16_1 p188 q188
                  have hw188_0 := hx188_0
                  cases e188
                  replace hx188_0 := (HB.out.cell (World.block_lt_of_cell? w _ hx188_0)).trans hx188_0
                  have HR188_0 := Aside0.mk hi188_0
                  have HC188_0 := Aside0.mk hl188_0
                  clear hi188_0 hl188_0
                  replace p188 := eq_true p188
                  replace q188 := eq_true q188
                  have p189 : 0 ≤ (x16_1 : Int) := of_decide_eq_true (by first | (with_reducible assumption) | assumption)
                  have q189 : x16_1 < (l1_0.length : Int) := of_decide_eq_true (by first | (with_reducible assumption) | assumption)
                  obtain ⟨ad189, A189_0, c189_0, e189, hx189_0, hl189_0, hi189_0⟩ := at_T41 HR1_0.out x16_1 p189 q189
                  have hw189_0 := hx189_0
                  cases e189
                  replace hx189_0 := (HB.out.cell (World.block_lt_of_cell? w _ hx189_0)).trans hx189_0
                  have HR189_0 := Aside0.mk hi189_0
                  have HC189_0 := Aside0.mk hl189_0
                  clear hi189_0 hl189_0
                  replace p189 := eq_true p189
                  replace q189 := eq_true q189
                  refine start_ (n := 12) (S := fun w' => w'.cell? ⟨gb186, 0, none⟩ = some (.slice (some ad188) l0_0.length c0_0) ∧ w'.cell? ⟨gb187, 0, none⟩ = some (.slice (some ad189) l1_0.length c1_0) ∧ w'.cell? (ad188.add (x16_1).toNat) = some (.slice A188_0 ((rd_T41 l0_0 x16_1).f0).length c188_0) ∧ w'.cell? (ad189.add (x16_1).toNat) = some (.slice A189_0 ((rd_T41 l1_0 x16_1).f0).length c189_0)) (ds := []) #[false, false, false, false, false, false, false, false, false, false, false, false] (by kernel_rfl) rfl rfl ⟨(blk_cell BK186.out 0).trans rfl, (blk_cell BK187.out 0).trans rfl, ((HB.out.cell (World.block_lt_of_cell? w _ hw188_0)).trans hw188_0), ((HB.out.cell (World.block_lt_of_cell? w _ hw189_0)).trans hw189_0)⟩ (fun hHeld => ?_); refine with_tabW virgationref01_Equal.tab6 virgationref01_Equal.bits6 (fun HT_ HW_ => ?_)
                  generalize wr.drew = w15 at BK186 BK187 HB HR188_0 HR189_0 hx188_0 hx189_0 hHeld ⊢
                  refine pure_ (i := 0) (N := some 19) (v := ?_) (a' := ?_) #[true, false, false, false, false, false, false, false, false, false, false, false] rfl rfl (any_of HT_.out (by kernel_rfl)) (fun _ _ _ h => h) (Or.inl ⟨by rfl, ?_⟩) ?_ ?_
                  rotate_left
                  · intro w'
                    go_simp
                    with_reducible rfl
                  rotate_left
                  · simp only [Act.put, List.setIfInBounds_toArray, List.set_cons_zero, List.set_cons_succ, i64_w, i32_w]
                    rfl
                  refine pure_ (i := 2) (N := some 21) (v := ?_) (a' := ?_) #[true, false, true, false, false, false, false, false, false, false, false, false] rfl rfl (any_of HT_.out (by kernel_rfl)) (fun _ _ _ h => h) (Or.inl ⟨by rfl, ?_⟩) ?_ ?_
                  rotate_left
                  · intro w'
                    go_simp
                    with_reducible rfl
                  rotate_left
                  · simp only [Act.put, List.setIfInBounds_toArray, List.set_cons_zero, List.set_cons_succ, i64_w, i32_w]
                    rfl
                  refine pure_ (i := 5) (N := some 24) (v := ?_) (a' := ?_) #[true, false, true, false, false, true, false, false, false, false, false, false] rfl rfl (any_of HT_.out (by kernel_rfl)) (fun _ _ _ h => h) (Or.inl ⟨by rfl, ?_⟩) ?_ ?_
                  rotate_left
                  · intro w'
                    go_simp
                    with_reducible rfl
                  rotate_left
                  · simp only [Act.put, List.setIfInBounds_toArray, List.set_cons_zero, List.set_cons_succ, i64_w, i32_w]
                    rfl
                  refine pure_ (i := 7) (N := some 26) (v := ?_) (a' := ?_) #[true, false, true, false, false, true, false, true, false, false, false, false] rfl rfl (any_of HT_.out (by kernel_rfl)) (fun _ _ _ h => h) (Or.inl ⟨by rfl, ?_⟩) ?_ ?_
                  rotate_left
                  · intro w'
                    go_simp
                    with_reducible rfl
                  rotate_left
                  · simp only [Act.put, List.setIfInBounds_toArray, List.set_cons_zero, List.set_cons_succ, i64_w, i32_w]
                    rfl
                  refine take_ (i := 1) (N := some 20) (v := ?_) (a' := ?_) #[true, true, true, false, false, true, false, true, false, false, false, false] rfl rfl (take_ofW HT_.out HW_.out (by kernel_rfl)) (fun _ _ _ h => h) (Or.inl ⟨by rfl, ?_⟩) hHeld ?_ ?_
                  rotate_left
                  · rintro w' ⟨s0, s1, s2, s3⟩
                    go_simp
                    with_reducible rfl
                  rotate_left
                  · simp only [Act.put, List.setIfInBounds_toArray, List.set_cons_zero, List.set_cons_succ, i64_w, i32_w]
                    rfl
                  refine pure_ (i := 3) (N := some 22) (v := ?_) (a' := ?_) #[true, true, true, true, false, true, false, true, false, false, false, false] rfl rfl (any_of HT_.out (by kernel_rfl)) (fun _ _ _ h => h) (Or.inl ⟨by rfl, ?_⟩) ?_ ?_
                  rotate_left
                  · intro w'
                    go_simp
                    with_reducible rfl
                  rotate_left
                  · simp only [Act.put, List.setIfInBounds_toArray, List.set_cons_zero, List.set_cons_succ, i64_w, i32_w]
                    rfl
                  refine take_ (i := 4) (N := some 23) (v := ?_) (a' := ?_) #[true, true, true, true, true, true, false, true, false, false, false, false] rfl rfl (take_ofW HT_.out HW_.out (by kernel_rfl)) (fun _ _ _ h => h) (Or.inl ⟨by rfl, ?_⟩) hHeld ?_ ?_
                  rotate_left
                  · rintro w' ⟨s0, s1, s2, s3⟩
                    go_simp
                    with_reducible rfl
                  rotate_left
                  · simp only [Act.put, List.setIfInBounds_toArray, List.set_cons_zero, List.set_cons_succ, i64_w, i32_w]
                    rfl
                  refine take_ (i := 6) (N := some 25) (v := ?_) (a' := ?_) #[true, true, true, true, true, true, true, true, false, false, false, false] rfl rfl (take_ofW HT_.out HW_.out (by kernel_rfl)) (fun _ _ _ h => h) (Or.inl ⟨by rfl, ?_⟩) hHeld ?_ ?_
                  rotate_left
                  · rintro w' ⟨s0, s1, s2, s3⟩
                    go_simp
                    with_reducible rfl
                  rotate_left
                  · simp only [Act.put, List.setIfInBounds_toArray, List.set_cons_zero, List.set_cons_succ, i64_w, i32_w]
                    rfl
                  refine pure_ (i := 8) (N := some 27) (v := ?_) (a' := ?_) #[true, true, true, true, true, true, true, true, true, false, false, false] rfl rfl (any_of HT_.out (by kernel_rfl)) (fun _ _ _ h => h) (Or.inl ⟨by rfl, ?_⟩) ?_ ?_
                  rotate_left
                  · intro w'
                    go_simp
                    with_reducible rfl
                  rotate_left
                  · simp only [Act.put, List.setIfInBounds_toArray, List.set_cons_zero, List.set_cons_succ, i64_w, i32_w]
                    rfl
                  refine take_ (i := 9) (N := some 28) (v := ?_) (a' := ?_) #[true, true, true, true, true, true, true, true, true, true, false, false] rfl rfl (take_ofW HT_.out HW_.out (by kernel_rfl)) (fun _ _ _ h => h) (Or.inl ⟨by rfl, ?_⟩) hHeld ?_ ?_
                  rotate_left
                  · rintro w' ⟨s0, s1, s2, s3⟩
                    go_simp
                    with_reducible rfl
                  rotate_left
                  · simp only [Act.put, List.setIfInBounds_toArray, List.set_cons_zero, List.set_cons_succ, i64_w, i32_w]
                    rfl
                  refine one_ (i := 10) (N := some 29) #[true, true, true, true, true, true, true, true, true, true, true, false] rfl rfl (one_of HT_.out (by kernel_rfl)) (by decide) (fun K hK => ?_)
                  refine goes_ Try.func64 (by kernel_rfl) rfl #[.agg #[.slice A188_0 ((rd_T41 l0_0 x16_1).f0).length c188_0], .agg #[.slice A189_0 ((rd_T41 l1_0 x16_1).f0).length c189_0]] (by rfl) rfl rfl (by (try simp only [List.map_toArray, List.map_cons, List.map_nil]); first | done | rfl | (simp only [List.length_drop, List.length_take]; rfl)) ?_
                  with_reducible refine (ih k1 (by have := HK1.out; omega) _ _ ((rd_T41 l0_0 x16_1).f0) _ _ ((rd_T41 l1_0 x16_1).f0) true _ ?side1 ?side2 ?side3 ?side4 A13.out).mono ?_
                  (case side1 => repeat (first | exact (Kd.C_below HR188_0.out HB.out) | (with_reducible refine Kd.C_alloc ?_ _) | (with_reducible refine Kd.C_drewN ?_ _) | (with_reducible refine Kd.C_drew ?_)))
                  (case side2 => exact HC188_0.out)
                  (case side3 => repeat (first | exact (Kd.C_below HR189_0.out HB.out) | (with_reducible refine Kd.C_alloc ?_ _) | (with_reducible refine Kd.C_drewN ?_ _) | (with_reducible refine Kd.C_drew ?_)))
                  (case side4 => exact HC189_0.out)
                  rintro e w16 ⟨rfl, hb⟩
                  refine ⟨_, rfl, ?_⟩
                  have n0_ := Aside0.mk (blk_below (g := gb186) (o := .cells #[.slice (some ad188) l0_0.length c0_0] 41 (0, 0)) (by (with_reducible repeat (first | refine blk_drewN ?_ _ | refine blk_drew ?_ | refine blk_alloc ?_ _)); exact BK186.out) hb)
                  have n1_ := Aside0.mk (blk_below (g := gb187) (o := .cells #[.slice (some ad189) l1_0.length c1_0] 41 (0, 0)) (by (with_reducible repeat (first | refine blk_drewN ?_ _ | refine blk_drew ?_ | refine blk_alloc ?_ _)); exact BK187.out) hb)
                  have n2_ := Aside0.mk (below_step (by repeat (first | (with_reducible first | exact HB.out | apply below_alloc | apply pw_below_drewN | apply below_drew1 | refine below_set ?_ GE186.out | refine below_set ?_ GE187.out) | exact HB.out)) hb)
                  clear BK186
                  clear BK187
                  clear HB
                  have BK186 := n0_
                  have BK187 := n1_
                  have HB := n2_
                  clear n0_ n1_ n2_
                  (try clear hb)
                  (try clear hb2)
                  (try clear hk)
                  (try clear hi)
                  refine hK.out _ _ ⟨(blk_cell BK186.out 0).trans rfl, (blk_cell BK187.out 0).trans rfl, ((HB.out.cell (World.block_lt_of_cell? w _ hw188_0)).trans hw188_0), ((HB.out.cell (World.block_lt_of_cell? w _ hw189_0)).trans hw189_0)⟩ (fun hHeld => ?_)
                  clear hK K
                  refine norm_ (a' := ?_) ?_ ?_
                  rotate_left
                  · show Act.put _ (some 29) _ = _
                    simp only [Act.put, List.setIfInBounds_toArray, List.set_cons_zero, List.set_cons_succ, i64_w, i32_w]
                    rfl
                  refine pure_ (i := 11) (N := some 30) (v := ?_) (a' := ?_) #[true, true, true, true, true, true, true, true, true, true, true, true] rfl rfl (any_of HT_.out (by kernel_rfl)) (fun _ _ _ h => h) (Or.inl ⟨by rfl, ?_⟩) ?_ ?_
                  rotate_left
                  · intro w'
                    go_simp
                    with_reducible rfl
                  rotate_left
                  · simp only [Act.put, List.setIfInBounds_toArray, List.set_cons_zero, List.set_cons_succ, i64_w, i32_w]
                    rfl
                  refine done_ (done_of HT_.out (by kernel_rfl)) ?_
                  try go_wp2
                  go_roundg k1
                  case measure => have := HK1.out; omega
                  case rel => exact ⟨(wrap64 (x16_1 + 1)), (by first | rfl | (simp; done) | (simp [*]; done)), H', ⟨by have := HK1.out; omega⟩, ⟨by (with_reducible repeat (first | refine blk_drewN ?_ _ | refine blk_drew ?_ | refine blk_alloc ?_ _)); exact BK186.out⟩, ⟨by (with_reducible repeat (first | refine blk_drewN ?_ _ | refine blk_drew ?_ | refine blk_alloc ?_ _)); exact BK187.out⟩, ⟨by repeat (first | (with_reducible first | exact HB.out | apply below_alloc | apply pw_below_drewN | apply below_drew1 | refine below_set ?_ GE186.out | refine below_set ?_ GE187.out) | exact HB.out)⟩⟩
                · replace c14 := Bool.eq_false_iff.mpr c14
                  subst c14
                  have H1 : (some false) = some r := by rw [if_neg (show ¬ (false = true) by decide)] at H; exact H
                  clear H
                  have H := H1
                  clear H1
                  obtain rfl := Option.some.inj H
                  try go_wp2
                  have n0_ := Aside0.mk (blk_drew BK186.out)
                  have n1_ := Aside0.mk (blk_drew BK187.out)
                  have n2_ := Aside0.mk (below_drew1 HB.out)
                  clear BK186
                  clear BK187
                  clear HB
                  have BK186 := n0_
                  have BK187 := n1_
                  have HB := n2_
                  clear n0_ n1_ n2_
                  have p188 : 0 ≤ (x16_1 : Int) := of_decide_eq_true (by first | (with_reducible assumption) | assumption)
                  have q188 : x16_1 < (l0_0.length : Int) := of_decide_eq_true (by first | (with_reducible assumption) | assumption)
                  obtain ⟨ad188, A188_0, c188_0, e188, hx188_0, hl188_0, hi188_0⟩ := at_T41 HR0_0.out x16_1 p188 q188
                  have hw188_0 := hx188_0
                  cases e188
                  replace hx188_0 := (HB.out.cell (World.block_lt_of_cell? w _ hx188_0)).trans hx188_0
                  have HR188_0 := Aside0.mk hi188_0
                  have HC188_0 := Aside0.mk hl188_0
                  clear hi188_0 hl188_0
                  replace p188 := eq_true p188
                  replace q188 := eq_true q188
                  have p189 : 0 ≤ (x16_1 : Int) := of_decide_eq_true (by first | (with_reducible assumption) | assumption)
                  have q189 : x16_1 < (l1_0.length : Int) := of_decide_eq_true (by first | (with_reducible assumption) | assumption)
                  obtain ⟨ad189, A189_0, c189_0, e189, hx189_0, hl189_0, hi189_0⟩ := at_T41 HR1_0.out x16_1 p189 q189
                  have hw189_0 := hx189_0
                  cases e189
                  replace hx189_0 := (HB.out.cell (World.block_lt_of_cell? w _ hx189_0)).trans hx189_0
                  have HR189_0 := Aside0.mk hi189_0
                  have HC189_0 := Aside0.mk hl189_0
                  clear hi189_0 hl189_0
                  replace p189 := eq_true p189
                  replace q189 := eq_true q189
                  refine start_ (n := 12) (S := fun w' => w'.cell? ⟨gb186, 0, none⟩ = some (.slice (some ad188) l0_0.length c0_0) ∧ w'.cell? ⟨gb187, 0, none⟩ = some (.slice (some ad189) l1_0.length c1_0) ∧ w'.cell? (ad188.add (x16_1).toNat) = some (.slice A188_0 ((rd_T41 l0_0 x16_1).f0).length c188_0) ∧ w'.cell? (ad189.add (x16_1).toNat) = some (.slice A189_0 ((rd_T41 l1_0 x16_1).f0).length c189_0)) (ds := []) #[false, false, false, false, false, false, false, false, false, false, false, false] (by kernel_rfl) rfl rfl ⟨(blk_cell BK186.out 0).trans rfl, (blk_cell BK187.out 0).trans rfl, ((HB.out.cell (World.block_lt_of_cell? w _ hw188_0)).trans hw188_0), ((HB.out.cell (World.block_lt_of_cell? w _ hw189_0)).trans hw189_0)⟩ (fun hHeld => ?_); refine with_tabW virgationref01_Equal.tab6 virgationref01_Equal.bits6 (fun HT_ HW_ => ?_)
                  generalize wr.drew = w17 at BK186 BK187 HB HR188_0 HR189_0 hx188_0 hx189_0 hHeld ⊢
                  refine pure_ (i := 0) (N := some 19) (v := ?_) (a' := ?_) #[true, false, false, false, false, false, false, false, false, false, false, false] rfl rfl (any_of HT_.out (by kernel_rfl)) (fun _ _ _ h => h) (Or.inl ⟨by rfl, ?_⟩) ?_ ?_
                  rotate_left
                  · intro w'
                    go_simp
                    with_reducible rfl
                  rotate_left
                  · simp only [Act.put, List.setIfInBounds_toArray, List.set_cons_zero, List.set_cons_succ, i64_w, i32_w]
                    rfl
                  refine pure_ (i := 2) (N := some 21) (v := ?_) (a' := ?_) #[true, false, true, false, false, false, false, false, false, false, false, false] rfl rfl (any_of HT_.out (by kernel_rfl)) (fun _ _ _ h => h) (Or.inl ⟨by rfl, ?_⟩) ?_ ?_
                  rotate_left
                  · intro w'
                    go_simp
                    with_reducible rfl
                  rotate_left
                  · simp only [Act.put, List.setIfInBounds_toArray, List.set_cons_zero, List.set_cons_succ, i64_w, i32_w]
                    rfl
                  refine pure_ (i := 5) (N := some 24) (v := ?_) (a' := ?_) #[true, false, true, false, false, true, false, false, false, false, false, false] rfl rfl (any_of HT_.out (by kernel_rfl)) (fun _ _ _ h => h) (Or.inl ⟨by rfl, ?_⟩) ?_ ?_
                  rotate_left
                  · intro w'
                    go_simp
                    with_reducible rfl
                  rotate_left
                  · simp only [Act.put, List.setIfInBounds_toArray, List.set_cons_zero, List.set_cons_succ, i64_w, i32_w]
                    rfl
                  refine pure_ (i := 7) (N := some 26) (v := ?_) (a' := ?_) #[true, false, true, false, false, true, false, true, false, false, false, false] rfl rfl (any_of HT_.out (by kernel_rfl)) (fun _ _ _ h => h) (Or.inl ⟨by rfl, ?_⟩) ?_ ?_
                  rotate_left
                  · intro w'
                    go_simp
                    with_reducible rfl
                  rotate_left
                  · simp only [Act.put, List.setIfInBounds_toArray, List.set_cons_zero, List.set_cons_succ, i64_w, i32_w]
                    rfl
                  refine take_ (i := 1) (N := some 20) (v := ?_) (a' := ?_) #[true, true, true, false, false, true, false, true, false, false, false, false] rfl rfl (take_ofW HT_.out HW_.out (by kernel_rfl)) (fun _ _ _ h => h) (Or.inl ⟨by rfl, ?_⟩) hHeld ?_ ?_
                  rotate_left
                  · rintro w' ⟨s0, s1, s2, s3⟩
                    go_simp
                    with_reducible rfl
                  rotate_left
                  · simp only [Act.put, List.setIfInBounds_toArray, List.set_cons_zero, List.set_cons_succ, i64_w, i32_w]
                    rfl
                  refine pure_ (i := 3) (N := some 22) (v := ?_) (a' := ?_) #[true, true, true, true, false, true, false, true, false, false, false, false] rfl rfl (any_of HT_.out (by kernel_rfl)) (fun _ _ _ h => h) (Or.inl ⟨by rfl, ?_⟩) ?_ ?_
                  rotate_left
                  · intro w'
                    go_simp
                    with_reducible rfl
                  rotate_left
                  · simp only [Act.put, List.setIfInBounds_toArray, List.set_cons_zero, List.set_cons_succ, i64_w, i32_w]
                    rfl
                  refine take_ (i := 4) (N := some 23) (v := ?_) (a' := ?_) #[true, true, true, true, true, true, false, true, false, false, false, false] rfl rfl (take_ofW HT_.out HW_.out (by kernel_rfl)) (fun _ _ _ h => h) (Or.inl ⟨by rfl, ?_⟩) hHeld ?_ ?_
                  rotate_left
                  · rintro w' ⟨s0, s1, s2, s3⟩
                    go_simp
                    with_reducible rfl
                  rotate_left
                  · simp only [Act.put, List.setIfInBounds_toArray, List.set_cons_zero, List.set_cons_succ, i64_w, i32_w]
                    rfl
                  refine take_ (i := 6) (N := some 25) (v := ?_) (a' := ?_) #[true, true, true, true, true, true, true, true, false, false, false, false] rfl rfl (take_ofW HT_.out HW_.out (by kernel_rfl)) (fun _ _ _ h => h) (Or.inl ⟨by rfl, ?_⟩) hHeld ?_ ?_
                  rotate_left
                  · rintro w' ⟨s0, s1, s2, s3⟩
                    go_simp
                    with_reducible rfl
                  rotate_left
                  · simp only [Act.put, List.setIfInBounds_toArray, List.set_cons_zero, List.set_cons_succ, i64_w, i32_w]
                    rfl
                  refine pure_ (i := 8) (N := some 27) (v := ?_) (a' := ?_) #[true, true, true, true, true, true, true, true, true, false, false, false] rfl rfl (any_of HT_.out (by kernel_rfl)) (fun _ _ _ h => h) (Or.inl ⟨by rfl, ?_⟩) ?_ ?_
                  rotate_left
                  · intro w'
                    go_simp
                    with_reducible rfl
                  rotate_left
                  · simp only [Act.put, List.setIfInBounds_toArray, List.set_cons_zero, List.set_cons_succ, i64_w, i32_w]
                    rfl
                  refine take_ (i := 9) (N := some 28) (v := ?_) (a' := ?_) #[true, true, true, true, true, true, true, true, true, true, false, false] rfl rfl (take_ofW HT_.out HW_.out (by kernel_rfl)) (fun _ _ _ h => h) (Or.inl ⟨by rfl, ?_⟩) hHeld ?_ ?_
                  rotate_left
                  · rintro w' ⟨s0, s1, s2, s3⟩
                    go_simp
                    with_reducible rfl
                  rotate_left
                  · simp only [Act.put, List.setIfInBounds_toArray, List.set_cons_zero, List.set_cons_succ, i64_w, i32_w]
                    rfl
                  refine one_ (i := 10) (N := some 29) #[true, true, true, true, true, true, true, true, true, true, true, false] rfl rfl (one_of HT_.out (by kernel_rfl)) (by decide) (fun K hK => ?_)
                  refine goes_ Try.func64 (by kernel_rfl) rfl #[.agg #[.slice A188_0 ((rd_T41 l0_0 x16_1).f0).length c188_0], .agg #[.slice A189_0 ((rd_T41 l1_0 x16_1).f0).length c189_0]] (by rfl) rfl rfl (by (try simp only [List.map_toArray, List.map_cons, List.map_nil]); first | done | rfl | (simp only [List.length_drop, List.length_take]; rfl)) ?_
                  with_reducible refine (ih k1 (by have := HK1.out; omega) _ _ ((rd_T41 l0_0 x16_1).f0) _ _ ((rd_T41 l1_0 x16_1).f0) false _ ?side1 ?side2 ?side3 ?side4 A13.out).mono ?_
                  (case side1 => repeat (first | exact (Kd.C_below HR188_0.out HB.out) | (with_reducible refine Kd.C_alloc ?_ _) | (with_reducible refine Kd.C_drewN ?_ _) | (with_reducible refine Kd.C_drew ?_)))
                  (case side2 => exact HC188_0.out)
                  (case side3 => repeat (first | exact (Kd.C_below HR189_0.out HB.out) | (with_reducible refine Kd.C_alloc ?_ _) | (with_reducible refine Kd.C_drewN ?_ _) | (with_reducible refine Kd.C_drew ?_)))
                  (case side4 => exact HC189_0.out)
                  rintro e w18 ⟨rfl, hb⟩
                  refine ⟨_, rfl, ?_⟩
                  have n0_ := Aside0.mk (blk_below (g := gb186) (o := .cells #[.slice (some ad188) l0_0.length c0_0] 41 (0, 0)) (by (with_reducible repeat (first | refine blk_drewN ?_ _ | refine blk_drew ?_ | refine blk_alloc ?_ _)); exact BK186.out) hb)
                  have n1_ := Aside0.mk (blk_below (g := gb187) (o := .cells #[.slice (some ad189) l1_0.length c1_0] 41 (0, 0)) (by (with_reducible repeat (first | refine blk_drewN ?_ _ | refine blk_drew ?_ | refine blk_alloc ?_ _)); exact BK187.out) hb)
                  have n2_ := Aside0.mk (below_step (by repeat (first | (with_reducible first | exact HB.out | apply below_alloc | apply pw_below_drewN | apply below_drew1 | refine below_set ?_ GE186.out | refine below_set ?_ GE187.out) | exact HB.out)) hb)
                  clear BK186
                  clear BK187
                  clear HB
                  have BK186 := n0_
                  have BK187 := n1_
                  have HB := n2_
                  clear n0_ n1_ n2_
                  (try clear hb)
                  (try clear hb2)
                  (try clear hk)
                  (try clear hi)
                  refine hK.out _ _ ⟨(blk_cell BK186.out 0).trans rfl, (blk_cell BK187.out 0).trans rfl, ((HB.out.cell (World.block_lt_of_cell? w _ hw188_0)).trans hw188_0), ((HB.out.cell (World.block_lt_of_cell? w _ hw189_0)).trans hw189_0)⟩ (fun hHeld => ?_)
                  clear hK K
                  refine norm_ (a' := ?_) ?_ ?_
                  rotate_left
                  · show Act.put _ (some 29) _ = _
                    simp only [Act.put, List.setIfInBounds_toArray, List.set_cons_zero, List.set_cons_succ, i64_w, i32_w]
                    rfl
                  refine pure_ (i := 11) (N := some 30) (v := ?_) (a' := ?_) #[true, true, true, true, true, true, true, true, true, true, true, true] rfl rfl (any_of HT_.out (by kernel_rfl)) (fun _ _ _ h => h) (Or.inl ⟨by rfl, ?_⟩) ?_ ?_
                  rotate_left
                  · intro w'
                    go_simp
                    with_reducible rfl
                  rotate_left
                  · simp only [Act.put, List.setIfInBounds_toArray, List.set_cons_zero, List.set_cons_succ, i64_w, i32_w]
                    rfl
                  refine done_ (done_of HT_.out (by kernel_rfl)) ?_
                  try go_wp2
                  go_ret
                  exact ⟨by first | rfl | (simp [errW_none, errW_some] <;> rfl) | (simp [*, errW_none, errW_some] <;> rfl), by repeat (first | (with_reducible first | exact HB.out | apply below_alloc | apply pw_below_drewN | apply below_drew1 | refine below_set ?_ GE186.out | refine below_set ?_ GE187.out) | exact HB.out)⟩
              · rw [if_neg c12] at H
                exact absurd H (by simp)
            · rw [if_neg c11] at H
              exact absurd H (by simp)
          · rw [if_neg c10] at H
            exact absurd H (by simp)
        · rw [if_neg c9] at H
          have c9b0 : decide (x16_1 < (l0_0.length : Int)) = false := decide_eq_false c9
          clear c9
          obtain rfl := Option.some.inj H
          go_wp2
          go_ret
          exact ⟨by first | rfl | (simp [errW_none, errW_some] <;> rfl) | (simp [*, errW_none, errW_some] <;> rfl), by repeat (first | (with_reducible first | exact HB.out | apply below_alloc | apply pw_below_drewN | apply below_drew1 | refine below_set ?_ GE186.out | refine below_set ?_ GE187.out) | exact HB.out)⟩
  · rw [if_neg c3] at H
    have c3b0 : ((l0_0.length : Int) == (l1_0.length : Int)) = false := beq_eq_false_iff_ne.mpr c3
    have c3b1 : ((l0_0.length : Int) != (l1_0.length : Int)) = true := bne_iff_ne.mpr c3
    have c3b2 : (l0_0.length == l1_0.length) = false := by first | simpa using c3 | (simp at c3 ⊢; omega)
    obtain rfl := Option.some.inj H
    go_enter Try.func64, Try.ntmps64
    go_wp2_with (first | ((with_reducible refine gate_dst (N := 2) rfl ?_); refine box_event ?hg (N := 2) ?hd (cs := #[.slice A0_0 l0_0.length c0_0]) (t := 41) ?hr ?_; (case hd => rfl); (case hg => rfl); (case hr => first | (go_simp; done) | (go_simp; rfl)); intro gb186 hg w19 hbox hb; have n0_ := Aside0.mk (below_step (by repeat (first | (with_reducible first | exact HB.out | apply below_alloc | apply pw_below_drewN | apply below_drew1) | exact HB.out)) hb); have n1_ := Aside0.mk (hbox); have n2_ := Aside0.mk ((by rw [hg]; exact (below_size (by repeat (first | (with_reducible first | exact HB.out | apply below_alloc | apply pw_below_drewN | apply below_drew1) | exact HB.out))) : w.heap.size ≤ gb186)); have n3_ := Aside0.mk ((by rw [hg]; exact (below_size (by repeat (first | (with_reducible first | exact HB.out | apply below_alloc | apply pw_below_drewN | apply below_drew1) | exact HB.out))) : w.heap.size ≤ gb186)); clear HB; have HB := n0_; have BK186 := n1_; have GW186 := n2_; have GE186 := n3_; clear n0_ n1_ n2_ n3_; clear hb hbox hg) | ((with_reducible refine gate_dst (N := 3) rfl ?_); refine box_event ?hg (N := 3) ?hd (cs := #[.slice A1_0 l1_0.length c1_0]) (t := 41) ?hr ?_; (case hd => rfl); (case hg => rfl); (case hr => first | (go_simp; done) | (go_simp; rfl)); intro gb187 hg w20 hbox hb; have n0_ := Aside0.mk (blk_below (g := gb186) (o := .cells #[.slice A0_0 l0_0.length c0_0] 41 (0, 0)) (by (with_reducible repeat (first | refine blk_drewN ?_ _ | refine blk_drew ?_ | refine blk_alloc ?_ _)); exact BK186.out) hb); have n1_ := Aside0.mk (below_step (by repeat (first | (with_reducible first | exact HB.out | apply below_alloc | apply pw_below_drewN | apply below_drew1 | refine below_set ?_ GE186.out) | exact HB.out)) hb); have n2_ := Aside0.mk (hbox); have n3_ := Aside0.mk ((by rw [hg]; exact (below_size (by repeat (first | (with_reducible first | exact HB.out | apply below_alloc | apply pw_below_drewN | apply below_drew1 | refine below_set ?_ GE186.out) | exact HB.out))) : w.heap.size ≤ gb187)); have n4_ := Aside0.mk ((by rw [hg]; exact (below_size (by repeat (first | (with_reducible first | exact HB.out | apply below_alloc | apply pw_below_drewN | apply below_drew1 | refine below_set ?_ GE186.out) | exact HB.out))) : w.heap.size ≤ gb187)); have n5_ := Aside0.mk ((by rw [hg]; exact Nat.ne_of_lt (blk_lt (g := gb186) (o := .cells #[.slice A0_0 l0_0.length c0_0] 41 (0, 0)) (by (with_reducible repeat (first | refine blk_drewN ?_ _ | refine blk_drew ?_ | refine blk_alloc ?_ _)); exact BK186.out)) : gb186 ≠ gb187)); have n6_ := Aside0.mk ((by rw [hg]; exact Nat.ne_of_gt (blk_lt (g := gb186) (o := .cells #[.slice A0_0 l0_0.length c0_0] 41 (0, 0)) (by (with_reducible repeat (first | refine blk_drewN ?_ _ | refine blk_drew ?_ | refine blk_alloc ?_ _)); exact BK186.out)) : gb187 ≠ gb186)); clear BK186; clear HB; have BK186 := n0_; have HB := n1_; have BK187 := n2_; have GW187 := n3_; have GE187 := n4_; have NB186_187 := n5_; have NB187_186 := n6_; clear n0_ n1_ n2_ n3_ n4_ n5_ n6_; clear hb hbox hg; have hnb21 := NB186_187.out; have hnc21 := NB187_186.out; have hcz22_0 : w20.cell? ⟨gb186, 0, none⟩ = some (.slice A0_0 l0_0.length c0_0) := (blk_cell BK186.out 0).trans rfl; have hfz22_0 := blk_frozen BK186.out 0; have hcz23_0 : w20.cell? ⟨gb187, 0, none⟩ = some (.slice A1_0 l1_0.length c1_0) := (blk_cell BK187.out 0).trans rfl; have hfz23_0 := blk_frozen BK187.out 0))
    go_ret
    exact ⟨by first | rfl | (simp [errW_none, errW_some] <;> rfl) | (simp [*, errW_none, errW_some] <;> rfl), by repeat (first | (with_reducible first | exact HB.out | apply below_alloc | apply pw_below_drewN | apply below_drew1 | refine below_set ?_ GE186.out | refine below_set ?_ GE187.out) | exact HB.out)⟩
end Go.Proofs.Ytfhgoebgnilfaaa.I
namespace Go.Proofs.Ytfhgoebgnilfaaa.I
open Go.RowKit Go.Proofs.YtfhgoebgnilfaaaW.PrintWords Go.Proofs.YtfhgoebgnilfaaaW.PrintLast Go.Proofs.YtfhgoebgnilfaaaW.PrintMore
attribute [local go_sem] max2_int min2_int max_two min_two max_three min_three max_four min_four   -- for this text's walks alone
set_option linter.unusedVariables false
set_option linter.unusedSimpArgs false
mutual
def infer_copied.l0 : Nat → List (S44) → Int → Int → Int → Int → List (S44) → Option (Int × Int × (List (S44)))
  | 0, _, _, _, _, _, _ => none
  | k + 1, x12, x13, x14, x272000, x272001, x272002 => if x14 < x13 then (if 0 ≤ x14 then (if x14 < (x12.length : Int) then ((infer_copied.f k ((rd_T44 x12 x14).f0) ((rd_T44 x12 x14).f1) ((rd_T44 x12 x14).f2)).bind fun bt274 => (if x272002.length < 3518437208883 then (infer_copied.l0 k x12 x13 (wrap64 (x14 + 1)) x272000 x272001 (x272002 ++ [(⟨bt274.1, bt274.2.1, bt274.2.2⟩ : S44)])) else (none))) else (none)) else (none)) else (some (x272000, x272001, x272002))
def infer_copied.f : Nat → Int → Int → List (S44) → Option (Int × Int × (List (S44)))
  | 0, _, _, _ => none
  | k + 1, a0_0, a0_1, l0_2 => infer_copied.l0 k l0_2 (l0_2.length : Int) 0 a0_0 a0_1 ([] : List (S44))
end
def infer_copied.T5 : Bool × List (List Nat × List Nat) := (true, [([], []), ([0], [0]), ([], []), ([2], [2]), ([3], [3]), ([1, 4, 3], [1, 4]), ([0, 1, 2, 3, 4, 5], []), ([6, 5, 5, 0, 1, 2, 3, 4, 5], [5, 6])])
def infer_copied.B5 : List Nat := [0, 1, 0, 4, 12, 31, 63, 127]
theorem infer_copied.tab5 : rtab .any (opsOf Try.f54 5) = infer_copied.T5 := by kernel_rfl
theorem infer_copied.bits5 : waitsOk infer_copied.T5.2 infer_copied.B5 = true := by kernel_rfl
set_option maxHeartbeats 8000000 in
set_option maxRecDepth 100000 in
theorem infer_copied.calls (k : Nat) : ∀ (a0_0 : Int) (a0_1 : Int) (A0_2 : Option Addr) (c0_2 : Nat) (l0_2 : List (S44)) (r1 : Int) (r2 : Int) (r3 : List (S44)) (w : World) (hr0_2 : Kd.C k44 w A0_2 l0_2.length l0_2) (hc0_2 : l0_2.length ≤ c0_2) (h : infer_copied.f k a0_0 a0_1 l0_2 = some (r1, r2, r3)),
    Calls Try.prog 54 #[.agg #[.int .i64 a0_0, .int .i64 a0_1, .slice A0_2 l0_2.length c0_2]] w fun e w' => ∃ v2_ : Value, e = .returned (.agg #[.int .i64 r1, .int .i64 r2, v2_]) ∧ Kd.R k44 44 w' w.heap.size (fun _ => True) v2_ r3 ∧ Below w.heap.size w w' := by
  induction k using Nat.strongRecOn with
  | _ k ih =>
  intro a0_0 a0_1 A0_2 c0_2 l0_2 r1 r2 r3 w hr0_2 hc0_2 h
  cases k with
  | zero => exact absurd h (by simp [infer_copied.f])
  | succ k =>
  simp only [infer_copied.f] at h
  have hu44 := Try.underlying44
  have HR0_2 := Aside0.mk hr0_2
  have HC0_2 := Aside0.mk hc0_2
  clear hr0_2 hc0_2
  have HB := Aside0.mk (Below.refl w.heap.size w)
  have H : (infer_copied.l0 k l0_2 (l0_2.length : Int) 0 a0_0 a0_1 ([] : List (S44))) = some (r1, r2, r3) := h
  clear h
  have H' := Aside0.mk H
  clear H
  go_enter Try.func54, Try.ntmps54
  go_wp2_with (first | ((with_reducible refine gate_dst (N := 1) rfl ?_); refine box_event ?hg (N := 1) ?hd (cs := #[.int .i64 a0_0, .int .i64 a0_1, .slice A0_2 l0_2.length c0_2]) (t := 44) ?hr ?_; (case hd => rfl); (case hg => rfl); (case hr => first | (go_simp; done) | (go_simp; rfl)); intro gb269 hg w2 hbox hb; have n0_ := Aside0.mk (below_step (by repeat (first | (with_reducible first | exact HB.out | apply below_alloc | apply pw_below_drewN | apply below_drew1) | exact HB.out)) hb); have n1_ := Aside0.mk (hbox); have n2_ := Aside0.mk ((by rw [hg]; exact (below_size (by repeat (first | (with_reducible first | exact HB.out | apply below_alloc | apply pw_below_drewN | apply below_drew1) | exact HB.out))) : w.heap.size ≤ gb269)); have n3_ := Aside0.mk ((by rw [hg]; exact (below_size (by repeat (first | (with_reducible first | exact HB.out | apply below_alloc | apply pw_below_drewN | apply below_drew1) | exact HB.out))) : w.heap.size ≤ gb269)); clear HB; have HB := n0_; have BK269 := n1_; have GW269 := n2_; have GE269 := n3_; clear n0_ n1_ n2_ n3_; clear hb hbox hg) | ((with_reducible refine gate_dst (N := 2) rfl ?_); refine box_event ?hg (N := 2) ?hd (cs := #[.int .i64 0, .int .i64 0, .slice none 0 0]) (t := 44) ?hr ?_; (case hd => rfl); (case hg => rfl); (case hr => first | (go_simp; done) | (go_simp; rfl)); intro gb270 hg w3 hbox hb; have n0_ := Aside0.mk (blk_below (g := gb269) (o := .cells #[.int .i64 a0_0, .int .i64 a0_1, .slice A0_2 l0_2.length c0_2] 44 (0, 0)) (by (with_reducible repeat (first | refine blk_drewN ?_ _ | refine blk_drew ?_ | refine blk_alloc ?_ _)); exact BK269.out) hb); have n1_ := Aside0.mk (below_step (by repeat (first | (with_reducible first | exact HB.out | apply below_alloc | apply pw_below_drewN | apply below_drew1 | refine below_set ?_ GE269.out) | exact HB.out)) hb); have n2_ := Aside0.mk (hbox); have n3_ := Aside0.mk ((by rw [hg]; exact (below_size (by repeat (first | (with_reducible first | exact HB.out | apply below_alloc | apply pw_below_drewN | apply below_drew1 | refine below_set ?_ GE269.out) | exact HB.out))) : w.heap.size ≤ gb270)); have n4_ := Aside0.mk ((by rw [hg]; exact (below_size (by repeat (first | (with_reducible first | exact HB.out | apply below_alloc | apply pw_below_drewN | apply below_drew1 | refine below_set ?_ GE269.out) | exact HB.out))) : w.heap.size ≤ gb270)); have n5_ := Aside0.mk ((by rw [hg]; exact Nat.ne_of_lt (blk_lt (g := gb269) (o := .cells #[.int .i64 a0_0, .int .i64 a0_1, .slice A0_2 l0_2.length c0_2] 44 (0, 0)) (by (with_reducible repeat (first | refine blk_drewN ?_ _ | refine blk_drew ?_ | refine blk_alloc ?_ _)); exact BK269.out)) : gb269 ≠ gb270)); have n6_ := Aside0.mk ((by rw [hg]; exact Nat.ne_of_gt (blk_lt (g := gb269) (o := .cells #[.int .i64 a0_0, .int .i64 a0_1, .slice A0_2 l0_2.length c0_2] 44 (0, 0)) (by (with_reducible repeat (first | refine blk_drewN ?_ _ | refine blk_drew ?_ | refine blk_alloc ?_ _)); exact BK269.out)) : gb270 ≠ gb269)); clear BK269; clear HB; have BK269 := n0_; have HB := n1_; have BK270 := n2_; have GW270 := n3_; have GE270 := n4_; have NB269_270 := n5_; have NB270_269 := n6_; clear n0_ n1_ n2_ n3_ n4_ n5_ n6_; clear hb hbox hg; have hnb4 := NB269_270.out; have hnc4 := NB270_269.out; have hcz5_0 : w3.cell? ⟨gb269, 0, none⟩ = some (.int .i64 a0_0) := (blk_cell BK269.out 0).trans rfl; have hcz5_1 : w3.cell? ⟨gb269, 1, none⟩ = some (.int .i64 a0_1) := (blk_cell BK269.out 1).trans rfl; have hcz5_2 : w3.cell? ⟨gb269, 2, none⟩ = some (.slice A0_2 l0_2.length c0_2) := (blk_cell BK269.out 2).trans rfl; have hfz5_0 := blk_frozen BK269.out 0; have hfz5_1 := blk_frozen BK269.out 1; have hfz5_2 := blk_frozen BK269.out 2) | ((with_reducible refine gate_dst (N := 3) rfl ?_); refine box_event ?hg (N := 3) ?hd (cs := #[.int .i64 0, .int .i64 0, .slice none 0 0]) (t := 44) ?hr ?_; (case hd => rfl); (case hg => rfl); (case hr => first | (go_simp; done) | (go_simp; rfl)); intro gb271 hg w6 hbox hb; have n0_ := Aside0.mk (blk_below (g := gb269) (o := .cells #[.int .i64 a0_0, .int .i64 a0_1, .slice A0_2 l0_2.length c0_2] 44 (0, 0)) (by (with_reducible repeat (first | refine blk_drewN ?_ _ | refine blk_drew ?_ | refine blk_alloc ?_ _)); exact BK269.out) hb); have n1_ := Aside0.mk (blk_below (g := gb270) (o := .cells #[.int .i64 0, .int .i64 0, .slice none 0 0] 44 (0, 0)) (by (with_reducible repeat (first | refine blk_drewN ?_ _ | refine blk_drew ?_ | refine blk_alloc ?_ _)); exact BK270.out) hb); have n2_ := Aside0.mk (below_step (by repeat (first | (with_reducible first | exact HB.out | apply below_alloc | apply pw_below_drewN | apply below_drew1 | refine below_set ?_ GE269.out | refine below_set ?_ GE270.out) | exact HB.out)) hb); have n3_ := Aside0.mk (hbox); have n4_ := Aside0.mk ((by rw [hg]; exact (below_size (by repeat (first | (with_reducible first | exact HB.out | apply below_alloc | apply pw_below_drewN | apply below_drew1 | refine below_set ?_ GE269.out | refine below_set ?_ GE270.out) | exact HB.out))) : w.heap.size ≤ gb271)); have n5_ := Aside0.mk ((by rw [hg]; exact (below_size (by repeat (first | (with_reducible first | exact HB.out | apply below_alloc | apply pw_below_drewN | apply below_drew1 | refine below_set ?_ GE269.out | refine below_set ?_ GE270.out) | exact HB.out))) : w.heap.size ≤ gb271)); have n6_ := Aside0.mk ((by rw [hg]; exact Nat.ne_of_lt (blk_lt (g := gb269) (o := .cells #[.int .i64 a0_0, .int .i64 a0_1, .slice A0_2 l0_2.length c0_2] 44 (0, 0)) (by (with_reducible repeat (first | refine blk_drewN ?_ _ | refine blk_drew ?_ | refine blk_alloc ?_ _)); exact BK269.out)) : gb269 ≠ gb271)); have n7_ := Aside0.mk ((by rw [hg]; exact Nat.ne_of_gt (blk_lt (g := gb269) (o := .cells #[.int .i64 a0_0, .int .i64 a0_1, .slice A0_2 l0_2.length c0_2] 44 (0, 0)) (by (with_reducible repeat (first | refine blk_drewN ?_ _ | refine blk_drew ?_ | refine blk_alloc ?_ _)); exact BK269.out)) : gb271 ≠ gb269)); have n8_ := Aside0.mk ((by rw [hg]; exact Nat.ne_of_lt (blk_lt (g := gb270) (o := .cells #[.int .i64 0, .int .i64 0, .slice none 0 0] 44 (0, 0)) (by (with_reducible repeat (first | refine blk_drewN ?_ _ | refine blk_drew ?_ | refine blk_alloc ?_ _)); exact BK270.out)) : gb270 ≠ gb271)); have n9_ := Aside0.mk ((by rw [hg]; exact Nat.ne_of_gt (blk_lt (g := gb270) (o := .cells #[.int .i64 0, .int .i64 0, .slice none 0 0] 44 (0, 0)) (by (with_reducible repeat (first | refine blk_drewN ?_ _ | refine blk_drew ?_ | refine blk_alloc ?_ _)); exact BK270.out)) : gb271 ≠ gb270)); clear BK269; clear BK270; clear HB; have BK269 := n0_; have BK270 := n1_; have HB := n2_; have BK271 := n3_; have GW271 := n4_; have GE271 := n5_; have NB269_271 := n6_; have NB271_269 := n7_; have NB270_271 := n8_; have NB271_270 := n9_; clear n0_ n1_ n2_ n3_ n4_ n5_ n6_ n7_ n8_ n9_; clear hb hbox hg; have hnb7 := NB271_269.out; have hnc7 := NB269_271.out; have hnb8 := NB271_270.out; have hnc8 := NB270_271.out; have hcz9_0 : w6.cell? ⟨gb271, 0, none⟩ = some (.int .i64 0) := (blk_cell BK271.out 0).trans rfl; have hcz9_1 : w6.cell? ⟨gb271, 1, none⟩ = some (.int .i64 0) := (blk_cell BK271.out 1).trans rfl; have hcz9_2 : w6.cell? ⟨gb271, 2, none⟩ = some (.slice none 0 0) := (blk_cell BK271.out 2).trans rfl; have hfz9_0 := blk_frozen BK271.out 0; have hfz9_1 := blk_frozen BK271.out 1; have hfz9_2 := blk_frozen BK271.out 2; have hcz10_0 : w6.cell? ⟨gb269, 0, none⟩ = some (.int .i64 a0_0) := (blk_cell BK269.out 0).trans rfl; have hcz10_1 : w6.cell? ⟨gb269, 1, none⟩ = some (.int .i64 a0_1) := (blk_cell BK269.out 1).trans rfl; have hcz10_2 : w6.cell? ⟨gb269, 2, none⟩ = some (.slice A0_2 l0_2.length c0_2) := (blk_cell BK269.out 2).trans rfl; have hfz10_0 := blk_frozen BK269.out 0; have hfz10_1 := blk_frozen BK269.out 1; have hfz10_2 := blk_frozen BK269.out 2))
  go_loopg [14] k (fun kq v14 w' => ∃ (x14_1 : Int) (x272002_1 : List (S44)) (u272002 : Value), v14 = .int .i64 x14_1 ∧ Aside0 (infer_copied.l0 kq l0_2 (l0_2.length : Int) x14_1 a0_0 a0_1 x272002_1 = some (r1, r2, r3)) ∧ Aside0 (kq ≤ k) ∧ Aside0 (Kd.R k44 44 w' w.heap.size (fun k_ => k_ ≠ gb269 ∧ k_ ≠ gb270 ∧ k_ ≠ gb271) u272002 x272002_1) ∧ Aside0 (w'.heap[gb269]? = some (.cells #[.int .i64 a0_0, .int .i64 a0_1, (.slice A0_2 l0_2.length c0_2)] 44 (0, 0))) ∧ Aside0 (w'.heap[gb270]? = some (.cells #[.int .i64 0, .int .i64 0, (.slice none 0 0)] 44 (0, 0))) ∧ Aside0 (w'.heap[gb271]? = some (.cells #[.int .i64 a0_0, .int .i64 a0_1, u272002] 44 (0, 0))) ∧ Aside0 (Below w.heap.size w w'))
  case atStart => exact ⟨(0), (([] : List (S44))), (.slice none 0 0), (by first | rfl | (simp; done) | (simp [*]; done)), H', ⟨Nat.le_refl _⟩, ⟨by first | exact Kd.R_nil _ _ _ _ _ | exact Kd.N_nil _ _ _ _ _ | exact Kd.V_nil _ _ _ _ _ | exact Kd.Q_nil _ _ _ _ _ | exact Kd.S_nil _ _ _ _ _⟩, ⟨by (with_reducible repeat (first | refine blk_drewN ?_ _ | refine blk_drew ?_ | refine blk_alloc ?_ _)); refine blk_far ?_ NB269_271.out _; (with_reducible repeat (first | refine blk_drewN ?_ _ | refine blk_drew ?_ | refine blk_alloc ?_ _)); refine blk_far ?_ NB269_271.out _; (with_reducible repeat (first | refine blk_drewN ?_ _ | refine blk_drew ?_ | refine blk_alloc ?_ _)); refine blk_far ?_ NB269_271.out _; (with_reducible repeat (first | refine blk_drewN ?_ _ | refine blk_drew ?_ | refine blk_alloc ?_ _)); exact BK269.out⟩, ⟨by (with_reducible repeat (first | refine blk_drewN ?_ _ | refine blk_drew ?_ | refine blk_alloc ?_ _)); refine blk_far ?_ NB270_271.out _; (with_reducible repeat (first | refine blk_drewN ?_ _ | refine blk_drew ?_ | refine blk_alloc ?_ _)); refine blk_far ?_ NB270_271.out _; (with_reducible repeat (first | refine blk_drewN ?_ _ | refine blk_drew ?_ | refine blk_alloc ?_ _)); refine blk_far ?_ NB270_271.out _; (with_reducible repeat (first | refine blk_drewN ?_ _ | refine blk_drew ?_ | refine blk_alloc ?_ _)); exact BK270.out⟩, ⟨by (with_reducible repeat (first | refine blk_drewN ?_ _ | refine blk_drew ?_ | refine blk_alloc ?_ _)); refine blk_put (cs := #[.int .i64 a0_0, .int .i64 a0_1, .slice none 0 0]) ?_ 2 _ rfl; (with_reducible repeat (first | refine blk_drewN ?_ _ | refine blk_drew ?_ | refine blk_alloc ?_ _)); refine blk_put (cs := #[.int .i64 a0_0, .int .i64 0, .slice none 0 0]) ?_ 1 _ rfl; (with_reducible repeat (first | refine blk_drewN ?_ _ | refine blk_drew ?_ | refine blk_alloc ?_ _)); refine blk_put (cs := #[.int .i64 0, .int .i64 0, .slice none 0 0]) ?_ 0 _ rfl; (with_reducible repeat (first | refine blk_drewN ?_ _ | refine blk_drew ?_ | refine blk_alloc ?_ _)); exact BK271.out⟩, ⟨by repeat (first | (with_reducible first | exact HB.out | apply below_alloc | apply pw_below_drewN | apply below_drew1 | refine below_set ?_ GE269.out | refine below_set ?_ GE270.out | refine below_set ?_ GE271.out) | exact HB.out)⟩⟩
  case round =>
    clear H'
    try clear p2
    try clear c4
    try clear c5
    try clear c7
    try clear c8
    try clear hcz10_0
    try clear hcz10_1
    try clear hcz10_2
    try clear hcz5_0
    try clear hcz5_1
    try clear hcz5_2
    try clear hcz9_0
    try clear hcz9_1
    try clear hcz9_2
    try clear hfz10_0
    try clear hfz10_1
    try clear hfz10_2
    try clear hfz5_0
    try clear hfz5_1
    try clear hfz5_2
    try clear hfz9_0
    try clear hfz9_1
    try clear hfz9_2
    obtain ⟨x14_1, x272002_1, u272002, rfl, HA, HK1, HO_272002, BK269, BK270, BK271, HB⟩ := hrel
    cases gk with
    | zero => exact absurd HA.out (by simp [infer_copied.l0])
    | succ k1 =>
      have H := HA.out
      clear HA
      simp only [infer_copied.l0] at H
      by_cases c11 : x14_1 < (l0_2.length : Int)
      · rw [if_pos c11] at H
        have c11b0 : decide (x14_1 < (l0_2.length : Int)) = true := decide_eq_true c11
        clear c11
        by_cases c12 : 0 ≤ x14_1
        · rw [if_pos c12] at H
          have c12b0 : decide (0 ≤ x14_1) = true := decide_eq_true c12
          clear c12
          by_cases c13 : x14_1 < (l0_2.length : Int)
          · rw [if_pos c13] at H
            have c13b0 : decide (x14_1 < (l0_2.length : Int)) = true := decide_eq_true c13
            clear c13
            replace H := Option.bind_eq_some_iff.mp H
            obtain ⟨⟨t274, t275, t276⟩, A140, H⟩ := H
            replace H : (if x272002_1.length < 3518437208883 then (infer_copied.l0 k1 l0_2 (l0_2.length : Int) (wrap64 (x14_1 + 1)) a0_0 a0_1 (x272002_1 ++ [(⟨t274, t275, t276⟩ : S44)])) else (none)) = some (r1, r2, r3) := H
            have A14 := Aside0.mk A140
            clear A140
            by_cases c15 : x272002_1.length < 3518437208883
            · rw [if_pos c15] at H
              have LMc15 := Aside0.mk c15
              clear c15
              obtain ⟨y279, hy279⟩ : ∃ y_ : List (S44), y_ = (x272002_1 ++ [(⟨t274, t275, t276⟩ : S44)]) := ⟨_, rfl⟩
              replace H : (infer_copied.l0 k1 l0_2 (l0_2.length : Int) (wrap64 (x14_1 + 1)) a0_0 a0_1 y279) = some (r1, r2, r3) := by first | (rw [hy279]; with_reducible exact H) | (have H2_ := (Option.bind_some _ _).symm.trans H; rw [hy279]; with_reducible exact H2_) | (have H2_ := (Option.bind_some _ _).symm.trans H; with_reducible exact H2_) | with_reducible exact H | (rw [hy279]; exact H) | exact H
              have Ny279 := Aside0.mk hy279
              clear hy279
              have H' := Aside0.mk H
              clear H
              have p272 : 0 ≤ (x14_1 : Int) := of_decide_eq_true (by first | (with_reducible assumption) | assumption)
              have q272 : x14_1 < (l0_2.length : Int) := of_decide_eq_true (by first | (with_reducible assumption) | assumption)
              obtain ⟨ad272, A272_2, c272_2, e272, hx272_0, hx272_1, hx272_2, hl272_2, hi272_2⟩ := at_T44 HR0_2.out x14_1 p272 q272
              cases e272
              replace hx272_0 := (HB.out.cell (World.block_lt_of_cell? w _ hx272_0)).trans hx272_0
              replace hx272_1 := (HB.out.cell (World.block_lt_of_cell? w _ hx272_1)).trans hx272_1
              replace hx272_2 := (HB.out.cell (World.block_lt_of_cell? w _ hx272_2)).trans hx272_2
              have HR272_2 := Aside0.mk hi272_2
              have HC272_2 := Aside0.mk hl272_2
              clear hi272_2 hl272_2
              replace p272 := eq_true p272
              replace q272 := eq_true q272
              try go_wp2_with (first | ((with_reducible refine gate_dst (N := 5) rfl ?_); refine box_event ?hg (N := 5) ?hd (cs := #[.int .i64 0, .int .i64 0, .slice none 0 0]) (t := 44) ?hr ?_; (case hd => rfl); (case hg => rfl); (case hr => first | (go_simp; done) | (go_simp; rfl)); intro gb273 hg w16 hbox hb; have n0_ := Aside0.mk (Kd.R_below (Kd.R_elderB (by (with_reducible repeat (first | apply Kd.R_alloc | apply Kd.R_drewN | apply Kd.R_drew)); exact HO_272002.out) gb273 (Nat.le_of_eq hg.symm)) hb); have n1_ := Aside0.mk (blk_below (g := gb269) (o := .cells #[.int .i64 a0_0, .int .i64 a0_1, .slice (some ad272) l0_2.length c0_2] 44 (0, 0)) (by (with_reducible repeat (first | refine blk_drewN ?_ _ | refine blk_drew ?_ | refine blk_alloc ?_ _)); exact BK269.out) hb); have n2_ := Aside0.mk (blk_below (g := gb270) (o := .cells #[.int .i64 0, .int .i64 0, .slice none 0 0] 44 (0, 0)) (by (with_reducible repeat (first | refine blk_drewN ?_ _ | refine blk_drew ?_ | refine blk_alloc ?_ _)); exact BK270.out) hb); have n3_ := Aside0.mk (blk_below (g := gb271) (o := .cells #[.int .i64 a0_0, .int .i64 a0_1, u272002] 44 (0, 0)) (by (with_reducible repeat (first | refine blk_drewN ?_ _ | refine blk_drew ?_ | refine blk_alloc ?_ _)); exact BK271.out) hb); have n4_ := Aside0.mk (below_step (by repeat (first | (with_reducible first | exact HB.out | apply below_alloc | apply pw_below_drewN | apply below_drew1 | refine below_set ?_ GE269.out | refine below_set ?_ GE270.out | refine below_set ?_ GE271.out) | exact HB.out)) hb); have n5_ := Aside0.mk (hbox); have n6_ := Aside0.mk ((by rw [hg]; exact (below_size (by repeat (first | (with_reducible first | exact HB.out | apply below_alloc | apply pw_below_drewN | apply below_drew1 | refine below_set ?_ GE269.out | refine below_set ?_ GE270.out | refine below_set ?_ GE271.out) | exact HB.out))) : w.heap.size ≤ gb273)); have n7_ := Aside0.mk ((by rw [hg]; exact (below_size (by repeat (first | (with_reducible first | exact HB.out | apply below_alloc | apply pw_below_drewN | apply below_drew1 | refine below_set ?_ GE269.out | refine below_set ?_ GE270.out | refine below_set ?_ GE271.out) | exact HB.out))) : w.heap.size ≤ gb273)); have n8_ := Aside0.mk ((by rw [hg]; exact Nat.ne_of_lt (blk_lt (g := gb269) (o := .cells #[.int .i64 a0_0, .int .i64 a0_1, .slice (some ad272) l0_2.length c0_2] 44 (0, 0)) (by (with_reducible repeat (first | refine blk_drewN ?_ _ | refine blk_drew ?_ | refine blk_alloc ?_ _)); exact BK269.out)) : gb269 ≠ gb273)); have n9_ := Aside0.mk ((by rw [hg]; exact Nat.ne_of_gt (blk_lt (g := gb269) (o := .cells #[.int .i64 a0_0, .int .i64 a0_1, .slice (some ad272) l0_2.length c0_2] 44 (0, 0)) (by (with_reducible repeat (first | refine blk_drewN ?_ _ | refine blk_drew ?_ | refine blk_alloc ?_ _)); exact BK269.out)) : gb273 ≠ gb269)); have n10_ := Aside0.mk ((by rw [hg]; exact Nat.ne_of_lt (blk_lt (g := gb270) (o := .cells #[.int .i64 0, .int .i64 0, .slice none 0 0] 44 (0, 0)) (by (with_reducible repeat (first | refine blk_drewN ?_ _ | refine blk_drew ?_ | refine blk_alloc ?_ _)); exact BK270.out)) : gb270 ≠ gb273)); have n11_ := Aside0.mk ((by rw [hg]; exact Nat.ne_of_gt (blk_lt (g := gb270) (o := .cells #[.int .i64 0, .int .i64 0, .slice none 0 0] 44 (0, 0)) (by (with_reducible repeat (first | refine blk_drewN ?_ _ | refine blk_drew ?_ | refine blk_alloc ?_ _)); exact BK270.out)) : gb273 ≠ gb270)); have n12_ := Aside0.mk ((by rw [hg]; exact Nat.ne_of_lt (blk_lt (g := gb271) (o := .cells #[.int .i64 a0_0, .int .i64 a0_1, u272002] 44 (0, 0)) (by (with_reducible repeat (first | refine blk_drewN ?_ _ | refine blk_drew ?_ | refine blk_alloc ?_ _)); exact BK271.out)) : gb271 ≠ gb273)); have n13_ := Aside0.mk ((by rw [hg]; exact Nat.ne_of_gt (blk_lt (g := gb271) (o := .cells #[.int .i64 a0_0, .int .i64 a0_1, u272002] 44 (0, 0)) (by (with_reducible repeat (first | refine blk_drewN ?_ _ | refine blk_drew ?_ | refine blk_alloc ?_ _)); exact BK271.out)) : gb273 ≠ gb271)); clear HO_272002; clear BK269; clear BK270; clear BK271; clear HB; have HO_272002 := n0_; have BK269 := n1_; have BK270 := n2_; have BK271 := n3_; have HB := n4_; have BK273 := n5_; have GW273 := n6_; have GE273 := n7_; have NB269_273 := n8_; have NB273_269 := n9_; have NB270_273 := n10_; have NB273_270 := n11_; have NB271_273 := n12_; have NB273_271 := n13_; clear n0_ n1_ n2_ n3_ n4_ n5_ n6_ n7_ n8_ n9_ n10_ n11_ n12_ n13_; clear hb hbox hg; have hnb17 := NB273_269.out; have hnc17 := NB269_273.out; have hnb18 := NB273_270.out; have hnc18 := NB270_273.out; have hnb19 := NB273_271.out; have hnc19 := NB271_273.out; have hcz20_0 : w16.cell? ⟨gb273, 0, none⟩ = some (.int .i64 0) := (blk_cell BK273.out 0).trans rfl; have hcz20_1 : w16.cell? ⟨gb273, 1, none⟩ = some (.int .i64 0) := (blk_cell BK273.out 1).trans rfl; have hcz20_2 : w16.cell? ⟨gb273, 2, none⟩ = some (.slice none 0 0) := (blk_cell BK273.out 2).trans rfl; have hfz20_0 := blk_frozen BK273.out 0; have hfz20_1 := blk_frozen BK273.out 1; have hfz20_2 := blk_frozen BK273.out 2))
              have n0_ : Aside0 (Kd.R k44 44 (((w16.setCell ⟨gb273, 0, none⟩ (.int .i64 ((rd_T44 l0_2 x14_1).f0))).setCell ⟨gb273, 1, none⟩ (.int .i64 ((rd_T44 l0_2 x14_1).f1))).setCell ⟨gb273, 2, none⟩ (.slice A272_2 ((rd_T44 l0_2 x14_1).f2).length c272_2)) w.heap.size (fun k_ => k_ ≠ gb269 ∧ k_ ≠ gb270 ∧ k_ ≠ gb271 ∧ k_ ≠ gb273) u272002 x272002_1) := ⟨by (with_reducible repeat (first | apply Kd.R_alloc | apply Kd.R_drewN | apply Kd.R_drew)); exact Kd.R_mono (Kd.R_far (p := ⟨gb273, 2, none⟩) (Kd.R_far (p := ⟨gb273, 1, none⟩) (Kd.R_far (p := ⟨gb273, 0, none⟩) (Kd.R_mono HO_272002.out (fun k_ hk => (⟨hk, hk.2⟩ : _ ∧ k_ ≠ gb273))) (fun _ hk => hk.2) (.int .i64 ((rd_T44 l0_2 x14_1).f0))) (fun _ hk => hk.2) (.int .i64 ((rd_T44 l0_2 x14_1).f1))) (fun _ hk => hk.2) (.slice A272_2 ((rd_T44 l0_2 x14_1).f2).length c272_2)) (fun _ hk => ⟨hk.1.1.1, ⟨hk.1.1.2.1, ⟨hk.1.1.2.2, hk.1.2⟩⟩⟩)⟩
              have n1_ : Aside0 ((((w16.setCell ⟨gb273, 0, none⟩ (.int .i64 ((rd_T44 l0_2 x14_1).f0))).setCell ⟨gb273, 1, none⟩ (.int .i64 ((rd_T44 l0_2 x14_1).f1))).setCell ⟨gb273, 2, none⟩ (.slice A272_2 ((rd_T44 l0_2 x14_1).f2).length c272_2)).heap[gb269]? = some (.cells #[.int .i64 a0_0, .int .i64 a0_1, .slice (some ad272) l0_2.length c0_2] 44 (0, 0))) := ⟨by (with_reducible repeat (first | refine blk_drewN ?_ _ | refine blk_drew ?_ | refine blk_alloc ?_ _)); refine blk_far ?_ NB269_273.out _; (with_reducible repeat (first | refine blk_drewN ?_ _ | refine blk_drew ?_ | refine blk_alloc ?_ _)); refine blk_far ?_ NB269_273.out _; (with_reducible repeat (first | refine blk_drewN ?_ _ | refine blk_drew ?_ | refine blk_alloc ?_ _)); refine blk_far ?_ NB269_273.out _; (with_reducible repeat (first | refine blk_drewN ?_ _ | refine blk_drew ?_ | refine blk_alloc ?_ _)); exact BK269.out⟩
              have n2_ : Aside0 ((((w16.setCell ⟨gb273, 0, none⟩ (.int .i64 ((rd_T44 l0_2 x14_1).f0))).setCell ⟨gb273, 1, none⟩ (.int .i64 ((rd_T44 l0_2 x14_1).f1))).setCell ⟨gb273, 2, none⟩ (.slice A272_2 ((rd_T44 l0_2 x14_1).f2).length c272_2)).heap[gb270]? = some (.cells #[.int .i64 0, .int .i64 0, .slice none 0 0] 44 (0, 0))) := ⟨by (with_reducible repeat (first | refine blk_drewN ?_ _ | refine blk_drew ?_ | refine blk_alloc ?_ _)); refine blk_far ?_ NB270_273.out _; (with_reducible repeat (first | refine blk_drewN ?_ _ | refine blk_drew ?_ | refine blk_alloc ?_ _)); refine blk_far ?_ NB270_273.out _; (with_reducible repeat (first | refine blk_drewN ?_ _ | refine blk_drew ?_ | refine blk_alloc ?_ _)); refine blk_far ?_ NB270_273.out _; (with_reducible repeat (first | refine blk_drewN ?_ _ | refine blk_drew ?_ | refine blk_alloc ?_ _)); exact BK270.out⟩
              have n3_ : Aside0 ((((w16.setCell ⟨gb273, 0, none⟩ (.int .i64 ((rd_T44 l0_2 x14_1).f0))).setCell ⟨gb273, 1, none⟩ (.int .i64 ((rd_T44 l0_2 x14_1).f1))).setCell ⟨gb273, 2, none⟩ (.slice A272_2 ((rd_T44 l0_2 x14_1).f2).length c272_2)).heap[gb271]? = some (.cells #[.int .i64 a0_0, .int .i64 a0_1, u272002] 44 (0, 0))) := ⟨by (with_reducible repeat (first | refine blk_drewN ?_ _ | refine blk_drew ?_ | refine blk_alloc ?_ _)); refine blk_far ?_ NB271_273.out _; (with_reducible repeat (first | refine blk_drewN ?_ _ | refine blk_drew ?_ | refine blk_alloc ?_ _)); refine blk_far ?_ NB271_273.out _; (with_reducible repeat (first | refine blk_drewN ?_ _ | refine blk_drew ?_ | refine blk_alloc ?_ _)); refine blk_far ?_ NB271_273.out _; (with_reducible repeat (first | refine blk_drewN ?_ _ | refine blk_drew ?_ | refine blk_alloc ?_ _)); exact BK271.out⟩
              have n4_ : Aside0 ((((w16.setCell ⟨gb273, 0, none⟩ (.int .i64 ((rd_T44 l0_2 x14_1).f0))).setCell ⟨gb273, 1, none⟩ (.int .i64 ((rd_T44 l0_2 x14_1).f1))).setCell ⟨gb273, 2, none⟩ (.slice A272_2 ((rd_T44 l0_2 x14_1).f2).length c272_2)).heap[gb273]? = some (.cells #[.int .i64 ((rd_T44 l0_2 x14_1).f0), .int .i64 ((rd_T44 l0_2 x14_1).f1), .slice A272_2 ((rd_T44 l0_2 x14_1).f2).length c272_2] 44 (0, 0))) := ⟨by (with_reducible repeat (first | refine blk_drewN ?_ _ | refine blk_drew ?_ | refine blk_alloc ?_ _)); refine blk_put (cs := #[.int .i64 ((rd_T44 l0_2 x14_1).f0), .int .i64 ((rd_T44 l0_2 x14_1).f1), .slice none 0 0]) ?_ 2 _ rfl; (with_reducible repeat (first | refine blk_drewN ?_ _ | refine blk_drew ?_ | refine blk_alloc ?_ _)); refine blk_put (cs := #[.int .i64 ((rd_T44 l0_2 x14_1).f0), .int .i64 0, .slice none 0 0]) ?_ 1 _ rfl; (with_reducible repeat (first | refine blk_drewN ?_ _ | refine blk_drew ?_ | refine blk_alloc ?_ _)); refine blk_put (cs := #[.int .i64 0, .int .i64 0, .slice none 0 0]) ?_ 0 _ rfl; (with_reducible repeat (first | refine blk_drewN ?_ _ | refine blk_drew ?_ | refine blk_alloc ?_ _)); exact BK273.out⟩
              have n5_ : Aside0 (Below w.heap.size w (((w16.setCell ⟨gb273, 0, none⟩ (.int .i64 ((rd_T44 l0_2 x14_1).f0))).setCell ⟨gb273, 1, none⟩ (.int .i64 ((rd_T44 l0_2 x14_1).f1))).setCell ⟨gb273, 2, none⟩ (.slice A272_2 ((rd_T44 l0_2 x14_1).f2).length c272_2))) := ⟨by repeat (first | (with_reducible first | exact HB.out | apply below_alloc | apply pw_below_drewN | apply below_drew1 | refine below_set ?_ GE269.out | refine below_set ?_ GE270.out | refine below_set ?_ GE271.out | refine below_set ?_ GE273.out) | exact HB.out)⟩
              (try clear HO_272002)
              (try clear BK269)
              (try clear BK270)
              (try clear BK271)
              (try clear BK273)
              (try clear HB)
              generalize (((w16.setCell ⟨gb273, 0, none⟩ (.int .i64 ((rd_T44 l0_2 x14_1).f0))).setCell ⟨gb273, 1, none⟩ (.int .i64 ((rd_T44 l0_2 x14_1).f1))).setCell ⟨gb273, 2, none⟩ (.slice A272_2 ((rd_T44 l0_2 x14_1).f2).length c272_2)) = w21 at n0_ n1_ n2_ n3_ n4_ n5_ ⊢
              have HO_272002 := n0_
              have BK269 := n1_
              have BK270 := n2_
              have BK271 := n3_
              have BK273 := n4_
              have HB := n5_
              clear n0_ n1_ n2_ n3_ n4_ n5_
              have n0_ := Aside0.mk (Kd.R_drew HO_272002.out)
              have n1_ := Aside0.mk (blk_drew BK269.out)
              have n2_ := Aside0.mk (blk_drew BK270.out)
              have n3_ := Aside0.mk (blk_drew BK271.out)
              have n4_ := Aside0.mk (blk_drew BK273.out)
              have n5_ := Aside0.mk (below_drew1 HB.out)
              clear HO_272002
              clear BK269
              clear BK270
              clear BK271
              clear BK273
              clear HB
              have HO_272002 := n0_
              have BK269 := n1_
              have BK270 := n2_
              have BK271 := n3_
              have BK273 := n4_
              have HB := n5_
              clear n0_ n1_ n2_ n3_ n4_ n5_
              refine start_ (n := 8) (S := fun w' => w'.cell? ⟨gb271, 0, none⟩ = some (.int .i64 a0_0) ∧ w'.cell? ⟨gb271, 1, none⟩ = some (.int .i64 a0_1) ∧ w'.cell? ⟨gb271, 2, none⟩ = some (u272002) ∧ w'.cell? ⟨gb273, 0, none⟩ = some (.int .i64 ((rd_T44 l0_2 x14_1).f0)) ∧ w'.cell? ⟨gb273, 1, none⟩ = some (.int .i64 ((rd_T44 l0_2 x14_1).f1)) ∧ w'.cell? ⟨gb273, 2, none⟩ = some (.slice A272_2 ((rd_T44 l0_2 x14_1).f2).length c272_2)) (ds := [7]) #[false, false, false, false, false, false, false, false] (by kernel_rfl) rfl rfl ⟨(blk_cell BK271.out 0).trans rfl, (blk_cell BK271.out 1).trans rfl, (blk_cell BK271.out 2).trans rfl, (blk_cell BK273.out 0).trans rfl, (blk_cell BK273.out 1).trans rfl, (blk_cell BK273.out 2).trans rfl⟩ (fun hHeld => ?_); refine with_tabW infer_copied.tab5 infer_copied.bits5 (fun HT_ HW_ => ?_)
              generalize w21.drew = w22 at HO_272002 BK269 BK270 BK271 BK273 HB hHeld ⊢
              refine pure_ (i := 0) (N := some 18) (v := ?_) (a' := ?_) #[true, false, false, false, false, false, false, false] rfl rfl (any_of HT_.out (by kernel_rfl)) (fun _ _ _ h => h) (Or.inl ⟨by rfl, ?_⟩) ?_ ?_
              rotate_left
              · intro w'
                go_simp
                with_reducible rfl
              rotate_left
              · simp only [Act.put, List.setIfInBounds_toArray, List.set_cons_zero, List.set_cons_succ, i64_w, i32_w]
                rfl
              refine take_ (i := 1) (N := some 19) (v := ?_) (a' := ?_) #[true, true, false, false, false, false, false, false] rfl rfl (take_ofW HT_.out HW_.out (by kernel_rfl)) (fun _ _ _ h => h) (Or.inl ⟨by rfl, ?_⟩) hHeld ?_ ?_
              rotate_left
              · rintro w' ⟨s0, s1, s2, s3, s4, s5⟩
                go_simp
                with_reducible rfl
              rotate_left
              · simp only [Act.put, List.setIfInBounds_toArray, List.set_cons_zero, List.set_cons_succ, i64_w, i32_w]
                rfl
              refine take_ (i := 2) (N := some 20) (v := ?_) (a' := ?_) #[true, true, true, false, false, false, false, false] rfl rfl (take_ofW HT_.out HW_.out (by kernel_rfl)) (fun _ _ _ h => h) (Or.inl ⟨by rfl, ?_⟩) hHeld ?_ ?_
              rotate_left
              · rintro w' ⟨s0, s1, s2, s3, s4, s5⟩
                go_simp
                with_reducible rfl
              rotate_left
              · simp only [Act.put, List.setIfInBounds_toArray, List.set_cons_zero, List.set_cons_succ, i64_w, i32_w]
                rfl
              refine one_ (i := 3) (N := some 21) #[true, true, true, true, false, false, false, false] rfl rfl (one_of HT_.out (by kernel_rfl)) (by decide) (fun K hK => ?_)
              refine goes_ Try.func54 (by kernel_rfl) rfl #[.agg #[.int .i64 ((rd_T44 l0_2 x14_1).f0), .int .i64 ((rd_T44 l0_2 x14_1).f1), .slice A272_2 ((rd_T44 l0_2 x14_1).f2).length c272_2]] (by rfl) rfl rfl (by (try simp only [List.map_toArray, List.map_cons, List.map_nil]); first | done | rfl | (simp only [List.length_drop, List.length_take]; rfl)) ?_
              with_reducible refine (ih k1 (by have := HK1.out; omega) ((rd_T44 l0_2 x14_1).f0) ((rd_T44 l0_2 x14_1).f1) _ _ ((rd_T44 l0_2 x14_1).f2) t274 t275 t276 _ ?side1 ?side2 A14.out).mono ?_
              (case side1 => repeat (first | exact (Kd.C_below HR272_2.out HB.out) | (with_reducible refine Kd.C_alloc ?_ _) | (with_reducible refine Kd.C_drewN ?_ _) | (with_reducible refine Kd.C_drew ?_)))
              (case side2 => exact HC272_2.out)
              rintro e w23 ⟨v277, rfl, ho0, hb⟩
              refine ⟨_, rfl, ?_⟩
              have n0_ := Aside0.mk (Kd.R_elder' (by (with_reducible repeat (first | apply Kd.R_alloc | apply Kd.R_drewN | apply Kd.R_drew)); exact HO_272002.out) (Kd.R_base ho0) hb)
              have n1_ := Aside0.mk (Kd.R_lower (Kd.R_newB (Kd.R_newB (Kd.R_newB (Kd.R_newB (Kd.R_new' ho0 (Kd.R_lt (by (with_reducible repeat (first | apply Kd.R_alloc | apply Kd.R_drewN | apply Kd.R_drew)); exact HO_272002.out))) (g := gb269) (o := .cells #[.int .i64 a0_0, .int .i64 a0_1, .slice (some ad272) l0_2.length c0_2] 44 (0, 0)) (by (with_reducible repeat (first | refine blk_drewN ?_ _ | refine blk_drew ?_ | refine blk_alloc ?_ _)); exact BK269.out)) (g := gb270) (o := .cells #[.int .i64 0, .int .i64 0, .slice none 0 0] 44 (0, 0)) (by (with_reducible repeat (first | refine blk_drewN ?_ _ | refine blk_drew ?_ | refine blk_alloc ?_ _)); exact BK270.out)) (g := gb271) (o := .cells #[.int .i64 a0_0, .int .i64 a0_1, u272002] 44 (0, 0)) (by (with_reducible repeat (first | refine blk_drewN ?_ _ | refine blk_drew ?_ | refine blk_alloc ?_ _)); exact BK271.out)) (g := gb273) (o := .cells #[.int .i64 ((rd_T44 l0_2 x14_1).f0), .int .i64 ((rd_T44 l0_2 x14_1).f1), .slice A272_2 ((rd_T44 l0_2 x14_1).f2).length c272_2] 44 (0, 0)) (by (with_reducible repeat (first | refine blk_drewN ?_ _ | refine blk_drew ?_ | refine blk_alloc ?_ _)); exact BK273.out)) (below_size (by repeat (first | (with_reducible first | exact HB.out | apply below_alloc | apply pw_below_drewN | apply below_drew1 | refine below_set ?_ GE269.out | refine below_set ?_ GE270.out | refine below_set ?_ GE271.out | refine below_set ?_ GE273.out) | exact HB.out))))
              have n2_ := Aside0.mk (blk_below (g := gb269) (o := .cells #[.int .i64 a0_0, .int .i64 a0_1, .slice (some ad272) l0_2.length c0_2] 44 (0, 0)) (by (with_reducible repeat (first | refine blk_drewN ?_ _ | refine blk_drew ?_ | refine blk_alloc ?_ _)); exact BK269.out) hb)
              have n3_ := Aside0.mk (blk_below (g := gb270) (o := .cells #[.int .i64 0, .int .i64 0, .slice none 0 0] 44 (0, 0)) (by (with_reducible repeat (first | refine blk_drewN ?_ _ | refine blk_drew ?_ | refine blk_alloc ?_ _)); exact BK270.out) hb)
              have n4_ := Aside0.mk (blk_below (g := gb271) (o := .cells #[.int .i64 a0_0, .int .i64 a0_1, u272002] 44 (0, 0)) (by (with_reducible repeat (first | refine blk_drewN ?_ _ | refine blk_drew ?_ | refine blk_alloc ?_ _)); exact BK271.out) hb)
              have n5_ := Aside0.mk (blk_below (g := gb273) (o := .cells #[.int .i64 ((rd_T44 l0_2 x14_1).f0), .int .i64 ((rd_T44 l0_2 x14_1).f1), .slice A272_2 ((rd_T44 l0_2 x14_1).f2).length c272_2] 44 (0, 0)) (by (with_reducible repeat (first | refine blk_drewN ?_ _ | refine blk_drew ?_ | refine blk_alloc ?_ _)); exact BK273.out) hb)
              have n6_ := Aside0.mk (below_step (by repeat (first | (with_reducible first | exact HB.out | apply below_alloc | apply pw_below_drewN | apply below_drew1 | refine below_set ?_ GE269.out | refine below_set ?_ GE270.out | refine below_set ?_ GE271.out | refine below_set ?_ GE273.out) | exact HB.out)) hb)
              clear HO_272002
              clear BK269
              clear BK270
              clear BK271
              clear BK273
              clear HB
              have HO_272002 := n0_
              have HO278 := n1_
              have BK269 := n2_
              have BK270 := n3_
              have BK271 := n4_
              have BK273 := n5_
              have HB := n6_
              clear n0_ n1_ n2_ n3_ n4_ n5_ n6_
              (try clear hb)
              (try clear hb2)
              (try clear hk)
              (try clear hi)
              (try clear ho0)
              obtain ⟨Ao25, co25, eo25⟩ := Kd.R_slice HO278.out
              (first | subst eo25 | (injection eo25 with f1_ f2_ f3_; have f4_ := f1_.symm; have f5_ := f3_.symm; clear f1_ f2_ f3_; subst f4_; subst f5_))
              refine hK.out _ _ ⟨(blk_cell BK271.out 0).trans rfl, (blk_cell BK271.out 1).trans rfl, (blk_cell BK271.out 2).trans rfl, (blk_cell BK273.out 0).trans rfl, (blk_cell BK273.out 1).trans rfl, (blk_cell BK273.out 2).trans rfl⟩ (fun hHeld => ?_)
              clear hK K
              refine norm_ (a' := ?_) ?_ ?_
              rotate_left
              · show Act.put _ (some 21) _ = _
                simp only [Act.put, List.setIfInBounds_toArray, List.set_cons_zero, List.set_cons_succ, i64_w, i32_w]
                rfl
              refine one_ (i := 4) (N := some 22) #[true, true, true, true, true, false, false, false] rfl rfl (one_of HT_.out (by kernel_rfl)) (by decide) (fun K hK => ?_)
              refine value_ (w1 := ?_) (v := ?_) (by rfl) rfl ?_ ?_
              rotate_left 2
              · go_simp
                constructor
                · rfl
                · rfl
              refine hK.out _ _ ⟨(blk_cell (blk_alloc BK271.out _) 0).trans rfl, (blk_cell (blk_alloc BK271.out _) 1).trans rfl, (blk_cell (blk_alloc BK271.out _) 2).trans rfl, (blk_cell (blk_alloc BK273.out _) 0).trans rfl, (blk_cell (blk_alloc BK273.out _) 1).trans rfl, (blk_cell (blk_alloc BK273.out _) 2).trans rfl⟩ (fun hHeld => ?_)
              clear hK K
              refine norm_ (a' := ?_) ?_ ?_
              rotate_left
              · show Act.put _ (some 22) _ = _
                simp only [Act.put, List.setIfInBounds_toArray, List.set_cons_zero, List.set_cons_succ, i64_w, i32_w]
                rfl
              refine one_ (i := 5) (N := some 23) #[true, true, true, true, true, true, false, false] rfl rfl (one_of HT_.out (by kernel_rfl)) (by decide) (fun K hK => ?_)
              refine Kd.R_append_step k44 (w0 := w) w.heap.size (by rfl) (.tmp 19) (.tmp 22) 42 44 (.agg #[(.int .i64 0), (.int .i64 0), (.slice none 0 0)]) 40 rfl Try.underlying42 info44 rfl (by decide) (by omega) u272002 x272002_1 (⟨t274, t275, t276⟩ : S44) [.int .i64 t274, .int .i64 t275, .slice Ao25 t276.length co25] (fun k_ => k_ ≠ gb269 ∧ k_ ≠ gb270 ∧ k_ ≠ gb271 ∧ k_ ≠ gb273) (fun k_ => ((fun k_ => k_ ≠ gb269 ∧ k_ ≠ gb270 ∧ k_ ≠ gb271 ∧ k_ ≠ gb273)) k_ ∧ some k_ ≠ (u272002 : Value).ownBlock) rfl rfl ?aP (fun _ hk => hk) ?aF ?aO ?aB ?aS ?aL ?_
              (case aP => exact k44_mkM _ _ _ (⟨t274, t275, t276⟩ : S44) (Kd.R_mono (HO278.out) (fun k_ hk => ⟨⟨hk.1.1.1.2, ⟨hk.1.1.2, ⟨hk.1.2, hk.2⟩⟩⟩, hk.1.1.1.1.2⟩)))
              (case aB => exact (by repeat (first | (with_reducible first | exact HB.out | apply below_alloc | apply pw_below_drewN | apply below_drew1 | refine below_set ?_ GE269.out | refine below_set ?_ GE270.out | refine below_set ?_ GE271.out | refine below_set ?_ GE273.out) | exact HB.out)))
              (case aF => exact (fun k_ hk => ⟨Kd.freshB (g := gb269) (o := .cells #[.int .i64 a0_0, .int .i64 a0_1, .slice (some ad272) l0_2.length c0_2] 44 (0, 0)) (by (with_reducible repeat (first | refine blk_drewN ?_ _ | refine blk_drew ?_ | refine blk_alloc ?_ _)); exact BK269.out) k_ hk, Kd.freshB (g := gb270) (o := .cells #[.int .i64 0, .int .i64 0, .slice none 0 0] 44 (0, 0)) (by (with_reducible repeat (first | refine blk_drewN ?_ _ | refine blk_drew ?_ | refine blk_alloc ?_ _)); exact BK270.out) k_ hk, Kd.freshB (g := gb271) (o := .cells #[.int .i64 a0_0, .int .i64 a0_1, u272002] 44 (0, 0)) (by (with_reducible repeat (first | refine blk_drewN ?_ _ | refine blk_drew ?_ | refine blk_alloc ?_ _)); exact BK271.out) k_ hk, Kd.freshB (g := gb273) (o := .cells #[.int .i64 ((rd_T44 l0_2 x14_1).f0), .int .i64 ((rd_T44 l0_2 x14_1).f1), .slice A272_2 ((rd_T44 l0_2 x14_1).f2).length c272_2] 44 (0, 0)) (by (with_reducible repeat (first | refine blk_drewN ?_ _ | refine blk_drew ?_ | refine blk_alloc ?_ _)); exact BK273.out) k_ hk⟩))
              (case aO => exact (by (with_reducible repeat (first | apply Kd.R_alloc | apply Kd.R_drewN | apply Kd.R_drew)); exact Kd.R_mono HO_272002.out (fun _ hk => ⟨hk.1.1, ⟨hk.1.2.1, ⟨hk.1.2.2.1, hk.1.2.2.2⟩⟩⟩)))
              (case aS => exact (below_size (by repeat (first | (with_reducible first | exact HB.out | apply below_alloc | apply pw_below_drewN | apply below_drew1 | refine below_set ?_ GE269.out | refine below_set ?_ GE270.out | refine below_set ?_ GE271.out | refine below_set ?_ GE273.out) | exact HB.out))))
              (case aL => have := LMc15.out; omega)
              intro v280 w24 ho hb hg hat
              rw [← Ny279.out] at ho
              have n0_ := Aside0.mk (blk_grown (g := gb269) (o := .cells #[.int .i64 a0_0, .int .i64 a0_1, .slice (some ad272) l0_2.length c0_2] 44 (0, 0)) (by (with_reducible repeat (first | refine blk_drewN ?_ _ | refine blk_drew ?_ | refine blk_alloc ?_ _)); exact BK269.out) hg (Kd.R_away HO_272002.out (fun _ hk => hk.1.1)))
              have n1_ := Aside0.mk (blk_grown (g := gb270) (o := .cells #[.int .i64 0, .int .i64 0, .slice none 0 0] 44 (0, 0)) (by (with_reducible repeat (first | refine blk_drewN ?_ _ | refine blk_drew ?_ | refine blk_alloc ?_ _)); exact BK270.out) hg (Kd.R_away HO_272002.out (fun _ hk => hk.1.2.1)))
              have n2_ := Aside0.mk (blk_grown (g := gb271) (o := .cells #[.int .i64 a0_0, .int .i64 a0_1, u272002] 44 (0, 0)) (by (with_reducible repeat (first | refine blk_drewN ?_ _ | refine blk_drew ?_ | refine blk_alloc ?_ _)); exact BK271.out) hg (Kd.R_away HO_272002.out (fun _ hk => hk.1.2.2.1)))
              have n3_ := Aside0.mk (blk_grown (g := gb273) (o := .cells #[.int .i64 ((rd_T44 l0_2 x14_1).f0), .int .i64 ((rd_T44 l0_2 x14_1).f1), .slice A272_2 ((rd_T44 l0_2 x14_1).f2).length c272_2] 44 (0, 0)) (by (with_reducible repeat (first | refine blk_drewN ?_ _ | refine blk_drew ?_ | refine blk_alloc ?_ _)); exact BK273.out) hg (Kd.R_away HO_272002.out (fun _ hk => hk.1.2.2.2)))
              have n4_ := Aside0.mk (hb)
              have n5_ := Aside0.mk (ho)
              clear BK269
              clear BK270
              clear BK271
              clear BK273
              clear HB
              clear HO_272002
              clear HO278
              have BK269 := n0_
              have BK270 := n1_
              have BK271 := n2_
              have BK273 := n3_
              have HB := n4_
              have HO281 := n5_
              clear n0_ n1_ n2_ n3_ n4_ n5_
              clear ho hb hg hat
              obtain ⟨Ao26, co26, eo26⟩ := Kd.R_slice HO281.out
              (first | subst eo26 | (injection eo26 with f1_ f2_ f3_; have f4_ := f1_.symm; have f5_ := f3_.symm; clear f1_ f2_ f3_; subst f4_; subst f5_))
              refine hK.out _ _ ⟨(blk_cell BK271.out 0).trans rfl, (blk_cell BK271.out 1).trans rfl, (blk_cell BK271.out 2).trans rfl, (blk_cell BK273.out 0).trans rfl, (blk_cell BK273.out 1).trans rfl, (blk_cell BK273.out 2).trans rfl⟩ (fun hHeld => ?_)
              clear hK K
              refine norm_ (a' := ?_) ?_ ?_
              rotate_left
              · show Act.put _ (some 23) _ = _
                simp only [Act.put, List.setIfInBounds_toArray, List.set_cons_zero, List.set_cons_succ, i64_w, i32_w]
                rfl
              refine pure_ (i := 6) (N := some 24) (v := ?_) (a' := ?_) #[true, true, true, true, true, true, true, false] rfl rfl (any_of HT_.out (by kernel_rfl)) (fun _ _ _ h => h) (Or.inl ⟨by rfl, ?_⟩) ?_ ?_
              rotate_left
              · intro w'
                go_simp
                with_reducible rfl
              rotate_left
              · simp only [Act.put, List.setIfInBounds_toArray, List.set_cons_zero, List.set_cons_succ, i64_w, i32_w]
                rfl
              refine last_ (i := 7) (N := none) #[true, true, true, true, true, true, true, true] rfl rfl (one_of HT_.out (by kernel_rfl)) (by decide) (fun K hK => ?_)
              have hs27 : w24.cell? ⟨gb271, 2, none⟩ = some (u272002) := (blk_cell BK271.out 2).trans rfl
              have hfs27 := blk_frozen BK271.out 2
              have hns27_0 := NB269_271.out
              have hns27_1 := NB270_271.out
              have hns27_3 := NB273_271.out
              have hms27_0 := NB271_269.out
              have hms27_1 := NB271_270.out
              have hms27_3 := NB271_273.out
              refine skip_ (w1 := ?_) (by rfl) rfl ?_ ?_
              rotate_left
              · go_simp
                rfl
              refine hK.out _ _ ?_
              clear hK K
              refine done_ (done_of HT_.out (by kernel_rfl)) ?_
              try go_wp2
              go_roundg k1
              case measure => have := HK1.out; omega
              case rel => exact ⟨(wrap64 (x14_1 + 1)), (y279), (.slice Ao26 y279.length co26), (by first | rfl | (simp; done) | (simp [*]; done)), H', ⟨by have := HK1.out; omega⟩, ⟨by (with_reducible repeat (first | apply Kd.R_alloc | apply Kd.R_drewN | apply Kd.R_drew)); exact Kd.R_mono (Kd.R_far (p := ⟨gb271, 2, none⟩) (Kd.R_mono HO281.out (fun k_ hk => (⟨hk, hk.2.2.1⟩ : _ ∧ k_ ≠ gb271))) (fun _ hk => hk.2) (.slice Ao26 y279.length co26)) (fun _ hk => ⟨hk.1.1, ⟨hk.1.2.1, hk.1.2.2.1⟩⟩)⟩, ⟨by (with_reducible repeat (first | refine blk_drewN ?_ _ | refine blk_drew ?_ | refine blk_alloc ?_ _)); refine blk_far ?_ NB269_271.out _; (with_reducible repeat (first | refine blk_drewN ?_ _ | refine blk_drew ?_ | refine blk_alloc ?_ _)); exact BK269.out⟩, ⟨by (with_reducible repeat (first | refine blk_drewN ?_ _ | refine blk_drew ?_ | refine blk_alloc ?_ _)); refine blk_far ?_ NB270_271.out _; (with_reducible repeat (first | refine blk_drewN ?_ _ | refine blk_drew ?_ | refine blk_alloc ?_ _)); exact BK270.out⟩, ⟨by (with_reducible repeat (first | refine blk_drewN ?_ _ | refine blk_drew ?_ | refine blk_alloc ?_ _)); refine blk_put (cs := #[.int .i64 a0_0, .int .i64 a0_1, u272002]) ?_ 2 _ rfl; (with_reducible repeat (first | refine blk_drewN ?_ _ | refine blk_drew ?_ | refine blk_alloc ?_ _)); exact BK271.out⟩, ⟨by repeat (first | (with_reducible first | exact HB.out | apply below_alloc | apply pw_below_drewN | apply below_drew1 | refine below_set ?_ GE269.out | refine below_set ?_ GE270.out | refine below_set ?_ GE271.out | refine below_set ?_ GE273.out) | exact HB.out)⟩⟩
            · rw [if_neg c15] at H
              exact absurd H (by simp)
          · rw [if_neg c13] at H
            exact absurd H (by simp)
        · rw [if_neg c12] at H
          exact absurd H (by simp)
      · rw [if_neg c11] at H
        have c11b0 : decide (x14_1 < (l0_2.length : Int)) = false := decide_eq_false c11
        clear c11
        simp only [Option.some.injEq, Prod.mk.injEq] at H
        obtain ⟨rfl, rfl, rfl⟩ := H
        have hnb28 := NB271_269.out
        have hnc28 := NB269_271.out
        have hnb29 := NB271_270.out
        have hnc29 := NB270_271.out
        have hcz30_0 : wr.cell? ⟨gb271, 0, none⟩ = some (.int .i64 a0_0) := (blk_cell BK271.out 0).trans rfl
        have hcz30_1 : wr.cell? ⟨gb271, 1, none⟩ = some (.int .i64 a0_1) := (blk_cell BK271.out 1).trans rfl
        have hcz30_2 : wr.cell? ⟨gb271, 2, none⟩ = some (u272002) := (blk_cell BK271.out 2).trans rfl
        have hfz30_0 := blk_frozen BK271.out 0
        have hfz30_1 := blk_frozen BK271.out 1
        have hfz30_2 := blk_frozen BK271.out 2
        have hnb31 := NB270_269.out
        have hnc31 := NB269_270.out
        have hcz32_0 : wr.cell? ⟨gb270, 0, none⟩ = some (.int .i64 0) := (blk_cell BK270.out 0).trans rfl
        have hcz32_1 : wr.cell? ⟨gb270, 1, none⟩ = some (.int .i64 0) := (blk_cell BK270.out 1).trans rfl
        have hcz32_2 : wr.cell? ⟨gb270, 2, none⟩ = some (.slice none 0 0) := (blk_cell BK270.out 2).trans rfl
        have hfz32_0 := blk_frozen BK270.out 0
        have hfz32_1 := blk_frozen BK270.out 1
        have hfz32_2 := blk_frozen BK270.out 2
        obtain ⟨Ao33, co33, eo33⟩ := Kd.R_slice HO_272002.out
        subst eo33
        go_wp2
        refine bodyPost_ret (results_cell_row rfl _ _ gb270 44 #[.int .i64 a0_0, .int .i64 a0_1, .slice Ao33 x272002_1.length co33] (0, 0) _ rfl (by (with_reducible repeat (first | refine blk_drewN ?_ _ | refine blk_drew ?_ | refine blk_alloc ?_ _)); refine blk_put (cs := #[.int .i64 a0_0, .int .i64 a0_1, .slice none 0 0]) ?_ 2 _ rfl; (with_reducible repeat (first | refine blk_drewN ?_ _ | refine blk_drew ?_ | refine blk_alloc ?_ _)); refine blk_put (cs := #[.int .i64 a0_0, .int .i64 0, .slice none 0 0]) ?_ 1 _ rfl; (with_reducible repeat (first | refine blk_drewN ?_ _ | refine blk_drew ?_ | refine blk_alloc ?_ _)); refine blk_put (cs := #[.int .i64 0, .int .i64 0, .slice none 0 0]) ?_ 0 _ rfl; (with_reducible repeat (first | refine blk_drewN ?_ _ | refine blk_drew ?_ | refine blk_alloc ?_ _)); exact BK270.out) Try.underlying44 rfl (by kernel_rfl)) rfl ?_
        exact ⟨_, by first | rfl | (simp [errW_none, errW_some] <;> rfl) | (simp [*, errW_none, errW_some] <;> rfl), by (with_reducible repeat (first | apply Kd.R_alloc | apply Kd.R_drewN | apply Kd.R_drew)); exact Kd.R_mono (Kd.R_far (p := ⟨gb270, 2, none⟩) (Kd.R_far (p := ⟨gb270, 1, none⟩) (Kd.R_far (p := ⟨gb270, 0, none⟩) (Kd.R_mono HO_272002.out (fun k_ hk => (⟨hk, hk.2.1⟩ : _ ∧ k_ ≠ gb270))) (fun _ hk => hk.2) (.int .i64 a0_0)) (fun _ hk => hk.2) (.int .i64 a0_1)) (fun _ hk => hk.2) (.slice Ao33 x272002_1.length co33)) (fun _ hk => trivial), by repeat (first | (with_reducible first | exact HB.out | apply below_alloc | apply pw_below_drewN | apply below_drew1 | refine below_set ?_ GE269.out | refine below_set ?_ GE270.out | refine below_set ?_ GE271.out) | exact HB.out)⟩
end Go.Proofs.Ytfhgoebgnilfaaa.I
namespace Go.Proofs.Ytfhgoebgnilfaaa.I
open Go.RowKit Go.Proofs.YtfhgoebgnilfaaaW.PrintWords Go.Proofs.YtfhgoebgnilfaaaW.PrintLast Go.Proofs.YtfhgoebgnilfaaaW.PrintMore
attribute [local go_sem] max2_int min2_int max_two min_two max_three min_three max_four min_four
set_option linter.unusedVariables false
set_option maxRecDepth 100000
set_option linter.unusedSimpArgs false
/-- The functions with their sorts. -/
def mkFuns (l : List S48) (out : List S41) : List S46 := List.zipWith (fun x o => (⟨x.f0, o, x.f2⟩ : S46)) l out
theorem blk_type {w : World} {k q t : Nat} {c c' : Array Value} (h : w.heap[k]? = some (.cells c q (0, 0))) (h' : w.heap[k]? = some (.cells c' t (0, 0))) : q = t := by
  have := h.symm.trans h'
  injection this with this
  injection this
theorem mkFuns_snoc {l : List S48} {out : List S41} {i : Nat} (h : i < l.length) (h2 : i < out.length) : mkFuns (l.take i) (out.take i) ++ [⟨l[i].f0, out[i], l[i].f2⟩] = mkFuns (l.take (i + 1)) (out.take (i + 1)) := by
  have e1 : l.take (i + 1) = l.take i ++ [l[i]] := by rw [List.take_add_one, List.getElem?_eq_getElem h]; rfl
  have e2 : out.take (i + 1) = out.take i ++ [out[i]] := by rw [List.take_add_one, List.getElem?_eq_getElem h2]; rfl
  rw [e1, e2]
  unfold mkFuns
  rw [List.zipWith_append (by rw [List.length_take, List.length_take]; omega)]
  rfl
theorem mkFuns_len {l : List S48} {out : List S41} {i : Nat} (h : i ≤ l.length) (h2 : l.length = out.length) : (mkFuns (l.take i) (out.take i)).length = i := by
  unfold mkFuns
  rw [List.length_zipWith, List.length_take, List.length_take]
  omega
set_option maxHeartbeats 8000000 in
theorem scheme_err (f : Nat) (A0 : Option Addr) (c0 : Nat) (l0 : List S59) (A1 : Option Addr) (c1 : Nat) (l1 : List S48) (out : List S41) (er : Int) (w : World) (hr0 : Kd.C k59 w A0 l0.length l0) (hc0 : l0.length ≤ c0) (hr1 : Kd.C k48 w A1 l1.length l1) (hc1 : l1.length ≤ c1) (h : infer_Sorts.f f l0 l1 = some (out, er)) (he : er ≠ 0) :
    Calls Try.prog 20 #[.slice A0 l0.length c0, .slice A1 l1.length c1] w fun e w' => e = .returned (.tuple #[.agg #[.slice none 0 0, .slice none 0 0], .int .i64 er]) ∧ Below w.heap.size w w' := by
  have hu48 := Try.underlying48
  have hu44 := Try.underlying44
  have hu41 := Try.underlying41
  have hu46 := Try.underlying46
  have hu38 := Try.underlying38
  have HR0 := Aside0.mk hr0
  have HC0 := Aside0.mk hc0
  have HR1 := Aside0.mk hr1
  have HC1 := Aside0.mk hc1
  have H := Aside0.mk h
  have hlen1 : l1.length ≤ 9223372036854775807 := hr1.2.1
  have hne : (er != 0) = true := bne_iff_ne.2 he
  clear hr0 hc0 hr1 hc1 h he
  go_enter Try.func20, Try.ntmps20
  go_wp2_with (
    (with_reducible refine gate_dst (N := 4) rfl ?_)
    refine box_event ?hg (N := 4) ?hd (cs := #[.slice none 0 0, .slice none 0 0]) (t := 38) ?hr ?_
    (case hd => rfl)
    (case hg => rfl)
    (case hr => first | (go_simp; done) | (go_simp; rfl))
    intro g4 hg4 w2 hbox hb2
    have S4 := Aside0.mk hbox
    have HB2 := Aside0.mk hb2
    have Hg4 := Aside0.mk hg4
    clear hbox hb2 hg4)
  (with_reducible refine (infer_Sorts.calls f A0 c0 l0 A1 c1 l1 out er w2 (Kd.C_below HR0.out HB2.out) HC0.out (Kd.C_below HR1.out HB2.out) HC1.out H.out).mono ?_)
  rintro e w3 ⟨v, rfl, hR3, hb3⟩
  obtain ⟨Ao, co, rfl⟩ := Kd.R_slice hR3
  have S43 := Aside0.mk (blk_below S4.out hb3)
  have HB3 := Aside0.mk (below_step HB2.out hb3)
  clear hb3 hR3 S4
  have hz0 : w3.cell? ⟨g4, 0, none⟩ = some (.slice none 0 0) := (blk_cell S43.out 0).trans rfl
  have hz1 : w3.cell? ⟨g4, 1, none⟩ = some (.slice none 0 0) := (blk_cell S43.out 1).trans rfl
  have hf0 := blk_frozen S43.out 0
  have hf1 := blk_frozen S43.out 1
  have HG := Aside0.mk (by have := Hg4.out; omega : w.heap.size ≤ g4)
  go_wp2_with fail
  refine bodyPost_ret (results_ct rfl _ _ g4 38 #[.slice none 0 0, .slice none 0 0] (0, 0) _ rfl (blk_put (blk_put S43.out 0 (.slice none 0 0) rfl) 1 (.slice none 0 0) rfl) Try.underlying38 rfl (by kernel_rfl)) rfl ?_
  exact ⟨rfl, below_set (below_set HB3.out HG.out) HG.out⟩
set_option maxHeartbeats 8000000 in
theorem scheme_ok (f kc : Nat) (A0 : Option Addr) (c0 : Nat) (l0 : List S59) (A1 : Option Addr) (c1 : Nat) (l1 : List S48) (out : List S41) (w : World) (hr0 : Kd.C k59 w A0 l0.length l0) (hc0 : l0.length ≤ c0) (hr1 : Kd.C k48 w A1 l1.length l1) (hc1 : l1.length ≤ c1) (h : infer_Sorts.f f l0 l1 = some (out, 0))
    (hcp : ∀ x ∈ l1, infer_copied.f kc x.f2.f0 x.f2.f1 x.f2.f2 = some (x.f2.f0, x.f2.f1, x.f2.f2)) (ho : out.length = l1.length) (h24 : l0.length ≤ 24) (h64 : l1.length ≤ 64) :
    Calls Try.prog 20 #[.slice A0 l0.length c0, .slice A1 l1.length c1] w fun e w' => ∃ v1 v2, e = .returned (.tuple #[.agg #[v1, v2], .int .i64 0]) ∧ Kd.R k59 59 w' w.heap.size (fun _ => True) v1 l0 ∧ Kd.R k46 46 w' w.heap.size (fun _ => True) v2 (mkFuns l1 out) ∧ Below w.heap.size w w' := by
  have hu48 := Try.underlying48
  have hu44 := Try.underlying44
  have hu41 := Try.underlying41
  have hu46 := Try.underlying46
  have hu38 := Try.underlying38
  have HR0 := Aside0.mk hr0
  have HC0 := Aside0.mk hc0
  have HR1 := Aside0.mk hr1
  have HC1 := Aside0.mk hc1
  have H := Aside0.mk h
  have hlen1 : l1.length ≤ 9223372036854775807 := hr1.2.1
  have HCP := Aside0.mk hcp
  clear hr0 hc0 hr1 hc1 h hcp
  go_enter Try.func20, Try.ntmps20
  go_wp2_with (
    (with_reducible refine gate_dst (N := 4) rfl ?_)
    refine box_event ?hg (N := 4) ?hd (cs := #[.slice none 0 0, .slice none 0 0]) (t := 38) ?hr ?_
    (case hd => rfl)
    (case hg => rfl)
    (case hr => first | (go_simp; done) | (go_simp; rfl))
    intro g4 hg4 w2 hbox hb2
    have S4 := Aside0.mk hbox
    have HB2 := Aside0.mk hb2
    have Hg4 := Aside0.mk hg4
    clear hbox hb2 hg4)
  (with_reducible refine (infer_Sorts.calls f A0 c0 l0 A1 c1 l1 out 0 w2 (Kd.C_below HR0.out HB2.out) HC0.out (Kd.C_below HR1.out HB2.out) HC1.out H.out).mono ?_)
  rintro e w3 ⟨v, rfl, hR3, hb3⟩
  obtain ⟨Ao, co, rfl⟩ := Kd.R_slice hR3
  have S43 := Aside0.mk (blk_below S4.out hb3)
  have HB3 := Aside0.mk (below_step HB2.out hb3)
  have HRo := Aside0.mk (Kd.R_lower hR3 HB2.out.size)
  clear hb3 hR3 S4
  go_wp2_with (at_builtin; refine holdI5 ?_)
  unfold HoldI5
  refine Kd.R_append_rows k59 (Rr := k59.K w3) (w0 := w) w.heap.size rfl (.const (.slice none 0 0)) (.tmp 21) 22 59 (.agg #[.string ⟨#[]⟩, .int .i64 0]) 24 rfl Try.underlying22 (by kernel_rfl) rfl (by decide) (by omega) (.slice none 0 0) [] l0 A0 l0.length c0 (fun _ => True) (fun _ => False) rfl rfl ?aO ?aR ?aK (fun _ hk => hk.elim) (fun _ _ => trivial) HB3.out HB3.out.size (by simp only [List.length_nil]; omega) ?_
  (case aO => exact Kd.R_nil _ _ _ _ _)
  (case aR => exact Kd.C_below HR0.out HB3.out)
  (case aK => intro x cs hx; rw [k59_open hx]; exact k59_mkM _ _ _ x)
  intro vs w4 hs4 hb4 hg4 _
  rw [List.nil_append] at hs4
  obtain ⟨As, cs, rfl⟩ := Kd.R_slice hs4
  have S44 := Aside0.mk (blk_grown S43.out hg4 (by simp [Value.ownBlock]))
  have HB4 := Aside0.mk hb4
  have HRs := Aside0.mk hs4
  have HRo4 := Aside0.mk (Kd.R_grown HRo.out hg4 (fun k _ he => by simp [Value.ownBlock] at he))
  clear hs4 hb4 hg4 HRo S43 HB3
  go_upto_region 5 with (
    (with_reducible refine gate_dst (N := 8) rfl ?_)
    refine box_event ?hg (N := 8) ?hd (cs := #[.slice none 0 0, .slice none 0 0]) (t := 38) ?hr ?_
    (case hd => rfl)
    (case hg => rfl)
    (case hr => first | (go_simp; done) | (go_simp; rfl))
    intro g8 hg8 w5 hbox hb5
    have hbw := below_set (g := g8) (j := 1) (v := .slice none 0 0) (below_set (g := g8) (j := 0) (v := .slice As l0.length cs) hb5 (Nat.le_of_eq hg8.symm)) (Nat.le_of_eq hg8.symm)
    have hcz0 := (blk_cell hbox 0).trans rfl
    have hcz1 := (blk_cell hbox 1).trans rfl
    have hfz0 := blk_frozen hbox 0
    have hfz1 := blk_frozen hbox 1
    have S8 := Aside0.mk (blk_put (cs' := #[.slice As l0.length cs, .slice none 0 0]) (blk_put (cs' := #[.slice As l0.length cs, .slice none 0 0]) hbox 0 (.slice As l0.length cs) rfl) 1 (.slice none 0 0) rfl)
    have Hbw := Aside0.mk hbw
    have Hg8 := Aside0.mk (show w.heap.size ≤ g8 from by have := HB4.out.size; omega)
    have H48 := Aside0.mk (show g4 ≠ g8 from by have := blk_lt S44.out; omega)
    clear hbox hb5 hg8 hbw)
  generalize ((w5.setCell { block := g8, off := 0 } (.slice As l0.length cs)).setCell { block := g8, off := 1 } (.slice none 0 0)) = w6 at *
  have S46 := Aside0.mk (blk_below S44.out Hbw.out)
  have HB6 := Aside0.mk (below_step HB4.out Hbw.out)
  have HRs6 := Aside0.mk (Kd.R_below HRs.out Hbw.out)
  have HRo6 := Aside0.mk (Kd.R_below HRo4.out Hbw.out)
  have Hho := Aside0.mk ho
  clear hcz0 hcz1 hfz0 hfz1 S44 HB4 HRs HRo4 Hbw ho
  go_wp2_with fail
  go_loopg [26] l1.length (fun kq v26 wr => ∃ (i : Nat) (Af : Option Addr) (cf : Nat), v26 = .int .i64 (i : Int) ∧ Aside0 (i + kq = l1.length) ∧ Aside0 (Kd.R k46 46 wr w.heap.size (fun _ => True) (.slice Af i cf) (mkFuns (l1.take i) (out.take i))) ∧ Aside0 (Kd.R k59 59 wr w.heap.size (fun _ => True) (.slice As l0.length cs) l0) ∧ Aside0 (Kd.R k41 41 wr w.heap.size (fun _ => True) (.slice Ao out.length co) out) ∧ Aside0 (wr.heap[g8]? = some (.cells #[.slice As l0.length cs, .slice Af i cf] 38 (0, 0))) ∧ Aside0 (wr.heap[g4]? = some (.cells #[.slice none 0 0, .slice none 0 0] 38 (0, 0))) ∧ Aside0 (Below w.heap.size w wr))
  case atStart => exact ⟨0, none, 0, rfl, ⟨by omega⟩, ⟨Kd.R_nil _ _ _ _ _⟩, HRs6, HRo6, S8, S46, HB6⟩
  case round =>
    clear HRs6 HRo6 S8 S46 HB6
    obtain ⟨i, Af, cf, rfl, Hi, HRf, HRs, HRo, S8, S4, HB⟩ := hrel
    by_cases hlt : i < l1.length
    · cases gk with
      | zero => exact absurd Hi.out (by omega)
      | succ k1 =>
      have hlo : i < out.length := by rw [Hho.out]; exact hlt
      have Hlt := Aside0.mk hlt
      have HSN := Aside0.mk (mkFuns_snoc hlt hlo)
      obtain ⟨ad0, A4, c4, he, hx1, hx2, hx3, hx4, hx5, hl4, hC4⟩ := at_T48 HR1.out (i : Int) (by omega) (by omega)
      cases he
      replace hx1 := (HB.out.cell (World.block_lt_of_cell? w _ hx1)).trans hx1
      replace hx2 := (HB.out.cell (World.block_lt_of_cell? w _ hx2)).trans hx2
      replace hx3 := (HB.out.cell (World.block_lt_of_cell? w _ hx3)).trans hx3
      replace hx4 := (HB.out.cell (World.block_lt_of_cell? w _ hx4)).trans hx4
      replace hx5 := (HB.out.cell (World.block_lt_of_cell? w _ hx5)).trans hx5
      rw [Int.toNat_natCast] at hx1 hx2 hx3 hx4 hx5
      have Hl4 := Aside0.mk hl4
      have HC4 := Aside0.mk hC4
      have hxe : rd_T48 l1 (i : Int) = l1[i] := by unfold rd_T48; rw [Int.toNat_natCast, List.getD_eq_getElem?_getD, List.getElem?_eq_getElem hlt]; rfl
      have HCPi := Aside0.mk (HCP.out l1[i] (List.getElem_mem hlt))
      rw [hxe] at hx1 hx2 hx3 hx4 hx5
      have HC4' := HC4.out
      have Hl4' := Hl4.out
      rw [hxe] at HC4' Hl4'
      have HC5 := Aside0.mk HC4'
      have Hl5 := Aside0.mk Hl4'
      clear hl4 hC4 hxe HC4 Hl4 HC4' Hl4'
      have p1 : (0 ≤ (i : Int)) = True := eq_true (by omega)
      have p2 : ((i : Int) < (l1.length : Int)) = True := eq_true (by omega)
      have p3 : (i < l1.length) = True := eq_true (by omega)
      have q2 : ((i : Int) < (out.length : Int)) = True := eq_true (by omega)
      have q3 : (i < out.length) = True := eq_true (by omega)
      generalize l1[i] = x at *
      go_upto_region 8 with (
          (with_reducible refine gate_dst (N := 10) rfl ?_)
          refine box_event ?hg (N := 10) ?hd (cs := #[.string (⟨#[]⟩ : ByteArray), .int .i64 0, .int .i64 0, .int .i64 0, .slice none 0 0]) (t := 48) ?hr ?_
          (case hd => rfl)
          (case hg => rfl)
          (case hr => first | (go_simp; done) | (go_simp; rfl))
          intro gi hgi w6 hbox hb3
          have hgw : wr.heap.size ≤ gi := by omega
          have hbw := below_set (g := gi) (j := 4) (v := .slice A4 x.f2.f2.length c4) (below_set (g := gi) (j := 3) (v := .int .i64 x.f2.f1) (below_set (g := gi) (j := 2) (v := .int .i64 x.f2.f0) (below_set (g := gi) (j := 1) (v := .int .i64 x.f1) (below_set (g := gi) (j := 0) (v := .string x.f0) hb3 hgw) hgw) hgw) hgw) hgw
          have Hbw := Aside0.mk hbw
          have Hgi := Aside0.mk (blk_put (cs' := #[.string x.f0, .int .i64 x.f1, .int .i64 x.f2.f0, .int .i64 x.f2.f1, .slice A4 x.f2.f2.length c4]) (blk_put (cs' := #[.string x.f0, .int .i64 x.f1, .int .i64 x.f2.f0, .int .i64 x.f2.f1, .slice none 0 0]) (blk_put (cs' := #[.string x.f0, .int .i64 x.f1, .int .i64 x.f2.f0, .int .i64 0, .slice none 0 0]) (blk_put (cs' := #[.string x.f0, .int .i64 x.f1, .int .i64 0, .int .i64 0, .slice none 0 0]) (blk_put (cs' := #[.string x.f0, .int .i64 0, .int .i64 0, .int .i64 0, .slice none 0 0]) (hbox) 0 (.string x.f0) rfl) 1 (.int .i64 x.f1) rfl) 2 (.int .i64 x.f2.f0) rfl) 3 (.int .i64 x.f2.f1) rfl) 4 (.slice A4 x.f2.f2.length c4) rfl)
          have hcz0 := (blk_cell hbox 0).trans rfl
          have hfz0 := blk_frozen hbox 0
          have hcz1 := (blk_cell hbox 1).trans rfl
          have hfz1 := blk_frozen hbox 1
          have hcz2 := (blk_cell hbox 2).trans rfl
          have hfz2 := blk_frozen hbox 2
          have hcz3 := (blk_cell hbox 3).trans rfl
          have hfz3 := blk_frozen hbox 3
          have hcz4 := (blk_cell hbox 4).trans rfl
          have hfz4 := blk_frozen hbox 4
          clear hbox hb3 hgi hgw hbw)
      clear hcz0 hcz1 hcz2 hcz3 hcz4 hfz0 hfz1 hfz2 hfz3 hfz4 hx1 hx2 hx3 hx4 hx5
      generalize (((((w6.setCell ⟨gi, 0, none⟩ (.string x.f0)).setCell ⟨gi, 1, none⟩ (.int .i64 x.f1)).setCell ⟨gi, 2, none⟩ (.int .i64 x.f2.f0)).setCell ⟨gi, 3, none⟩ (.int .i64 x.f2.f1)).setCell ⟨gi, 4, none⟩ (.slice A4 x.f2.f2.length c4)) = wq at *
      obtain ⟨go, cpo, hov, _, _, _⟩ := Kd.R_form HRo.out (by omega)
      injection hov with hov1 _ hov2
      subst hov1 hov2
      obtain ⟨co1, hcl, hM, hcc, _⟩ := Kd.R_elem HRo.out z41 (i : Int) (by omega) (by omega)
      obtain ⟨v0, rfl, hR0⟩ := k41_openM hM
      have hoe : out.getD (i : Int).toNat z41 = out[i] := by rw [Int.toNat_natCast, List.getD_eq_getElem?_getD, List.getElem?_eq_getElem hlo]; rfl
      rw [hoe] at hR0
      generalize out[i] = y at *
      obtain ⟨Av, cv, rfl⟩ := Kd.R_slice hR0
      have hov := hcc 0 _ rfl
      rw [Int.toNat_natCast] at hov
      have hovr : wr.cell? ⟨go, i, none⟩ = some (.slice Av y.f0.length cv) := (congrArg (fun j => wr.cell? ⟨go, j, none⟩) (show i = i * (k41).sz + 0 from by show i = i * 1 + 0; omega)).trans hov
      have hovq := cell_up Hbw.out hovr
      have HR0 := Aside0.mk (Kd.R_below hR0 Hbw.out)
      have HMq := Aside0.mk (Kd.R_below HRf.out Hbw.out)
      have S8q := Aside0.mk (blk_below S8.out Hbw.out)
      have HBq := Aside0.mk (below_step HB.out Hbw.out)
      have n0 : wq.cell? ⟨gi, 0, none⟩ = some (.string x.f0) := (blk_cell Hgi.out 0).trans rfl
      have n2 : wq.cell? ⟨gi, 2, none⟩ = some (.int .i64 x.f2.f0) := (blk_cell Hgi.out 2).trans rfl
      have n3 : wq.cell? ⟨gi, 3, none⟩ = some (.int .i64 x.f2.f1) := (blk_cell Hgi.out 3).trans rfl
      have n4 : wq.cell? ⟨gi, 4, none⟩ = some (.slice A4 x.f2.f2.length c4) := (blk_cell Hgi.out 4).trans rfl
      have m1 : wq.cell? ⟨g8, 1, none⟩ = some (.slice Af i cf) := (blk_cell S8q.out 1).trans rfl
      clear hcc hM hcl hov hovr hR0 hoe
      go_region_law
        (first
          | (refine Kd.R_append_step k46 (w0 := w) w.heap.size rfl (.tmp 32) (.tmp 43) 36 46 (.agg #[.string ⟨#[]⟩, .slice none 0 0, .int .i64 0, .int .i64 0, .slice none 0 0]) 80 rfl Try.underlying36 (by kernel_rfl) rfl (by decide) (by omega) (.slice Af i cf) (mkFuns (l1.take i) (out.take i)) ⟨x.f0, y, x.f2⟩ [.string x.f0, .slice Av y.f0.length cv, .int .i64 x.f2.f0, .int .i64 x.f2.f1, v4] (fun _ => True) (fun k => ∃ q cells, q ≠ 46 ∧ wA.heap[k]? = some (.cells cells q (0, 0))) rfl rfl (by exact k46_mkM _ _ _ ⟨x.f0, y, x.f2⟩ (Kd.R_mono (Kd.R_bound HR0A.out) (fun k hk => by obtain ⟨_, _, _, q, hq, cells, hc⟩ := hk; refine ⟨q, cells, ?_, hc⟩; rcases List.mem_cons.1 hq with rfl | hq; decide; rw [List.mem_singleton.1 hq]; decide)) (Kd.R_mono (Kd.R_bound HR4A.out) (fun k hk => by obtain ⟨_, _, _, q, hq, cells, hc⟩ := hk; refine ⟨q, cells, ?_, hc⟩; rcases List.mem_cons.1 hq with rfl | hq; decide; rw [List.mem_singleton.1 hq]; decide))) (fun k hk => ⟨trivial, fun he => by obtain ⟨q, cells, hq, hc⟩ := hk; obtain ⟨c2, h2⟩ := Kd.R_typed HRfA.out k he.symm; exact hq (blk_type hc h2)⟩) (fun _ _ => trivial) HRfA.out HBA.out HBA.out.size (by rw [mkFuns_len (by have := Hlt.out; omega) Hho.out.symm]; omega) ?_
             intro v2 w7 hrf hb7 hg7 hat
             rw [HSN.out] at hrf
             obtain ⟨A2, c2, e2⟩ := Kd.R_slice hrf
             rw [mkFuns_len (i := i + 1) Hlt.out Hho.out.symm] at e2
             subst e2
             have tf := Kd.R_typed HRfA.out
             have HRf7 := Aside0.mk hrf
             have HB7 := Aside0.mk hb7
             have HRs7 := Aside0.mk (Kd.R_over' HRsA.out tf (by decide) hg7)
             have HRo7 := Aside0.mk (Kd.R_over' HRoA.out tf (by decide) hg7)
             have S87 := Aside0.mk (blk_grownT S8A.out hg7 (fun k hk => by obtain ⟨c, hc⟩ := tf k hk; exact ⟨46, c, by decide, hc⟩))
             have S47 := Aside0.mk (blk_grownT S4A.out hg7 (fun k hk => by obtain ⟨c, hc⟩ := tf k hk; exact ⟨46, c, by decide, hc⟩))
             have Hgi7 := Aside0.mk (blk_grownT HgiA.out hg7 (fun k hk => by obtain ⟨c, hc⟩ := tf k hk; exact ⟨46, c, by decide, hc⟩))
             have d0 : w7.cell? ⟨gi, 0, none⟩ = some (.string x.f0) := (blk_cell Hgi7.out 0).trans rfl
             have d2 : w7.cell? ⟨gi, 2, none⟩ = some (.int .i64 x.f2.f0) := (blk_cell Hgi7.out 2).trans rfl
             have d3 : w7.cell? ⟨gi, 3, none⟩ = some (.int .i64 x.f2.f1) := (blk_cell Hgi7.out 3).trans rfl
             have d4 : w7.cell? ⟨gi, 4, none⟩ = some (.slice A4 x.f2.f2.length c4) := (blk_cell Hgi7.out 4).trans rfl
             have d5 : w7.cell? ⟨go, i, none⟩ = some (.slice Av y.f0.length cv) := (World.cell?_of_block (hg7.block go (World.block_lt_of_cell? wA _ a5) (fun he => by obtain ⟨c, hc⟩ := tf go he.symm; obtain ⟨c', hc'⟩ := Kd.R_typed HRoA.out go (by simp [Value.ownBlock]); exact absurd (blk_type hc hc') (by decide)))).trans a5
             have d6 : w7.cell? ⟨g8, 1, none⟩ = some (.slice Af i cf) := (blk_cell S87.out 1).trans rfl
             have d7 : w7.frozen? ⟨g8, 1, none⟩ = false := blk_frozen S87.out 1
             have e1 : g8 ≠ gi := blk_ne S87.out Hgi7.out (by decide)
             have e2 : g8 ≠ go := fun he => (by obtain ⟨c', hc'⟩ := Kd.R_typed HRo7.out go (by simp [Value.ownBlock]); rw [← he] at hc'; exact absurd (blk_type hc' S87.out) (by decide))
             clear hrf hb7 hg7 hat tf a0 a2 a3 a4 a5 a6 a7)
          | (go_simp
             go_at_call 54
             (with_reducible refine (infer_copied.calls kc x.f2.f0 x.f2.f1 A4 c4 x.f2.f2 x.f2.f0 x.f2.f1 x.f2.f2 _ (Kd.C_below HC5.out (below_drew HBq.out)) Hl5.out HCPi.out).mono ?_)
             rintro e wA ⟨v4, rfl, hR4, hbA⟩
             have HRfA := Aside0.mk (Kd.R_below (Kd.R_drew HMq.out) hbA)
             have HR0A := Aside0.mk (Kd.R_below (Kd.R_drew HR0.out) hbA)
             have HBA := Aside0.mk (below_step (below_drew HBq.out) hbA)
             have HbwA := Aside0.mk (below_step (below_drew Hbw.out) hbA)
             have HR4A := Aside0.mk (Kd.R_lower hR4 (show w.heap.size ≤ wq.drew.heap.size from HBq.out.size))
             have S8A := Aside0.mk (blk_below (blk_drew S8q.out) hbA)
             have a0 := cell_up hbA (show wq.drew.cell? _ = _ from n0)
             have a2 := cell_up hbA (show wq.drew.cell? _ = _ from n2)
             have a3 := cell_up hbA (show wq.drew.cell? _ = _ from n3)
             have a4 := cell_up hbA (show wq.drew.cell? _ = _ from n4)
             have a5 := cell_up hbA (show wq.drew.cell? _ = _ from hovq)
             have a6 := cell_up hbA (show wq.drew.cell? _ = _ from m1)
             have a7 : ∀ o : Obj, (wA.alloc o).cell? ⟨g8, 1, none⟩ = some (.slice Af i cf) := fun o => (blk_cell (blk_alloc S8A.out o) 1).trans rfl
             have HgiA := Aside0.mk (blk_below (blk_drew Hgi.out) hbA)
             have HRsA := Aside0.mk (Kd.R_below HRs.out HbwA.out)
             have HRoA := Aside0.mk (Kd.R_below HRo.out HbwA.out)
             have S4A := Aside0.mk (blk_below S4.out HbwA.out)
             clear hR4 hbA))
      all_goals (
        generalize hw8 : w7.setCell { block := g8, off := 1 } (.slice A2 (i + 1) c2) = w8 at *
        have HRf8 := Aside0.mk (show Kd.R k46 46 w8 w.heap.size (fun _ => True) (.slice A2 (i + 1) c2) _ from by rw [← hw8]; exact Kd.R_set HRf7.out S87.out (by decide) 1 _)
        have HRs8 := Aside0.mk (show Kd.R k59 59 w8 w.heap.size (fun _ => True) (.slice As l0.length cs) l0 from by rw [← hw8]; exact Kd.R_set HRs7.out S87.out (by decide) 1 _)
        have HRo8 := Aside0.mk (show Kd.R k41 41 w8 w.heap.size (fun _ => True) (.slice (some ⟨go, 0, none⟩) out.length co) out from by rw [← hw8]; exact Kd.R_set HRo7.out S87.out (by decide) 1 _)
        have S88 := Aside0.mk (show w8.heap[g8]? = some (.cells #[.slice As l0.length cs, .slice A2 (i + 1) c2] 38 (0, 0)) from by rw [← hw8]; exact blk_put S87.out 1 _ rfl)
        have S48 := Aside0.mk (show w8.heap[g4]? = some (.cells #[.slice none 0 0, .slice none 0 0] 38 (0, 0)) from by rw [← hw8]; exact blk_far (p := ⟨g8, 1, none⟩) S47.out (fun he => H48.out he) _)
        have HB8 := Aside0.mk (show Below w.heap.size w w8 from by rw [← hw8]; exact below_set HB7.out Hg8.out)
        clear hw8 d0 d2 d3 d4 d5 d6 d7 n0 n2 n3 n4 m1 hovq
        go_wp2_with fail
        go_roundg k1
        case measure => omega
        case rel => exact ⟨i + 1, A2, c2, by go_num, ⟨by have := Hi.out; omega⟩, HRf8, HRs8, HRo8, S88, S48, HB8⟩)
    · have hie : i = l1.length := by have := Hi.out; omega
      subst hie
      have hq0 : wr.cell? ⟨g8, 0, none⟩ = some (.slice As l0.length cs) := (blk_cell S8.out 0).trans rfl
      have hq1 : wr.cell? ⟨g8, 1, none⟩ = some (.slice Af l1.length cf) := (blk_cell S8.out 1).trans rfl
      have hz0 : wr.cell? ⟨g4, 0, none⟩ = some (.slice none 0 0) := (blk_cell S4.out 0).trans rfl
      have hz1 : wr.cell? ⟨g4, 1, none⟩ = some (.slice none 0 0) := (blk_cell S4.out 1).trans rfl
      have hf0 := blk_frozen S4.out 0
      have hf1 := blk_frozen S4.out 1
      have HRf' := HRf.out
      rw [List.take_length, List.take_of_length_le (by rw [Hho.out]; exact Nat.le_refl _)] at HRf'
      have HF := Aside0.mk HRf'
      have HG := Aside0.mk (by have := Hg4.out; omega : w.heap.size ≤ g4)
      clear HRf' HRf
      go_wp2_with fail
      refine bodyPost_ret (results_ct rfl _ _ g4 38 #[.slice As l0.length cs, .slice Af l1.length cf] (0, 0) _ rfl (blk_put (blk_put S4.out 0 (.slice As l0.length cs) rfl) 1 (.slice Af l1.length cf) rfl) Try.underlying38 rfl (by kernel_rfl)) rfl ?_
      have S4' := blk_put (cs' := #[.slice As l0.length cs, .slice none 0 0]) S4.out 0 (.slice As l0.length cs) rfl
      exact ⟨_, _, rfl, Kd.R_set (Kd.R_set HRs.out S4.out (by decide) 0 _) S4' (by decide) 1 _, Kd.R_set (Kd.R_set HF.out S4.out (by decide) 0 _) S4' (by decide) 1 _, below_set (below_set HB.out HG.out) HG.out⟩
end Go.Proofs.Ytfhgoebgnilfaaa.I
namespace Go.Proofs.Ytfhgoebgnilfaaa.I
open Go.RowKit Go.Proofs.YtfhgoebgnilfaaaW.PrintWords Go.Proofs.YtfhgoebgnilfaaaW.PrintLast Go.Proofs.YtfhgoebgnilfaaaW.PrintMore
attribute [local go_sem] max2_int min2_int max_two min_two max_three min_three max_four min_four
set_option linter.unusedVariables false
set_option maxRecDepth 100000
set_option linter.unusedSimpArgs false
def HoldX (p : Prop) : Prop := p
theorem holdX {p : Prop} (h : HoldX p) : p := h
/-- The sort of a head: the sorts of its arguments. -/
def hdF (sy : List S59) (fu pa : List S41) (k n : Int) : Option (List S41) :=
  if n < 0 then none else if k = 0 then (if n < (pa.length : Int) then some (rd_T41 pa n).f0 else none) else if k = 1 then (if n < (fu.length : Int) then some (rd_T41 fu n).f0 else none) else if k = 2 then (if n < (sy.length : Int) then some (List.replicate (rd_T59 sy n).f1.toNat z41) else none) else none
theorem infoS41 : (Try.prog.info? 41).map (fun i => (i.zero, i.size, i.bytes)) = some (some (.agg #[.slice none 0 0]), 1, 24) := by kernel_rfl
theorem make_sorts (n : Nat) (hn : n ≤ 1000000) : ∃ ob : Obj, (∀ w : World, (Instr.makeSlice 31 (.int .i64 (n : Int)) (.int .i64 (n : Int))).run Try.prog w = .ok (.slice (some ⟨w.heap.size, 0, none⟩) n n) (w.alloc ob)) ∧
    (∀ (w : World) (b : Nat), b ≤ w.heap.size → Kd.R k41 41 (w.alloc ob) b (fun k => w.heap.size ≤ k) (.slice (some ⟨w.heap.size, 0, none⟩) n n) (List.replicate n z41)) := by
  obtain ⟨i0, hi, hzz⟩ := Option.map_eq_some_iff.1 infoS41
  simp only [Prod.mk.injEq] at hzz
  obtain ⟨hz0, hz1, hz2⟩ := hzz
  refine ⟨.cells (madeCells (Value.agg #[.slice none 0 0]).cells (n * 1)) 41, fun w => ?_, fun w b hb => ?_⟩
  · have h := run_make (P := Try.prog) (w := w) 31 41 i0 (.agg #[.slice none 0 0]) Try.underlying31 hi hz0 .i64 .i64 (n : Int) (n : Int) (by omega) (by omega) (by rw [hz2]; omega) (by omega)
    rw [hz1, Int.toNat_natCast] at h
    exact h
  · have hr : Reps (k41.M w b (fun _ => False)) k41.sz (List.replicate n z41) (madeCells (Value.agg #[.slice none 0 0]).cells (n * 1)).toList := Kd.reps_made (R := k41.M w b (fun _ => False)) (z := .agg #[.slice none 0 0]) (size := 1) (z0 := z41) rfl (by decide) (k41_mkM w b _ z41 (Kd.R_nil _ _ _ _ _)) n
    have h := OwnRow.lit (e := 41) w b (hr.imp_ (R' := k41.M (w.alloc (.cells (madeCells (Value.agg #[.slice none 0 0]).cells (n * 1)) 41)) b (fun k => w.heap.size ≤ k ∧ some k ≠ (Value.slice (some ⟨w.heap.size, 0, none⟩) n n).ownBlock)) (fun p c hp => k41.M_mono (fun _ hk => hk.elim) (Kd.M_below hp (below_alloc (Below.refl _ _) _)))) hb (by rw [List.length_replicate]; omega)
    rw [List.length_replicate] at h
    refine ⟨fun k hk => ?_, ?_⟩
    · have : w.heap.size = k := by simpa [Value.ownBlock] using hk
      omega
    · simpa using h
/-- An element of a list of sorts that is read. -/
theorem V_at41 {w : World} {B n c : Nat} {P : Nat → Prop} {A : Option Addr} {l : List S41} (h : Kd.V k41 41 w B P (.slice A n c) l) {i : Int} (h0 : 0 ≤ i) (h1 : i < (n : Int)) :
    ∃ ad A' c', A = some ad ∧ w.cell? (ad.add i.toNat) = some (.slice A' (rd_T41 l i).f0.length c') ∧ Kd.V k41 41 w B P (.slice A' (rd_T41 l i).f0.length c') (rd_T41 l i).f0 := by
  obtain ⟨ad, A', c', rfl, hx, hl, hi⟩ := at_T41 (Kd.V_reads' h).2.2 i h0 (by have := (Kd.V_reads' h).1; omega)
  obtain ⟨ce, hce, hM, hcc⟩ := Kd.V_get h z41 i h0 h1
  obtain ⟨A2, c2, rfl, l2, g2⟩ := k41_openF hM
  have hv := hcc 0 _ rfl
  rw [Nat.add_zero, show (k41).sz = 1 from rfl, Nat.mul_one] at hv
  have e := Option.some.inj (hv.symm.trans hx)
  injection e with ea _ ec
  rw [ea] at g2
  rw [ec] at l2
  exact ⟨ad, A', c', rfl, hx, Kd.V_mk l2 g2⟩
set_option maxHeartbeats 8000000 in
theorem head_calls (P : Nat → Prop) (A0 : Option Addr) (c0 : Nat) (l0 : List S59) (A1 : Option Addr) (c1 : Nat) (l1 : List S41) (A2 : Option Addr) (c2 : Nat) (l2 : List S41) (k n : Int) (u : Value) (w : World) (hu : u.oneCell' = true)
    (hr0 : Kd.C k59 w A0 l0.length l0) (h1 : Kd.V k41 41 w w.heap.size P (.slice A1 l1.length c1) l1) (h2 : Kd.V k41 41 w w.heap.size P (.slice A2 l2.length c2) l2) (hrk : ∀ x ∈ l0, 0 ≤ x.f1 ∧ x.f1 ≤ 1000000) :
    Calls Try.prog 65 #[.agg #[.slice A0 l0.length c0, .slice A1 l1.length c1, .slice A2 l2.length c2], .agg #[.int .i64 k, .int .i64 n, u]] w fun e w' => ∃ v, e = .returned (.tuple #[.agg #[v], .bool (hdF l0 l1 l2 k n).isSome]) ∧ Kd.V k41 41 w' w.heap.size (fun q => P q ∨ w.heap.size ≤ q) v ((hdF l0 l1 l2 k n).getD []) ∧ Below w.heap.size w w' := by
  have hu105 := Try.underlying105
  have hu44 := Try.underlying44
  have hu41 := Try.underlying41
  have hu59 := Try.underlying59
  have HR0 := Aside0.mk hr0
  have H1 := Aside0.mk (Kd.V_bound h1)
  have H2 := Aside0.mk (Kd.V_bound h2)
  have HK := Aside0.mk hrk
  clear hr0 h1 h2 hrk
  go_enter Try.func65, Try.ntmps65
  go_wp2_with (first
   | ((with_reducible refine gate_dst (N := 2) rfl ?_)
      refine box_event ?hg (N := 2) ?hd (cs := #[.slice A0 l0.length c0, .slice A1 l1.length c1, .slice A2 l2.length c2]) (t := 105) ?hr ?_
      (case hd => rfl)
      (case hg => rfl)
      (case hr => first | (go_simp; done) | (go_simp; rfl))
      intro g2 hg2 w2 hbox hb2
      have S22 := Aside0.mk hbox
      have HB2 := Aside0.mk hb2
      have hw2 : w.heap.size ≤ g2 := by omega
      clear hbox hb2 hg2)
   | ((with_reducible refine gate_dst (N := 3) rfl ?_)
      refine box_event ?hg (N := 3) ?hd (cs := #[.int .i64 k, .int .i64 n, u]) (t := 44) ?hr ?_
      (case hd => rfl)
      (case hg => rfl)
      (case hr => first | (go_simp; done) | (go_simp; rfl))
      intro g3 hg3 w3 hbox hb3
      have hn32 : g3 ≠ g2 := by have := blk_lt S22.out; omega
      have hw3 : w.heap.size ≤ g3 := by have := HB2.out.size; omega
      have S23 := Aside0.mk (blk_below S22.out hb3)
      have S33 := Aside0.mk hbox
      have HB3 := Aside0.mk (below_step HB2.out hb3)
      clear hbox hb3 hg3 S22 HB2)
   | ((with_reducible refine gate_dst (N := 4) rfl ?_)
      refine box_event ?hg (N := 4) ?hd (cs := #[.slice none 0 0]) (t := 41) ?hr ?_
      (case hd => rfl)
      (case hg => rfl)
      (case hr => first | (go_simp; done) | (go_simp; rfl))
      intro g4 hg4 w4 hbox hb4
      have hn42 : g4 ≠ g2 := by have := blk_lt S23.out; omega
      have hn43 : g4 ≠ g3 := by have := blk_lt S33.out; omega
      have hw4 : w.heap.size ≤ g4 := by have := HB3.out.size; omega
      have S24 := Aside0.mk (blk_below S23.out hb4)
      have S34 := Aside0.mk (blk_below S33.out hb4)
      have S44 := Aside0.mk hbox
      have HB4 := Aside0.mk (below_step HB3.out hb4)
      have hlt4 : g4 < w4.heap.size := blk_lt hbox
      clear hbox hb4 hg4 S23 S33 HB3
      refine holdX ?_))
  unfold HoldX
  have HR4 := Aside0.mk (Kd.C_below HR0.out HB4.out)
  have V1 := Aside0.mk (Kd.V_below H1.out HB4.out)
  have V2 := Aside0.mk (Kd.V_below H2.out HB4.out)
  have a0 : w4.cell? ⟨g2, 0, none⟩ = some (.slice A0 l0.length c0) := (blk_cell S24.out 0).trans rfl
  have a1 : w4.cell? ⟨g2, 1, none⟩ = some (.slice A1 l1.length c1) := (blk_cell S24.out 1).trans rfl
  have a2 : w4.cell? ⟨g2, 2, none⟩ = some (.slice A2 l2.length c2) := (blk_cell S24.out 2).trans rfl
  have b0 : w4.cell? ⟨g3, 0, none⟩ = some (.int .i64 k) := (blk_cell S34.out 0).trans rfl
  have b1 : w4.cell? ⟨g3, 1, none⟩ = some (.int .i64 n) := (blk_cell S34.out 1).trans rfl
  have d0 : w4.cell? ⟨g4, 0, none⟩ = some (.slice none 0 0) := (blk_cell S44.out 0).trans rfl
  have df := blk_frozen S44.out 0
  have fin : ∀ (v : Value) (l : List S41) (wq : World), Below w.heap.size w wq → wq.heap[g4]? = some (.cells #[.slice none 0 0] 41 (0, 0)) → Kd.V k41 41 wq w.heap.size (fun q => (P q ∨ w.heap.size ≤ q) ∧ q ≠ g4) v l → Kd.V k41 41 (wq.setCell ⟨g4, 0, none⟩ v) w.heap.size (fun q => P q ∨ w.heap.size ≤ q) v l ∧ Below w.heap.size w (wq.setCell ⟨g4, 0, none⟩ v) := fun v l wq hb hc hv => ⟨Kd.V_mono (Kd.V_far (p := ⟨g4, 0, none⟩) hv (fun _ hk => hk.2) v) (fun _ hk => hk.1), below_set (g := g4) (j := 0) hb hw4⟩
  have nilV : Kd.V k41 41 w4 w.heap.size (fun q => (P q ∨ w.heap.size ≤ q) ∧ q ≠ g4) (.slice none 0 0) ([] : List S41) := Kd.V_nil _ _ _ _ _
  by_cases q1 : n < 0
  · have b : decide (n < 0) = true := decide_eq_true q1
    have e : hdF l0 l1 l2 k n = none := by unfold hdF; rw [if_pos q1]
    go_wp2_with fail
    refine bodyPost_ret (results_ct rfl _ _ g4 41 #[.slice none 0 0] (0, 0) _ rfl (blk_put (cs' := #[.slice none 0 0]) S44.out 0 _ rfl) Try.underlying41 rfl (by kernel_rfl)) rfl ?_
    try rw [e]
    exact ⟨_, rfl, fin _ _ _ HB4.out S44.out nilV⟩
  have bn : decide (n < 0) = false := decide_eq_false q1
  have pn : (0 ≤ n) = True := eq_true (by omega)
  by_cases q2 : k = 0
  · subst q2
    by_cases q3 : n < (l2.length : Int)
    · have b : decide (n < (l2.length : Int)) = true := decide_eq_true q3
      have p3 := eq_true q3
      have e : hdF l0 l1 l2 0 n = some (rd_T41 l2 n).f0 := by unfold hdF; rw [if_neg q1, if_pos rfl, if_pos q3]
      obtain ⟨ad, A', c', rfl, hx, hv⟩ := V_at41 V2.out (by omega) q3
      have HV := Aside0.mk hv
      clear hv
      go_wp2_with fail
      refine bodyPost_ret (results_ct rfl _ _ g4 41 #[.slice A' (rd_T41 l2 n).f0.length c'] (0, 0) _ rfl (blk_put (cs' := #[.slice A' (rd_T41 l2 n).f0.length c']) S44.out 0 _ rfl) Try.underlying41 rfl (by kernel_rfl)) rfl ?_
      try rw [e]
      exact ⟨_, rfl, fin _ _ _ HB4.out S44.out (Kd.V_mono HV.out (fun q hq => ⟨.inl hq.1, by omega⟩))⟩
    · have b : decide (n < (l2.length : Int)) = false := decide_eq_false q3
      have e : hdF l0 l1 l2 0 n = none := by unfold hdF; rw [if_neg q1, if_pos rfl, if_neg q3]
      go_wp2_with fail
      refine bodyPost_ret (results_ct rfl _ _ g4 41 #[.slice none 0 0] (0, 0) _ rfl (blk_put (cs' := #[.slice none 0 0]) S44.out 0 _ rfl) Try.underlying41 rfl (by kernel_rfl)) rfl ?_
      try rw [e]
      exact ⟨_, rfl, fin _ _ _ HB4.out S44.out nilV⟩
  have bk : (k == 0) = false := beq_eq_false_iff_ne.2 q2
  by_cases q4 : k = 1
  · subst q4
    clear bk
    by_cases q3 : n < (l1.length : Int)
    · have b : decide (n < (l1.length : Int)) = true := decide_eq_true q3
      have p3 := eq_true q3
      have e : hdF l0 l1 l2 1 n = some (rd_T41 l1 n).f0 := by unfold hdF; rw [if_neg q1, if_neg q2, if_pos rfl, if_pos q3]
      obtain ⟨ad, A', c', rfl, hx, hv⟩ := V_at41 V1.out (by omega) q3
      have HV := Aside0.mk hv
      clear hv
      go_wp2_with fail
      refine bodyPost_ret (results_ct rfl _ _ g4 41 #[.slice A' (rd_T41 l1 n).f0.length c'] (0, 0) _ rfl (blk_put (cs' := #[.slice A' (rd_T41 l1 n).f0.length c']) S44.out 0 _ rfl) Try.underlying41 rfl (by kernel_rfl)) rfl ?_
      try rw [e]
      exact ⟨_, rfl, fin _ _ _ HB4.out S44.out (Kd.V_mono HV.out (fun q hq => ⟨.inl hq.1, by omega⟩))⟩
    · have b : decide (n < (l1.length : Int)) = false := decide_eq_false q3
      have e : hdF l0 l1 l2 1 n = none := by unfold hdF; rw [if_neg q1, if_neg q2, if_pos rfl, if_neg q3]
      go_wp2_with fail
      refine bodyPost_ret (results_ct rfl _ _ g4 41 #[.slice none 0 0] (0, 0) _ rfl (blk_put (cs' := #[.slice none 0 0]) S44.out 0 _ rfl) Try.underlying41 rfl (by kernel_rfl)) rfl ?_
      try rw [e]
      exact ⟨_, rfl, fin _ _ _ HB4.out S44.out nilV⟩
  have bk1 : (k == 1) = false := beq_eq_false_iff_ne.2 q4
  by_cases q5 : k = 2
  · subst q5
    clear bk bk1
    by_cases q3 : n < (l0.length : Int)
    · have b : decide (n < (l0.length : Int)) = true := decide_eq_true q3
      have p3 := eq_true q3
      have e : hdF l0 l1 l2 2 n = some (List.replicate (rd_T59 l0 n).f1.toNat z41) := by unfold hdF; rw [if_neg q1, if_neg q2, if_neg q4, if_pos rfl, if_pos q3]
      obtain ⟨ad, rfl, hx0, hx1⟩ := at_T59 HR4.out n (by omega) q3
      have hm : rd_T59 l0 n ∈ l0 := by
        unfold rd_T59
        rw [List.getD_eq_getElem?_getD, List.getElem?_eq_getElem (by omega : n.toNat < l0.length)]
        exact List.getElem_mem _
      obtain ⟨r0, r1⟩ := HK.out _ hm
      obtain ⟨m, hm⟩ : ∃ m : Nat, (rd_T59 l0 n).f1 = (m : Int) := ⟨(rd_T59 l0 n).f1.toNat, by omega⟩
      rw [hm] at hx1
      rw [hm, Int.toNat_natCast] at e
      obtain ⟨ob, hrun, hrow⟩ := make_sorts m (by omega)
      have HRow := Aside0.mk hrow
      clear hrow
      go_wp2_with fail
      obtain ⟨x, hx⟩ : ∃ x : Value, x = .slice (some ⟨w4.heap.size, 0, none⟩) m m := ⟨_, rfl⟩
      have hs : (w4.setCell ⟨g4, 0, none⟩ x).heap.size = w4.heap.size := World.size_setCell _ _ _
      have hrow := HRow.out (w4.setCell ⟨g4, 0, none⟩ x) w.heap.size (by rw [hs]; exact HB4.out.size)
      rw [hs, ← hx] at hrow
      rw [← hx]
      refine bodyPost_ret (results_ct rfl _ _ g4 41 #[x] (0, 0) _ rfl (blk_alloc (blk_put (cs' := #[x]) S44.out 0 _ rfl) _) Try.underlying41 rfl (by kernel_rfl)) rfl ?_
      try rw [e]
      exact ⟨_, rfl, Kd.V_mono (Kd.R_V hrow) (fun q hq => .inr (by have := HB4.out.size; omega)), below_alloc (below_set (g := g4) (j := 0) HB4.out hw4) _⟩
    · have b : decide (n < (l0.length : Int)) = false := decide_eq_false q3
      have e : hdF l0 l1 l2 2 n = none := by unfold hdF; rw [if_neg q1, if_neg q2, if_neg q4, if_pos rfl, if_neg q3]
      go_wp2_with fail
      refine bodyPost_ret (results_ct rfl _ _ g4 41 #[.slice none 0 0] (0, 0) _ rfl (blk_put (cs' := #[.slice none 0 0]) S44.out 0 _ rfl) Try.underlying41 rfl (by kernel_rfl)) rfl ?_
      try rw [e]
      exact ⟨_, rfl, fin _ _ _ HB4.out S44.out nilV⟩
  have bk2 : (k == 2) = false := beq_eq_false_iff_ne.2 q5
  have e : hdF l0 l1 l2 k n = none := by unfold hdF; rw [if_neg q1, if_neg q2, if_neg q4, if_neg q5]
  go_wp2_with fail
  refine bodyPost_ret (results_ct rfl _ _ g4 41 #[.slice none 0 0] (0, 0) _ rfl (blk_put (cs' := #[.slice none 0 0]) S44.out 0 _ rfl) Try.underlying41 rfl (by kernel_rfl)) rfl ?_
  try rw [e]
  exact ⟨_, rfl, fin _ _ _ HB4.out S44.out nilV⟩
end Go.Proofs.Ytfhgoebgnilfaaa.I
namespace Go.Proofs.Ytfhgoebgnilfaaa.I
open Go.RowKit
set_option linter.unusedVariables false
/-- A finite sort: o, or an arrow. -/
inductive KT where
  | o : KT
  | ar : KT → KT → KT
def KT.sz : KT → Nat
  | .o => 1
  | .ar a b => a.sz + b.sz + 1
/-- The kinds' equations hold. -/
def Sol (s : List KN) (ρ : Nat → KT) : Prop :=
  ∀ (i : Nat) (n : KN), s[i]? = some n → (∀ j, n.lk = some j → ρ i = ρ j) ∧ (n.bs = true → ρ i = .o) ∧ (∀ a t, n.fr = some a → n.tk = some t → ρ i = .ar (ρ a) (ρ t))
/-- A store without rings: a height falls along all pointers. -/
structure WF (s : List KN) (h : Nat → Nat) : Prop where
  rng : ∀ (i : Nat) (n : KN), s[i]? = some n → inS s.length n.lk ∧ inS s.length n.fr ∧ inS s.length n.tk
  arr : ∀ (i : Nat) (n : KN), s[i]? = some n → (n.fr = none ↔ n.tk = none)
  bas : ∀ (i : Nat) (n : KN), s[i]? = some n → n.bs = true → n.fr = none
  lnk : ∀ (i : Nat) (n : KN), s[i]? = some n → n.lk ≠ none → n.bs = false ∧ n.fr = none
  dec : ∀ (i : Nat) (n : KN), s[i]? = some n → (∀ j, n.lk = some j → h j < h i) ∧ (∀ j, n.fr = some j → h j < h i) ∧ (∀ j, n.tk = some j → h j < h i)
theorem fend_le {s : List KN} {i r : Nat} {k k' : Nat} (hk : k ≤ k') (h : fend s k i = some r) : fend s k' i = some r := by
  induction hk with
  | refl => exact h
  | step _ ih => exact fend_s s _ _ _ ih
theorem fwithin_le {s : List KN} {k i : Nat} {b : Bool} {f f' : Nat} (hf : f ≤ f') (h : fwithin s f k i = some b) : fwithin s f' k i = some b := by
  induction hf with
  | refl => exact h
  | step _ ih => exact fwithin_s s _ _ _ _ ih
theorem fjoin_le {s : List KN} {a b : Nat} {r : Bool × List KN} {f f' : Nat} (hf : f ≤ f') (h : fjoin f s a b = some r) : fjoin f' s a b = some r := by
  induction hf with
  | refl => exact h
  | step _ ih => exact fjoin_s _ _ _ _ _ ih
theorem fend_ok {s : List KN} : ∀ {f i r : Nat}, fend s f i = some r → (∃ n, s[r]? = some n ∧ n.lk = none) ∧ (∀ ρ, Sol s ρ → ρ i = ρ r) ∧ (∀ h, WF s h → h r ≤ h i)
  | 0, i, r, e => by simp [fend] at e
  | f + 1, i, r, e => by
    unfold fend at e
    cases hn : s[i]? with
    | none => rw [hn] at e; cases e
    | some n =>
      rw [hn] at e
      simp only at e
      cases hl : n.lk with
      | none =>
        rw [hl] at e
        injection e with e
        subst e
        exact ⟨⟨n, hn, hl⟩, fun _ _ => rfl, fun _ _ => Nat.le_refl _⟩
      | some j =>
        rw [hl] at e
        obtain ⟨h1, h2, h3⟩ := fend_ok e
        exact ⟨h1, fun ρ hs => ((hs i n hn).1 j hl).trans (h2 ρ hs), fun h w => Nat.le_trans (h3 h w) (Nat.le_of_lt ((w.dec i n hn).1 j hl))⟩
theorem fend_tot {s : List KN} {h : Nat → Nat} (w : WF s h) : ∀ (m i : Nat), h i < m → i < s.length → ∃ r, fend s m i = some r
  | 0, i, hm, hi => absurd hm (by omega)
  | m + 1, i, hm, hi => by
    have hn := List.getElem?_eq_getElem hi
    unfold fend
    rw [hn]
    simp only
    cases hl : (s[i]).lk with
    | none => exact ⟨i, rfl⟩
    | some j =>
      have hd := (w.dec i _ hn).1 j hl
      exact fend_tot w m j (by omega) ((w.rng i _ hn).1 j hl)
theorem fend_self {s : List KN} {i : Nat} {n : KN} (f : Nat) (hn : s[i]? = some n) (hl : n.lk = none) : fend s (f + 1) i = some i := by
  unfold fend
  rw [hn]
  simp only
  rw [hl]
theorem fwithin_tot {s : List KN} {h : Nat → Nat} (w : WF s h) (k : Nat) : ∀ (m i : Nat), h i + 2 ≤ m → i < s.length → ∃ b, fwithin s m k i = some b
  | 0, i, hm, hi => absurd hm (by omega)
  | m + 1, i, hm, hi => by
    obtain ⟨r, hr⟩ := fend_tot w m i (by omega) hi
    obtain ⟨⟨n, hn, hl⟩, _, h3⟩ := fend_ok hr
    have hle := h3 h w
    unfold fwithin
    rw [hr]
    simp only
    by_cases hk : k = r
    · rw [if_pos hk]; exact ⟨true, rfl⟩
    · rw [if_neg hk, hn]
      simp only
      cases hf : n.fr with
      | none => exact ⟨false, rfl⟩
      | some a =>
        have ha := (w.dec r n hn).2.1 a hf
        obtain ⟨b, hb⟩ := fwithin_tot w k m a (by omega) ((w.rng r n hn).2.1 a hf)
        simp only
        rw [hb]
        cases b with
        | true => exact ⟨true, rfl⟩
        | false =>
          simp only
          cases ht : n.tk with
          | none => exact absurd ((w.arr r n hn).2 ht) (by rw [hf]; simp)
          | some t =>
            have htd := (w.dec r n hn).2.2 t ht
            exact fwithin_tot w k m t (by omega) ((w.rng r n hn).2.2 t ht)
theorem KT.sz_pos (t : KT) : 0 < t.sz := by cases t <;> simp [KT.sz]
theorem fwithin_sz {s : List KN} {k : Nat} {ρ : Nat → KT} (harr : ∀ (i : Nat) (n : KN), s[i]? = some n → (n.fr = none ↔ n.tk = none)) (hs : Sol s ρ) : ∀ {f i : Nat}, fwithin s f k i = some true → (ρ k).sz ≤ (ρ i).sz
  | 0, i, e => by simp [fwithin] at e
  | f + 1, i, e => by
    unfold fwithin at e
    cases hr : fend s f i with
    | none => rw [hr] at e; cases e
    | some r =>
      rw [hr] at e
      simp only at e
      obtain ⟨_, h2, _⟩ := fend_ok hr
      rw [h2 ρ hs]
      by_cases hk : k = r
      · rw [hk]; exact Nat.le_refl _
      · rw [if_neg hk] at e
        cases hn : s[r]? with
        | none => rw [hn] at e; cases e
        | some n =>
          rw [hn] at e
          simp only at e
          cases hf : n.fr with
          | none => rw [hf] at e; cases e
          | some a =>
            rw [hf] at e
            simp only at e
            cases hw : fwithin s f k a with
            | none => rw [hw] at e; cases e
            | some b =>
              rw [hw] at e
              cases ht : n.tk with
              | none => exact absurd ((harr r n hn).2 ht) (by rw [hf]; simp)
              | some t =>
                have h3 := (hs r n hn).2.2 a t hf ht
                rw [h3, KT.sz]
                cases b with
                | true =>
                  have h4 := fwithin_sz harr hs hw
                  omega
                | false =>
                  simp only at e
                  rw [ht] at e
                  have h4 := fwithin_sz harr hs e
                  omega
/-- k is met on the way down from a kind. -/
inductive Reach (s : List KN) (k : Nat) : Nat → Prop
  | here : Reach s k k
  | lk {i j : Nat} {n : KN} : s[i]? = some n → n.lk = some j → Reach s k j → Reach s k i
  | fr {i j : Nat} {n : KN} : s[i]? = some n → n.fr = some j → Reach s k j → Reach s k i
  | tk {i j : Nat} {n : KN} : s[i]? = some n → n.tk = some j → Reach s k j → Reach s k i
theorem reach_end {s : List KN} {h : Nat → Nat} (w : WF s h) {k : Nat} {nk : KN} (hk : s[k]? = some nk) (hl : nk.lk = none) : ∀ {f i r : Nat}, fend s f i = some r → Reach s k i → Reach s k r
  | 0, i, r, e, _ => by simp [fend] at e
  | f + 1, i, r, e, hr => by
    unfold fend at e
    cases hn : s[i]? with
    | none => rw [hn] at e; cases e
    | some n =>
      rw [hn] at e
      simp only at e
      cases hll : n.lk with
      | none => rw [hll] at e; injection e with e; rw [← e]; exact hr
      | some j =>
        rw [hll] at e
        have hj : Reach s k j := by
          cases hr with
          | here => rw [hk] at hn; injection hn with hn; rw [hn] at hl; rw [hl] at hll; cases hll
          | lk h1 h2 h3 => rw [hn] at h1; injection h1 with h1; rw [← h1] at h2; rw [hll] at h2; injection h2 with h2; rw [h2]; exact h3
          | fr h1 h2 h3 => rw [hn] at h1; injection h1 with h1; rw [← h1] at h2; have := (w.lnk i n hn (by rw [hll]; simp)).2; rw [this] at h2; cases h2
          | tk h1 h2 h3 => rw [hn] at h1; injection h1 with h1; rw [← h1] at h2; have h4 := (w.lnk i n hn (by rw [hll]; simp)).2; have := (w.arr i n hn).1 h4; rw [this] at h2; cases h2
        exact reach_end w hk hl e hj
theorem fwithin_false {s : List KN} {h : Nat → Nat} (w : WF s h) {k : Nat} {nk : KN} (hk : s[k]? = some nk) (hl : nk.lk = none) : ∀ {f i : Nat}, fwithin s f k i = some false → ¬ Reach s k i
  | 0, i, e, _ => by simp [fwithin] at e
  | f + 1, i, e, hr => by
    unfold fwithin at e
    cases hre : fend s f i with
    | none => rw [hre] at e; cases e
    | some r =>
      rw [hre] at e
      simp only at e
      obtain ⟨⟨n, hn, hnl⟩, _, _⟩ := fend_ok hre
      have hrr := reach_end w hk hl hre hr
      by_cases hkr : k = r
      · rw [if_pos hkr] at e; cases e
      · rw [if_neg hkr, hn] at e
        simp only at e
        cases hf : n.fr with
        | none =>
          have ht := (w.arr r n hn).1 hf
          cases hrr with
          | here => exact hkr rfl
          | lk h1 h2 h3 => rw [hn] at h1; injection h1 with h1; rw [← h1, hnl] at h2; cases h2
          | fr h1 h2 h3 => rw [hn] at h1; injection h1 with h1; rw [← h1, hf] at h2; cases h2
          | tk h1 h2 h3 => rw [hn] at h1; injection h1 with h1; rw [← h1, ht] at h2; cases h2
        | some a =>
          rw [hf] at e
          simp only at e
          cases hw : fwithin s f k a with
          | none => rw [hw] at e; cases e
          | some b =>
            rw [hw] at e
            cases b with
            | true => cases e
            | false =>
              simp only at e
              cases ht : n.tk with
              | none => rw [ht] at e; cases e
              | some t =>
                rw [ht] at e
                cases hrr with
                | here => exact hkr rfl
                | lk h1 h2 h3 => rw [hn] at h1; injection h1 with h1; rw [← h1, hnl] at h2; cases h2
                | fr h1 h2 h3 => rw [hn] at h1; injection h1 with h1; rw [← h1, hf] at h2; injection h2 with h2; subst h2; exact fwithin_false w hk hl hw h3
                | tk h1 h2 h3 => rw [hn] at h1; injection h1 with h1; rw [← h1, ht] at h2; injection h2 with h2; subst h2; exact fwithin_false w hk hl e h3
/-- How many kinds are still open. -/
def opn (n : KN) : Bool := n.lk.isNone && !n.bs && n.fr.isNone
def US (s : List KN) : Nat := s.countP opn
theorem countP_set_lt : ∀ (s : List KN) (i : Nat) (x y : KN), s[i]? = some x → opn x = true → opn y = false → (s.set i y).countP opn < s.countP opn
  | [], i, x, y, h, _, _ => by simp at h
  | z :: s, 0, x, y, h, hx, hy => by
    injection h with h
    subst h
    rw [List.set_cons_zero, List.countP_cons, List.countP_cons, if_pos hx, if_neg (by rw [hy]; simp)]
    omega
  | z :: s, i + 1, x, y, h, hx, hy => by
    have := countP_set_lt s i x y h hx hy
    rw [List.set_cons_succ, List.countP_cons, List.countP_cons]
    omega
open Classical in
/-- An open kind is linked to one in which it is not. -/
theorem WF.link {s : List KN} {h : Nat → Nat} (w : WF s h) {p q : Nat} {x : KN} (hp : s[p]? = some x) (hxl : x.lk = none) (hxb : x.bs = false) (hxf : x.fr = none) (hq : q < s.length) (hr : ¬ Reach s p q) :
    (∃ h', WF (setlk s p x q) h') ∧ US (setlk s p x q) < US s ∧ ∀ ρ, Sol (setlk s p x q) ρ ↔ Sol s ρ ∧ ρ p = ρ q := by
  have hpl : p < s.length := (List.getElem?_eq_some_iff.1 hp).1
  have hxt := (w.arr p x hp).1 hxf
  have get : ∀ (i : Nat) (n : KN), (setlk s p x q)[i]? = some n → (i = p ∧ n = { x with lk := some q }) ∨ (i ≠ p ∧ s[i]? = some n) := by
    intro i n hn
    unfold setlk at hn
    rw [List.getElem?_set] at hn
    by_cases hip : p = i
    · rw [if_pos hip, if_pos (by omega)] at hn
      injection hn with hn
      exact .inl ⟨hip.symm, hn.symm⟩
    · rw [if_neg hip] at hn
      exact .inr ⟨fun e => hip e.symm, hn⟩
  have len : (setlk s p x q).length = s.length := by unfold setlk; rw [List.length_set]
  refine ⟨⟨fun i => if Reach s p i then h i + h q + 1 else h i, ?_, ?_, ?_, ?_, ?_⟩, ?_, ?_⟩
  · intro i n hn
    rw [len]
    rcases get i n hn with ⟨rfl, rfl⟩ | ⟨_, hn⟩
    · exact ⟨fun j hj => by injection hj with hj; omega, (w.rng i x hp).2.1, (w.rng i x hp).2.2⟩
    · exact w.rng i n hn
  · intro i n hn
    rcases get i n hn with ⟨rfl, rfl⟩ | ⟨_, hn⟩
    · exact w.arr i x hp
    · exact w.arr i n hn
  · intro i n hn
    rcases get i n hn with ⟨rfl, rfl⟩ | ⟨_, hn⟩
    · exact w.bas i x hp
    · exact w.bas i n hn
  · intro i n hn
    rcases get i n hn with ⟨rfl, rfl⟩ | ⟨_, hn⟩
    · exact fun _ => ⟨hxb, hxf⟩
    · exact w.lnk i n hn
  · have down : ∀ (i j : Nat), h j < h i → (Reach s p j → Reach s p i) → (if Reach s p j then h j + h q + 1 else h j) < (if Reach s p i then h i + h q + 1 else h i) := by
      intro i j hlt himp
      by_cases hj : Reach s p j
      · rw [if_pos hj, if_pos (himp hj)]; omega
      · rw [if_neg hj]
        by_cases hi : Reach s p i
        · rw [if_pos hi]; omega
        · rw [if_neg hi]; exact hlt
    intro i n hn
    rcases get i n hn with ⟨rfl, rfl⟩ | ⟨_, hn⟩
    · refine ⟨fun j hj => ?_, fun j hj => ?_, fun j hj => ?_⟩
      · injection hj with hj
        subst hj
        show (if Reach s i q then h q + h q + 1 else h q) < (if Reach s i i then h i + h q + 1 else h i)
        rw [if_neg hr, if_pos Reach.here]
        omega
      · have : x.fr = some j := hj
        rw [hxf] at this
        cases this
      · have : x.tk = some j := hj
        rw [hxt] at this
        cases this
    · exact ⟨fun j hj => down i j ((w.dec i n hn).1 j hj) (fun r => Reach.lk hn hj r), fun j hj => down i j ((w.dec i n hn).2.1 j hj) (fun r => Reach.fr hn hj r), fun j hj => down i j ((w.dec i n hn).2.2 j hj) (fun r => Reach.tk hn hj r)⟩
  · unfold US setlk
    exact countP_set_lt s p x _ hp (by unfold opn; rw [hxl, hxb, hxf]; rfl) (by unfold opn; rfl)
  · intro ρ
    constructor
    · intro hs
      have hq' : ρ p = ρ q := (hs p { x with lk := some q } (by unfold setlk; rw [List.getElem?_set, if_pos rfl, if_pos hpl])).1 q rfl
      refine ⟨fun i n hn => ?_, hq'⟩
      by_cases hip : i = p
      · subst hip
        rw [hp] at hn
        injection hn with hn
        subst hn
        refine ⟨fun j hj => (by rw [hxl] at hj; cases hj), fun hb => (by rw [hxb] at hb; cases hb), fun a t ha _ => (by rw [hxf] at ha; cases ha)⟩
      · exact hs i n (by unfold setlk; rw [List.getElem?_set, if_neg (fun e => hip e.symm)]; exact hn)
    · rintro ⟨hs, hq'⟩ i n hn
      rcases get i n hn with ⟨rfl, rfl⟩ | ⟨_, hn⟩
      · refine ⟨fun j hj => by injection hj with hj; rw [← hj]; exact hq', fun hb => ?_, fun a t ha _ => ?_⟩
        · have : x.bs = true := hb
          rw [hxb] at this
          cases this
        · have : x.fr = some a := ha
          rw [hxf] at this
          cases this
      · exact hs i n hn
/-- What a join comes to. -/
structure Joined (s : List KN) (h : Nat → Nat) (a b : Nat) (r : Bool) (s' : List KN) : Prop where
  yes : r = true → ∃ h', WF s' h' ∧ ((s' = s ∧ h' = h) ∨ US s' < US s)
  sol : r = true → ∀ ρ, Sol s' ρ ↔ Sol s ρ ∧ ρ a = ρ b
  no : r = false → ∀ ρ, Sol s ρ → ρ a ≠ ρ b
/-- The first kind is open. -/
theorem join_open {s : List KN} {h : Nat → Nat} (w : WF s h) {a b p q : Nat} {f : Nat} (ha : fend s f a = some p) (hb : fend s f b = some q) (hpq : p ≠ q) {x : KN} (hx : s[p]? = some x) (hxb : x.bs = false) (hxf : x.fr = none) :
    ∃ f r s', fjoin f s a b = some (r, s') ∧ Joined s h a b r s' := by
  obtain ⟨⟨x', hx', hxl⟩, sa, _⟩ := fend_ok ha
  rw [hx] at hx'
  injection hx' with hx'
  subst hx'
  obtain ⟨⟨y, hy, hyl⟩, sb, _⟩ := fend_ok hb
  have hql : q < s.length := fend_lt hb
  obtain ⟨bw, hw⟩ := fwithin_tot w p (h q + 2) q (Nat.le_refl _) hql
  have hw' := fwithin_le (Nat.le_max_right f (h q + 2)) hw
  have ha' := fend_le (Nat.le_max_left f (h q + 2)) ha
  have hb' := fend_le (Nat.le_max_left f (h q + 2)) hb
  generalize max f (h q + 2) = F at *
  refine ⟨F + 1, ?_⟩
  have hxl' := hxl
  cases bw with
  | true =>
    refine ⟨false, s, ?_, fun e => (by cases e), fun e => (by cases e), fun _ ρ hs e => ?_⟩
    · unfold fjoin
      rw [ha', hb']
      simp only
      rw [if_neg hpq, hx, hy]
      simp only
      rw [if_pos ⟨hxb, hxf⟩, hw']
    · have e2 : ρ p = ρ q := by rw [← sa ρ hs, ← sb ρ hs]; exact e
      -- q holds p strictly
      cases F with
      | zero => simp [fwithin] at hw'
      | succ F =>
      cases F with
      | zero => simp [fwithin, fend] at hw'
      | succ F =>
        unfold fwithin at hw'
        rw [fend_self F hy hyl] at hw'
        simp only at hw'
        rw [if_neg hpq, hy] at hw'
        simp only at hw'
        cases hf : y.fr with
        | none => rw [hf] at hw'; cases hw'
        | some c =>
          rw [hf] at hw'
          simp only at hw'
          cases ht : y.tk with
          | none => exact absurd ((w.arr q y hy).2 ht) (by rw [hf]; simp)
          | some t =>
            have h3 := (hs q y hy).2.2 c t hf ht
            cases hc : fwithin s (F + 1) p c with
            | none => rw [hc] at hw'; cases hw'
            | some bc =>
              rw [hc] at hw'
              have e3 : (ρ q).sz = (ρ c).sz + (ρ t).sz + 1 := by rw [h3, KT.sz]
              have p1 := (ρ c).sz_pos
              have p2 := (ρ t).sz_pos
              rw [← e2] at e3
              cases bc with
              | true => have := fwithin_sz w.arr hs hc; omega
              | false =>
                simp only at hw'
                rw [ht] at hw'
                have := fwithin_sz w.arr hs hw'
                omega
  | false =>
    have hnr := fwithin_false w hx hxl' hw'
    obtain ⟨⟨h', w'⟩, hU, hS⟩ := w.link hx hxl' hxb hxf hql hnr
    refine ⟨true, setlk s p x q, ?_, fun _ => ⟨h', w', .inr hU⟩, fun _ ρ => ?_, fun e => (by cases e)⟩
    · unfold fjoin
      rw [ha', hb']
      simp only
      rw [if_neg hpq, hx, hy]
      simp only
      rw [if_pos ⟨hxb, hxf⟩, hw']
    · rw [hS ρ]
      constructor
      · rintro ⟨h1, h2⟩
        exact ⟨h1, by rw [sa ρ h1, sb ρ h1]; exact h2⟩
      · rintro ⟨h1, h2⟩
        exact ⟨h1, by rw [← sa ρ h1, ← sb ρ h1]; exact h2⟩
theorem join_main : ∀ (n m : Nat) (s : List KN) (h : Nat → Nat) (a b : Nat), WF s h → a < s.length → b < s.length → US s ≤ n → h a + h b ≤ m → ∃ f r s', fjoin f s a b = some (r, s') ∧ Joined s h a b r s' := by
  intro n
  induction n using Nat.strongRecOn with
  | _ n ihn =>
  intro m
  induction m using Nat.strongRecOn with
  | _ m ihm =>
  intro s h a b w hal hbl hU hm
  obtain ⟨p, hp⟩ := fend_tot w (h a + 1) a (by omega) hal
  obtain ⟨q, hq⟩ := fend_tot w (h b + 1) b (by omega) hbl
  have hp := fend_le (Nat.le_max_left (h a + 1) (h b + 1)) hp
  have hq := fend_le (Nat.le_max_right (h a + 1) (h b + 1)) hq
  generalize max (h a + 1) (h b + 1) = F at *
  obtain ⟨⟨x, hx, hxl⟩, sa, la⟩ := fend_ok hp
  obtain ⟨⟨y, hy, hyl⟩, sb, lb⟩ := fend_ok hq
  have la := la h w
  have lb := lb h w
  have hpl : p < s.length := fend_lt hp
  have hql : q < s.length := fend_lt hq
  by_cases hpq : p = q
  · refine ⟨F + 1, true, s, ?_, fun _ => ⟨h, w, .inl ⟨rfl, rfl⟩⟩, fun _ ρ => ?_, fun e => (by cases e)⟩
    · unfold fjoin
      rw [hp, hq]
      simp only
      rw [if_pos hpq]
    · exact ⟨fun hs => ⟨hs, by rw [sa ρ hs, sb ρ hs, hpq]⟩, fun hs => hs.1⟩
  by_cases c1 : x.bs = false ∧ x.fr = none
  · exact join_open w hp hq hpq hx c1.1 c1.2
  by_cases c2 : y.bs = false ∧ y.fr = none
  · cases F with
    | zero => simp [fend] at hp
    | succ F0 =>
    obtain ⟨f, r, s', hj, J⟩ := join_open w (f := F0 + 1) (a := q) (b := p) (fend_self F0 hy hyl) (fend_self F0 hx hxl) (fun e => hpq e.symm) hy c2.1 c2.2
    have hj := fjoin_le (Nat.le_max_right (F0 + 1) f) hj
    have hp := fend_le (Nat.le_max_left (F0 + 1) f) hp
    have hq := fend_le (Nat.le_max_left (F0 + 1) f) hq
    generalize max (F0 + 1) f = G at *
    refine ⟨G + 1, r, s', ?_, J.yes, fun e ρ => ?_, fun e ρ hs e2 => ?_⟩
    · unfold fjoin
      rw [hp, hq]
      simp only
      rw [if_neg hpq, hx, hy]
      simp only
      rw [if_neg c1, if_pos c2]
      exact hj
    · rw [J.sol e ρ]
      constructor
      · rintro ⟨h1, h2⟩; exact ⟨h1, by rw [sa ρ h1, sb ρ h1]; exact h2.symm⟩
      · rintro ⟨h1, h2⟩; exact ⟨h1, by rw [← sa ρ h1, ← sb ρ h1]; exact h2.symm⟩
    · exact J.no e ρ hs (by rw [← sa ρ hs, ← sb ρ hs]; exact e2.symm)
  by_cases c3 : x.bs = true ∨ y.bs = true
  · refine ⟨F + 1, x.bs && y.bs, s, ?_, fun e => ⟨h, w, .inl ⟨rfl, rfl⟩⟩, fun e ρ => ?_, fun e ρ hs e2 => ?_⟩
    · unfold fjoin
      rw [hp, hq]
      simp only
      rw [if_neg hpq, hx, hy]
      simp only
      rw [if_neg c1, if_neg c2, if_pos c3]
    · rw [Bool.and_eq_true] at e
      exact ⟨fun hs => ⟨hs, by rw [sa ρ hs, sb ρ hs, (hs p x hx).2.1 e.1, (hs q y hy).2.1 e.2]⟩, fun hs => hs.1⟩
    · rw [sa ρ hs, sb ρ hs] at e2
      cases hxb : x.bs with
      | true =>
        cases hyb : y.bs with
        | true => rw [hxb, hyb] at e; cases e
        | false =>
          have hyf : y.fr ≠ none := fun e3 => c2 ⟨hyb, e3⟩
          obtain ⟨c, hc⟩ := Option.ne_none_iff_exists'.1 hyf
          have hyt : y.tk ≠ none := fun e3 => hyf ((w.arr q y hy).2 e3)
          obtain ⟨t, ht⟩ := Option.ne_none_iff_exists'.1 hyt
          rw [(hs p x hx).2.1 hxb, (hs q y hy).2.2 c t hc ht] at e2
          cases e2
      | false =>
        have hyb : y.bs = true := by rcases c3 with c | c; rw [hxb] at c; cases c; exact c
        have hxf : x.fr ≠ none := fun e3 => c1 ⟨hxb, e3⟩
        obtain ⟨c, hc⟩ := Option.ne_none_iff_exists'.1 hxf
        have hxt : x.tk ≠ none := fun e3 => hxf ((w.arr p x hx).2 e3)
        obtain ⟨t, ht⟩ := Option.ne_none_iff_exists'.1 hxt
        rw [(hs q y hy).2.1 hyb, (hs p x hx).2.2 c t hc ht] at e2
        cases e2
  -- two arrows
  have hxb : x.bs = false := by cases e : x.bs; rfl; exact absurd (.inl e) c3
  have hyb : y.bs = false := by cases e : y.bs; rfl; exact absurd (.inr e) c3
  have hxf : x.fr ≠ none := fun e3 => c1 ⟨hxb, e3⟩
  have hyf : y.fr ≠ none := fun e3 => c2 ⟨hyb, e3⟩
  obtain ⟨xf, hxf⟩ := Option.ne_none_iff_exists'.1 hxf
  obtain ⟨yf, hyf⟩ := Option.ne_none_iff_exists'.1 hyf
  obtain ⟨xt, hxt⟩ := Option.ne_none_iff_exists'.1 (show x.tk ≠ none from fun e3 => by rw [(w.arr p x hx).2 e3] at hxf; cases hxf)
  obtain ⟨yt, hyt⟩ := Option.ne_none_iff_exists'.1 (show y.tk ≠ none from fun e3 => by rw [(w.arr q y hy).2 e3] at hyf; cases hyf)
  have dx := w.dec p x hx
  have dy := w.dec q y hy
  have d1 := dx.2.1 xf hxf
  have d2 := dx.2.2 xt hxt
  have d3 := dy.2.1 yf hyf
  have d4 := dy.2.2 yt hyt
  have r1 := (w.rng p x hx).2.1 xf hxf
  have r2 := (w.rng p x hx).2.2 xt hxt
  have r3 := (w.rng q y hy).2.1 yf hyf
  have r4 := (w.rng q y hy).2.2 yt hyt
  have ex : ∀ ρ, Sol s ρ → ρ a = .ar (ρ xf) (ρ xt) := fun ρ hs => (sa ρ hs).trans ((hs p x hx).2.2 xf xt hxf hxt)
  have ey : ∀ ρ, Sol s ρ → ρ b = .ar (ρ yf) (ρ yt) := fun ρ hs => (sb ρ hs).trans ((hs q y hy).2.2 yf yt hyf hyt)
  obtain ⟨f1, rj, s1, hj1, J1⟩ := ihm (h xf + h yf) (by omega) s h xf yf w r1 r3 hU (Nat.le_refl _)
  cases rj with
  | false =>
    have hj1 := fjoin_le (Nat.le_max_right F f1) hj1
    have hp := fend_le (Nat.le_max_left F f1) hp
    have hq := fend_le (Nat.le_max_left F f1) hq
    generalize max F f1 = G at *
    refine ⟨G + 1, false, s1, ?_, fun e => (by cases e), fun e => (by cases e), fun _ ρ hs e => ?_⟩
    · unfold fjoin
      rw [hp, hq]
      simp only
      rw [if_neg hpq, hx, hy]
      simp only
      rw [if_neg c1, if_neg c2, if_neg c3, hxf, hyf]
      simp only
      rw [hj1]
    · rw [ex ρ hs, ey ρ hs] at e
      injection e with e1 e2
      exact J1.no rfl ρ hs e1
  | true =>
    obtain ⟨h1, w1, hU1⟩ := J1.yes rfl
    have hS1 := J1.sol rfl
    have sh := fjoin_shape f1 s xf yf true s1 hj1
    obtain ⟨x1, hx1, _, hxt1⟩ := shape_fr (sh p) hx
    obtain ⟨y1, hy1, _, hyt1⟩ := shape_fr (sh q) hy
    rw [hxt] at hxt1
    rw [hyt] at hyt1
    have len : s1.length = s.length := by
      have g := fun k => congrArg Option.isSome (sh k)
      simp only [Option.isSome_map] at g
      by_cases hlt : s1.length < s.length
      · have := g s1.length
        rw [List.getElem?_eq_none (Nat.le_refl _), List.getElem?_eq_getElem hlt] at this
        cases this
      · by_cases hgt : s.length < s1.length
        · have := g s.length
          rw [List.getElem?_eq_none (Nat.le_refl _), List.getElem?_eq_getElem hgt] at this
          cases this
        · omega
    have second : ∃ f r s', fjoin f s1 xt yt = some (r, s') ∧ Joined s1 h1 xt yt r s' ∧ (US s1 ≤ US s) := by
      rcases hU1 with ⟨e1, e2⟩ | hlt
      · subst e1 e2
        obtain ⟨f, r, s', k1, k2⟩ := ihm (h1 xt + h1 yt) (by omega) s1 h1 xt yt w1 r2 r4 hU (Nat.le_refl _)
        exact ⟨f, r, s', k1, k2, Nat.le_refl _⟩
      · obtain ⟨f, r, s', k1, k2⟩ := ihn (US s1) (by omega) (h1 xt + h1 yt) s1 h1 xt yt w1 (by rw [len]; exact r2) (by rw [len]; exact r4) (Nat.le_refl _) (Nat.le_refl _)
        exact ⟨f, r, s', k1, k2, by omega⟩
    obtain ⟨f2, r, s', hj2, J2, hU2⟩ := second
    have hj1 := fjoin_le (Nat.le_trans (Nat.le_max_left f1 f2) (Nat.le_max_right F (max f1 f2))) hj1
    have hj2 := fjoin_le (Nat.le_trans (Nat.le_max_right f1 f2) (Nat.le_max_right F (max f1 f2))) hj2
    have hp := fend_le (Nat.le_max_left F (max f1 f2)) hp
    have hq := fend_le (Nat.le_max_left F (max f1 f2)) hq
    generalize max F (max f1 f2) = G at *
    refine ⟨G + 1, r, s', ?_, fun e => ?_, fun e ρ => ?_, fun e ρ hs e2 => ?_⟩
    · unfold fjoin
      rw [hp, hq]
      simp only
      rw [if_neg hpq, hx, hy]
      simp only
      rw [if_neg c1, if_neg c2, if_neg c3, hxf, hyf]
      simp only
      rw [hj1]
      simp only
      rw [hx1, hy1]
      simp only
      rw [hxt1, hyt1]
      exact hj2
    · obtain ⟨h2, w2, h3⟩ := J2.yes e
      refine ⟨h2, w2, ?_⟩
      rcases h3 with ⟨e1, e2⟩ | h3
      · rcases hU1 with ⟨e3, e4⟩ | hlt
        · exact .inl ⟨e1.trans e3, e2.trans e4⟩
        · exact .inr (by rw [e1]; exact hlt)
      · exact .inr (by omega)
    · rw [J2.sol e ρ, hS1 ρ]
      constructor
      · rintro ⟨⟨k1, k2⟩, k3⟩
        exact ⟨k1, by rw [ex ρ k1, ey ρ k1, k2, k3]⟩
      · rintro ⟨k1, k2⟩
        rw [ex ρ k1, ey ρ k1] at k2
        injection k2 with k2 k3
        exact ⟨⟨k1, k2⟩, k3⟩
    · rw [ex ρ hs, ey ρ hs] at e2
      injection e2 with e3 e4
      exact J2.no e ρ ((hS1 ρ).2 ⟨hs, e3⟩) e4
/-- A join ends, and tells whether the equations and this one hold together. -/
theorem join_ok {s : List KN} {h : Nat → Nat} (w : WF s h) {a b : Nat} (ha : a < s.length) (hb : b < s.length) : ∃ f r s', fjoin f s a b = some (r, s') ∧ Joined s h a b r s' :=
  join_main (US s) (h a + h b) s h a b w ha hb (Nat.le_refl _) (Nat.le_refl _)
end Go.Proofs.Ytfhgoebgnilfaaa.I
namespace Go.Proofs.Ytfhgoebgnilfaaa.I
open Go.RowKit
set_option linter.unusedVariables false
theorem Sol.agree {s : List KN} {h : Nat → Nat} (w : WF s h) {ρ ρ' : Nat → KT} (e : ∀ i, i < s.length → ρ' i = ρ i) (hs : Sol s ρ) : Sol s ρ' := by
  intro i n hn
  have hi : i < s.length := (List.getElem?_eq_some_iff.1 hn).1
  have hr := w.rng i n hn
  refine ⟨fun j hj => ?_, fun hb => ?_, fun a t ha ht => ?_⟩
  · rw [e i hi, e j (hr.1 j hj)]; exact (hs i n hn).1 j hj
  · rw [e i hi]; exact (hs i n hn).2.1 hb
  · rw [e i hi, e a (hr.2.1 a ha), e t (hr.2.2 t ht)]; exact (hs i n hn).2.2 a t ha ht
theorem get_push {s : List KN} {n m : KN} {i : Nat} (h : (s ++ [n])[i]? = some m) : (i < s.length ∧ s[i]? = some m) ∨ (i = s.length ∧ m = n) := by
  by_cases hi : i < s.length
  · rw [List.getElem?_append_left hi] at h
    exact .inl ⟨hi, h⟩
  · have hl : i < (s ++ [n]).length := (List.getElem?_eq_some_iff.1 h).1
    rw [List.length_append] at hl
    simp only [List.length_cons, List.length_nil] at hl
    have hie : i = s.length := by omega
    subst hie
    rw [List.getElem?_append_right (Nat.le_refl _), Nat.sub_self] at h
    injection h with h
    exact .inr ⟨rfl, h.symm⟩
theorem WF.push {s : List KN} {h : Nat → Nat} (w : WF s h) {n : KN} (hl : n.lk = none) (hf : inS s.length n.fr) (ht : inS s.length n.tk) (ha : n.fr = none ↔ n.tk = none) (hb : n.bs = true → n.fr = none) :
    ∃ h', WF (s ++ [n]) h' := by
  refine ⟨fun i => if i < s.length then h i else ((n.fr.map h).getD 0 + (n.tk.map h).getD 0) + 1, ?_, ?_, ?_, ?_, ?_⟩
  · intro i m hm
    have up : ∀ o, inS s.length o → inS (s ++ [n]).length o := fun o ho j hj => by rw [List.length_append]; have := ho j hj; omega
    rcases get_push hm with ⟨hi, hm⟩ | ⟨hi, rfl⟩
    · have := w.rng i m hm
      exact ⟨up _ this.1, up _ this.2.1, up _ this.2.2⟩
    · exact ⟨fun j hj => (by rw [hl] at hj; cases hj), up _ hf, up _ ht⟩
  · intro i m hm
    rcases get_push hm with ⟨hi, hm⟩ | ⟨hi, rfl⟩
    · exact w.arr i m hm
    · exact ha
  · intro i m hm
    rcases get_push hm with ⟨hi, hm⟩ | ⟨hi, rfl⟩
    · exact w.bas i m hm
    · exact hb
  · intro i m hm
    rcases get_push hm with ⟨hi, hm⟩ | ⟨hi, rfl⟩
    · exact w.lnk i m hm
    · exact fun e => absurd hl e
  · intro i m hm
    rcases get_push hm with ⟨hi, hm⟩ | ⟨hi, rfl⟩
    · have hr := w.rng i m hm
      have hd := w.dec i m hm
      rw [if_pos hi]
      exact ⟨fun j hj => by rw [if_pos (hr.1 j hj)]; exact hd.1 j hj, fun j hj => by rw [if_pos (hr.2.1 j hj)]; exact hd.2.1 j hj, fun j hj => by rw [if_pos (hr.2.2 j hj)]; exact hd.2.2 j hj⟩
    · subst hi
      rw [if_neg (Nat.lt_irrefl _)]
      refine ⟨fun j hj => (by rw [hl] at hj; cases hj), fun j hj => ?_, fun j hj => ?_⟩
      · rw [if_pos (hf j hj), hj]; simp only [Option.map_some, Option.getD_some]; omega
      · rw [if_pos (ht j hj), hj]; simp only [Option.map_some, Option.getD_some]; omega
theorem Sol.push {s : List KN} {n : KN} {ρ : Nat → KT} : Sol (s ++ [n]) ρ ↔ Sol s ρ ∧ ((∀ j, n.lk = some j → ρ s.length = ρ j) ∧ (n.bs = true → ρ s.length = .o) ∧ (∀ a t, n.fr = some a → n.tk = some t → ρ s.length = .ar (ρ a) (ρ t))) := by
  constructor
  · intro hs
    refine ⟨fun i m hm => hs i m ?_, hs s.length n ?_⟩
    · rw [List.getElem?_append_left (List.getElem?_eq_some_iff.1 hm).1]; exact hm
    · rw [List.getElem?_append_right (Nat.le_refl _), Nat.sub_self]; rfl
  · rintro ⟨hs, hn⟩ i m hm
    rcases get_push hm with ⟨hi, hm⟩ | ⟨rfl, rfl⟩
    · exact hs i m hm
    · exact hn
/-- s' is s with more kinds, and C tells what more its solutions are. -/
structure Ext (s s' : List KN) : Prop where
  len : s.length ≤ s'.length
  wf : ∃ h', WF s' h'
  down : ∀ ρ, Sol s' ρ → Sol s ρ
theorem Ext.refl {s : List KN} {h : Nat → Nat} (w : WF s h) : Ext s s := ⟨Nat.le_refl _, ⟨h, w⟩, fun _ hs => hs⟩
theorem Ext.trans {s s1 s2 : List KN} (a : Ext s s1) (b : Ext s1 s2) : Ext s s2 := ⟨Nat.le_trans a.len b.len, b.wf, fun ρ hs => a.down ρ (b.down ρ hs)⟩
/-- A new kind that is an arrow. -/
theorem push_arrow {s : List KN} {h : Nat → Nat} (w : WF s h) {a t : Nat} (ha : a < s.length) (ht : t < s.length) :
    Ext s (s ++ [⟨none, false, some a, some t⟩]) ∧ (∀ ρ, Sol (s ++ [⟨none, false, some a, some t⟩]) ρ ↔ Sol s ρ ∧ ρ s.length = .ar (ρ a) (ρ t)) := by
  refine ⟨⟨by rw [List.length_append]; omega, w.push (n := ⟨none, false, some a, some t⟩) rfl (fun j hj => by injection hj with hj; omega) (fun j hj => by injection hj with hj; omega) ⟨fun e => (by cases e), fun e => (by cases e)⟩ (fun e => (by cases e)), fun ρ hs => (Sol.push.1 hs).1⟩, fun ρ => ?_⟩
  rw [Sol.push]
  constructor
  · rintro ⟨h1, h2⟩; exact ⟨h1, h2.2.2 a t rfl rfl⟩
  · rintro ⟨h1, h2⟩
    exact ⟨h1, fun j hj => (by cases hj), fun e => (by cases e), fun a' t' e1 e2 => by injection e1 with e1; injection e2 with e2; subst e1 e2; exact h2⟩
/-- A new open kind. -/
theorem push_bare {s : List KN} {h : Nat → Nat} (w : WF s h) : Ext s (s ++ [kbare]) ∧ (∀ ρ, Sol (s ++ [kbare]) ρ ↔ Sol s ρ) := by
  refine ⟨⟨by rw [List.length_append]; omega, w.push (n := kbare) rfl (fun j hj => (by cases hj)) (fun j hj => (by cases hj)) ⟨fun _ => rfl, fun _ => rfl⟩ (fun e => (by cases e)), fun ρ hs => (Sol.push.1 hs).1⟩, fun ρ => ?_⟩
  rw [Sol.push]
  exact ⟨fun e => e.1, fun e => ⟨e, fun j hj => (by cases hj), fun e => (by cases e), fun a t e1 _ => (by cases e1)⟩⟩
/-- An arrow from some sorts, in order, to another one. -/
def ars : List KT → KT → KT
  | [], t => t
  | a :: l, t => .ar a (ars l t)
theorem ars_snoc (l : List KT) (a t : KT) : ars (l ++ [a]) t = ars l (.ar a t) := by
  induction l with
  | nil => rfl
  | cons b l ih => rw [List.cons_append, ars, ars, ih]
/-- ρ, with one place told anew. -/
def upd (ρ : Nat → KT) (i : Nat) (t : KT) : Nat → KT := fun j => if j = i then t else ρ j
theorem farrowR_ok : ∀ (ps : List Nat) {s : List KN} {h : Nat → Nat} {k : Nat}, WF s h → k < s.length → (∀ p, p ∈ ps → p < s.length) →
    Ext s (farrowR s k ps).2 ∧ (farrowR s k ps).1 < (farrowR s k ps).2.length ∧ (∀ ρ, Sol (farrowR s k ps).2 ρ → ρ (farrowR s k ps).1 = ars (ps.reverse.map ρ) (ρ k)) ∧ (∀ ρ, Sol s ρ → ∃ ρ', (∀ i, i < s.length → ρ' i = ρ i) ∧ Sol (farrowR s k ps).2 ρ')
  | [], s, h, k, w, hk, hp => ⟨Ext.refl w, hk, fun ρ _ => rfl, fun ρ hs => ⟨ρ, fun _ _ => rfl, hs⟩⟩
  | p :: ps, s, h, k, w, hk, hp => by
    have hpl := hp p List.mem_cons_self
    obtain ⟨x1, hS⟩ := push_arrow w hpl hk
    obtain ⟨h1, w1⟩ := x1.wf
    have len1 : (s ++ [(⟨none, false, some p, some k⟩ : KN)]).length = s.length + 1 := by rw [List.length_append]; rfl
    obtain ⟨x2, hk2, hA, hE⟩ := farrowR_ok ps (s := s ++ [⟨none, false, some p, some k⟩]) (k := s.length) w1 (by rw [len1]; omega) (fun q hq => by rw [len1]; have := hp q (List.mem_cons_of_mem _ hq); omega)
    refine ⟨x1.trans x2, hk2, fun ρ hs => ?_, fun ρ hs => ?_⟩
    · show ρ (farrowR (s ++ [⟨none, false, some p, some k⟩]) s.length ps).1 = _
      rw [hA ρ hs, ((hS ρ).1 (x2.down ρ hs)).2, List.reverse_cons, List.map_append, List.map_cons, List.map_nil, ars_snoc]
    · have hs1 : Sol (s ++ [⟨none, false, some p, some k⟩]) (upd ρ s.length (.ar (ρ p) (ρ k))) := by
        rw [hS]
        refine ⟨Sol.agree w (fun i hi => by unfold upd; rw [if_neg (by omega)]) hs, ?_⟩
        unfold upd
        rw [if_pos rfl, if_neg (by omega), if_neg (by omega)]
      obtain ⟨ρ', he, hs'⟩ := hE _ hs1
      exact ⟨ρ', fun i hi => (he i (by rw [len1]; omega)).trans (by unfold upd; rw [if_neg (by omega)]), hs'⟩
theorem farrow_ok (ps : List Nat) {s : List KN} {h : Nat → Nat} {k : Nat} (w : WF s h) (hk : k < s.length) (hp : ∀ p, p ∈ ps → p < s.length) :
    Ext s (farrow s k ps).2 ∧ (farrow s k ps).1 < (farrow s k ps).2.length ∧ (∀ ρ, Sol (farrow s k ps).2 ρ → ρ (farrow s k ps).1 = ars (ps.map ρ) (ρ k)) ∧ (∀ ρ, Sol s ρ → ∃ ρ', (∀ i, i < s.length → ρ' i = ρ i) ∧ Sol (farrow s k ps).2 ρ') := by
  have h := farrowR_ok ps.reverse w hk (fun p hpr => hp p (List.mem_reverse.1 hpr))
  rw [List.reverse_reverse] at h
  exact h
mutual
/-- A term has a sort, the heads having these. -/
def Ty (hd : Int → Int → Option KT) : S44 → KT → Prop
  | ⟨k, n, l⟩, t => ∃ t0, hd k n = some t0 ∧ TyL hd t0 l t
def TyL (hd : Int → Int → Option KT) (t0 : KT) : List S44 → KT → Prop
  | [], t => t = t0
  | x :: xs, t => ∃ a b, t0 = .ar a b ∧ Ty hd x a ∧ TyL hd b xs t
end
/-- The sorts of the heads. -/
def hdE (E : FE) (ρ : Nat → KT) (kd n : Int) : Option KT :=
  if n < 0 then none
  else if kd = 0 then (E.params[n.toNat]?).map ρ
  else if kd = 1 then (E.funs[n.toNat]?).map ρ
  else (E.syms[n.toNat]?).map (fun x => ars (List.replicate x.f1.toNat .o) .o)
structure FEok (E : FE) (s : List KN) : Prop where
  o0 : E.o = 0
  pos : 0 < s.length
  zero : ∀ ρ, Sol s ρ → ρ 0 = .o
  funs : ∀ p, p ∈ E.funs → p < s.length
  params : ∀ p, p ∈ E.params → p < s.length
theorem FEok.ext {E : FE} {s s' : List KN} (e : FEok E s) (x : Ext s s') : FEok E s' :=
  ⟨e.o0, Nat.lt_of_lt_of_le e.pos x.len, fun ρ hs => e.zero ρ (x.down ρ hs), fun p hp => Nat.lt_of_lt_of_le (e.funs p hp) x.len, fun p hp => Nat.lt_of_lt_of_le (e.params p hp) x.len⟩
theorem hdE_agree {E : FE} {s : List KN} (e : FEok E s) {ρ ρ' : Nat → KT} (h : ∀ i, i < s.length → ρ' i = ρ i) : hdE E ρ' = hdE E ρ := by
  funext kd n
  unfold hdE
  by_cases h0 : n < 0
  · rw [if_pos h0, if_pos h0]
  · rw [if_neg h0, if_neg h0]
    by_cases h1 : kd = 0
    · rw [if_pos h1, if_pos h1]
      cases hp : E.params[n.toNat]? with
      | none => rfl
      | some p => simp only [Option.map_some]; rw [h p (e.params p (List.mem_of_getElem? hp))]
    · rw [if_neg h1, if_neg h1]
      by_cases h2 : kd = 1
      · rw [if_pos h2, if_pos h2]
        cases hp : E.funs[n.toNat]? with
        | none => rfl
        | some p => simp only [Option.map_some]; rw [h p (e.funs p (List.mem_of_getElem? hp))]
      · rw [if_neg h2, if_neg h2]
theorem map_replicate_rho {ρ : Nat → KT} {t : KT} {o : Nat} (h : ρ o = t) (m : Nat) : (List.replicate m o).map ρ = List.replicate m t := by rw [List.map_replicate, h]
/-- A head that is known. -/
theorem head_ok {E : FE} {s : List KN} {h : Nat → Nat} (w : WF s h) (e : FEok E s) {kd n : Int} (hn : 0 ≤ n) (hk : (kd = 0 ∧ n < E.params.length) ∨ (kd = 1 ∧ n < E.funs.length) ∨ (kd = 2 ∧ n < E.syms.length)) :
    ∃ k s', fhead E s kd n = some (k, s') ∧ k < s'.length ∧ Ext s s' ∧ (∀ ρ, Sol s' ρ → hdE E ρ kd n = some (ρ k)) ∧ (∀ ρ, Sol s ρ → ∃ ρ', (∀ i, i < s.length → ρ' i = ρ i) ∧ Sol s' ρ') := by
  unfold fhead hdE
  rw [if_neg (by omega)]
  rcases hk with ⟨rfl, hl⟩ | ⟨rfl, hl⟩ | ⟨rfl, hl⟩
  · have hlt : n.toNat < E.params.length := by omega
    have hg := List.getElem?_eq_getElem hlt
    rw [if_pos rfl, hg]
    exact ⟨_, s, rfl, e.params _ (List.getElem_mem hlt), Ext.refl w, fun ρ _ => by rw [if_neg (by omega), if_pos rfl]; rfl, fun ρ hs => ⟨ρ, fun _ _ => rfl, hs⟩⟩
  · have hlt : n.toNat < E.funs.length := by omega
    have hg := List.getElem?_eq_getElem hlt
    rw [if_neg (by decide), if_pos rfl, hg]
    exact ⟨_, s, rfl, e.funs _ (List.getElem_mem hlt), Ext.refl w, fun ρ _ => by rw [if_neg (by omega), if_neg (by decide), if_pos rfl]; rfl, fun ρ hs => ⟨ρ, fun _ _ => rfl, hs⟩⟩
  · have hlt : n.toNat < E.syms.length := by omega
    have hg := List.getElem?_eq_getElem hlt
    rw [if_neg (by decide), if_neg (by decide), hg]
    generalize E.syms[n.toNat] = x at *
    obtain ⟨x1, hk1, hA, hE⟩ := farrow_ok (List.replicate x.f1.toNat E.o) w (k := E.o) (by rw [e.o0]; exact e.pos) (fun p hp => by rw [(List.mem_replicate.1 hp).2, e.o0]; exact e.pos)
    refine ⟨(farrow s E.o (List.replicate x.f1.toNat E.o)).1, (farrow s E.o (List.replicate x.f1.toNat E.o)).2, rfl, hk1, x1, fun ρ hs => ?_, hE⟩
    rw [if_neg (by omega), if_neg (by decide), if_neg (by decide)]
    simp only [Option.map_some]
    have hz : ρ E.o = .o := by rw [e.o0]; exact e.zero ρ (x1.down ρ hs)
    rw [hA ρ hs, map_replicate_rho hz, hz]
/-- What finder.term comes to: the solutions are those at which the term has the sort of its kind; or there are none. -/
structure Termed (E : FE) (s : List KN) (P : (Nat → KT) → KT → Prop) (r : Option Nat) (s' : List KN) : Prop where
  yes : ∀ k, r = some k → k < s'.length ∧ Ext s s' ∧ (∀ ρ, Sol s' ρ → P ρ (ρ k)) ∧ (∀ ρ t, Sol s ρ → P ρ t → ∃ ρ', (∀ i, i < s.length → ρ' i = ρ i) ∧ Sol s' ρ' ∧ ρ' k = t)
  no : r = none → ∀ ρ t, Sol s ρ → ¬ P ρ t
theorem fterm_le {E : FE} {s : List KN} {kd n : Int} {l : List S44} {r : Option Nat × List KN} {f f' : Nat} (hf : f ≤ f') (h : fterm E f s kd n l = some r) : fterm E f' s kd n l = some r := by
  induction hf with
  | refl => exact h
  | step _ ih => exact (fterm_s E _).1 _ _ _ _ _ ih
theorem ftermL_le {E : FE} {s : List KN} {k : Nat} {l : List S44} {r : Option Nat × List KN} {f f' : Nat} (hf : f ≤ f') (h : ftermL E f s k l = some r) : ftermL E f' s k l = some r := by
  induction hf with
  | refl => exact h
  | step _ ih => exact (fterm_s E _).2 _ _ _ _ ih
mutual
theorem term_ok {E : FE} : ∀ (x : S44) {s : List KN} {h : Nat → Nat}, WF s h → FEok E s → knownS x E.params.length E.funs.length E.syms.length = true →
    ∃ f r s', fterm E f s x.f0 x.f1 x.f2 = some (r, s') ∧ Termed E s (fun ρ t => Ty (hdE E ρ) x t) r s'
  | ⟨kd, n, l⟩, s, h, w, e, hk => by
    unfold knownS at hk
    simp only [Bool.and_eq_true, decide_eq_true_eq] at hk
    obtain ⟨⟨hkd, hn, hlt⟩, hkl⟩ := hk
    have hcase : (kd = 0 ∧ n < E.params.length) ∨ (kd = 1 ∧ n < E.funs.length) ∨ (kd = 2 ∧ n < E.syms.length) := by
      unfold isK at hkd
      unfold manyK at hlt
      grind
    obtain ⟨k, s1, hh, hk1, x1, hd, up⟩ := head_ok w e hn hcase
    obtain ⟨h1, w1⟩ := x1.wf
    obtain ⟨f, r, s', hf, T⟩ := termL_ok l w1 (e.ext x1) hk1 hkl
    refine ⟨f + 1, r, s', ?_, ?_, ?_⟩
    · show fterm E (f + 1) s kd n l = _
      unfold fterm
      rw [hh]
      exact hf
    · intro q hq
      obtain ⟨a1, a2, a3, a4⟩ := T.yes q hq
      refine ⟨a1, x1.trans a2, fun ρ hs => ?_, fun ρ t hs ht => ?_⟩
      · unfold Ty
        exact ⟨ρ k, hd ρ (a2.down ρ hs), a3 ρ hs⟩
      · unfold Ty at ht
        obtain ⟨t0, ht0, ht⟩ := ht
        obtain ⟨ρ1, ag, hs1⟩ := up ρ hs
        have e1 := hdE_agree e ag
        have e2 := hd ρ1 hs1
        rw [e1, ht0] at e2
        injection e2 with e2
        obtain ⟨ρ2, ag2, hs2, hq2⟩ := a4 ρ1 t hs1 (by rw [e1, ← e2]; exact ht)
        exact ⟨ρ2, fun i hi => (ag2 i (Nat.lt_of_lt_of_le hi x1.len)).trans (ag i hi), hs2, hq2⟩
    · intro hr ρ t hs ht
      unfold Ty at ht
      obtain ⟨t0, ht0, ht⟩ := ht
      obtain ⟨ρ1, ag, hs1⟩ := up ρ hs
      have e1 := hdE_agree e ag
      have e2 := hd ρ1 hs1
      rw [e1, ht0] at e2
      injection e2 with e2
      exact T.no hr ρ1 t hs1 (by rw [e1, ← e2]; exact ht)
theorem termL_ok {E : FE} : ∀ (l : List S44) {s : List KN} {h : Nat → Nat} {k : Nat}, WF s h → FEok E s → k < s.length → knownL l E.params.length E.funs.length E.syms.length = true →
    ∃ f r s', ftermL E f s k l = some (r, s') ∧ Termed E s (fun ρ t => TyL (hdE E ρ) (ρ k) l t) r s'
  | [], s, h, k, w, e, hk, _ => by
    refine ⟨1, some k, s, rfl, fun q hq => ?_, fun e => (by cases e)⟩
    injection hq with hq
    subst hq
    exact ⟨hk, Ext.refl w, fun ρ hs => rfl, fun ρ t hs ht => ⟨ρ, fun _ _ => rfl, hs, ht.symm⟩⟩
  | x :: xs, s, h, k, w, e, hk, hkn => by
    unfold knownL at hkn
    rw [Bool.and_eq_true] at hkn
    obtain ⟨f1, r1, s1, hf1, T1⟩ := term_ok x w e hkn.1
    cases r1 with
    | none =>
      refine ⟨f1 + 1, none, s1, ?_, fun q hq => (by cases hq), fun _ ρ t hs ht => ?_⟩
      · unfold ftermL
        rw [hf1]
      · unfold TyL at ht
        obtain ⟨a, b, _, ha, _⟩ := ht
        exact T1.no rfl ρ a hs ha
    | some xk =>
      obtain ⟨hxk, x1, down1, up1⟩ := T1.yes xk rfl
      obtain ⟨h1, w1⟩ := x1.wf
      obtain ⟨x2, hS2⟩ := push_bare w1
      obtain ⟨h2, w2⟩ := x2.wf
      have len2 : (s1 ++ [kbare]).length = s1.length + 1 := by rw [List.length_append]; rfl
      obtain ⟨x3, hS3⟩ := push_arrow w2 (a := xk) (t := s1.length) (by rw [len2]; omega) (by rw [len2]; omega)
      obtain ⟨h3, w3⟩ := x3.wf
      have len3 : (s1 ++ [kbare] ++ [(⟨none, false, some xk, some s1.length⟩ : KN)]).length = s1.length + 2 := by rw [List.length_append, len2]; rfl
      have hks1 : k < s1.length := Nat.lt_of_lt_of_le hk x1.len
      obtain ⟨fj, rj, sj, hj, J⟩ := join_ok w3 (a := k) (b := s1.length + 1) (by rw [len3]; omega) (by rw [len3]; omega)
      have x03 := x1.trans (x2.trans x3)
      -- the equations behind the new kinds
      have eqs : ∀ ρ, Sol (s1 ++ [kbare] ++ [⟨none, false, some xk, some s1.length⟩]) ρ ↔ Sol s1 ρ ∧ ρ (s1.length + 1) = .ar (ρ xk) (ρ s1.length) := by
        intro ρ
        rw [hS3, hS2, len2]
      cases rj with
      | false =>
        have hj := fjoin_le (Nat.le_max_right f1 fj) hj
        have hf1 := fterm_le (Nat.le_max_left f1 fj) hf1
        refine ⟨max f1 fj + 1, none, sj, ?_, fun q hq => (by cases hq), fun _ ρ t hs ht => ?_⟩
        · unfold ftermL
          rw [hf1]
          simp only
          have hj' : fjoin (max f1 fj) (s1 ++ [⟨none, false, none, none⟩] ++ [⟨none, false, some xk, some s1.length⟩]) k (s1.length + 1) = some (false, sj) := hj
          rw [hj']
        · unfold TyL at ht
          obtain ⟨a, b, hab, ha, _⟩ := ht
          obtain ⟨ρ1, ag1, hs1, hx1⟩ := up1 ρ a hs ha
          have ag : ∀ i, i < s1.length → upd (upd ρ1 s1.length b) (s1.length + 1) (.ar a b) i = ρ1 i := fun i hi => by unfold upd; rw [if_neg (by omega), if_neg (by omega)]
          refine J.no rfl (upd (upd ρ1 s1.length b) (s1.length + 1) (.ar a b)) ((eqs _).2 ⟨Sol.agree w1 ag hs1, ?_⟩) ?_
          · rw [ag xk hxk, hx1]
            unfold upd
            rw [if_pos rfl, if_neg (by omega), if_pos rfl]
          · rw [ag k hks1, ag1 k hk, hab]
            unfold upd
            rw [if_pos rfl]
      | true =>
        obtain ⟨h4, w4, _⟩ := J.yes rfl
        have hS4 := J.sol rfl
        have lenj : sj.length = s1.length + 2 := by
          have sh := fjoin_shape fj _ k (s1.length + 1) true sj hj
          have g := fun q => congrArg Option.isSome (sh q)
          simp only [Option.isSome_map] at g
          rw [← len3]
          generalize s1 ++ [kbare] ++ [(⟨none, false, some xk, some s1.length⟩ : KN)] = z at *
          by_cases hlt : sj.length < z.length
          · have := g sj.length
            rw [List.getElem?_eq_none (Nat.le_refl _), List.getElem?_eq_getElem hlt] at this
            cases this
          · by_cases hgt : z.length < sj.length
            · have := g z.length
              rw [List.getElem?_eq_none (Nat.le_refl _), List.getElem?_eq_getElem hgt] at this
              cases this
            · omega
        have x4 : Ext s sj := ⟨by rw [lenj]; have := x1.len; omega, ⟨h4, w4⟩, fun ρ hs => x03.down ρ ((hS4 ρ).1 hs).1⟩
        obtain ⟨f2, r, s', hf2, T2⟩ := termL_ok xs (k := s1.length) w4 (e.ext x4) (by rw [lenj]; omega) hkn.2
        have hm1 : f1 ≤ max f1 (max fj f2) := Nat.le_max_left _ _
        have hm2 : fj ≤ max f1 (max fj f2) := Nat.le_trans (Nat.le_max_left _ _) (Nat.le_max_right _ _)
        have hm3 : f2 ≤ max f1 (max fj f2) := Nat.le_trans (Nat.le_max_right _ _) (Nat.le_max_right _ _)
        have hf1 := fterm_le hm1 hf1
        have hj := fjoin_le hm2 hj
        have hf2 := ftermL_le hm3 hf2
        generalize max f1 (max fj f2) = F at *
        refine ⟨F + 1, r, s', ?_, fun q hq => ?_, fun hr ρ t hs ht => ?_⟩
        · unfold ftermL
          rw [hf1]
          simp only
          have hj' : fjoin F (s1 ++ [⟨none, false, none, none⟩] ++ [⟨none, false, some xk, some s1.length⟩]) k (s1.length + 1) = some (true, sj) := hj
          rw [hj']
          exact hf2
        · obtain ⟨a1, a2, a3, a4⟩ := T2.yes q hq
          refine ⟨a1, x4.trans a2, fun ρ hs => ?_, fun ρ t hs ht => ?_⟩
          · have hsj := a2.down ρ hs
            obtain ⟨b1, b2⟩ := (hS4 ρ).1 hsj
            obtain ⟨c1, c2⟩ := (eqs ρ).1 b1
            unfold TyL
            exact ⟨ρ xk, ρ s1.length, by rw [b2, c2], down1 ρ c1, a3 ρ hs⟩
          · unfold TyL at ht
            obtain ⟨a, b, hab, ha, hb⟩ := ht
            obtain ⟨ρ1, ag1, hs1, hx1⟩ := up1 ρ a hs ha
            have ag : ∀ i, i < s1.length → upd (upd ρ1 s1.length b) (s1.length + 1) (.ar a b) i = ρ1 i := fun i hi => by unfold upd; rw [if_neg (by omega), if_neg (by omega)]
            have agS : ∀ i, i < s.length → upd (upd ρ1 s1.length b) (s1.length + 1) (.ar a b) i = ρ i := fun i hi => (ag i (Nat.lt_of_lt_of_le hi x1.len)).trans (ag1 i hi)
            have hsj : Sol sj (upd (upd ρ1 s1.length b) (s1.length + 1) (.ar a b)) := by
              rw [hS4, eqs]
              refine ⟨⟨Sol.agree w1 ag hs1, ?_⟩, ?_⟩
              · rw [ag xk hxk, hx1]
                unfold upd
                rw [if_pos rfl, if_neg (by omega), if_pos rfl]
              · rw [ag k hks1, ag1 k hk, hab]
                unfold upd
                rw [if_pos rfl]
            have hbv : upd (upd ρ1 s1.length b) (s1.length + 1) (.ar a b) s1.length = b := by unfold upd; rw [if_neg (by omega), if_pos rfl]
            obtain ⟨ρ2, ag2, hs2, hq2⟩ := a4 _ t hsj (by rw [hdE_agree e agS, hbv]; exact hb)
            exact ⟨ρ2, fun i hi => (ag2 i (Nat.lt_of_lt_of_le hi x4.len)).trans (agS i hi), hs2, hq2⟩
        · unfold TyL at ht
          obtain ⟨a, b, hab, ha, hb⟩ := ht
          obtain ⟨ρ1, ag1, hs1, hx1⟩ := up1 ρ a hs ha
          have ag : ∀ i, i < s1.length → upd (upd ρ1 s1.length b) (s1.length + 1) (.ar a b) i = ρ1 i := fun i hi => by unfold upd; rw [if_neg (by omega), if_neg (by omega)]
          have agS : ∀ i, i < s.length → upd (upd ρ1 s1.length b) (s1.length + 1) (.ar a b) i = ρ i := fun i hi => (ag i (Nat.lt_of_lt_of_le hi x1.len)).trans (ag1 i hi)
          have hsj : Sol sj (upd (upd ρ1 s1.length b) (s1.length + 1) (.ar a b)) := by
            rw [hS4, eqs]
            refine ⟨⟨Sol.agree w1 ag hs1, ?_⟩, ?_⟩
            · rw [ag xk hxk, hx1]
              unfold upd
              rw [if_pos rfl, if_neg (by omega), if_pos rfl]
            · rw [ag k hks1, ag1 k hk, hab]
              unfold upd
              rw [if_pos rfl]
          have hbv : upd (upd ρ1 s1.length b) (s1.length + 1) (.ar a b) s1.length = b := by unfold upd; rw [if_neg (by omega), if_pos rfl]
          exact T2.no hr _ t hsj (by rw [hdE_agree e agS, hbv]; exact hb)
end
end Go.Proofs.Ytfhgoebgnilfaaa.I
namespace Go.Proofs.Ytfhgoebgnilfaaa.I
open Go.RowKit
set_option linter.unusedVariables false
/-- One sort is another one, with o in the place of some parts. -/
def KT.le : KT → KT → Prop
  | .o, _ => True
  | .ar a b, .ar c d => a.le c ∧ b.le d
  | .ar _ _, .o => False
/-- The reading of a store. -/
def rdF (s : List KN) : Nat → Nat → KT
  | 0, _ => .o
  | f + 1, i => match s[i]? with
    | none => .o
    | some n => match n.lk with
      | some j => rdF s f j
      | none => match n.fr with
        | none => .o
        | some a => match n.tk with
          | none => .o
          | some t => .ar (rdF s f a) (rdF s f t)
theorem rdF_stable {s : List KN} {h : Nat → Nat} (w : WF s h) : ∀ (f f' i : Nat), h i < f → h i < f' → rdF s f i = rdF s f' i
  | 0, f', i, h1, h2 => absurd h1 (by omega)
  | f + 1, 0, i, h1, h2 => absurd h2 (by omega)
  | f + 1, f' + 1, i, h1, h2 => by
    unfold rdF
    cases hn : s[i]? with
    | none => rfl
    | some n =>
      simp only
      have hd := w.dec i n hn
      cases hl : n.lk with
      | some j =>
        have := hd.1 j hl
        exact rdF_stable w f f' j (by omega) (by omega)
      | none =>
        simp only
        cases hf : n.fr with
        | none => rfl
        | some a =>
          simp only
          cases ht : n.tk with
          | none => rfl
          | some t =>
            have h3 := hd.2.1 a hf
            have h4 := hd.2.2 t ht
            simp only
            rw [rdF_stable w f f' a (by omega) (by omega), rdF_stable w f f' t (by omega) (by omega)]
/-- The least solution. -/
def rho (s : List KN) (h : Nat → Nat) (i : Nat) : KT := rdF s (h i + 1) i
theorem rho_eq {s : List KN} {h : Nat → Nat} (w : WF s h) {f i : Nat} (hf : h i < f) : rdF s f i = rho s h i := rdF_stable w _ _ i hf (by omega)
theorem rho_sol {s : List KN} {h : Nat → Nat} (w : WF s h) : Sol s (rho s h) := by
  intro i n hn
  have hd := w.dec i n hn
  have e : rho s h i = match n.lk with
      | some j => rdF s (h i) j
      | none => match n.fr with
        | none => .o
        | some a => match n.tk with
          | none => .o
          | some t => .ar (rdF s (h i) a) (rdF s (h i) t) := by
    unfold rho
    rw [rdF, hn]
  refine ⟨fun j hj => ?_, fun hb => ?_, fun a t ha ht => ?_⟩
  · rw [e, hj]
    exact rho_eq w (hd.1 j hj)
  · rw [e]
    cases hl : n.lk with
    | some j =>
      have := (w.lnk i n hn (by rw [hl]; simp)).1
      rw [hb] at this
      cases this
    | none => simp only; rw [w.bas i n hn hb]
  · rw [e]
    cases hl : n.lk with
    | some j =>
      have := (w.lnk i n hn (by rw [hl]; simp)).2
      rw [ha] at this
      cases this
    | none =>
      simp only
      rw [ha, ht]
      simp only
      rw [rho_eq w (hd.2.1 a ha), rho_eq w (hd.2.2 t ht)]
theorem rdF_least {s : List KN} {ρ : Nat → KT} (hs : Sol s ρ) : ∀ (f i : Nat), (rdF s f i).le (ρ i)
  | 0, i => trivial
  | f + 1, i => by
    unfold rdF
    cases hn : s[i]? with
    | none => exact trivial
    | some n =>
      simp only
      cases hl : n.lk with
      | some j => rw [(hs i n hn).1 j hl]; exact rdF_least hs f j
      | none =>
        simp only
        cases hf : n.fr with
        | none => exact trivial
        | some a =>
          simp only
          cases ht : n.tk with
          | none => exact trivial
          | some t =>
            rw [(hs i n hn).2.2 a t hf ht]
            exact ⟨rdF_least hs f a, rdF_least hs f t⟩
theorem rho_least {s : List KN} {h : Nat → Nat} {ρ : Nat → KT} (hs : Sol s ρ) (i : Nat) : (rho s h i).le (ρ i) := rdF_least hs _ i
/-- Some open kinds more. -/
theorem push_bares (m : Nat) {s : List KN} {h : Nat → Nat} (w : WF s h) : Ext s (s ++ List.replicate m kbare) ∧ (∀ ρ, Sol (s ++ List.replicate m kbare) ρ ↔ Sol s ρ) := by
  induction m with
  | zero => rw [List.replicate_zero, List.append_nil]; exact ⟨Ext.refl w, fun _ => Iff.rfl⟩
  | succ m ih =>
    obtain ⟨x1, hS1⟩ := ih
    obtain ⟨h1, w1⟩ := x1.wf
    obtain ⟨x2, hS2⟩ := push_bare w1
    have e : s ++ List.replicate (m + 1) kbare = s ++ List.replicate m kbare ++ [kbare] := by rw [List.replicate_succ', List.append_assoc]
    rw [e]
    exact ⟨x1.trans x2, fun ρ => by rw [hS2, hS1]⟩
/-- What the heads come to. -/
structure Headed (s : List KN) (l : List S48) (pss : List (List Nat)) (ks : List Nat) (s' : List KN) : Prop where
  ext : Ext s s'
  lp : ∀ ps, ps ∈ pss → ∀ p, p ∈ ps → p < s'.length
  lk : ∀ k, k ∈ ks → k < s'.length
  many : pss.map List.length = l.map (fun x => x.f1.toNat)
  down : ∀ ρ, Sol s' ρ → ks.map ρ = pss.map (fun ps => ars (ps.map ρ) .o)
  up : ∀ ρ (As : List (List KT)), As.map List.length = l.map (fun x => x.f1.toNat) → Sol s ρ → ∃ ρ', (∀ i, i < s.length → ρ' i = ρ i) ∧ Sol s' ρ' ∧ pss.map (fun ps => ps.map ρ') = As
theorem heads_ok : ∀ (l : List S48) {s : List KN} {h : Nat → Nat}, WF s h → 0 < s.length → (∀ ρ, Sol s ρ → ρ 0 = .o) → Headed s l (fheads s l).1.1 (fheads s l).1.2 (fheads s l).2
  | [], s, h, w, hp, hz => ⟨Ext.refl w, (fun ps hp => by cases hp), (fun k hk => by cases hk), rfl, fun _ _ => rfl, fun ρ As hA hs => ⟨ρ, fun _ _ => rfl, hs, by
      cases As with
      | nil => rfl
      | cons a As => cases hA⟩⟩
  | x :: xs, s, h, w, hp, hz => by
    obtain ⟨x1, hS1⟩ := push_bares x.f1.toNat w
    obtain ⟨h1, w1⟩ := x1.wf
    have len1 : (s ++ List.replicate x.f1.toNat kbare).length = s.length + x.f1.toNat := by rw [List.length_append, List.length_replicate]
    have hr : ∀ p, p ∈ List.range' s.length x.f1.toNat → s.length ≤ p ∧ p < s.length + x.f1.toNat := fun p hp => by
      have := List.mem_range'_1.1 hp
      omega
    obtain ⟨x2, hk2, hA2, hE2⟩ := farrow_ok (List.range' s.length x.f1.toNat) w1 (k := 0) (by rw [len1]; omega) (fun p hp => by rw [len1]; exact (hr p hp).2)
    obtain ⟨h2, w2⟩ := x2.wf
    have hz2 : ∀ ρ, Sol (farrow (s ++ List.replicate x.f1.toNat kbare) 0 (List.range' s.length x.f1.toNat)).2 ρ → ρ 0 = .o := fun ρ hs => hz ρ ((hS1 ρ).1 (x2.down ρ hs))
    have I := heads_ok xs w2 (Nat.lt_of_lt_of_le (Nat.lt_of_lt_of_le hp x1.len) x2.len) hz2
    show Headed s (x :: xs) (List.range' s.length x.f1.toNat :: (fheads (farrow (s ++ List.replicate x.f1.toNat kbare) 0 (List.range' s.length x.f1.toNat)).2 xs).1.1) ((farrow (s ++ List.replicate x.f1.toNat kbare) 0 (List.range' s.length x.f1.toNat)).1 :: (fheads (farrow (s ++ List.replicate x.f1.toNat kbare) 0 (List.range' s.length x.f1.toNat)).2 xs).1.2) (fheads (farrow (s ++ List.replicate x.f1.toNat kbare) 0 (List.range' s.length x.f1.toNat)).2 xs).2
    generalize hfa : farrow (s ++ List.replicate x.f1.toNat kbare) 0 (List.range' s.length x.f1.toNat) = fa at *
    generalize fheads fa.2 xs = fh at *
    have l12 := x2.len
    rw [len1] at l12
    refine ⟨x1.trans (x2.trans I.ext), fun ps hps p hpp => ?_, fun k hk => ?_, ?_, fun ρ hs => ?_, fun ρ As hAs hs => ?_⟩
    · rcases List.mem_cons.1 hps with rfl | hps
      · have := (hr p hpp).2; have := I.ext.len; omega
      · exact I.lp ps hps p hpp
    · rcases List.mem_cons.1 hk with rfl | hk
      · exact Nat.lt_of_lt_of_le hk2 I.ext.len
      · exact I.lk k hk
    · rw [List.map_cons, List.map_cons, I.many, List.length_range']
    · have hs2 := I.ext.down ρ hs
      rw [List.map_cons, List.map_cons, I.down ρ hs, hA2 ρ hs2, hz2 ρ hs2]
    · cases As with
      | nil => cases hAs
      | cons A As =>
        rw [List.map_cons, List.map_cons] at hAs
        injection hAs with hA hAs
        have ag : ∀ i, i < s.length → (fun i => if s.length ≤ i then A.getD (i - s.length) .o else ρ i) i = ρ i := fun i hi => if_neg (by omega)
        have hs1 : Sol (s ++ List.replicate x.f1.toNat kbare) (fun i => if s.length ≤ i then A.getD (i - s.length) .o else ρ i) := (hS1 _).2 (Sol.agree w ag hs)
        obtain ⟨ρ2, ag2, hs2⟩ := hE2 _ hs1
        obtain ⟨ρ3, ag3, hs3, hm⟩ := I.up ρ2 As hAs hs2
        refine ⟨ρ3, fun i hi => ?_, hs3, ?_⟩
        · rw [ag3 i (by omega), ag2 i (by rw [len1]; omega)]
          exact ag i hi
        · rw [List.map_cons, hm]
          congr 1
          apply List.ext_getElem
          · rw [List.length_map, List.length_range', hA]
          · intro i h1 h2
            rw [List.getElem_map, List.getElem_range']
            rw [List.length_map, List.length_range'] at h1
            rw [ag3 _ (by omega), ag2 _ (by rw [len1]; omega)]
            rw [if_pos (by omega), show s.length + 1 * i - s.length = i from by omega, List.getD_eq_getElem?_getD, List.getElem?_eq_getElem h2]
            rfl
/-- All bodies have the sort o. -/
def Alls (syms : List S59) (funs : List Nat) (ρ : Nat → KT) : List (List Nat) → List S48 → Prop
  | _, [] => True
  | [], _ :: _ => False
  | ps :: pss, x :: xs => Ty (hdE ⟨0, syms, funs, ps⟩ ρ) x.f2 .o ∧ Alls syms funs ρ pss xs
theorem Alls_agree {syms : List S59} {funs : List Nat} {N : Nat} {ρ ρ' : Nat → KT} (ag : ∀ i, i < N → ρ' i = ρ i) (hf : ∀ p, p ∈ funs → p < N) : ∀ (pss : List (List Nat)) (l : List S48), (∀ ps, ps ∈ pss → ∀ p, p ∈ ps → p < N) → Alls syms funs ρ pss l → Alls syms funs ρ' pss l
  | _, [], _, _ => (by unfold Alls; trivial)
  | [], _ :: _, _, h => h
  | ps :: pss, x :: xs, hp, h => by
    refine ⟨?_, Alls_agree ag hf pss xs (fun q hq => hp q (List.mem_cons_of_mem _ hq)) h.2⟩
    have e : hdE ⟨0, syms, funs, ps⟩ ρ' = hdE ⟨0, syms, funs, ps⟩ ρ := by
      funext kd n
      unfold hdE
      by_cases h0 : n < 0
      · rw [if_pos h0, if_pos h0]
      · rw [if_neg h0, if_neg h0]
        by_cases h1 : kd = 0
        · rw [if_pos h1, if_pos h1]
          cases hq : ps[n.toNat]? with
          | none => rfl
          | some p => simp only [Option.map_some]; rw [ag p (hp ps List.mem_cons_self p (List.mem_of_getElem? hq))]
        · rw [if_neg h1, if_neg h1]
          by_cases h2 : kd = 1
          · rw [if_pos h2, if_pos h2]
            cases hq : funs[n.toNat]? with
            | none => rfl
            | some p => simp only [Option.map_some]; rw [ag p (hf p (List.mem_of_getElem? hq))]
          · rw [if_neg h2, if_neg h2]
    rw [e]
    exact h.1
theorem fbodies_le {syms : List S59} {funs : List Nat} {s : List KN} {pss : List (List Nat)} {l : List S48} {r : Bool × List KN} {f f' : Nat} (hf : f ≤ f') (h : fbodies syms funs f s pss l = some r) : fbodies syms funs f' s pss l = some r := by
  induction hf with
  | refl => exact h
  | step _ ih => exact fbodies_s _ _ _ _ _ _ _ ih
theorem bodies_ok {syms : List S59} {funs : List Nat} : ∀ (l : List S48) (pss : List (List Nat)) {s : List KN} {h : Nat → Nat}, WF s h → 0 < s.length → (∀ ρ, Sol s ρ → ρ 0 = .o) → (∀ p, p ∈ funs → p < s.length) → (∀ ps, ps ∈ pss → ∀ p, p ∈ ps → p < s.length) → pss.map List.length = l.map (fun x => x.f1.toNat) →
    (∀ x, x ∈ l → knownS x.f2 x.f1.toNat funs.length syms.length = true) →
    ∃ f b s', fbodies syms funs f s pss l = some (b, s') ∧ (b = true → Ext s s' ∧ (∀ ρ, Sol s' ρ → Alls syms funs ρ pss l) ∧ (∀ ρ, Sol s ρ → Alls syms funs ρ pss l → ∃ ρ', (∀ i, i < s.length → ρ' i = ρ i) ∧ Sol s' ρ')) ∧ (b = false → ∀ ρ, Sol s ρ → ¬ Alls syms funs ρ pss l)
  | [], pss, s, h, w, hp, hz, hf, hps, hm, hk => ⟨0, true, s, by unfold fbodies; rfl, fun _ => ⟨Ext.refl w, fun _ _ => (by unfold Alls; trivial), fun ρ hs _ => ⟨ρ, fun _ _ => rfl, hs⟩⟩, fun e => (by cases e)⟩
  | x :: xs, [], s, h, w, hp, hz, hf, hps, hm, hk => by cases hm
  | x :: xs, ps :: pss, s, h, w, hp, hz, hf, hps, hm, hk => by
    rw [List.map_cons, List.map_cons] at hm
    injection hm with hm0 hm
    have e : FEok ⟨0, syms, funs, ps⟩ s := ⟨rfl, hp, hz, hf, hps ps List.mem_cons_self⟩
    obtain ⟨f1, r1, s1, hf1, T⟩ := term_ok (E := ⟨0, syms, funs, ps⟩) x.f2 w e (by
      have := hk x List.mem_cons_self
      rw [← hm0] at this
      exact this)
    cases r1 with
    | none =>
      refine ⟨f1, false, s1, ?_, fun e => (by cases e), fun _ ρ hs ha => T.no rfl ρ .o hs ha.1⟩
      unfold fbodies
      rw [hf1]
    | some k =>
      obtain ⟨hk1, x1, d1, u1⟩ := T.yes k rfl
      obtain ⟨h1, w1⟩ := x1.wf
      obtain ⟨fj, rj, sj, hj, J⟩ := join_ok w1 (a := k) (b := 0) hk1 (Nat.lt_of_lt_of_le hp x1.len)
      cases rj with
      | false =>
        refine ⟨max f1 fj, false, sj, ?_, fun e => (by cases e), fun _ ρ hs ha => ?_⟩
        · unfold fbodies
          rw [fterm_le (Nat.le_max_left f1 fj) hf1]
          simp only
          rw [fjoin_le (Nat.le_max_right f1 fj) hj]
        · obtain ⟨ρ', ag, hs', hkt⟩ := u1 ρ .o hs ha.1
          exact J.no rfl ρ' hs' (by rw [hkt, hz ρ' (x1.down ρ' hs')])
      | true =>
        obtain ⟨h2, w2, _⟩ := J.yes rfl
        have hS := J.sol rfl
        have lenj : sj.length = s1.length := by
          have sh := fjoin_shape fj _ k 0 true sj hj
          have g := fun q => congrArg Option.isSome (sh q)
          simp only [Option.isSome_map] at g
          by_cases hlt : sj.length < s1.length
          · have := g sj.length
            rw [List.getElem?_eq_none (Nat.le_refl _), List.getElem?_eq_getElem hlt] at this
            cases this
          · by_cases hgt : s1.length < sj.length
            · have := g s1.length
              rw [List.getElem?_eq_none (Nat.le_refl _), List.getElem?_eq_getElem hgt] at this
              cases this
            · omega
        have x2 : Ext s sj := ⟨by rw [lenj]; exact x1.len, ⟨h2, w2⟩, fun ρ hs => x1.down ρ ((hS ρ).1 hs).1⟩
        have l2 := x2.len
        obtain ⟨f2, b, s', hf2, Y, N⟩ := bodies_ok xs pss w2 (Nat.lt_of_lt_of_le hp l2) (fun ρ hs => hz ρ (x2.down ρ hs)) (fun p hp => Nat.lt_of_lt_of_le (hf p hp) l2) (fun q hq p hp => Nat.lt_of_lt_of_le (hps q (List.mem_cons_of_mem _ hq) p hp) l2) hm (fun y hy => hk y (List.mem_cons_of_mem _ hy))
        have hm1 : f1 ≤ max f1 (max fj f2) := Nat.le_max_left _ _
        have hm2 : fj ≤ max f1 (max fj f2) := Nat.le_trans (Nat.le_max_left _ _) (Nat.le_max_right _ _)
        have hm3 : f2 ≤ max f1 (max fj f2) := Nat.le_trans (Nat.le_max_right _ _) (Nat.le_max_right _ _)
        have step : ∀ ρ, Sol s ρ → Ty (hdE ⟨0, syms, funs, ps⟩ ρ) x.f2 .o → ∃ ρ', (∀ i, i < s.length → ρ' i = ρ i) ∧ Sol sj ρ' := by
          intro ρ hs ht
          obtain ⟨ρ', ag, hs', hkt⟩ := u1 ρ .o hs ht
          exact ⟨ρ', ag, (hS ρ').2 ⟨hs', by rw [hkt, hz ρ' (x1.down ρ' hs')]⟩⟩
        have hpss : ∀ q, q ∈ pss → ∀ p, p ∈ q → p < s.length := fun q hq => hps q (List.mem_cons_of_mem _ hq)
        refine ⟨max f1 (max fj f2), b, s', ?_, fun hb => ?_, fun hb ρ hs ha => ?_⟩
        · unfold fbodies
          rw [fterm_le hm1 hf1]
          simp only
          rw [fjoin_le hm2 hj]
          exact fbodies_le hm3 hf2
        · obtain ⟨y1, y2, y3⟩ := Y hb
          refine ⟨x2.trans y1, fun ρ hs => ⟨?_, y2 ρ hs⟩, fun ρ hs ha => ?_⟩
          · have hs1 := (hS ρ).1 (y1.down ρ hs)
            have := d1 ρ hs1.1
            rw [hs1.2, hz ρ (x1.down ρ hs1.1)] at this
            exact this
          · obtain ⟨ρ1, ag1, hs1⟩ := step ρ hs ha.1
            obtain ⟨ρ2, ag2, hs2⟩ := y3 ρ1 hs1 (Alls_agree ag1 hf pss xs hpss ha.2)
            exact ⟨ρ2, fun i hi => (ag2 i (Nat.lt_of_lt_of_le hi l2)).trans (ag1 i hi), hs2⟩
        · obtain ⟨ρ1, ag1, hs1⟩ := step ρ hs ha.1
          exact N hb ρ1 hs1 (Alls_agree ag1 hf pss xs hpss ha.2)
end Go.Proofs.Ytfhgoebgnilfaaa.I
