/- Texts of this session's proof, laid together: I7, IS1, IX1, IT1, IT2, IT3, IT4, IP1, IP2, IP3, IPC, IP4, IX2. -/
import Derived.Deep.RegionLaw
import Derived.Deep.DeepMust
import Derived.Test.YtfhgoebgnilfaaaU3
namespace Go.Proofs.Ytfhgoebgnilfaaa.I
open Go.RowKit Go.Proofs.YtfhgoebgnilfaaaW.PrintWords Go.Proofs.YtfhgoebgnilfaaaW.PrintLast Go.Proofs.YtfhgoebgnilfaaaW.PrintMore
attribute [local go_sem] max2_int min2_int max_two min_two max_three min_three max_four min_four   -- for this text's walks alone
set_option linter.unusedVariables false
set_option linter.unusedSimpArgs false
mutual
def virgationref01_Equal.l0 : Nat → Int → Int → List (S41) → List (S41) → Option (Bool)
  | 0, _, _, _, _ => none
  | k + 1, x15, x16, x187000, x188000 => if x16 < x15 then (if 0 ≤ x16 then (if x16 < (x187000.length : Int) then (if x16 < (x188000.length : Int) then ((virgationref01_Equal.f k ((rd_T41 x187000 x16).f0) ((rd_T41 x188000 x16).f0)).bind fun t190 => (if t190 = true then (virgationref01_Equal.l0 k x15 (wrap64 (x16 + 1)) x187000 x188000) else (some false))) else (none)) else (none)) else (none)) else (some true)
def virgationref01_Equal.f : Nat → List (S41) → List (S41) → Option (Bool)
  | 0, _, _ => none
  | k + 1, l0_0, l1_0 => if (l0_0.length : Int) = (l1_0.length : Int) then (virgationref01_Equal.l0 k (l0_0.length : Int) 0 l0_0 l1_0) else (some false)
end
def virgationref01_Equal.T6 : Bool × List (List Nat × List Nat) := (true, [([], []), ([0], [0]), ([], []), ([1, 2], [1, 2]), ([3], [3]), ([], []), ([5], [5]), ([], []), ([6, 7], [6, 7]), ([8], [8]), ([4, 9], [4, 9]), ([10], [10])])
def virgationref01_Equal.B6 : List Nat := [0, 1, 0, 7, 15, 0, 32, 0, 224, 480, 1023, 2047]
theorem virgationref01_Equal.tab6 : rtab .any (opsOf Try.f64 6) = virgationref01_Equal.T6 := by kernel_rfl
theorem virgationref01_Equal.bits6 : waitsOk virgationref01_Equal.T6.2 virgationref01_Equal.B6 = true := by kernel_rfl
set_option maxHeartbeats 8000000 in
set_option maxRecDepth 100000 in
theorem virgationref01_Equal.calls (k : Nat) : ∀ (A0_0 : Option Addr) (c0_0 : Nat) (l0_0 : List (S41)) (A1_0 : Option Addr) (c1_0 : Nat) (l1_0 : List (S41)) (r : Bool) (w : World) (hr0_0 : Kd.C k41 w A0_0 l0_0.length l0_0) (hc0_0 : l0_0.length ≤ c0_0) (hr1_0 : Kd.C k41 w A1_0 l1_0.length l1_0) (hc1_0 : l1_0.length ≤ c1_0) (h : virgationref01_Equal.f k l0_0 l1_0 = some r),
    Calls Try.prog 64 #[.agg #[.slice A0_0 l0_0.length c0_0], .agg #[.slice A1_0 l1_0.length c1_0]] w fun e w' => e = .returned (.bool r) ∧ Below w.heap.size w w' := by
  induction k using Nat.strongRecOn with
  | _ k ih =>
  intro A0_0 c0_0 l0_0 A1_0 c1_0 l1_0 r w hr0_0 hc0_0 hr1_0 hc1_0 h
  cases k with
  | zero => exact absurd h (by simp [virgationref01_Equal.f])
  | succ k =>
  simp only [virgationref01_Equal.f] at h
  have hu41 := Try.underlying41
  have HR0_0 := Aside0.mk hr0_0
  have HC0_0 := Aside0.mk hc0_0
  clear hr0_0 hc0_0
  have HR1_0 := Aside0.mk hr1_0
  have HC1_0 := Aside0.mk hc1_0
  clear hr1_0 hc1_0
  have HB := Aside0.mk (Below.refl w.heap.size w)
  have H : (if (l0_0.length : Int) = (l1_0.length : Int) then (virgationref01_Equal.l0 k (l0_0.length : Int) 0 l0_0 l1_0) else (some false)) = some r := h
  clear h
  by_cases c3 : (l0_0.length : Int) = (l1_0.length : Int)
  · rw [if_pos c3] at H
    have c3b0 : ((l0_0.length : Int) == (l1_0.length : Int)) = true := beq_iff_eq.mpr c3
    have c3b1 : ((l0_0.length : Int) != (l1_0.length : Int)) = false := bne_eq_false_iff_eq.mpr c3
    have c3b2 : (l0_0.length == l1_0.length) = true := by first | simpa using c3 | (simp at c3 ⊢; omega)
    clear c3
    have H' := Aside0.mk H
    clear H
    go_enter Try.func64, Try.ntmps64
    go_wp2_with (first | ((with_reducible refine gate_dst (N := 2) rfl ?_); refine box_event ?hg (N := 2) ?hd (cs := #[.slice A0_0 l0_0.length c0_0]) (t := 41) ?hr ?_; (case hd => rfl); (case hg => rfl); (case hr => first | (go_simp; done) | (go_simp; rfl)); intro gb186 hg w4 hbox hb; have n0_ := Aside0.mk (below_step (by repeat (first | (with_reducible first | exact HB.out | apply below_alloc | apply pw_below_drewN | apply below_drew1) | exact HB.out)) hb); have n1_ := Aside0.mk (hbox); have n2_ := Aside0.mk ((by rw [hg]; exact (below_size (by repeat (first | (with_reducible first | exact HB.out | apply below_alloc | apply pw_below_drewN | apply below_drew1) | exact HB.out))) : w.heap.size ≤ gb186)); have n3_ := Aside0.mk ((by rw [hg]; exact (below_size (by repeat (first | (with_reducible first | exact HB.out | apply below_alloc | apply pw_below_drewN | apply below_drew1) | exact HB.out))) : w.heap.size ≤ gb186)); clear HB; have HB := n0_; have BK186 := n1_; have GW186 := n2_; have GE186 := n3_; clear n0_ n1_ n2_ n3_; clear hb hbox hg) | ((with_reducible refine gate_dst (N := 3) rfl ?_); refine box_event ?hg (N := 3) ?hd (cs := #[.slice A1_0 l1_0.length c1_0]) (t := 41) ?hr ?_; (case hd => rfl); (case hg => rfl); (case hr => first | (go_simp; done) | (go_simp; rfl)); intro gb187 hg w5 hbox hb; have n0_ := Aside0.mk (blk_below (g := gb186) (o := .cells #[.slice A0_0 l0_0.length c0_0] 41 (0, 0)) (by (with_reducible repeat (first | refine blk_drewN ?_ _ | refine blk_drew ?_ | refine blk_alloc ?_ _)); exact BK186.out) hb); have n1_ := Aside0.mk (below_step (by repeat (first | (with_reducible first | exact HB.out | apply below_alloc | apply pw_below_drewN | apply below_drew1 | refine below_set ?_ GE186.out) | exact HB.out)) hb); have n2_ := Aside0.mk (hbox); have n3_ := Aside0.mk ((by rw [hg]; exact (below_size (by repeat (first | (with_reducible first | exact HB.out | apply below_alloc | apply pw_below_drewN | apply below_drew1 | refine below_set ?_ GE186.out) | exact HB.out))) : w.heap.size ≤ gb187)); have n4_ := Aside0.mk ((by rw [hg]; exact (below_size (by repeat (first | (with_reducible first | exact HB.out | apply below_alloc | apply pw_below_drewN | apply below_drew1 | refine below_set ?_ GE186.out) | exact HB.out))) : w.heap.size ≤ gb187)); have n5_ := Aside0.mk ((by rw [hg]; exact Nat.ne_of_lt (blk_lt (g := gb186) (o := .cells #[.slice A0_0 l0_0.length c0_0] 41 (0, 0)) (by (with_reducible repeat (first | refine blk_drewN ?_ _ | refine blk_drew ?_ | refine blk_alloc ?_ _)); exact BK186.out)) : gb186 ≠ gb187)); have n6_ := Aside0.mk ((by rw [hg]; exact Nat.ne_of_gt (blk_lt (g := gb186) (o := .cells #[.slice A0_0 l0_0.length c0_0] 41 (0, 0)) (by (with_reducible repeat (first | refine blk_drewN ?_ _ | refine blk_drew ?_ | refine blk_alloc ?_ _)); exact BK186.out)) : gb187 ≠ gb186)); clear BK186; clear HB; have BK186 := n0_; have HB := n1_; have BK187 := n2_; have GW187 := n3_; have GE187 := n4_; have NB186_187 := n5_; have NB187_186 := n6_; clear n0_ n1_ n2_ n3_ n4_ n5_ n6_; clear hb hbox hg; have hnb6 := NB186_187.out; have hnc6 := NB187_186.out; have hcz7_0 : w5.cell? ⟨gb186, 0, none⟩ = some (.slice A0_0 l0_0.length c0_0) := (blk_cell BK186.out 0).trans rfl; have hfz7_0 := blk_frozen BK186.out 0; have hcz8_0 : w5.cell? ⟨gb187, 0, none⟩ = some (.slice A1_0 l1_0.length c1_0) := (blk_cell BK187.out 0).trans rfl; have hfz8_0 := blk_frozen BK187.out 0))
    go_loopg [16] k (fun kq v16 w' => ∃ (x16_1 : Int), v16 = .int .i64 x16_1 ∧ Aside0 (virgationref01_Equal.l0 kq (l0_0.length : Int) x16_1 l0_0 l1_0 = some r) ∧ Aside0 (kq ≤ k) ∧ Aside0 (w'.heap[gb186]? = some (.cells #[(.slice A0_0 l0_0.length c0_0)] 41 (0, 0))) ∧ Aside0 (w'.heap[gb187]? = some (.cells #[(.slice A1_0 l1_0.length c1_0)] 41 (0, 0))) ∧ Aside0 (Below w.heap.size w w'))
    case atStart => exact ⟨(0), (by first | rfl | (simp; done) | (simp [*]; done)), H', ⟨Nat.le_refl _⟩, ⟨by (with_reducible repeat (first | refine blk_drewN ?_ _ | refine blk_drew ?_ | refine blk_alloc ?_ _)); exact BK186.out⟩, ⟨by (with_reducible repeat (first | refine blk_drewN ?_ _ | refine blk_drew ?_ | refine blk_alloc ?_ _)); exact BK187.out⟩, ⟨by repeat (first | (with_reducible first | exact HB.out | apply below_alloc | apply pw_below_drewN | apply below_drew1 | refine below_set ?_ GE186.out | refine below_set ?_ GE187.out) | exact HB.out)⟩⟩
    case round =>
      clear H'
      try clear c1
      try clear p2
      try clear c3
      try clear c3b0
      try clear c3b1
      try clear c3b2
      try clear c6
      try clear hcz7_0
      try clear hcz8_0
      try clear hfz7_0
      try clear hfz8_0
      obtain ⟨x16_1, rfl, HA, HK1, BK186, BK187, HB⟩ := hrel
      cases gk with
      | zero => exact absurd HA.out (by simp [virgationref01_Equal.l0])
      | succ k1 =>
        have H := HA.out
        clear HA
        simp only [virgationref01_Equal.l0] at H
        by_cases c9 : x16_1 < (l0_0.length : Int)
        · rw [if_pos c9] at H
          have c9b0 : decide (x16_1 < (l0_0.length : Int)) = true := decide_eq_true c9
          clear c9
          by_cases c10 : 0 ≤ x16_1
          · rw [if_pos c10] at H
            have c10b0 : decide (0 ≤ x16_1) = true := decide_eq_true c10
            clear c10
            by_cases c11 : x16_1 < (l0_0.length : Int)
            · rw [if_pos c11] at H
              have c11b0 : decide (x16_1 < (l0_0.length : Int)) = true := decide_eq_true c11
              clear c11
              by_cases c12 : x16_1 < (l1_0.length : Int)
              · rw [if_pos c12] at H
                have c12b0 : decide (x16_1 < (l1_0.length : Int)) = true := decide_eq_true c12
                clear c12
                replace H := Option.bind_eq_some_iff.mp H
                obtain ⟨t190, A130, H⟩ := H
                replace H : (if t190 = true then (virgationref01_Equal.l0 k1 (l0_0.length : Int) (wrap64 (x16_1 + 1)) l0_0 l1_0) else (some false)) = some r := H
                have A13 := Aside0.mk A130
                clear A130
                by_cases c14 : t190 = true
                · subst c14
                  have H1 : (virgationref01_Equal.l0 k1 (l0_0.length : Int) (wrap64 (x16_1 + 1)) l0_0 l1_0) = some r := by rw [if_pos rfl] at H; exact H
                  clear H
                  have H := H1
                  clear H1
                  have H' := Aside0.mk H
                  clear H
                  try go_wp2
                  have n0_ := Aside0.mk (blk_drew BK186.out)
                  have n1_ := Aside0.mk (blk_drew BK187.out)
                  have n2_ := Aside0.mk (below_drew1 HB.out)
                  clear BK186
                  clear BK187
                  clear HB
                  have BK186 := n0_
                  have BK187 := n1_
                  have HB := n2_
                  clear n0_ n1_ n2_
                  have p188 : 0 ≤ (x16_1 : Int) := of_decide_eq_true (by first | (with_reducible assumption) | assumption)
                  have q188 : x16_1 < (l0_0.length : Int) := of_decide_eq_true (by first | (with_reducible assumption) | assumption)
                  obtain ⟨ad188, A188_0, c188_0, e188, hx188_0, hl188_0, hi188_0⟩ := at_T41 HR0_0.out x16_1 p188 q188
                  have hw188_0 := hx188_0
                  cases e188
                  replace hx188_0 := (HB.out.cell (World.block_lt_of_cell? w _ hx188_0)).trans hx188_0
                  have HR188_0 := Aside0.mk hi188_0
                  have HC188_0 := Aside0.mk hl188_0
                  clear hi188_0 hl188_0
                  replace p188 := eq_true p188
                  replace q188 := eq_true q188
                  have p189 : 0 ≤ (x16_1 : Int) := of_decide_eq_true (by first | (with_reducible assumption) | assumption)
                  have q189 : x16_1 < (l1_0.length : Int) := of_decide_eq_true (by first | (with_reducible assumption) | assumption)
                  obtain ⟨ad189, A189_0, c189_0, e189, hx189_0, hl189_0, hi189_0⟩ := at_T41 HR1_0.out x16_1 p189 q189
                  have hw189_0 := hx189_0
                  cases e189
                  replace hx189_0 := (HB.out.cell (World.block_lt_of_cell? w _ hx189_0)).trans hx189_0
                  have HR189_0 := Aside0.mk hi189_0
                  have HC189_0 := Aside0.mk hl189_0
                  clear hi189_0 hl189_0
                  replace p189 := eq_true p189
                  replace q189 := eq_true q189
                  refine start_ (n := 12) (S := fun w' => w'.cell? ⟨gb186, 0, none⟩ = some (.slice (some ad188) l0_0.length c0_0) ∧ w'.cell? ⟨gb187, 0, none⟩ = some (.slice (some ad189) l1_0.length c1_0) ∧ w'.cell? (ad188.add (x16_1).toNat) = some (.slice A188_0 ((rd_T41 l0_0 x16_1).f0).length c188_0) ∧ w'.cell? (ad189.add (x16_1).toNat) = some (.slice A189_0 ((rd_T41 l1_0 x16_1).f0).length c189_0)) (ds := []) #[false, false, false, false, false, false, false, false, false, false, false, false] (by kernel_rfl) rfl rfl ⟨(blk_cell BK186.out 0).trans rfl, (blk_cell BK187.out 0).trans rfl, ((HB.out.cell (World.block_lt_of_cell? w _ hw188_0)).trans hw188_0), ((HB.out.cell (World.block_lt_of_cell? w _ hw189_0)).trans hw189_0)⟩ (fun hHeld => ?_); refine with_tabW virgationref01_Equal.tab6 virgationref01_Equal.bits6 (fun HT_ HW_ => ?_)
                  generalize wr.drew = w15 at BK186 BK187 HB HR188_0 HR189_0 hx188_0 hx189_0 hHeld ⊢
                  refine pure_ (i := 0) (N := some 19) (v := ?_) (a' := ?_) #[true, false, false, false, false, false, false, false, false, false, false, false] rfl rfl (any_of HT_.out (by kernel_rfl)) (fun _ _ _ h => h) (Or.inl ⟨by rfl, ?_⟩) ?_ ?_
                  rotate_left
                  · intro w'
                    go_simp
                    with_reducible rfl
                  rotate_left
                  · simp only [Act.put, List.setIfInBounds_toArray, List.set_cons_zero, List.set_cons_succ, i64_w, i32_w]
                    rfl
                  refine pure_ (i := 2) (N := some 21) (v := ?_) (a' := ?_) #[true, false, true, false, false, false, false, false, false, false, false, false] rfl rfl (any_of HT_.out (by kernel_rfl)) (fun _ _ _ h => h) (Or.inl ⟨by rfl, ?_⟩) ?_ ?_
                  rotate_left
                  · intro w'
                    go_simp
                    with_reducible rfl
                  rotate_left
                  · simp only [Act.put, List.setIfInBounds_toArray, List.set_cons_zero, List.set_cons_succ, i64_w, i32_w]
                    rfl
                  refine pure_ (i := 5) (N := some 24) (v := ?_) (a' := ?_) #[true, false, true, false, false, true, false, false, false, false, false, false] rfl rfl (any_of HT_.out (by kernel_rfl)) (fun _ _ _ h => h) (Or.inl ⟨by rfl, ?_⟩) ?_ ?_
                  rotate_left
                  · intro w'
                    go_simp
                    with_reducible rfl
                  rotate_left
                  · simp only [Act.put, List.setIfInBounds_toArray, List.set_cons_zero, List.set_cons_succ, i64_w, i32_w]
                    rfl
                  refine pure_ (i := 7) (N := some 26) (v := ?_) (a' := ?_) #[true, false, true, false, false, true, false, true, false, false, false, false] rfl rfl (any_of HT_.out (by kernel_rfl)) (fun _ _ _ h => h) (Or.inl ⟨by rfl, ?_⟩) ?_ ?_
                  rotate_left
                  · intro w'
                    go_simp
                    with_reducible rfl
                  rotate_left
                  · simp only [Act.put, List.setIfInBounds_toArray, List.set_cons_zero, List.set_cons_succ, i64_w, i32_w]
                    rfl
                  refine take_ (i := 1) (N := some 20) (v := ?_) (a' := ?_) #[true, true, true, false, false, true, false, true, false, false, false, false] rfl rfl (take_ofW HT_.out HW_.out (by kernel_rfl)) (fun _ _ _ h => h) (Or.inl ⟨by rfl, ?_⟩) hHeld ?_ ?_
                  rotate_left
                  · rintro w' ⟨s0, s1, s2, s3⟩
                    go_simp
                    with_reducible rfl
                  rotate_left
                  · simp only [Act.put, List.setIfInBounds_toArray, List.set_cons_zero, List.set_cons_succ, i64_w, i32_w]
                    rfl
                  refine pure_ (i := 3) (N := some 22) (v := ?_) (a' := ?_) #[true, true, true, true, false, true, false, true, false, false, false, false] rfl rfl (any_of HT_.out (by kernel_rfl)) (fun _ _ _ h => h) (Or.inl ⟨by rfl, ?_⟩) ?_ ?_
                  rotate_left
                  · intro w'
                    go_simp
                    with_reducible rfl
                  rotate_left
                  · simp only [Act.put, List.setIfInBounds_toArray, List.set_cons_zero, List.set_cons_succ, i64_w, i32_w]
                    rfl
                  refine take_ (i := 4) (N := some 23) (v := ?_) (a' := ?_) #[true, true, true, true, true, true, false, true, false, false, false, false] rfl rfl (take_ofW HT_.out HW_.out (by kernel_rfl)) (fun _ _ _ h => h) (Or.inl ⟨by rfl, ?_⟩) hHeld ?_ ?_
                  rotate_left
                  · rintro w' ⟨s0, s1, s2, s3⟩
                    go_simp
                    with_reducible rfl
                  rotate_left
                  · simp only [Act.put, List.setIfInBounds_toArray, List.set_cons_zero, List.set_cons_succ, i64_w, i32_w]
                    rfl
                  refine take_ (i := 6) (N := some 25) (v := ?_) (a' := ?_) #[true, true, true, true, true, true, true, true, false, false, false, false] rfl rfl (take_ofW HT_.out HW_.out (by kernel_rfl)) (fun _ _ _ h => h) (Or.inl ⟨by rfl, ?_⟩) hHeld ?_ ?_
                  rotate_left
                  · rintro w' ⟨s0, s1, s2, s3⟩
                    go_simp
                    with_reducible rfl
                  rotate_left
                  · simp only [Act.put, List.setIfInBounds_toArray, List.set_cons_zero, List.set_cons_succ, i64_w, i32_w]
                    rfl
                  refine pure_ (i := 8) (N := some 27) (v := ?_) (a' := ?_) #[true, true, true, true, true, true, true, true, true, false, false, false] rfl rfl (any_of HT_.out (by kernel_rfl)) (fun _ _ _ h => h) (Or.inl ⟨by rfl, ?_⟩) ?_ ?_
                  rotate_left
                  · intro w'
                    go_simp
                    with_reducible rfl
                  rotate_left
                  · simp only [Act.put, List.setIfInBounds_toArray, List.set_cons_zero, List.set_cons_succ, i64_w, i32_w]
                    rfl
                  refine take_ (i := 9) (N := some 28) (v := ?_) (a' := ?_) #[true, true, true, true, true, true, true, true, true, true, false, false] rfl rfl (take_ofW HT_.out HW_.out (by kernel_rfl)) (fun _ _ _ h => h) (Or.inl ⟨by rfl, ?_⟩) hHeld ?_ ?_
                  rotate_left
                  · rintro w' ⟨s0, s1, s2, s3⟩
                    go_simp
                    with_reducible rfl
                  rotate_left
                  · simp only [Act.put, List.setIfInBounds_toArray, List.set_cons_zero, List.set_cons_succ, i64_w, i32_w]
                    rfl
                  refine one_ (i := 10) (N := some 29) #[true, true, true, true, true, true, true, true, true, true, true, false] rfl rfl (one_of HT_.out (by kernel_rfl)) (by decide) (fun K hK => ?_)
                  refine goes_ Try.func64 (by kernel_rfl) rfl #[.agg #[.slice A188_0 ((rd_T41 l0_0 x16_1).f0).length c188_0], .agg #[.slice A189_0 ((rd_T41 l1_0 x16_1).f0).length c189_0]] (by rfl) rfl rfl (by (try simp only [List.map_toArray, List.map_cons, List.map_nil]); first | done | rfl | (simp only [List.length_drop, List.length_take]; rfl)) ?_
                  with_reducible refine (ih k1 (by have := HK1.out; omega) _ _ ((rd_T41 l0_0 x16_1).f0) _ _ ((rd_T41 l1_0 x16_1).f0) true _ ?side1 ?side2 ?side3 ?side4 A13.out).mono ?_
                  (case side1 => repeat (first | exact (Kd.C_below HR188_0.out HB.out) | (with_reducible refine Kd.C_alloc ?_ _) | (with_reducible refine Kd.C_drewN ?_ _) | (with_reducible refine Kd.C_drew ?_)))
                  (case side2 => exact HC188_0.out)
                  (case side3 => repeat (first | exact (Kd.C_below HR189_0.out HB.out) | (with_reducible refine Kd.C_alloc ?_ _) | (with_reducible refine Kd.C_drewN ?_ _) | (with_reducible refine Kd.C_drew ?_)))
                  (case side4 => exact HC189_0.out)
                  rintro e w16 ⟨rfl, hb⟩
                  refine ⟨_, rfl, ?_⟩
                  have n0_ := Aside0.mk (blk_below (g := gb186) (o := .cells #[.slice (some ad188) l0_0.length c0_0] 41 (0, 0)) (by (with_reducible repeat (first | refine blk_drewN ?_ _ | refine blk_drew ?_ | refine blk_alloc ?_ _)); exact BK186.out) hb)
                  have n1_ := Aside0.mk (blk_below (g := gb187) (o := .cells #[.slice (some ad189) l1_0.length c1_0] 41 (0, 0)) (by (with_reducible repeat (first | refine blk_drewN ?_ _ | refine blk_drew ?_ | refine blk_alloc ?_ _)); exact BK187.out) hb)
                  have n2_ := Aside0.mk (below_step (by repeat (first | (with_reducible first | exact HB.out | apply below_alloc | apply pw_below_drewN | apply below_drew1 | refine below_set ?_ GE186.out | refine below_set ?_ GE187.out) | exact HB.out)) hb)
                  clear BK186
                  clear BK187
                  clear HB
                  have BK186 := n0_
                  have BK187 := n1_
                  have HB := n2_
                  clear n0_ n1_ n2_
                  (try clear hb)
                  (try clear hb2)
                  (try clear hk)
                  (try clear hi)
                  refine hK.out _ _ ⟨(blk_cell BK186.out 0).trans rfl, (blk_cell BK187.out 0).trans rfl, ((HB.out.cell (World.block_lt_of_cell? w _ hw188_0)).trans hw188_0), ((HB.out.cell (World.block_lt_of_cell? w _ hw189_0)).trans hw189_0)⟩ (fun hHeld => ?_)
                  clear hK K
                  refine norm_ (a' := ?_) ?_ ?_
                  rotate_left
                  · show Act.put _ (some 29) _ = _
                    simp only [Act.put, List.setIfInBounds_toArray, List.set_cons_zero, List.set_cons_succ, i64_w, i32_w]
                    rfl
                  refine pure_ (i := 11) (N := some 30) (v := ?_) (a' := ?_) #[true, true, true, true, true, true, true, true, true, true, true, true] rfl rfl (any_of HT_.out (by kernel_rfl)) (fun _ _ _ h => h) (Or.inl ⟨by rfl, ?_⟩) ?_ ?_
                  rotate_left
                  · intro w'
                    go_simp
                    with_reducible rfl
                  rotate_left
                  · simp only [Act.put, List.setIfInBounds_toArray, List.set_cons_zero, List.set_cons_succ, i64_w, i32_w]
                    rfl
                  refine done_ (done_of HT_.out (by kernel_rfl)) ?_
                  try go_wp2
                  go_roundg k1
                  case measure => have := HK1.out; omega
                  case rel => exact ⟨(wrap64 (x16_1 + 1)), (by first | rfl | (simp; done) | (simp [*]; done)), H', ⟨by have := HK1.out; omega⟩, ⟨by (with_reducible repeat (first | refine blk_drewN ?_ _ | refine blk_drew ?_ | refine blk_alloc ?_ _)); exact BK186.out⟩, ⟨by (with_reducible repeat (first | refine blk_drewN ?_ _ | refine blk_drew ?_ | refine blk_alloc ?_ _)); exact BK187.out⟩, ⟨by repeat (first | (with_reducible first | exact HB.out | apply below_alloc | apply pw_below_drewN | apply below_drew1 | refine below_set ?_ GE186.out | refine below_set ?_ GE187.out) | exact HB.out)⟩⟩
                · replace c14 := Bool.eq_false_iff.mpr c14
                  subst c14
                  have H1 : (some false) = some r := by rw [if_neg (show ¬ (false = true) by decide)] at H; exact H
                  clear H
                  have H := H1
                  clear H1
                  obtain rfl := Option.some.inj H
                  try go_wp2
                  have n0_ := Aside0.mk (blk_drew BK186.out)
                  have n1_ := Aside0.mk (blk_drew BK187.out)
                  have n2_ := Aside0.mk (below_drew1 HB.out)
                  clear BK186
                  clear BK187
                  clear HB
                  have BK186 := n0_
                  have BK187 := n1_
                  have HB := n2_
                  clear n0_ n1_ n2_
                  have p188 : 0 ≤ (x16_1 : Int) := of_decide_eq_true (by first | (with_reducible assumption) | assumption)
                  have q188 : x16_1 < (l0_0.length : Int) := of_decide_eq_true (by first | (with_reducible assumption) | assumption)
                  obtain ⟨ad188, A188_0, c188_0, e188, hx188_0, hl188_0, hi188_0⟩ := at_T41 HR0_0.out x16_1 p188 q188
                  have hw188_0 := hx188_0
                  cases e188
                  replace hx188_0 := (HB.out.cell (World.block_lt_of_cell? w _ hx188_0)).trans hx188_0
                  have HR188_0 := Aside0.mk hi188_0
                  have HC188_0 := Aside0.mk hl188_0
                  clear hi188_0 hl188_0
                  replace p188 := eq_true p188
                  replace q188 := eq_true q188
                  have p189 : 0 ≤ (x16_1 : Int) := of_decide_eq_true (by first | (with_reducible assumption) | assumption)
                  have q189 : x16_1 < (l1_0.length : Int) := of_decide_eq_true (by first | (with_reducible assumption) | assumption)
                  obtain ⟨ad189, A189_0, c189_0, e189, hx189_0, hl189_0, hi189_0⟩ := at_T41 HR1_0.out x16_1 p189 q189
                  have hw189_0 := hx189_0
                  cases e189
                  replace hx189_0 := (HB.out.cell (World.block_lt_of_cell? w _ hx189_0)).trans hx189_0
                  have HR189_0 := Aside0.mk hi189_0
                  have HC189_0 := Aside0.mk hl189_0
                  clear hi189_0 hl189_0
                  replace p189 := eq_true p189
                  replace q189 := eq_true q189
                  refine start_ (n := 12) (S := fun w' => w'.cell? ⟨gb186, 0, none⟩ = some (.slice (some ad188) l0_0.length c0_0) ∧ w'.cell? ⟨gb187, 0, none⟩ = some (.slice (some ad189) l1_0.length c1_0) ∧ w'.cell? (ad188.add (x16_1).toNat) = some (.slice A188_0 ((rd_T41 l0_0 x16_1).f0).length c188_0) ∧ w'.cell? (ad189.add (x16_1).toNat) = some (.slice A189_0 ((rd_T41 l1_0 x16_1).f0).length c189_0)) (ds := []) #[false, false, false, false, false, false, false, false, false, false, false, false] (by kernel_rfl) rfl rfl ⟨(blk_cell BK186.out 0).trans rfl, (blk_cell BK187.out 0).trans rfl, ((HB.out.cell (World.block_lt_of_cell? w _ hw188_0)).trans hw188_0), ((HB.out.cell (World.block_lt_of_cell? w _ hw189_0)).trans hw189_0)⟩ (fun hHeld => ?_); refine with_tabW virgationref01_Equal.tab6 virgationref01_Equal.bits6 (fun HT_ HW_ => ?_)
                  generalize wr.drew = w17 at BK186 BK187 HB HR188_0 HR189_0 hx188_0 hx189_0 hHeld ⊢
                  refine pure_ (i := 0) (N := some 19) (v := ?_) (a' := ?_) #[true, false, false, false, false, false, false, false, false, false, false, false] rfl rfl (any_of HT_.out (by kernel_rfl)) (fun _ _ _ h => h) (Or.inl ⟨by rfl, ?_⟩) ?_ ?_
                  rotate_left
                  · intro w'
                    go_simp
                    with_reducible rfl
                  rotate_left
                  · simp only [Act.put, List.setIfInBounds_toArray, List.set_cons_zero, List.set_cons_succ, i64_w, i32_w]
                    rfl
                  refine pure_ (i := 2) (N := some 21) (v := ?_) (a' := ?_) #[true, false, true, false, false, false, false, false, false, false, false, false] rfl rfl (any_of HT_.out (by kernel_rfl)) (fun _ _ _ h => h) (Or.inl ⟨by rfl, ?_⟩) ?_ ?_
                  rotate_left
                  · intro w'
                    go_simp
                    with_reducible rfl
                  rotate_left
                  · simp only [Act.put, List.setIfInBounds_toArray, List.set_cons_zero, List.set_cons_succ, i64_w, i32_w]
                    rfl
                  refine pure_ (i := 5) (N := some 24) (v := ?_) (a' := ?_) #[true, false, true, false, false, true, false, false, false, false, false, false] rfl rfl (any_of HT_.out (by kernel_rfl)) (fun _ _ _ h => h) (Or.inl ⟨by rfl, ?_⟩) ?_ ?_
                  rotate_left
                  · intro w'
                    go_simp
                    with_reducible rfl
                  rotate_left
                  · simp only [Act.put, List.setIfInBounds_toArray, List.set_cons_zero, List.set_cons_succ, i64_w, i32_w]
                    rfl
                  refine pure_ (i := 7) (N := some 26) (v := ?_) (a' := ?_) #[true, false, true, false, false, true, false, true, false, false, false, false] rfl rfl (any_of HT_.out (by kernel_rfl)) (fun _ _ _ h => h) (Or.inl ⟨by rfl, ?_⟩) ?_ ?_
                  rotate_left
                  · intro w'
                    go_simp
                    with_reducible rfl
                  rotate_left
                  · simp only [Act.put, List.setIfInBounds_toArray, List.set_cons_zero, List.set_cons_succ, i64_w, i32_w]
                    rfl
                  refine take_ (i := 1) (N := some 20) (v := ?_) (a' := ?_) #[true, true, true, false, false, true, false, true, false, false, false, false] rfl rfl (take_ofW HT_.out HW_.out (by kernel_rfl)) (fun _ _ _ h => h) (Or.inl ⟨by rfl, ?_⟩) hHeld ?_ ?_
                  rotate_left
                  · rintro w' ⟨s0, s1, s2, s3⟩
                    go_simp
                    with_reducible rfl
                  rotate_left
                  · simp only [Act.put, List.setIfInBounds_toArray, List.set_cons_zero, List.set_cons_succ, i64_w, i32_w]
                    rfl
                  refine pure_ (i := 3) (N := some 22) (v := ?_) (a' := ?_) #[true, true, true, true, false, true, false, true, false, false, false, false] rfl rfl (any_of HT_.out (by kernel_rfl)) (fun _ _ _ h => h) (Or.inl ⟨by rfl, ?_⟩) ?_ ?_
                  rotate_left
                  · intro w'
                    go_simp
                    with_reducible rfl
                  rotate_left
                  · simp only [Act.put, List.setIfInBounds_toArray, List.set_cons_zero, List.set_cons_succ, i64_w, i32_w]
                    rfl
                  refine take_ (i := 4) (N := some 23) (v := ?_) (a' := ?_) #[true, true, true, true, true, true, false, true, false, false, false, false] rfl rfl (take_ofW HT_.out HW_.out (by kernel_rfl)) (fun _ _ _ h => h) (Or.inl ⟨by rfl, ?_⟩) hHeld ?_ ?_
                  rotate_left
                  · rintro w' ⟨s0, s1, s2, s3⟩
                    go_simp
                    with_reducible rfl
                  rotate_left
                  · simp only [Act.put, List.setIfInBounds_toArray, List.set_cons_zero, List.set_cons_succ, i64_w, i32_w]
                    rfl
                  refine take_ (i := 6) (N := some 25) (v := ?_) (a' := ?_) #[true, true, true, true, true, true, true, true, false, false, false, false] rfl rfl (take_ofW HT_.out HW_.out (by kernel_rfl)) (fun _ _ _ h => h) (Or.inl ⟨by rfl, ?_⟩) hHeld ?_ ?_
                  rotate_left
                  · rintro w' ⟨s0, s1, s2, s3⟩
                    go_simp
                    with_reducible rfl
                  rotate_left
                  · simp only [Act.put, List.setIfInBounds_toArray, List.set_cons_zero, List.set_cons_succ, i64_w, i32_w]
                    rfl
                  refine pure_ (i := 8) (N := some 27) (v := ?_) (a' := ?_) #[true, true, true, true, true, true, true, true, true, false, false, false] rfl rfl (any_of HT_.out (by kernel_rfl)) (fun _ _ _ h => h) (Or.inl ⟨by rfl, ?_⟩) ?_ ?_
                  rotate_left
                  · intro w'
                    go_simp
                    with_reducible rfl
                  rotate_left
                  · simp only [Act.put, List.setIfInBounds_toArray, List.set_cons_zero, List.set_cons_succ, i64_w, i32_w]
                    rfl
                  refine take_ (i := 9) (N := some 28) (v := ?_) (a' := ?_) #[true, true, true, true, true, true, true, true, true, true, false, false] rfl rfl (take_ofW HT_.out HW_.out (by kernel_rfl)) (fun _ _ _ h => h) (Or.inl ⟨by rfl, ?_⟩) hHeld ?_ ?_
                  rotate_left
                  · rintro w' ⟨s0, s1, s2, s3⟩
                    go_simp
                    with_reducible rfl
                  rotate_left
                  · simp only [Act.put, List.setIfInBounds_toArray, List.set_cons_zero, List.set_cons_succ, i64_w, i32_w]
                    rfl
                  refine one_ (i := 10) (N := some 29) #[true, true, true, true, true, true, true, true, true, true, true, false] rfl rfl (one_of HT_.out (by kernel_rfl)) (by decide) (fun K hK => ?_)
                  refine goes_ Try.func64 (by kernel_rfl) rfl #[.agg #[.slice A188_0 ((rd_T41 l0_0 x16_1).f0).length c188_0], .agg #[.slice A189_0 ((rd_T41 l1_0 x16_1).f0).length c189_0]] (by rfl) rfl rfl (by (try simp only [List.map_toArray, List.map_cons, List.map_nil]); first | done | rfl | (simp only [List.length_drop, List.length_take]; rfl)) ?_
                  with_reducible refine (ih k1 (by have := HK1.out; omega) _ _ ((rd_T41 l0_0 x16_1).f0) _ _ ((rd_T41 l1_0 x16_1).f0) false _ ?side1 ?side2 ?side3 ?side4 A13.out).mono ?_
                  (case side1 => repeat (first | exact (Kd.C_below HR188_0.out HB.out) | (with_reducible refine Kd.C_alloc ?_ _) | (with_reducible refine Kd.C_drewN ?_ _) | (with_reducible refine Kd.C_drew ?_)))
                  (case side2 => exact HC188_0.out)
                  (case side3 => repeat (first | exact (Kd.C_below HR189_0.out HB.out) | (with_reducible refine Kd.C_alloc ?_ _) | (with_reducible refine Kd.C_drewN ?_ _) | (with_reducible refine Kd.C_drew ?_)))
                  (case side4 => exact HC189_0.out)
                  rintro e w18 ⟨rfl, hb⟩
                  refine ⟨_, rfl, ?_⟩
                  have n0_ := Aside0.mk (blk_below (g := gb186) (o := .cells #[.slice (some ad188) l0_0.length c0_0] 41 (0, 0)) (by (with_reducible repeat (first | refine blk_drewN ?_ _ | refine blk_drew ?_ | refine blk_alloc ?_ _)); exact BK186.out) hb)
                  have n1_ := Aside0.mk (blk_below (g := gb187) (o := .cells #[.slice (some ad189) l1_0.length c1_0] 41 (0, 0)) (by (with_reducible repeat (first | refine blk_drewN ?_ _ | refine blk_drew ?_ | refine blk_alloc ?_ _)); exact BK187.out) hb)
                  have n2_ := Aside0.mk (below_step (by repeat (first | (with_reducible first | exact HB.out | apply below_alloc | apply pw_below_drewN | apply below_drew1 | refine below_set ?_ GE186.out | refine below_set ?_ GE187.out) | exact HB.out)) hb)
                  clear BK186
                  clear BK187
                  clear HB
                  have BK186 := n0_
                  have BK187 := n1_
                  have HB := n2_
                  clear n0_ n1_ n2_
                  (try clear hb)
                  (try clear hb2)
                  (try clear hk)
                  (try clear hi)
                  refine hK.out _ _ ⟨(blk_cell BK186.out 0).trans rfl, (blk_cell BK187.out 0).trans rfl, ((HB.out.cell (World.block_lt_of_cell? w _ hw188_0)).trans hw188_0), ((HB.out.cell (World.block_lt_of_cell? w _ hw189_0)).trans hw189_0)⟩ (fun hHeld => ?_)
                  clear hK K
                  refine norm_ (a' := ?_) ?_ ?_
                  rotate_left
                  · show Act.put _ (some 29) _ = _
                    simp only [Act.put, List.setIfInBounds_toArray, List.set_cons_zero, List.set_cons_succ, i64_w, i32_w]
                    rfl
                  refine pure_ (i := 11) (N := some 30) (v := ?_) (a' := ?_) #[true, true, true, true, true, true, true, true, true, true, true, true] rfl rfl (any_of HT_.out (by kernel_rfl)) (fun _ _ _ h => h) (Or.inl ⟨by rfl, ?_⟩) ?_ ?_
                  rotate_left
                  · intro w'
                    go_simp
                    with_reducible rfl
                  rotate_left
                  · simp only [Act.put, List.setIfInBounds_toArray, List.set_cons_zero, List.set_cons_succ, i64_w, i32_w]
                    rfl
                  refine done_ (done_of HT_.out (by kernel_rfl)) ?_
                  try go_wp2
                  go_ret
                  exact ⟨by first | rfl | (simp [errW_none, errW_some] <;> rfl) | (simp [*, errW_none, errW_some] <;> rfl), by repeat (first | (with_reducible first | exact HB.out | apply below_alloc | apply pw_below_drewN | apply below_drew1 | refine below_set ?_ GE186.out | refine below_set ?_ GE187.out) | exact HB.out)⟩
              · rw [if_neg c12] at H
                exact absurd H (by simp)
            · rw [if_neg c11] at H
              exact absurd H (by simp)
          · rw [if_neg c10] at H
            exact absurd H (by simp)
        · rw [if_neg c9] at H
          have c9b0 : decide (x16_1 < (l0_0.length : Int)) = false := decide_eq_false c9
          clear c9
          obtain rfl := Option.some.inj H
          go_wp2
          go_ret
          exact ⟨by first | rfl | (simp [errW_none, errW_some] <;> rfl) | (simp [*, errW_none, errW_some] <;> rfl), by repeat (first | (with_reducible first | exact HB.out | apply below_alloc | apply pw_below_drewN | apply below_drew1 | refine below_set ?_ GE186.out | refine below_set ?_ GE187.out) | exact HB.out)⟩
  · rw [if_neg c3] at H
    have c3b0 : ((l0_0.length : Int) == (l1_0.length : Int)) = false := beq_eq_false_iff_ne.mpr c3
    have c3b1 : ((l0_0.length : Int) != (l1_0.length : Int)) = true := bne_iff_ne.mpr c3
    have c3b2 : (l0_0.length == l1_0.length) = false := by first | simpa using c3 | (simp at c3 ⊢; omega)
    obtain rfl := Option.some.inj H
    go_enter Try.func64, Try.ntmps64
    go_wp2_with (first | ((with_reducible refine gate_dst (N := 2) rfl ?_); refine box_event ?hg (N := 2) ?hd (cs := #[.slice A0_0 l0_0.length c0_0]) (t := 41) ?hr ?_; (case hd => rfl); (case hg => rfl); (case hr => first | (go_simp; done) | (go_simp; rfl)); intro gb186 hg w19 hbox hb; have n0_ := Aside0.mk (below_step (by repeat (first | (with_reducible first | exact HB.out | apply below_alloc | apply pw_below_drewN | apply below_drew1) | exact HB.out)) hb); have n1_ := Aside0.mk (hbox); have n2_ := Aside0.mk ((by rw [hg]; exact (below_size (by repeat (first | (with_reducible first | exact HB.out | apply below_alloc | apply pw_below_drewN | apply below_drew1) | exact HB.out))) : w.heap.size ≤ gb186)); have n3_ := Aside0.mk ((by rw [hg]; exact (below_size (by repeat (first | (with_reducible first | exact HB.out | apply below_alloc | apply pw_below_drewN | apply below_drew1) | exact HB.out))) : w.heap.size ≤ gb186)); clear HB; have HB := n0_; have BK186 := n1_; have GW186 := n2_; have GE186 := n3_; clear n0_ n1_ n2_ n3_; clear hb hbox hg) | ((with_reducible refine gate_dst (N := 3) rfl ?_); refine box_event ?hg (N := 3) ?hd (cs := #[.slice A1_0 l1_0.length c1_0]) (t := 41) ?hr ?_; (case hd => rfl); (case hg => rfl); (case hr => first | (go_simp; done) | (go_simp; rfl)); intro gb187 hg w20 hbox hb; have n0_ := Aside0.mk (blk_below (g := gb186) (o := .cells #[.slice A0_0 l0_0.length c0_0] 41 (0, 0)) (by (with_reducible repeat (first | refine blk_drewN ?_ _ | refine blk_drew ?_ | refine blk_alloc ?_ _)); exact BK186.out) hb); have n1_ := Aside0.mk (below_step (by repeat (first | (with_reducible first | exact HB.out | apply below_alloc | apply pw_below_drewN | apply below_drew1 | refine below_set ?_ GE186.out) | exact HB.out)) hb); have n2_ := Aside0.mk (hbox); have n3_ := Aside0.mk ((by rw [hg]; exact (below_size (by repeat (first | (with_reducible first | exact HB.out | apply below_alloc | apply pw_below_drewN | apply below_drew1 | refine below_set ?_ GE186.out) | exact HB.out))) : w.heap.size ≤ gb187)); have n4_ := Aside0.mk ((by rw [hg]; exact (below_size (by repeat (first | (with_reducible first | exact HB.out | apply below_alloc | apply pw_below_drewN | apply below_drew1 | refine below_set ?_ GE186.out) | exact HB.out))) : w.heap.size ≤ gb187)); have n5_ := Aside0.mk ((by rw [hg]; exact Nat.ne_of_lt (blk_lt (g := gb186) (o := .cells #[.slice A0_0 l0_0.length c0_0] 41 (0, 0)) (by (with_reducible repeat (first | refine blk_drewN ?_ _ | refine blk_drew ?_ | refine blk_alloc ?_ _)); exact BK186.out)) : gb186 ≠ gb187)); have n6_ := Aside0.mk ((by rw [hg]; exact Nat.ne_of_gt (blk_lt (g := gb186) (o := .cells #[.slice A0_0 l0_0.length c0_0] 41 (0, 0)) (by (with_reducible repeat (first | refine blk_drewN ?_ _ | refine blk_drew ?_ | refine blk_alloc ?_ _)); exact BK186.out)) : gb187 ≠ gb186)); clear BK186; clear HB; have BK186 := n0_; have HB := n1_; have BK187 := n2_; have GW187 := n3_; have GE187 := n4_; have NB186_187 := n5_; have NB187_186 := n6_; clear n0_ n1_ n2_ n3_ n4_ n5_ n6_; clear hb hbox hg; have hnb21 := NB186_187.out; have hnc21 := NB187_186.out; have hcz22_0 : w20.cell? ⟨gb186, 0, none⟩ = some (.slice A0_0 l0_0.length c0_0) := (blk_cell BK186.out 0).trans rfl; have hfz22_0 := blk_frozen BK186.out 0; have hcz23_0 : w20.cell? ⟨gb187, 0, none⟩ = some (.slice A1_0 l1_0.length c1_0) := (blk_cell BK187.out 0).trans rfl; have hfz23_0 := blk_frozen BK187.out 0))
    go_ret
    exact ⟨by first | rfl | (simp [errW_none, errW_some] <;> rfl) | (simp [*, errW_none, errW_some] <;> rfl), by repeat (first | (with_reducible first | exact HB.out | apply below_alloc | apply pw_below_drewN | apply below_drew1 | refine below_set ?_ GE186.out | refine below_set ?_ GE187.out) | exact HB.out)⟩
end Go.Proofs.Ytfhgoebgnilfaaa.I
namespace Go.Proofs.Ytfhgoebgnilfaaa.I
open Go.RowKit Go.Proofs.YtfhgoebgnilfaaaW.PrintWords Go.Proofs.YtfhgoebgnilfaaaW.PrintLast Go.Proofs.YtfhgoebgnilfaaaW.PrintMore
attribute [local go_sem] max2_int min2_int max_two min_two max_three min_three max_four min_four
set_option linter.unusedVariables false
set_option maxRecDepth 100000
set_option linter.unusedSimpArgs false
def mkFuns (l : List S48) (out : List S41) : List S46 := List.zipWith (fun x o => (⟨x.f0, o, x.f2⟩ : S46)) l out
theorem blk_type {w : World} {k q t : Nat} {c c' : Array Value} (h : w.heap[k]? = some (.cells c q (0, 0))) (h' : w.heap[k]? = some (.cells c' t (0, 0))) : q = t := by
  have := h.symm.trans h'
  injection this with this
  injection this
theorem mkFuns_snoc {l : List S48} {out : List S41} {i : Nat} (h : i < l.length) (h2 : i < out.length) : mkFuns (l.take i) (out.take i) ++ [⟨l[i].f0, out[i], l[i].f2⟩] = mkFuns (l.take (i + 1)) (out.take (i + 1)) := by
  have e1 : l.take (i + 1) = l.take i ++ [l[i]] := by rw [List.take_add_one, List.getElem?_eq_getElem h]; rfl
  have e2 : out.take (i + 1) = out.take i ++ [out[i]] := by rw [List.take_add_one, List.getElem?_eq_getElem h2]; rfl
  rw [e1, e2]
  unfold mkFuns
  rw [List.zipWith_append (by rw [List.length_take, List.length_take]; omega)]
  rfl
theorem mkFuns_len {l : List S48} {out : List S41} {i : Nat} (h : i ≤ l.length) (h2 : l.length = out.length) : (mkFuns (l.take i) (out.take i)).length = i := by
  unfold mkFuns
  rw [List.length_zipWith, List.length_take, List.length_take]
  omega
end Go.Proofs.Ytfhgoebgnilfaaa.I
namespace Go.Proofs.Ytfhgoebgnilfaaa.I
open Go.RowKit Go.Proofs.YtfhgoebgnilfaaaW.PrintWords Go.Proofs.YtfhgoebgnilfaaaW.PrintLast Go.Proofs.YtfhgoebgnilfaaaW.PrintMore
attribute [local go_sem] max2_int min2_int max_two min_two max_three min_three max_four min_four
set_option linter.unusedVariables false
set_option maxRecDepth 100000
set_option linter.unusedSimpArgs false
def HoldX (p : Prop) : Prop := p
theorem holdX {p : Prop} (h : HoldX p) : p := h
def hdF (sy : List S59) (fu pa : List S41) (k n : Int) : Option (List S41) :=
  if n < 0 then none else if k = 0 then (if n < (pa.length : Int) then some (rd_T41 pa n).f0 else none) else if k = 1 then (if n < (fu.length : Int) then some (rd_T41 fu n).f0 else none) else if k = 2 then (if n < (sy.length : Int) then some (List.replicate (rd_T59 sy n).f1.toNat z41) else none) else none
theorem infoS41 : (Try.prog.info? 41).map (fun i => (i.zero, i.size, i.bytes)) = some (some (.agg #[.slice none 0 0]), 1, 24) := by kernel_rfl
theorem make_sorts (n : Nat) (hn : n ≤ 1000000) : ∃ ob : Obj, (∀ w : World, (Instr.makeSlice 31 (.int .i64 (n : Int)) (.int .i64 (n : Int))).run Try.prog w = .ok (.slice (some ⟨w.heap.size, 0, none⟩) n n) (w.alloc ob)) ∧
    (∀ (w : World) (b : Nat), b ≤ w.heap.size → Kd.R k41 41 (w.alloc ob) b (fun k => w.heap.size ≤ k) (.slice (some ⟨w.heap.size, 0, none⟩) n n) (List.replicate n z41)) := by
  obtain ⟨i0, hi, hzz⟩ := Option.map_eq_some_iff.1 infoS41
  simp only [Prod.mk.injEq] at hzz
  obtain ⟨hz0, hz1, hz2⟩ := hzz
  refine ⟨.cells (madeCells (Value.agg #[.slice none 0 0]).cells (n * 1)) 41, fun w => ?_, fun w b hb => ?_⟩
  · have h := run_make (P := Try.prog) (w := w) 31 41 i0 (.agg #[.slice none 0 0]) Try.underlying31 hi hz0 .i64 .i64 (n : Int) (n : Int) (by omega) (by omega) (by rw [hz2]; omega) (by omega)
    rw [hz1, Int.toNat_natCast] at h
    exact h
  · have hr : Reps (k41.M w b (fun _ => False)) k41.sz (List.replicate n z41) (madeCells (Value.agg #[.slice none 0 0]).cells (n * 1)).toList := Kd.reps_made (R := k41.M w b (fun _ => False)) (z := .agg #[.slice none 0 0]) (size := 1) (z0 := z41) rfl (by decide) (k41_mkM w b _ z41 (Kd.R_nil _ _ _ _ _)) n
    have h := OwnRow.lit (e := 41) w b (hr.imp_ (R' := k41.M (w.alloc (.cells (madeCells (Value.agg #[.slice none 0 0]).cells (n * 1)) 41)) b (fun k => w.heap.size ≤ k ∧ some k ≠ (Value.slice (some ⟨w.heap.size, 0, none⟩) n n).ownBlock)) (fun p c hp => k41.M_mono (fun _ hk => hk.elim) (Kd.M_below hp (below_alloc (Below.refl _ _) _)))) hb (by rw [List.length_replicate]; omega)
    rw [List.length_replicate] at h
    refine ⟨fun k hk => ?_, ?_⟩
    · have : w.heap.size = k := by simpa [Value.ownBlock] using hk
      omega
    · simpa using h
theorem V_at41 {w : World} {B n c : Nat} {P : Nat → Prop} {A : Option Addr} {l : List S41} (h : Kd.V k41 41 w B P (.slice A n c) l) {i : Int} (h0 : 0 ≤ i) (h1 : i < (n : Int)) :
    ∃ ad A' c', A = some ad ∧ w.cell? (ad.add i.toNat) = some (.slice A' (rd_T41 l i).f0.length c') ∧ Kd.V k41 41 w B P (.slice A' (rd_T41 l i).f0.length c') (rd_T41 l i).f0 := by
  obtain ⟨ad, A', c', rfl, hx, hl, hi⟩ := at_T41 (Kd.V_reads' h).2.2 i h0 (by have := (Kd.V_reads' h).1; omega)
  obtain ⟨ce, hce, hM, hcc⟩ := Kd.V_get h z41 i h0 h1
  obtain ⟨A2, c2, rfl, l2, g2⟩ := k41_openF hM
  have hv := hcc 0 _ rfl
  rw [Nat.add_zero, show (k41).sz = 1 from rfl, Nat.mul_one] at hv
  have e := Option.some.inj (hv.symm.trans hx)
  injection e with ea _ ec
  rw [ea] at g2
  rw [ec] at l2
  exact ⟨ad, A', c', rfl, hx, Kd.V_mk l2 g2⟩
set_option maxHeartbeats 8000000 in
theorem head_calls (P : Nat → Prop) (A0 : Option Addr) (c0 : Nat) (l0 : List S59) (A1 : Option Addr) (c1 : Nat) (l1 : List S41) (A2 : Option Addr) (c2 : Nat) (l2 : List S41) (k n : Int) (u : Value) (w : World) (hu : u.oneCell' = true)
    (hr0 : Kd.C k59 w A0 l0.length l0) (h1 : Kd.V k41 41 w w.heap.size P (.slice A1 l1.length c1) l1) (h2 : Kd.V k41 41 w w.heap.size P (.slice A2 l2.length c2) l2) (hrk : ∀ x ∈ l0, 0 ≤ x.f1 ∧ x.f1 ≤ 1000000) :
    Calls Try.prog 65 #[.agg #[.slice A0 l0.length c0, .slice A1 l1.length c1, .slice A2 l2.length c2], .agg #[.int .i64 k, .int .i64 n, u]] w fun e w' => ∃ v, e = .returned (.tuple #[.agg #[v], .bool (hdF l0 l1 l2 k n).isSome]) ∧ Kd.V k41 41 w' w.heap.size (fun q => P q ∨ w.heap.size ≤ q) v ((hdF l0 l1 l2 k n).getD []) ∧ Below w.heap.size w w' := by
  have hu105 := Try.underlying105
  have hu44 := Try.underlying44
  have hu41 := Try.underlying41
  have hu59 := Try.underlying59
  have HR0 := Aside0.mk hr0
  have H1 := Aside0.mk (Kd.V_bound h1)
  have H2 := Aside0.mk (Kd.V_bound h2)
  have HK := Aside0.mk hrk
  clear hr0 h1 h2 hrk
  go_enter Try.func65, Try.ntmps65
  go_wp2_with (first
   | ((with_reducible refine gate_dst (N := 2) rfl ?_)
      refine box_event ?hg (N := 2) ?hd (cs := #[.slice A0 l0.length c0, .slice A1 l1.length c1, .slice A2 l2.length c2]) (t := 105) ?hr ?_
      (case hd => rfl)
      (case hg => rfl)
      (case hr => first | (go_simp; done) | (go_simp; rfl))
      intro g2 hg2 w2 hbox hb2
      have S22 := Aside0.mk hbox
      have HB2 := Aside0.mk hb2
      have hw2 : w.heap.size ≤ g2 := by omega
      clear hbox hb2 hg2)
   | ((with_reducible refine gate_dst (N := 3) rfl ?_)
      refine box_event ?hg (N := 3) ?hd (cs := #[.int .i64 k, .int .i64 n, u]) (t := 44) ?hr ?_
      (case hd => rfl)
      (case hg => rfl)
      (case hr => first | (go_simp; done) | (go_simp; rfl))
      intro g3 hg3 w3 hbox hb3
      have hn32 : g3 ≠ g2 := by have := blk_lt S22.out; omega
      have hw3 : w.heap.size ≤ g3 := by have := HB2.out.size; omega
      have S23 := Aside0.mk (blk_below S22.out hb3)
      have S33 := Aside0.mk hbox
      have HB3 := Aside0.mk (below_step HB2.out hb3)
      clear hbox hb3 hg3 S22 HB2)
   | ((with_reducible refine gate_dst (N := 4) rfl ?_)
      refine box_event ?hg (N := 4) ?hd (cs := #[.slice none 0 0]) (t := 41) ?hr ?_
      (case hd => rfl)
      (case hg => rfl)
      (case hr => first | (go_simp; done) | (go_simp; rfl))
      intro g4 hg4 w4 hbox hb4
      have hn42 : g4 ≠ g2 := by have := blk_lt S23.out; omega
      have hn43 : g4 ≠ g3 := by have := blk_lt S33.out; omega
      have hw4 : w.heap.size ≤ g4 := by have := HB3.out.size; omega
      have S24 := Aside0.mk (blk_below S23.out hb4)
      have S34 := Aside0.mk (blk_below S33.out hb4)
      have S44 := Aside0.mk hbox
      have HB4 := Aside0.mk (below_step HB3.out hb4)
      have hlt4 : g4 < w4.heap.size := blk_lt hbox
      clear hbox hb4 hg4 S23 S33 HB3
      refine holdX ?_))
  unfold HoldX
  have HR4 := Aside0.mk (Kd.C_below HR0.out HB4.out)
  have V1 := Aside0.mk (Kd.V_below H1.out HB4.out)
  have V2 := Aside0.mk (Kd.V_below H2.out HB4.out)
  have a0 : w4.cell? ⟨g2, 0, none⟩ = some (.slice A0 l0.length c0) := (blk_cell S24.out 0).trans rfl
  have a1 : w4.cell? ⟨g2, 1, none⟩ = some (.slice A1 l1.length c1) := (blk_cell S24.out 1).trans rfl
  have a2 : w4.cell? ⟨g2, 2, none⟩ = some (.slice A2 l2.length c2) := (blk_cell S24.out 2).trans rfl
  have b0 : w4.cell? ⟨g3, 0, none⟩ = some (.int .i64 k) := (blk_cell S34.out 0).trans rfl
  have b1 : w4.cell? ⟨g3, 1, none⟩ = some (.int .i64 n) := (blk_cell S34.out 1).trans rfl
  have d0 : w4.cell? ⟨g4, 0, none⟩ = some (.slice none 0 0) := (blk_cell S44.out 0).trans rfl
  have df := blk_frozen S44.out 0
  have fin : ∀ (v : Value) (l : List S41) (wq : World), Below w.heap.size w wq → wq.heap[g4]? = some (.cells #[.slice none 0 0] 41 (0, 0)) → Kd.V k41 41 wq w.heap.size (fun q => (P q ∨ w.heap.size ≤ q) ∧ q ≠ g4) v l → Kd.V k41 41 (wq.setCell ⟨g4, 0, none⟩ v) w.heap.size (fun q => P q ∨ w.heap.size ≤ q) v l ∧ Below w.heap.size w (wq.setCell ⟨g4, 0, none⟩ v) := fun v l wq hb hc hv => ⟨Kd.V_mono (Kd.V_far (p := ⟨g4, 0, none⟩) hv (fun _ hk => hk.2) v) (fun _ hk => hk.1), below_set (g := g4) (j := 0) hb hw4⟩
  have nilV : Kd.V k41 41 w4 w.heap.size (fun q => (P q ∨ w.heap.size ≤ q) ∧ q ≠ g4) (.slice none 0 0) ([] : List S41) := Kd.V_nil _ _ _ _ _
  by_cases q1 : n < 0
  · have b : decide (n < 0) = true := decide_eq_true q1
    have e : hdF l0 l1 l2 k n = none := by unfold hdF; rw [if_pos q1]
    go_wp2_with fail
    refine bodyPost_ret (results_ct rfl _ _ g4 41 #[.slice none 0 0] (0, 0) _ rfl (blk_put (cs' := #[.slice none 0 0]) S44.out 0 _ rfl) Try.underlying41 rfl (by kernel_rfl)) rfl ?_
    try rw [e]
    exact ⟨_, rfl, fin _ _ _ HB4.out S44.out nilV⟩
  have bn : decide (n < 0) = false := decide_eq_false q1
  have pn : (0 ≤ n) = True := eq_true (by omega)
  by_cases q2 : k = 0
  · subst q2
    by_cases q3 : n < (l2.length : Int)
    · have b : decide (n < (l2.length : Int)) = true := decide_eq_true q3
      have p3 := eq_true q3
      have e : hdF l0 l1 l2 0 n = some (rd_T41 l2 n).f0 := by unfold hdF; rw [if_neg q1, if_pos rfl, if_pos q3]
      obtain ⟨ad, A', c', rfl, hx, hv⟩ := V_at41 V2.out (by omega) q3
      have HV := Aside0.mk hv
      clear hv
      go_wp2_with fail
      refine bodyPost_ret (results_ct rfl _ _ g4 41 #[.slice A' (rd_T41 l2 n).f0.length c'] (0, 0) _ rfl (blk_put (cs' := #[.slice A' (rd_T41 l2 n).f0.length c']) S44.out 0 _ rfl) Try.underlying41 rfl (by kernel_rfl)) rfl ?_
      try rw [e]
      exact ⟨_, rfl, fin _ _ _ HB4.out S44.out (Kd.V_mono HV.out (fun q hq => ⟨.inl hq.1, by omega⟩))⟩
    · have b : decide (n < (l2.length : Int)) = false := decide_eq_false q3
      have e : hdF l0 l1 l2 0 n = none := by unfold hdF; rw [if_neg q1, if_pos rfl, if_neg q3]
      go_wp2_with fail
      refine bodyPost_ret (results_ct rfl _ _ g4 41 #[.slice none 0 0] (0, 0) _ rfl (blk_put (cs' := #[.slice none 0 0]) S44.out 0 _ rfl) Try.underlying41 rfl (by kernel_rfl)) rfl ?_
      try rw [e]
      exact ⟨_, rfl, fin _ _ _ HB4.out S44.out nilV⟩
  have bk : (k == 0) = false := beq_eq_false_iff_ne.2 q2
  by_cases q4 : k = 1
  · subst q4
    clear bk
    by_cases q3 : n < (l1.length : Int)
    · have b : decide (n < (l1.length : Int)) = true := decide_eq_true q3
      have p3 := eq_true q3
      have e : hdF l0 l1 l2 1 n = some (rd_T41 l1 n).f0 := by unfold hdF; rw [if_neg q1, if_neg q2, if_pos rfl, if_pos q3]
      obtain ⟨ad, A', c', rfl, hx, hv⟩ := V_at41 V1.out (by omega) q3
      have HV := Aside0.mk hv
      clear hv
      go_wp2_with fail
      refine bodyPost_ret (results_ct rfl _ _ g4 41 #[.slice A' (rd_T41 l1 n).f0.length c'] (0, 0) _ rfl (blk_put (cs' := #[.slice A' (rd_T41 l1 n).f0.length c']) S44.out 0 _ rfl) Try.underlying41 rfl (by kernel_rfl)) rfl ?_
      try rw [e]
      exact ⟨_, rfl, fin _ _ _ HB4.out S44.out (Kd.V_mono HV.out (fun q hq => ⟨.inl hq.1, by omega⟩))⟩
    · have b : decide (n < (l1.length : Int)) = false := decide_eq_false q3
      have e : hdF l0 l1 l2 1 n = none := by unfold hdF; rw [if_neg q1, if_neg q2, if_pos rfl, if_neg q3]
      go_wp2_with fail
      refine bodyPost_ret (results_ct rfl _ _ g4 41 #[.slice none 0 0] (0, 0) _ rfl (blk_put (cs' := #[.slice none 0 0]) S44.out 0 _ rfl) Try.underlying41 rfl (by kernel_rfl)) rfl ?_
      try rw [e]
      exact ⟨_, rfl, fin _ _ _ HB4.out S44.out nilV⟩
  have bk1 : (k == 1) = false := beq_eq_false_iff_ne.2 q4
  by_cases q5 : k = 2
  · subst q5
    clear bk bk1
    by_cases q3 : n < (l0.length : Int)
    · have b : decide (n < (l0.length : Int)) = true := decide_eq_true q3
      have p3 := eq_true q3
      have e : hdF l0 l1 l2 2 n = some (List.replicate (rd_T59 l0 n).f1.toNat z41) := by unfold hdF; rw [if_neg q1, if_neg q2, if_neg q4, if_pos rfl, if_pos q3]
      obtain ⟨ad, rfl, hx0, hx1⟩ := at_T59 HR4.out n (by omega) q3
      have hm : rd_T59 l0 n ∈ l0 := by
        unfold rd_T59
        rw [List.getD_eq_getElem?_getD, List.getElem?_eq_getElem (by omega : n.toNat < l0.length)]
        exact List.getElem_mem _
      obtain ⟨r0, r1⟩ := HK.out _ hm
      obtain ⟨m, hm⟩ : ∃ m : Nat, (rd_T59 l0 n).f1 = (m : Int) := ⟨(rd_T59 l0 n).f1.toNat, by omega⟩
      rw [hm] at hx1
      rw [hm, Int.toNat_natCast] at e
      obtain ⟨ob, hrun, hrow⟩ := make_sorts m (by omega)
      have HRow := Aside0.mk hrow
      clear hrow
      go_wp2_with fail
      obtain ⟨x, hx⟩ : ∃ x : Value, x = .slice (some ⟨w4.heap.size, 0, none⟩) m m := ⟨_, rfl⟩
      have hs : (w4.setCell ⟨g4, 0, none⟩ x).heap.size = w4.heap.size := World.size_setCell _ _ _
      have hrow := HRow.out (w4.setCell ⟨g4, 0, none⟩ x) w.heap.size (by rw [hs]; exact HB4.out.size)
      rw [hs, ← hx] at hrow
      rw [← hx]
      refine bodyPost_ret (results_ct rfl _ _ g4 41 #[x] (0, 0) _ rfl (blk_alloc (blk_put (cs' := #[x]) S44.out 0 _ rfl) _) Try.underlying41 rfl (by kernel_rfl)) rfl ?_
      try rw [e]
      exact ⟨_, rfl, Kd.V_mono (Kd.R_V hrow) (fun q hq => .inr (by have := HB4.out.size; omega)), below_alloc (below_set (g := g4) (j := 0) HB4.out hw4) _⟩
    · have b : decide (n < (l0.length : Int)) = false := decide_eq_false q3
      have e : hdF l0 l1 l2 2 n = none := by unfold hdF; rw [if_neg q1, if_neg q2, if_neg q4, if_pos rfl, if_neg q3]
      go_wp2_with fail
      refine bodyPost_ret (results_ct rfl _ _ g4 41 #[.slice none 0 0] (0, 0) _ rfl (blk_put (cs' := #[.slice none 0 0]) S44.out 0 _ rfl) Try.underlying41 rfl (by kernel_rfl)) rfl ?_
      try rw [e]
      exact ⟨_, rfl, fin _ _ _ HB4.out S44.out nilV⟩
  have bk2 : (k == 2) = false := beq_eq_false_iff_ne.2 q5
  have e : hdF l0 l1 l2 k n = none := by unfold hdF; rw [if_neg q1, if_neg q2, if_neg q4, if_neg q5]
  go_wp2_with fail
  refine bodyPost_ret (results_ct rfl _ _ g4 41 #[.slice none 0 0] (0, 0) _ rfl (blk_put (cs' := #[.slice none 0 0]) S44.out 0 _ rfl) Try.underlying41 rfl (by kernel_rfl)) rfl ?_
  try rw [e]
  exact ⟨_, rfl, fin _ _ _ HB4.out S44.out nilV⟩
end Go.Proofs.Ytfhgoebgnilfaaa.I
namespace Go.Proofs.Ytfhgoebgnilfaaa.I
open Go.RowKit
set_option linter.unusedVariables false
inductive KT where
  | o : KT
  | ar : KT → KT → KT
def KT.sz : KT → Nat
  | .o => 1
  | .ar a b => a.sz + b.sz + 1
def Sol (s : List KN) (ρ : Nat → KT) : Prop :=
  ∀ (i : Nat) (n : KN), s[i]? = some n → (∀ j, n.lk = some j → ρ i = ρ j) ∧ (n.bs = true → ρ i = .o) ∧ (∀ a t, n.fr = some a → n.tk = some t → ρ i = .ar (ρ a) (ρ t))
structure WF (s : List KN) (h : Nat → Nat) : Prop where
  rng : ∀ (i : Nat) (n : KN), s[i]? = some n → inS s.length n.lk ∧ inS s.length n.fr ∧ inS s.length n.tk
  arr : ∀ (i : Nat) (n : KN), s[i]? = some n → (n.fr = none ↔ n.tk = none)
  bas : ∀ (i : Nat) (n : KN), s[i]? = some n → n.bs = true → n.fr = none
  lnk : ∀ (i : Nat) (n : KN), s[i]? = some n → n.lk ≠ none → n.bs = false ∧ n.fr = none
  dec : ∀ (i : Nat) (n : KN), s[i]? = some n → (∀ j, n.lk = some j → h j < h i) ∧ (∀ j, n.fr = some j → h j < h i) ∧ (∀ j, n.tk = some j → h j < h i)
theorem fend_le {s : List KN} {i r : Nat} {k k' : Nat} (hk : k ≤ k') (h : fend s k i = some r) : fend s k' i = some r := by
  induction hk with
  | refl => exact h
  | step _ ih => exact fend_s s _ _ _ ih
theorem fwithin_le {s : List KN} {k i : Nat} {b : Bool} {f f' : Nat} (hf : f ≤ f') (h : fwithin s f k i = some b) : fwithin s f' k i = some b := by
  induction hf with
  | refl => exact h
  | step _ ih => exact fwithin_s s _ _ _ _ ih
theorem fjoin_le {s : List KN} {a b : Nat} {r : Bool × List KN} {f f' : Nat} (hf : f ≤ f') (h : fjoin f s a b = some r) : fjoin f' s a b = some r := by
  induction hf with
  | refl => exact h
  | step _ ih => exact fjoin_s _ _ _ _ _ ih
theorem fend_ok {s : List KN} : ∀ {f i r : Nat}, fend s f i = some r → (∃ n, s[r]? = some n ∧ n.lk = none) ∧ (∀ ρ, Sol s ρ → ρ i = ρ r) ∧ (∀ h, WF s h → h r ≤ h i)
  | 0, i, r, e => by simp [fend] at e
  | f + 1, i, r, e => by
    unfold fend at e
    cases hn : s[i]? with
    | none => rw [hn] at e; cases e
    | some n =>
      rw [hn] at e
      simp only at e
      cases hl : n.lk with
      | none =>
        rw [hl] at e
        injection e with e
        subst e
        exact ⟨⟨n, hn, hl⟩, fun _ _ => rfl, fun _ _ => Nat.le_refl _⟩
      | some j =>
        rw [hl] at e
        obtain ⟨h1, h2, h3⟩ := fend_ok e
        exact ⟨h1, fun ρ hs => ((hs i n hn).1 j hl).trans (h2 ρ hs), fun h w => Nat.le_trans (h3 h w) (Nat.le_of_lt ((w.dec i n hn).1 j hl))⟩
theorem fend_tot {s : List KN} {h : Nat → Nat} (w : WF s h) : ∀ (m i : Nat), h i < m → i < s.length → ∃ r, fend s m i = some r
  | 0, i, hm, hi => absurd hm (by omega)
  | m + 1, i, hm, hi => by
    have hn := List.getElem?_eq_getElem hi
    unfold fend
    rw [hn]
    simp only
    cases hl : (s[i]).lk with
    | none => exact ⟨i, rfl⟩
    | some j =>
      have hd := (w.dec i _ hn).1 j hl
      exact fend_tot w m j (by omega) ((w.rng i _ hn).1 j hl)
theorem fend_self {s : List KN} {i : Nat} {n : KN} (f : Nat) (hn : s[i]? = some n) (hl : n.lk = none) : fend s (f + 1) i = some i := by
  unfold fend
  rw [hn]
  simp only
  rw [hl]
theorem fwithin_tot {s : List KN} {h : Nat → Nat} (w : WF s h) (k : Nat) : ∀ (m i : Nat), h i + 2 ≤ m → i < s.length → ∃ b, fwithin s m k i = some b
  | 0, i, hm, hi => absurd hm (by omega)
  | m + 1, i, hm, hi => by
    obtain ⟨r, hr⟩ := fend_tot w m i (by omega) hi
    obtain ⟨⟨n, hn, hl⟩, _, h3⟩ := fend_ok hr
    have hle := h3 h w
    unfold fwithin
    rw [hr]
    simp only
    by_cases hk : k = r
    · rw [if_pos hk]; exact ⟨true, rfl⟩
    · rw [if_neg hk, hn]
      simp only
      cases hf : n.fr with
      | none => exact ⟨false, rfl⟩
      | some a =>
        have ha := (w.dec r n hn).2.1 a hf
        obtain ⟨b, hb⟩ := fwithin_tot w k m a (by omega) ((w.rng r n hn).2.1 a hf)
        simp only
        rw [hb]
        cases b with
        | true => exact ⟨true, rfl⟩
        | false =>
          simp only
          cases ht : n.tk with
          | none => exact absurd ((w.arr r n hn).2 ht) (by rw [hf]; simp)
          | some t =>
            have htd := (w.dec r n hn).2.2 t ht
            exact fwithin_tot w k m t (by omega) ((w.rng r n hn).2.2 t ht)
theorem KT.sz_pos (t : KT) : 0 < t.sz := by cases t <;> simp [KT.sz]
theorem fwithin_sz {s : List KN} {k : Nat} {ρ : Nat → KT} (harr : ∀ (i : Nat) (n : KN), s[i]? = some n → (n.fr = none ↔ n.tk = none)) (hs : Sol s ρ) : ∀ {f i : Nat}, fwithin s f k i = some true → (ρ k).sz ≤ (ρ i).sz
  | 0, i, e => by simp [fwithin] at e
  | f + 1, i, e => by
    unfold fwithin at e
    cases hr : fend s f i with
    | none => rw [hr] at e; cases e
    | some r =>
      rw [hr] at e
      simp only at e
      obtain ⟨_, h2, _⟩ := fend_ok hr
      rw [h2 ρ hs]
      by_cases hk : k = r
      · rw [hk]; exact Nat.le_refl _
      · rw [if_neg hk] at e
        cases hn : s[r]? with
        | none => rw [hn] at e; cases e
        | some n =>
          rw [hn] at e
          simp only at e
          cases hf : n.fr with
          | none => rw [hf] at e; cases e
          | some a =>
            rw [hf] at e
            simp only at e
            cases hw : fwithin s f k a with
            | none => rw [hw] at e; cases e
            | some b =>
              rw [hw] at e
              cases ht : n.tk with
              | none => exact absurd ((harr r n hn).2 ht) (by rw [hf]; simp)
              | some t =>
                have h3 := (hs r n hn).2.2 a t hf ht
                rw [h3, KT.sz]
                cases b with
                | true =>
                  have h4 := fwithin_sz harr hs hw
                  omega
                | false =>
                  simp only at e
                  rw [ht] at e
                  have h4 := fwithin_sz harr hs e
                  omega
inductive Reach (s : List KN) (k : Nat) : Nat → Prop
  | here : Reach s k k
  | lk {i j : Nat} {n : KN} : s[i]? = some n → n.lk = some j → Reach s k j → Reach s k i
  | fr {i j : Nat} {n : KN} : s[i]? = some n → n.fr = some j → Reach s k j → Reach s k i
  | tk {i j : Nat} {n : KN} : s[i]? = some n → n.tk = some j → Reach s k j → Reach s k i
theorem reach_end {s : List KN} {h : Nat → Nat} (w : WF s h) {k : Nat} {nk : KN} (hk : s[k]? = some nk) (hl : nk.lk = none) : ∀ {f i r : Nat}, fend s f i = some r → Reach s k i → Reach s k r
  | 0, i, r, e, _ => by simp [fend] at e
  | f + 1, i, r, e, hr => by
    unfold fend at e
    cases hn : s[i]? with
    | none => rw [hn] at e; cases e
    | some n =>
      rw [hn] at e
      simp only at e
      cases hll : n.lk with
      | none => rw [hll] at e; injection e with e; rw [← e]; exact hr
      | some j =>
        rw [hll] at e
        have hj : Reach s k j := by
          cases hr with
          | here => rw [hk] at hn; injection hn with hn; rw [hn] at hl; rw [hl] at hll; cases hll
          | lk h1 h2 h3 => rw [hn] at h1; injection h1 with h1; rw [← h1] at h2; rw [hll] at h2; injection h2 with h2; rw [h2]; exact h3
          | fr h1 h2 h3 => rw [hn] at h1; injection h1 with h1; rw [← h1] at h2; have := (w.lnk i n hn (by rw [hll]; simp)).2; rw [this] at h2; cases h2
          | tk h1 h2 h3 => rw [hn] at h1; injection h1 with h1; rw [← h1] at h2; have h4 := (w.lnk i n hn (by rw [hll]; simp)).2; have := (w.arr i n hn).1 h4; rw [this] at h2; cases h2
        exact reach_end w hk hl e hj
theorem fwithin_false {s : List KN} {h : Nat → Nat} (w : WF s h) {k : Nat} {nk : KN} (hk : s[k]? = some nk) (hl : nk.lk = none) : ∀ {f i : Nat}, fwithin s f k i = some false → ¬ Reach s k i
  | 0, i, e, _ => by simp [fwithin] at e
  | f + 1, i, e, hr => by
    unfold fwithin at e
    cases hre : fend s f i with
    | none => rw [hre] at e; cases e
    | some r =>
      rw [hre] at e
      simp only at e
      obtain ⟨⟨n, hn, hnl⟩, _, _⟩ := fend_ok hre
      have hrr := reach_end w hk hl hre hr
      by_cases hkr : k = r
      · rw [if_pos hkr] at e; cases e
      · rw [if_neg hkr, hn] at e
        simp only at e
        cases hf : n.fr with
        | none =>
          have ht := (w.arr r n hn).1 hf
          cases hrr with
          | here => exact hkr rfl
          | lk h1 h2 h3 => rw [hn] at h1; injection h1 with h1; rw [← h1, hnl] at h2; cases h2
          | fr h1 h2 h3 => rw [hn] at h1; injection h1 with h1; rw [← h1, hf] at h2; cases h2
          | tk h1 h2 h3 => rw [hn] at h1; injection h1 with h1; rw [← h1, ht] at h2; cases h2
        | some a =>
          rw [hf] at e
          simp only at e
          cases hw : fwithin s f k a with
          | none => rw [hw] at e; cases e
          | some b =>
            rw [hw] at e
            cases b with
            | true => cases e
            | false =>
              simp only at e
              cases ht : n.tk with
              | none => rw [ht] at e; cases e
              | some t =>
                rw [ht] at e
                cases hrr with
                | here => exact hkr rfl
                | lk h1 h2 h3 => rw [hn] at h1; injection h1 with h1; rw [← h1, hnl] at h2; cases h2
                | fr h1 h2 h3 => rw [hn] at h1; injection h1 with h1; rw [← h1, hf] at h2; injection h2 with h2; subst h2; exact fwithin_false w hk hl hw h3
                | tk h1 h2 h3 => rw [hn] at h1; injection h1 with h1; rw [← h1, ht] at h2; injection h2 with h2; subst h2; exact fwithin_false w hk hl e h3
def opn (n : KN) : Bool := n.lk.isNone && !n.bs && n.fr.isNone
def US (s : List KN) : Nat := s.countP opn
theorem countP_set_lt : ∀ (s : List KN) (i : Nat) (x y : KN), s[i]? = some x → opn x = true → opn y = false → (s.set i y).countP opn < s.countP opn
  | [], i, x, y, h, _, _ => by simp at h
  | z :: s, 0, x, y, h, hx, hy => by
    injection h with h
    subst h
    rw [List.set_cons_zero, List.countP_cons, List.countP_cons, if_pos hx, if_neg (by rw [hy]; simp)]
    omega
  | z :: s, i + 1, x, y, h, hx, hy => by
    have := countP_set_lt s i x y h hx hy
    rw [List.set_cons_succ, List.countP_cons, List.countP_cons]
    omega
open Classical in
theorem WF.link {s : List KN} {h : Nat → Nat} (w : WF s h) {p q : Nat} {x : KN} (hp : s[p]? = some x) (hxl : x.lk = none) (hxb : x.bs = false) (hxf : x.fr = none) (hq : q < s.length) (hr : ¬ Reach s p q) :
    (∃ h', WF (setlk s p x q) h') ∧ US (setlk s p x q) < US s ∧ ∀ ρ, Sol (setlk s p x q) ρ ↔ Sol s ρ ∧ ρ p = ρ q := by
  have hpl : p < s.length := (List.getElem?_eq_some_iff.1 hp).1
  have hxt := (w.arr p x hp).1 hxf
  have get : ∀ (i : Nat) (n : KN), (setlk s p x q)[i]? = some n → (i = p ∧ n = { x with lk := some q }) ∨ (i ≠ p ∧ s[i]? = some n) := by
    intro i n hn
    unfold setlk at hn
    rw [List.getElem?_set] at hn
    by_cases hip : p = i
    · rw [if_pos hip, if_pos (by omega)] at hn
      injection hn with hn
      exact .inl ⟨hip.symm, hn.symm⟩
    · rw [if_neg hip] at hn
      exact .inr ⟨fun e => hip e.symm, hn⟩
  have len : (setlk s p x q).length = s.length := by unfold setlk; rw [List.length_set]
  refine ⟨⟨fun i => if Reach s p i then h i + h q + 1 else h i, ?_, ?_, ?_, ?_, ?_⟩, ?_, ?_⟩
  · intro i n hn
    rw [len]
    rcases get i n hn with ⟨rfl, rfl⟩ | ⟨_, hn⟩
    · exact ⟨fun j hj => by injection hj with hj; omega, (w.rng i x hp).2.1, (w.rng i x hp).2.2⟩
    · exact w.rng i n hn
  · intro i n hn
    rcases get i n hn with ⟨rfl, rfl⟩ | ⟨_, hn⟩
    · exact w.arr i x hp
    · exact w.arr i n hn
  · intro i n hn
    rcases get i n hn with ⟨rfl, rfl⟩ | ⟨_, hn⟩
    · exact w.bas i x hp
    · exact w.bas i n hn
  · intro i n hn
    rcases get i n hn with ⟨rfl, rfl⟩ | ⟨_, hn⟩
    · exact fun _ => ⟨hxb, hxf⟩
    · exact w.lnk i n hn
  · have down : ∀ (i j : Nat), h j < h i → (Reach s p j → Reach s p i) → (if Reach s p j then h j + h q + 1 else h j) < (if Reach s p i then h i + h q + 1 else h i) := by
      intro i j hlt himp
      by_cases hj : Reach s p j
      · rw [if_pos hj, if_pos (himp hj)]; omega
      · rw [if_neg hj]
        by_cases hi : Reach s p i
        · rw [if_pos hi]; omega
        · rw [if_neg hi]; exact hlt
    intro i n hn
    rcases get i n hn with ⟨rfl, rfl⟩ | ⟨_, hn⟩
    · refine ⟨fun j hj => ?_, fun j hj => ?_, fun j hj => ?_⟩
      · injection hj with hj
        subst hj
        show (if Reach s i q then h q + h q + 1 else h q) < (if Reach s i i then h i + h q + 1 else h i)
        rw [if_neg hr, if_pos Reach.here]
        omega
      · have : x.fr = some j := hj
        rw [hxf] at this
        cases this
      · have : x.tk = some j := hj
        rw [hxt] at this
        cases this
    · exact ⟨fun j hj => down i j ((w.dec i n hn).1 j hj) (fun r => Reach.lk hn hj r), fun j hj => down i j ((w.dec i n hn).2.1 j hj) (fun r => Reach.fr hn hj r), fun j hj => down i j ((w.dec i n hn).2.2 j hj) (fun r => Reach.tk hn hj r)⟩
  · unfold US setlk
    exact countP_set_lt s p x _ hp (by unfold opn; rw [hxl, hxb, hxf]; rfl) (by unfold opn; rfl)
  · intro ρ
    constructor
    · intro hs
      have hq' : ρ p = ρ q := (hs p { x with lk := some q } (by unfold setlk; rw [List.getElem?_set, if_pos rfl, if_pos hpl])).1 q rfl
      refine ⟨fun i n hn => ?_, hq'⟩
      by_cases hip : i = p
      · subst hip
        rw [hp] at hn
        injection hn with hn
        subst hn
        refine ⟨fun j hj => (by rw [hxl] at hj; cases hj), fun hb => (by rw [hxb] at hb; cases hb), fun a t ha _ => (by rw [hxf] at ha; cases ha)⟩
      · exact hs i n (by unfold setlk; rw [List.getElem?_set, if_neg (fun e => hip e.symm)]; exact hn)
    · rintro ⟨hs, hq'⟩ i n hn
      rcases get i n hn with ⟨rfl, rfl⟩ | ⟨_, hn⟩
      · refine ⟨fun j hj => by injection hj with hj; rw [← hj]; exact hq', fun hb => ?_, fun a t ha _ => ?_⟩
        · have : x.bs = true := hb
          rw [hxb] at this
          cases this
        · have : x.fr = some a := ha
          rw [hxf] at this
          cases this
      · exact hs i n hn
structure Joined (s : List KN) (h : Nat → Nat) (a b : Nat) (r : Bool) (s' : List KN) : Prop where
  yes : r = true → ∃ h', WF s' h' ∧ ((s' = s ∧ h' = h) ∨ US s' < US s)
  sol : r = true → ∀ ρ, Sol s' ρ ↔ Sol s ρ ∧ ρ a = ρ b
  no : r = false → ∀ ρ, Sol s ρ → ρ a ≠ ρ b
theorem join_open {s : List KN} {h : Nat → Nat} (w : WF s h) {a b p q : Nat} {f : Nat} (ha : fend s f a = some p) (hb : fend s f b = some q) (hpq : p ≠ q) {x : KN} (hx : s[p]? = some x) (hxb : x.bs = false) (hxf : x.fr = none) :
    ∃ f r s', fjoin f s a b = some (r, s') ∧ Joined s h a b r s' := by
  obtain ⟨⟨x', hx', hxl⟩, sa, _⟩ := fend_ok ha
  rw [hx] at hx'
  injection hx' with hx'
  subst hx'
  obtain ⟨⟨y, hy, hyl⟩, sb, _⟩ := fend_ok hb
  have hql : q < s.length := fend_lt hb
  obtain ⟨bw, hw⟩ := fwithin_tot w p (h q + 2) q (Nat.le_refl _) hql
  have hw' := fwithin_le (Nat.le_max_right f (h q + 2)) hw
  have ha' := fend_le (Nat.le_max_left f (h q + 2)) ha
  have hb' := fend_le (Nat.le_max_left f (h q + 2)) hb
  generalize max f (h q + 2) = F at *
  refine ⟨F + 1, ?_⟩
  have hxl' := hxl
  cases bw with
  | true =>
    refine ⟨false, s, ?_, fun e => (by cases e), fun e => (by cases e), fun _ ρ hs e => ?_⟩
    · unfold fjoin
      rw [ha', hb']
      simp only
      rw [if_neg hpq, hx, hy]
      simp only
      rw [if_pos ⟨hxb, hxf⟩, hw']
    · have e2 : ρ p = ρ q := by rw [← sa ρ hs, ← sb ρ hs]; exact e
      -- q holds p strictly
      cases F with
      | zero => simp [fwithin] at hw'
      | succ F =>
      cases F with
      | zero => simp [fwithin, fend] at hw'
      | succ F =>
        unfold fwithin at hw'
        rw [fend_self F hy hyl] at hw'
        simp only at hw'
        rw [if_neg hpq, hy] at hw'
        simp only at hw'
        cases hf : y.fr with
        | none => rw [hf] at hw'; cases hw'
        | some c =>
          rw [hf] at hw'
          simp only at hw'
          cases ht : y.tk with
          | none => exact absurd ((w.arr q y hy).2 ht) (by rw [hf]; simp)
          | some t =>
            have h3 := (hs q y hy).2.2 c t hf ht
            cases hc : fwithin s (F + 1) p c with
            | none => rw [hc] at hw'; cases hw'
            | some bc =>
              rw [hc] at hw'
              have e3 : (ρ q).sz = (ρ c).sz + (ρ t).sz + 1 := by rw [h3, KT.sz]
              have p1 := (ρ c).sz_pos
              have p2 := (ρ t).sz_pos
              rw [← e2] at e3
              cases bc with
              | true => have := fwithin_sz w.arr hs hc; omega
              | false =>
                simp only at hw'
                rw [ht] at hw'
                have := fwithin_sz w.arr hs hw'
                omega
  | false =>
    have hnr := fwithin_false w hx hxl' hw'
    obtain ⟨⟨h', w'⟩, hU, hS⟩ := w.link hx hxl' hxb hxf hql hnr
    refine ⟨true, setlk s p x q, ?_, fun _ => ⟨h', w', .inr hU⟩, fun _ ρ => ?_, fun e => (by cases e)⟩
    · unfold fjoin
      rw [ha', hb']
      simp only
      rw [if_neg hpq, hx, hy]
      simp only
      rw [if_pos ⟨hxb, hxf⟩, hw']
    · rw [hS ρ]
      constructor
      · rintro ⟨h1, h2⟩
        exact ⟨h1, by rw [sa ρ h1, sb ρ h1]; exact h2⟩
      · rintro ⟨h1, h2⟩
        exact ⟨h1, by rw [← sa ρ h1, ← sb ρ h1]; exact h2⟩
theorem join_main : ∀ (n m : Nat) (s : List KN) (h : Nat → Nat) (a b : Nat), WF s h → a < s.length → b < s.length → US s ≤ n → h a + h b ≤ m → ∃ f r s', fjoin f s a b = some (r, s') ∧ Joined s h a b r s' := by
  intro n
  induction n using Nat.strongRecOn with
  | _ n ihn =>
  intro m
  induction m using Nat.strongRecOn with
  | _ m ihm =>
  intro s h a b w hal hbl hU hm
  obtain ⟨p, hp⟩ := fend_tot w (h a + 1) a (by omega) hal
  obtain ⟨q, hq⟩ := fend_tot w (h b + 1) b (by omega) hbl
  have hp := fend_le (Nat.le_max_left (h a + 1) (h b + 1)) hp
  have hq := fend_le (Nat.le_max_right (h a + 1) (h b + 1)) hq
  generalize max (h a + 1) (h b + 1) = F at *
  obtain ⟨⟨x, hx, hxl⟩, sa, la⟩ := fend_ok hp
  obtain ⟨⟨y, hy, hyl⟩, sb, lb⟩ := fend_ok hq
  have la := la h w
  have lb := lb h w
  have hpl : p < s.length := fend_lt hp
  have hql : q < s.length := fend_lt hq
  by_cases hpq : p = q
  · refine ⟨F + 1, true, s, ?_, fun _ => ⟨h, w, .inl ⟨rfl, rfl⟩⟩, fun _ ρ => ?_, fun e => (by cases e)⟩
    · unfold fjoin
      rw [hp, hq]
      simp only
      rw [if_pos hpq]
    · exact ⟨fun hs => ⟨hs, by rw [sa ρ hs, sb ρ hs, hpq]⟩, fun hs => hs.1⟩
  by_cases c1 : x.bs = false ∧ x.fr = none
  · exact join_open w hp hq hpq hx c1.1 c1.2
  by_cases c2 : y.bs = false ∧ y.fr = none
  · cases F with
    | zero => simp [fend] at hp
    | succ F0 =>
    obtain ⟨f, r, s', hj, J⟩ := join_open w (f := F0 + 1) (a := q) (b := p) (fend_self F0 hy hyl) (fend_self F0 hx hxl) (fun e => hpq e.symm) hy c2.1 c2.2
    have hj := fjoin_le (Nat.le_max_right (F0 + 1) f) hj
    have hp := fend_le (Nat.le_max_left (F0 + 1) f) hp
    have hq := fend_le (Nat.le_max_left (F0 + 1) f) hq
    generalize max (F0 + 1) f = G at *
    refine ⟨G + 1, r, s', ?_, J.yes, fun e ρ => ?_, fun e ρ hs e2 => ?_⟩
    · unfold fjoin
      rw [hp, hq]
      simp only
      rw [if_neg hpq, hx, hy]
      simp only
      rw [if_neg c1, if_pos c2]
      exact hj
    · rw [J.sol e ρ]
      constructor
      · rintro ⟨h1, h2⟩; exact ⟨h1, by rw [sa ρ h1, sb ρ h1]; exact h2.symm⟩
      · rintro ⟨h1, h2⟩; exact ⟨h1, by rw [← sa ρ h1, ← sb ρ h1]; exact h2.symm⟩
    · exact J.no e ρ hs (by rw [← sa ρ hs, ← sb ρ hs]; exact e2.symm)
  by_cases c3 : x.bs = true ∨ y.bs = true
  · refine ⟨F + 1, x.bs && y.bs, s, ?_, fun e => ⟨h, w, .inl ⟨rfl, rfl⟩⟩, fun e ρ => ?_, fun e ρ hs e2 => ?_⟩
    · unfold fjoin
      rw [hp, hq]
      simp only
      rw [if_neg hpq, hx, hy]
      simp only
      rw [if_neg c1, if_neg c2, if_pos c3]
    · rw [Bool.and_eq_true] at e
      exact ⟨fun hs => ⟨hs, by rw [sa ρ hs, sb ρ hs, (hs p x hx).2.1 e.1, (hs q y hy).2.1 e.2]⟩, fun hs => hs.1⟩
    · rw [sa ρ hs, sb ρ hs] at e2
      cases hxb : x.bs with
      | true =>
        cases hyb : y.bs with
        | true => rw [hxb, hyb] at e; cases e
        | false =>
          have hyf : y.fr ≠ none := fun e3 => c2 ⟨hyb, e3⟩
          obtain ⟨c, hc⟩ := Option.ne_none_iff_exists'.1 hyf
          have hyt : y.tk ≠ none := fun e3 => hyf ((w.arr q y hy).2 e3)
          obtain ⟨t, ht⟩ := Option.ne_none_iff_exists'.1 hyt
          rw [(hs p x hx).2.1 hxb, (hs q y hy).2.2 c t hc ht] at e2
          cases e2
      | false =>
        have hyb : y.bs = true := by rcases c3 with c | c; rw [hxb] at c; cases c; exact c
        have hxf : x.fr ≠ none := fun e3 => c1 ⟨hxb, e3⟩
        obtain ⟨c, hc⟩ := Option.ne_none_iff_exists'.1 hxf
        have hxt : x.tk ≠ none := fun e3 => hxf ((w.arr p x hx).2 e3)
        obtain ⟨t, ht⟩ := Option.ne_none_iff_exists'.1 hxt
        rw [(hs q y hy).2.1 hyb, (hs p x hx).2.2 c t hc ht] at e2
        cases e2
  -- two arrows
  have hxb : x.bs = false := by cases e : x.bs; rfl; exact absurd (.inl e) c3
  have hyb : y.bs = false := by cases e : y.bs; rfl; exact absurd (.inr e) c3
  have hxf : x.fr ≠ none := fun e3 => c1 ⟨hxb, e3⟩
  have hyf : y.fr ≠ none := fun e3 => c2 ⟨hyb, e3⟩
  obtain ⟨xf, hxf⟩ := Option.ne_none_iff_exists'.1 hxf
  obtain ⟨yf, hyf⟩ := Option.ne_none_iff_exists'.1 hyf
  obtain ⟨xt, hxt⟩ := Option.ne_none_iff_exists'.1 (show x.tk ≠ none from fun e3 => by rw [(w.arr p x hx).2 e3] at hxf; cases hxf)
  obtain ⟨yt, hyt⟩ := Option.ne_none_iff_exists'.1 (show y.tk ≠ none from fun e3 => by rw [(w.arr q y hy).2 e3] at hyf; cases hyf)
  have dx := w.dec p x hx
  have dy := w.dec q y hy
  have d1 := dx.2.1 xf hxf
  have d2 := dx.2.2 xt hxt
  have d3 := dy.2.1 yf hyf
  have d4 := dy.2.2 yt hyt
  have r1 := (w.rng p x hx).2.1 xf hxf
  have r2 := (w.rng p x hx).2.2 xt hxt
  have r3 := (w.rng q y hy).2.1 yf hyf
  have r4 := (w.rng q y hy).2.2 yt hyt
  have ex : ∀ ρ, Sol s ρ → ρ a = .ar (ρ xf) (ρ xt) := fun ρ hs => (sa ρ hs).trans ((hs p x hx).2.2 xf xt hxf hxt)
  have ey : ∀ ρ, Sol s ρ → ρ b = .ar (ρ yf) (ρ yt) := fun ρ hs => (sb ρ hs).trans ((hs q y hy).2.2 yf yt hyf hyt)
  obtain ⟨f1, rj, s1, hj1, J1⟩ := ihm (h xf + h yf) (by omega) s h xf yf w r1 r3 hU (Nat.le_refl _)
  cases rj with
  | false =>
    have hj1 := fjoin_le (Nat.le_max_right F f1) hj1
    have hp := fend_le (Nat.le_max_left F f1) hp
    have hq := fend_le (Nat.le_max_left F f1) hq
    generalize max F f1 = G at *
    refine ⟨G + 1, false, s1, ?_, fun e => (by cases e), fun e => (by cases e), fun _ ρ hs e => ?_⟩
    · unfold fjoin
      rw [hp, hq]
      simp only
      rw [if_neg hpq, hx, hy]
      simp only
      rw [if_neg c1, if_neg c2, if_neg c3, hxf, hyf]
      simp only
      rw [hj1]
    · rw [ex ρ hs, ey ρ hs] at e
      injection e with e1 e2
      exact J1.no rfl ρ hs e1
  | true =>
    obtain ⟨h1, w1, hU1⟩ := J1.yes rfl
    have hS1 := J1.sol rfl
    have sh := fjoin_shape f1 s xf yf true s1 hj1
    obtain ⟨x1, hx1, _, hxt1⟩ := shape_fr (sh p) hx
    obtain ⟨y1, hy1, _, hyt1⟩ := shape_fr (sh q) hy
    rw [hxt] at hxt1
    rw [hyt] at hyt1
    have len : s1.length = s.length := by
      have g := fun k => congrArg Option.isSome (sh k)
      simp only [Option.isSome_map] at g
      by_cases hlt : s1.length < s.length
      · have := g s1.length
        rw [List.getElem?_eq_none (Nat.le_refl _), List.getElem?_eq_getElem hlt] at this
        cases this
      · by_cases hgt : s.length < s1.length
        · have := g s.length
          rw [List.getElem?_eq_none (Nat.le_refl _), List.getElem?_eq_getElem hgt] at this
          cases this
        · omega
    have second : ∃ f r s', fjoin f s1 xt yt = some (r, s') ∧ Joined s1 h1 xt yt r s' ∧ (US s1 ≤ US s) := by
      rcases hU1 with ⟨e1, e2⟩ | hlt
      · subst e1 e2
        obtain ⟨f, r, s', k1, k2⟩ := ihm (h1 xt + h1 yt) (by omega) s1 h1 xt yt w1 r2 r4 hU (Nat.le_refl _)
        exact ⟨f, r, s', k1, k2, Nat.le_refl _⟩
      · obtain ⟨f, r, s', k1, k2⟩ := ihn (US s1) (by omega) (h1 xt + h1 yt) s1 h1 xt yt w1 (by rw [len]; exact r2) (by rw [len]; exact r4) (Nat.le_refl _) (Nat.le_refl _)
        exact ⟨f, r, s', k1, k2, by omega⟩
    obtain ⟨f2, r, s', hj2, J2, hU2⟩ := second
    have hj1 := fjoin_le (Nat.le_trans (Nat.le_max_left f1 f2) (Nat.le_max_right F (max f1 f2))) hj1
    have hj2 := fjoin_le (Nat.le_trans (Nat.le_max_right f1 f2) (Nat.le_max_right F (max f1 f2))) hj2
    have hp := fend_le (Nat.le_max_left F (max f1 f2)) hp
    have hq := fend_le (Nat.le_max_left F (max f1 f2)) hq
    generalize max F (max f1 f2) = G at *
    refine ⟨G + 1, r, s', ?_, fun e => ?_, fun e ρ => ?_, fun e ρ hs e2 => ?_⟩
    · unfold fjoin
      rw [hp, hq]
      simp only
      rw [if_neg hpq, hx, hy]
      simp only
      rw [if_neg c1, if_neg c2, if_neg c3, hxf, hyf]
      simp only
      rw [hj1]
      simp only
      rw [hx1, hy1]
      simp only
      rw [hxt1, hyt1]
      exact hj2
    · obtain ⟨h2, w2, h3⟩ := J2.yes e
      refine ⟨h2, w2, ?_⟩
      rcases h3 with ⟨e1, e2⟩ | h3
      · rcases hU1 with ⟨e3, e4⟩ | hlt
        · exact .inl ⟨e1.trans e3, e2.trans e4⟩
        · exact .inr (by rw [e1]; exact hlt)
      · exact .inr (by omega)
    · rw [J2.sol e ρ, hS1 ρ]
      constructor
      · rintro ⟨⟨k1, k2⟩, k3⟩
        exact ⟨k1, by rw [ex ρ k1, ey ρ k1, k2, k3]⟩
      · rintro ⟨k1, k2⟩
        rw [ex ρ k1, ey ρ k1] at k2
        injection k2 with k2 k3
        exact ⟨⟨k1, k2⟩, k3⟩
    · rw [ex ρ hs, ey ρ hs] at e2
      injection e2 with e3 e4
      exact J2.no e ρ ((hS1 ρ).2 ⟨hs, e3⟩) e4
theorem join_ok {s : List KN} {h : Nat → Nat} (w : WF s h) {a b : Nat} (ha : a < s.length) (hb : b < s.length) : ∃ f r s', fjoin f s a b = some (r, s') ∧ Joined s h a b r s' :=
  join_main (US s) (h a + h b) s h a b w ha hb (Nat.le_refl _) (Nat.le_refl _)
end Go.Proofs.Ytfhgoebgnilfaaa.I
namespace Go.Proofs.Ytfhgoebgnilfaaa.I
open Go.RowKit
set_option linter.unusedVariables false
theorem Sol.agree {s : List KN} {h : Nat → Nat} (w : WF s h) {ρ ρ' : Nat → KT} (e : ∀ i, i < s.length → ρ' i = ρ i) (hs : Sol s ρ) : Sol s ρ' := by
  intro i n hn
  have hi : i < s.length := (List.getElem?_eq_some_iff.1 hn).1
  have hr := w.rng i n hn
  refine ⟨fun j hj => ?_, fun hb => ?_, fun a t ha ht => ?_⟩
  · rw [e i hi, e j (hr.1 j hj)]; exact (hs i n hn).1 j hj
  · rw [e i hi]; exact (hs i n hn).2.1 hb
  · rw [e i hi, e a (hr.2.1 a ha), e t (hr.2.2 t ht)]; exact (hs i n hn).2.2 a t ha ht
theorem get_push {s : List KN} {n m : KN} {i : Nat} (h : (s ++ [n])[i]? = some m) : (i < s.length ∧ s[i]? = some m) ∨ (i = s.length ∧ m = n) := by
  by_cases hi : i < s.length
  · rw [List.getElem?_append_left hi] at h
    exact .inl ⟨hi, h⟩
  · have hl : i < (s ++ [n]).length := (List.getElem?_eq_some_iff.1 h).1
    rw [List.length_append] at hl
    simp only [List.length_cons, List.length_nil] at hl
    have hie : i = s.length := by omega
    subst hie
    rw [List.getElem?_append_right (Nat.le_refl _), Nat.sub_self] at h
    injection h with h
    exact .inr ⟨rfl, h.symm⟩
theorem WF.push {s : List KN} {h : Nat → Nat} (w : WF s h) {n : KN} (hl : n.lk = none) (hf : inS s.length n.fr) (ht : inS s.length n.tk) (ha : n.fr = none ↔ n.tk = none) (hb : n.bs = true → n.fr = none) :
    ∃ h', WF (s ++ [n]) h' := by
  refine ⟨fun i => if i < s.length then h i else ((n.fr.map h).getD 0 + (n.tk.map h).getD 0) + 1, ?_, ?_, ?_, ?_, ?_⟩
  · intro i m hm
    have up : ∀ o, inS s.length o → inS (s ++ [n]).length o := fun o ho j hj => by rw [List.length_append]; have := ho j hj; omega
    rcases get_push hm with ⟨hi, hm⟩ | ⟨hi, rfl⟩
    · have := w.rng i m hm
      exact ⟨up _ this.1, up _ this.2.1, up _ this.2.2⟩
    · exact ⟨fun j hj => (by rw [hl] at hj; cases hj), up _ hf, up _ ht⟩
  · intro i m hm
    rcases get_push hm with ⟨hi, hm⟩ | ⟨hi, rfl⟩
    · exact w.arr i m hm
    · exact ha
  · intro i m hm
    rcases get_push hm with ⟨hi, hm⟩ | ⟨hi, rfl⟩
    · exact w.bas i m hm
    · exact hb
  · intro i m hm
    rcases get_push hm with ⟨hi, hm⟩ | ⟨hi, rfl⟩
    · exact w.lnk i m hm
    · exact fun e => absurd hl e
  · intro i m hm
    rcases get_push hm with ⟨hi, hm⟩ | ⟨hi, rfl⟩
    · have hr := w.rng i m hm
      have hd := w.dec i m hm
      rw [if_pos hi]
      exact ⟨fun j hj => by rw [if_pos (hr.1 j hj)]; exact hd.1 j hj, fun j hj => by rw [if_pos (hr.2.1 j hj)]; exact hd.2.1 j hj, fun j hj => by rw [if_pos (hr.2.2 j hj)]; exact hd.2.2 j hj⟩
    · subst hi
      rw [if_neg (Nat.lt_irrefl _)]
      refine ⟨fun j hj => (by rw [hl] at hj; cases hj), fun j hj => ?_, fun j hj => ?_⟩
      · rw [if_pos (hf j hj), hj]; simp only [Option.map_some, Option.getD_some]; omega
      · rw [if_pos (ht j hj), hj]; simp only [Option.map_some, Option.getD_some]; omega
theorem Sol.push {s : List KN} {n : KN} {ρ : Nat → KT} : Sol (s ++ [n]) ρ ↔ Sol s ρ ∧ ((∀ j, n.lk = some j → ρ s.length = ρ j) ∧ (n.bs = true → ρ s.length = .o) ∧ (∀ a t, n.fr = some a → n.tk = some t → ρ s.length = .ar (ρ a) (ρ t))) := by
  constructor
  · intro hs
    refine ⟨fun i m hm => hs i m ?_, hs s.length n ?_⟩
    · rw [List.getElem?_append_left (List.getElem?_eq_some_iff.1 hm).1]; exact hm
    · rw [List.getElem?_append_right (Nat.le_refl _), Nat.sub_self]; rfl
  · rintro ⟨hs, hn⟩ i m hm
    rcases get_push hm with ⟨hi, hm⟩ | ⟨rfl, rfl⟩
    · exact hs i m hm
    · exact hn
structure Ext (s s' : List KN) : Prop where
  len : s.length ≤ s'.length
  wf : ∃ h', WF s' h'
  down : ∀ ρ, Sol s' ρ → Sol s ρ
theorem Ext.refl {s : List KN} {h : Nat → Nat} (w : WF s h) : Ext s s := ⟨Nat.le_refl _, ⟨h, w⟩, fun _ hs => hs⟩
theorem Ext.trans {s s1 s2 : List KN} (a : Ext s s1) (b : Ext s1 s2) : Ext s s2 := ⟨Nat.le_trans a.len b.len, b.wf, fun ρ hs => a.down ρ (b.down ρ hs)⟩
theorem push_arrow {s : List KN} {h : Nat → Nat} (w : WF s h) {a t : Nat} (ha : a < s.length) (ht : t < s.length) :
    Ext s (s ++ [⟨none, false, some a, some t⟩]) ∧ (∀ ρ, Sol (s ++ [⟨none, false, some a, some t⟩]) ρ ↔ Sol s ρ ∧ ρ s.length = .ar (ρ a) (ρ t)) := by
  refine ⟨⟨by rw [List.length_append]; omega, w.push (n := ⟨none, false, some a, some t⟩) rfl (fun j hj => by injection hj with hj; omega) (fun j hj => by injection hj with hj; omega) ⟨fun e => (by cases e), fun e => (by cases e)⟩ (fun e => (by cases e)), fun ρ hs => (Sol.push.1 hs).1⟩, fun ρ => ?_⟩
  rw [Sol.push]
  constructor
  · rintro ⟨h1, h2⟩; exact ⟨h1, h2.2.2 a t rfl rfl⟩
  · rintro ⟨h1, h2⟩
    exact ⟨h1, fun j hj => (by cases hj), fun e => (by cases e), fun a' t' e1 e2 => by injection e1 with e1; injection e2 with e2; subst e1 e2; exact h2⟩
theorem push_bare {s : List KN} {h : Nat → Nat} (w : WF s h) : Ext s (s ++ [kbare]) ∧ (∀ ρ, Sol (s ++ [kbare]) ρ ↔ Sol s ρ) := by
  refine ⟨⟨by rw [List.length_append]; omega, w.push (n := kbare) rfl (fun j hj => (by cases hj)) (fun j hj => (by cases hj)) ⟨fun _ => rfl, fun _ => rfl⟩ (fun e => (by cases e)), fun ρ hs => (Sol.push.1 hs).1⟩, fun ρ => ?_⟩
  rw [Sol.push]
  exact ⟨fun e => e.1, fun e => ⟨e, fun j hj => (by cases hj), fun e => (by cases e), fun a t e1 _ => (by cases e1)⟩⟩
def ars : List KT → KT → KT
  | [], t => t
  | a :: l, t => .ar a (ars l t)
theorem ars_snoc (l : List KT) (a t : KT) : ars (l ++ [a]) t = ars l (.ar a t) := by
  induction l with
  | nil => rfl
  | cons b l ih => rw [List.cons_append, ars, ars, ih]
def upd (ρ : Nat → KT) (i : Nat) (t : KT) : Nat → KT := fun j => if j = i then t else ρ j
theorem farrowR_ok : ∀ (ps : List Nat) {s : List KN} {h : Nat → Nat} {k : Nat}, WF s h → k < s.length → (∀ p, p ∈ ps → p < s.length) →
    Ext s (farrowR s k ps).2 ∧ (farrowR s k ps).1 < (farrowR s k ps).2.length ∧ (∀ ρ, Sol (farrowR s k ps).2 ρ → ρ (farrowR s k ps).1 = ars (ps.reverse.map ρ) (ρ k)) ∧ (∀ ρ, Sol s ρ → ∃ ρ', (∀ i, i < s.length → ρ' i = ρ i) ∧ Sol (farrowR s k ps).2 ρ')
  | [], s, h, k, w, hk, hp => ⟨Ext.refl w, hk, fun ρ _ => rfl, fun ρ hs => ⟨ρ, fun _ _ => rfl, hs⟩⟩
  | p :: ps, s, h, k, w, hk, hp => by
    have hpl := hp p List.mem_cons_self
    obtain ⟨x1, hS⟩ := push_arrow w hpl hk
    obtain ⟨h1, w1⟩ := x1.wf
    have len1 : (s ++ [(⟨none, false, some p, some k⟩ : KN)]).length = s.length + 1 := by rw [List.length_append]; rfl
    obtain ⟨x2, hk2, hA, hE⟩ := farrowR_ok ps (s := s ++ [⟨none, false, some p, some k⟩]) (k := s.length) w1 (by rw [len1]; omega) (fun q hq => by rw [len1]; have := hp q (List.mem_cons_of_mem _ hq); omega)
    refine ⟨x1.trans x2, hk2, fun ρ hs => ?_, fun ρ hs => ?_⟩
    · show ρ (farrowR (s ++ [⟨none, false, some p, some k⟩]) s.length ps).1 = _
      rw [hA ρ hs, ((hS ρ).1 (x2.down ρ hs)).2, List.reverse_cons, List.map_append, List.map_cons, List.map_nil, ars_snoc]
    · have hs1 : Sol (s ++ [⟨none, false, some p, some k⟩]) (upd ρ s.length (.ar (ρ p) (ρ k))) := by
        rw [hS]
        refine ⟨Sol.agree w (fun i hi => by unfold upd; rw [if_neg (by omega)]) hs, ?_⟩
        unfold upd
        rw [if_pos rfl, if_neg (by omega), if_neg (by omega)]
      obtain ⟨ρ', he, hs'⟩ := hE _ hs1
      exact ⟨ρ', fun i hi => (he i (by rw [len1]; omega)).trans (by unfold upd; rw [if_neg (by omega)]), hs'⟩
theorem farrow_ok (ps : List Nat) {s : List KN} {h : Nat → Nat} {k : Nat} (w : WF s h) (hk : k < s.length) (hp : ∀ p, p ∈ ps → p < s.length) :
    Ext s (farrow s k ps).2 ∧ (farrow s k ps).1 < (farrow s k ps).2.length ∧ (∀ ρ, Sol (farrow s k ps).2 ρ → ρ (farrow s k ps).1 = ars (ps.map ρ) (ρ k)) ∧ (∀ ρ, Sol s ρ → ∃ ρ', (∀ i, i < s.length → ρ' i = ρ i) ∧ Sol (farrow s k ps).2 ρ') := by
  have h := farrowR_ok ps.reverse w hk (fun p hpr => hp p (List.mem_reverse.1 hpr))
  rw [List.reverse_reverse] at h
  exact h
mutual
/-- A term has a sort, the heads having these. -/
def Ty (hd : Int → Int → Option KT) : S44 → KT → Prop
  | ⟨k, n, l⟩, t => ∃ t0, hd k n = some t0 ∧ TyL hd t0 l t
def TyL (hd : Int → Int → Option KT) (t0 : KT) : List S44 → KT → Prop
  | [], t => t = t0
  | x :: xs, t => ∃ a b, t0 = .ar a b ∧ Ty hd x a ∧ TyL hd b xs t
end
def hdE (E : FE) (ρ : Nat → KT) (kd n : Int) : Option KT :=
  if n < 0 then none
  else if kd = 0 then (E.params[n.toNat]?).map ρ
  else if kd = 1 then (E.funs[n.toNat]?).map ρ
  else (E.syms[n.toNat]?).map (fun x => ars (List.replicate x.f1.toNat .o) .o)
structure FEok (E : FE) (s : List KN) : Prop where
  o0 : E.o = 0
  pos : 0 < s.length
  zero : ∀ ρ, Sol s ρ → ρ 0 = .o
  funs : ∀ p, p ∈ E.funs → p < s.length
  params : ∀ p, p ∈ E.params → p < s.length
theorem FEok.ext {E : FE} {s s' : List KN} (e : FEok E s) (x : Ext s s') : FEok E s' :=
  ⟨e.o0, Nat.lt_of_lt_of_le e.pos x.len, fun ρ hs => e.zero ρ (x.down ρ hs), fun p hp => Nat.lt_of_lt_of_le (e.funs p hp) x.len, fun p hp => Nat.lt_of_lt_of_le (e.params p hp) x.len⟩
theorem hdE_agree {E : FE} {s : List KN} (e : FEok E s) {ρ ρ' : Nat → KT} (h : ∀ i, i < s.length → ρ' i = ρ i) : hdE E ρ' = hdE E ρ := by
  funext kd n
  unfold hdE
  by_cases h0 : n < 0
  · rw [if_pos h0, if_pos h0]
  · rw [if_neg h0, if_neg h0]
    by_cases h1 : kd = 0
    · rw [if_pos h1, if_pos h1]
      cases hp : E.params[n.toNat]? with
      | none => rfl
      | some p => simp only [Option.map_some]; rw [h p (e.params p (List.mem_of_getElem? hp))]
    · rw [if_neg h1, if_neg h1]
      by_cases h2 : kd = 1
      · rw [if_pos h2, if_pos h2]
        cases hp : E.funs[n.toNat]? with
        | none => rfl
        | some p => simp only [Option.map_some]; rw [h p (e.funs p (List.mem_of_getElem? hp))]
      · rw [if_neg h2, if_neg h2]
theorem map_replicate_rho {ρ : Nat → KT} {t : KT} {o : Nat} (h : ρ o = t) (m : Nat) : (List.replicate m o).map ρ = List.replicate m t := by rw [List.map_replicate, h]
theorem head_ok {E : FE} {s : List KN} {h : Nat → Nat} (w : WF s h) (e : FEok E s) {kd n : Int} (hn : 0 ≤ n) (hk : (kd = 0 ∧ n < E.params.length) ∨ (kd = 1 ∧ n < E.funs.length) ∨ (kd = 2 ∧ n < E.syms.length)) :
    ∃ k s', fhead E s kd n = some (k, s') ∧ k < s'.length ∧ Ext s s' ∧ (∀ ρ, Sol s' ρ → hdE E ρ kd n = some (ρ k)) ∧ (∀ ρ, Sol s ρ → ∃ ρ', (∀ i, i < s.length → ρ' i = ρ i) ∧ Sol s' ρ') := by
  unfold fhead hdE
  rw [if_neg (by omega)]
  rcases hk with ⟨rfl, hl⟩ | ⟨rfl, hl⟩ | ⟨rfl, hl⟩
  · have hlt : n.toNat < E.params.length := by omega
    have hg := List.getElem?_eq_getElem hlt
    rw [if_pos rfl, hg]
    exact ⟨_, s, rfl, e.params _ (List.getElem_mem hlt), Ext.refl w, fun ρ _ => by rw [if_neg (by omega), if_pos rfl]; rfl, fun ρ hs => ⟨ρ, fun _ _ => rfl, hs⟩⟩
  · have hlt : n.toNat < E.funs.length := by omega
    have hg := List.getElem?_eq_getElem hlt
    rw [if_neg (by decide), if_pos rfl, hg]
    exact ⟨_, s, rfl, e.funs _ (List.getElem_mem hlt), Ext.refl w, fun ρ _ => by rw [if_neg (by omega), if_neg (by decide), if_pos rfl]; rfl, fun ρ hs => ⟨ρ, fun _ _ => rfl, hs⟩⟩
  · have hlt : n.toNat < E.syms.length := by omega
    have hg := List.getElem?_eq_getElem hlt
    rw [if_neg (by decide), if_neg (by decide), hg]
    generalize E.syms[n.toNat] = x at *
    obtain ⟨x1, hk1, hA, hE⟩ := farrow_ok (List.replicate x.f1.toNat E.o) w (k := E.o) (by rw [e.o0]; exact e.pos) (fun p hp => by rw [(List.mem_replicate.1 hp).2, e.o0]; exact e.pos)
    refine ⟨(farrow s E.o (List.replicate x.f1.toNat E.o)).1, (farrow s E.o (List.replicate x.f1.toNat E.o)).2, rfl, hk1, x1, fun ρ hs => ?_, hE⟩
    rw [if_neg (by omega), if_neg (by decide), if_neg (by decide)]
    simp only [Option.map_some]
    have hz : ρ E.o = .o := by rw [e.o0]; exact e.zero ρ (x1.down ρ hs)
    rw [hA ρ hs, map_replicate_rho hz, hz]
structure Termed (E : FE) (s : List KN) (P : (Nat → KT) → KT → Prop) (r : Option Nat) (s' : List KN) : Prop where
  yes : ∀ k, r = some k → k < s'.length ∧ Ext s s' ∧ (∀ ρ, Sol s' ρ → P ρ (ρ k)) ∧ (∀ ρ t, Sol s ρ → P ρ t → ∃ ρ', (∀ i, i < s.length → ρ' i = ρ i) ∧ Sol s' ρ' ∧ ρ' k = t)
  no : r = none → ∀ ρ t, Sol s ρ → ¬ P ρ t
theorem fterm_le {E : FE} {s : List KN} {kd n : Int} {l : List S44} {r : Option Nat × List KN} {f f' : Nat} (hf : f ≤ f') (h : fterm E f s kd n l = some r) : fterm E f' s kd n l = some r := by
  induction hf with
  | refl => exact h
  | step _ ih => exact (fterm_s E _).1 _ _ _ _ _ ih
theorem ftermL_le {E : FE} {s : List KN} {k : Nat} {l : List S44} {r : Option Nat × List KN} {f f' : Nat} (hf : f ≤ f') (h : ftermL E f s k l = some r) : ftermL E f' s k l = some r := by
  induction hf with
  | refl => exact h
  | step _ ih => exact (fterm_s E _).2 _ _ _ _ ih
mutual
theorem term_ok {E : FE} : ∀ (x : S44) {s : List KN} {h : Nat → Nat}, WF s h → FEok E s → knownS x E.params.length E.funs.length E.syms.length = true →
    ∃ f r s', fterm E f s x.f0 x.f1 x.f2 = some (r, s') ∧ Termed E s (fun ρ t => Ty (hdE E ρ) x t) r s'
  | ⟨kd, n, l⟩, s, h, w, e, hk => by
    unfold knownS at hk
    simp only [Bool.and_eq_true, decide_eq_true_eq] at hk
    obtain ⟨⟨hkd, hn, hlt⟩, hkl⟩ := hk
    have hcase : (kd = 0 ∧ n < E.params.length) ∨ (kd = 1 ∧ n < E.funs.length) ∨ (kd = 2 ∧ n < E.syms.length) := by
      unfold isK at hkd
      unfold manyK at hlt
      grind
    obtain ⟨k, s1, hh, hk1, x1, hd, up⟩ := head_ok w e hn hcase
    obtain ⟨h1, w1⟩ := x1.wf
    obtain ⟨f, r, s', hf, T⟩ := termL_ok l w1 (e.ext x1) hk1 hkl
    refine ⟨f + 1, r, s', ?_, ?_, ?_⟩
    · show fterm E (f + 1) s kd n l = _
      unfold fterm
      rw [hh]
      exact hf
    · intro q hq
      obtain ⟨a1, a2, a3, a4⟩ := T.yes q hq
      refine ⟨a1, x1.trans a2, fun ρ hs => ?_, fun ρ t hs ht => ?_⟩
      · unfold Ty
        exact ⟨ρ k, hd ρ (a2.down ρ hs), a3 ρ hs⟩
      · unfold Ty at ht
        obtain ⟨t0, ht0, ht⟩ := ht
        obtain ⟨ρ1, ag, hs1⟩ := up ρ hs
        have e1 := hdE_agree e ag
        have e2 := hd ρ1 hs1
        rw [e1, ht0] at e2
        injection e2 with e2
        obtain ⟨ρ2, ag2, hs2, hq2⟩ := a4 ρ1 t hs1 (by rw [e1, ← e2]; exact ht)
        exact ⟨ρ2, fun i hi => (ag2 i (Nat.lt_of_lt_of_le hi x1.len)).trans (ag i hi), hs2, hq2⟩
    · intro hr ρ t hs ht
      unfold Ty at ht
      obtain ⟨t0, ht0, ht⟩ := ht
      obtain ⟨ρ1, ag, hs1⟩ := up ρ hs
      have e1 := hdE_agree e ag
      have e2 := hd ρ1 hs1
      rw [e1, ht0] at e2
      injection e2 with e2
      exact T.no hr ρ1 t hs1 (by rw [e1, ← e2]; exact ht)
theorem termL_ok {E : FE} : ∀ (l : List S44) {s : List KN} {h : Nat → Nat} {k : Nat}, WF s h → FEok E s → k < s.length → knownL l E.params.length E.funs.length E.syms.length = true →
    ∃ f r s', ftermL E f s k l = some (r, s') ∧ Termed E s (fun ρ t => TyL (hdE E ρ) (ρ k) l t) r s'
  | [], s, h, k, w, e, hk, _ => by
    refine ⟨1, some k, s, rfl, fun q hq => ?_, fun e => (by cases e)⟩
    injection hq with hq
    subst hq
    exact ⟨hk, Ext.refl w, fun ρ hs => rfl, fun ρ t hs ht => ⟨ρ, fun _ _ => rfl, hs, ht.symm⟩⟩
  | x :: xs, s, h, k, w, e, hk, hkn => by
    unfold knownL at hkn
    rw [Bool.and_eq_true] at hkn
    obtain ⟨f1, r1, s1, hf1, T1⟩ := term_ok x w e hkn.1
    cases r1 with
    | none =>
      refine ⟨f1 + 1, none, s1, ?_, fun q hq => (by cases hq), fun _ ρ t hs ht => ?_⟩
      · unfold ftermL
        rw [hf1]
      · unfold TyL at ht
        obtain ⟨a, b, _, ha, _⟩ := ht
        exact T1.no rfl ρ a hs ha
    | some xk =>
      obtain ⟨hxk, x1, down1, up1⟩ := T1.yes xk rfl
      obtain ⟨h1, w1⟩ := x1.wf
      obtain ⟨x2, hS2⟩ := push_bare w1
      obtain ⟨h2, w2⟩ := x2.wf
      have len2 : (s1 ++ [kbare]).length = s1.length + 1 := by rw [List.length_append]; rfl
      obtain ⟨x3, hS3⟩ := push_arrow w2 (a := xk) (t := s1.length) (by rw [len2]; omega) (by rw [len2]; omega)
      obtain ⟨h3, w3⟩ := x3.wf
      have len3 : (s1 ++ [kbare] ++ [(⟨none, false, some xk, some s1.length⟩ : KN)]).length = s1.length + 2 := by rw [List.length_append, len2]; rfl
      have hks1 : k < s1.length := Nat.lt_of_lt_of_le hk x1.len
      obtain ⟨fj, rj, sj, hj, J⟩ := join_ok w3 (a := k) (b := s1.length + 1) (by rw [len3]; omega) (by rw [len3]; omega)
      have x03 := x1.trans (x2.trans x3)
      -- the equations behind the new kinds
      have eqs : ∀ ρ, Sol (s1 ++ [kbare] ++ [⟨none, false, some xk, some s1.length⟩]) ρ ↔ Sol s1 ρ ∧ ρ (s1.length + 1) = .ar (ρ xk) (ρ s1.length) := by
        intro ρ
        rw [hS3, hS2, len2]
      cases rj with
      | false =>
        have hj := fjoin_le (Nat.le_max_right f1 fj) hj
        have hf1 := fterm_le (Nat.le_max_left f1 fj) hf1
        refine ⟨max f1 fj + 1, none, sj, ?_, fun q hq => (by cases hq), fun _ ρ t hs ht => ?_⟩
        · unfold ftermL
          rw [hf1]
          simp only
          have hj' : fjoin (max f1 fj) (s1 ++ [⟨none, false, none, none⟩] ++ [⟨none, false, some xk, some s1.length⟩]) k (s1.length + 1) = some (false, sj) := hj
          rw [hj']
        · unfold TyL at ht
          obtain ⟨a, b, hab, ha, _⟩ := ht
          obtain ⟨ρ1, ag1, hs1, hx1⟩ := up1 ρ a hs ha
          have ag : ∀ i, i < s1.length → upd (upd ρ1 s1.length b) (s1.length + 1) (.ar a b) i = ρ1 i := fun i hi => by unfold upd; rw [if_neg (by omega), if_neg (by omega)]
          refine J.no rfl (upd (upd ρ1 s1.length b) (s1.length + 1) (.ar a b)) ((eqs _).2 ⟨Sol.agree w1 ag hs1, ?_⟩) ?_
          · rw [ag xk hxk, hx1]
            unfold upd
            rw [if_pos rfl, if_neg (by omega), if_pos rfl]
          · rw [ag k hks1, ag1 k hk, hab]
            unfold upd
            rw [if_pos rfl]
      | true =>
        obtain ⟨h4, w4, _⟩ := J.yes rfl
        have hS4 := J.sol rfl
        have lenj : sj.length = s1.length + 2 := by
          have sh := fjoin_shape fj _ k (s1.length + 1) true sj hj
          have g := fun q => congrArg Option.isSome (sh q)
          simp only [Option.isSome_map] at g
          rw [← len3]
          generalize s1 ++ [kbare] ++ [(⟨none, false, some xk, some s1.length⟩ : KN)] = z at *
          by_cases hlt : sj.length < z.length
          · have := g sj.length
            rw [List.getElem?_eq_none (Nat.le_refl _), List.getElem?_eq_getElem hlt] at this
            cases this
          · by_cases hgt : z.length < sj.length
            · have := g z.length
              rw [List.getElem?_eq_none (Nat.le_refl _), List.getElem?_eq_getElem hgt] at this
              cases this
            · omega
        have x4 : Ext s sj := ⟨by rw [lenj]; have := x1.len; omega, ⟨h4, w4⟩, fun ρ hs => x03.down ρ ((hS4 ρ).1 hs).1⟩
        obtain ⟨f2, r, s', hf2, T2⟩ := termL_ok xs (k := s1.length) w4 (e.ext x4) (by rw [lenj]; omega) hkn.2
        have hm1 : f1 ≤ max f1 (max fj f2) := Nat.le_max_left _ _
        have hm2 : fj ≤ max f1 (max fj f2) := Nat.le_trans (Nat.le_max_left _ _) (Nat.le_max_right _ _)
        have hm3 : f2 ≤ max f1 (max fj f2) := Nat.le_trans (Nat.le_max_right _ _) (Nat.le_max_right _ _)
        have hf1 := fterm_le hm1 hf1
        have hj := fjoin_le hm2 hj
        have hf2 := ftermL_le hm3 hf2
        generalize max f1 (max fj f2) = F at *
        refine ⟨F + 1, r, s', ?_, fun q hq => ?_, fun hr ρ t hs ht => ?_⟩
        · unfold ftermL
          rw [hf1]
          simp only
          have hj' : fjoin F (s1 ++ [⟨none, false, none, none⟩] ++ [⟨none, false, some xk, some s1.length⟩]) k (s1.length + 1) = some (true, sj) := hj
          rw [hj']
          exact hf2
        · obtain ⟨a1, a2, a3, a4⟩ := T2.yes q hq
          refine ⟨a1, x4.trans a2, fun ρ hs => ?_, fun ρ t hs ht => ?_⟩
          · have hsj := a2.down ρ hs
            obtain ⟨b1, b2⟩ := (hS4 ρ).1 hsj
            obtain ⟨c1, c2⟩ := (eqs ρ).1 b1
            unfold TyL
            exact ⟨ρ xk, ρ s1.length, by rw [b2, c2], down1 ρ c1, a3 ρ hs⟩
          · unfold TyL at ht
            obtain ⟨a, b, hab, ha, hb⟩ := ht
            obtain ⟨ρ1, ag1, hs1, hx1⟩ := up1 ρ a hs ha
            have ag : ∀ i, i < s1.length → upd (upd ρ1 s1.length b) (s1.length + 1) (.ar a b) i = ρ1 i := fun i hi => by unfold upd; rw [if_neg (by omega), if_neg (by omega)]
            have agS : ∀ i, i < s.length → upd (upd ρ1 s1.length b) (s1.length + 1) (.ar a b) i = ρ i := fun i hi => (ag i (Nat.lt_of_lt_of_le hi x1.len)).trans (ag1 i hi)
            have hsj : Sol sj (upd (upd ρ1 s1.length b) (s1.length + 1) (.ar a b)) := by
              rw [hS4, eqs]
              refine ⟨⟨Sol.agree w1 ag hs1, ?_⟩, ?_⟩
              · rw [ag xk hxk, hx1]
                unfold upd
                rw [if_pos rfl, if_neg (by omega), if_pos rfl]
              · rw [ag k hks1, ag1 k hk, hab]
                unfold upd
                rw [if_pos rfl]
            have hbv : upd (upd ρ1 s1.length b) (s1.length + 1) (.ar a b) s1.length = b := by unfold upd; rw [if_neg (by omega), if_pos rfl]
            obtain ⟨ρ2, ag2, hs2, hq2⟩ := a4 _ t hsj (by rw [hdE_agree e agS, hbv]; exact hb)
            exact ⟨ρ2, fun i hi => (ag2 i (Nat.lt_of_lt_of_le hi x4.len)).trans (agS i hi), hs2, hq2⟩
        · unfold TyL at ht
          obtain ⟨a, b, hab, ha, hb⟩ := ht
          obtain ⟨ρ1, ag1, hs1, hx1⟩ := up1 ρ a hs ha
          have ag : ∀ i, i < s1.length → upd (upd ρ1 s1.length b) (s1.length + 1) (.ar a b) i = ρ1 i := fun i hi => by unfold upd; rw [if_neg (by omega), if_neg (by omega)]
          have agS : ∀ i, i < s.length → upd (upd ρ1 s1.length b) (s1.length + 1) (.ar a b) i = ρ i := fun i hi => (ag i (Nat.lt_of_lt_of_le hi x1.len)).trans (ag1 i hi)
          have hsj : Sol sj (upd (upd ρ1 s1.length b) (s1.length + 1) (.ar a b)) := by
            rw [hS4, eqs]
            refine ⟨⟨Sol.agree w1 ag hs1, ?_⟩, ?_⟩
            · rw [ag xk hxk, hx1]
              unfold upd
              rw [if_pos rfl, if_neg (by omega), if_pos rfl]
            · rw [ag k hks1, ag1 k hk, hab]
              unfold upd
              rw [if_pos rfl]
          have hbv : upd (upd ρ1 s1.length b) (s1.length + 1) (.ar a b) s1.length = b := by unfold upd; rw [if_neg (by omega), if_pos rfl]
          exact T2.no hr _ t hsj (by rw [hdE_agree e agS, hbv]; exact hb)
end
end Go.Proofs.Ytfhgoebgnilfaaa.I
namespace Go.Proofs.Ytfhgoebgnilfaaa.I
open Go.RowKit
set_option linter.unusedVariables false
def KT.le : KT → KT → Prop
  | .o, _ => True
  | .ar a b, .ar c d => a.le c ∧ b.le d
  | .ar _ _, .o => False
theorem KT.le_antisymm : ∀ {s t : KT}, s.le t → t.le s → s = t
  | .o, .o, _, _ => rfl
  | .o, .ar _ _, _, h => h.elim
  | .ar _ _, .o, h, _ => h.elim
  | .ar a b, .ar c d, h1, h2 => by rw [KT.le_antisymm h1.1 h2.1, KT.le_antisymm h1.2 h2.2]
def rdF (s : List KN) : Nat → Nat → KT
  | 0, _ => .o
  | f + 1, i => match s[i]? with
    | none => .o
    | some n => match n.lk with
      | some j => rdF s f j
      | none => match n.fr with
        | none => .o
        | some a => match n.tk with
          | none => .o
          | some t => .ar (rdF s f a) (rdF s f t)
theorem rdF_stable {s : List KN} {h : Nat → Nat} (w : WF s h) : ∀ (f f' i : Nat), h i < f → h i < f' → rdF s f i = rdF s f' i
  | 0, f', i, h1, h2 => absurd h1 (by omega)
  | f + 1, 0, i, h1, h2 => absurd h2 (by omega)
  | f + 1, f' + 1, i, h1, h2 => by
    unfold rdF
    cases hn : s[i]? with
    | none => rfl
    | some n =>
      simp only
      have hd := w.dec i n hn
      cases hl : n.lk with
      | some j =>
        have := hd.1 j hl
        exact rdF_stable w f f' j (by omega) (by omega)
      | none =>
        simp only
        cases hf : n.fr with
        | none => rfl
        | some a =>
          simp only
          cases ht : n.tk with
          | none => rfl
          | some t =>
            have h3 := hd.2.1 a hf
            have h4 := hd.2.2 t ht
            simp only
            rw [rdF_stable w f f' a (by omega) (by omega), rdF_stable w f f' t (by omega) (by omega)]
def rho (s : List KN) (h : Nat → Nat) (i : Nat) : KT := rdF s (h i + 1) i
theorem rho_eq {s : List KN} {h : Nat → Nat} (w : WF s h) {f i : Nat} (hf : h i < f) : rdF s f i = rho s h i := rdF_stable w _ _ i hf (by omega)
theorem rho_sol {s : List KN} {h : Nat → Nat} (w : WF s h) : Sol s (rho s h) := by
  intro i n hn
  have hd := w.dec i n hn
  have e : rho s h i = match n.lk with
      | some j => rdF s (h i) j
      | none => match n.fr with
        | none => .o
        | some a => match n.tk with
          | none => .o
          | some t => .ar (rdF s (h i) a) (rdF s (h i) t) := by
    unfold rho
    rw [rdF, hn]
  refine ⟨fun j hj => ?_, fun hb => ?_, fun a t ha ht => ?_⟩
  · rw [e, hj]
    exact rho_eq w (hd.1 j hj)
  · rw [e]
    cases hl : n.lk with
    | some j =>
      have := (w.lnk i n hn (by rw [hl]; simp)).1
      rw [hb] at this
      cases this
    | none => simp only; rw [w.bas i n hn hb]
  · rw [e]
    cases hl : n.lk with
    | some j =>
      have := (w.lnk i n hn (by rw [hl]; simp)).2
      rw [ha] at this
      cases this
    | none =>
      simp only
      rw [ha, ht]
      simp only
      rw [rho_eq w (hd.2.1 a ha), rho_eq w (hd.2.2 t ht)]
theorem rdF_least {s : List KN} {ρ : Nat → KT} (hs : Sol s ρ) : ∀ (f i : Nat), (rdF s f i).le (ρ i)
  | 0, i => trivial
  | f + 1, i => by
    unfold rdF
    cases hn : s[i]? with
    | none => exact trivial
    | some n =>
      simp only
      cases hl : n.lk with
      | some j => rw [(hs i n hn).1 j hl]; exact rdF_least hs f j
      | none =>
        simp only
        cases hf : n.fr with
        | none => exact trivial
        | some a =>
          simp only
          cases ht : n.tk with
          | none => exact trivial
          | some t =>
            rw [(hs i n hn).2.2 a t hf ht]
            exact ⟨rdF_least hs f a, rdF_least hs f t⟩
theorem rho_least {s : List KN} {h : Nat → Nat} {ρ : Nat → KT} (hs : Sol s ρ) (i : Nat) : (rho s h i).le (ρ i) := rdF_least hs _ i
theorem push_bares (m : Nat) {s : List KN} {h : Nat → Nat} (w : WF s h) : Ext s (s ++ List.replicate m kbare) ∧ (∀ ρ, Sol (s ++ List.replicate m kbare) ρ ↔ Sol s ρ) := by
  induction m with
  | zero => rw [List.replicate_zero, List.append_nil]; exact ⟨Ext.refl w, fun _ => Iff.rfl⟩
  | succ m ih =>
    obtain ⟨x1, hS1⟩ := ih
    obtain ⟨h1, w1⟩ := x1.wf
    obtain ⟨x2, hS2⟩ := push_bare w1
    have e : s ++ List.replicate (m + 1) kbare = s ++ List.replicate m kbare ++ [kbare] := by rw [List.replicate_succ', List.append_assoc]
    rw [e]
    exact ⟨x1.trans x2, fun ρ => by rw [hS2, hS1]⟩
structure Headed (s : List KN) (l : List S48) (pss : List (List Nat)) (ks : List Nat) (s' : List KN) : Prop where
  ext : Ext s s'
  lp : ∀ ps, ps ∈ pss → ∀ p, p ∈ ps → p < s'.length
  lk : ∀ k, k ∈ ks → k < s'.length
  many : pss.map List.length = l.map (fun x => x.f1.toNat)
  down : ∀ ρ, Sol s' ρ → ks.map ρ = pss.map (fun ps => ars (ps.map ρ) .o)
  up : ∀ ρ (As : List (List KT)), As.map List.length = l.map (fun x => x.f1.toNat) → Sol s ρ → ∃ ρ', (∀ i, i < s.length → ρ' i = ρ i) ∧ Sol s' ρ' ∧ pss.map (fun ps => ps.map ρ') = As
theorem heads_ok : ∀ (l : List S48) {s : List KN} {h : Nat → Nat}, WF s h → 0 < s.length → (∀ ρ, Sol s ρ → ρ 0 = .o) → Headed s l (fheads s l).1.1 (fheads s l).1.2 (fheads s l).2
  | [], s, h, w, hp, hz => ⟨Ext.refl w, (fun ps hp => by cases hp), (fun k hk => by cases hk), rfl, fun _ _ => rfl, fun ρ As hA hs => ⟨ρ, fun _ _ => rfl, hs, by
      cases As with
      | nil => rfl
      | cons a As => cases hA⟩⟩
  | x :: xs, s, h, w, hp, hz => by
    obtain ⟨x1, hS1⟩ := push_bares x.f1.toNat w
    obtain ⟨h1, w1⟩ := x1.wf
    have len1 : (s ++ List.replicate x.f1.toNat kbare).length = s.length + x.f1.toNat := by rw [List.length_append, List.length_replicate]
    have hr : ∀ p, p ∈ List.range' s.length x.f1.toNat → s.length ≤ p ∧ p < s.length + x.f1.toNat := fun p hp => by
      have := List.mem_range'_1.1 hp
      omega
    obtain ⟨x2, hk2, hA2, hE2⟩ := farrow_ok (List.range' s.length x.f1.toNat) w1 (k := 0) (by rw [len1]; omega) (fun p hp => by rw [len1]; exact (hr p hp).2)
    obtain ⟨h2, w2⟩ := x2.wf
    have hz2 : ∀ ρ, Sol (farrow (s ++ List.replicate x.f1.toNat kbare) 0 (List.range' s.length x.f1.toNat)).2 ρ → ρ 0 = .o := fun ρ hs => hz ρ ((hS1 ρ).1 (x2.down ρ hs))
    have I := heads_ok xs w2 (Nat.lt_of_lt_of_le (Nat.lt_of_lt_of_le hp x1.len) x2.len) hz2
    show Headed s (x :: xs) (List.range' s.length x.f1.toNat :: (fheads (farrow (s ++ List.replicate x.f1.toNat kbare) 0 (List.range' s.length x.f1.toNat)).2 xs).1.1) ((farrow (s ++ List.replicate x.f1.toNat kbare) 0 (List.range' s.length x.f1.toNat)).1 :: (fheads (farrow (s ++ List.replicate x.f1.toNat kbare) 0 (List.range' s.length x.f1.toNat)).2 xs).1.2) (fheads (farrow (s ++ List.replicate x.f1.toNat kbare) 0 (List.range' s.length x.f1.toNat)).2 xs).2
    generalize hfa : farrow (s ++ List.replicate x.f1.toNat kbare) 0 (List.range' s.length x.f1.toNat) = fa at *
    generalize fheads fa.2 xs = fh at *
    have l12 := x2.len
    rw [len1] at l12
    refine ⟨x1.trans (x2.trans I.ext), fun ps hps p hpp => ?_, fun k hk => ?_, ?_, fun ρ hs => ?_, fun ρ As hAs hs => ?_⟩
    · rcases List.mem_cons.1 hps with rfl | hps
      · have := (hr p hpp).2; have := I.ext.len; omega
      · exact I.lp ps hps p hpp
    · rcases List.mem_cons.1 hk with rfl | hk
      · exact Nat.lt_of_lt_of_le hk2 I.ext.len
      · exact I.lk k hk
    · rw [List.map_cons, List.map_cons, I.many, List.length_range']
    · have hs2 := I.ext.down ρ hs
      rw [List.map_cons, List.map_cons, I.down ρ hs, hA2 ρ hs2, hz2 ρ hs2]
    · cases As with
      | nil => cases hAs
      | cons A As =>
        rw [List.map_cons, List.map_cons] at hAs
        injection hAs with hA hAs
        have ag : ∀ i, i < s.length → (fun i => if s.length ≤ i then A.getD (i - s.length) .o else ρ i) i = ρ i := fun i hi => if_neg (by omega)
        have hs1 : Sol (s ++ List.replicate x.f1.toNat kbare) (fun i => if s.length ≤ i then A.getD (i - s.length) .o else ρ i) := (hS1 _).2 (Sol.agree w ag hs)
        obtain ⟨ρ2, ag2, hs2⟩ := hE2 _ hs1
        obtain ⟨ρ3, ag3, hs3, hm⟩ := I.up ρ2 As hAs hs2
        refine ⟨ρ3, fun i hi => ?_, hs3, ?_⟩
        · rw [ag3 i (by omega), ag2 i (by rw [len1]; omega)]
          exact ag i hi
        · rw [List.map_cons, hm]
          congr 1
          apply List.ext_getElem
          · rw [List.length_map, List.length_range', hA]
          · intro i h1 h2
            rw [List.getElem_map, List.getElem_range']
            rw [List.length_map, List.length_range'] at h1
            rw [ag3 _ (by omega), ag2 _ (by rw [len1]; omega)]
            rw [if_pos (by omega), show s.length + 1 * i - s.length = i from by omega, List.getD_eq_getElem?_getD, List.getElem?_eq_getElem h2]
            rfl
def Alls (syms : List S59) (funs : List Nat) (ρ : Nat → KT) : List (List Nat) → List S48 → Prop
  | _, [] => True
  | [], _ :: _ => False
  | ps :: pss, x :: xs => Ty (hdE ⟨0, syms, funs, ps⟩ ρ) x.f2 .o ∧ Alls syms funs ρ pss xs
theorem Alls_agree {syms : List S59} {funs : List Nat} {N : Nat} {ρ ρ' : Nat → KT} (ag : ∀ i, i < N → ρ' i = ρ i) (hf : ∀ p, p ∈ funs → p < N) : ∀ (pss : List (List Nat)) (l : List S48), (∀ ps, ps ∈ pss → ∀ p, p ∈ ps → p < N) → Alls syms funs ρ pss l → Alls syms funs ρ' pss l
  | _, [], _, _ => (by unfold Alls; trivial)
  | [], _ :: _, _, h => h
  | ps :: pss, x :: xs, hp, h => by
    refine ⟨?_, Alls_agree ag hf pss xs (fun q hq => hp q (List.mem_cons_of_mem _ hq)) h.2⟩
    have e : hdE ⟨0, syms, funs, ps⟩ ρ' = hdE ⟨0, syms, funs, ps⟩ ρ := by
      funext kd n
      unfold hdE
      by_cases h0 : n < 0
      · rw [if_pos h0, if_pos h0]
      · rw [if_neg h0, if_neg h0]
        by_cases h1 : kd = 0
        · rw [if_pos h1, if_pos h1]
          cases hq : ps[n.toNat]? with
          | none => rfl
          | some p => simp only [Option.map_some]; rw [ag p (hp ps List.mem_cons_self p (List.mem_of_getElem? hq))]
        · rw [if_neg h1, if_neg h1]
          by_cases h2 : kd = 1
          · rw [if_pos h2, if_pos h2]
            cases hq : funs[n.toNat]? with
            | none => rfl
            | some p => simp only [Option.map_some]; rw [ag p (hf p (List.mem_of_getElem? hq))]
          · rw [if_neg h2, if_neg h2]
    rw [e]
    exact h.1
theorem fbodies_le {syms : List S59} {funs : List Nat} {s : List KN} {pss : List (List Nat)} {l : List S48} {r : Bool × List KN} {f f' : Nat} (hf : f ≤ f') (h : fbodies syms funs f s pss l = some r) : fbodies syms funs f' s pss l = some r := by
  induction hf with
  | refl => exact h
  | step _ ih => exact fbodies_s _ _ _ _ _ _ _ ih
theorem bodies_ok {syms : List S59} {funs : List Nat} : ∀ (l : List S48) (pss : List (List Nat)) {s : List KN} {h : Nat → Nat}, WF s h → 0 < s.length → (∀ ρ, Sol s ρ → ρ 0 = .o) → (∀ p, p ∈ funs → p < s.length) → (∀ ps, ps ∈ pss → ∀ p, p ∈ ps → p < s.length) → pss.map List.length = l.map (fun x => x.f1.toNat) →
    (∀ x, x ∈ l → knownS x.f2 x.f1.toNat funs.length syms.length = true) →
    ∃ f b s', fbodies syms funs f s pss l = some (b, s') ∧ (b = true → Ext s s' ∧ (∀ ρ, Sol s' ρ → Alls syms funs ρ pss l) ∧ (∀ ρ, Sol s ρ → Alls syms funs ρ pss l → ∃ ρ', (∀ i, i < s.length → ρ' i = ρ i) ∧ Sol s' ρ')) ∧ (b = false → ∀ ρ, Sol s ρ → ¬ Alls syms funs ρ pss l)
  | [], pss, s, h, w, hp, hz, hf, hps, hm, hk => ⟨0, true, s, by unfold fbodies; rfl, fun _ => ⟨Ext.refl w, fun _ _ => (by unfold Alls; trivial), fun ρ hs _ => ⟨ρ, fun _ _ => rfl, hs⟩⟩, fun e => (by cases e)⟩
  | x :: xs, [], s, h, w, hp, hz, hf, hps, hm, hk => by cases hm
  | x :: xs, ps :: pss, s, h, w, hp, hz, hf, hps, hm, hk => by
    rw [List.map_cons, List.map_cons] at hm
    injection hm with hm0 hm
    have e : FEok ⟨0, syms, funs, ps⟩ s := ⟨rfl, hp, hz, hf, hps ps List.mem_cons_self⟩
    obtain ⟨f1, r1, s1, hf1, T⟩ := term_ok (E := ⟨0, syms, funs, ps⟩) x.f2 w e (by
      have := hk x List.mem_cons_self
      rw [← hm0] at this
      exact this)
    cases r1 with
    | none =>
      refine ⟨f1, false, s1, ?_, fun e => (by cases e), fun _ ρ hs ha => T.no rfl ρ .o hs ha.1⟩
      unfold fbodies
      rw [hf1]
    | some k =>
      obtain ⟨hk1, x1, d1, u1⟩ := T.yes k rfl
      obtain ⟨h1, w1⟩ := x1.wf
      obtain ⟨fj, rj, sj, hj, J⟩ := join_ok w1 (a := k) (b := 0) hk1 (Nat.lt_of_lt_of_le hp x1.len)
      cases rj with
      | false =>
        refine ⟨max f1 fj, false, sj, ?_, fun e => (by cases e), fun _ ρ hs ha => ?_⟩
        · unfold fbodies
          rw [fterm_le (Nat.le_max_left f1 fj) hf1]
          simp only
          rw [fjoin_le (Nat.le_max_right f1 fj) hj]
        · obtain ⟨ρ', ag, hs', hkt⟩ := u1 ρ .o hs ha.1
          exact J.no rfl ρ' hs' (by rw [hkt, hz ρ' (x1.down ρ' hs')])
      | true =>
        obtain ⟨h2, w2, _⟩ := J.yes rfl
        have hS := J.sol rfl
        have lenj : sj.length = s1.length := by
          have sh := fjoin_shape fj _ k 0 true sj hj
          have g := fun q => congrArg Option.isSome (sh q)
          simp only [Option.isSome_map] at g
          by_cases hlt : sj.length < s1.length
          · have := g sj.length
            rw [List.getElem?_eq_none (Nat.le_refl _), List.getElem?_eq_getElem hlt] at this
            cases this
          · by_cases hgt : s1.length < sj.length
            · have := g s1.length
              rw [List.getElem?_eq_none (Nat.le_refl _), List.getElem?_eq_getElem hgt] at this
              cases this
            · omega
        have x2 : Ext s sj := ⟨by rw [lenj]; exact x1.len, ⟨h2, w2⟩, fun ρ hs => x1.down ρ ((hS ρ).1 hs).1⟩
        have l2 := x2.len
        obtain ⟨f2, b, s', hf2, Y, N⟩ := bodies_ok xs pss w2 (Nat.lt_of_lt_of_le hp l2) (fun ρ hs => hz ρ (x2.down ρ hs)) (fun p hp => Nat.lt_of_lt_of_le (hf p hp) l2) (fun q hq p hp => Nat.lt_of_lt_of_le (hps q (List.mem_cons_of_mem _ hq) p hp) l2) hm (fun y hy => hk y (List.mem_cons_of_mem _ hy))
        have hm1 : f1 ≤ max f1 (max fj f2) := Nat.le_max_left _ _
        have hm2 : fj ≤ max f1 (max fj f2) := Nat.le_trans (Nat.le_max_left _ _) (Nat.le_max_right _ _)
        have hm3 : f2 ≤ max f1 (max fj f2) := Nat.le_trans (Nat.le_max_right _ _) (Nat.le_max_right _ _)
        have step : ∀ ρ, Sol s ρ → Ty (hdE ⟨0, syms, funs, ps⟩ ρ) x.f2 .o → ∃ ρ', (∀ i, i < s.length → ρ' i = ρ i) ∧ Sol sj ρ' := by
          intro ρ hs ht
          obtain ⟨ρ', ag, hs', hkt⟩ := u1 ρ .o hs ht
          exact ⟨ρ', ag, (hS ρ').2 ⟨hs', by rw [hkt, hz ρ' (x1.down ρ' hs')]⟩⟩
        have hpss : ∀ q, q ∈ pss → ∀ p, p ∈ q → p < s.length := fun q hq => hps q (List.mem_cons_of_mem _ hq)
        refine ⟨max f1 (max fj f2), b, s', ?_, fun hb => ?_, fun hb ρ hs ha => ?_⟩
        · unfold fbodies
          rw [fterm_le hm1 hf1]
          simp only
          rw [fjoin_le hm2 hj]
          exact fbodies_le hm3 hf2
        · obtain ⟨y1, y2, y3⟩ := Y hb
          refine ⟨x2.trans y1, fun ρ hs => ⟨?_, y2 ρ hs⟩, fun ρ hs ha => ?_⟩
          · have hs1 := (hS ρ).1 (y1.down ρ hs)
            have := d1 ρ hs1.1
            rw [hs1.2, hz ρ (x1.down ρ hs1.1)] at this
            exact this
          · obtain ⟨ρ1, ag1, hs1⟩ := step ρ hs ha.1
            obtain ⟨ρ2, ag2, hs2⟩ := y3 ρ1 hs1 (Alls_agree ag1 hf pss xs hpss ha.2)
            exact ⟨ρ2, fun i hi => (ag2 i (Nat.lt_of_lt_of_le hi l2)).trans (ag1 i hi), hs2⟩
        · obtain ⟨ρ1, ag1, hs1⟩ := step ρ hs ha.1
          exact N hb ρ1 hs1 (Alls_agree ag1 hf pss xs hpss ha.2)
end Go.Proofs.Ytfhgoebgnilfaaa.I
namespace Go.Proofs.Ytfhgoebgnilfaaa.I
open Go.RowKit
set_option linter.unusedVariables false
def nS : KT → Int
  | .o => 1
  | .ar a b => nS a + nS b
theorem nS_pos : ∀ t : KT, 1 ≤ nS t
  | .o => by simp [nS]
  | .ar a b => by have := nS_pos a; have := nS_pos b; simp only [nS]; omega
def toS : KT → List S41
  | .o => []
  | .ar a b => ⟨toS a⟩ :: toS b
theorem fshown_le {s : List KN} {i : Nat} {l : Int} {r : Option (List S41) × Int} {f f' : Nat} (hf : f ≤ f') (h : fshown s f i l = some r) : fshown s f' i l = some r := by
  induction hf with
  | refl => exact h
  | step _ ih => exact (fshown_s s _).1 _ _ _ ih
theorem fshownL_le {s : List KN} {i : Nat} {acc : List S41} {l : Int} {r : Option (List S41) × Int} {f f' : Nat} (hf : f ≤ f') (h : fshownL s f i acc l = some r) : fshownL s f' i acc l = some r := by
  induction hf with
  | refl => exact h
  | step _ ih => exact (fshown_s s _).2 _ _ _ _ ih
theorem fouts_le {s : List KN} {acc : List S41} {ks : List Nat} {r : Option (List S41)} {f f' : Nat} (hf : f ≤ f') (h : fouts s f acc ks = some r) : fouts s f' acc ks = some r := by
  induction hf with
  | refl => exact h
  | step _ ih => exact fouts_s s _ _ _ _ ih
theorem rho_end {s : List KN} {h : Nat → Nat} (w : WF s h) {f i r : Nat} (e : fend s f i = some r) : rho s h i = rho s h r := (fend_ok e).2.1 _ (rho_sol w)
theorem shown_ok {s : List KN} {h : Nat → Nat} (w : WF s h) : ∀ m : Nat,
    (∀ (i : Nat) (left : Int), h i < m → i < s.length → 0 ≤ left → left ≤ 1000 → ∃ f o l', fshown s f i left = some (o, l') ∧ (nS (rho s h i) ≤ left → o = some (toS (rho s h i)) ∧ l' = left - nS (rho s h i)) ∧ (left < nS (rho s h i) → o = none)) ∧
    (∀ (r : Nat) (n : KN) (acc : List S41) (left : Int), h r < m → s[r]? = some n → n.lk = none → 0 ≤ left → acc.length + left ≤ 1000 → ∃ f o l', fshownL s f r acc left = some (o, l') ∧ (nS (rho s h r) - 1 ≤ left → o = some (acc ++ toS (rho s h r)) ∧ l' = left - (nS (rho s h r) - 1)) ∧ (left < nS (rho s h r) - 1 → o = none)) := by
  intro m
  induction m with
  | zero => exact ⟨fun i left hm => absurd hm (by omega), fun r n acc left hm => absurd hm (by omega)⟩
  | succ m ih =>
    obtain ⟨ihA, ihB⟩ := ih
    have B : ∀ (r : Nat) (n : KN) (acc : List S41) (left : Int), h r < m + 1 → s[r]? = some n → n.lk = none → 0 ≤ left → acc.length + left ≤ 1000 → ∃ f o l', fshownL s f r acc left = some (o, l') ∧ (nS (rho s h r) - 1 ≤ left → o = some (acc ++ toS (rho s h r)) ∧ l' = left - (nS (rho s h r) - 1)) ∧ (left < nS (rho s h r) - 1 → o = none) := by
      intro r n acc left hm hn hl h0 hb
      have hd := w.dec r n hn
      have hr := w.rng r n hn
      cases hf : n.fr with
      | none =>
        have e : rho s h r = .o := by
          unfold rho
          rw [rdF, hn]
          simp only
          rw [hl]
          simp only
          rw [hf]
        refine ⟨1, some acc, left, ?_, fun _ => ?_, fun hlt => ?_⟩
        · unfold fshownL
          rw [hn]
          simp only
          rw [hf]
        · refine ⟨by rw [e, toS, List.append_nil], ?_⟩
          rw [e]
          simp only [nS]
          omega
        · rw [e] at hlt
          simp only [nS] at hlt
          omega
      | some a =>
        cases ht : n.tk with
        | none => exact absurd ((w.arr r n hn).2 ht) (by rw [hf]; simp)
        | some t =>
          have da := hd.2.1 a hf
          have dt := hd.2.2 t ht
          have e : rho s h r = .ar (rho s h a) (rho s h t) := (rho_sol w r n hn).2.2 a t hf ht
          obtain ⟨r2, hr2⟩ := fend_tot w (h t + 1) t (by omega) (hr.2.2 t ht)
          obtain ⟨⟨n2, hn2, hl2⟩, _, hle⟩ := fend_ok hr2
          have hle := hle h w
          have et := rho_end w hr2
          have pa := nS_pos (rho s h a)
          have pt := nS_pos (rho s h t)
          obtain ⟨f1, o1, l1, hs1, y1, n1⟩ := ihA a left (by omega) (hr.2.1 a hf) h0 (by omega)
          by_cases hfit : nS (rho s h a) ≤ left
          · obtain ⟨eo, el⟩ := y1 hfit
            subst eo el
            obtain ⟨f2, o2, l2, hs2, y2, n2'⟩ := ihB r2 n2 (acc ++ [⟨toS (rho s h a)⟩]) (left - nS (rho s h a)) (by omega) hn2 hl2 (by omega) (by rw [List.length_append]; simp only [List.length_cons, List.length_nil]; omega)
            have m1 : f1 ≤ max f1 (max f2 (h t + 1)) := Nat.le_max_left _ _
            have m2 : f2 ≤ max f1 (max f2 (h t + 1)) := Nat.le_trans (Nat.le_max_left _ _) (Nat.le_max_right _ _)
            have m3 : h t + 1 ≤ max f1 (max f2 (h t + 1)) := Nat.le_trans (Nat.le_max_right _ _) (Nat.le_max_right _ _)
            refine ⟨max f1 (max f2 (h t + 1)) + 1, o2, l2, ?_, fun hg => ?_, fun hg => ?_⟩
            · unfold fshownL
              rw [hn]
              simp only
              rw [hf]
              simp only
              rw [fshown_le m1 hs1]
              simp only
              rw [if_pos (by omega), ht]
              simp only
              rw [fend_le m3 hr2]
              exact fshownL_le m2 hs2
            · rw [e] at hg ⊢
              simp only [nS] at hg ⊢
              obtain ⟨z1, z2⟩ := y2 (by rw [← et]; omega)
              rw [← et] at z1 z2
              exact ⟨by rw [z1, toS, List.append_assoc]; rfl, by omega⟩
            · rw [e] at hg
              simp only [nS] at hg
              exact n2' (by rw [← et]; omega)
          · have eo := n1 (by omega)
            subst eo
            refine ⟨f1 + 1, none, l1, ?_, fun hg => ?_, fun _ => rfl⟩
            · unfold fshownL
              rw [hn]
              simp only
              rw [hf]
              simp only
              rw [hs1]
            · rw [e] at hg
              simp only [nS] at hg
              omega
    refine ⟨fun i left hm hi h0 hb => ?_, B⟩
    have p := nS_pos (rho s h i)
    by_cases hz : left - 1 < 0
    · refine ⟨1, none, left - 1, ?_, fun hg => by omega, fun _ => rfl⟩
      unfold fshown
      rw [if_pos hz]
    · obtain ⟨r, hr⟩ := fend_tot w (h i + 1) i (by omega) hi
      obtain ⟨⟨n, hn, hl⟩, _, hle⟩ := fend_ok hr
      have hle := hle h w
      have er := rho_end w hr
      obtain ⟨f, o, l', hs, y, nn⟩ := B r n [] (left - 1) (by omega) hn hl (by omega) (by simp only [List.length_nil]; omega)
      refine ⟨max f (h i + 1) + 1, o, l', ?_, fun hg => ?_, fun hg => ?_⟩
      · unfold fshown
        rw [if_neg hz, fend_le (Nat.le_max_right f (h i + 1)) hr]
        exact fshownL_le (Nat.le_max_left f (h i + 1)) hs
      · rw [er] at hg ⊢
        obtain ⟨z1, z2⟩ := y (by omega)
        exact ⟨by rw [z1, List.nil_append], by omega⟩
      · rw [er] at hg
        exact nn (by omega)
def goodB (t : KT) : Bool := decide (nS t ≤ 60) && decide (sorts_Check.f (toS t) = some 0)
theorem outs_ok {s : List KN} {h : Nat → Nat} (w : WF s h) : ∀ (ks : List Nat) (acc : List S41), (∀ k, k ∈ ks → k < s.length) →
    ∃ f, fouts s f acc ks = some (if (ks.map (rho s h)).all goodB = true then some (acc ++ (ks.map (rho s h)).map (fun t => (⟨toS t⟩ : S41))) else none)
  | [], acc, _ => ⟨0, by unfold fouts; simp⟩
  | k :: ks, acc, hk => by
    obtain ⟨f1, o, l', hs, y, n⟩ := (shown_ok w (h k + 1)).1 k 60 (by omega) (hk k List.mem_cons_self) (by omega) (by omega)
    obtain ⟨f2, h2⟩ := outs_ok w ks (acc ++ [⟨toS (rho s h k)⟩]) (fun q hq => hk q (List.mem_cons_of_mem _ hq))
    rw [List.map_cons, List.all_cons]
    have hc : sorts_Check.f (toS (rho s h k)) = some 0 ∨ sorts_Check.f (toS (rho s h k)) = some 6 := by
      unfold sorts_Check.f
      split
      · exact .inr rfl
      · exact .inl rfl
    by_cases hfit : nS (rho s h k) ≤ 60
    · obtain ⟨eo, _⟩ := y hfit
      subst eo
      rcases hc with hc | hc
      · have g : goodB (rho s h k) = true := by unfold goodB; rw [decide_eq_true hfit, decide_eq_true hc]; rfl
        refine ⟨max f1 f2, ?_⟩
        unfold fouts
        rw [fshown_le (Nat.le_max_left f1 f2) hs]
        simp only
        rw [hc]
        dsimp only
        rw [if_pos rfl, fouts_le (Nat.le_max_right f1 f2) h2, g, Bool.true_and, List.map_cons, List.append_assoc]
        rfl
      · have g : goodB (rho s h k) = false := by unfold goodB; rw [decide_eq_false (p := sorts_Check.f (toS (rho s h k)) = some 0) (by rw [hc]; decide), Bool.and_false]
        refine ⟨f1, ?_⟩
        unfold fouts
        rw [hs]
        simp only
        rw [hc]
        dsimp only
        rw [if_neg (by decide), g, Bool.false_and, if_neg (by simp)]
    · have eo := n (by omega)
      subst eo
      have g : goodB (rho s h k) = false := by unfold goodB; rw [decide_eq_false hfit, Bool.false_and]
      refine ⟨f1, ?_⟩
      unfold fouts
      rw [hs, g, Bool.false_and, if_neg (by simp)]
def hdG (syms : List S59) (G vs : List KT) (kd n : Int) : Option KT :=
  if n < 0 then none
  else if kd = 0 then vs[n.toNat]?
  else if kd = 1 then G[n.toNat]?
  else (syms[n.toNat]?).map (fun x => ars (List.replicate x.f1.toNat .o) .o)
def AllT (syms : List S59) (G : List KT) : List (List KT) → List S48 → Prop
  | _, [] => True
  | [], _ :: _ => False
  | vs :: As, x :: xs => Ty (hdG syms G vs) x.f2 .o ∧ AllT syms G As xs
def gam (As : List (List KT)) : List KT := As.map (fun vs => ars vs .o)
def Typed (syms : List S59) (l : List S48) (As : List (List KT)) : Prop := As.map List.length = l.map (fun x => x.f1.toNat) ∧ AllT syms (gam As) As l
theorem hdE_hdG (syms : List S59) (funs ps : List Nat) (ρ : Nat → KT) : hdE ⟨0, syms, funs, ps⟩ ρ = hdG syms (funs.map ρ) (ps.map ρ) := by
  funext kd n
  unfold hdE hdG
  rw [List.getElem?_map, List.getElem?_map]
theorem Alls_AllT {syms : List S59} {funs : List Nat} {ρ : Nat → KT} : ∀ (pss : List (List Nat)) (l : List S48), Alls syms funs ρ pss l ↔ AllT syms (funs.map ρ) (pss.map (fun ps => ps.map ρ)) l
  | pss, [] => by
    cases pss <;> (unfold Alls AllT; exact Iff.rfl)
  | [], x :: xs => by unfold Alls; rw [List.map_nil]; unfold AllT; exact Iff.rfl
  | ps :: pss, x :: xs => by
    rw [List.map_cons]
    unfold Alls AllT
    rw [hdE_hdG, Alls_AllT pss xs]
def lesL : List KT → List KT → Prop
  | [], [] => True
  | a :: vs, b :: ws => a.le b ∧ lesL vs ws
  | _, _ => False
theorem lesL_map {ρ ρ' : Nat → KT} (h : ∀ i, (ρ i).le (ρ' i)) : ∀ ks : List Nat, lesL (ks.map ρ) (ks.map ρ')
  | [] => trivial
  | k :: ks => ⟨h k, lesL_map h ks⟩
theorem looseL_known : ∀ (l : List S48) (nf ns : Int) (L : List ByteArray), looseL l nf ns L = true → ∀ x ∈ l, knownS x.f2 x.f1 nf ns = true
  | [], _, _, _, _, x, hx => by cases hx
  | y :: ys, nf, ns, L, h, x, hx => by
    unfold looseL at h
    by_cases hb : looseBad y nf ns L = true
    · rw [if_pos hb] at h; cases h
    · rw [if_neg hb] at h
      rcases List.mem_cons.1 hx with hx | hx
      · subst hx
        unfold looseBad at hb
        simp only [Bool.or_eq_true, not_or, Bool.not_eq_true', Bool.not_eq_true] at hb
        obtain ⟨_, _, _, _, _, _, h7⟩ := hb
        have e : (⟨x.f2.f0, x.f2.f1, x.f2.f2⟩ : S44) = x.f2 := by cases x.f2; rfl
        rw [e] at h7
        simpa using h7
      · exact looseL_known ys nf ns _ h x hx
theorem chkF_known {l0 : List S59} {l1 : List S48} (h : chkF l0 l1 = some 0) : ∀ x ∈ l1, knownS x.f2 x.f1 l1.length l0.length = true := by
  unfold chkF at h
  injection h with h
  split at h
  · cases h
  · split at h
    · cases h
    · split at h
      · rename_i h1 h2 h3
        exact looseL_known _ _ _ _ h3
      · cases h
theorem sorts_main (syms : List S59) (l : List S48) (hc : chkF syms l = some 0) :
    (∃ As0, Typed syms l As0 ∧ (∀ As, Typed syms l As → lesL (gam As0) (gam As)) ∧ ∃ f, fsorts f syms l = some (if (gam As0).all goodB = true then ((gam As0).map (fun t => (⟨toS t⟩ : S41)), 0) else ([], 3))) ∨
    ((∀ As, ¬ Typed syms l As) ∧ ∃ f, fsorts f syms l = some ([], 6)) := by
  have hok := fCheck_ok hc
  have w0 : WF [(⟨none, true, none, none⟩ : KN)] (fun _ => 0) := by
    refine ⟨?_, ?_, ?_, ?_, ?_⟩ <;> (intro i n hn; cases i with
      | zero => injection hn with hn; subst hn; simp [inS]
      | succ i => cases hn)
  have hz0 : ∀ ρ, Sol [(⟨none, true, none, none⟩ : KN)] ρ → ρ 0 = .o := fun ρ hs => (hs 0 ⟨none, true, none, none⟩ rfl).2.1 rfl
  have H := heads_ok l w0 (by decide) hz0
  have un : ∀ f, fsorts f syms l = match fbodies syms (fheads [⟨none, true, none, none⟩] l).1.2 f (fheads [⟨none, true, none, none⟩] l).2 (fheads [⟨none, true, none, none⟩] l).1.1 l with
      | none => none
      | some (false, _) => some ([], 6)
      | some (true, s) => match fouts s f [] (fheads [⟨none, true, none, none⟩] l).1.2 with
        | none => none
        | some none => some ([], 3)
        | some (some out) => some (out, 0) := by
    intro f
    unfold fsorts
    rw [hc]
    dsimp only
    rw [if_pos rfl]
    rfl
  generalize fheads [⟨none, true, none, none⟩] l = hd at *
  obtain ⟨h1, w1⟩ := H.ext.wf
  have hks : hd.1.2.length = l.length := by
    have e1 := congrArg List.length (H.down (rho hd.2 h1) (rho_sol w1))
    have e2 := congrArg List.length H.many
    simp only [List.length_map] at e1 e2
    omega
  obtain ⟨f1, b, s', hf1, Y, N⟩ := bodies_ok (syms := syms) (funs := hd.1.2) l hd.1.1 w1 (Nat.lt_of_lt_of_le (by decide) H.ext.len) (fun ρ hs => hz0 ρ (H.ext.down ρ hs)) H.lk H.lp H.many (fun x hx => by
    have h2 := chkF_known hc x hx
    have h3 := (hok.2.2.2.2 x hx).1
    rw [hks, Int.toNat_of_nonneg h3]
    exact h2)
  -- typings are solutions
  have up : ∀ As, Typed syms l As → ∃ ρ, Sol hd.2 ρ ∧ Alls syms hd.1.2 ρ hd.1.1 l ∧ hd.1.2.map ρ = gam As := by
    intro As hT
    obtain ⟨ρ, ag, hs, hm⟩ := H.up (fun _ => .o) As hT.1 (by
      intro i n hn
      cases i with
      | zero => injection hn with hn; subst hn; exact ⟨fun j hj => (by cases hj), fun _ => rfl, fun a t ha _ => (by cases ha)⟩
      | succ i => cases hn)
    have hg : hd.1.2.map ρ = gam As := by
      rw [H.down ρ hs, ← hm]
      unfold gam
      rw [List.map_map]
      rfl
    refine ⟨ρ, hs, ?_, hg⟩
    rw [Alls_AllT, hg, hm]
    exact hT.2
  have down : ∀ ρ, Sol hd.2 ρ → Alls syms hd.1.2 ρ hd.1.1 l → Typed syms l (hd.1.1.map (fun ps => ps.map ρ)) ∧ gam (hd.1.1.map (fun ps => ps.map ρ)) = hd.1.2.map ρ := by
    intro ρ hs ha
    have hg : gam (hd.1.1.map (fun ps => ps.map ρ)) = hd.1.2.map ρ := by
      rw [H.down ρ hs]
      unfold gam
      rw [List.map_map]
      rfl
    refine ⟨⟨?_, ?_⟩, hg⟩
    · rw [← H.many, List.map_map]
      exact List.map_congr_left (fun ps _ => by simp)
    · rw [hg, ← Alls_AllT]
      exact ha
  cases b with
  | false =>
    refine .inr ⟨fun As hT => ?_, f1, ?_⟩
    · obtain ⟨ρ, hs, ha, _⟩ := up As hT
      exact N rfl ρ hs ha
    · rw [un, hf1]
  | true =>
    obtain ⟨x2, d2, u2⟩ := Y rfl
    obtain ⟨h2, w2⟩ := x2.wf
    have hs2 := rho_sol w2
    obtain ⟨hT0, hg0⟩ := down (rho s' h2) (x2.down _ hs2) (d2 _ hs2)
    refine .inl ⟨_, hT0, fun As hT => ?_, ?_⟩
    · obtain ⟨ρ, hs, ha, hg⟩ := up As hT
      obtain ⟨ρ', ag, hs'⟩ := u2 ρ hs ha
      have e : hd.1.2.map ρ' = hd.1.2.map ρ := List.map_congr_left (fun k hk => ag k (H.lk k hk))
      rw [hg0, ← hg, ← e]
      exact lesL_map (fun i => rho_least hs' i) _
    · obtain ⟨f2, ho⟩ := outs_ok w2 hd.1.2 [] (fun k hk => Nat.lt_of_lt_of_le (H.lk k hk) x2.len)
      refine ⟨max f1 f2, ?_⟩
      rw [un, fbodies_le (Nat.le_max_left f1 f2) hf1]
      simp only
      rw [fouts_le (Nat.le_max_right f1 f2) ho, hg0]
      by_cases hgood : (hd.1.2.map (rho s' h2)).all goodB = true
      · rw [if_pos hgood, if_pos hgood, List.nil_append]
      · rw [if_neg hgood, if_neg hgood]
end Go.Proofs.Ytfhgoebgnilfaaa.I
namespace Go.Proofs.Ytfhgoebgnilfaaa.I
open Go.RowKit Go.Proofs.YtfhgoebgnilfaaaW.PrintWords Go.Proofs.YtfhgoebgnilfaaaW.PrintLast Go.Proofs.YtfhgoebgnilfaaaW.PrintMore
set_option linter.unusedVariables false
set_option maxRecDepth 100000
set_option linter.unusedSimpArgs false
mutual
def tcnt : S44 → Int
  | ⟨_, _, l⟩ => 1 + tcntL l
def tcntL : List S44 → Int
  | [] => 0
  | x :: xs => tcnt x + tcntL xs
end
mutual
def tdep : S44 → Int
  | ⟨_, _, l⟩ => 1 + tdepL l
def tdepL : List S44 → Int
  | [] => 0
  | x :: xs => max (tdep x) (tdepL xs)
end
mutual
theorem tcnt_ge : ∀ x : S44, 1 ≤ tcnt x
  | ⟨_, _, l⟩ => by have := tcntL_ge l; unfold tcnt; omega
theorem tcntL_ge : ∀ l : List S44, (l.length : Int) ≤ tcntL l
  | [] => by simp [tcntL]
  | x :: xs => by have h1 := tcnt_ge x; have h2 := tcntL_ge xs; unfold tcntL; simp only [List.length_cons]; omega
end
mutual
theorem tdep_bd : ∀ x : S44, 1 ≤ tdep x ∧ tdep x ≤ tcnt x
  | ⟨_, _, l⟩ => by have := tdepL_bd l; unfold tdep tcnt; omega
theorem tdepL_bd : ∀ l : List S44, 0 ≤ tdepL l ∧ tdepL l ≤ tcntL l
  | [] => by simp [tdepL, tcntL]
  | x :: xs => by have h1 := tdep_bd x; have h2 := tdepL_bd xs; have h3 := tcnt_ge x; have h4 := tcntL_ge xs; unfold tdepL tcntL; omega
end
theorem tcnt_f2 (x : S44) : tcnt x = 1 + tcntL x.f2 := by cases x; rfl
theorem tdep_f2 (x : S44) : tdep x = 1 + tdepL x.f2 := by cases x; rfl
theorem tdrop_cnt (l : List S44) (i : Nat) (h : i < l.length) : tcntL (l.drop i) = 1 + tcntL (rd_T44 l (i : Int)).f2 + tcntL (l.drop (i + 1)) := by
  rw [rd_T44_drop l i h]; show tcnt _ + tcntL _ = _; rw [tcnt_f2]
theorem tdrop_dep (l : List S44) (i : Nat) (h : i < l.length) : tdepL (l.drop i) = max (1 + tdepL (rd_T44 l (i : Int)).f2) (tdepL (l.drop (i + 1))) := by
  rw [rd_T44_drop l i h]; show max (tdep _) (tdepL _) = _; rw [tdep_f2]
theorem tdrop_cnt_le : ∀ (l : List S44) (i : Nat), tcntL (l.drop i) ≤ tcntL l
  | [], i => by simp
  | x :: xs, 0 => by simp
  | x :: xs, i + 1 => by have h1 := tdrop_cnt_le xs i; have h2 := tcnt_ge x; rw [List.drop_succ_cons]; show tcntL (xs.drop i) ≤ tcnt x + tcntL xs; omega
theorem tcnt_child (l : List S44) (i : Nat) (h : i < l.length) : tcntL (rd_T44 l (i : Int)).f2 < tcntL l := by
  have h1 := tdrop_cnt l i h; have h2 := tdrop_cnt_le l i; have h3 := tcntL_ge (l.drop (i + 1)); omega
theorem mx_max (a b : Int) : mx a b = max a b := by unfold mx; split <;> omega
mutual
theorem tmeas_eq : ∀ (x : S44) (left : Int), 0 ≤ left → (if tcnt x ≤ left then tmeas x left = (tdep x, left - tcnt x) else (tmeas x left).2 < 0)
  | ⟨_, _, l⟩, left, h => by
    have := tmeasL_eq l (left - 1) 0 (by omega) (by omega)
    unfold tcnt tmeas tdep
    split at this
    · rw [if_pos (by omega), this]
      have h1 := tdepL_bd l
      rw [show max 0 (tdepL l) + 1 = 1 + tdepL l from by omega, show left - 1 - tcntL l = left - (1 + tcntL l) from by omega]
    · rw [if_neg (by omega)]; exact this
theorem tmeasL_eq : ∀ (l : List S44) (left d : Int), -1 ≤ left → 0 ≤ d → (if tcntL l ≤ left then tmeasL l left d = (max d (tdepL l) + 1, left - tcntL l) else (tmeasL l left d).2 < 0)
  | [], left, d, h, hd => by
    unfold tcntL tmeasL tdepL
    split
    · rw [show max d 0 = d from by omega, show left - 0 = left from by omega]
    · simp only; omega
  | x :: xs, left, d, h, hd => by
    have hc := tcnt_ge x
    have hl := tcntL_ge xs
    unfold tcntL tmeasL tdepL
    by_cases hn : left < 0
    · rw [if_pos hn, if_neg (by omega)]; exact hn
    · rw [if_neg hn]
      have h1 := tmeas_eq x left (by omega)
      have hb := tmeas_bd x left (by omega)
      have h2 := tmeasL_eq xs (tmeas x left).2 (mx d (tmeas x left).1) (by omega) (by rw [mx_max]; omega)
      split at h1
      · rw [h1] at h2
        simp only at h2
        rw [h1]
        simp only
        split at h2
        · rw [if_pos (by omega), h2, mx_max, show max (max d (tdep x)) (tdepL xs) = max d (max (tdep x) (tdepL xs)) from by omega, show left - tcnt x - tcntL xs = left - (tcnt x + tcntL xs) from by omega]
        · rw [if_neg (by omega)]; exact h2
      · rw [if_neg (by omega)]
        rw [if_neg (by omega)] at h2
        exact h2
end
def big (x : S44) : Bool := decide (400 < tcnt x) || decide (30 < tdep x)
theorem szT_big (x : S44) : (decide (400 < (szT x).1) || decide (30 < (szT x).2)) = big x := by
  have h := tmeas_eq x 100000 (by omega)
  unfold szT big
  by_cases hc : tcnt x ≤ 100000
  · rw [if_pos hc] at h
    rw [h]
    simp only
    rw [if_neg (by omega)]
    simp only
    rw [show 100000 - (100000 - tcnt x) = tcnt x from by omega]
  · rw [if_neg hc] at h
    rw [if_pos h]
    rw [decide_eq_true (by omega : (400 : Int) < 100001), decide_eq_true (by omega : 400 < tcnt x)]
    rfl
theorem tnodes_ev (N : Nat) : ∀ (a b : Int) (l : List S44) (most : Int), SizeOf.sizeOf l < N → 0 ≤ most → most ≤ 1000 → Ev (fun k => virgationref02_Nodes.f k a b l most) (min (1 + tcntL l) (most + 1)) := by
  induction N with
  | zero => intro a b l most h; omega
  | succ N ih =>
  intro a b l most hN h0 h1
  have loop : ∀ (n i : Nat) (x5 : Int), l.length - i = n → i ≤ l.length → 1 ≤ x5 → x5 ≤ most + 1 → (i : Int) ≤ x5 → Ev (fun k => virgationref02_Nodes.l0 k most x5 (i : Int) a b l) (min (x5 + tcntL (l.drop i)) (most + 1)) := by
    intro n
    induction n with
    | zero =>
      intro i x5 hn hi h2 h3 h4
      have hd : l.drop i = [] := List.drop_eq_nil_of_le (by omega)
      rw [hd, show min (x5 + tcntL []) (most + 1) = x5 from by unfold tcntL; omega]
      exact Ev.step (fun k => by rw [virgationref02_Nodes.l0, if_neg (by omega)]) (Ev.now _)
    | succ n ihn =>
      intro i x5 hn hi h2 h3 h4
      have hil : i < l.length := by omega
      have hc := tcntL_ge (l.drop (i + 1))
      have hx := tcntL_ge (rd_T44 l (i : Int)).f2
      by_cases hm : x5 ≤ most
      · refine Ev.step (fun k => by rw [virgationref02_Nodes.l0, if_pos (by omega), if_pos hm, if_pos (by omega)]) ?_
        refine Ev.bind (a := min (1 + tcntL (rd_T44 l (i : Int)).f2) (most - x5 + 1)) ?_ ?_
        · rw [w64 (most - x5) (by omega)]
          exact ih _ _ _ _ (by have := rd_T44_mem l i hil; omega) (by omega) (by omega)
        · rw [w64 _ (by omega), w64 _ (by omega)]
          have := ihn (i + 1) (x5 + min (1 + tcntL (rd_T44 l (i : Int)).f2) (most - x5 + 1)) (by omega) (by omega) (by omega) (by omega) (by omega)
          rw [tdrop_cnt l i hil]
          rw [show ((i + 1 : Nat) : Int) = (i : Int) + 1 from rfl] at this
          rw [show min (x5 + (1 + tcntL (rd_T44 l (i : Int)).f2 + tcntL (l.drop (i + 1)))) (most + 1) = min (x5 + min (1 + tcntL (rd_T44 l (i : Int)).f2) (most - x5 + 1) + tcntL (l.drop (i + 1))) (most + 1) from by omega]
          exact this
      · rw [show min (x5 + tcntL (l.drop i)) (most + 1) = x5 from by have := tcntL_ge (l.drop i); omega]
        exact Ev.step (fun k => by rw [virgationref02_Nodes.l0, if_pos (by omega), if_neg hm]) (Ev.now _)
  refine Ev.step (fun k => by rw [virgationref02_Nodes.f]) ?_
  have := loop l.length 0 1 (by omega) (by omega) (by omega) (by omega) (by omega)
  rw [List.drop_zero] at this
  exact this
theorem tdepth_ev (N : Nat) : ∀ (a b : Int) (l : List S44), SizeOf.sizeOf l < N → tcntL l ≤ 1000 → Ev (fun k => virgationref02_Depth.f k a b l) (1 + tdepL l) := by
  induction N with
  | zero => intro a b l h; omega
  | succ N ih =>
  intro a b l hN h1
  have hlen := tcntL_ge l
  have loop : ∀ (n i : Nat) (x3 : Int), l.length - i = n → i ≤ l.length → 0 ≤ x3 → x3 ≤ 1000 → Ev (fun k => virgationref02_Depth.l0 k x3 l (l.length : Int) (i : Int)) (1 + max x3 (tdepL (l.drop i))) := by
    intro n
    induction n with
    | zero =>
      intro i x3 hn hi h2 h3
      have hd : l.drop i = [] := List.drop_eq_nil_of_le (by omega)
      rw [hd, show 1 + max x3 (tdepL []) = x3 + 1 from by unfold tdepL; omega]
      exact Ev.step (fun k => by rw [virgationref02_Depth.l0, if_neg (by omega), w64 _ (by omega)]) (Ev.now _)
    | succ n ihn =>
      intro i x3 hn hi h2 h3
      have hil : i < l.length := by omega
      have hch := tcnt_child l i hil
      have hdb := tdepL_bd (rd_T44 l (i : Int)).f2
      refine Ev.step (fun k => by rw [virgationref02_Depth.l0, if_pos (by omega), if_pos (by omega), if_pos (by omega)]) ?_
      refine Ev.bind (a := 1 + tdepL (rd_T44 l (i : Int)).f2) ?_ ?_
      · exact ih _ _ _ (by have := rd_T44_mem l i hil; omega) (by omega)
      · rw [w64 _ (by omega), mx_max, tdrop_dep l i hil]
        have := ihn (i + 1) (max x3 (1 + tdepL (rd_T44 l (i : Int)).f2)) (by omega) (by omega) (by omega) (by omega)
        rw [show ((i + 1 : Nat) : Int) = (i : Int) + 1 from rfl] at this
        rw [show 1 + max x3 (max (1 + tdepL (rd_T44 l (i : Int)).f2) (tdepL (l.drop (i + 1)))) = 1 + max (max x3 (1 + tdepL (rd_T44 l (i : Int)).f2)) (tdepL (l.drop (i + 1))) from by omega]
        exact this
  refine Ev.step (fun k => by rw [virgationref02_Depth.f]) ?_
  have := loop l.length 0 0 (by omega) (by omega) (by omega) (by omega)
  rw [List.drop_zero, show max 0 (tdepL l) = tdepL l from by have := tdepL_bd l; omega] at this
  exact this
end Go.Proofs.Ytfhgoebgnilfaaa.I
namespace Go.Proofs.Ytfhgoebgnilfaaa.I
open Go.RowKit Go.Proofs.YtfhgoebgnilfaaaW.PrintWords Go.Proofs.YtfhgoebgnilfaaaW.PrintLast Go.Proofs.YtfhgoebgnilfaaaW.PrintMore
set_option linter.unusedVariables false
set_option maxRecDepth 100000
set_option linter.unusedSimpArgs false
theorem isIn_cons (x : ByteArray) (L : List ByteArray) (s : ByteArray) : isIn (x :: L) s = (x.data.toList == s.data.toList || isIn L s) := rfl
theorem sym_inner {l : List S59} {i : Nat} {nm : ByteArray} {rk : Int} {R : Bool} (y : List S59) (hy : y.length ≤ 1000) (hR : Ev (fun k => virgationref02_Symbols.l0 k l l (l.length : Int) (wrap64 ((i : Int) + 1))) R) :
    ∀ (m j : Nat), y.length - j = m → j ≤ y.length → Ev (fun k => virgationref02_Symbols.l1 k l l (l.length : Int) (i : Int) y (y.length : Int) (j : Int) nm rk) (if isIn (names59 (y.drop j)) nm = true then false else R) := by
  intro m
  induction m with
  | zero =>
    intro j hn hj
    have hd : y.drop j = [] := List.drop_eq_nil_of_le (by omega)
    rw [hd, if_neg (by simp [names59, isIn])]
    exact Ev.step (fun k => by rw [virgationref02_Symbols.l1, if_neg (by omega)]) hR
  | succ m ihm =>
    intro j hn hj
    have hjl : j < y.length := by omega
    refine Ev.step (fun k => by rw [virgationref02_Symbols.l1, if_pos (by omega), if_pos (by omega), if_pos (by omega)]) ?_
    rw [rd_T59_drop y j hjl]
    show Ev _ (if isIn ((rd_T59 y (j : Int)).f0 :: names59 (y.drop (j + 1))) nm = true then false else R)
    rw [isIn_cons]
    by_cases he : nm.toList = (rd_T59 y (j : Int)).f0.toList
    · have : ((rd_T59 y (j : Int)).f0.data.toList == nm.data.toList) = true := by rw [beq_iff_eq, ← Go.ByteArray.toList_eq, ← Go.ByteArray.toList_eq]; exact he.symm
      rw [this, Bool.true_or, if_pos rfl]
      exact Ev.ifp he (Ev.now _)
    · have : ((rd_T59 y (j : Int)).f0.data.toList == nm.data.toList) = false := by
        rw [beq_eq_false_iff_ne, ← Go.ByteArray.toList_eq, ← Go.ByteArray.toList_eq]
        exact fun h => he h.symm
      rw [this, Bool.false_or]
      refine Ev.ifn he ?_
      rw [w64 _ (by omega)]
      exact ihm (j + 1) (by omega) (by omega)
theorem sym_j1 {l : List S59} {i : Nat} {nm : ByteArray} {rk : Int} {R : Bool} (hl : l.length ≤ 24) (hi : i < l.length) (b : Bool) (hR : Ev (fun k => virgationref02_Symbols.l0 k l l (l.length : Int) (wrap64 ((i : Int) + 1))) R) :
    Ev (fun k => virgationref02_Symbols.j1 k l (i : Int) l (l.length : Int) (i : Int) b nm rk) (if (b || isIn (names59 (l.take i)) nm) = true then false else R) := by
  cases b with
  | true => exact Ev.step (fun k => by rw [virgationref02_Symbols.j1, if_pos rfl]; rfl) (Ev.now _)
  | false =>
    rw [Bool.false_or]
    refine Ev.step (fun k => by rw [virgationref02_Symbols.j1, if_neg (by simp), if_pos (by omega), if_pos (by omega)]) ?_
    simp only [Option.bind_some, Int.toNat_natCast]
    have := sym_inner (nm := nm) (rk := rk) (l.take i) (by rw [List.length_take]; omega) hR (l.take i).length 0 (by omega) (by omega)
    rw [List.drop_zero] at this
    exact this
theorem symbols_ev (l : List S59) : Ev (fun k => virgationref02_Symbols.f k l) (symsL l [] && decide (l.length ≤ 24)) := by
  unfold virgationref02_Symbols.f
  by_cases h : (l.length : Int) > 24
  · rw [decide_eq_false (by omega : ¬ l.length ≤ 24), Bool.and_false]
    exact Ev.ifp h (Ev.now _)
  · rw [decide_eq_true (by omega : l.length ≤ 24), Bool.and_true]
    refine Ev.ifn h ?_
    have loop : ∀ (m i : Nat), l.length - i = m → i ≤ l.length → Ev (fun k => virgationref02_Symbols.l0 k l l (l.length : Int) (i : Int)) (symsL (l.drop i) (names59 (l.take i))) := by
      intro m
      induction m with
      | zero =>
        intro i hn hi
        have hd : l.drop i = [] := List.drop_eq_nil_of_le (by omega)
        rw [hd]
        change Ev _ true
        exact Ev.step (fun k => by rw [virgationref02_Symbols.l0, if_neg (by omega)]) (Ev.now _)
      | succ m ihm =>
        intro i hn hi
        have hil : i < l.length := by omega
        have hR : Ev (fun k => virgationref02_Symbols.l0 k l l (l.length : Int) (wrap64 ((i : Int) + 1))) (symsL (l.drop (i + 1)) (names59 (l.take (i + 1)))) := by
          rw [w64 _ (by omega)]
          exact ihm (i + 1) (by omega) (by omega)
        refine Ev.step (fun k => by rw [virgationref02_Symbols.l0, if_pos (by omega), if_pos (by omega), if_pos (by omega)]) ?_
        refine Ev.bind (refname_ev _) ?_
        rw [rd_T59_drop l i hil]
        show Ev _ (if symBad (rd_T59 l (i : Int)) (names59 (l.take i)) = true then false else symsL (l.drop (i + 1)) (names59 (l.take i) ++ [(rd_T59 l (i : Int)).f0]))
        rw [rd_T59_take l i hil]
        unfold symBad
        cases hn1 : nameOk (rd_T59 l (i : Int)).f0
        · refine Ev.ifn (by simp) ?_
          have := sym_j1 (nm := (rd_T59 l (i : Int)).f0) (rk := (rd_T59 l (i : Int)).f1) (by omega) hil true hR
          simpa using this
        · refine Ev.ifp rfl ?_
          by_cases h0 : (rd_T59 l (i : Int)).f1 < 0
          · refine Ev.ifp h0 ?_
            have := sym_j1 (nm := (rd_T59 l (i : Int)).f0) (rk := (rd_T59 l (i : Int)).f1) (by omega) hil true hR
            simpa [h0] using this
          · refine Ev.ifn h0 ?_
            have := sym_j1 (nm := (rd_T59 l (i : Int)).f0) (rk := (rd_T59 l (i : Int)).f1) (by omega) hil (decide ((rd_T59 l (i : Int)).f1 > 4)) hR
            rw [decide_eq_false h0, Bool.not_true, Bool.false_or, Bool.false_or, Bool.or_comm]
            exact this
    exact loop l.length 0 (by omega) (by omega)
end Go.Proofs.Ytfhgoebgnilfaaa.I
namespace Go.Proofs.Ytfhgoebgnilfaaa.I
open Go.RowKit Go.Proofs.YtfhgoebgnilfaaaW.PrintWords Go.Proofs.YtfhgoebgnilfaaaW.PrintLast Go.Proofs.YtfhgoebgnilfaaaW.PrintMore
set_option linter.unusedVariables false
set_option maxRecDepth 100000
set_option linter.unusedSimpArgs false
def to48 (x : S56) : S48 := ⟨x.f0, x.f1, x.f2⟩
theorem loose_eq (x : S48) (nf ns : Int) (L : List ByteArray) : looseBad x nf ns L = ((!nameOk x.f0 || (decide (x.f1 < 0) || (decide (8 < x.f1) || (big x.f2 || !knownS x.f2 x.f1 nf ns)))) || isIn L x.f0) := by
  have e : (⟨x.f2.f0, x.f2.f1, x.f2.f2⟩ : S44) = x.f2 := by cases x.f2; rfl
  have hb := szT_big x.f2
  unfold looseBad
  rw [e, ← hb]
  cases nameOk x.f0 <;> cases isIn L x.f0 <;> cases decide (x.f1 < 0) <;> cases decide (8 < x.f1) <;> cases decide (400 < (szT x.f2).1) <;> cases decide (30 < (szT x.f2).2) <;> cases knownS x.f2 x.f1 nf ns <;> rfl
end Go.Proofs.Ytfhgoebgnilfaaa.I
namespace Go.Proofs.Ytfhgoebgnilfaaa.I
open Go.RowKit Go.Proofs.YtfhgoebgnilfaaaW.PrintWords
set_option linter.unusedVariables false
mutual
theorem wf44_twf : ∀ {x : S44}, wf44 x → twfB x = true
  | ⟨k, n, l⟩, h => by
    unfold wf44 at h
    unfold twfB
    rw [Bool.and_eq_true]
    exact ⟨h.1, wf44L_twf h.2.2.2⟩
theorem wf44L_twf : ∀ {l : List S44}, wf44L l → twfBL l = true
  | [], _ => rfl
  | x :: xs, h => by
    unfold wf44L at h
    unfold twfBL
    rw [Bool.and_eq_true]
    exact ⟨wf44_twf h.1, wf44L_twf h.2⟩
end
theorem looseWf_to48 {l : List S56} (h : ∀ y_, y_ ∈ l → wf56 y_) : looseWf (l.map to48) = true := by
  unfold looseWf
  rw [List.all_eq_true]
  intro x hx
  obtain ⟨y, hy, rfl⟩ := List.mem_map.1 hx
  exact wf44_twf (h y hy).2.2
theorem given_loop (l : List S56) (hl : l.length ≤ 1000) : ∀ (m i : Nat), l.length - i = m → i ≤ l.length → Ev (fun k => virgationlaw04_given.l0 k ((l.take i).map to48) l (l.length : Int) (i : Int)) (l.map to48) := by
  intro m
  induction m with
  | zero =>
    intro i hm hi
    have hie : i = l.length := by omega
    subst hie
    refine Ev.step (fun k => by rw [virgationlaw04_given.l0, if_neg (by omega)]) ?_
    rw [List.take_length]
    exact Ev.now _
  | succ m ih =>
    intro i hm hi
    have hlt : i < l.length := by omega
    refine Ev.step (fun k => by
      rw [virgationlaw04_given.l0, if_pos (by omega), if_pos (by omega), if_pos (by omega), if_pos (by rw [List.length_map, List.length_take]; omega)]) ?_
    have e : wrap64 ((i : Int) + 1) = ((i + 1 : Nat) : Int) := by unfold wrap64; omega
    have e2 : (l.take i).map to48 ++ [(⟨(rd_T56 l (i : Int)).f0, (rd_T56 l (i : Int)).f1, (⟨(rd_T56 l (i : Int)).f2.f0, (rd_T56 l (i : Int)).f2.f1, (rd_T56 l (i : Int)).f2.f2⟩ : S44)⟩ : S48)] = (l.take (i + 1)).map to48 := by
      have e3 : l.take (i + 1) = l.take i ++ [l[i]] := by rw [List.take_add_one, List.getElem?_eq_getElem hlt]; rfl
      have e4 : rd_T56 l (i : Int) = l[i] := by unfold rd_T56; rw [Int.toNat_natCast, List.getD_eq_getElem?_getD, List.getElem?_eq_getElem hlt]; rfl
      rw [e3, List.map_append, e4]
      generalize l[i] = x
      obtain ⟨a, b, c, d, f⟩ := x
      rfl
    rw [e, e2]
    exact ih (i + 1) (by omega) (by omega)
theorem given_ev (l : List S56) (hl : l.length ≤ 1000) : Ev (fun k => virgationlaw04_given.f k l) (l.map to48) := by
  have h := given_loop l hl l.length 0 (by omega) (by omega)
  rw [List.take_zero] at h
  exact h
end Go.Proofs.Ytfhgoebgnilfaaa.I
namespace Go.Proofs.Ytfhgoebgnilfaaa.I
open Go.RowKit Go.Proofs.YtfhgoebgnilfaaaW.PrintWords Go.Proofs.YtfhgoebgnilfaaaW.PrintLast Go.Proofs.YtfhgoebgnilfaaaW.PrintMore
set_option linter.unusedVariables false
set_option linter.unusedSimpArgs false
mutual
def cnt : S41 → Int
  | ⟨l⟩ => 1 + cntL l
def cntL : List S41 → Int
  | [] => 0
  | x :: xs => cnt x + cntL xs
end
mutual
def dep : S41 → Int
  | ⟨l⟩ => 1 + depL l
def depL : List S41 → Int
  | [] => 0
  | x :: xs => max (dep x) (depL xs)
end
mutual
def eqS : S41 → S41 → Bool
  | ⟨l⟩, y => eqL l y.f0
def eqL : List S41 → List S41 → Bool
  | [], m => m.isEmpty
  | _ :: _, [] => false
  | x :: xs, y :: ys => eqS x y && eqL xs ys
end
mutual
theorem cnt_ge : ∀ x : S41, 1 ≤ cnt x
  | ⟨l⟩ => by have := cntL_ge l; unfold cnt; omega
theorem cntL_ge : ∀ l : List S41, (l.length : Int) ≤ cntL l
  | [] => by simp [cntL]
  | x :: xs => by have h1 := cnt_ge x; have h2 := cntL_ge xs; unfold cntL; simp only [List.length_cons]; omega
end
mutual
theorem dep_bd : ∀ x : S41, 1 ≤ dep x ∧ dep x ≤ cnt x
  | ⟨l⟩ => by have := depL_bd l; unfold dep cnt; omega
theorem depL_bd : ∀ l : List S41, 0 ≤ depL l ∧ depL l ≤ cntL l
  | [] => by simp [depL, cntL]
  | x :: xs => by have h1 := dep_bd x; have h2 := depL_bd xs; have h3 := cnt_ge x; have h4 := cntL_ge xs; unfold depL cntL; omega
end
mutual
theorem eqS_refl : ∀ x : S41, eqS x x = true
  | ⟨l⟩ => by unfold eqS; exact eqL_refl l
theorem eqL_refl : ∀ l : List S41, eqL l l = true
  | [] => rfl
  | x :: xs => by unfold eqL; rw [eqS_refl x, eqL_refl xs]; rfl
end
theorem eqL_len : ∀ (l m : List S41), eqL l m = true → l.length = m.length
  | [], [], _ => rfl
  | [], _ :: _, h => by simp [eqL] at h
  | _ :: _, [], h => by simp [eqL] at h
  | x :: xs, y :: ys, h => by
    unfold eqL at h
    rw [Bool.and_eq_true] at h
    rw [List.length_cons, List.length_cons, eqL_len xs ys h.2]
theorem cnt_f0 (x : S41) : cnt x = 1 + cntL x.f0 := by cases x; rfl
theorem dep_f0 (x : S41) : dep x = 1 + depL x.f0 := by cases x; rfl
theorem eqS_f0 (x y : S41) : eqS x y = eqL x.f0 y.f0 := by cases x; rfl
theorem fewS_f0 (x : S41) : fewS x = (fewL x.f0 && decide (x.f0.length ≤ 8)) := by cases x; rfl
theorem drop_cnt (l : List S41) (i : Nat) (h : i < l.length) : cntL (l.drop i) = 1 + cntL (rd_T41 l (i : Int)).f0 + cntL (l.drop (i + 1)) := by
  rw [rd_T41_drop l i h]; show cnt _ + cntL _ = _; rw [cnt_f0]
theorem drop_dep (l : List S41) (i : Nat) (h : i < l.length) : depL (l.drop i) = max (1 + depL (rd_T41 l (i : Int)).f0) (depL (l.drop (i + 1))) := by
  rw [rd_T41_drop l i h]; show max (dep _) (depL _) = _; rw [dep_f0]
theorem drop_few (l : List S41) (i : Nat) (h : i < l.length) : fewL (l.drop i) = ((fewL (rd_T41 l (i : Int)).f0 && decide ((rd_T41 l (i : Int)).f0.length ≤ 8)) && fewL (l.drop (i + 1))) := by
  rw [rd_T41_drop l i h]; show (fewS _ && fewL _) = _; rw [fewS_f0]
theorem drop_eq (l m : List S41) (i : Nat) (h : i < l.length) (h2 : i < m.length) : eqL (l.drop i) (m.drop i) = (eqL (rd_T41 l (i : Int)).f0 (rd_T41 m (i : Int)).f0 && eqL (l.drop (i + 1)) (m.drop (i + 1))) := by
  rw [rd_T41_drop l i h, rd_T41_drop m i h2]; show (eqS _ _ && eqL _ _) = _; rw [eqS_f0]
theorem drop_cnt_le : ∀ (l : List S41) (i : Nat), cntL (l.drop i) ≤ cntL l
  | [], i => by simp
  | x :: xs, 0 => by simp
  | x :: xs, i + 1 => by have h1 := drop_cnt_le xs i; have h2 := cnt_ge x; rw [List.drop_succ_cons]; show cntL (xs.drop i) ≤ cnt x + cntL xs; omega
theorem cnt_child (l : List S41) (i : Nat) (h : i < l.length) : cntL (rd_T41 l (i : Int)).f0 < cntL l := by
  have h1 := drop_cnt l i h; have h2 := drop_cnt_le l i; have h3 := cntL_ge (l.drop (i + 1)); omega
mutual
theorem meas_eq : ∀ (x : S41) (left : Int), 0 ≤ left → (if cnt x ≤ left then meas x left = (dep x, left - cnt x) else (meas x left).2 < 0)
  | ⟨l⟩, left, h => by
    have := measL_eq l (left - 1) 0 (by omega) (by omega)
    unfold cnt meas dep
    split at this
    · rw [if_pos (by omega), this]
      have h1 := depL_bd l
      rw [show max 0 (depL l) + 1 = 1 + depL l from by omega, show left - 1 - cntL l = left - (1 + cntL l) from by omega]
    · rw [if_neg (by omega)]; exact this
theorem measL_eq : ∀ (l : List S41) (left d : Int), -1 ≤ left → 0 ≤ d → (if cntL l ≤ left then measL l left d = (max d (depL l) + 1, left - cntL l) else (measL l left d).2 < 0)
  | [], left, d, h, hd => by
    unfold cntL measL depL
    split
    · rw [show max d 0 = d from by omega, show left - 0 = left from by omega]
    · simp only; omega
  | x :: xs, left, d, h, hd => by
    have hc := cnt_ge x
    have hl := cntL_ge xs
    unfold cntL measL depL
    by_cases hn : left < 0
    · rw [if_pos hn, if_neg (by omega)]; exact hn
    · rw [if_neg hn]
      have h1 := meas_eq x left (by omega)
      have hb := meas_bd x left (by omega)
      have h2 := measL_eq xs (meas x left).2 (mx d (meas x left).1) (by omega) (by rw [mx_max]; omega)
      split at h1
      · rw [h1] at h2
        simp only at h2
        rw [h1]
        simp only
        split at h2
        · rw [if_pos (by omega), h2, mx_max, show max (max d (dep x)) (depL xs) = max d (max (dep x) (depL xs)) from by omega, show left - cnt x - cntL xs = left - (cnt x + cntL xs) from by omega]
        · rw [if_neg (by omega)]; exact h2
      · rw [if_neg (by omega)]
        rw [if_neg (by omega)] at h2
        exact h2
end
def isok (l : List S41) : Bool := decide (1 + cntL l ≤ 60) && (decide (1 + depL l ≤ 30) && fewS ⟨l⟩)
theorem check_eq (l : List S41) : sorts_Check.f l = some (if isok l = true then 0 else 6) := by
  have h := meas_eq ⟨l⟩ 60 (by omega)
  have hc : cnt ⟨l⟩ = 1 + cntL l := rfl
  have hd : dep ⟨l⟩ = 1 + depL l := rfl
  rw [hc, hd] at h
  unfold sorts_Check.f isok
  split at h
  · rename_i hle
    rw [h]
    simp only [hle, decide_true, Bool.true_and, Bool.and_eq_true, decide_eq_true_eq]
    by_cases h1 : 1 + depL l ≤ 30
    · cases h2 : fewS ⟨l⟩
      · rw [if_pos (.inr (.inr rfl)), if_neg (by simp)]
      · rw [if_neg (by simp only [reduceCtorEq, or_false, not_or]; omega), if_pos ⟨h1, rfl⟩]
    · rw [if_pos (.inr (.inl (by omega))), if_neg (by intro hh; exact h1 hh.1)]
  · rename_i hle
    rw [if_pos (.inl h)]
    simp [hle]
theorem nodes_ev (N : Nat) : ∀ (l : List S41) (most : Int), SizeOf.sizeOf l < N → 0 ≤ most → most ≤ 1000 → Ev (fun k => virgationref01_Nodes.f k l most) (min (1 + cntL l) (most + 1)) := by
  induction N with
  | zero => intro l most h; omega
  | succ N ih =>
  intro l most hN h0 h1
  have loop : ∀ (n i : Nat) (x5 : Int), l.length - i = n → i ≤ l.length → 1 ≤ x5 → x5 ≤ most + 1 → (i : Int) ≤ x5 → Ev (fun k => virgationref01_Nodes.l0 k most x5 (i : Int) l) (min (x5 + cntL (l.drop i)) (most + 1)) := by
    intro n
    induction n with
    | zero =>
      intro i x5 hn hi h2 h3 h4
      have hd : l.drop i = [] := List.drop_eq_nil_of_le (by omega)
      rw [hd, show min (x5 + cntL []) (most + 1) = x5 from by unfold cntL; omega]
      exact Ev.step (fun k => by rw [virgationref01_Nodes.l0, if_neg (by omega)]) (Ev.now _)
    | succ n ihn =>
      intro i x5 hn hi h2 h3 h4
      have hil : i < l.length := by omega
      have hc := cntL_ge (l.drop (i + 1))
      have hx := cntL_ge (rd_T41 l (i : Int)).f0
      by_cases hm : x5 ≤ most
      · refine Ev.step (fun k => by rw [virgationref01_Nodes.l0, if_pos (by omega), if_pos hm, if_pos (by omega)]) ?_
        refine Ev.bind (a := min (1 + cntL (rd_T41 l (i : Int)).f0) (most - x5 + 1)) ?_ ?_
        · rw [w64 (most - x5) (by omega)]
          exact ih _ _ (by have := rd_T41_mem l i hil; omega) (by omega) (by omega)
        · rw [w64 _ (by omega), w64 _ (by omega)]
          have := ihn (i + 1) (x5 + min (1 + cntL (rd_T41 l (i : Int)).f0) (most - x5 + 1)) (by omega) (by omega) (by omega) (by omega) (by omega)
          rw [drop_cnt l i hil]
          rw [show ((i + 1 : Nat) : Int) = (i : Int) + 1 from rfl] at this
          rw [show min (x5 + (1 + cntL (rd_T41 l (i : Int)).f0 + cntL (l.drop (i + 1)))) (most + 1) = min (x5 + min (1 + cntL (rd_T41 l (i : Int)).f0) (most - x5 + 1) + cntL (l.drop (i + 1))) (most + 1) from by omega]
          exact this
      · rw [show min (x5 + cntL (l.drop i)) (most + 1) = x5 from by have := cntL_ge (l.drop i); omega]
        exact Ev.step (fun k => by rw [virgationref01_Nodes.l0, if_pos (by omega), if_neg hm]) (Ev.now _)
  refine Ev.step (fun k => by rw [virgationref01_Nodes.f]) ?_
  have := loop l.length 0 1 (by omega) (by omega) (by omega) (by omega) (by omega)
  rw [List.drop_zero] at this
  exact this
theorem nodes60 (l : List S41) : Ev (fun k => virgationref01_Nodes.f k l 60) (min (1 + cntL l) 61) := nodes_ev _ l 60 (Nat.lt_succ_self _) (by omega) (by omega)
theorem depth_ev (N : Nat) : ∀ (l : List S41), SizeOf.sizeOf l < N → cntL l ≤ 1000 → Ev (fun k => virgationref01_depth.f k l) (1 + depL l) := by
  induction N with
  | zero => intro l h; omega
  | succ N ih =>
  intro l hN h1
  have hlen := cntL_ge l
  have loop : ∀ (n i : Nat) (x3 : Int), l.length - i = n → i ≤ l.length → 0 ≤ x3 → x3 ≤ 1000 → Ev (fun k => virgationref01_depth.l0 k x3 l (l.length : Int) (i : Int)) (1 + max x3 (depL (l.drop i))) := by
    intro n
    induction n with
    | zero =>
      intro i x3 hn hi h2 h3
      have hd : l.drop i = [] := List.drop_eq_nil_of_le (by omega)
      rw [hd, show 1 + max x3 (depL []) = x3 + 1 from by unfold depL; omega]
      exact Ev.step (fun k => by rw [virgationref01_depth.l0, if_neg (by omega), w64 _ (by omega)]) (Ev.now _)
    | succ n ihn =>
      intro i x3 hn hi h2 h3
      have hil : i < l.length := by omega
      have hch := cnt_child l i hil
      have hdb := depL_bd (rd_T41 l (i : Int)).f0
      refine Ev.step (fun k => by rw [virgationref01_depth.l0, if_pos (by omega), if_pos (by omega), if_pos (by omega)]) ?_
      refine Ev.bind (a := 1 + depL (rd_T41 l (i : Int)).f0) ?_ ?_
      · exact ih _ (by have := rd_T41_mem l i hil; omega) (by omega)
      · rw [w64 _ (by omega), mx_max, drop_dep l i hil]
        have := ihn (i + 1) (max x3 (1 + depL (rd_T41 l (i : Int)).f0)) (by omega) (by omega) (by omega) (by omega)
        rw [show ((i + 1 : Nat) : Int) = (i : Int) + 1 from rfl] at this
        rw [show 1 + max x3 (max (1 + depL (rd_T41 l (i : Int)).f0) (depL (l.drop (i + 1)))) = 1 + max (max x3 (1 + depL (rd_T41 l (i : Int)).f0)) (depL (l.drop (i + 1))) from by omega]
        exact this
  refine Ev.step (fun k => by rw [virgationref01_depth.f]) ?_
  have := loop l.length 0 0 (by omega) (by omega) (by omega) (by omega)
  rw [List.drop_zero, show max 0 (depL l) = depL l from by have := depL_bd l; omega] at this
  exact this
theorem depth60 {l : List S41} (h : cntL l ≤ 60) : Ev (fun k => virgationref01_depth.f k l) (1 + depL l) := depth_ev _ l (Nat.lt_succ_self _) (by omega)
theorem few_ev (N : Nat) : ∀ (l : List S41), SizeOf.sizeOf l < N → cntL l ≤ 1000 → Ev (fun k => virgationref01_few.f k l) (fewS ⟨l⟩) := by
  induction N with
  | zero => intro l h; omega
  | succ N ih =>
  intro l hN h1
  have hlen := cntL_ge l
  have loop : ∀ (n i : Nat), l.length - i = n → i ≤ l.length → Ev (fun k => virgationref01_few.l0 k l (l.length : Int) (i : Int) l) (fewL (l.drop i) && decide (l.length ≤ 8)) := by
    intro n
    induction n with
    | zero =>
      intro i hn hi
      have hd : l.drop i = [] := List.drop_eq_nil_of_le (by omega)
      rw [hd, show (fewL [] && decide (l.length ≤ 8)) = decide ((l.length : Int) ≤ 8) from by show (true && _) = _; rw [Bool.true_and]; exact decide_eq_decide.2 (by omega)]
      exact Ev.step (fun k => by rw [virgationref01_few.l0, if_neg (by omega)]) (Ev.now _)
    | succ n ihn =>
      intro i hn hi
      have hil : i < l.length := by omega
      have hch := cnt_child l i hil
      refine Ev.step (fun k => by rw [virgationref01_few.l0, if_pos (by omega), if_pos (by omega), if_pos (by omega)]) ?_
      refine Ev.bind (a := fewS ⟨(rd_T41 l (i : Int)).f0⟩) ?_ ?_
      · exact ih _ (by have := rd_T41_mem l i hil; omega) (by omega)
      · have e : fewS ⟨(rd_T41 l (i : Int)).f0⟩ = (fewL (rd_T41 l (i : Int)).f0 && decide ((rd_T41 l (i : Int)).f0.length ≤ 8)) := rfl
        rw [drop_few l i hil, ← e]
        cases hb : fewS ⟨(rd_T41 l (i : Int)).f0⟩
        · exact Ev.now _
        · have := ihn (i + 1) (by omega) (by omega)
          rw [show ((i + 1 : Nat) : Int) = (i : Int) + 1 from rfl] at this
          rw [w64 _ (by omega)]
          exact this
  refine Ev.step (fun k => by rw [virgationref01_few.f]) ?_
  have := loop l.length 0 (by omega) (by omega)
  rw [List.drop_zero] at this
  exact this
theorem is_ev (l : List S41) : Ev (fun k => virgationref01_Is.f k l) (isok l) := by
  unfold virgationref01_Is.f isok
  refine Ev.bind (nodes60 l) ?_
  by_cases h : 1 + cntL l ≤ 60
  · refine Ev.ifp (by omega) ?_
    refine Ev.bind (depth60 (by omega)) ?_
    by_cases h2 : 1 + depL l ≤ 30
    · refine Ev.ifp h2 ?_
      refine Ev.bind (few_ev _ l (Nat.lt_succ_self _) (by omega)) ?_
      simp only [h, h2, decide_true, Bool.true_and]
      exact Ev.now _
    · refine Ev.ifn h2 ?_
      simp only [h, h2, decide_true, decide_false, Bool.true_and, Bool.false_and]
      exact Ev.now _
  · refine Ev.ifn (by omega) ?_
    simp only [h, decide_false, Bool.false_and]
    exact Ev.now _
theorem isok_cnt {l : List S41} (h : isok l = true) : cntL l ≤ 59 := by
  unfold isok at h
  rw [Bool.and_eq_true, decide_eq_true_eq] at h
  omega
theorem equal_ev (N : Nat) : ∀ (l m : List S41), SizeOf.sizeOf l < N → cntL l ≤ 1000 → Ev (fun k => virgationref01_Equal.f k l m) (eqL l m) := by
  induction N with
  | zero => intro l m h; omega
  | succ N ih =>
  intro l m hN h1
  have hlen := cntL_ge l
  by_cases hlm : l.length = m.length
  · have loop : ∀ (n i : Nat), l.length - i = n → i ≤ l.length → Ev (fun k => virgationref01_Equal.l0 k (l.length : Int) (i : Int) l m) (eqL (l.drop i) (m.drop i)) := by
      intro n
      induction n with
      | zero =>
        intro i hn hi
        have hd : l.drop i = [] := List.drop_eq_nil_of_le (by omega)
        have hd2 : m.drop i = [] := List.drop_eq_nil_of_le (by omega)
        rw [hd, hd2]
        change Ev _ true
        exact Ev.step (fun k => by rw [virgationref01_Equal.l0, if_neg (by omega)]) (Ev.now _)
      | succ n ihn =>
        intro i hn hi
        have hil : i < l.length := by omega
        have hch := cnt_child l i hil
        refine Ev.step (fun k => by rw [virgationref01_Equal.l0, if_pos (by omega), if_pos (by omega), if_pos (by omega), if_pos (by omega)]) ?_
        refine Ev.bind (a := eqL (rd_T41 l (i : Int)).f0 (rd_T41 m (i : Int)).f0) ?_ ?_
        · exact ih _ _ (by have := rd_T41_mem l i hil; omega) (by omega)
        · rw [drop_eq l m i hil (by omega)]
          cases eqL (rd_T41 l (i : Int)).f0 (rd_T41 m (i : Int)).f0
          · exact Ev.now _
          · rw [w64 _ (by omega)]
            exact ihn (i + 1) (by omega) (by omega)
    refine Ev.step (fun k => by rw [virgationref01_Equal.f, if_pos (by omega)]) ?_
    have := loop l.length 0 (by omega) (by omega)
    rw [List.drop_zero, List.drop_zero] at this
    exact this
  · have : eqL l m = false := by
      cases h : eqL l m
      · rfl
      · exact absurd (eqL_len l m h) hlm
    rw [this]
    exact Ev.step (fun k => by rw [virgationref01_Equal.f, if_neg (by omega)]) (Ev.now _)
end Go.Proofs.Ytfhgoebgnilfaaa.I
namespace Go.Proofs.Ytfhgoebgnilfaaa.I
open Go.RowKit Go.Proofs.YtfhgoebgnilfaaaW.PrintWords Go.Proofs.YtfhgoebgnilfaaaW.PrintLast Go.Proofs.YtfhgoebgnilfaaaW.PrintMore
attribute [local go_sem] max2_int min2_int max_two min_two max_three min_three max_four min_four
set_option linter.unusedVariables false
set_option maxRecDepth 100000
set_option linter.unusedSimpArgs false
mutual
def ofT (sy : List S59) (fu pa : List S41) : S44 → Option (List S41)
  | ⟨k, n, l⟩ => match hdF sy fu pa k n with
    | none => none
    | some s => if s.length < l.length then none else if ofL sy fu pa l s = true then some (s.drop l.length) else none
def ofL (sy : List S59) (fu pa : List S41) : List S44 → List S41 → Bool
  | [], _ => true
  | x :: xs, s => (match ofT sy fu pa x with
    | none => false
    | some r => eqL r (s.headD z41).f0) && ofL sy fu pa xs s.tail
end
theorem ofT_eq (sy : List S59) (fu pa : List S41) (x : S44) : ofT sy fu pa x = match hdF sy fu pa x.f0 x.f1 with
    | none => none
    | some s => if s.length < x.f2.length then none else if ofL sy fu pa x.f2 s = true then some (s.drop x.f2.length) else none := by
  cases x; rw [ofT]
theorem ofL_step (sy : List S59) (fu pa : List S41) (l : List S44) (s : List S41) (i : Nat) (h : i < l.length) : ofL sy fu pa (l.drop i) (s.drop i) = ((match ofT sy fu pa (rd_T44 l (i : Int)) with
    | none => false
    | some r => eqL r (rd_T41 s (i : Int)).f0) && ofL sy fu pa (l.drop (i + 1)) (s.drop (i + 1))) := by
  rw [rd_T44_drop l i h, ofL, List.tail_drop]
  have e : (s.drop i).headD z41 = rd_T41 s (i : Int) := by
    unfold rd_T41
    rw [Int.toNat_natCast, List.getD_eq_getElem?_getD, List.headD_eq_head?_getD, List.head?_drop]
  rw [e]
def SmallP (sy : List S59) (fu pa : List S41) : Prop := (∀ x ∈ sy, 0 ≤ x.f1 ∧ x.f1 ≤ 1000) ∧ (∀ x ∈ fu, cntL x.f0 ≤ 1000) ∧ (∀ x ∈ pa, cntL x.f0 ≤ 1000)
theorem cntL_rep : ∀ n : Nat, cntL (List.replicate n z41) = n
  | 0 => rfl
  | n + 1 => by rw [List.replicate_succ, cntL, cntL_rep n]; simp only [z41, cnt, cntL]; omega
theorem rd_mem41 {l : List S41} {n : Int} (h0 : 0 ≤ n) (h : n < (l.length : Int)) : rd_T41 l n ∈ l := by
  unfold rd_T41
  rw [List.getD_eq_getElem?_getD, List.getElem?_eq_getElem (by omega : n.toNat < l.length)]
  exact List.getElem_mem _
theorem hdF_cnt {sy : List S59} {fu pa : List S41} (hs : SmallP sy fu pa) {k n : Int} {r : List S41} (h : hdF sy fu pa k n = some r) : cntL r ≤ 1000 := by
  unfold hdF at h
  split at h
  · cases h
  split at h
  · split at h
    · injection h with h; rw [← h]; exact hs.2.2 _ (rd_mem41 (by omega) (by assumption))
    · cases h
  split at h
  · split at h
    · injection h with h; rw [← h]; exact hs.2.1 _ (rd_mem41 (by omega) (by assumption))
    · cases h
  split at h
  · split at h
    · injection h with h
      rw [← h, cntL_rep]
      have hm : rd_T59 sy n ∈ sy := by
        unfold rd_T59
        rw [List.getD_eq_getElem?_getD, List.getElem?_eq_getElem (by omega : n.toNat < sy.length)]
        exact List.getElem_mem _
      have := hs.1 _ hm
      omega
    · cases h
  · cases h
theorem ofT_cnt {sy : List S59} {fu pa : List S41} (hs : SmallP sy fu pa) {x : S44} {r : List S41} (h : ofT sy fu pa x = some r) : cntL r ≤ 1000 := by
  rw [ofT_eq] at h
  split at h
  · cases h
  · rename_i s hh
    split at h
    · cases h
    split at h
    · injection h with h
      rw [← h]
      have h1 := hdF_cnt hs hh
      have h2 := drop_cnt_le s x.f2.length
      omega
    · cases h
theorem eq_calls {l m : List S41} (hl : cntL l ≤ 1000) {w : World} {A : Option Addr} {c : Nat} {A' : Option Addr} {c' : Nat} (hr : Kd.C k41 w A l.length l) (hc : l.length ≤ c) (hr' : Kd.C k41 w A' m.length m) (hc' : m.length ≤ c') :
    Calls Try.prog 64 #[.agg #[.slice A l.length c], .agg #[.slice A' m.length c']] w fun e w' => e = .returned (.bool (eqL l m)) ∧ Below w.heap.size w w' := by
  obtain ⟨k, hk⟩ := (equal_ev _ l m (Nat.lt_succ_self _) hl).rounds
  exact virgationref01_Equal.calls k A c l A' c' m _ w hr hc hr' hc' hk
set_option maxHeartbeats 16000000 in
theorem of_calls (P : Nat → Prop) (A0 : Option Addr) (c0 : Nat) (l0 : List S59) (A1 : Option Addr) (c1 : Nat) (l1 : List S41) (A2 : Option Addr) (c2 : Nat) (l2 : List S41) (hsm : SmallP l0 l1 l2) (N : Nat) : ∀ (l : List S44), SizeOf.sizeOf l < N → ∀ (k n : Int) (A3 : Option Addr) (c3 : Nat) (w : World),
    Kd.C k59 w A0 l0.length l0 → Kd.V k41 41 w w.heap.size P (.slice A1 l1.length c1) l1 → Kd.V k41 41 w w.heap.size P (.slice A2 l2.length c2) l2 → Kd.C k44 w A3 l.length l → l.length ≤ c3 →
    Calls Try.prog 50 #[.agg #[.slice A0 l0.length c0, .slice A1 l1.length c1, .slice A2 l2.length c2], .agg #[.int .i64 k, .int .i64 n, .slice A3 l.length c3]] w fun e w' => ∃ v, e = .returned (.tuple #[.agg #[v], .bool (ofT l0 l1 l2 ⟨k, n, l⟩).isSome]) ∧ Kd.V k41 41 w' w.heap.size (fun q => P q ∨ w.heap.size ≤ q) v ((ofT l0 l1 l2 ⟨k, n, l⟩).getD []) ∧ Below w.heap.size w w' := by
  induction N with
  | zero => intro l h; omega
  | succ N ih =>
  intro l hN k n A3 c3 w hr0 h1 h2 hr3 hc3
  have hu105 := Try.underlying105
  have hu44 := Try.underlying44
  have hu41 := Try.underlying41
  have hlen : l.length ≤ 9223372036854775807 := hr3.2.1
  have HSM := Aside0.mk hsm
  have HR0 := Aside0.mk hr0
  have H1 := Aside0.mk h1
  have H2 := Aside0.mk h2
  have HR3 := Aside0.mk hr3
  have HC3 := Aside0.mk hc3
  have IH := Aside0.mk ih
  have HN := Aside0.mk hN
  clear hr0 h1 h2 hr3 hc3 ih hN hsm
  obtain ⟨R, hR⟩ : ∃ R, R = hdF l0 l1 l2 k n := ⟨_, rfl⟩
  have HR := Aside0.mk hR
  clear hR
  go_enter Try.func50, Try.ntmps50
  go_wp2_with (first
   | ((with_reducible refine gate_dst (N := 2) rfl ?_)
      refine box_event ?hg (N := 2) ?hd (cs := #[.slice A0 l0.length c0, .slice A1 l1.length c1, .slice A2 l2.length c2]) (t := 105) ?hr ?_
      (case hd => rfl)
      (case hg => rfl)
      (case hr => first | (go_simp; done) | (go_simp; rfl))
      intro g2 hg2 w2 hbox hb2
      have S22 := Aside0.mk hbox
      have HB2 := Aside0.mk hb2
      have hw2 : w.heap.size ≤ g2 := by omega
      clear hbox hb2 hg2)
   | ((with_reducible refine gate_dst (N := 3) rfl ?_)
      refine box_event ?hg (N := 3) ?hd (cs := #[.int .i64 k, .int .i64 n, .slice A3 l.length c3]) (t := 44) ?hr ?_
      (case hd => rfl)
      (case hg => rfl)
      (case hr => first | (go_simp; done) | (go_simp; rfl))
      intro g3 hg3 w3 hbox hb3
      have S23 := Aside0.mk (blk_below S22.out hb3)
      have S33 := Aside0.mk hbox
      have HB3 := Aside0.mk (below_step HB2.out hb3)
      clear hbox hb3 hg3 S22 HB2)
   | ((with_reducible refine gate_dst (N := 4) rfl ?_)
      refine box_event ?hg (N := 4) ?hd (cs := #[.slice none 0 0]) (t := 41) ?hr ?_
      (case hd => rfl)
      (case hg => rfl)
      (case hr => first | (go_simp; done) | (go_simp; rfl))
      intro g4 hg4 w4 hbox hb4
      have hw4 : w.heap.size ≤ g4 := by have := HB3.out.size; omega
      have S24 := Aside0.mk (blk_below S23.out hb4)
      have S34 := Aside0.mk (blk_below S33.out hb4)
      have S44 := Aside0.mk hbox
      have HB4 := Aside0.mk (below_step HB3.out hb4)
      have a0 : w4.cell? ⟨g2, 0, none⟩ = some (.slice A0 l0.length c0) := (blk_cell S24.out 0).trans rfl
      have a1 : w4.cell? ⟨g2, 1, none⟩ = some (.slice A1 l1.length c1) := (blk_cell S24.out 1).trans rfl
      have a2 : w4.cell? ⟨g2, 2, none⟩ = some (.slice A2 l2.length c2) := (blk_cell S24.out 2).trans rfl
      have b0 : w4.cell? ⟨g3, 0, none⟩ = some (.int .i64 k) := (blk_cell S34.out 0).trans rfl
      have b1 : w4.cell? ⟨g3, 1, none⟩ = some (.int .i64 n) := (blk_cell S34.out 1).trans rfl
      have b2 : w4.cell? ⟨g3, 2, none⟩ = some (.slice A3 l.length c3) := (blk_cell S34.out 2).trans rfl
      clear hbox hb4 hg4 S23 S33 HB3))
  have hc := head_calls (fun q => P q ∧ q < w.heap.size) A0 c0 l0 A1 c1 l1 A2 c2 l2 k n (.slice A3 l.length c3) w4 rfl (Kd.C_below HR0.out HB4.out) (Kd.V_below (Kd.V_bound H1.out) HB4.out) (Kd.V_below (Kd.V_bound H2.out) HB4.out) (fun x hx => by have := HSM.out.1 x hx; omega)
  rw [← HR.out] at hc
  (with_reducible refine hc.mono ?_)
  clear hc
  rintro e w5 ⟨v, rfl, hv, hb5⟩
  have hw45 := HB4.out.size
  have hlt4 := blk_lt S44.out
  have HV5 := Aside0.mk (Kd.V_mono (ok' := fun q => (P q ∨ w.heap.size ≤ q) ∧ q ≠ g4) hv (fun q hq => by
    rcases hq with hq | hq
    · exact ⟨.inl hq.1, by omega⟩
    · exact ⟨.inr (by omega), by omega⟩))
  have S25 := Aside0.mk (blk_below S24.out hb5)
  have S35 := Aside0.mk (blk_below S34.out hb5)
  have S45 := Aside0.mk (blk_below S44.out hb5)
  have HB5 := Aside0.mk (below_step HB4.out hb5)
  clear hv hb5 a0 a1 a2 b0 b1 b2 S24 S34 S44 HB4 hlt4 hw45
  have fin : ∀ (v : Value) (l : List S41) (wq : World), Below w.heap.size w wq → Kd.V k41 41 wq w.heap.size (fun q => (P q ∨ w.heap.size ≤ q) ∧ q ≠ g4) v l → Kd.V k41 41 (wq.setCell ⟨g4, 0, none⟩ v) w.heap.size (fun q => P q ∨ w.heap.size ≤ q) v l ∧ Below w.heap.size w (wq.setCell ⟨g4, 0, none⟩ v) := fun v l wq hb hv => ⟨Kd.V_mono (Kd.V_far (p := ⟨g4, 0, none⟩) hv (fun _ hk => hk.2) v) (fun _ hk => hk.1), below_set (g := g4) (j := 0) hb hw4⟩
  have FIN := Aside0.mk fin
  clear fin
  obtain ⟨As, cs, rfl⟩ := Kd.V_slice HV5.out
  obtain ⟨sl, hsl⟩ : ∃ sl, sl = (R.getD []).length := ⟨_, rfl⟩
  rw [← hsl] at HV5 ⊢
  have HSL := Aside0.mk hsl
  clear hsl
  have hcase : R = none ∨ (∃ s, R = some s ∧ s.length < l.length) ∨ (∃ s, R = some s ∧ ¬ s.length < l.length) := by
    cases R with
    | none => exact .inl rfl
    | some s =>
      by_cases h : s.length < l.length
      · exact .inr (.inl ⟨s, rfl, h⟩)
      · exact .inr (.inr ⟨s, rfl, h⟩)
  have NE := Aside0.mk (show R = none → ofT l0 l1 l2 ⟨k, n, l⟩ = none from fun h => by rw [ofT_eq]; show (match hdF l0 l1 l2 k n with | none => none | some s => _) = none; rw [← HR.out, h])
  have SE := Aside0.mk (show ∀ s, R = some s → ofT l0 l1 l2 ⟨k, n, l⟩ = if s.length < l.length then none else if ofL l0 l1 l2 l s = true then some (s.drop l.length) else none from fun s h => by rw [ofT_eq]; show (match hdF l0 l1 l2 k n with | none => none | some s => _) = _; rw [← HR.out, h])
  rcases hcase with h | ⟨s, h, hl⟩ | ⟨s, h, hl⟩
  all_goals subst h
  case' inl => have HE := Aside0.mk (NE.out rfl)
  case' inr.inl =>
    have HE := Aside0.mk ((SE.out s rfl).trans (if_pos hl))
    have b : (sl < l.length) = True := eq_true (by have : sl = s.length := HSL.out; omega)
  case' inr.inr => have b : (sl < l.length) = False := eq_false (by have : sl = s.length := HSL.out; omega)
  all_goals go_wp2_with (
       (with_reducible refine gate_dst (N := 6) rfl ?_)
       refine box_event ?hg (N := 6) ?hd (cs := #[.slice none 0 0]) (t := 41) ?hr ?_
       (case hd => rfl)
       (case hg => rfl)
       (case hr => first | (go_simp; done) | (go_simp; rfl))
       intro g6 hg6 w6 hbox hb6
       have hw6 : w.heap.size ≤ g6 := by have := HB5.out.size; omega
       have S66 := Aside0.mk (blk_put (cs' := #[.slice As sl cs]) hbox 0 (.slice As sl cs) rfl)
       have hne2 : g2 ≠ g6 := by have := blk_lt S25.out; omega
       have hne3 : g3 ≠ g6 := by have := blk_lt S35.out; omega
       have hne4 : g4 ≠ g6 := by have := blk_lt S45.out; omega
       have S26 := Aside0.mk (blk_far (p := ⟨g6, 0, none⟩) (blk_below S25.out hb6) hne2 (.slice As sl cs))
       have S36 := Aside0.mk (blk_far (p := ⟨g6, 0, none⟩) (blk_below S35.out hb6) hne3 (.slice As sl cs))
       have S46 := Aside0.mk (blk_far (p := ⟨g6, 0, none⟩) (blk_below S45.out hb6) hne4 (.slice As sl cs))
       have HB6 := Aside0.mk (below_set (g := g6) (j := 0) (v := .slice As sl cs) (below_step HB5.out hb6) hw6)
       have HV6 := Aside0.mk (Kd.V_below HV5.out (below_set (g := g6) (j := 0) (v := .slice As sl cs) hb6 (by omega)))
       have hcz := (blk_cell hbox 0).trans rfl
       have hfz := blk_frozen hbox 0
       have b2 := (blk_cell S36.out 2).trans rfl
       have d0 := (blk_cell S46.out 0).trans rfl
       have df := blk_frozen S46.out 0
       have e0 := (blk_cell S66.out 0).trans rfl
       clear hbox hb6 hg6 S25 S35 S45 HB5 HV5 hne2 hne3 hne4)
  rotate_left 1
  iterate 2
    refine bodyPost_ret (results_ct rfl _ _ g4 41 #[.slice none 0 0] (0, 0) _ rfl (blk_put (cs' := #[.slice none 0 0]) S46.out 0 _ rfl) Try.underlying41 rfl (by kernel_rfl)) rfl ?_
    rw [HE.out]
    exact ⟨_, rfl, FIN.out _ _ _ HB6.out (Kd.V_nil _ _ _ _ _)⟩
  have hsl : sl = s.length := HSL.out
  subst hsl
  have HV6' := Aside0.mk (show Kd.V k41 41 (w6.setCell ⟨g6, 0, none⟩ (.slice As s.length cs)) w.heap.size (fun q => (P q ∨ w.heap.size ≤ q) ∧ q ≠ g4) (.slice As s.length cs) s from HV6.out)
  clear HV6
  have HV6 := HV6'
  clear HV6'
  obtain ⟨r, hr⟩ : ∃ r, r = ofL l0 l1 l2 l s := ⟨_, rfl⟩
  have HE := Aside0.mk (show ofT l0 l1 l2 ⟨k, n, l⟩ = if r = true then some (s.drop l.length) else none from by rw [hr]; exact (SE.out s rfl).trans (if_neg hl))
  have Hr := Aside0.mk hr
  have Hl := Aside0.mk hl
  clear hr hl NE SE b b2 d0 df e0 hcz hfz HSL
  generalize w6.setCell ⟨g6, 0, none⟩ (.slice As s.length cs) = w7 at *
  have HR7 := Aside0.mk (Kd.C_below HR0.out HB6.out)
  have H17 := Aside0.mk (Kd.V_below (Kd.V_bound H1.out) HB6.out)
  have H27 := Aside0.mk (Kd.V_below (Kd.V_bound H2.out) HB6.out)
  have HR37 := Aside0.mk (Kd.C_below HR3.out HB6.out)
  clear HR0 H1 H2 HR3
  go_loopg [33] l.length (fun kq v33 wr => ∃ i : Nat, v33 = .int .i64 (i : Int) ∧ Aside0 (i + kq = l.length) ∧ Aside0 (r = ofL l0 l1 l2 (l.drop i) (s.drop i)) ∧ Aside0 (Below w7.heap.size w7 wr))
  case atStart => exact ⟨0, rfl, ⟨by omega⟩, Hr, ⟨Below.refl _ _⟩⟩
  case round =>
    obtain ⟨i, rfl, Hi, HL, HB⟩ := hrel
    clear Hr
    have HBw := Aside0.mk (below_step HB6.out HB.out)
    have S2 := Aside0.mk (blk_below S26.out HB.out)
    have S3 := Aside0.mk (blk_below S36.out HB.out)
    have S4 := Aside0.mk (blk_below S46.out HB.out)
    have S6 := Aside0.mk (blk_below S66.out HB.out)
    have HV := Aside0.mk (Kd.V_below HV6.out HB.out)
    by_cases hlt : i < l.length
    rotate_left
    · have hie : i = l.length := by have := Hi.out; omega
      have hr : r = true := by have := HL.out; rw [hie, List.drop_length] at this; exact this.trans (by rw [ofL])
      have he := HE.out
      rw [if_pos hr] at he
      have HE' := Aside0.mk he
      have b2 : wr.cell? ⟨g3, 2, none⟩ = some (.slice A3 l.length c3) := (blk_cell S3.out 2).trans rfl
      have d0 : wr.cell? ⟨g4, 0, none⟩ = some (.slice none 0 0) := (blk_cell S4.out 0).trans rfl
      have df := blk_frozen S4.out 0
      have e0 : wr.cell? ⟨g6, 0, none⟩ = some (.slice As s.length cs) := (blk_cell S6.out 0).trans rfl
      have b : (s.length < l.length) = False := eq_false Hl.out
      have p1 : (l.length ≤ s.length) = True := eq_true (by have := Hl.out; omega)
      clear he hr
      subst hie
      have hcap := (Kd.V_at HV.out).2.1
      have hcut : ∀ A', (if cs = l.length then As else As.map (·.add (l.length * 1))) = A' → Kd.V k41 41 wr w.heap.size (fun q => (P q ∨ w.heap.size ≤ q) ∧ q ≠ g4) (.slice A' (s.length - l.length) (cs - l.length)) (s.drop l.length) := by
        intro A' h
        have h2 := Kd.V_mk (d := k41) (e := 41) (base := w.heap.size) (c := cs - l.length) (by rw [List.length_drop]; omega) (Kd.F_cut (m := l.length) (c := cs) (Kd.V_F HV.out) (by have := Hl.out; omega) hcap)
        rw [List.length_drop] at h2
        rw [← h]
        exact h2
      have HCut := Aside0.mk hcut
      clear hcut hcap
      by_cases hcs : cs = l.length
      · go_wp2_with fail
        have hv := HCut.out As (if_pos hcs)
        rw [hcs, Nat.sub_self] at hv
        refine bodyPost_ret (results_ct rfl _ _ g4 41 #[.slice As (s.length - l.length) 0] (0, 0) _ rfl (blk_put (cs' := #[.slice As (s.length - l.length) 0]) S4.out 0 _ rfl) Try.underlying41 rfl (by kernel_rfl)) rfl ?_
        rw [HE'.out]
        exact ⟨_, rfl, FIN.out _ _ _ HBw.out hv⟩
      · go_wp2_with fail
        have hv := HCut.out _ (if_neg hcs)
        rw [Nat.mul_one] at hv
        refine bodyPost_ret (results_ct rfl _ _ g4 41 #[.slice (As.map (·.add l.length)) (s.length - l.length) (cs - l.length)] (0, 0) _ rfl (blk_put (cs' := #[.slice (As.map (·.add l.length)) (s.length - l.length) (cs - l.length)]) S4.out 0 _ rfl) Try.underlying41 rfl (by kernel_rfl)) rfl ?_
        rw [HE'.out]
        exact ⟨_, rfl, FIN.out _ _ _ HBw.out hv⟩
    obtain ⟨ad, A4, c4, rfl, hx1, hx2, hx3, hc4, hA4⟩ := at_T44 (Kd.C_below HR37.out HB.out) (i : Int) (by omega) (by omega)
    rw [Int.toNat_natCast] at hx1 hx2 hx3
    have HA4 := Aside0.mk hA4
    have Hc4 := Aside0.mk hc4
    have HNx := Aside0.mk (show SizeOf.sizeOf (rd_T44 l (i : Int)).f2 < N from by have := rd_T44_mem l i hlt; have := HN.out; omega)
    have HStep := Aside0.mk (HL.out.trans (ofL_step l0 l1 l2 l s i hlt))
    have p1 : (0 ≤ (i : Int)) = True := eq_true (by omega)
    have p2 : ((i : Int) < (l.length : Int)) = True := eq_true (by omega)
    have p3 : (i < l.length) = True := eq_true (by omega)
    have p4 : (i < s.length) = True := eq_true (by have := Hl.out; omega)
    clear hA4 hc4 HL
    generalize rd_T44 l (i : Int) = x at *
    have HEx := Aside0.mk (show ofT l0 l1 l2 ⟨x.f0, x.f1, x.f2⟩ = ofT l0 l1 l2 x from by cases x; rfl)
    go_wp2_with (
      (with_reducible refine gate_dst (N := 9) rfl ?_)
      refine box_event ?hg (N := 9) ?hd (cs := #[.int .i64 0, .int .i64 0, .slice none 0 0]) (t := 44) ?hr ?_
      (case hd => rfl)
      (case hg => rfl)
      (case hr => first | (go_simp; done) | (go_simp; rfl))
      intro gx hgx w6 hbox hb6
      have hgw : wr.heap.size ≤ gx := by omega
      have Hbw := Aside0.mk (below_set (g := gx) (j := 2) (v := .slice A4 x.f2.length c4) (below_set (g := gx) (j := 1) (v := .int .i64 x.f1) (below_set (g := gx) (j := 0) (v := .int .i64 x.f0) hb6 hgw) hgw) hgw)
      have hcz0 := (blk_cell hbox 0).trans rfl
      have hfz0 := blk_frozen hbox 0
      have hcz1 := (blk_cell hbox 1).trans rfl
      have hfz1 := blk_frozen hbox 1
      have hcz2 := (blk_cell hbox 2).trans rfl
      have hfz2 := blk_frozen hbox 2
      have Sx := Aside0.mk (blk_put (cs' := #[.int .i64 x.f0, .int .i64 x.f1, .slice A4 x.f2.length c4]) (blk_put (cs' := #[.int .i64 x.f0, .int .i64 x.f1, .slice none 0 0]) (blk_put (cs' := #[.int .i64 x.f0, .int .i64 0, .slice none 0 0]) hbox 0 (.int .i64 x.f0) rfl) 1 (.int .i64 x.f1) rfl) 2 (.slice A4 x.f2.length c4) rfl)
      have d0 := (blk_cell (blk_below S2.out Hbw.out) 0).trans rfl
      have d1 := (blk_cell (blk_below S2.out Hbw.out) 1).trans rfl
      have d2 := (blk_cell (blk_below S2.out Hbw.out) 2).trans rfl
      have e0 := (blk_cell Sx.out 0).trans rfl
      have e1 := (blk_cell Sx.out 1).trans rfl
      have e2 := (blk_cell Sx.out 2).trans rfl
      clear hbox hb6 hgx hgw hx1 hx2 hx3 Sx)
    clear hcz0 hcz1 hcz2 hfz0 hfz1 hfz2 d0 d1 d2 e0 e1 e2
    generalize (((w6.setCell ⟨gx, 0, none⟩ (.int .i64 x.f0)).setCell ⟨gx, 1, none⟩ (.int .i64 x.f1)).setCell ⟨gx, 2, none⟩ (.slice A4 x.f2.length c4)) = wq at *
    have HBq := Aside0.mk (below_step HB.out Hbw.out)
    (with_reducible refine (IH.out x.f2 HNx.out x.f0 x.f1 A4 c4 wq (Kd.C_below HR7.out HBq.out) (Kd.V_mono (Kd.V_below H17.out HBq.out) (fun _ h => h.1)) (Kd.V_mono (Kd.V_below H27.out HBq.out) (fun _ h => h.1)) (Kd.C_below HA4.out Hbw.out) Hc4.out).mono ?_)
    rintro e w8 ⟨v, rfl, hv8, hb8⟩
    rw [HEx.out] at hv8 ⊢
    have HB8 := Aside0.mk (below_step HBq.out hb8)
    have HV8 := Aside0.mk (Kd.V_bound hv8)
    clear hv8 hb8 Hbw HBq S2 S3 S4 S6 HV HBw HA4 Hc4 HNx HEx IH
    obtain ⟨Ay, cy, rfl⟩ := Kd.V_slice HV8.out
    obtain ⟨Y, hY⟩ : ∃ Y, Y = ofT l0 l1 l2 x := ⟨_, rfl⟩
    rw [← hY] at HV8 HStep ⊢
    have HY := Aside0.mk hY
    clear hY
    obtain ⟨m, hm⟩ : ∃ m, m = (Y.getD []).length := ⟨_, rfl⟩
    rw [← hm] at HV8 ⊢
    have HMm := Aside0.mk hm
    clear hm
    go_wp2_with (
      (with_reducible refine gate_dst (N := 10) rfl ?_)
      refine box_event ?hg (N := 10) ?hd (cs := #[.slice none 0 0]) (t := 41) ?hr ?_
      (case hd => rfl)
      (case hg => rfl)
      (case hr => first | (go_simp; done) | (go_simp; rfl))
      intro g10 hg10 wA hbox hbA
      have hb9 := below_set (g := g10) (j := 0) (v := .slice Ay m cy) hbA (by omega)
      have S10 := Aside0.mk (blk_put (cs' := #[.slice Ay m cy]) hbox 0 (.slice Ay m cy) rfl)
      have HB9 := Aside0.mk (below_step HB8.out hb9)
      have HV9 := Aside0.mk (Kd.V_below HV8.out hb9)
      have hcz := (blk_cell hbox 0).trans rfl
      have hfz := blk_frozen hbox 0
      clear hbox hbA hg10 hb9 HB8 HV8)
    clear hcz hfz
    generalize wA.setCell ⟨g10, 0, none⟩ (.slice Ay m cy) = w9 at *
    have HBw := Aside0.mk (below_step HB6.out HB9.out)
    have S4 := Aside0.mk (blk_below S46.out HB9.out)
    have S6 := Aside0.mk (blk_below S66.out HB9.out)
    have HV := Aside0.mk (Kd.V_below HV6.out HB9.out)
    have d0 : w9.cell? ⟨g4, 0, none⟩ = some (.slice none 0 0) := (blk_cell S4.out 0).trans rfl
    have df := blk_frozen S4.out 0
    have e0 : w9.cell? ⟨g6, 0, none⟩ = some (.slice As s.length cs) := (blk_cell S6.out 0).trans rfl
    have y0 : w9.cell? ⟨g10, 0, none⟩ = some (.slice Ay m cy) := (blk_cell S10.out 0).trans rfl
    cases Y with
    | none =>
      have hr : r = false := by have := HStep.out; simpa using this
      have HE' := Aside0.mk (show ofT l0 l1 l2 ⟨k, n, l⟩ = none from HE.out.trans (if_neg (by rw [hr]; decide)))
      clear hr
      go_quiet (fail)
      have HBn := Aside0.mk (pw_below_drewN HBw.out nq)
      have S4n := Aside0.mk (blk_drewN S4.out nq)
      clear d0 df e0 y0 S4 S6 HV HBw HB9 S10 HV9
      generalize w9.drewN nq = wn at *
      have d0 : wn.cell? ⟨g4, 0, none⟩ = some (.slice none 0 0) := (blk_cell S4n.out 0).trans rfl
      have df := blk_frozen S4n.out 0
      go_wp2_with fail
      refine bodyPost_ret (results_ct rfl _ _ g4 41 #[.slice none 0 0] (0, 0) _ rfl (blk_put (cs' := #[.slice none 0 0]) S4n.out 0 _ rfl) Try.underlying41 rfl (by kernel_rfl)) rfl ?_
      rw [HE'.out]
      exact ⟨_, rfl, FIN.out _ _ _ HBn.out (Kd.V_nil _ _ _ _ _)⟩
    | some y =>
      have hm : m = y.length := HMm.out
      subst hm
      have hcy := ofT_cnt HSM.out HY.out.symm
      obtain ⟨ads, Ae, ce, rfl, hxe, hve⟩ := V_at41 HV.out (i := (i : Int)) (by omega) (by have := Hl.out; omega)
      rw [Int.toNat_natCast] at hxe
      have p5 : ((i : Int) < (s.length : Int)) = True := eq_true (by have := Hl.out; omega)
      have HY9 := Aside0.mk (show y.length ≤ cy ∧ k41.C w9 Ay y.length y from (Kd.V_reads' HV9.out).2)
      have HVe := Aside0.mk (Kd.V_reads' hve).2
      have HCy := Aside0.mk hcy
      clear hve hcy HV9 HV
      generalize rd_T41 s (i : Int) = ys at *
      go_region_law
        (first
          | (go_simp
             go_at_call 64
             (with_reducible refine (eq_calls (l := y) (m := ys.f0) HCy.out (w := w9.drew) (Kd.C_below HY9.out.2 (below_drew (Below.refl _ _))) HY9.out.1 (Kd.C_below HVe.out.2 (below_drew (Below.refl _ _))) HVe.out.1).mono ?_)
             rintro e9 wB ⟨rfl, hbB⟩
             have HBB := Aside0.mk (below_step (below_drew HB9.out) hbB)
             clear hbB))
      all_goals (
        have HStep2 := Aside0.mk (show r = (eqL y ys.f0 && ofL l0 l1 l2 (l.drop (i + 1)) (s.drop (i + 1))) from HStep.out)
        clear HStep HCy HY9 HVe S4 S6 HB9 HBw S10 hxe y0 e0 d0 df
        generalize eqL y ys.f0 = q at *
        cases q with
        | true =>
          have HN2 := Aside0.mk (show r = ofL l0 l1 l2 (l.drop (i + 1)) (s.drop (i + 1)) from HStep2.out)
          clear HStep2
          go_wp2_with fail
          have hk := Hi.out
          obtain ⟨k1, rfl⟩ : ∃ k1, gk = k1 + 1 := ⟨gk - 1, by omega⟩
          go_roundg k1
          case measure => omega
          case rel => exact ⟨i + 1, by go_num, ⟨by omega⟩, HN2, HBB⟩
        | false =>
          have hr : r = false := HStep2.out
          have HE' := Aside0.mk (show ofT l0 l1 l2 ⟨k, n, l⟩ = none from HE.out.trans (if_neg (by rw [hr]; decide)))
          clear hr HStep2
          have S4B := Aside0.mk (blk_below S46.out HBB.out)
          have d0B : wB.cell? ⟨g4, 0, none⟩ = some (.slice none 0 0) := (blk_cell S4B.out 0).trans rfl
          have dfB := blk_frozen S4B.out 0
          go_wp2_with fail
          refine bodyPost_ret (results_ct rfl _ _ g4 41 #[.slice none 0 0] (0, 0) _ rfl (blk_put (cs' := #[.slice none 0 0]) S4B.out 0 _ rfl) Try.underlying41 rfl (by kernel_rfl)) rfl ?_
          rw [HE'.out]
          exact ⟨_, rfl, FIN.out _ _ _ (below_step HB6.out HBB.out) (Kd.V_nil _ _ _ _ _)⟩)
end Go.Proofs.Ytfhgoebgnilfaaa.I
