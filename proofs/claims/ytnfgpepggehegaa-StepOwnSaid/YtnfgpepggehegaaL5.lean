/- Texts of this session's proof, laid together: IB1, I7, I9, I10. -/
import Derived.Test.YtnfgpepggehegaaL4
namespace Go.Proofs.Ytnfgpepggehegaa.I
open Go.RowKit Go.Proofs.YtnfgpepggehegaaW.PrintWords Go.Proofs.YtnfgpepggehegaaW.PrintLast Go.Proofs.YtnfgpepggehegaaW.PrintMore
attribute [local go_sem] max2_int min2_int max_two min_two max_three min_three max_four min_four   -- for this text's walks alone
set_option linter.unusedVariables false
set_option linter.unusedSimpArgs false
def virgationref01_begins.f (a0 : ByteArray) (a1 : Int) (a2 : ByteArray) : Option (Bool) := if (wrap64 ((a0.size : Int) - a1)) ≥ (a2.size : Int) then (if 0 ≤ a1 then (if a1 ≤ (wrap64 (a1 + (a2.size : Int))) then (if (wrap64 (a1 + (a2.size : Int))) ≤ (a0.size : Int) then (some ((a0.extract (a1 : Int).toNat ((wrap64 (a1 + (a2.size : Int))) : Int).toNat).toList == a2.toList)) else (none)) else (none)) else (none)) else (some false)
set_option maxHeartbeats 8000000 in
set_option maxRecDepth 100000 in
theorem virgationref01_begins.calls (a0 : ByteArray) (a1 : Int) (a2 : ByteArray) (r : Bool) (w : World) (h : virgationref01_begins.f a0 a1 a2 = some r) :
    Calls Try.prog 87 #[.string a0, .int .i64 a1, .string a2] w fun e w' => e = .returned (.bool r) ∧ Drawn0 w w' := by
  have H : (if (wrap64 ((a0.size : Int) - a1)) ≥ (a2.size : Int) then (if 0 ≤ a1 then (if a1 ≤ (wrap64 (a1 + (a2.size : Int))) then (if (wrap64 (a1 + (a2.size : Int))) ≤ (a0.size : Int) then (some ((a0.extract (a1 : Int).toNat ((wrap64 (a1 + (a2.size : Int))) : Int).toNat).toList == a2.toList)) else (none)) else (none)) else (none)) else (some false)) = some r := h
  clear h
  by_cases c4 : (wrap64 ((a0.size : Int) - a1)) ≥ (a2.size : Int)
  · rw [if_pos c4] at H
    have c4b0 : decide ((a2.size : Int) ≤ (wrap64 ((a0.size : Int) - a1))) = true := decide_eq_true c4
    clear c4
    by_cases c5 : 0 ≤ a1
    · rw [if_pos c5] at H
      have c5b0 := eq_true c5
      have c5b1 : decide (0 ≤ a1) = true := decide_eq_true c5
      clear c5
      by_cases c6 : a1 ≤ (wrap64 (a1 + (a2.size : Int)))
      · rw [if_pos c6] at H
        have c6b0 := eq_true c6
        have c6b1 : decide (a1 ≤ (wrap64 (a1 + (a2.size : Int)))) = true := decide_eq_true c6
        by_cases c7 : (wrap64 (a1 + (a2.size : Int))) ≤ (a0.size : Int)
        · rw [if_pos c7] at H
          have c7b0 := eq_true c7
          have c7b1 : decide ((wrap64 (a1 + (a2.size : Int))) ≤ (a0.size : Int)) = true := decide_eq_true c7
          obtain rfl := Option.some.inj H
          go_enter Try.func87, Try.ntmps87
          go_wp2
          go_ret
          exact ⟨by first | rfl | (simp; done) | (simp [*]; done), by repeat (first | exact Drawn0.refl _ | apply Drawn0.step)⟩
        · rw [if_neg c7] at H
          exact absurd H (by simp)
      · rw [if_neg c6] at H
        exact absurd H (by simp)
    · rw [if_neg c5] at H
      exact absurd H (by simp)
  · rw [if_neg c4] at H
    have c4b0 : decide ((a2.size : Int) ≤ (wrap64 ((a0.size : Int) - a1))) = false := decide_eq_false c4
    clear c4
    obtain rfl := Option.some.inj H
    go_enter Try.func87, Try.ntmps87
    go_wp2
    go_ret
    exact ⟨by first | rfl | (simp; done) | (simp [*]; done), by repeat (first | exact Drawn0.refl _ | apply Drawn0.step)⟩
mutual
def virgationref01_Parse.l0 : Nat → ByteArray → Int → List (S53) → Option ((List (S53)) × Int × Bool)
  | 0, _, _, _ => none
  | k + 1, x0, x1, x335000 => (virgationref01_begins.f x0 x1 (⟨#[111]⟩ : ByteArray)).bind fun t335 => (if t335 = true then ((virgationref01_begins.f x0 (wrap64 (x1 + 1)) (⟨#[32, 62, 32]⟩ : ByteArray)).bind fun t336 => (if t336 = true then (if x335000.length < 5864062014805 then (virgationref01_Parse.l0 k x0 (wrap64 ((wrap64 (x1 + 1)) + 3)) (x335000 ++ [(⟨([] : List (S53))⟩ : S53)])) else (none)) else (some (x335000, wrap64 (x1 + 1), true)))) else ((virgationref01_begins.f x0 x1 (⟨#[40]⟩ : ByteArray)).bind fun t340 => (if t340 = true then ((virgationref01_Parse.f k x0 (wrap64 (x1 + 1))).bind fun bt341 => (if bt341.2.2 = true then (if (bt341.1.length : Int) = 0 then (some (x335000, x1, false)) else ((virgationref01_begins.f x0 bt341.2.1 (⟨#[41, 32, 62, 32]⟩ : ByteArray)).bind fun t347 => (if t347 = true then (if x335000.length < 5864062014805 then (virgationref01_Parse.l0 k x0 (wrap64 (bt341.2.1 + 4)) (x335000 ++ [(⟨bt341.1⟩ : S53)])) else (none)) else (some (x335000, x1, false))))) else (some (x335000, x1, false)))) else (some (x335000, x1, false)))))
def virgationref01_Parse.f : Nat → ByteArray → Int → Option ((List (S53)) × Int × Bool)
  | 0, _, _ => none
  | k + 1, a0, a1 => virgationref01_Parse.l0 k a0 a1 ([] : List (S53))
end
set_option maxHeartbeats 8000000 in
set_option maxRecDepth 100000 in
theorem virgationref01_Parse.calls (k : Nat) : ∀ (a0 : ByteArray) (a1 : Int) (r1 : List (S53)) (r2 : Int) (r3 : Bool) (w : World) (h : virgationref01_Parse.f k a0 a1 = some (r1, r2, r3)),
    Calls Try.prog 80 #[.string a0, .int .i64 a1] w fun e w' => ∃ v0_ : Value, e = .returned (.tuple #[.agg #[v0_], .int .i64 r2, .bool r3]) ∧ Kd.R k53 53 w' w.heap.size (fun _ => True) v0_ r1 ∧ Below w.heap.size w w' := by
  induction k using Nat.strongRecOn with
  | _ k ih =>
  intro a0 a1 r1 r2 r3 w h
  cases k with
  | zero => exact absurd h (by simp [virgationref01_Parse.f])
  | succ k =>
  simp only [virgationref01_Parse.f] at h
  have hu53 := Try.underlying53
  have HB := Az.mk (Below.refl w.heap.size w)
  have H : (virgationref01_Parse.l0 k a0 a1 ([] : List (S53))) = some (r1, r2, r3) := h
  clear h
  have H' := Az.mk H
  clear H
  go_enter Try.func80, Try.ntmps80
  go_wp2_with (first | ((with_reducible refine gate_dst (N := 4) rfl ?_); (try (refine gate_guard (by rfl) ?_; dsimp only)); refine box_event ?hg (N := 4) ?hd (cs := #[.slice none 0 0]) (t := 53) ?hr ?_; (case hd => rfl); (case hg => rfl); (case hr => first | (go_simp; done) | (go_simp; rfl)); intro gb333 hg w3 hbox hb; have n0_ := Az.mk (bst (by repeat (first | (with_reducible first | exact HB.out | apply bal | apply pwN | apply bd1) | exact HB.out)) hb); have n1_ := Az.mk (hbox); have n2_ := Az.mk ((by rw [hg]; exact (below_size (by repeat (first | (with_reducible first | exact HB.out | apply bal | apply pwN | apply bd1) | exact HB.out))) : w.heap.size ≤ gb333)); have n3_ := Az.mk ((by rw [hg]; exact (below_size (by repeat (first | (with_reducible first | exact HB.out | apply bal | apply pwN | apply bd1) | exact HB.out))) : w.heap.size ≤ gb333)); clear HB; have HB := n0_; have BK333 := n1_; have GW333 := n2_; have GE333 := n3_; clear n0_ n1_ n2_ n3_; clear hb hbox hg) | ((with_reducible refine gate_dst (N := 7) rfl ?_); (try (refine gate_guard (by rfl) ?_; dsimp only)); refine box_event ?hg (N := 7) ?hd (cs := #[.slice none 0 0]) (t := 53) ?hr ?_; (case hd => rfl); (case hg => rfl); (case hr => first | (go_simp; done) | (go_simp; rfl)); intro gb334 hg w4 hbox hb; have n0_ := Az.mk (bkB (g := gb333) (o := .cells #[.slice none 0 0] 53 (0, 0)) (by (with_reducible repeat (first | refine bdN ?_ _ | refine blk_drew ?_ | refine bkA ?_ _)); exact BK333.out) hb); have n1_ := Az.mk (bst (by repeat (first | (with_reducible first | exact HB.out | apply bal | apply pwN | apply bd1 | refine bset ?_ GE333.out) | exact HB.out)) hb); have n2_ := Az.mk (hbox); have n3_ := Az.mk ((by rw [hg]; exact (below_size (by repeat (first | (with_reducible first | exact HB.out | apply bal | apply pwN | apply bd1 | refine bset ?_ GE333.out) | exact HB.out))) : w.heap.size ≤ gb334)); have n4_ := Az.mk ((by rw [hg]; exact (below_size (by repeat (first | (with_reducible first | exact HB.out | apply bal | apply pwN | apply bd1 | refine bset ?_ GE333.out) | exact HB.out))) : w.heap.size ≤ gb334)); have n5_ := Az.mk ((by rw [hg]; exact Nat.ne_of_lt (blk_lt (g := gb333) (o := .cells #[.slice none 0 0] 53 (0, 0)) (by (with_reducible repeat (first | refine bdN ?_ _ | refine blk_drew ?_ | refine bkA ?_ _)); exact BK333.out)) : gb333 ≠ gb334)); have n6_ := Az.mk ((by rw [hg]; exact Nat.ne_of_gt (blk_lt (g := gb333) (o := .cells #[.slice none 0 0] 53 (0, 0)) (by (with_reducible repeat (first | refine bdN ?_ _ | refine blk_drew ?_ | refine bkA ?_ _)); exact BK333.out)) : gb334 ≠ gb333)); clear BK333; clear HB; have BK333 := n0_; have HB := n1_; have BK334 := n2_; have GW334 := n3_; have GE334 := n4_; have NB333_334 := n5_; have NB334_333 := n6_; clear n0_ n1_ n2_ n3_ n4_ n5_ n6_; clear hb hbox hg))
  (try simp only [Act.put, List.setIfInBounds_toArray, List.set_cons_zero, List.set_cons_succ])
  go_loopg [1] k (fun kq v1 w' => ∃ (x1_1 : Int) (x335000_1 : List (S53)) (u335000 : Value), v1 = .int .i64 x1_1 ∧ Az (virgationref01_Parse.l0 kq a0 x1_1 x335000_1 = some (r1, r2, r3)) ∧ Az (kq ≤ k) ∧ Az (Kd.R k53 53 w' w.heap.size (fun k_ => k_ ≠ gb333 ∧ k_ ≠ gb334) u335000 x335000_1) ∧ Az (w'.heap[gb333]? = some (.cells #[(.slice none 0 0)] 53 (0, 0))) ∧ Az (w'.heap[gb334]? = some (.cells #[u335000] 53 (0, 0))) ∧ Az (Below w.heap.size w w'))
  case atStart => exact ⟨(a1), (([] : List (S53))), (.slice none 0 0), (by first | rfl | (simp; done) | (simp [*]; done)), H', ⟨Nat.le_refl _⟩, ⟨by first | exact Kd.R_nil _ _ _ _ _ | exact Kd.N_nil _ _ _ _ _ | exact Kd.V_nil _ _ _ _ _ | exact Kd.Q_nil _ _ _ _ _ | exact Kd.S_nil _ _ _ _ _⟩, ⟨by (with_reducible repeat (first | refine bdN ?_ _ | refine blk_drew ?_ | refine bkA ?_ _)); exact BK333.out⟩, ⟨by (with_reducible repeat (first | refine bdN ?_ _ | refine blk_drew ?_ | refine bkA ?_ _)); exact BK334.out⟩, ⟨by repeat (first | (with_reducible first | exact HB.out | apply bal | apply pwN | apply bd1 | refine bset ?_ GE333.out | refine bset ?_ GE334.out) | exact HB.out)⟩⟩
  case round =>
    clear H'
    try clear p2
    try clear c4
    obtain ⟨x1_1, x335000_1, u335000, rfl, HA, HK1, HO_335000, BK333, BK334, HB⟩ := hrel
    cases gk with
    | zero => exact absurd HA.out (by simp [virgationref01_Parse.l0])
    | succ k1 =>
      have H := HA.out
      clear HA
      simp only [virgationref01_Parse.l0] at H
      replace H := Option.bind_eq_some_iff.mp H
      obtain ⟨t335, A50, H⟩ := H
      replace H : (if t335 = true then ((virgationref01_begins.f a0 (wrap64 (x1_1 + 1)) (⟨#[32, 62, 32]⟩ : ByteArray)).bind fun t336 => (if t336 = true then (if x335000_1.length < 5864062014805 then (virgationref01_Parse.l0 k1 a0 (wrap64 ((wrap64 (x1_1 + 1)) + 3)) (x335000_1 ++ [(⟨([] : List (S53))⟩ : S53)])) else (none)) else (some (x335000_1, wrap64 (x1_1 + 1), true)))) else ((virgationref01_begins.f a0 x1_1 (⟨#[40]⟩ : ByteArray)).bind fun t340 => (if t340 = true then ((virgationref01_Parse.f k1 a0 (wrap64 (x1_1 + 1))).bind fun bt341 => (if bt341.2.2 = true then (if (bt341.1.length : Int) = 0 then (some (x335000_1, x1_1, false)) else ((virgationref01_begins.f a0 bt341.2.1 (⟨#[41, 32, 62, 32]⟩ : ByteArray)).bind fun t347 => (if t347 = true then (if x335000_1.length < 5864062014805 then (virgationref01_Parse.l0 k1 a0 (wrap64 (bt341.2.1 + 4)) (x335000_1 ++ [(⟨bt341.1⟩ : S53)])) else (none)) else (some (x335000_1, x1_1, false))))) else (some (x335000_1, x1_1, false)))) else (some (x335000_1, x1_1, false))))) = some (r1, r2, r3) := H
      have A5 := Az.mk A50
      clear A50
      by_cases c6 : t335 = true
      · subst c6
        have H1 : ((virgationref01_begins.f a0 (wrap64 (x1_1 + 1)) (⟨#[32, 62, 32]⟩ : ByteArray)).bind fun t336 => (if t336 = true then (if x335000_1.length < 5864062014805 then (virgationref01_Parse.l0 k1 a0 (wrap64 ((wrap64 (x1_1 + 1)) + 3)) (x335000_1 ++ [(⟨([] : List (S53))⟩ : S53)])) else (none)) else (some (x335000_1, wrap64 (x1_1 + 1), true)))) = some (r1, r2, r3) := by rw [if_pos rfl] at H; exact H
        clear H
        have H := H1
        clear H1
        replace H := Option.bind_eq_some_iff.mp H
        obtain ⟨t336, A70, H⟩ := H
        replace H : (if t336 = true then (if x335000_1.length < 5864062014805 then (virgationref01_Parse.l0 k1 a0 (wrap64 ((wrap64 (x1_1 + 1)) + 3)) (x335000_1 ++ [(⟨([] : List (S53))⟩ : S53)])) else (none)) else (some (x335000_1, wrap64 (x1_1 + 1), true))) = some (r1, r2, r3) := H
        have A7 := Az.mk A70
        clear A70
        by_cases c8 : t336 = true
        · subst c8
          have H1 : (if x335000_1.length < 5864062014805 then (virgationref01_Parse.l0 k1 a0 (wrap64 ((wrap64 (x1_1 + 1)) + 3)) (x335000_1 ++ [(⟨([] : List (S53))⟩ : S53)])) else (none)) = some (r1, r2, r3) := by rw [if_pos rfl] at H; exact H
          clear H
          have H := H1
          clear H1
          by_cases c9 : x335000_1.length < 5864062014805
          · rw [if_pos c9] at H
            have LMc9 := Az.mk c9
            clear c9
            obtain ⟨y337, hy337⟩ : ∃ y_ : List (S53), y_ = (x335000_1 ++ [(⟨([] : List (S53))⟩ : S53)]) := ⟨_, rfl⟩
            replace H : (virgationref01_Parse.l0 k1 a0 (wrap64 ((wrap64 (x1_1 + 1)) + 3)) y337) = some (r1, r2, r3) := by first | (rw [hy337]; with_reducible exact H) | (have H2_ := (Option.bind_some _ _).symm.trans H; rw [hy337]; with_reducible exact H2_) | (have H2_ := (Option.bind_some _ _).symm.trans H; with_reducible exact H2_) | with_reducible exact H | (rw [hy337]; exact H) | exact H
            have Ny337 := Az.mk hy337
            clear hy337
            have H' := Az.mk H
            clear H
            go_wp2_with (first | ((with_reducible refine gate_callee (f := 87) rfl ?_); refine goesL_ (some 13) rfl rfl Try.func87 (by kernel_rfl) rfl #[.string a0, .int .i64 x1_1, .string (⟨#[111]⟩ : ByteArray)] rfl (by (try simp only [List.map_toArray, List.map_cons, List.map_nil]); first | done | rfl | (simp only [List.length_drop, List.length_take]; rfl)) ?_; (with_reducible refine (virgationref01_begins.calls a0 x1_1 (⟨#[111]⟩ : ByteArray) true _ A5.out).mono ?_); rintro e w' ⟨rfl, ⟨nd, rfl⟩⟩; refine ⟨_, rfl, ?_⟩; (try (rw [drewN_self wr]; generalize hq_ : World.drewN wr _ = wr; have n0_ : Az (Kd.R k53 53 wr w.heap.size (fun k_ => k_ ≠ gb333 ∧ k_ ≠ gb334) u335000 x335000_1) := ⟨by rw [← hq_]; exact (by (with_reducible repeat (first | apply Kd.R_alloc | apply Kd.R_drewN | apply Kd.R_drew)); exact HO_335000.out)⟩; have n1_ : Az (wr.heap[gb333]? = some (.cells #[.slice none 0 0] 53 (0, 0))) := ⟨by rw [← hq_]; exact (by (with_reducible repeat (first | refine bdN ?_ _ | refine blk_drew ?_ | refine bkA ?_ _)); exact BK333.out)⟩; have n2_ : Az (wr.heap[gb334]? = some (.cells #[u335000] 53 (0, 0))) := ⟨by rw [← hq_]; exact (by (with_reducible repeat (first | refine bdN ?_ _ | refine blk_drew ?_ | refine bkA ?_ _)); exact BK334.out)⟩; have n3_ : Az (Below w.heap.size w wr) := ⟨by rw [← hq_]; exact (by repeat (first | (with_reducible first | exact HB.out | apply bal | apply pwN | apply bd1 | refine bset ?_ GE333.out | refine bset ?_ GE334.out) | exact HB.out))⟩; clear HO_335000 BK333 BK334 HB hq_; have HO_335000 := n0_; have BK333 := n1_; have BK334 := n2_; have HB := n3_; clear n0_ n1_ n2_ n3_))) | ((with_reducible refine gate_callee (f := 87) rfl ?_); refine goesL_ (some 18) rfl rfl Try.func87 (by kernel_rfl) rfl #[.string a0, .int .i64 (wrap64 (x1_1 + 1)), .string (⟨#[32, 62, 32]⟩ : ByteArray)] rfl (by (try simp only [List.map_toArray, List.map_cons, List.map_nil]); first | done | rfl | (simp only [List.length_drop, List.length_take]; rfl)) ?_; (with_reducible refine (virgationref01_begins.calls a0 (wrap64 (x1_1 + 1)) (⟨#[32, 62, 32]⟩ : ByteArray) true _ A7.out).mono ?_); rintro e w' ⟨rfl, ⟨nd, rfl⟩⟩; refine ⟨_, rfl, ?_⟩; (try (rw [drewN_self wr]; generalize hq_ : World.drewN wr _ = wr; have n0_ : Az (Kd.R k53 53 wr w.heap.size (fun k_ => k_ ≠ gb333 ∧ k_ ≠ gb334) u335000 x335000_1) := ⟨by rw [← hq_]; exact (by (with_reducible repeat (first | apply Kd.R_alloc | apply Kd.R_drewN | apply Kd.R_drew)); exact HO_335000.out)⟩; have n1_ : Az (wr.heap[gb333]? = some (.cells #[.slice none 0 0] 53 (0, 0))) := ⟨by rw [← hq_]; exact (by (with_reducible repeat (first | refine bdN ?_ _ | refine blk_drew ?_ | refine bkA ?_ _)); exact BK333.out)⟩; have n2_ : Az (wr.heap[gb334]? = some (.cells #[u335000] 53 (0, 0))) := ⟨by rw [← hq_]; exact (by (with_reducible repeat (first | refine bdN ?_ _ | refine blk_drew ?_ | refine bkA ?_ _)); exact BK334.out)⟩; have n3_ : Az (Below w.heap.size w wr) := ⟨by rw [← hq_]; exact (by repeat (first | (with_reducible first | exact HB.out | apply bal | apply pwN | apply bd1 | refine bset ?_ GE333.out | refine bset ?_ GE334.out) | exact HB.out))⟩; clear HO_335000 BK333 BK334 HB hq_; have HO_335000 := n0_; have BK333 := n1_; have BK334 := n2_; have HB := n3_; clear n0_ n1_ n2_ n3_)); have hnb10 := NB334_333.out; have hnc10 := NB333_334.out; have hcz11_0 : wr.cell? ⟨gb334, 0, none⟩ = some (u335000) := (blk_cell BK334.out 0).trans rfl; have hfz11_0 := bkF BK334.out 0) | ((with_reducible refine gate_builtin (b := .append) (xs := #[.tmp 23, .tmp 25]) rfl ?_); (try (refine gate_guard (by rfl) ?_; dsimp only)); at_builtin; refine Kd.R_append k53 (w0 := w) w.heap.size rfl (.tmp 23) (.tmp 25) 51 53 (.agg #[(.slice none 0 0)]) 24 rfl Try.underlying51 info53 rfl (by decide) (by omega) u335000 x335000_1 (⟨([] : List (S53))⟩ : S53) [.slice none 0 0] (fun k_ => k_ ≠ gb333 ∧ k_ ≠ gb334) (fun k_ => ((fun k_ => k_ ≠ gb333 ∧ k_ ≠ gb334)) k_ ∧ some k_ ≠ (u335000 : Value).ownBlock) rfl rfl ?aP (fun _ hk => hk) ?aF ?aO ?aB ?aS ?aL ?_; (case aP => exact k53_mkM _ _ _ (⟨([] : List (S53))⟩ : S53) (Kd.R_nil _ _ _ _ _)); (case aB => exact (by repeat (first | (with_reducible first | exact HB.out | apply bal | apply pwN | apply bd1 | refine bset ?_ GE333.out | refine bset ?_ GE334.out) | exact HB.out))); (case aF => exact (fun k_ hk => ⟨Kd.freshB (g := gb333) (o := .cells #[.slice none 0 0] 53 (0, 0)) (by (with_reducible repeat (first | refine bdN ?_ _ | refine blk_drew ?_ | refine bkA ?_ _)); exact BK333.out) k_ hk, Kd.freshB (g := gb334) (o := .cells #[u335000] 53 (0, 0)) (by (with_reducible repeat (first | refine bdN ?_ _ | refine blk_drew ?_ | refine bkA ?_ _)); exact BK334.out) k_ hk⟩)); (case aO => exact (by (with_reducible repeat (first | apply Kd.R_alloc | apply Kd.R_drewN | apply Kd.R_drew)); exact HO_335000.out)); (case aS => exact (below_size (by repeat (first | (with_reducible first | exact HB.out | apply bal | apply pwN | apply bd1 | refine bset ?_ GE333.out | refine bset ?_ GE334.out) | exact HB.out)))); (case aL => have := LMc9.out; omega); intro v338 w12 ho hb hg hat; rw [← Ny337.out] at ho; have n0_ := Az.mk (blk_grown (g := gb333) (o := .cells #[.slice none 0 0] 53 (0, 0)) (by (with_reducible repeat (first | refine bdN ?_ _ | refine blk_drew ?_ | refine bkA ?_ _)); exact BK333.out) hg (Kd.R_away HO_335000.out (fun _ hk => hk.1))); have n1_ := Az.mk (blk_grown (g := gb334) (o := .cells #[u335000] 53 (0, 0)) (by (with_reducible repeat (first | refine bdN ?_ _ | refine blk_drew ?_ | refine bkA ?_ _)); exact BK334.out) hg (Kd.R_away HO_335000.out (fun _ hk => hk.2))); have n2_ := Az.mk (hb); have n3_ := Az.mk (ho); clear BK333; clear BK334; clear HB; clear HO_335000; have BK333 := n0_; have BK334 := n1_; have HB := n2_; have HO339 := n3_; clear n0_ n1_ n2_ n3_; clear ho hb hg hat; obtain ⟨Ao13, co13, eo13⟩ := Kd.R_slice HO339.out; subst eo13; have hcz14_0 : w12.cell? ⟨gb334, 0, none⟩ = some (u335000) := (blk_cell BK334.out 0).trans rfl; have hfz14_0 := bkF BK334.out 0))
            go_roundg k1
            case measure => have := HK1.out; omega
            case rel => exact ⟨(wrap64 ((wrap64 (x1_1 + 1)) + 3)), (y337), (.slice Ao13 y337.length co13), (by first | rfl | (simp; done) | (simp [*]; done)), H', ⟨by have := HK1.out; omega⟩, ⟨by (with_reducible repeat (first | apply Kd.R_alloc | apply Kd.R_drewN | apply Kd.R_drew)); exact Kd.R_mono (Kd.R_far (p := ⟨gb334, 0, none⟩) (Kd.R_mono HO339.out (fun k_ hk => (⟨hk, hk.2⟩ : _ ∧ k_ ≠ gb334))) (fun _ hk => hk.2) (.slice Ao13 y337.length co13)) (fun _ hk => ⟨hk.1.1, hk.1.2⟩)⟩, ⟨by (with_reducible repeat (first | refine bdN ?_ _ | refine blk_drew ?_ | refine bkA ?_ _)); refine blk_far ?_ NB333_334.out _; (with_reducible repeat (first | refine bdN ?_ _ | refine blk_drew ?_ | refine bkA ?_ _)); exact BK333.out⟩, ⟨by (with_reducible repeat (first | refine bdN ?_ _ | refine blk_drew ?_ | refine bkA ?_ _)); refine blk_put (cs := #[u335000]) ?_ 0 _ rfl; (with_reducible repeat (first | refine bdN ?_ _ | refine blk_drew ?_ | refine bkA ?_ _)); exact BK334.out⟩, ⟨by repeat (first | (with_reducible first | exact HB.out | apply bal | apply pwN | apply bd1 | refine bset ?_ GE333.out | refine bset ?_ GE334.out) | exact HB.out)⟩⟩
          · rw [if_neg c9] at H
            exact absurd H (by simp)
        · replace c8 := Bool.eq_false_iff.mpr c8
          subst c8
          have H1 : (some (x335000_1, wrap64 (x1_1 + 1), true)) = some (r1, r2, r3) := by rw [if_neg (show ¬ (false = true) by decide)] at H; exact H
          clear H
          have H := H1
          clear H1
          simp only [Option.some.injEq, Prod.mk.injEq] at H
          obtain ⟨rfl, rfl, rfl⟩ := H
          go_wp2_with (first | ((with_reducible refine gate_callee (f := 87) rfl ?_); refine goesL_ (some 13) rfl rfl Try.func87 (by kernel_rfl) rfl #[.string a0, .int .i64 x1_1, .string (⟨#[111]⟩ : ByteArray)] rfl (by (try simp only [List.map_toArray, List.map_cons, List.map_nil]); first | done | rfl | (simp only [List.length_drop, List.length_take]; rfl)) ?_; (with_reducible refine (virgationref01_begins.calls a0 x1_1 (⟨#[111]⟩ : ByteArray) true _ A5.out).mono ?_); rintro e w' ⟨rfl, ⟨nd, rfl⟩⟩; refine ⟨_, rfl, ?_⟩; (try (rw [drewN_self wr]; generalize hq_ : World.drewN wr _ = wr; have n0_ : Az (Kd.R k53 53 wr w.heap.size (fun k_ => k_ ≠ gb333 ∧ k_ ≠ gb334) u335000 x335000_1) := ⟨by rw [← hq_]; exact (by (with_reducible repeat (first | apply Kd.R_alloc | apply Kd.R_drewN | apply Kd.R_drew)); exact HO_335000.out)⟩; have n1_ : Az (wr.heap[gb333]? = some (.cells #[.slice none 0 0] 53 (0, 0))) := ⟨by rw [← hq_]; exact (by (with_reducible repeat (first | refine bdN ?_ _ | refine blk_drew ?_ | refine bkA ?_ _)); exact BK333.out)⟩; have n2_ : Az (wr.heap[gb334]? = some (.cells #[u335000] 53 (0, 0))) := ⟨by rw [← hq_]; exact (by (with_reducible repeat (first | refine bdN ?_ _ | refine blk_drew ?_ | refine bkA ?_ _)); exact BK334.out)⟩; have n3_ : Az (Below w.heap.size w wr) := ⟨by rw [← hq_]; exact (by repeat (first | (with_reducible first | exact HB.out | apply bal | apply pwN | apply bd1 | refine bset ?_ GE333.out | refine bset ?_ GE334.out) | exact HB.out))⟩; clear HO_335000 BK333 BK334 HB hq_; have HO_335000 := n0_; have BK333 := n1_; have BK334 := n2_; have HB := n3_; clear n0_ n1_ n2_ n3_))) | ((with_reducible refine gate_callee (f := 87) rfl ?_); refine goesL_ (some 18) rfl rfl Try.func87 (by kernel_rfl) rfl #[.string a0, .int .i64 (wrap64 (x1_1 + 1)), .string (⟨#[32, 62, 32]⟩ : ByteArray)] rfl (by (try simp only [List.map_toArray, List.map_cons, List.map_nil]); first | done | rfl | (simp only [List.length_drop, List.length_take]; rfl)) ?_; (with_reducible refine (virgationref01_begins.calls a0 (wrap64 (x1_1 + 1)) (⟨#[32, 62, 32]⟩ : ByteArray) false _ A7.out).mono ?_); rintro e w' ⟨rfl, ⟨nd, rfl⟩⟩; refine ⟨_, rfl, ?_⟩; (try (rw [drewN_self wr]; generalize hq_ : World.drewN wr _ = wr; have n0_ : Az (Kd.R k53 53 wr w.heap.size (fun k_ => k_ ≠ gb333 ∧ k_ ≠ gb334) u335000 x335000_1) := ⟨by rw [← hq_]; exact (by (with_reducible repeat (first | apply Kd.R_alloc | apply Kd.R_drewN | apply Kd.R_drew)); exact HO_335000.out)⟩; have n1_ : Az (wr.heap[gb333]? = some (.cells #[.slice none 0 0] 53 (0, 0))) := ⟨by rw [← hq_]; exact (by (with_reducible repeat (first | refine bdN ?_ _ | refine blk_drew ?_ | refine bkA ?_ _)); exact BK333.out)⟩; have n2_ : Az (wr.heap[gb334]? = some (.cells #[u335000] 53 (0, 0))) := ⟨by rw [← hq_]; exact (by (with_reducible repeat (first | refine bdN ?_ _ | refine blk_drew ?_ | refine bkA ?_ _)); exact BK334.out)⟩; have n3_ : Az (Below w.heap.size w wr) := ⟨by rw [← hq_]; exact (by repeat (first | (with_reducible first | exact HB.out | apply bal | apply pwN | apply bd1 | refine bset ?_ GE333.out | refine bset ?_ GE334.out) | exact HB.out))⟩; clear HO_335000 BK333 BK334 HB hq_; have HO_335000 := n0_; have BK333 := n1_; have BK334 := n2_; have HB := n3_; clear n0_ n1_ n2_ n3_)); have hnb15 := NB334_333.out; have hnc15 := NB333_334.out; have hcz16_0 : wr.cell? ⟨gb334, 0, none⟩ = some (u335000) := (blk_cell BK334.out 0).trans rfl; have hfz16_0 := bkF BK334.out 0; obtain ⟨Ao17, co17, eo17⟩ := Kd.R_slice HO_335000.out; subst eo17; have hcz18_0 : wr.cell? ⟨gb333, 0, none⟩ = some (.slice none 0 0) := (blk_cell BK333.out 0).trans rfl; have hfz18_0 := bkF BK333.out 0))
          refine bodyPost_ret (results_ctt rfl _ _ gb333 53 #[.slice Ao17 x335000_1.length co17] (0, 0) _ rfl (by (with_reducible repeat (first | refine bdN ?_ _ | refine blk_drew ?_ | refine bkA ?_ _)); refine blk_put (cs := #[.slice none 0 0]) ?_ 0 _ rfl; (with_reducible repeat (first | refine bdN ?_ _ | refine blk_drew ?_ | refine bkA ?_ _)); exact BK333.out) Try.underlying53 rfl (by kernel_rfl)) rfl ?_
          exact ⟨_, by first | rfl | (simp [errW_none, errW_some] <;> rfl) | (simp [*, errW_none, errW_some] <;> rfl), by (with_reducible repeat (first | apply Kd.R_alloc | apply Kd.R_drewN | apply Kd.R_drew)); exact Kd.R_mono (Kd.R_far (p := ⟨gb333, 0, none⟩) (Kd.R_mono HO_335000.out (fun k_ hk => (⟨hk, hk.1⟩ : _ ∧ k_ ≠ gb333))) (fun _ hk => hk.2) (.slice Ao17 x335000_1.length co17)) (fun _ hk => trivial), by repeat (first | (with_reducible first | exact HB.out | apply bal | apply pwN | apply bd1 | refine bset ?_ GE333.out | refine bset ?_ GE334.out) | exact HB.out)⟩
      · replace c6 := Bool.eq_false_iff.mpr c6
        subst c6
        have H1 : ((virgationref01_begins.f a0 x1_1 (⟨#[40]⟩ : ByteArray)).bind fun t340 => (if t340 = true then ((virgationref01_Parse.f k1 a0 (wrap64 (x1_1 + 1))).bind fun bt341 => (if bt341.2.2 = true then (if (bt341.1.length : Int) = 0 then (some (x335000_1, x1_1, false)) else ((virgationref01_begins.f a0 bt341.2.1 (⟨#[41, 32, 62, 32]⟩ : ByteArray)).bind fun t347 => (if t347 = true then (if x335000_1.length < 5864062014805 then (virgationref01_Parse.l0 k1 a0 (wrap64 (bt341.2.1 + 4)) (x335000_1 ++ [(⟨bt341.1⟩ : S53)])) else (none)) else (some (x335000_1, x1_1, false))))) else (some (x335000_1, x1_1, false)))) else (some (x335000_1, x1_1, false)))) = some (r1, r2, r3) := by rw [if_neg (show ¬ (false = true) by decide)] at H; exact H
        clear H
        have H := H1
        clear H1
        replace H := Option.bind_eq_some_iff.mp H
        obtain ⟨t340, A190, H⟩ := H
        replace H : (if t340 = true then ((virgationref01_Parse.f k1 a0 (wrap64 (x1_1 + 1))).bind fun bt341 => (if bt341.2.2 = true then (if (bt341.1.length : Int) = 0 then (some (x335000_1, x1_1, false)) else ((virgationref01_begins.f a0 bt341.2.1 (⟨#[41, 32, 62, 32]⟩ : ByteArray)).bind fun t347 => (if t347 = true then (if x335000_1.length < 5864062014805 then (virgationref01_Parse.l0 k1 a0 (wrap64 (bt341.2.1 + 4)) (x335000_1 ++ [(⟨bt341.1⟩ : S53)])) else (none)) else (some (x335000_1, x1_1, false))))) else (some (x335000_1, x1_1, false)))) else (some (x335000_1, x1_1, false))) = some (r1, r2, r3) := H
        have A19 := Az.mk A190
        clear A190
        by_cases c20 : t340 = true
        · subst c20
          have H1 : ((virgationref01_Parse.f k1 a0 (wrap64 (x1_1 + 1))).bind fun bt341 => (if bt341.2.2 = true then (if (bt341.1.length : Int) = 0 then (some (x335000_1, x1_1, false)) else ((virgationref01_begins.f a0 bt341.2.1 (⟨#[41, 32, 62, 32]⟩ : ByteArray)).bind fun t347 => (if t347 = true then (if x335000_1.length < 5864062014805 then (virgationref01_Parse.l0 k1 a0 (wrap64 (bt341.2.1 + 4)) (x335000_1 ++ [(⟨bt341.1⟩ : S53)])) else (none)) else (some (x335000_1, x1_1, false))))) else (some (x335000_1, x1_1, false)))) = some (r1, r2, r3) := by rw [if_pos rfl] at H; exact H
          clear H
          have H := H1
          clear H1
          replace H := Option.bind_eq_some_iff.mp H
          obtain ⟨⟨t341, t344, t345⟩, A210, H⟩ := H
          replace H : (if t345 = true then (if (t341.length : Int) = 0 then (some (x335000_1, x1_1, false)) else ((virgationref01_begins.f a0 t344 (⟨#[41, 32, 62, 32]⟩ : ByteArray)).bind fun t347 => (if t347 = true then (if x335000_1.length < 5864062014805 then (virgationref01_Parse.l0 k1 a0 (wrap64 (t344 + 4)) (x335000_1 ++ [(⟨t341⟩ : S53)])) else (none)) else (some (x335000_1, x1_1, false))))) else (some (x335000_1, x1_1, false))) = some (r1, r2, r3) := H
          have A21 := Az.mk A210
          clear A210
          by_cases c22 : t345 = true
          · subst c22
            have H1 : (if (t341.length : Int) = 0 then (some (x335000_1, x1_1, false)) else ((virgationref01_begins.f a0 t344 (⟨#[41, 32, 62, 32]⟩ : ByteArray)).bind fun t347 => (if t347 = true then (if x335000_1.length < 5864062014805 then (virgationref01_Parse.l0 k1 a0 (wrap64 (t344 + 4)) (x335000_1 ++ [(⟨t341⟩ : S53)])) else (none)) else (some (x335000_1, x1_1, false))))) = some (r1, r2, r3) := by rw [if_pos rfl] at H; exact H
            clear H
            have H := H1
            clear H1
            by_cases c23 : (t341.length : Int) = 0
            · rw [if_pos c23] at H
              have c23b0 : ((t341.length : Int) == 0) = true := beq_iff_eq.mpr c23
              have c23b1 : ((t341.length : Int) != 0) = false := bne_eq_false_iff_eq.mpr c23
              clear c23
              simp only [Option.some.injEq, Prod.mk.injEq] at H
              obtain ⟨rfl, rfl, rfl⟩ := H
              go_wp2_with (first | ((with_reducible refine gate_callee (f := 87) rfl ?_); refine goesL_ (some 13) rfl rfl Try.func87 (by kernel_rfl) rfl #[.string a0, .int .i64 x1_1, .string (⟨#[111]⟩ : ByteArray)] rfl (by (try simp only [List.map_toArray, List.map_cons, List.map_nil]); first | done | rfl | (simp only [List.length_drop, List.length_take]; rfl)) ?_; (with_reducible refine (virgationref01_begins.calls a0 x1_1 (⟨#[111]⟩ : ByteArray) false _ A5.out).mono ?_); rintro e w' ⟨rfl, ⟨nd, rfl⟩⟩; refine ⟨_, rfl, ?_⟩; (try (rw [drewN_self wr]; generalize hq_ : World.drewN wr _ = wr; have n0_ : Az (Kd.R k53 53 wr w.heap.size (fun k_ => k_ ≠ gb333 ∧ k_ ≠ gb334) u335000 x335000_1) := ⟨by rw [← hq_]; exact (by (with_reducible repeat (first | apply Kd.R_alloc | apply Kd.R_drewN | apply Kd.R_drew)); exact HO_335000.out)⟩; have n1_ : Az (wr.heap[gb333]? = some (.cells #[.slice none 0 0] 53 (0, 0))) := ⟨by rw [← hq_]; exact (by (with_reducible repeat (first | refine bdN ?_ _ | refine blk_drew ?_ | refine bkA ?_ _)); exact BK333.out)⟩; have n2_ : Az (wr.heap[gb334]? = some (.cells #[u335000] 53 (0, 0))) := ⟨by rw [← hq_]; exact (by (with_reducible repeat (first | refine bdN ?_ _ | refine blk_drew ?_ | refine bkA ?_ _)); exact BK334.out)⟩; have n3_ : Az (Below w.heap.size w wr) := ⟨by rw [← hq_]; exact (by repeat (first | (with_reducible first | exact HB.out | apply bal | apply pwN | apply bd1 | refine bset ?_ GE333.out | refine bset ?_ GE334.out) | exact HB.out))⟩; clear HO_335000 BK333 BK334 HB hq_; have HO_335000 := n0_; have BK333 := n1_; have BK334 := n2_; have HB := n3_; clear n0_ n1_ n2_ n3_))) | ((with_reducible refine gate_callee (f := 87) rfl ?_); refine goesL_ (some 32) rfl rfl Try.func87 (by kernel_rfl) rfl #[.string a0, .int .i64 x1_1, .string (⟨#[40]⟩ : ByteArray)] rfl (by (try simp only [List.map_toArray, List.map_cons, List.map_nil]); first | done | rfl | (simp only [List.length_drop, List.length_take]; rfl)) ?_; (with_reducible refine (virgationref01_begins.calls a0 x1_1 (⟨#[40]⟩ : ByteArray) true _ A19.out).mono ?_); rintro e w' ⟨rfl, ⟨nd, rfl⟩⟩; refine ⟨_, rfl, ?_⟩; (try (rw [drewN_self wr]; generalize hq_ : World.drewN wr _ = wr; have n0_ : Az (Kd.R k53 53 wr w.heap.size (fun k_ => k_ ≠ gb333 ∧ k_ ≠ gb334) u335000 x335000_1) := ⟨by rw [← hq_]; exact (by (with_reducible repeat (first | apply Kd.R_alloc | apply Kd.R_drewN | apply Kd.R_drew)); exact HO_335000.out)⟩; have n1_ : Az (wr.heap[gb333]? = some (.cells #[.slice none 0 0] 53 (0, 0))) := ⟨by rw [← hq_]; exact (by (with_reducible repeat (first | refine bdN ?_ _ | refine blk_drew ?_ | refine bkA ?_ _)); exact BK333.out)⟩; have n2_ : Az (wr.heap[gb334]? = some (.cells #[u335000] 53 (0, 0))) := ⟨by rw [← hq_]; exact (by (with_reducible repeat (first | refine bdN ?_ _ | refine blk_drew ?_ | refine bkA ?_ _)); exact BK334.out)⟩; have n3_ : Az (Below w.heap.size w wr) := ⟨by rw [← hq_]; exact (by repeat (first | (with_reducible first | exact HB.out | apply bal | apply pwN | apply bd1 | refine bset ?_ GE333.out | refine bset ?_ GE334.out) | exact HB.out))⟩; clear HO_335000 BK333 BK334 HB hq_; have HO_335000 := n0_; have BK333 := n1_; have BK334 := n2_; have HB := n3_; clear n0_ n1_ n2_ n3_))) | ((with_reducible refine gate_callee (f := 80) rfl ?_); refine goesL_ (some 40) rfl rfl Try.func80 (by kernel_rfl) rfl #[.string a0, .int .i64 (wrap64 (x1_1 + 1))] rfl (by (try simp only [List.map_toArray, List.map_cons, List.map_nil]); first | done | rfl | (simp only [List.length_drop, List.length_take]; rfl)) ?_; (with_reducible refine (ih k1 (by have := HK1.out; omega) a0 (wrap64 (x1_1 + 1)) t341 t344 true _ A21.out).mono ?_); rintro e w24 ⟨v342, rfl, ho0, hb⟩; refine ⟨_, rfl, ?_⟩; have n0_ := Az.mk (Kd.R_elder' (by (with_reducible repeat (first | apply Kd.R_alloc | apply Kd.R_drewN | apply Kd.R_drew)); exact HO_335000.out) (Kd.R_base ho0) hb); have n1_ := Az.mk (Kd.R_lower (Kd.R_newB (Kd.R_newB (Kd.R_new' ho0 (Kd.R_lt (by (with_reducible repeat (first | apply Kd.R_alloc | apply Kd.R_drewN | apply Kd.R_drew)); exact HO_335000.out))) (g := gb333) (o := .cells #[.slice none 0 0] 53 (0, 0)) (by (with_reducible repeat (first | refine bdN ?_ _ | refine blk_drew ?_ | refine bkA ?_ _)); exact BK333.out)) (g := gb334) (o := .cells #[u335000] 53 (0, 0)) (by (with_reducible repeat (first | refine bdN ?_ _ | refine blk_drew ?_ | refine bkA ?_ _)); exact BK334.out)) (below_size (by repeat (first | (with_reducible first | exact HB.out | apply bal | apply pwN | apply bd1 | refine bset ?_ GE333.out | refine bset ?_ GE334.out) | exact HB.out)))); have n2_ := Az.mk (bkB (g := gb333) (o := .cells #[.slice none 0 0] 53 (0, 0)) (by (with_reducible repeat (first | refine bdN ?_ _ | refine blk_drew ?_ | refine bkA ?_ _)); exact BK333.out) hb); have n3_ := Az.mk (bkB (g := gb334) (o := .cells #[u335000] 53 (0, 0)) (by (with_reducible repeat (first | refine bdN ?_ _ | refine blk_drew ?_ | refine bkA ?_ _)); exact BK334.out) hb); have n4_ := Az.mk (bst (by repeat (first | (with_reducible first | exact HB.out | apply bal | apply pwN | apply bd1 | refine bset ?_ GE333.out | refine bset ?_ GE334.out) | exact HB.out)) hb); clear HO_335000; clear BK333; clear BK334; clear HB; have HO_335000 := n0_; have HO343 := n1_; have BK333 := n2_; have BK334 := n3_; have HB := n4_; clear n0_ n1_ n2_ n3_ n4_; (try clear hb); (try clear hb2); (try clear hk); (try clear hi); (try clear ho0)) | ((with_reducible refine gate_dst (N := 8) rfl ?_); (try (refine gate_guard (by rfl) ?_; dsimp only)); refine box_event ?hg (N := 8) ?hd (cs := #[.slice none 0 0]) (t := 53) ?hr ?_; (case hd => rfl); (case hg => rfl); (case hr => first | (go_simp; done) | (go_simp; rfl)); intro gb346 hg w25 hbox hb; have n0_ := Az.mk (Kd.R_below (Kd.R_elderB (by (with_reducible repeat (first | apply Kd.R_alloc | apply Kd.R_drewN | apply Kd.R_drew)); exact HO_335000.out) gb346 (Nat.le_of_eq hg.symm)) hb); have n1_ := Az.mk (Kd.R_below (Kd.R_elderB (by (with_reducible repeat (first | apply Kd.R_alloc | apply Kd.R_drewN | apply Kd.R_drew)); exact HO343.out) gb346 (Nat.le_of_eq hg.symm)) hb); have n2_ := Az.mk (bkB (g := gb333) (o := .cells #[.slice none 0 0] 53 (0, 0)) (by (with_reducible repeat (first | refine bdN ?_ _ | refine blk_drew ?_ | refine bkA ?_ _)); exact BK333.out) hb); have n3_ := Az.mk (bkB (g := gb334) (o := .cells #[u335000] 53 (0, 0)) (by (with_reducible repeat (first | refine bdN ?_ _ | refine blk_drew ?_ | refine bkA ?_ _)); exact BK334.out) hb); have n4_ := Az.mk (bst (by repeat (first | (with_reducible first | exact HB.out | apply bal | apply pwN | apply bd1 | refine bset ?_ GE333.out | refine bset ?_ GE334.out) | exact HB.out)) hb); have n5_ := Az.mk (hbox); have n6_ := Az.mk ((by rw [hg]; exact (below_size (by repeat (first | (with_reducible first | exact HB.out | apply bal | apply pwN | apply bd1 | refine bset ?_ GE333.out | refine bset ?_ GE334.out) | exact HB.out))) : w.heap.size ≤ gb346)); have n7_ := Az.mk ((by rw [hg]; exact (below_size (by repeat (first | (with_reducible first | exact HB.out | apply bal | apply pwN | apply bd1 | refine bset ?_ GE333.out | refine bset ?_ GE334.out) | exact HB.out))) : w.heap.size ≤ gb346)); have n8_ := Az.mk ((by rw [hg]; exact Nat.ne_of_lt (blk_lt (g := gb333) (o := .cells #[.slice none 0 0] 53 (0, 0)) (by (with_reducible repeat (first | refine bdN ?_ _ | refine blk_drew ?_ | refine bkA ?_ _)); exact BK333.out)) : gb333 ≠ gb346)); have n9_ := Az.mk ((by rw [hg]; exact Nat.ne_of_gt (blk_lt (g := gb333) (o := .cells #[.slice none 0 0] 53 (0, 0)) (by (with_reducible repeat (first | refine bdN ?_ _ | refine blk_drew ?_ | refine bkA ?_ _)); exact BK333.out)) : gb346 ≠ gb333)); have n10_ := Az.mk ((by rw [hg]; exact Nat.ne_of_lt (blk_lt (g := gb334) (o := .cells #[u335000] 53 (0, 0)) (by (with_reducible repeat (first | refine bdN ?_ _ | refine blk_drew ?_ | refine bkA ?_ _)); exact BK334.out)) : gb334 ≠ gb346)); have n11_ := Az.mk ((by rw [hg]; exact Nat.ne_of_gt (blk_lt (g := gb334) (o := .cells #[u335000] 53 (0, 0)) (by (with_reducible repeat (first | refine bdN ?_ _ | refine blk_drew ?_ | refine bkA ?_ _)); exact BK334.out)) : gb346 ≠ gb334)); clear HO_335000; clear HO343; clear BK333; clear BK334; clear HB; have HO_335000 := n0_; have HO343 := n1_; have BK333 := n2_; have BK334 := n3_; have HB := n4_; have BK346 := n5_; have GW346 := n6_; have GE346 := n7_; have NB333_346 := n8_; have NB346_333 := n9_; have NB334_346 := n10_; have NB346_334 := n11_; clear n0_ n1_ n2_ n3_ n4_ n5_ n6_ n7_ n8_ n9_ n10_ n11_; clear hb hbox hg; obtain ⟨Ao26, co26, eo26⟩ := Kd.R_slice HO343.out; subst eo26; have hnb27 := NB346_333.out; have hnc27 := NB333_346.out; have hnb28 := NB346_334.out; have hnc28 := NB334_346.out; have hcz29_0 : w25.cell? ⟨gb346, 0, none⟩ = some (.slice none 0 0) := (blk_cell BK346.out 0).trans rfl; have hfz29_0 := bkF BK346.out 0; have hnb30 := NB334_333.out; have hnc30 := NB333_334.out; have hcz31_0 : w25.cell? ⟨gb334, 0, none⟩ = some (u335000) := (blk_cell BK334.out 0).trans rfl; have hfz31_0 := bkF BK334.out 0; obtain ⟨Ao32, co32, eo32⟩ := Kd.R_slice HO_335000.out; subst eo32; have hcz33_0 : w25.cell? ⟨gb333, 0, none⟩ = some (.slice none 0 0) := (blk_cell BK333.out 0).trans rfl; have hfz33_0 := bkF BK333.out 0))
              refine bodyPost_ret (results_ctt rfl _ _ gb333 53 #[.slice Ao32 x335000_1.length co32] (0, 0) _ rfl (by (with_reducible repeat (first | refine bdN ?_ _ | refine blk_drew ?_ | refine bkA ?_ _)); refine blk_put (cs := #[.slice none 0 0]) ?_ 0 _ rfl; (with_reducible repeat (first | refine bdN ?_ _ | refine blk_drew ?_ | refine bkA ?_ _)); refine blk_far ?_ NB333_346.out _; (with_reducible repeat (first | refine bdN ?_ _ | refine blk_drew ?_ | refine bkA ?_ _)); exact BK333.out) Try.underlying53 rfl (by kernel_rfl)) rfl ?_
              exact ⟨_, by first | rfl | (simp [errW_none, errW_some] <;> rfl) | (simp [*, errW_none, errW_some] <;> rfl), by (with_reducible repeat (first | apply Kd.R_alloc | apply Kd.R_drewN | apply Kd.R_drew)); exact Kd.R_mono (Kd.R_far (p := ⟨gb333, 0, none⟩) (Kd.R_far (p := ⟨gb346, 0, none⟩) (Kd.R_mono (Kd.R_mono HO_335000.out (fun k_ hk => (⟨hk, hk.2⟩ : _ ∧ k_ ≠ gb346))) (fun k_ hk => (⟨hk, hk.1.1.1.1⟩ : _ ∧ k_ ≠ gb333))) (fun _ hk => hk.1.2) (.slice Ao26 t341.length co26)) (fun _ hk => hk.2) (.slice Ao32 x335000_1.length co32)) (fun _ hk => trivial), by repeat (first | (with_reducible first | exact HB.out | apply bal | apply pwN | apply bd1 | refine bset ?_ GE333.out | refine bset ?_ GE334.out | refine bset ?_ GE346.out) | exact HB.out)⟩
            · rw [if_neg c23] at H
              have c23b0 : ((t341.length : Int) == 0) = false := beq_eq_false_iff_ne.mpr c23
              have c23b1 : ((t341.length : Int) != 0) = true := bne_iff_ne.mpr c23
              have c23b2 : ¬ (t341 = []) := fun h_ => c23 (by rw [h_]; rfl)
              replace H := Option.bind_eq_some_iff.mp H
              obtain ⟨t347, A340, H⟩ := H
              replace H : (if t347 = true then (if x335000_1.length < 5864062014805 then (virgationref01_Parse.l0 k1 a0 (wrap64 (t344 + 4)) (x335000_1 ++ [(⟨t341⟩ : S53)])) else (none)) else (some (x335000_1, x1_1, false))) = some (r1, r2, r3) := H
              have A34 := Az.mk A340
              clear A340
              by_cases c35 : t347 = true
              · subst c35
                have H1 : (if x335000_1.length < 5864062014805 then (virgationref01_Parse.l0 k1 a0 (wrap64 (t344 + 4)) (x335000_1 ++ [(⟨t341⟩ : S53)])) else (none)) = some (r1, r2, r3) := by rw [if_pos rfl] at H; exact H
                clear H
                have H := H1
                clear H1
                by_cases c36 : x335000_1.length < 5864062014805
                · rw [if_pos c36] at H
                  have LMc36 := Az.mk c36
                  clear c36
                  obtain ⟨y348, hy348⟩ : ∃ y_ : List (S53), y_ = (x335000_1 ++ [(⟨t341⟩ : S53)]) := ⟨_, rfl⟩
                  replace H : (virgationref01_Parse.l0 k1 a0 (wrap64 (t344 + 4)) y348) = some (r1, r2, r3) := by first | (rw [hy348]; with_reducible exact H) | (have H2_ := (Option.bind_some _ _).symm.trans H; rw [hy348]; with_reducible exact H2_) | (have H2_ := (Option.bind_some _ _).symm.trans H; with_reducible exact H2_) | with_reducible exact H | (rw [hy348]; exact H) | exact H
                  have Ny348 := Az.mk hy348
                  clear hy348
                  have H' := Az.mk H
                  clear H
                  go_wp2_with (first | ((with_reducible refine gate_callee (f := 87) rfl ?_); refine goesL_ (some 13) rfl rfl Try.func87 (by kernel_rfl) rfl #[.string a0, .int .i64 x1_1, .string (⟨#[111]⟩ : ByteArray)] rfl (by (try simp only [List.map_toArray, List.map_cons, List.map_nil]); first | done | rfl | (simp only [List.length_drop, List.length_take]; rfl)) ?_; (with_reducible refine (virgationref01_begins.calls a0 x1_1 (⟨#[111]⟩ : ByteArray) false _ A5.out).mono ?_); rintro e w' ⟨rfl, ⟨nd, rfl⟩⟩; refine ⟨_, rfl, ?_⟩; (try (rw [drewN_self wr]; generalize hq_ : World.drewN wr _ = wr; have n0_ : Az (Kd.R k53 53 wr w.heap.size (fun k_ => k_ ≠ gb333 ∧ k_ ≠ gb334) u335000 x335000_1) := ⟨by rw [← hq_]; exact (by (with_reducible repeat (first | apply Kd.R_alloc | apply Kd.R_drewN | apply Kd.R_drew)); exact HO_335000.out)⟩; have n1_ : Az (wr.heap[gb333]? = some (.cells #[.slice none 0 0] 53 (0, 0))) := ⟨by rw [← hq_]; exact (by (with_reducible repeat (first | refine bdN ?_ _ | refine blk_drew ?_ | refine bkA ?_ _)); exact BK333.out)⟩; have n2_ : Az (wr.heap[gb334]? = some (.cells #[u335000] 53 (0, 0))) := ⟨by rw [← hq_]; exact (by (with_reducible repeat (first | refine bdN ?_ _ | refine blk_drew ?_ | refine bkA ?_ _)); exact BK334.out)⟩; have n3_ : Az (Below w.heap.size w wr) := ⟨by rw [← hq_]; exact (by repeat (first | (with_reducible first | exact HB.out | apply bal | apply pwN | apply bd1 | refine bset ?_ GE333.out | refine bset ?_ GE334.out) | exact HB.out))⟩; clear HO_335000 BK333 BK334 HB hq_; have HO_335000 := n0_; have BK333 := n1_; have BK334 := n2_; have HB := n3_; clear n0_ n1_ n2_ n3_))) | ((with_reducible refine gate_callee (f := 87) rfl ?_); refine goesL_ (some 32) rfl rfl Try.func87 (by kernel_rfl) rfl #[.string a0, .int .i64 x1_1, .string (⟨#[40]⟩ : ByteArray)] rfl (by (try simp only [List.map_toArray, List.map_cons, List.map_nil]); first | done | rfl | (simp only [List.length_drop, List.length_take]; rfl)) ?_; (with_reducible refine (virgationref01_begins.calls a0 x1_1 (⟨#[40]⟩ : ByteArray) true _ A19.out).mono ?_); rintro e w' ⟨rfl, ⟨nd, rfl⟩⟩; refine ⟨_, rfl, ?_⟩; (try (rw [drewN_self wr]; generalize hq_ : World.drewN wr _ = wr; have n0_ : Az (Kd.R k53 53 wr w.heap.size (fun k_ => k_ ≠ gb333 ∧ k_ ≠ gb334) u335000 x335000_1) := ⟨by rw [← hq_]; exact (by (with_reducible repeat (first | apply Kd.R_alloc | apply Kd.R_drewN | apply Kd.R_drew)); exact HO_335000.out)⟩; have n1_ : Az (wr.heap[gb333]? = some (.cells #[.slice none 0 0] 53 (0, 0))) := ⟨by rw [← hq_]; exact (by (with_reducible repeat (first | refine bdN ?_ _ | refine blk_drew ?_ | refine bkA ?_ _)); exact BK333.out)⟩; have n2_ : Az (wr.heap[gb334]? = some (.cells #[u335000] 53 (0, 0))) := ⟨by rw [← hq_]; exact (by (with_reducible repeat (first | refine bdN ?_ _ | refine blk_drew ?_ | refine bkA ?_ _)); exact BK334.out)⟩; have n3_ : Az (Below w.heap.size w wr) := ⟨by rw [← hq_]; exact (by repeat (first | (with_reducible first | exact HB.out | apply bal | apply pwN | apply bd1 | refine bset ?_ GE333.out | refine bset ?_ GE334.out) | exact HB.out))⟩; clear HO_335000 BK333 BK334 HB hq_; have HO_335000 := n0_; have BK333 := n1_; have BK334 := n2_; have HB := n3_; clear n0_ n1_ n2_ n3_))) | ((with_reducible refine gate_callee (f := 80) rfl ?_); refine goesL_ (some 40) rfl rfl Try.func80 (by kernel_rfl) rfl #[.string a0, .int .i64 (wrap64 (x1_1 + 1))] rfl (by (try simp only [List.map_toArray, List.map_cons, List.map_nil]); first | done | rfl | (simp only [List.length_drop, List.length_take]; rfl)) ?_; (with_reducible refine (ih k1 (by have := HK1.out; omega) a0 (wrap64 (x1_1 + 1)) t341 t344 true _ A21.out).mono ?_); rintro e w37 ⟨v342, rfl, ho0, hb⟩; refine ⟨_, rfl, ?_⟩; have n0_ := Az.mk (Kd.R_elder' (by (with_reducible repeat (first | apply Kd.R_alloc | apply Kd.R_drewN | apply Kd.R_drew)); exact HO_335000.out) (Kd.R_base ho0) hb); have n1_ := Az.mk (Kd.R_lower (Kd.R_newB (Kd.R_newB (Kd.R_new' ho0 (Kd.R_lt (by (with_reducible repeat (first | apply Kd.R_alloc | apply Kd.R_drewN | apply Kd.R_drew)); exact HO_335000.out))) (g := gb333) (o := .cells #[.slice none 0 0] 53 (0, 0)) (by (with_reducible repeat (first | refine bdN ?_ _ | refine blk_drew ?_ | refine bkA ?_ _)); exact BK333.out)) (g := gb334) (o := .cells #[u335000] 53 (0, 0)) (by (with_reducible repeat (first | refine bdN ?_ _ | refine blk_drew ?_ | refine bkA ?_ _)); exact BK334.out)) (below_size (by repeat (first | (with_reducible first | exact HB.out | apply bal | apply pwN | apply bd1 | refine bset ?_ GE333.out | refine bset ?_ GE334.out) | exact HB.out)))); have n2_ := Az.mk (bkB (g := gb333) (o := .cells #[.slice none 0 0] 53 (0, 0)) (by (with_reducible repeat (first | refine bdN ?_ _ | refine blk_drew ?_ | refine bkA ?_ _)); exact BK333.out) hb); have n3_ := Az.mk (bkB (g := gb334) (o := .cells #[u335000] 53 (0, 0)) (by (with_reducible repeat (first | refine bdN ?_ _ | refine blk_drew ?_ | refine bkA ?_ _)); exact BK334.out) hb); have n4_ := Az.mk (bst (by repeat (first | (with_reducible first | exact HB.out | apply bal | apply pwN | apply bd1 | refine bset ?_ GE333.out | refine bset ?_ GE334.out) | exact HB.out)) hb); clear HO_335000; clear BK333; clear BK334; clear HB; have HO_335000 := n0_; have HO343 := n1_; have BK333 := n2_; have BK334 := n3_; have HB := n4_; clear n0_ n1_ n2_ n3_ n4_; (try clear hb); (try clear hb2); (try clear hk); (try clear hi); (try clear ho0)) | ((with_reducible refine gate_dst (N := 8) rfl ?_); (try (refine gate_guard (by rfl) ?_; dsimp only)); refine box_event ?hg (N := 8) ?hd (cs := #[.slice none 0 0]) (t := 53) ?hr ?_; (case hd => rfl); (case hg => rfl); (case hr => first | (go_simp; done) | (go_simp; rfl)); intro gb346 hg w38 hbox hb; have n0_ := Az.mk (Kd.R_below (Kd.R_elderB (by (with_reducible repeat (first | apply Kd.R_alloc | apply Kd.R_drewN | apply Kd.R_drew)); exact HO_335000.out) gb346 (Nat.le_of_eq hg.symm)) hb); have n1_ := Az.mk (Kd.R_below (Kd.R_elderB (by (with_reducible repeat (first | apply Kd.R_alloc | apply Kd.R_drewN | apply Kd.R_drew)); exact HO343.out) gb346 (Nat.le_of_eq hg.symm)) hb); have n2_ := Az.mk (bkB (g := gb333) (o := .cells #[.slice none 0 0] 53 (0, 0)) (by (with_reducible repeat (first | refine bdN ?_ _ | refine blk_drew ?_ | refine bkA ?_ _)); exact BK333.out) hb); have n3_ := Az.mk (bkB (g := gb334) (o := .cells #[u335000] 53 (0, 0)) (by (with_reducible repeat (first | refine bdN ?_ _ | refine blk_drew ?_ | refine bkA ?_ _)); exact BK334.out) hb); have n4_ := Az.mk (bst (by repeat (first | (with_reducible first | exact HB.out | apply bal | apply pwN | apply bd1 | refine bset ?_ GE333.out | refine bset ?_ GE334.out) | exact HB.out)) hb); have n5_ := Az.mk (hbox); have n6_ := Az.mk ((by rw [hg]; exact (below_size (by repeat (first | (with_reducible first | exact HB.out | apply bal | apply pwN | apply bd1 | refine bset ?_ GE333.out | refine bset ?_ GE334.out) | exact HB.out))) : w.heap.size ≤ gb346)); have n7_ := Az.mk ((by rw [hg]; exact (below_size (by repeat (first | (with_reducible first | exact HB.out | apply bal | apply pwN | apply bd1 | refine bset ?_ GE333.out | refine bset ?_ GE334.out) | exact HB.out))) : w.heap.size ≤ gb346)); have n8_ := Az.mk ((by rw [hg]; exact Nat.ne_of_lt (blk_lt (g := gb333) (o := .cells #[.slice none 0 0] 53 (0, 0)) (by (with_reducible repeat (first | refine bdN ?_ _ | refine blk_drew ?_ | refine bkA ?_ _)); exact BK333.out)) : gb333 ≠ gb346)); have n9_ := Az.mk ((by rw [hg]; exact Nat.ne_of_gt (blk_lt (g := gb333) (o := .cells #[.slice none 0 0] 53 (0, 0)) (by (with_reducible repeat (first | refine bdN ?_ _ | refine blk_drew ?_ | refine bkA ?_ _)); exact BK333.out)) : gb346 ≠ gb333)); have n10_ := Az.mk ((by rw [hg]; exact Nat.ne_of_lt (blk_lt (g := gb334) (o := .cells #[u335000] 53 (0, 0)) (by (with_reducible repeat (first | refine bdN ?_ _ | refine blk_drew ?_ | refine bkA ?_ _)); exact BK334.out)) : gb334 ≠ gb346)); have n11_ := Az.mk ((by rw [hg]; exact Nat.ne_of_gt (blk_lt (g := gb334) (o := .cells #[u335000] 53 (0, 0)) (by (with_reducible repeat (first | refine bdN ?_ _ | refine blk_drew ?_ | refine bkA ?_ _)); exact BK334.out)) : gb346 ≠ gb334)); clear HO_335000; clear HO343; clear BK333; clear BK334; clear HB; have HO_335000 := n0_; have HO343 := n1_; have BK333 := n2_; have BK334 := n3_; have HB := n4_; have BK346 := n5_; have GW346 := n6_; have GE346 := n7_; have NB333_346 := n8_; have NB346_333 := n9_; have NB334_346 := n10_; have NB346_334 := n11_; clear n0_ n1_ n2_ n3_ n4_ n5_ n6_ n7_ n8_ n9_ n10_ n11_; clear hb hbox hg; obtain ⟨Ao39, co39, eo39⟩ := Kd.R_slice HO343.out; subst eo39; have hnb40 := NB346_333.out; have hnc40 := NB333_346.out; have hnb41 := NB346_334.out; have hnc41 := NB334_346.out; have hcz42_0 : w38.cell? ⟨gb346, 0, none⟩ = some (.slice none 0 0) := (blk_cell BK346.out 0).trans rfl; have hfz42_0 := bkF BK346.out 0) | ((with_reducible refine gate_store (t := 53) (p := 8) rfl ?_); refine store_event (t := 53) (p := 8) (v := ?vo_w43) (w1 := (w38.setCell ⟨gb346, 0, none⟩ (.slice Ao39 t341.length co39))) ?hg ?ho ?hn ?hr ?_; (case ho => rfl); (case hg => rfl); (case hn => rfl); (case hr => first | (go_simp; done) | (go_simp; rfl)); intro w43 hw; have n0_ : Az (Kd.R k53 53 w43 w.heap.size (fun k_ => some k_ ≠ (.slice Ao39 t341.length co39 : Value).ownBlock ∧ k_ ≠ gb333 ∧ k_ ≠ gb334 ∧ k_ ≠ gb346) u335000 x335000_1) := ⟨(by rw [hw]; exact (by (with_reducible repeat (first | apply Kd.R_alloc | apply Kd.R_drewN | apply Kd.R_drew)); exact Kd.R_mono (Kd.R_far (p := ⟨gb346, 0, none⟩) (Kd.R_mono HO_335000.out (fun k_ hk => (⟨hk, hk.2⟩ : _ ∧ k_ ≠ gb346))) (fun _ hk => hk.2) (.slice Ao39 t341.length co39)) (fun _ hk => ⟨hk.1.1.2, ⟨hk.1.1.1.1, ⟨hk.1.1.1.2, hk.1.2⟩⟩⟩)))⟩; have n1_ : Az (Kd.R k53 53 w43 w.heap.size (fun k_ => some k_ ≠ (u335000 : Value).ownBlock ∧ k_ ≠ gb333 ∧ k_ ≠ gb334 ∧ k_ ≠ gb346) (.slice Ao39 t341.length co39) t341) := ⟨(by rw [hw]; exact (by (with_reducible repeat (first | apply Kd.R_alloc | apply Kd.R_drewN | apply Kd.R_drew)); exact Kd.R_mono (Kd.R_far (p := ⟨gb346, 0, none⟩) (Kd.R_mono HO343.out (fun k_ hk => (⟨hk, hk.2⟩ : _ ∧ k_ ≠ gb346))) (fun _ hk => hk.2) (.slice Ao39 t341.length co39)) (fun _ hk => ⟨hk.1.1.1.1.2, ⟨hk.1.1.1.2, ⟨hk.1.1.2, hk.1.2⟩⟩⟩)))⟩; have n2_ : Az (w43.heap[gb333]? = some (.cells #[.slice none 0 0] 53 (0, 0))) := ⟨(by rw [hw]; exact (by (with_reducible repeat (first | refine bdN ?_ _ | refine blk_drew ?_ | refine bkA ?_ _)); refine blk_far ?_ NB333_346.out _; (with_reducible repeat (first | refine bdN ?_ _ | refine blk_drew ?_ | refine bkA ?_ _)); exact BK333.out))⟩; have n3_ : Az (w43.heap[gb334]? = some (.cells #[u335000] 53 (0, 0))) := ⟨(by rw [hw]; exact (by (with_reducible repeat (first | refine bdN ?_ _ | refine blk_drew ?_ | refine bkA ?_ _)); refine blk_far ?_ NB334_346.out _; (with_reducible repeat (first | refine bdN ?_ _ | refine blk_drew ?_ | refine bkA ?_ _)); exact BK334.out))⟩; have n4_ : Az (w43.heap[gb346]? = some (.cells #[.slice Ao39 t341.length co39] 53 (0, 0))) := ⟨(by rw [hw]; exact (by (with_reducible repeat (first | refine bdN ?_ _ | refine blk_drew ?_ | refine bkA ?_ _)); refine blk_put (cs := #[.slice none 0 0]) ?_ 0 _ rfl; (with_reducible repeat (first | refine bdN ?_ _ | refine blk_drew ?_ | refine bkA ?_ _)); exact BK346.out))⟩; have n5_ : Az (Below w.heap.size w w43) := ⟨(by rw [hw]; exact (by repeat (first | (with_reducible first | exact HB.out | apply bal | apply pwN | apply bd1 | refine bset ?_ GE333.out | refine bset ?_ GE334.out | refine bset ?_ GE346.out) | exact HB.out)))⟩; clear hw; clear HO_335000; clear HO343; clear BK333; clear BK334; clear BK346; clear HB; have HO_335000 := n0_; have HO343 := n1_; have BK333 := n2_; have BK334 := n3_; have BK346 := n4_; have HB := n5_; clear n0_ n1_ n2_ n3_ n4_ n5_; have hcz44_0 : w43.cell? ⟨gb346, 0, none⟩ = some (.slice Ao39 t341.length co39) := (blk_cell BK346.out 0).trans rfl; have hfz44_0 := bkF BK346.out 0) | (go_at_call 87; (with_reducible refine (virgationref01_begins.calls a0 t344 (⟨#[41, 32, 62, 32]⟩ : ByteArray) true _ A34.out).mono ?_); rintro e w' ⟨rfl, ⟨nd, rfl⟩⟩; (try (rw [drewN_self w43]; generalize hq_ : World.drewN w43 _ = w43; have n0_ : Az (Kd.R k53 53 w43 w.heap.size (fun k_ => some k_ ≠ (u335000 : Value).ownBlock ∧ k_ ≠ gb333 ∧ k_ ≠ gb334 ∧ k_ ≠ gb346) (.slice Ao39 t341.length co39) t341) := ⟨by rw [← hq_]; exact (by (with_reducible repeat (first | apply Kd.R_alloc | apply Kd.R_drewN | apply Kd.R_drew)); exact HO343.out)⟩; have n1_ : Az (Kd.R k53 53 w43 w.heap.size (fun k_ => some k_ ≠ (.slice Ao39 t341.length co39 : Value).ownBlock ∧ k_ ≠ gb333 ∧ k_ ≠ gb334 ∧ k_ ≠ gb346) u335000 x335000_1) := ⟨by rw [← hq_]; exact (by (with_reducible repeat (first | apply Kd.R_alloc | apply Kd.R_drewN | apply Kd.R_drew)); exact HO_335000.out)⟩; have n2_ : Az (w43.heap[gb333]? = some (.cells #[.slice none 0 0] 53 (0, 0))) := ⟨by rw [← hq_]; exact (by (with_reducible repeat (first | refine bdN ?_ _ | refine blk_drew ?_ | refine bkA ?_ _)); exact BK333.out)⟩; have n3_ : Az (w43.heap[gb334]? = some (.cells #[u335000] 53 (0, 0))) := ⟨by rw [← hq_]; exact (by (with_reducible repeat (first | refine bdN ?_ _ | refine blk_drew ?_ | refine bkA ?_ _)); exact BK334.out)⟩; have n4_ : Az (w43.heap[gb346]? = some (.cells #[.slice Ao39 t341.length co39] 53 (0, 0))) := ⟨by rw [← hq_]; exact (by (with_reducible repeat (first | refine bdN ?_ _ | refine blk_drew ?_ | refine bkA ?_ _)); exact BK346.out)⟩; have n5_ : Az (Below w.heap.size w w43) := ⟨by rw [← hq_]; exact (by repeat (first | (with_reducible first | exact HB.out | apply bal | apply pwN | apply bd1 | refine bset ?_ GE333.out | refine bset ?_ GE334.out | refine bset ?_ GE346.out) | exact HB.out))⟩; clear HO343 HO_335000 BK333 BK334 BK346 HB hq_; have HO343 := n0_; have HO_335000 := n1_; have BK333 := n2_; have BK334 := n3_; have BK346 := n4_; have HB := n5_; clear n0_ n1_ n2_ n3_ n4_ n5_)); have hnb45 := NB334_333.out; have hnc45 := NB333_334.out; have hcz46_0 : w43.cell? ⟨gb334, 0, none⟩ = some (u335000) := (blk_cell BK334.out 0).trans rfl; have hfz46_0 := bkF BK334.out 0; have hcz46_1 : w43.cell? ⟨gb346, 0, none⟩ = some (.slice Ao39 t341.length co39) := (blk_cell BK346.out 0).trans rfl; have hfz46_1 := bkF BK346.out 0) | ((with_reducible refine gate_builtin (b := .append) (xs := #[.tmp 61, .tmp 63]) rfl ?_); (try (refine gate_guard (by rfl) ?_; dsimp only)); at_builtin; refine Kd.R_append k53 (w0 := w) w.heap.size rfl (.tmp 61) (.tmp 63) 51 53 (.agg #[(.slice none 0 0)]) 24 rfl Try.underlying51 info53 rfl (by decide) (by omega) u335000 x335000_1 (⟨t341⟩ : S53) [.slice Ao39 t341.length co39] (fun k_ => k_ ≠ gb333 ∧ k_ ≠ gb334 ∧ k_ ≠ gb346) (fun k_ => ((fun k_ => k_ ≠ gb333 ∧ k_ ≠ gb334 ∧ k_ ≠ gb346)) k_ ∧ some k_ ≠ (u335000 : Value).ownBlock) rfl rfl ?aP (fun _ hk => hk) ?aF ?aO ?aB ?aS ?aL ?_; (case aP => exact k53_mkM _ _ _ (⟨t341⟩ : S53) (Kd.R_mono (HO343.out) (fun k_ hk => ⟨⟨hk.2.1, ⟨hk.2.2.1, hk.2.2.2⟩⟩, hk.1⟩))); (case aB => exact (by repeat (first | (with_reducible first | exact HB.out | apply bal | apply pwN | apply bd1 | refine bset ?_ GE333.out | refine bset ?_ GE334.out | refine bset ?_ GE346.out) | exact HB.out))); (case aF => exact (fun k_ hk => ⟨Kd.freshB (g := gb333) (o := .cells #[.slice none 0 0] 53 (0, 0)) (by (with_reducible repeat (first | refine bdN ?_ _ | refine blk_drew ?_ | refine bkA ?_ _)); exact BK333.out) k_ hk, Kd.freshB (g := gb334) (o := .cells #[u335000] 53 (0, 0)) (by (with_reducible repeat (first | refine bdN ?_ _ | refine blk_drew ?_ | refine bkA ?_ _)); exact BK334.out) k_ hk, Kd.freshB (g := gb346) (o := .cells #[.slice Ao39 t341.length co39] 53 (0, 0)) (by (with_reducible repeat (first | refine bdN ?_ _ | refine blk_drew ?_ | refine bkA ?_ _)); exact BK346.out) k_ hk⟩)); (case aO => exact (by (with_reducible repeat (first | apply Kd.R_alloc | apply Kd.R_drewN | apply Kd.R_drew)); exact Kd.R_mono HO_335000.out (fun _ hk => ⟨hk.2.1, ⟨hk.2.2.1, hk.2.2.2⟩⟩))); (case aS => exact (below_size (by repeat (first | (with_reducible first | exact HB.out | apply bal | apply pwN | apply bd1 | refine bset ?_ GE333.out | refine bset ?_ GE334.out | refine bset ?_ GE346.out) | exact HB.out)))); (case aL => have := LMc36.out; omega); intro v349 w47 ho hb hg hat; rw [← Ny348.out] at ho; have n0_ := Az.mk (blk_grown (g := gb333) (o := .cells #[.slice none 0 0] 53 (0, 0)) (by (with_reducible repeat (first | refine bdN ?_ _ | refine blk_drew ?_ | refine bkA ?_ _)); exact BK333.out) hg (Kd.R_away HO_335000.out (fun _ hk => hk.2.1))); have n1_ := Az.mk (blk_grown (g := gb334) (o := .cells #[u335000] 53 (0, 0)) (by (with_reducible repeat (first | refine bdN ?_ _ | refine blk_drew ?_ | refine bkA ?_ _)); exact BK334.out) hg (Kd.R_away HO_335000.out (fun _ hk => hk.2.2.1))); have n2_ := Az.mk (blk_grown (g := gb346) (o := .cells #[.slice Ao39 t341.length co39] 53 (0, 0)) (by (with_reducible repeat (first | refine bdN ?_ _ | refine blk_drew ?_ | refine bkA ?_ _)); exact BK346.out) hg (Kd.R_away HO_335000.out (fun _ hk => hk.2.2.2))); have n3_ := Az.mk (hb); have n4_ := Az.mk (ho); clear BK333; clear BK334; clear BK346; clear HB; clear HO_335000; clear HO343; have BK333 := n0_; have BK334 := n1_; have BK346 := n2_; have HB := n3_; have HO350 := n4_; clear n0_ n1_ n2_ n3_ n4_; clear ho hb hg hat; obtain ⟨Ao48, co48, eo48⟩ := Kd.R_slice HO350.out; subst eo48; have hcz49_0 : w47.cell? ⟨gb334, 0, none⟩ = some (u335000) := (blk_cell BK334.out 0).trans rfl; have hfz49_0 := bkF BK334.out 0))
                  go_roundg k1
                  case measure => have := HK1.out; omega
                  case rel => exact ⟨(wrap64 (t344 + 4)), (y348), (.slice Ao48 y348.length co48), (by first | rfl | (simp; done) | (simp [*]; done)), H', ⟨by have := HK1.out; omega⟩, ⟨by (with_reducible repeat (first | apply Kd.R_alloc | apply Kd.R_drewN | apply Kd.R_drew)); exact Kd.R_mono (Kd.R_far (p := ⟨gb334, 0, none⟩) (Kd.R_mono HO350.out (fun k_ hk => (⟨hk, hk.2.1⟩ : _ ∧ k_ ≠ gb334))) (fun _ hk => hk.2) (.slice Ao48 y348.length co48)) (fun _ hk => ⟨hk.1.1, hk.1.2.1⟩)⟩, ⟨by (with_reducible repeat (first | refine bdN ?_ _ | refine blk_drew ?_ | refine bkA ?_ _)); refine blk_far ?_ NB333_334.out _; (with_reducible repeat (first | refine bdN ?_ _ | refine blk_drew ?_ | refine bkA ?_ _)); exact BK333.out⟩, ⟨by (with_reducible repeat (first | refine bdN ?_ _ | refine blk_drew ?_ | refine bkA ?_ _)); refine blk_put (cs := #[u335000]) ?_ 0 _ rfl; (with_reducible repeat (first | refine bdN ?_ _ | refine blk_drew ?_ | refine bkA ?_ _)); exact BK334.out⟩, ⟨by repeat (first | (with_reducible first | exact HB.out | apply bal | apply pwN | apply bd1 | refine bset ?_ GE333.out | refine bset ?_ GE334.out | refine bset ?_ GE346.out) | exact HB.out)⟩⟩
                · rw [if_neg c36] at H
                  exact absurd H (by simp)
              · replace c35 := Bool.eq_false_iff.mpr c35
                subst c35
                have H1 : (some (x335000_1, x1_1, false)) = some (r1, r2, r3) := by rw [if_neg (show ¬ (false = true) by decide)] at H; exact H
                clear H
                have H := H1
                clear H1
                simp only [Option.some.injEq, Prod.mk.injEq] at H
                obtain ⟨rfl, rfl, rfl⟩ := H
                go_wp2_with (first | ((with_reducible refine gate_callee (f := 87) rfl ?_); refine goesL_ (some 13) rfl rfl Try.func87 (by kernel_rfl) rfl #[.string a0, .int .i64 x1_1, .string (⟨#[111]⟩ : ByteArray)] rfl (by (try simp only [List.map_toArray, List.map_cons, List.map_nil]); first | done | rfl | (simp only [List.length_drop, List.length_take]; rfl)) ?_; (with_reducible refine (virgationref01_begins.calls a0 x1_1 (⟨#[111]⟩ : ByteArray) false _ A5.out).mono ?_); rintro e w' ⟨rfl, ⟨nd, rfl⟩⟩; refine ⟨_, rfl, ?_⟩; (try (rw [drewN_self wr]; generalize hq_ : World.drewN wr _ = wr; have n0_ : Az (Kd.R k53 53 wr w.heap.size (fun k_ => k_ ≠ gb333 ∧ k_ ≠ gb334) u335000 x335000_1) := ⟨by rw [← hq_]; exact (by (with_reducible repeat (first | apply Kd.R_alloc | apply Kd.R_drewN | apply Kd.R_drew)); exact HO_335000.out)⟩; have n1_ : Az (wr.heap[gb333]? = some (.cells #[.slice none 0 0] 53 (0, 0))) := ⟨by rw [← hq_]; exact (by (with_reducible repeat (first | refine bdN ?_ _ | refine blk_drew ?_ | refine bkA ?_ _)); exact BK333.out)⟩; have n2_ : Az (wr.heap[gb334]? = some (.cells #[u335000] 53 (0, 0))) := ⟨by rw [← hq_]; exact (by (with_reducible repeat (first | refine bdN ?_ _ | refine blk_drew ?_ | refine bkA ?_ _)); exact BK334.out)⟩; have n3_ : Az (Below w.heap.size w wr) := ⟨by rw [← hq_]; exact (by repeat (first | (with_reducible first | exact HB.out | apply bal | apply pwN | apply bd1 | refine bset ?_ GE333.out | refine bset ?_ GE334.out) | exact HB.out))⟩; clear HO_335000 BK333 BK334 HB hq_; have HO_335000 := n0_; have BK333 := n1_; have BK334 := n2_; have HB := n3_; clear n0_ n1_ n2_ n3_))) | ((with_reducible refine gate_callee (f := 87) rfl ?_); refine goesL_ (some 32) rfl rfl Try.func87 (by kernel_rfl) rfl #[.string a0, .int .i64 x1_1, .string (⟨#[40]⟩ : ByteArray)] rfl (by (try simp only [List.map_toArray, List.map_cons, List.map_nil]); first | done | rfl | (simp only [List.length_drop, List.length_take]; rfl)) ?_; (with_reducible refine (virgationref01_begins.calls a0 x1_1 (⟨#[40]⟩ : ByteArray) true _ A19.out).mono ?_); rintro e w' ⟨rfl, ⟨nd, rfl⟩⟩; refine ⟨_, rfl, ?_⟩; (try (rw [drewN_self wr]; generalize hq_ : World.drewN wr _ = wr; have n0_ : Az (Kd.R k53 53 wr w.heap.size (fun k_ => k_ ≠ gb333 ∧ k_ ≠ gb334) u335000 x335000_1) := ⟨by rw [← hq_]; exact (by (with_reducible repeat (first | apply Kd.R_alloc | apply Kd.R_drewN | apply Kd.R_drew)); exact HO_335000.out)⟩; have n1_ : Az (wr.heap[gb333]? = some (.cells #[.slice none 0 0] 53 (0, 0))) := ⟨by rw [← hq_]; exact (by (with_reducible repeat (first | refine bdN ?_ _ | refine blk_drew ?_ | refine bkA ?_ _)); exact BK333.out)⟩; have n2_ : Az (wr.heap[gb334]? = some (.cells #[u335000] 53 (0, 0))) := ⟨by rw [← hq_]; exact (by (with_reducible repeat (first | refine bdN ?_ _ | refine blk_drew ?_ | refine bkA ?_ _)); exact BK334.out)⟩; have n3_ : Az (Below w.heap.size w wr) := ⟨by rw [← hq_]; exact (by repeat (first | (with_reducible first | exact HB.out | apply bal | apply pwN | apply bd1 | refine bset ?_ GE333.out | refine bset ?_ GE334.out) | exact HB.out))⟩; clear HO_335000 BK333 BK334 HB hq_; have HO_335000 := n0_; have BK333 := n1_; have BK334 := n2_; have HB := n3_; clear n0_ n1_ n2_ n3_))) | ((with_reducible refine gate_callee (f := 80) rfl ?_); refine goesL_ (some 40) rfl rfl Try.func80 (by kernel_rfl) rfl #[.string a0, .int .i64 (wrap64 (x1_1 + 1))] rfl (by (try simp only [List.map_toArray, List.map_cons, List.map_nil]); first | done | rfl | (simp only [List.length_drop, List.length_take]; rfl)) ?_; (with_reducible refine (ih k1 (by have := HK1.out; omega) a0 (wrap64 (x1_1 + 1)) t341 t344 true _ A21.out).mono ?_); rintro e w50 ⟨v342, rfl, ho0, hb⟩; refine ⟨_, rfl, ?_⟩; have n0_ := Az.mk (Kd.R_elder' (by (with_reducible repeat (first | apply Kd.R_alloc | apply Kd.R_drewN | apply Kd.R_drew)); exact HO_335000.out) (Kd.R_base ho0) hb); have n1_ := Az.mk (Kd.R_lower (Kd.R_newB (Kd.R_newB (Kd.R_new' ho0 (Kd.R_lt (by (with_reducible repeat (first | apply Kd.R_alloc | apply Kd.R_drewN | apply Kd.R_drew)); exact HO_335000.out))) (g := gb333) (o := .cells #[.slice none 0 0] 53 (0, 0)) (by (with_reducible repeat (first | refine bdN ?_ _ | refine blk_drew ?_ | refine bkA ?_ _)); exact BK333.out)) (g := gb334) (o := .cells #[u335000] 53 (0, 0)) (by (with_reducible repeat (first | refine bdN ?_ _ | refine blk_drew ?_ | refine bkA ?_ _)); exact BK334.out)) (below_size (by repeat (first | (with_reducible first | exact HB.out | apply bal | apply pwN | apply bd1 | refine bset ?_ GE333.out | refine bset ?_ GE334.out) | exact HB.out)))); have n2_ := Az.mk (bkB (g := gb333) (o := .cells #[.slice none 0 0] 53 (0, 0)) (by (with_reducible repeat (first | refine bdN ?_ _ | refine blk_drew ?_ | refine bkA ?_ _)); exact BK333.out) hb); have n3_ := Az.mk (bkB (g := gb334) (o := .cells #[u335000] 53 (0, 0)) (by (with_reducible repeat (first | refine bdN ?_ _ | refine blk_drew ?_ | refine bkA ?_ _)); exact BK334.out) hb); have n4_ := Az.mk (bst (by repeat (first | (with_reducible first | exact HB.out | apply bal | apply pwN | apply bd1 | refine bset ?_ GE333.out | refine bset ?_ GE334.out) | exact HB.out)) hb); clear HO_335000; clear BK333; clear BK334; clear HB; have HO_335000 := n0_; have HO343 := n1_; have BK333 := n2_; have BK334 := n3_; have HB := n4_; clear n0_ n1_ n2_ n3_ n4_; (try clear hb); (try clear hb2); (try clear hk); (try clear hi); (try clear ho0)) | ((with_reducible refine gate_dst (N := 8) rfl ?_); (try (refine gate_guard (by rfl) ?_; dsimp only)); refine box_event ?hg (N := 8) ?hd (cs := #[.slice none 0 0]) (t := 53) ?hr ?_; (case hd => rfl); (case hg => rfl); (case hr => first | (go_simp; done) | (go_simp; rfl)); intro gb346 hg w51 hbox hb; have n0_ := Az.mk (Kd.R_below (Kd.R_elderB (by (with_reducible repeat (first | apply Kd.R_alloc | apply Kd.R_drewN | apply Kd.R_drew)); exact HO_335000.out) gb346 (Nat.le_of_eq hg.symm)) hb); have n1_ := Az.mk (Kd.R_below (Kd.R_elderB (by (with_reducible repeat (first | apply Kd.R_alloc | apply Kd.R_drewN | apply Kd.R_drew)); exact HO343.out) gb346 (Nat.le_of_eq hg.symm)) hb); have n2_ := Az.mk (bkB (g := gb333) (o := .cells #[.slice none 0 0] 53 (0, 0)) (by (with_reducible repeat (first | refine bdN ?_ _ | refine blk_drew ?_ | refine bkA ?_ _)); exact BK333.out) hb); have n3_ := Az.mk (bkB (g := gb334) (o := .cells #[u335000] 53 (0, 0)) (by (with_reducible repeat (first | refine bdN ?_ _ | refine blk_drew ?_ | refine bkA ?_ _)); exact BK334.out) hb); have n4_ := Az.mk (bst (by repeat (first | (with_reducible first | exact HB.out | apply bal | apply pwN | apply bd1 | refine bset ?_ GE333.out | refine bset ?_ GE334.out) | exact HB.out)) hb); have n5_ := Az.mk (hbox); have n6_ := Az.mk ((by rw [hg]; exact (below_size (by repeat (first | (with_reducible first | exact HB.out | apply bal | apply pwN | apply bd1 | refine bset ?_ GE333.out | refine bset ?_ GE334.out) | exact HB.out))) : w.heap.size ≤ gb346)); have n7_ := Az.mk ((by rw [hg]; exact (below_size (by repeat (first | (with_reducible first | exact HB.out | apply bal | apply pwN | apply bd1 | refine bset ?_ GE333.out | refine bset ?_ GE334.out) | exact HB.out))) : w.heap.size ≤ gb346)); have n8_ := Az.mk ((by rw [hg]; exact Nat.ne_of_lt (blk_lt (g := gb333) (o := .cells #[.slice none 0 0] 53 (0, 0)) (by (with_reducible repeat (first | refine bdN ?_ _ | refine blk_drew ?_ | refine bkA ?_ _)); exact BK333.out)) : gb333 ≠ gb346)); have n9_ := Az.mk ((by rw [hg]; exact Nat.ne_of_gt (blk_lt (g := gb333) (o := .cells #[.slice none 0 0] 53 (0, 0)) (by (with_reducible repeat (first | refine bdN ?_ _ | refine blk_drew ?_ | refine bkA ?_ _)); exact BK333.out)) : gb346 ≠ gb333)); have n10_ := Az.mk ((by rw [hg]; exact Nat.ne_of_lt (blk_lt (g := gb334) (o := .cells #[u335000] 53 (0, 0)) (by (with_reducible repeat (first | refine bdN ?_ _ | refine blk_drew ?_ | refine bkA ?_ _)); exact BK334.out)) : gb334 ≠ gb346)); have n11_ := Az.mk ((by rw [hg]; exact Nat.ne_of_gt (blk_lt (g := gb334) (o := .cells #[u335000] 53 (0, 0)) (by (with_reducible repeat (first | refine bdN ?_ _ | refine blk_drew ?_ | refine bkA ?_ _)); exact BK334.out)) : gb346 ≠ gb334)); clear HO_335000; clear HO343; clear BK333; clear BK334; clear HB; have HO_335000 := n0_; have HO343 := n1_; have BK333 := n2_; have BK334 := n3_; have HB := n4_; have BK346 := n5_; have GW346 := n6_; have GE346 := n7_; have NB333_346 := n8_; have NB346_333 := n9_; have NB334_346 := n10_; have NB346_334 := n11_; clear n0_ n1_ n2_ n3_ n4_ n5_ n6_ n7_ n8_ n9_ n10_ n11_; clear hb hbox hg; obtain ⟨Ao52, co52, eo52⟩ := Kd.R_slice HO343.out; subst eo52; have hnb53 := NB346_333.out; have hnc53 := NB333_346.out; have hnb54 := NB346_334.out; have hnc54 := NB334_346.out; have hcz55_0 : w51.cell? ⟨gb346, 0, none⟩ = some (.slice none 0 0) := (blk_cell BK346.out 0).trans rfl; have hfz55_0 := bkF BK346.out 0) | (go_at_call 87; (with_reducible refine (virgationref01_begins.calls a0 t344 (⟨#[41, 32, 62, 32]⟩ : ByteArray) false _ A34.out).mono ?_); rintro e w' ⟨rfl, ⟨nd, rfl⟩⟩; have hnb56 := NB334_333.out; have hnc56 := NB333_334.out; have hcz57_0 : w51.cell? ⟨gb334, 0, none⟩ = some (u335000) := (blk_cell BK334.out 0).trans rfl; have hfz57_0 := bkF BK334.out 0; obtain ⟨Ao58, co58, eo58⟩ := Kd.R_slice HO_335000.out; subst eo58; have hcz59_0 : w51.cell? ⟨gb333, 0, none⟩ = some (.slice none 0 0) := (blk_cell BK333.out 0).trans rfl; have hfz59_0 := bkF BK333.out 0))
                refine bodyPost_ret (results_ctt rfl _ _ gb333 53 #[.slice Ao58 x335000_1.length co58] (0, 0) _ rfl (by (with_reducible repeat (first | refine bdN ?_ _ | refine blk_drew ?_ | refine bkA ?_ _)); refine blk_put (cs := #[.slice none 0 0]) ?_ 0 _ rfl; (with_reducible repeat (first | refine bdN ?_ _ | refine blk_drew ?_ | refine bkA ?_ _)); refine blk_far ?_ NB333_346.out _; (with_reducible repeat (first | refine bdN ?_ _ | refine blk_drew ?_ | refine bkA ?_ _)); exact BK333.out) Try.underlying53 rfl (by kernel_rfl)) rfl ?_
                exact ⟨_, by first | rfl | (simp [errW_none, errW_some] <;> rfl) | (simp [*, errW_none, errW_some] <;> rfl), by (with_reducible repeat (first | apply Kd.R_alloc | apply Kd.R_drewN | apply Kd.R_drew)); exact Kd.R_mono (Kd.R_far (p := ⟨gb333, 0, none⟩) (Kd.R_drewN (Kd.R_far (p := ⟨gb346, 0, none⟩) (Kd.R_mono (Kd.R_mono HO_335000.out (fun k_ hk => (⟨hk, hk.2⟩ : _ ∧ k_ ≠ gb346))) (fun k_ hk => (⟨hk, hk.1.1.1.1⟩ : _ ∧ k_ ≠ gb333))) (fun _ hk => hk.1.2) (.slice Ao52 t341.length co52)) _) (fun _ hk => hk.2) (.slice Ao58 x335000_1.length co58)) (fun _ hk => trivial), by repeat (first | (with_reducible first | exact HB.out | apply bal | apply pwN | apply bd1 | refine bset ?_ GE333.out | refine bset ?_ GE334.out | refine bset ?_ GE346.out) | exact HB.out)⟩
          · replace c22 := Bool.eq_false_iff.mpr c22
            subst c22
            have H1 : (some (x335000_1, x1_1, false)) = some (r1, r2, r3) := by rw [if_neg (show ¬ (false = true) by decide)] at H; exact H
            clear H
            have H := H1
            clear H1
            simp only [Option.some.injEq, Prod.mk.injEq] at H
            obtain ⟨rfl, rfl, rfl⟩ := H
            go_wp2_with (first | ((with_reducible refine gate_callee (f := 87) rfl ?_); refine goesL_ (some 13) rfl rfl Try.func87 (by kernel_rfl) rfl #[.string a0, .int .i64 x1_1, .string (⟨#[111]⟩ : ByteArray)] rfl (by (try simp only [List.map_toArray, List.map_cons, List.map_nil]); first | done | rfl | (simp only [List.length_drop, List.length_take]; rfl)) ?_; (with_reducible refine (virgationref01_begins.calls a0 x1_1 (⟨#[111]⟩ : ByteArray) false _ A5.out).mono ?_); rintro e w' ⟨rfl, ⟨nd, rfl⟩⟩; refine ⟨_, rfl, ?_⟩; (try (rw [drewN_self wr]; generalize hq_ : World.drewN wr _ = wr; have n0_ : Az (Kd.R k53 53 wr w.heap.size (fun k_ => k_ ≠ gb333 ∧ k_ ≠ gb334) u335000 x335000_1) := ⟨by rw [← hq_]; exact (by (with_reducible repeat (first | apply Kd.R_alloc | apply Kd.R_drewN | apply Kd.R_drew)); exact HO_335000.out)⟩; have n1_ : Az (wr.heap[gb333]? = some (.cells #[.slice none 0 0] 53 (0, 0))) := ⟨by rw [← hq_]; exact (by (with_reducible repeat (first | refine bdN ?_ _ | refine blk_drew ?_ | refine bkA ?_ _)); exact BK333.out)⟩; have n2_ : Az (wr.heap[gb334]? = some (.cells #[u335000] 53 (0, 0))) := ⟨by rw [← hq_]; exact (by (with_reducible repeat (first | refine bdN ?_ _ | refine blk_drew ?_ | refine bkA ?_ _)); exact BK334.out)⟩; have n3_ : Az (Below w.heap.size w wr) := ⟨by rw [← hq_]; exact (by repeat (first | (with_reducible first | exact HB.out | apply bal | apply pwN | apply bd1 | refine bset ?_ GE333.out | refine bset ?_ GE334.out) | exact HB.out))⟩; clear HO_335000 BK333 BK334 HB hq_; have HO_335000 := n0_; have BK333 := n1_; have BK334 := n2_; have HB := n3_; clear n0_ n1_ n2_ n3_))) | ((with_reducible refine gate_callee (f := 87) rfl ?_); refine goesL_ (some 32) rfl rfl Try.func87 (by kernel_rfl) rfl #[.string a0, .int .i64 x1_1, .string (⟨#[40]⟩ : ByteArray)] rfl (by (try simp only [List.map_toArray, List.map_cons, List.map_nil]); first | done | rfl | (simp only [List.length_drop, List.length_take]; rfl)) ?_; (with_reducible refine (virgationref01_begins.calls a0 x1_1 (⟨#[40]⟩ : ByteArray) true _ A19.out).mono ?_); rintro e w' ⟨rfl, ⟨nd, rfl⟩⟩; refine ⟨_, rfl, ?_⟩; (try (rw [drewN_self wr]; generalize hq_ : World.drewN wr _ = wr; have n0_ : Az (Kd.R k53 53 wr w.heap.size (fun k_ => k_ ≠ gb333 ∧ k_ ≠ gb334) u335000 x335000_1) := ⟨by rw [← hq_]; exact (by (with_reducible repeat (first | apply Kd.R_alloc | apply Kd.R_drewN | apply Kd.R_drew)); exact HO_335000.out)⟩; have n1_ : Az (wr.heap[gb333]? = some (.cells #[.slice none 0 0] 53 (0, 0))) := ⟨by rw [← hq_]; exact (by (with_reducible repeat (first | refine bdN ?_ _ | refine blk_drew ?_ | refine bkA ?_ _)); exact BK333.out)⟩; have n2_ : Az (wr.heap[gb334]? = some (.cells #[u335000] 53 (0, 0))) := ⟨by rw [← hq_]; exact (by (with_reducible repeat (first | refine bdN ?_ _ | refine blk_drew ?_ | refine bkA ?_ _)); exact BK334.out)⟩; have n3_ : Az (Below w.heap.size w wr) := ⟨by rw [← hq_]; exact (by repeat (first | (with_reducible first | exact HB.out | apply bal | apply pwN | apply bd1 | refine bset ?_ GE333.out | refine bset ?_ GE334.out) | exact HB.out))⟩; clear HO_335000 BK333 BK334 HB hq_; have HO_335000 := n0_; have BK333 := n1_; have BK334 := n2_; have HB := n3_; clear n0_ n1_ n2_ n3_))) | ((with_reducible refine gate_callee (f := 80) rfl ?_); refine goesL_ (some 40) rfl rfl Try.func80 (by kernel_rfl) rfl #[.string a0, .int .i64 (wrap64 (x1_1 + 1))] rfl (by (try simp only [List.map_toArray, List.map_cons, List.map_nil]); first | done | rfl | (simp only [List.length_drop, List.length_take]; rfl)) ?_; (with_reducible refine (ih k1 (by have := HK1.out; omega) a0 (wrap64 (x1_1 + 1)) t341 t344 false _ A21.out).mono ?_); rintro e w60 ⟨v342, rfl, ho0, hb⟩; refine ⟨_, rfl, ?_⟩; have n0_ := Az.mk (Kd.R_elder' (by (with_reducible repeat (first | apply Kd.R_alloc | apply Kd.R_drewN | apply Kd.R_drew)); exact HO_335000.out) (Kd.R_base ho0) hb); have n1_ := Az.mk (Kd.R_lower (Kd.R_newB (Kd.R_newB (Kd.R_new' ho0 (Kd.R_lt (by (with_reducible repeat (first | apply Kd.R_alloc | apply Kd.R_drewN | apply Kd.R_drew)); exact HO_335000.out))) (g := gb333) (o := .cells #[.slice none 0 0] 53 (0, 0)) (by (with_reducible repeat (first | refine bdN ?_ _ | refine blk_drew ?_ | refine bkA ?_ _)); exact BK333.out)) (g := gb334) (o := .cells #[u335000] 53 (0, 0)) (by (with_reducible repeat (first | refine bdN ?_ _ | refine blk_drew ?_ | refine bkA ?_ _)); exact BK334.out)) (below_size (by repeat (first | (with_reducible first | exact HB.out | apply bal | apply pwN | apply bd1 | refine bset ?_ GE333.out | refine bset ?_ GE334.out) | exact HB.out)))); have n2_ := Az.mk (bkB (g := gb333) (o := .cells #[.slice none 0 0] 53 (0, 0)) (by (with_reducible repeat (first | refine bdN ?_ _ | refine blk_drew ?_ | refine bkA ?_ _)); exact BK333.out) hb); have n3_ := Az.mk (bkB (g := gb334) (o := .cells #[u335000] 53 (0, 0)) (by (with_reducible repeat (first | refine bdN ?_ _ | refine blk_drew ?_ | refine bkA ?_ _)); exact BK334.out) hb); have n4_ := Az.mk (bst (by repeat (first | (with_reducible first | exact HB.out | apply bal | apply pwN | apply bd1 | refine bset ?_ GE333.out | refine bset ?_ GE334.out) | exact HB.out)) hb); clear HO_335000; clear BK333; clear BK334; clear HB; have HO_335000 := n0_; have HO343 := n1_; have BK333 := n2_; have BK334 := n3_; have HB := n4_; clear n0_ n1_ n2_ n3_ n4_; (try clear hb); (try clear hb2); (try clear hk); (try clear hi); (try clear ho0)) | ((with_reducible refine gate_dst (N := 8) rfl ?_); (try (refine gate_guard (by rfl) ?_; dsimp only)); refine box_event ?hg (N := 8) ?hd (cs := #[.slice none 0 0]) (t := 53) ?hr ?_; (case hd => rfl); (case hg => rfl); (case hr => first | (go_simp; done) | (go_simp; rfl)); intro gb346 hg w61 hbox hb; have n0_ := Az.mk (Kd.R_below (Kd.R_elderB (by (with_reducible repeat (first | apply Kd.R_alloc | apply Kd.R_drewN | apply Kd.R_drew)); exact HO_335000.out) gb346 (Nat.le_of_eq hg.symm)) hb); have n1_ := Az.mk (Kd.R_below (Kd.R_elderB (by (with_reducible repeat (first | apply Kd.R_alloc | apply Kd.R_drewN | apply Kd.R_drew)); exact HO343.out) gb346 (Nat.le_of_eq hg.symm)) hb); have n2_ := Az.mk (bkB (g := gb333) (o := .cells #[.slice none 0 0] 53 (0, 0)) (by (with_reducible repeat (first | refine bdN ?_ _ | refine blk_drew ?_ | refine bkA ?_ _)); exact BK333.out) hb); have n3_ := Az.mk (bkB (g := gb334) (o := .cells #[u335000] 53 (0, 0)) (by (with_reducible repeat (first | refine bdN ?_ _ | refine blk_drew ?_ | refine bkA ?_ _)); exact BK334.out) hb); have n4_ := Az.mk (bst (by repeat (first | (with_reducible first | exact HB.out | apply bal | apply pwN | apply bd1 | refine bset ?_ GE333.out | refine bset ?_ GE334.out) | exact HB.out)) hb); have n5_ := Az.mk (hbox); have n6_ := Az.mk ((by rw [hg]; exact (below_size (by repeat (first | (with_reducible first | exact HB.out | apply bal | apply pwN | apply bd1 | refine bset ?_ GE333.out | refine bset ?_ GE334.out) | exact HB.out))) : w.heap.size ≤ gb346)); have n7_ := Az.mk ((by rw [hg]; exact (below_size (by repeat (first | (with_reducible first | exact HB.out | apply bal | apply pwN | apply bd1 | refine bset ?_ GE333.out | refine bset ?_ GE334.out) | exact HB.out))) : w.heap.size ≤ gb346)); have n8_ := Az.mk ((by rw [hg]; exact Nat.ne_of_lt (blk_lt (g := gb333) (o := .cells #[.slice none 0 0] 53 (0, 0)) (by (with_reducible repeat (first | refine bdN ?_ _ | refine blk_drew ?_ | refine bkA ?_ _)); exact BK333.out)) : gb333 ≠ gb346)); have n9_ := Az.mk ((by rw [hg]; exact Nat.ne_of_gt (blk_lt (g := gb333) (o := .cells #[.slice none 0 0] 53 (0, 0)) (by (with_reducible repeat (first | refine bdN ?_ _ | refine blk_drew ?_ | refine bkA ?_ _)); exact BK333.out)) : gb346 ≠ gb333)); have n10_ := Az.mk ((by rw [hg]; exact Nat.ne_of_lt (blk_lt (g := gb334) (o := .cells #[u335000] 53 (0, 0)) (by (with_reducible repeat (first | refine bdN ?_ _ | refine blk_drew ?_ | refine bkA ?_ _)); exact BK334.out)) : gb334 ≠ gb346)); have n11_ := Az.mk ((by rw [hg]; exact Nat.ne_of_gt (blk_lt (g := gb334) (o := .cells #[u335000] 53 (0, 0)) (by (with_reducible repeat (first | refine bdN ?_ _ | refine blk_drew ?_ | refine bkA ?_ _)); exact BK334.out)) : gb346 ≠ gb334)); clear HO_335000; clear HO343; clear BK333; clear BK334; clear HB; have HO_335000 := n0_; have HO343 := n1_; have BK333 := n2_; have BK334 := n3_; have HB := n4_; have BK346 := n5_; have GW346 := n6_; have GE346 := n7_; have NB333_346 := n8_; have NB346_333 := n9_; have NB334_346 := n10_; have NB346_334 := n11_; clear n0_ n1_ n2_ n3_ n4_ n5_ n6_ n7_ n8_ n9_ n10_ n11_; clear hb hbox hg; obtain ⟨Ao62, co62, eo62⟩ := Kd.R_slice HO343.out; subst eo62; have hnb63 := NB346_333.out; have hnc63 := NB333_346.out; have hnb64 := NB346_334.out; have hnc64 := NB334_346.out; have hcz65_0 : w61.cell? ⟨gb346, 0, none⟩ = some (.slice none 0 0) := (blk_cell BK346.out 0).trans rfl; have hfz65_0 := bkF BK346.out 0; have hnb66 := NB334_333.out; have hnc66 := NB333_334.out; have hcz67_0 : w61.cell? ⟨gb334, 0, none⟩ = some (u335000) := (blk_cell BK334.out 0).trans rfl; have hfz67_0 := bkF BK334.out 0; obtain ⟨Ao68, co68, eo68⟩ := Kd.R_slice HO_335000.out; subst eo68; have hcz69_0 : w61.cell? ⟨gb333, 0, none⟩ = some (.slice none 0 0) := (blk_cell BK333.out 0).trans rfl; have hfz69_0 := bkF BK333.out 0))
            refine bodyPost_ret (results_ctt rfl _ _ gb333 53 #[.slice Ao68 x335000_1.length co68] (0, 0) _ rfl (by (with_reducible repeat (first | refine bdN ?_ _ | refine blk_drew ?_ | refine bkA ?_ _)); refine blk_put (cs := #[.slice none 0 0]) ?_ 0 _ rfl; (with_reducible repeat (first | refine bdN ?_ _ | refine blk_drew ?_ | refine bkA ?_ _)); refine blk_far ?_ NB333_346.out _; (with_reducible repeat (first | refine bdN ?_ _ | refine blk_drew ?_ | refine bkA ?_ _)); exact BK333.out) Try.underlying53 rfl (by kernel_rfl)) rfl ?_
            exact ⟨_, by first | rfl | (simp [errW_none, errW_some] <;> rfl) | (simp [*, errW_none, errW_some] <;> rfl), by (with_reducible repeat (first | apply Kd.R_alloc | apply Kd.R_drewN | apply Kd.R_drew)); exact Kd.R_mono (Kd.R_far (p := ⟨gb333, 0, none⟩) (Kd.R_far (p := ⟨gb346, 0, none⟩) (Kd.R_mono (Kd.R_mono HO_335000.out (fun k_ hk => (⟨hk, hk.2⟩ : _ ∧ k_ ≠ gb346))) (fun k_ hk => (⟨hk, hk.1.1.1.1⟩ : _ ∧ k_ ≠ gb333))) (fun _ hk => hk.1.2) (.slice Ao62 t341.length co62)) (fun _ hk => hk.2) (.slice Ao68 x335000_1.length co68)) (fun _ hk => trivial), by repeat (first | (with_reducible first | exact HB.out | apply bal | apply pwN | apply bd1 | refine bset ?_ GE333.out | refine bset ?_ GE334.out | refine bset ?_ GE346.out) | exact HB.out)⟩
        · replace c20 := Bool.eq_false_iff.mpr c20
          subst c20
          have H1 : (some (x335000_1, x1_1, false)) = some (r1, r2, r3) := by rw [if_neg (show ¬ (false = true) by decide)] at H; exact H
          clear H
          have H := H1
          clear H1
          simp only [Option.some.injEq, Prod.mk.injEq] at H
          obtain ⟨rfl, rfl, rfl⟩ := H
          go_wp2_with (first | ((with_reducible refine gate_callee (f := 87) rfl ?_); refine goesL_ (some 13) rfl rfl Try.func87 (by kernel_rfl) rfl #[.string a0, .int .i64 x1_1, .string (⟨#[111]⟩ : ByteArray)] rfl (by (try simp only [List.map_toArray, List.map_cons, List.map_nil]); first | done | rfl | (simp only [List.length_drop, List.length_take]; rfl)) ?_; (with_reducible refine (virgationref01_begins.calls a0 x1_1 (⟨#[111]⟩ : ByteArray) false _ A5.out).mono ?_); rintro e w' ⟨rfl, ⟨nd, rfl⟩⟩; refine ⟨_, rfl, ?_⟩; (try (rw [drewN_self wr]; generalize hq_ : World.drewN wr _ = wr; have n0_ : Az (Kd.R k53 53 wr w.heap.size (fun k_ => k_ ≠ gb333 ∧ k_ ≠ gb334) u335000 x335000_1) := ⟨by rw [← hq_]; exact (by (with_reducible repeat (first | apply Kd.R_alloc | apply Kd.R_drewN | apply Kd.R_drew)); exact HO_335000.out)⟩; have n1_ : Az (wr.heap[gb333]? = some (.cells #[.slice none 0 0] 53 (0, 0))) := ⟨by rw [← hq_]; exact (by (with_reducible repeat (first | refine bdN ?_ _ | refine blk_drew ?_ | refine bkA ?_ _)); exact BK333.out)⟩; have n2_ : Az (wr.heap[gb334]? = some (.cells #[u335000] 53 (0, 0))) := ⟨by rw [← hq_]; exact (by (with_reducible repeat (first | refine bdN ?_ _ | refine blk_drew ?_ | refine bkA ?_ _)); exact BK334.out)⟩; have n3_ : Az (Below w.heap.size w wr) := ⟨by rw [← hq_]; exact (by repeat (first | (with_reducible first | exact HB.out | apply bal | apply pwN | apply bd1 | refine bset ?_ GE333.out | refine bset ?_ GE334.out) | exact HB.out))⟩; clear HO_335000 BK333 BK334 HB hq_; have HO_335000 := n0_; have BK333 := n1_; have BK334 := n2_; have HB := n3_; clear n0_ n1_ n2_ n3_))) | ((with_reducible refine gate_callee (f := 87) rfl ?_); refine goesL_ (some 32) rfl rfl Try.func87 (by kernel_rfl) rfl #[.string a0, .int .i64 x1_1, .string (⟨#[40]⟩ : ByteArray)] rfl (by (try simp only [List.map_toArray, List.map_cons, List.map_nil]); first | done | rfl | (simp only [List.length_drop, List.length_take]; rfl)) ?_; (with_reducible refine (virgationref01_begins.calls a0 x1_1 (⟨#[40]⟩ : ByteArray) false _ A19.out).mono ?_); rintro e w' ⟨rfl, ⟨nd, rfl⟩⟩; refine ⟨_, rfl, ?_⟩; (try (rw [drewN_self wr]; generalize hq_ : World.drewN wr _ = wr; have n0_ : Az (Kd.R k53 53 wr w.heap.size (fun k_ => k_ ≠ gb333 ∧ k_ ≠ gb334) u335000 x335000_1) := ⟨by rw [← hq_]; exact (by (with_reducible repeat (first | apply Kd.R_alloc | apply Kd.R_drewN | apply Kd.R_drew)); exact HO_335000.out)⟩; have n1_ : Az (wr.heap[gb333]? = some (.cells #[.slice none 0 0] 53 (0, 0))) := ⟨by rw [← hq_]; exact (by (with_reducible repeat (first | refine bdN ?_ _ | refine blk_drew ?_ | refine bkA ?_ _)); exact BK333.out)⟩; have n2_ : Az (wr.heap[gb334]? = some (.cells #[u335000] 53 (0, 0))) := ⟨by rw [← hq_]; exact (by (with_reducible repeat (first | refine bdN ?_ _ | refine blk_drew ?_ | refine bkA ?_ _)); exact BK334.out)⟩; have n3_ : Az (Below w.heap.size w wr) := ⟨by rw [← hq_]; exact (by repeat (first | (with_reducible first | exact HB.out | apply bal | apply pwN | apply bd1 | refine bset ?_ GE333.out | refine bset ?_ GE334.out) | exact HB.out))⟩; clear HO_335000 BK333 BK334 HB hq_; have HO_335000 := n0_; have BK333 := n1_; have BK334 := n2_; have HB := n3_; clear n0_ n1_ n2_ n3_)); have hnb70 := NB334_333.out; have hnc70 := NB333_334.out; have hcz71_0 : wr.cell? ⟨gb334, 0, none⟩ = some (u335000) := (blk_cell BK334.out 0).trans rfl; have hfz71_0 := bkF BK334.out 0; obtain ⟨Ao72, co72, eo72⟩ := Kd.R_slice HO_335000.out; subst eo72; have hcz73_0 : wr.cell? ⟨gb333, 0, none⟩ = some (.slice none 0 0) := (blk_cell BK333.out 0).trans rfl; have hfz73_0 := bkF BK333.out 0))
          refine bodyPost_ret (results_ctt rfl _ _ gb333 53 #[.slice Ao72 x335000_1.length co72] (0, 0) _ rfl (by (with_reducible repeat (first | refine bdN ?_ _ | refine blk_drew ?_ | refine bkA ?_ _)); refine blk_put (cs := #[.slice none 0 0]) ?_ 0 _ rfl; (with_reducible repeat (first | refine bdN ?_ _ | refine blk_drew ?_ | refine bkA ?_ _)); exact BK333.out) Try.underlying53 rfl (by kernel_rfl)) rfl ?_
          exact ⟨_, by first | rfl | (simp [errW_none, errW_some] <;> rfl) | (simp [*, errW_none, errW_some] <;> rfl), by (with_reducible repeat (first | apply Kd.R_alloc | apply Kd.R_drewN | apply Kd.R_drew)); exact Kd.R_mono (Kd.R_far (p := ⟨gb333, 0, none⟩) (Kd.R_mono HO_335000.out (fun k_ hk => (⟨hk, hk.1⟩ : _ ∧ k_ ≠ gb333))) (fun _ hk => hk.2) (.slice Ao72 x335000_1.length co72)) (fun _ hk => trivial), by repeat (first | (with_reducible first | exact HB.out | apply bal | apply pwN | apply bd1 | refine bset ?_ GE333.out | refine bset ?_ GE334.out) | exact HB.out)⟩
end Go.Proofs.Ytnfgpepggehegaa.I
namespace Go.Proofs.Ytnfgpepggehegaa.I
open Go.RowKit Go.Proofs.YtnfgpepggehegaaW.PrintWords Go.Proofs.YtnfgpepggehegaaW.PrintLast Go.Proofs.YtnfgpepggehegaaW.PrintMore
attribute [local go_sem] max2_int min2_int max_two min_two max_three min_three max_four min_four   -- for this text's walks alone
set_option linter.unusedVariables false
set_option linter.unusedSimpArgs false
def virgationref03_number.l0 : Nat → ByteArray → Int → Int → Int → Option (Int × Int × Bool)
  | 0, _, _, _, _ => none
  | k + 1, x0, x1, x7, x8 => if x1 < (x0.size : Int) then (if 0 ≤ x1 then (if (bt x0 x1) ≥ 48 then (if (bt x0 x1) ≤ 57 then (if (wrap64 (x1 - x8)) < 11 then (virgationref03_number.l0 k x0 (wrap64 (x1 + 1)) (wrap64 ((wrap64 (10 * x7)) + (((bt x0 x1) - 48) % 256))) x8) else (if x1 > x8 then (if x7 ≤ 1000000000 then (if x1 = (wrap64 (x8 + 1)) then (some (x7, x1, true)) else (if 0 ≤ x8 then (if x8 < (x0.size : Int) then (some (x7, x1, ((bt x0 x8) != 48))) else (none)) else (none))) else (some (x7, x1, false))) else (some (x7, x1, false)))) else (if x1 > x8 then (if x7 ≤ 1000000000 then (if x1 = (wrap64 (x8 + 1)) then (some (x7, x1, true)) else (if 0 ≤ x8 then (if x8 < (x0.size : Int) then (some (x7, x1, ((bt x0 x8) != 48))) else (none)) else (none))) else (some (x7, x1, false))) else (some (x7, x1, false)))) else (if x1 > x8 then (if x7 ≤ 1000000000 then (if x1 = (wrap64 (x8 + 1)) then (some (x7, x1, true)) else (if 0 ≤ x8 then (if x8 < (x0.size : Int) then (some (x7, x1, ((bt x0 x8) != 48))) else (none)) else (none))) else (some (x7, x1, false))) else (some (x7, x1, false)))) else (none)) else (if x1 > x8 then (if x7 ≤ 1000000000 then (if x1 = (wrap64 (x8 + 1)) then (some (x7, x1, true)) else (if 0 ≤ x8 then (if x8 < (x0.size : Int) then (some (x7, x1, ((bt x0 x8) != 48))) else (none)) else (none))) else (some (x7, x1, false))) else (some (x7, x1, false)))
def virgationref03_number.f (k : Nat) (a0 : ByteArray) (a1 : Int) : Option (Int × Int × Bool) := virgationref03_number.l0 k a0 a1 0 a1
set_option maxHeartbeats 8000000 in
set_option maxRecDepth 100000 in
theorem virgationref03_number.calls (k : Nat) (a0 : ByteArray) (a1 : Int) (r1 : Int) (r2 : Int) (r3 : Bool) (w : World) (h : virgationref03_number.f k a0 a1 = some (r1, r2, r3)) :
    Calls Try.prog 79 #[.string a0, .int .i64 a1] w fun e w' => e = .returned (.tuple #[.int .i64 r1, .int .i64 r2, .bool r3]) ∧ Drawn0 w w' := by
  have H : (virgationref03_number.l0 k a0 a1 0 a1) = some (r1, r2, r3) := h
  clear h
  have H' := Az.mk H
  clear H
  go_enter Try.func79, Try.ntmps79
  go_wp2
  repeat (go_quiet (fail); try go_wp2)
  go_loopg [1, 7] k (fun kq v1 v7 w' => ∃ (x1_1 : Int) (x7_1 : Int), v1 = .int .i64 x1_1 ∧ v7 = .int .i64 x7_1 ∧ Az (virgationref03_number.l0 kq a0 x1_1 x7_1 a1 = some (r1, r2, r3)) ∧ Az (kq ≤ k) ∧ Drawn0 w w')
  case atStart => exact ⟨(a1), (0), (by first | rfl | (simp; done) | (simp [*]; done)), (by first | rfl | (simp; done) | (simp [*]; done)), H', ⟨Nat.le_refl _⟩, by repeat (first | exact Drawn0.refl _ | apply Drawn0.step)⟩
  case round =>
    clear H'
    try clear p2
    obtain ⟨x1_1, x7_1, rfl, rfl, HA, HK1, ⟨m1, rfl⟩⟩ := hrel
    cases gk with
    | zero => exact absurd HA.out (by simp [virgationref03_number.l0])
    | succ k1 =>
      have H := HA.out
      clear HA
      simp only [virgationref03_number.l0] at H
      by_cases c3 : x1_1 < (a0.size : Int)
      · rw [if_pos c3] at H
        have c3b0 : decide (x1_1 < (a0.size : Int)) = true := decide_eq_true c3
        clear c3
        by_cases c4 : 0 ≤ x1_1
        · rw [if_pos c4] at H
          have c4b0 : decide (0 ≤ x1_1) = true := decide_eq_true c4
          clear c4
          by_cases c6 : (bt a0 x1_1) ≥ 48
          · rw [if_pos c6] at H
            have c6b0 : decide (48 ≤ (bt a0 x1_1)) = true := decide_eq_true c6
            clear c6
            by_cases c8 : (bt a0 x1_1) ≤ 57
            · rw [if_pos c8] at H
              have c8b0 : decide ((bt a0 x1_1) ≤ 57) = true := decide_eq_true c8
              clear c8
              by_cases c9 : (wrap64 (x1_1 - a1)) < 11
              · rw [if_pos c9] at H
                have c9b0 : decide ((wrap64 (x1_1 - a1)) < 11) = true := decide_eq_true c9
                clear c9
                have H' := Az.mk H
                clear H
                have p5 : 0 ≤ (x1_1 : Int) := of_decide_eq_true (by first | (with_reducible assumption) | assumption)
                have q5 : x1_1 < (a0.size : Int) := of_decide_eq_true (by first | (with_reducible assumption) | assumption)
                have hx5 := bt_at a0 x1_1
                replace p5 := eq_true p5
                replace q5 := eq_true q5
                have p7 : 0 ≤ (x1_1 : Int) := of_decide_eq_true (by first | (with_reducible assumption) | assumption)
                have q7 : x1_1 < (a0.size : Int) := of_decide_eq_true (by first | (with_reducible assumption) | assumption)
                have hx7 := bt_at a0 x1_1
                replace p7 := eq_true p7
                replace q7 := eq_true q7
                have p10 : 0 ≤ (x1_1 : Int) := of_decide_eq_true (by first | (with_reducible assumption) | assumption)
                have q10 : x1_1 < (a0.size : Int) := of_decide_eq_true (by first | (with_reducible assumption) | assumption)
                have hx10 := bt_at a0 x1_1
                replace p10 := eq_true p10
                replace q10 := eq_true q10
                go_wp2
                repeat (go_quiet (fail); try go_wp2)
                go_roundg k1
                case measure => have := HK1.out; omega
                case rel => exact ⟨(wrap64 (x1_1 + 1)), (wrap64 ((wrap64 (10 * x7_1)) + (((bt a0 x1_1) - 48) % 256))), (by first | rfl | (simp; done) | (simp [*]; done)), (by first | rfl | (simp; done) | (simp [*]; done)), H', ⟨by have := HK1.out; omega⟩, by repeat (first | exact Drawn0.refl _ | apply Drawn0.step)⟩
              · rw [if_neg c9] at H
                have c9b0 : decide ((wrap64 (x1_1 - a1)) < 11) = false := decide_eq_false c9
                clear c9
                by_cases c11 : x1_1 > a1
                · rw [if_pos c11] at H
                  have c11b0 : decide (a1 < x1_1) = true := decide_eq_true c11
                  clear c11
                  by_cases c12 : x7_1 ≤ 1000000000
                  · rw [if_pos c12] at H
                    have c12b0 : decide (x7_1 ≤ 1000000000) = true := decide_eq_true c12
                    clear c12
                    by_cases c13 : x1_1 = (wrap64 (a1 + 1))
                    · rw [if_pos c13] at H
                      have c13b0 : (x1_1 == (wrap64 (a1 + 1))) = true := beq_iff_eq.mpr c13
                      have c13b1 : (x1_1 != (wrap64 (a1 + 1))) = false := bne_eq_false_iff_eq.mpr c13
                      clear c13
                      simp only [Option.some.injEq, Prod.mk.injEq] at H
                      obtain ⟨rfl, rfl, rfl⟩ := H
                      have p5 : 0 ≤ (x1_1 : Int) := of_decide_eq_true (by first | (with_reducible assumption) | assumption)
                      have q5 : x1_1 < (a0.size : Int) := of_decide_eq_true (by first | (with_reducible assumption) | assumption)
                      have hx5 := bt_at a0 x1_1
                      replace p5 := eq_true p5
                      replace q5 := eq_true q5
                      have p7 : 0 ≤ (x1_1 : Int) := of_decide_eq_true (by first | (with_reducible assumption) | assumption)
                      have q7 : x1_1 < (a0.size : Int) := of_decide_eq_true (by first | (with_reducible assumption) | assumption)
                      have hx7 := bt_at a0 x1_1
                      replace p7 := eq_true p7
                      replace q7 := eq_true q7
                      go_wp2
                      repeat (go_quiet (fail); try go_wp2)
                      go_ret3
                      exact ⟨by first | rfl | (simp; done) | (simp [*]; done), by repeat (first | exact Drawn0.refl _ | apply Drawn0.step)⟩
                    · rw [if_neg c13] at H
                      have c13b0 : (x1_1 == (wrap64 (a1 + 1))) = false := beq_eq_false_iff_ne.mpr c13
                      have c13b1 : (x1_1 != (wrap64 (a1 + 1))) = true := bne_iff_ne.mpr c13
                      by_cases c14 : 0 ≤ a1
                      · rw [if_pos c14] at H
                        have c14b0 : decide (0 ≤ a1) = true := decide_eq_true c14
                        clear c14
                        by_cases c15 : a1 < (a0.size : Int)
                        · rw [if_pos c15] at H
                          have c15b0 : decide (a1 < (a0.size : Int)) = true := decide_eq_true c15
                          clear c15
                          simp only [Option.some.injEq, Prod.mk.injEq] at H
                          obtain ⟨rfl, rfl, rfl⟩ := H
                          have p5 : 0 ≤ (x1_1 : Int) := of_decide_eq_true (by first | (with_reducible assumption) | assumption)
                          have q5 : x1_1 < (a0.size : Int) := of_decide_eq_true (by first | (with_reducible assumption) | assumption)
                          have hx5 := bt_at a0 x1_1
                          replace p5 := eq_true p5
                          replace q5 := eq_true q5
                          have p7 : 0 ≤ (x1_1 : Int) := of_decide_eq_true (by first | (with_reducible assumption) | assumption)
                          have q7 : x1_1 < (a0.size : Int) := of_decide_eq_true (by first | (with_reducible assumption) | assumption)
                          have hx7 := bt_at a0 x1_1
                          replace p7 := eq_true p7
                          replace q7 := eq_true q7
                          have p16 : 0 ≤ (a1 : Int) := of_decide_eq_true (by first | (with_reducible assumption) | assumption)
                          have q16 : a1 < (a0.size : Int) := of_decide_eq_true (by first | (with_reducible assumption) | assumption)
                          have hx16 := bt_at a0 a1
                          replace p16 := eq_true p16
                          replace q16 := eq_true q16
                          go_wp2
                          repeat (go_quiet (fail); try go_wp2)
                          go_ret3
                          exact ⟨by first | rfl | (simp; done) | (simp [*]; done), by repeat (first | exact Drawn0.refl _ | apply Drawn0.step)⟩
                        · rw [if_neg c15] at H
                          exact absurd H (by simp)
                      · rw [if_neg c14] at H
                        exact absurd H (by simp)
                  · rw [if_neg c12] at H
                    have c12b0 : decide (x7_1 ≤ 1000000000) = false := decide_eq_false c12
                    clear c12
                    simp only [Option.some.injEq, Prod.mk.injEq] at H
                    obtain ⟨rfl, rfl, rfl⟩ := H
                    have p5 : 0 ≤ (x1_1 : Int) := of_decide_eq_true (by first | (with_reducible assumption) | assumption)
                    have q5 : x1_1 < (a0.size : Int) := of_decide_eq_true (by first | (with_reducible assumption) | assumption)
                    have hx5 := bt_at a0 x1_1
                    replace p5 := eq_true p5
                    replace q5 := eq_true q5
                    have p7 : 0 ≤ (x1_1 : Int) := of_decide_eq_true (by first | (with_reducible assumption) | assumption)
                    have q7 : x1_1 < (a0.size : Int) := of_decide_eq_true (by first | (with_reducible assumption) | assumption)
                    have hx7 := bt_at a0 x1_1
                    replace p7 := eq_true p7
                    replace q7 := eq_true q7
                    go_wp2
                    repeat (go_quiet (fail); try go_wp2)
                    go_ret3
                    exact ⟨by first | rfl | (simp; done) | (simp [*]; done), by repeat (first | exact Drawn0.refl _ | apply Drawn0.step)⟩
                · rw [if_neg c11] at H
                  have c11b0 : decide (a1 < x1_1) = false := decide_eq_false c11
                  clear c11
                  simp only [Option.some.injEq, Prod.mk.injEq] at H
                  obtain ⟨rfl, rfl, rfl⟩ := H
                  have p5 : 0 ≤ (x1_1 : Int) := of_decide_eq_true (by first | (with_reducible assumption) | assumption)
                  have q5 : x1_1 < (a0.size : Int) := of_decide_eq_true (by first | (with_reducible assumption) | assumption)
                  have hx5 := bt_at a0 x1_1
                  replace p5 := eq_true p5
                  replace q5 := eq_true q5
                  have p7 : 0 ≤ (x1_1 : Int) := of_decide_eq_true (by first | (with_reducible assumption) | assumption)
                  have q7 : x1_1 < (a0.size : Int) := of_decide_eq_true (by first | (with_reducible assumption) | assumption)
                  have hx7 := bt_at a0 x1_1
                  replace p7 := eq_true p7
                  replace q7 := eq_true q7
                  go_wp2
                  repeat (go_quiet (fail); try go_wp2)
                  go_ret3
                  exact ⟨by first | rfl | (simp; done) | (simp [*]; done), by repeat (first | exact Drawn0.refl _ | apply Drawn0.step)⟩
            · rw [if_neg c8] at H
              have c8b0 : decide ((bt a0 x1_1) ≤ 57) = false := decide_eq_false c8
              clear c8
              by_cases c17 : x1_1 > a1
              · rw [if_pos c17] at H
                have c17b0 : decide (a1 < x1_1) = true := decide_eq_true c17
                clear c17
                by_cases c18 : x7_1 ≤ 1000000000
                · rw [if_pos c18] at H
                  have c18b0 : decide (x7_1 ≤ 1000000000) = true := decide_eq_true c18
                  clear c18
                  by_cases c19 : x1_1 = (wrap64 (a1 + 1))
                  · rw [if_pos c19] at H
                    have c19b0 : (x1_1 == (wrap64 (a1 + 1))) = true := beq_iff_eq.mpr c19
                    have c19b1 : (x1_1 != (wrap64 (a1 + 1))) = false := bne_eq_false_iff_eq.mpr c19
                    clear c19
                    simp only [Option.some.injEq, Prod.mk.injEq] at H
                    obtain ⟨rfl, rfl, rfl⟩ := H
                    have p5 : 0 ≤ (x1_1 : Int) := of_decide_eq_true (by first | (with_reducible assumption) | assumption)
                    have q5 : x1_1 < (a0.size : Int) := of_decide_eq_true (by first | (with_reducible assumption) | assumption)
                    have hx5 := bt_at a0 x1_1
                    replace p5 := eq_true p5
                    replace q5 := eq_true q5
                    have p7 : 0 ≤ (x1_1 : Int) := of_decide_eq_true (by first | (with_reducible assumption) | assumption)
                    have q7 : x1_1 < (a0.size : Int) := of_decide_eq_true (by first | (with_reducible assumption) | assumption)
                    have hx7 := bt_at a0 x1_1
                    replace p7 := eq_true p7
                    replace q7 := eq_true q7
                    go_wp2
                    repeat (go_quiet (fail); try go_wp2)
                    go_ret3
                    exact ⟨by first | rfl | (simp; done) | (simp [*]; done), by repeat (first | exact Drawn0.refl _ | apply Drawn0.step)⟩
                  · rw [if_neg c19] at H
                    have c19b0 : (x1_1 == (wrap64 (a1 + 1))) = false := beq_eq_false_iff_ne.mpr c19
                    have c19b1 : (x1_1 != (wrap64 (a1 + 1))) = true := bne_iff_ne.mpr c19
                    by_cases c20 : 0 ≤ a1
                    · rw [if_pos c20] at H
                      have c20b0 : decide (0 ≤ a1) = true := decide_eq_true c20
                      clear c20
                      by_cases c21 : a1 < (a0.size : Int)
                      · rw [if_pos c21] at H
                        have c21b0 : decide (a1 < (a0.size : Int)) = true := decide_eq_true c21
                        clear c21
                        simp only [Option.some.injEq, Prod.mk.injEq] at H
                        obtain ⟨rfl, rfl, rfl⟩ := H
                        have p5 : 0 ≤ (x1_1 : Int) := of_decide_eq_true (by first | (with_reducible assumption) | assumption)
                        have q5 : x1_1 < (a0.size : Int) := of_decide_eq_true (by first | (with_reducible assumption) | assumption)
                        have hx5 := bt_at a0 x1_1
                        replace p5 := eq_true p5
                        replace q5 := eq_true q5
                        have p7 : 0 ≤ (x1_1 : Int) := of_decide_eq_true (by first | (with_reducible assumption) | assumption)
                        have q7 : x1_1 < (a0.size : Int) := of_decide_eq_true (by first | (with_reducible assumption) | assumption)
                        have hx7 := bt_at a0 x1_1
                        replace p7 := eq_true p7
                        replace q7 := eq_true q7
                        have p22 : 0 ≤ (a1 : Int) := of_decide_eq_true (by first | (with_reducible assumption) | assumption)
                        have q22 : a1 < (a0.size : Int) := of_decide_eq_true (by first | (with_reducible assumption) | assumption)
                        have hx22 := bt_at a0 a1
                        replace p22 := eq_true p22
                        replace q22 := eq_true q22
                        go_wp2
                        repeat (go_quiet (fail); try go_wp2)
                        go_ret3
                        exact ⟨by first | rfl | (simp; done) | (simp [*]; done), by repeat (first | exact Drawn0.refl _ | apply Drawn0.step)⟩
                      · rw [if_neg c21] at H
                        exact absurd H (by simp)
                    · rw [if_neg c20] at H
                      exact absurd H (by simp)
                · rw [if_neg c18] at H
                  have c18b0 : decide (x7_1 ≤ 1000000000) = false := decide_eq_false c18
                  clear c18
                  simp only [Option.some.injEq, Prod.mk.injEq] at H
                  obtain ⟨rfl, rfl, rfl⟩ := H
                  have p5 : 0 ≤ (x1_1 : Int) := of_decide_eq_true (by first | (with_reducible assumption) | assumption)
                  have q5 : x1_1 < (a0.size : Int) := of_decide_eq_true (by first | (with_reducible assumption) | assumption)
                  have hx5 := bt_at a0 x1_1
                  replace p5 := eq_true p5
                  replace q5 := eq_true q5
                  have p7 : 0 ≤ (x1_1 : Int) := of_decide_eq_true (by first | (with_reducible assumption) | assumption)
                  have q7 : x1_1 < (a0.size : Int) := of_decide_eq_true (by first | (with_reducible assumption) | assumption)
                  have hx7 := bt_at a0 x1_1
                  replace p7 := eq_true p7
                  replace q7 := eq_true q7
                  go_wp2
                  repeat (go_quiet (fail); try go_wp2)
                  go_ret3
                  exact ⟨by first | rfl | (simp; done) | (simp [*]; done), by repeat (first | exact Drawn0.refl _ | apply Drawn0.step)⟩
              · rw [if_neg c17] at H
                have c17b0 : decide (a1 < x1_1) = false := decide_eq_false c17
                clear c17
                simp only [Option.some.injEq, Prod.mk.injEq] at H
                obtain ⟨rfl, rfl, rfl⟩ := H
                have p5 : 0 ≤ (x1_1 : Int) := of_decide_eq_true (by first | (with_reducible assumption) | assumption)
                have q5 : x1_1 < (a0.size : Int) := of_decide_eq_true (by first | (with_reducible assumption) | assumption)
                have hx5 := bt_at a0 x1_1
                replace p5 := eq_true p5
                replace q5 := eq_true q5
                have p7 : 0 ≤ (x1_1 : Int) := of_decide_eq_true (by first | (with_reducible assumption) | assumption)
                have q7 : x1_1 < (a0.size : Int) := of_decide_eq_true (by first | (with_reducible assumption) | assumption)
                have hx7 := bt_at a0 x1_1
                replace p7 := eq_true p7
                replace q7 := eq_true q7
                go_wp2
                repeat (go_quiet (fail); try go_wp2)
                go_ret3
                exact ⟨by first | rfl | (simp; done) | (simp [*]; done), by repeat (first | exact Drawn0.refl _ | apply Drawn0.step)⟩
          · rw [if_neg c6] at H
            have c6b0 : decide (48 ≤ (bt a0 x1_1)) = false := decide_eq_false c6
            clear c6
            by_cases c23 : x1_1 > a1
            · rw [if_pos c23] at H
              have c23b0 : decide (a1 < x1_1) = true := decide_eq_true c23
              clear c23
              by_cases c24 : x7_1 ≤ 1000000000
              · rw [if_pos c24] at H
                have c24b0 : decide (x7_1 ≤ 1000000000) = true := decide_eq_true c24
                clear c24
                by_cases c25 : x1_1 = (wrap64 (a1 + 1))
                · rw [if_pos c25] at H
                  have c25b0 : (x1_1 == (wrap64 (a1 + 1))) = true := beq_iff_eq.mpr c25
                  have c25b1 : (x1_1 != (wrap64 (a1 + 1))) = false := bne_eq_false_iff_eq.mpr c25
                  clear c25
                  simp only [Option.some.injEq, Prod.mk.injEq] at H
                  obtain ⟨rfl, rfl, rfl⟩ := H
                  have p5 : 0 ≤ (x1_1 : Int) := of_decide_eq_true (by first | (with_reducible assumption) | assumption)
                  have q5 : x1_1 < (a0.size : Int) := of_decide_eq_true (by first | (with_reducible assumption) | assumption)
                  have hx5 := bt_at a0 x1_1
                  replace p5 := eq_true p5
                  replace q5 := eq_true q5
                  go_wp2
                  repeat (go_quiet (fail); try go_wp2)
                  go_ret3
                  exact ⟨by first | rfl | (simp; done) | (simp [*]; done), by repeat (first | exact Drawn0.refl _ | apply Drawn0.step)⟩
                · rw [if_neg c25] at H
                  have c25b0 : (x1_1 == (wrap64 (a1 + 1))) = false := beq_eq_false_iff_ne.mpr c25
                  have c25b1 : (x1_1 != (wrap64 (a1 + 1))) = true := bne_iff_ne.mpr c25
                  by_cases c26 : 0 ≤ a1
                  · rw [if_pos c26] at H
                    have c26b0 : decide (0 ≤ a1) = true := decide_eq_true c26
                    clear c26
                    by_cases c27 : a1 < (a0.size : Int)
                    · rw [if_pos c27] at H
                      have c27b0 : decide (a1 < (a0.size : Int)) = true := decide_eq_true c27
                      clear c27
                      simp only [Option.some.injEq, Prod.mk.injEq] at H
                      obtain ⟨rfl, rfl, rfl⟩ := H
                      have p5 : 0 ≤ (x1_1 : Int) := of_decide_eq_true (by first | (with_reducible assumption) | assumption)
                      have q5 : x1_1 < (a0.size : Int) := of_decide_eq_true (by first | (with_reducible assumption) | assumption)
                      have hx5 := bt_at a0 x1_1
                      replace p5 := eq_true p5
                      replace q5 := eq_true q5
                      have p28 : 0 ≤ (a1 : Int) := of_decide_eq_true (by first | (with_reducible assumption) | assumption)
                      have q28 : a1 < (a0.size : Int) := of_decide_eq_true (by first | (with_reducible assumption) | assumption)
                      have hx28 := bt_at a0 a1
                      replace p28 := eq_true p28
                      replace q28 := eq_true q28
                      go_wp2
                      repeat (go_quiet (fail); try go_wp2)
                      go_ret3
                      exact ⟨by first | rfl | (simp; done) | (simp [*]; done), by repeat (first | exact Drawn0.refl _ | apply Drawn0.step)⟩
                    · rw [if_neg c27] at H
                      exact absurd H (by simp)
                  · rw [if_neg c26] at H
                    exact absurd H (by simp)
              · rw [if_neg c24] at H
                have c24b0 : decide (x7_1 ≤ 1000000000) = false := decide_eq_false c24
                clear c24
                simp only [Option.some.injEq, Prod.mk.injEq] at H
                obtain ⟨rfl, rfl, rfl⟩ := H
                have p5 : 0 ≤ (x1_1 : Int) := of_decide_eq_true (by first | (with_reducible assumption) | assumption)
                have q5 : x1_1 < (a0.size : Int) := of_decide_eq_true (by first | (with_reducible assumption) | assumption)
                have hx5 := bt_at a0 x1_1
                replace p5 := eq_true p5
                replace q5 := eq_true q5
                go_wp2
                repeat (go_quiet (fail); try go_wp2)
                go_ret3
                exact ⟨by first | rfl | (simp; done) | (simp [*]; done), by repeat (first | exact Drawn0.refl _ | apply Drawn0.step)⟩
            · rw [if_neg c23] at H
              have c23b0 : decide (a1 < x1_1) = false := decide_eq_false c23
              clear c23
              simp only [Option.some.injEq, Prod.mk.injEq] at H
              obtain ⟨rfl, rfl, rfl⟩ := H
              have p5 : 0 ≤ (x1_1 : Int) := of_decide_eq_true (by first | (with_reducible assumption) | assumption)
              have q5 : x1_1 < (a0.size : Int) := of_decide_eq_true (by first | (with_reducible assumption) | assumption)
              have hx5 := bt_at a0 x1_1
              replace p5 := eq_true p5
              replace q5 := eq_true q5
              go_wp2
              repeat (go_quiet (fail); try go_wp2)
              go_ret3
              exact ⟨by first | rfl | (simp; done) | (simp [*]; done), by repeat (first | exact Drawn0.refl _ | apply Drawn0.step)⟩
        · rw [if_neg c4] at H
          exact absurd H (by simp)
      · rw [if_neg c3] at H
        have c3b0 : decide (x1_1 < (a0.size : Int)) = false := decide_eq_false c3
        clear c3
        by_cases c29 : x1_1 > a1
        · rw [if_pos c29] at H
          have c29b0 : decide (a1 < x1_1) = true := decide_eq_true c29
          clear c29
          by_cases c30 : x7_1 ≤ 1000000000
          · rw [if_pos c30] at H
            have c30b0 : decide (x7_1 ≤ 1000000000) = true := decide_eq_true c30
            clear c30
            by_cases c31 : x1_1 = (wrap64 (a1 + 1))
            · rw [if_pos c31] at H
              have c31b0 : (x1_1 == (wrap64 (a1 + 1))) = true := beq_iff_eq.mpr c31
              have c31b1 : (x1_1 != (wrap64 (a1 + 1))) = false := bne_eq_false_iff_eq.mpr c31
              clear c31
              simp only [Option.some.injEq, Prod.mk.injEq] at H
              obtain ⟨rfl, rfl, rfl⟩ := H
              go_wp2
              repeat (go_quiet (fail); try go_wp2)
              go_ret3
              exact ⟨by first | rfl | (simp; done) | (simp [*]; done), by repeat (first | exact Drawn0.refl _ | apply Drawn0.step)⟩
            · rw [if_neg c31] at H
              have c31b0 : (x1_1 == (wrap64 (a1 + 1))) = false := beq_eq_false_iff_ne.mpr c31
              have c31b1 : (x1_1 != (wrap64 (a1 + 1))) = true := bne_iff_ne.mpr c31
              by_cases c32 : 0 ≤ a1
              · rw [if_pos c32] at H
                have c32b0 : decide (0 ≤ a1) = true := decide_eq_true c32
                clear c32
                by_cases c33 : a1 < (a0.size : Int)
                · rw [if_pos c33] at H
                  have c33b0 : decide (a1 < (a0.size : Int)) = true := decide_eq_true c33
                  clear c33
                  simp only [Option.some.injEq, Prod.mk.injEq] at H
                  obtain ⟨rfl, rfl, rfl⟩ := H
                  have p34 : 0 ≤ (a1 : Int) := of_decide_eq_true (by first | (with_reducible assumption) | assumption)
                  have q34 : a1 < (a0.size : Int) := of_decide_eq_true (by first | (with_reducible assumption) | assumption)
                  have hx34 := bt_at a0 a1
                  replace p34 := eq_true p34
                  replace q34 := eq_true q34
                  go_wp2
                  repeat (go_quiet (fail); try go_wp2)
                  go_ret3
                  exact ⟨by first | rfl | (simp; done) | (simp [*]; done), by repeat (first | exact Drawn0.refl _ | apply Drawn0.step)⟩
                · rw [if_neg c33] at H
                  exact absurd H (by simp)
              · rw [if_neg c32] at H
                exact absurd H (by simp)
          · rw [if_neg c30] at H
            have c30b0 : decide (x7_1 ≤ 1000000000) = false := decide_eq_false c30
            clear c30
            simp only [Option.some.injEq, Prod.mk.injEq] at H
            obtain ⟨rfl, rfl, rfl⟩ := H
            go_wp2
            repeat (go_quiet (fail); try go_wp2)
            go_ret3
            exact ⟨by first | rfl | (simp; done) | (simp [*]; done), by repeat (first | exact Drawn0.refl _ | apply Drawn0.step)⟩
        · rw [if_neg c29] at H
          have c29b0 : decide (a1 < x1_1) = false := decide_eq_false c29
          clear c29
          simp only [Option.some.injEq, Prod.mk.injEq] at H
          obtain ⟨rfl, rfl, rfl⟩ := H
          go_wp2
          repeat (go_quiet (fail); try go_wp2)
          go_ret3
          exact ⟨by first | rfl | (simp; done) | (simp [*]; done), by repeat (first | exact Drawn0.refl _ | apply Drawn0.step)⟩
end Go.Proofs.Ytnfgpepggehegaa.I
namespace Go.Proofs.Ytnfgpepggehegaa.I
open Go.RowKit Go.Proofs.YtnfgpepggehegaaW.PrintWords Go.Proofs.YtnfgpepggehegaaW.PrintLast Go.Proofs.YtnfgpepggehegaaW.PrintMore
attribute [local go_sem] max2_int min2_int max_two min_two max_three min_three max_four min_four   -- for this text's walks alone
set_option linter.unusedVariables false
set_option linter.unusedSimpArgs false
def virgationlaw05_start.f  : Option (Int × Int × (List (S28))) := some (1, 0, ([] : List (S28)))
set_option maxHeartbeats 8000000 in
set_option maxRecDepth 100000 in
theorem virgationlaw05_start.calls  (r1 : Int) (r2 : Int) (r3 : List (S28)) (w : World) (h : virgationlaw05_start.f  = some (r1, r2, r3)) :
    Calls Try.prog 35 #[] w fun e w' => ∃ v2_ : Value, e = .returned (.agg #[.int .i64 r1, .int .i64 r2, v2_]) ∧ Kd.R k28 28 w' w.heap.size (fun _ => True) v2_ r3 ∧ Below w.heap.size w w' := by
  have hu28 := Try.underlying28
  have HB := Az.mk (Below.refl w.heap.size w)
  have H : (some (1, 0, ([] : List (S28)))) = some (r1, r2, r3) := h
  clear h
  simp only [Option.some.injEq, Prod.mk.injEq] at H
  obtain ⟨rfl, rfl, rfl⟩ := H
  go_enter Try.func35, Try.ntmps35
  go_wp2_with (first | ((with_reducible refine gate_dst (N := 0) rfl ?_); refine box_event ?hg (N := 0) ?hd (cs := #[.int .i64 0, .int .i64 0, .slice none 0 0]) (t := 28) ?hr ?_; (case hd => rfl); (case hg => rfl); (case hr => first | (go_simp; done) | (go_simp; rfl)); intro gb305 hg w1 hbox hb; have n0_ := Az.mk (bst (by repeat (first | (with_reducible first | exact HB.out | apply bal | apply pwN | apply bd1) | exact HB.out)) hb); have n1_ := Az.mk (hbox); have n2_ := Az.mk ((by rw [hg]; exact (below_size (by repeat (first | (with_reducible first | exact HB.out | apply bal | apply pwN | apply bd1) | exact HB.out))) : w.heap.size ≤ gb305)); have n3_ := Az.mk ((by rw [hg]; exact (below_size (by repeat (first | (with_reducible first | exact HB.out | apply bal | apply pwN | apply bd1) | exact HB.out))) : w.heap.size ≤ gb305)); clear HB; have HB := n0_; have BK305 := n1_; have GW305 := n2_; have GE305 := n3_; clear n0_ n1_ n2_ n3_; clear hb hbox hg; have hcz2_0 : w1.cell? ⟨gb305, 0, none⟩ = some (.int .i64 0) := (blk_cell BK305.out 0).trans rfl; have hcz2_1 : w1.cell? ⟨gb305, 1, none⟩ = some (.int .i64 0) := (blk_cell BK305.out 1).trans rfl; have hcz2_2 : w1.cell? ⟨gb305, 2, none⟩ = some (.slice none 0 0) := (blk_cell BK305.out 2).trans rfl; have hfz2_0 := bkF BK305.out 0; have hfz2_1 := bkF BK305.out 1; have hfz2_2 := bkF BK305.out 2))
  refine bodyPost_ret (results_cell_row rfl _ _ gb305 28 #[.int .i64 1, .int .i64 0, .slice none 0 0] (0, 0) _ rfl (by (with_reducible repeat (first | refine bdN ?_ _ | refine blk_drew ?_ | refine bkA ?_ _)); refine blk_put (cs := #[.int .i64 1, .int .i64 0, .slice none 0 0]) ?_ 2 _ rfl; (with_reducible repeat (first | refine bdN ?_ _ | refine blk_drew ?_ | refine bkA ?_ _)); refine blk_put (cs := #[.int .i64 1, .int .i64 0, .slice none 0 0]) ?_ 1 _ rfl; (with_reducible repeat (first | refine bdN ?_ _ | refine blk_drew ?_ | refine bkA ?_ _)); refine blk_put (cs := #[.int .i64 0, .int .i64 0, .slice none 0 0]) ?_ 0 _ rfl; (with_reducible repeat (first | refine bdN ?_ _ | refine blk_drew ?_ | refine bkA ?_ _)); exact BK305.out) Try.underlying28 rfl (by kernel_rfl)) rfl ?_
  exact ⟨_, by first | rfl | (simp [errW_none, errW_some] <;> rfl) | (simp [*, errW_none, errW_some] <;> rfl), by first | exact Kd.R_nil _ _ _ _ _ | exact Kd.N_nil _ _ _ _ _ | exact Kd.V_nil _ _ _ _ _ | exact Kd.Q_nil _ _ _ _ _ | exact Kd.S_nil _ _ _ _ _, by repeat (first | (with_reducible first | exact HB.out | apply bal | apply pwN | apply bd1 | refine bset ?_ GE305.out) | exact HB.out)⟩
def virgationref03_Number.f : Nat → Int → Option (ByteArray)
  | 0, _ => none
  | k + 1, a0 => if a0 < 10 then (if 0 ≤ a0 then (if a0 ≤ (wrap64 (a0 + 1)) then (if (wrap64 (a0 + 1)) ≤ 10 then (some ((⟨#[48, 49, 50, 51, 52, 53, 54, 55, 56, 57]⟩ : ByteArray).extract (a0 : Int).toNat ((wrap64 (a0 + 1)) : Int).toNat)) else (none)) else (none)) else (none)) else ((virgationref03_Number.f k (wrap64 (Int.tdiv a0 10))).bind fun t306 => ((virgationref03_Number.f k (Int.tmod a0 10)).bind fun t307 => (if t306.size + t307.size ≤ 9223372036854775807 then (some (t306 ++ t307)) else (none))))
set_option maxHeartbeats 8000000 in
set_option maxRecDepth 100000 in
theorem virgationref03_Number.calls (k : Nat) : ∀ (a0 : Int) (r : ByteArray) (w : World) (h : virgationref03_Number.f k a0 = some r),
    Calls Try.prog 64 #[.int .i64 a0] w fun e w' => e = .returned (.string r) ∧ Drawn0 w w' := by
  induction k using Nat.strongRecOn with
  | _ k ih =>
  intro a0 r w h
  cases k with
  | zero => exact absurd h (by simp [virgationref03_Number.f])
  | succ k =>
  simp only [virgationref03_Number.f] at h
  have H : (if a0 < 10 then (if 0 ≤ a0 then (if a0 ≤ (wrap64 (a0 + 1)) then (if (wrap64 (a0 + 1)) ≤ 10 then (some ((⟨#[48, 49, 50, 51, 52, 53, 54, 55, 56, 57]⟩ : ByteArray).extract (a0 : Int).toNat ((wrap64 (a0 + 1)) : Int).toNat)) else (none)) else (none)) else (none)) else ((virgationref03_Number.f k (wrap64 (Int.tdiv a0 10))).bind fun t306 => ((virgationref03_Number.f k (Int.tmod a0 10)).bind fun t307 => (if t306.size + t307.size ≤ 9223372036854775807 then (some (t306 ++ t307)) else (none))))) = some r := h
  clear h
  by_cases c2 : a0 < 10
  · rw [if_pos c2] at H
    have c2b0 : decide (a0 < 10) = true := decide_eq_true c2
    clear c2
    by_cases c3 : 0 ≤ a0
    · rw [if_pos c3] at H
      have c3b0 := eq_true c3
      have c3b1 : decide (0 ≤ a0) = true := decide_eq_true c3
      clear c3
      by_cases c4 : a0 ≤ (wrap64 (a0 + 1))
      · rw [if_pos c4] at H
        have c4b0 := eq_true c4
        have c4b1 : decide (a0 ≤ (wrap64 (a0 + 1))) = true := decide_eq_true c4
        by_cases c5 : (wrap64 (a0 + 1)) ≤ 10
        · rw [if_pos c5] at H
          have c5b0 := eq_true c5
          have c5b1 : decide ((wrap64 (a0 + 1)) ≤ 10) = true := decide_eq_true c5
          obtain rfl := Option.some.inj H
          go_enter Try.func64, Try.ntmps64
          go_wp2
          go_ret
          exact ⟨by first | rfl | (simp; done) | (simp [*]; done), by repeat (first | exact Drawn0.refl _ | apply Drawn0.step)⟩
        · rw [if_neg c5] at H
          exact absurd H (by simp)
      · rw [if_neg c4] at H
        exact absurd H (by simp)
    · rw [if_neg c3] at H
      exact absurd H (by simp)
  · rw [if_neg c2] at H
    have c2b0 : decide (a0 < 10) = false := decide_eq_false c2
    clear c2
    replace H := Option.bind_eq_some_iff.mp H
    obtain ⟨t306, A60, H⟩ := H
    replace H : ((virgationref03_Number.f k (Int.tmod a0 10)).bind fun t307 => (if t306.size + t307.size ≤ 9223372036854775807 then (some (t306 ++ t307)) else (none))) = some r := H
    have A6 := Az.mk A60
    clear A60
    replace H := Option.bind_eq_some_iff.mp H
    obtain ⟨t307, A70, H⟩ := H
    replace H : (if t306.size + t307.size ≤ 9223372036854775807 then (some (t306 ++ t307)) else (none)) = some r := H
    have A7 := Az.mk A70
    clear A70
    by_cases c8 : t306.size + t307.size ≤ 9223372036854775807
    · rw [if_pos c8] at H
      have c8b0 := eq_true c8
      have c8b1 : decide (t306.size + t307.size ≤ 9223372036854775807) = true := decide_eq_true c8
      try have c8b2 : (9223372036854775807 < t306.size + t307.size) = False := eq_false (Nat.not_lt.2 c8)
      obtain rfl := Option.some.inj H
      go_enter Try.func64, Try.ntmps64
      go_wp2_with (first | ((with_reducible refine gate_callee (f := 64) rfl ?_); refine goesL_ (some 11) rfl rfl Try.func64 (by kernel_rfl) rfl #[.int .i64 (wrap64 (Int.tdiv a0 10))] rfl (by (try simp only [List.map_toArray, List.map_cons, List.map_nil]); first | done | rfl | (simp only [List.length_drop, List.length_take]; rfl)) ?_; (with_reducible refine (ih k (by omega) (wrap64 (Int.tdiv a0 10)) t306 _ A6.out).mono ?_); rintro e w' ⟨rfl, ⟨nd, rfl⟩⟩; refine ⟨_, rfl, ?_⟩) | ((with_reducible refine gate_callee (f := 64) rfl ?_); refine goesL_ (some 14) rfl rfl Try.func64 (by kernel_rfl) rfl #[.int .i64 (Int.tmod a0 10)] rfl (by (try simp only [List.map_toArray, List.map_cons, List.map_nil]); first | done | rfl | (simp only [List.length_drop, List.length_take]; rfl)) ?_; (with_reducible refine (ih k (by omega) (Int.tmod a0 10) t307 _ A7.out).mono ?_); rintro e w' ⟨rfl, ⟨nd, rfl⟩⟩; refine ⟨_, rfl, ?_⟩))
      go_ret
      exact ⟨by first | rfl | (simp; done) | (simp [*]; done), by repeat (first | exact Drawn0.refl _ | apply Drawn0.step)⟩
    · rw [if_neg c8] at H
      exact absurd H (by simp)
end Go.Proofs.Ytnfgpepggehegaa.I
namespace Go.Proofs.Ytnfgpepggehegaa.I
open Go.RowKit Go.Proofs.YtnfgpepggehegaaW.PrintWords Go.Proofs.YtnfgpepggehegaaW.PrintLast Go.Proofs.YtnfgpepggehegaaW.PrintMore
attribute [local go_sem] max2_int min2_int max_two min_two max_three min_three max_four min_four   -- for this text's walks alone
set_option linter.unusedVariables false
set_option linter.unusedSimpArgs false
mutual
def virgationref03_Term.j0 : Nat → ByteArray → List (S87) → List (S84) → Int → Int → List (S28) → Option (ByteArray)
  | 0, _, _, _, _, _, _ => none
  | k + 1, x5, x309000, x309001, x310000, x310001, x310002 => virgationref03_Term.l0 k x5 x310002 (x310002.length : Int) 0 x309000 x309001
def virgationref03_Term.l0 : Nat → ByteArray → List (S28) → Int → Int → List (S87) → List (S84) → Option (ByteArray)
  | 0, _, _, _, _, _, _ => none
  | k + 1, x5, x34, x35, x36, x309000, x309001 => if x36 < x35 then (if 0 ≤ x36 then (if x36 < (x34.length : Int) then (if (((rd_T28 x34 x36).f2).length : Int) = 0 then (if x5.size + 1 ≤ 9223372036854775807 then ((virgationref03_Term.f k x309000 x309001 ((rd_T28 x34 x36).f0) ((rd_T28 x34 x36).f1) ((rd_T28 x34 x36).f2)).bind fun t315 => (if (x5 ++ (⟨#[32]⟩ : ByteArray)).size + t315.size ≤ 9223372036854775807 then (virgationref03_Term.l0 k ((x5 ++ (⟨#[32]⟩ : ByteArray)) ++ t315) x34 x35 (wrap64 (x36 + 1)) x309000 x309001) else (none))) else (none)) else (if x5.size + 2 ≤ 9223372036854775807 then ((virgationref03_Term.f k x309000 x309001 ((rd_T28 x34 x36).f0) ((rd_T28 x34 x36).f1) ((rd_T28 x34 x36).f2)).bind fun t316 => (if (x5 ++ (⟨#[32, 40]⟩ : ByteArray)).size + t316.size ≤ 9223372036854775807 then (if ((x5 ++ (⟨#[32, 40]⟩ : ByteArray)) ++ t316).size + 1 ≤ 9223372036854775807 then (virgationref03_Term.l0 k (((x5 ++ (⟨#[32, 40]⟩ : ByteArray)) ++ t316) ++ (⟨#[41]⟩ : ByteArray)) x34 x35 (wrap64 (x36 + 1)) x309000 x309001) else (none)) else (none))) else (none))) else (none)) else (none)) else (some x5)
def virgationref03_Term.f : Nat → List (S87) → List (S84) → Int → Int → List (S28) → Option (ByteArray)
  | 0, _, _, _, _, _ => none
  | k + 1, l0_0, l0_1, a1_0, a1_1, l1_2 => if a1_0 = 0 then ((virgationref03_Number.f k a1_1).bind fun t310 => (if 1 + t310.size ≤ 9223372036854775807 then (virgationref03_Term.j0 k ((⟨#[36]⟩ : ByteArray) ++ t310) l0_0 l0_1 a1_0 a1_1 l1_2) else (none))) else (if a1_0 = 1 then (if 0 ≤ a1_1 then (if a1_1 < (l0_1.length : Int) then (virgationref03_Term.j0 k ((rd_T84 l0_1 a1_1).f0) l0_0 l0_1 a1_0 a1_1 l1_2) else (none)) else (none)) else (if 0 ≤ a1_1 then (if a1_1 < (l0_0.length : Int) then (if 1 + ((rd_T87 l0_0 a1_1).f0).size ≤ 9223372036854775807 then (virgationref03_Term.j0 k ((⟨#[35]⟩ : ByteArray) ++ ((rd_T87 l0_0 a1_1).f0)) l0_0 l0_1 a1_0 a1_1 l1_2) else (none)) else (none)) else (none)))
end
set_option maxHeartbeats 8000000 in
set_option maxRecDepth 100000 in
theorem virgationref03_Term.calls (k : Nat) : ∀ (A0_0 : Option Addr) (c0_0 : Nat) (l0_0 : List (S87)) (A0_1 : Option Addr) (c0_1 : Nat) (l0_1 : List (S84)) (a1_0 : Int) (a1_1 : Int) (A1_2 : Option Addr) (c1_2 : Nat) (l1_2 : List (S28)) (r : ByteArray) (w : World) (hr0_0 : Kd.C k87 w A0_0 l0_0.length l0_0) (hc0_0 : l0_0.length ≤ c0_0) (hr0_1 : Kd.C k84 w A0_1 l0_1.length l0_1) (hc0_1 : l0_1.length ≤ c0_1) (hr1_2 : Kd.C k28 w A1_2 l1_2.length l1_2) (hc1_2 : l1_2.length ≤ c1_2) (h : virgationref03_Term.f k l0_0 l0_1 a1_0 a1_1 l1_2 = some r),
    Calls Try.prog 36 #[.agg #[.slice A0_0 l0_0.length c0_0, .slice A0_1 l0_1.length c0_1], .agg #[.int .i64 a1_0, .int .i64 a1_1, .slice A1_2 l1_2.length c1_2]] w fun e w' => e = .returned (.string r) ∧ Below w.heap.size w w' := by
  induction k using Nat.strongRecOn with
  | _ k ih =>
  intro A0_0 c0_0 l0_0 A0_1 c0_1 l0_1 a1_0 a1_1 A1_2 c1_2 l1_2 r w hr0_0 hc0_0 hr0_1 hc0_1 hr1_2 hc1_2 h
  cases k with
  | zero => exact absurd h (by simp [virgationref03_Term.f])
  | succ k =>
  simp only [virgationref03_Term.f] at h
  have hu25 := Try.underlying25
  have hu28 := Try.underlying28
  have HR0_0 := Az.mk hr0_0
  have HC0_0 := Az.mk hc0_0
  clear hr0_0 hc0_0
  have HR0_1 := Az.mk hr0_1
  have HC0_1 := Az.mk hc0_1
  clear hr0_1 hc0_1
  have HR1_2 := Az.mk hr1_2
  have HC1_2 := Az.mk hc1_2
  clear hr1_2 hc1_2
  have HB := Az.mk (Below.refl w.heap.size w)
  have H : (if a1_0 = 0 then ((virgationref03_Number.f k a1_1).bind fun t310 => (if 1 + t310.size ≤ 9223372036854775807 then (virgationref03_Term.j0 k ((⟨#[36]⟩ : ByteArray) ++ t310) l0_0 l0_1 a1_0 a1_1 l1_2) else (none))) else (if a1_0 = 1 then (if 0 ≤ a1_1 then (if a1_1 < (l0_1.length : Int) then (virgationref03_Term.j0 k ((rd_T84 l0_1 a1_1).f0) l0_0 l0_1 a1_0 a1_1 l1_2) else (none)) else (none)) else (if 0 ≤ a1_1 then (if a1_1 < (l0_0.length : Int) then (if 1 + ((rd_T87 l0_0 a1_1).f0).size ≤ 9223372036854775807 then (virgationref03_Term.j0 k ((⟨#[35]⟩ : ByteArray) ++ ((rd_T87 l0_0 a1_1).f0)) l0_0 l0_1 a1_0 a1_1 l1_2) else (none)) else (none)) else (none)))) = some r := h
  clear h
  have HC3 := Az.mk H
  clear H
  go_enter Try.func36, Try.ntmps36
  go_upto_block 0 with (first | ((with_reducible refine gate_dst (N := 2) rfl ?_); refine box_event ?hg (N := 2) ?hd (cs := #[.slice A0_0 l0_0.length c0_0, .slice A0_1 l0_1.length c0_1]) (t := 25) ?hr ?_; (case hd => rfl); (case hg => rfl); (case hr => first | (go_simp; done) | (go_simp; rfl)); intro gb308 hg w4 hbox hb; have n0_ := Az.mk (bst (by repeat (first | (with_reducible first | exact HB.out | apply bal | apply pwN | apply bd1) | exact HB.out)) hb); have n1_ := Az.mk (hbox); have n2_ := Az.mk ((by rw [hg]; exact (below_size (by repeat (first | (with_reducible first | exact HB.out | apply bal | apply pwN | apply bd1) | exact HB.out))) : w.heap.size ≤ gb308)); have n3_ := Az.mk ((by rw [hg]; exact (below_size (by repeat (first | (with_reducible first | exact HB.out | apply bal | apply pwN | apply bd1) | exact HB.out))) : w.heap.size ≤ gb308)); clear HB; have HB := n0_; have BK308 := n1_; have GW308 := n2_; have GE308 := n3_; clear n0_ n1_ n2_ n3_; clear hb hbox hg) | ((with_reducible refine gate_dst (N := 3) rfl ?_); refine box_event ?hg (N := 3) ?hd (cs := #[.int .i64 a1_0, .int .i64 a1_1, .slice A1_2 l1_2.length c1_2]) (t := 28) ?hr ?_; (case hd => rfl); (case hg => rfl); (case hr => first | (go_simp; done) | (go_simp; rfl)); intro gb309 hg w5 hbox hb; have n0_ := Az.mk (bkB (g := gb308) (o := .cells #[.slice A0_0 l0_0.length c0_0, .slice A0_1 l0_1.length c0_1] 25 (0, 0)) (by (with_reducible repeat (first | refine bdN ?_ _ | refine blk_drew ?_ | refine bkA ?_ _)); exact BK308.out) hb); have n1_ := Az.mk (bst (by repeat (first | (with_reducible first | exact HB.out | apply bal | apply pwN | apply bd1 | refine bset ?_ GE308.out) | exact HB.out)) hb); have n2_ := Az.mk (hbox); have n3_ := Az.mk ((by rw [hg]; exact (below_size (by repeat (first | (with_reducible first | exact HB.out | apply bal | apply pwN | apply bd1 | refine bset ?_ GE308.out) | exact HB.out))) : w.heap.size ≤ gb309)); have n4_ := Az.mk ((by rw [hg]; exact (below_size (by repeat (first | (with_reducible first | exact HB.out | apply bal | apply pwN | apply bd1 | refine bset ?_ GE308.out) | exact HB.out))) : w.heap.size ≤ gb309)); have n5_ := Az.mk ((by rw [hg]; exact Nat.ne_of_lt (blk_lt (g := gb308) (o := .cells #[.slice A0_0 l0_0.length c0_0, .slice A0_1 l0_1.length c0_1] 25 (0, 0)) (by (with_reducible repeat (first | refine bdN ?_ _ | refine blk_drew ?_ | refine bkA ?_ _)); exact BK308.out)) : gb308 ≠ gb309)); have n6_ := Az.mk ((by rw [hg]; exact Nat.ne_of_gt (blk_lt (g := gb308) (o := .cells #[.slice A0_0 l0_0.length c0_0, .slice A0_1 l0_1.length c0_1] 25 (0, 0)) (by (with_reducible repeat (first | refine bdN ?_ _ | refine blk_drew ?_ | refine bkA ?_ _)); exact BK308.out)) : gb309 ≠ gb308)); clear BK308; clear HB; have BK308 := n0_; have HB := n1_; have BK309 := n2_; have GW309 := n3_; have GE309 := n4_; have NB308_309 := n5_; have NB309_308 := n6_; clear n0_ n1_ n2_ n3_ n4_ n5_ n6_; clear hb hbox hg; have hnb6 := NB309_308.out; have hnc6 := NB308_309.out; have hcz7_0 : w5.cell? ⟨gb309, 0, none⟩ = some (.int .i64 a1_0) := (blk_cell BK309.out 0).trans rfl; have hcz7_1 : w5.cell? ⟨gb309, 1, none⟩ = some (.int .i64 a1_1) := (blk_cell BK309.out 1).trans rfl; have hcz7_2 : w5.cell? ⟨gb309, 2, none⟩ = some (.slice A1_2 l1_2.length c1_2) := (blk_cell BK309.out 2).trans rfl; have hfz7_0 := bkF BK309.out 0; have hfz7_1 := bkF BK309.out 1; have hfz7_2 := bkF BK309.out 2))
  (try simp only [Act.put, List.setIfInBounds_toArray, List.set_cons_zero, List.set_cons_succ])
  go_cut [5] (fun v5 wc => ∃ (kq : Nat) (x5_2 : ByteArray), v5 = .string x5_2 ∧ Az (virgationref03_Term.j0 kq x5_2 l0_0 l0_1 a1_0 a1_1 l1_2 = some r) ∧ Az (kq ≤ k) ∧ Az (wc.heap[gb308]? = some (.cells #[(.slice A0_0 l0_0.length c0_0), (.slice A0_1 l0_1.length c0_1)] 25 (0, 0))) ∧ Az (wc.heap[gb309]? = some (.cells #[.int .i64 a1_0, .int .i64 a1_1, (.slice A1_2 l1_2.length c1_2)] 28 (0, 0))) ∧ Az (Below w.heap.size w wc))
  case first =>
    have H := HC3.out
    clear HC3
    by_cases c8 : a1_0 = 0
    · rw [if_pos c8] at H
      have c8b0 : (a1_0 == 0) = true := beq_iff_eq.mpr c8
      have c8b1 : (a1_0 != 0) = false := bne_eq_false_iff_eq.mpr c8
      clear c8
      (first | rw [c8b0] | (simp only [i64_w, i32_w]; rw [c8b0]) | skip)
      replace H := Option.bind_eq_some_iff.mp H
      obtain ⟨t310, A90, H⟩ := H
      replace H : (if 1 + t310.size ≤ 9223372036854775807 then (virgationref03_Term.j0 k ((⟨#[36]⟩ : ByteArray) ++ t310) l0_0 l0_1 a1_0 a1_1 l1_2) else (none)) = some r := H
      have A9 := Az.mk A90
      clear A90
      by_cases c10 : 1 + t310.size ≤ 9223372036854775807
      · rw [if_pos c10] at H
        have c10b0 := eq_true c10
        have c10b1 : decide (1 + t310.size ≤ 9223372036854775807) = true := decide_eq_true c10
        try have c10b2 : (9223372036854775807 < 1 + t310.size) = False := eq_false (Nat.not_lt.2 c10)
        have H' := Az.mk H
        clear H
        have hnb11 := NB309_308.out
        have hnc11 := NB308_309.out
        have hcz12_0 : w5.cell? ⟨gb309, 0, none⟩ = some (.int .i64 a1_0) := (blk_cell BK309.out 0).trans rfl
        have hcz12_1 : w5.cell? ⟨gb309, 1, none⟩ = some (.int .i64 a1_1) := (blk_cell BK309.out 1).trans rfl
        have hcz12_2 : w5.cell? ⟨gb309, 2, none⟩ = some (.slice A1_2 l1_2.length c1_2) := (blk_cell BK309.out 2).trans rfl
        have hfz12_0 := bkF BK309.out 0
        have hfz12_1 := bkF BK309.out 1
        have hfz12_2 := bkF BK309.out 2
        go_wp2_with (first | ((with_reducible refine gate_callee (f := 64) rfl ?_); refine goesL_ (some 22) rfl rfl Try.func64 (by kernel_rfl) rfl #[.int .i64 a1_1] rfl (by (try simp only [List.map_toArray, List.map_cons, List.map_nil]); first | done | rfl | (simp only [List.length_drop, List.length_take]; rfl)) ?_; (with_reducible refine (virgationref03_Number.calls k a1_1 t310 _ A9.out).mono ?_); rintro e w' ⟨rfl, ⟨nd, rfl⟩⟩; refine ⟨_, rfl, ?_⟩))
        go_meet
        case rel => exact ⟨_, ((⟨#[36]⟩ : ByteArray) ++ t310), (by first | rfl | (simp; done) | (simp [*]; done)), H', ⟨by first | omega | exact Nat.le_refl _⟩, ⟨by (with_reducible repeat (first | refine bdN ?_ _ | refine blk_drew ?_ | refine bkA ?_ _)); exact BK308.out⟩, ⟨by (with_reducible repeat (first | refine bdN ?_ _ | refine blk_drew ?_ | refine bkA ?_ _)); exact BK309.out⟩, ⟨by repeat (first | (with_reducible first | exact HB.out | apply bal | apply pwN | apply bd1 | refine bset ?_ GE308.out | refine bset ?_ GE309.out) | exact HB.out)⟩⟩
      · rw [if_neg c10] at H
        exact absurd H (by simp)
    · rw [if_neg c8] at H
      have c8b0 : (a1_0 == 0) = false := beq_eq_false_iff_ne.mpr c8
      have c8b1 : (a1_0 != 0) = true := bne_iff_ne.mpr c8
      (first | rw [c8b0] | (simp only [i64_w, i32_w]; rw [c8b0]) | skip)
      by_cases c13 : a1_0 = 1
      · rw [if_pos c13] at H
        have c13b0 : (a1_0 == 1) = true := beq_iff_eq.mpr c13
        have c13b1 : (a1_0 != 1) = false := bne_eq_false_iff_eq.mpr c13
        clear c13
        by_cases c14 : 0 ≤ a1_1
        · rw [if_pos c14] at H
          have c14b0 : decide (0 ≤ a1_1) = true := decide_eq_true c14
          clear c14
          by_cases c15 : a1_1 < (l0_1.length : Int)
          · rw [if_pos c15] at H
            have c15b0 : decide (a1_1 < (l0_1.length : Int)) = true := decide_eq_true c15
            clear c15
            have H' := Az.mk H
            clear H
            have hnb16 := NB308_309.out
            have hnc16 := NB309_308.out
            have hcz17_0 : w5.cell? ⟨gb308, 0, none⟩ = some (.slice A0_0 l0_0.length c0_0) := (blk_cell BK308.out 0).trans rfl
            have hcz17_1 : w5.cell? ⟨gb308, 1, none⟩ = some (.slice A0_1 l0_1.length c0_1) := (blk_cell BK308.out 1).trans rfl
            have hfz17_0 := bkF BK308.out 0
            have hfz17_1 := bkF BK308.out 1
            have hcz18_0 : w5.cell? ⟨gb309, 0, none⟩ = some (.int .i64 a1_0) := (blk_cell BK309.out 0).trans rfl
            have hcz18_1 : w5.cell? ⟨gb309, 1, none⟩ = some (.int .i64 a1_1) := (blk_cell BK309.out 1).trans rfl
            have hcz18_2 : w5.cell? ⟨gb309, 2, none⟩ = some (.slice A1_2 l1_2.length c1_2) := (blk_cell BK309.out 2).trans rfl
            have hfz18_0 := bkF BK309.out 0
            have hfz18_1 := bkF BK309.out 1
            have hfz18_2 := bkF BK309.out 2
            have p311 : 0 ≤ (a1_1 : Int) := of_decide_eq_true (by first | (with_reducible assumption) | assumption)
            have q311 : a1_1 < (l0_1.length : Int) := of_decide_eq_true (by first | (with_reducible assumption) | assumption)
            obtain ⟨ad311, A311_1, c311_1, A311_4, c311_4, e311, hx311_0, hx311_1, hx311_2, hx311_3, hx311_4, hl311_1, hi311_1, hl311_4, hi311_4⟩ := at_T84 HR0_1.out a1_1 p311 q311
            cases e311
            replace hx311_0 := (HB.out.cell (World.block_lt_of_cell? w _ hx311_0)).trans hx311_0
            replace hx311_1 := (HB.out.cell (World.block_lt_of_cell? w _ hx311_1)).trans hx311_1
            replace hx311_2 := (HB.out.cell (World.block_lt_of_cell? w _ hx311_2)).trans hx311_2
            replace hx311_3 := (HB.out.cell (World.block_lt_of_cell? w _ hx311_3)).trans hx311_3
            replace hx311_4 := (HB.out.cell (World.block_lt_of_cell? w _ hx311_4)).trans hx311_4
            have HR311_1 := Az.mk hi311_1
            have HC311_1 := Az.mk hl311_1
            clear hi311_1 hl311_1
            have HR311_4 := Az.mk hi311_4
            have HC311_4 := Az.mk hl311_4
            clear hi311_4 hl311_4
            replace p311 := eq_true p311
            replace q311 := eq_true q311
            go_wp2
            go_meet
            case rel => exact ⟨_, ((rd_T84 l0_1 a1_1).f0), (by first | rfl | (simp; done) | (simp [*]; done)), H', ⟨by first | omega | exact Nat.le_refl _⟩, ⟨by (with_reducible repeat (first | refine bdN ?_ _ | refine blk_drew ?_ | refine bkA ?_ _)); exact BK308.out⟩, ⟨by (with_reducible repeat (first | refine bdN ?_ _ | refine blk_drew ?_ | refine bkA ?_ _)); exact BK309.out⟩, ⟨by repeat (first | (with_reducible first | exact HB.out | apply bal | apply pwN | apply bd1 | refine bset ?_ GE308.out | refine bset ?_ GE309.out) | exact HB.out)⟩⟩
          · rw [if_neg c15] at H
            exact absurd H (by simp)
        · rw [if_neg c14] at H
          exact absurd H (by simp)
      · rw [if_neg c13] at H
        have c13b0 : (a1_0 == 1) = false := beq_eq_false_iff_ne.mpr c13
        have c13b1 : (a1_0 != 1) = true := bne_iff_ne.mpr c13
        by_cases c19 : 0 ≤ a1_1
        · rw [if_pos c19] at H
          have c19b0 : decide (0 ≤ a1_1) = true := decide_eq_true c19
          clear c19
          by_cases c20 : a1_1 < (l0_0.length : Int)
          · rw [if_pos c20] at H
            have c20b0 : decide (a1_1 < (l0_0.length : Int)) = true := decide_eq_true c20
            clear c20
            by_cases c21 : 1 + ((rd_T87 l0_0 a1_1).f0).size ≤ 9223372036854775807
            · rw [if_pos c21] at H
              have c21b0 := eq_true c21
              have c21b1 : decide (1 + ((rd_T87 l0_0 a1_1).f0).size ≤ 9223372036854775807) = true := decide_eq_true c21
              try have c21b2 : (9223372036854775807 < 1 + ((rd_T87 l0_0 a1_1).f0).size) = False := eq_false (Nat.not_lt.2 c21)
              have H' := Az.mk H
              clear H
              have hnb22 := NB308_309.out
              have hnc22 := NB309_308.out
              have hcz23_0 : w5.cell? ⟨gb308, 0, none⟩ = some (.slice A0_0 l0_0.length c0_0) := (blk_cell BK308.out 0).trans rfl
              have hcz23_1 : w5.cell? ⟨gb308, 1, none⟩ = some (.slice A0_1 l0_1.length c0_1) := (blk_cell BK308.out 1).trans rfl
              have hfz23_0 := bkF BK308.out 0
              have hfz23_1 := bkF BK308.out 1
              have hcz24_0 : w5.cell? ⟨gb309, 0, none⟩ = some (.int .i64 a1_0) := (blk_cell BK309.out 0).trans rfl
              have hcz24_1 : w5.cell? ⟨gb309, 1, none⟩ = some (.int .i64 a1_1) := (blk_cell BK309.out 1).trans rfl
              have hcz24_2 : w5.cell? ⟨gb309, 2, none⟩ = some (.slice A1_2 l1_2.length c1_2) := (blk_cell BK309.out 2).trans rfl
              have hfz24_0 := bkF BK309.out 0
              have hfz24_1 := bkF BK309.out 1
              have hfz24_2 := bkF BK309.out 2
              have p312 : 0 ≤ (a1_1 : Int) := of_decide_eq_true (by first | (with_reducible assumption) | assumption)
              have q312 : a1_1 < (l0_0.length : Int) := of_decide_eq_true (by first | (with_reducible assumption) | assumption)
              obtain ⟨ad312, e312, hx312_0, hx312_1⟩ := at_T87 HR0_0.out a1_1 p312 q312
              cases e312
              replace hx312_0 := (HB.out.cell (World.block_lt_of_cell? w _ hx312_0)).trans hx312_0
              replace hx312_1 := (HB.out.cell (World.block_lt_of_cell? w _ hx312_1)).trans hx312_1
              replace p312 := eq_true p312
              replace q312 := eq_true q312
              go_wp2
              go_meet
              case rel => exact ⟨_, ((⟨#[35]⟩ : ByteArray) ++ ((rd_T87 l0_0 a1_1).f0)), (by first | rfl | (simp; done) | (simp [*]; done)), H', ⟨by first | omega | exact Nat.le_refl _⟩, ⟨by (with_reducible repeat (first | refine bdN ?_ _ | refine blk_drew ?_ | refine bkA ?_ _)); exact BK308.out⟩, ⟨by (with_reducible repeat (first | refine bdN ?_ _ | refine blk_drew ?_ | refine bkA ?_ _)); exact BK309.out⟩, ⟨by repeat (first | (with_reducible first | exact HB.out | apply bal | apply pwN | apply bd1 | refine bset ?_ GE308.out | refine bset ?_ GE309.out) | exact HB.out)⟩⟩
            · rw [if_neg c21] at H
              exact absurd H (by simp)
          · rw [if_neg c20] at H
            exact absurd H (by simp)
        · rw [if_neg c19] at H
          exact absurd H (by simp)
  case rest =>
    clear HC3
    try clear c1
    try clear c2
    try clear p2
    try clear c3
    try clear p3
    try clear q3
    try clear hx3
    try clear c6
    try clear c8
    try clear c8b0
    try clear c8b1
    try clear c10
    try clear c10b0
    try clear c10b1
    try clear c10b2
    try clear c11
    try clear c13
    try clear c13b0
    try clear c13b1
    try clear c14
    try clear c14b0
    try clear c15
    try clear c15b0
    try clear c16
    try clear c19
    try clear c19b0
    try clear c20
    try clear c20b0
    try clear c21
    try clear c21b0
    try clear c21b1
    try clear c21b2
    try clear c22
    try clear hcz12_0
    try clear hcz12_1
    try clear hcz12_2
    try clear hcz17_0
    try clear hcz17_1
    try clear hcz18_0
    try clear hcz18_1
    try clear hcz18_2
    try clear hcz23_0
    try clear hcz23_1
    try clear hcz24_0
    try clear hcz24_1
    try clear hcz24_2
    try clear hcz7_0
    try clear hcz7_1
    try clear hcz7_2
    try clear hfz12_0
    try clear hfz12_1
    try clear hfz12_2
    try clear hfz17_0
    try clear hfz17_1
    try clear hfz18_0
    try clear hfz18_1
    try clear hfz18_2
    try clear hfz23_0
    try clear hfz23_1
    try clear hfz24_0
    try clear hfz24_1
    try clear hfz24_2
    try clear hfz7_0
    try clear hfz7_1
    try clear hfz7_2
    try clear hx311_0
    try clear hx311_1
    try clear hx311_2
    try clear hx311_3
    try clear hx311_4
    try clear hx312_0
    try clear hx312_1
    try clear p311
    try clear p312
    try clear q311
    try clear q312
    obtain ⟨kq, x5_2, rfl, HA, HJ2, BK308, BK309, HB⟩ := hcut
    cases kq with
    | zero => exact absurd HA.out (by simp [virgationref03_Term.j0])
    | succ kj2 =>
      have H := HA.out
      clear HA
      simp only [virgationref03_Term.j0] at H
      have H' := Az.mk H
      clear H
      have hnb25 := NB309_308.out
      have hnc25 := NB308_309.out
      have hcz26_0 : wc.cell? ⟨gb309, 0, none⟩ = some (.int .i64 a1_0) := (blk_cell BK309.out 0).trans rfl
      have hcz26_1 : wc.cell? ⟨gb309, 1, none⟩ = some (.int .i64 a1_1) := (blk_cell BK309.out 1).trans rfl
      have hcz26_2 : wc.cell? ⟨gb309, 2, none⟩ = some (.slice A1_2 l1_2.length c1_2) := (blk_cell BK309.out 2).trans rfl
      have hfz26_0 := bkF BK309.out 0
      have hfz26_1 := bkF BK309.out 1
      have hfz26_2 := bkF BK309.out 2
      go_wp2
      go_loopg [5, 36] kj2 (fun kq v5 v36 w' => ∃ (x5_2 : ByteArray) (x36_2 : Int), v5 = .string x5_2 ∧ v36 = .int .i64 x36_2 ∧ Az (virgationref03_Term.l0 kq x5_2 l1_2 (l1_2.length : Int) x36_2 l0_0 l0_1 = some r) ∧ Az (kq ≤ kj2) ∧ Az (w'.heap[gb308]? = some (.cells #[(.slice A0_0 l0_0.length c0_0), (.slice A0_1 l0_1.length c0_1)] 25 (0, 0))) ∧ Az (w'.heap[gb309]? = some (.cells #[.int .i64 a1_0, .int .i64 a1_1, (.slice A1_2 l1_2.length c1_2)] 28 (0, 0))) ∧ Az (Below w.heap.size w w'))
      case atStart => exact ⟨(x5_2), (0), (by first | rfl | (simp; done) | (simp [*]; done)), (by first | rfl | (simp; done) | (simp [*]; done)), H', ⟨Nat.le_refl _⟩, ⟨by (with_reducible repeat (first | refine bdN ?_ _ | refine blk_drew ?_ | refine bkA ?_ _)); exact BK308.out⟩, ⟨by (with_reducible repeat (first | refine bdN ?_ _ | refine blk_drew ?_ | refine bkA ?_ _)); exact BK309.out⟩, ⟨by repeat (first | (with_reducible first | exact HB.out | apply bal | apply pwN | apply bd1 | refine bset ?_ GE308.out | refine bset ?_ GE309.out) | exact HB.out)⟩⟩
      case round =>
        clear H'
        try clear c1
        try clear c2
        try clear p2
        try clear c3
        try clear p3
        try clear q3
        try clear hx3
        try clear c6
        try clear c8
        try clear c8b0
        try clear c8b1
        try clear c10
        try clear c10b0
        try clear c10b1
        try clear c10b2
        try clear c11
        try clear c13
        try clear c13b0
        try clear c13b1
        try clear c14
        try clear c14b0
        try clear c15
        try clear c15b0
        try clear c16
        try clear c19
        try clear c19b0
        try clear c20
        try clear c20b0
        try clear c21
        try clear c21b0
        try clear c21b1
        try clear c21b2
        try clear c22
        try clear c25
        try clear hcz12_0
        try clear hcz12_1
        try clear hcz12_2
        try clear hcz17_0
        try clear hcz17_1
        try clear hcz18_0
        try clear hcz18_1
        try clear hcz18_2
        try clear hcz23_0
        try clear hcz23_1
        try clear hcz24_0
        try clear hcz24_1
        try clear hcz24_2
        try clear hcz26_0
        try clear hcz26_1
        try clear hcz26_2
        try clear hcz7_0
        try clear hcz7_1
        try clear hcz7_2
        try clear hfz12_0
        try clear hfz12_1
        try clear hfz12_2
        try clear hfz17_0
        try clear hfz17_1
        try clear hfz18_0
        try clear hfz18_1
        try clear hfz18_2
        try clear hfz23_0
        try clear hfz23_1
        try clear hfz24_0
        try clear hfz24_1
        try clear hfz24_2
        try clear hfz26_0
        try clear hfz26_1
        try clear hfz26_2
        try clear hfz7_0
        try clear hfz7_1
        try clear hfz7_2
        try clear hx311_0
        try clear hx311_1
        try clear hx311_2
        try clear hx311_3
        try clear hx311_4
        try clear hx312_0
        try clear hx312_1
        try clear p2
        try clear p3
        try clear p311
        try clear p312
        try clear q3
        try clear q311
        try clear q312
        obtain ⟨x5_2, x36_2, rfl, rfl, HA, HK2, BK308, BK309, HB⟩ := hrel
        cases gk with
        | zero => exact absurd HA.out (by simp [virgationref03_Term.l0])
        | succ k2 =>
          have H := HA.out
          clear HA
          simp only [virgationref03_Term.l0] at H
          by_cases c27 : x36_2 < (l1_2.length : Int)
          · rw [if_pos c27] at H
            have c27b0 : decide (x36_2 < (l1_2.length : Int)) = true := decide_eq_true c27
            clear c27
            by_cases c28 : 0 ≤ x36_2
            · rw [if_pos c28] at H
              have c28b0 : decide (0 ≤ x36_2) = true := decide_eq_true c28
              clear c28
              by_cases c29 : x36_2 < (l1_2.length : Int)
              · rw [if_pos c29] at H
                have c29b0 : decide (x36_2 < (l1_2.length : Int)) = true := decide_eq_true c29
                clear c29
                by_cases c30 : (((rd_T28 l1_2 x36_2).f2).length : Int) = 0
                · rw [if_pos c30] at H
                  have c30b0 : ((((rd_T28 l1_2 x36_2).f2).length : Int) == 0) = true := beq_iff_eq.mpr c30
                  have c30b1 : ((((rd_T28 l1_2 x36_2).f2).length : Int) != 0) = false := bne_eq_false_iff_eq.mpr c30
                  clear c30
                  by_cases c31 : x5_2.size + 1 ≤ 9223372036854775807
                  · rw [if_pos c31] at H
                    have c31b0 := eq_true c31
                    have c31b1 : decide (x5_2.size + 1 ≤ 9223372036854775807) = true := decide_eq_true c31
                    try have c31b2 : (9223372036854775807 < x5_2.size + 1) = False := eq_false (Nat.not_lt.2 c31)
                    replace H := Option.bind_eq_some_iff.mp H
                    obtain ⟨t315, A320, H⟩ := H
                    replace H : (if (x5_2 ++ (⟨#[32]⟩ : ByteArray)).size + t315.size ≤ 9223372036854775807 then (virgationref03_Term.l0 k2 ((x5_2 ++ (⟨#[32]⟩ : ByteArray)) ++ t315) l1_2 (l1_2.length : Int) (wrap64 (x36_2 + 1)) l0_0 l0_1) else (none)) = some r := H
                    have A32 := Az.mk A320
                    clear A320
                    by_cases c33 : (x5_2 ++ (⟨#[32]⟩ : ByteArray)).size + t315.size ≤ 9223372036854775807
                    · rw [if_pos c33] at H
                      have c33b0 := eq_true c33
                      have c33b1 : decide ((x5_2 ++ (⟨#[32]⟩ : ByteArray)).size + t315.size ≤ 9223372036854775807) = true := decide_eq_true c33
                      try have c33b2 : (9223372036854775807 < (x5_2 ++ (⟨#[32]⟩ : ByteArray)).size + t315.size) = False := eq_false (Nat.not_lt.2 c33)
                      have c33n : x5_2.size + 1 + t315.size ≤ 9223372036854775807 := by have h_ := c33; simp only [ByteArray.size_append] at h_; exact h_
                      have c33n0 := eq_true c33n
                      have c33n1 : (9223372036854775807 < x5_2.size + 1 + t315.size) = False := eq_false (Nat.not_lt.2 c33n)
                      have H' := Az.mk H
                      clear H
                      have p313 : 0 ≤ (x36_2 : Int) := of_decide_eq_true (by first | (with_reducible assumption) | assumption)
                      have q313 : x36_2 < (l1_2.length : Int) := of_decide_eq_true (by first | (with_reducible assumption) | assumption)
                      obtain ⟨ad313, A313_2, c313_2, e313, hx313_0, hx313_1, hx313_2, hl313_2, hi313_2⟩ := at_T28 HR1_2.out x36_2 p313 q313
                      cases e313
                      replace hx313_0 := (HB.out.cell (World.block_lt_of_cell? w _ hx313_0)).trans hx313_0
                      replace hx313_1 := (HB.out.cell (World.block_lt_of_cell? w _ hx313_1)).trans hx313_1
                      replace hx313_2 := (HB.out.cell (World.block_lt_of_cell? w _ hx313_2)).trans hx313_2
                      have HR313_2 := Az.mk hi313_2
                      have HC313_2 := Az.mk hl313_2
                      clear hi313_2 hl313_2
                      replace p313 := eq_true p313
                      replace q313 := eq_true q313
                      go_wp2_with (first | ((with_reducible refine gate_dst (N := 7) rfl ?_); refine box_event ?hg (N := 7) ?hd (cs := #[.int .i64 0, .int .i64 0, .slice none 0 0]) (t := 28) ?hr ?_; (case hd => rfl); (case hg => rfl); (case hr => first | (go_simp; done) | (go_simp; rfl)); intro gb314 hg w34 hbox hb; have n0_ := Az.mk (bkB (g := gb308) (o := .cells #[.slice A0_0 l0_0.length c0_0, .slice A0_1 l0_1.length c0_1] 25 (0, 0)) (by (with_reducible repeat (first | refine bdN ?_ _ | refine blk_drew ?_ | refine bkA ?_ _)); exact BK308.out) hb); have n1_ := Az.mk (bkB (g := gb309) (o := .cells #[.int .i64 a1_0, .int .i64 a1_1, .slice (some ad313) l1_2.length c1_2] 28 (0, 0)) (by (with_reducible repeat (first | refine bdN ?_ _ | refine blk_drew ?_ | refine bkA ?_ _)); exact BK309.out) hb); have n2_ := Az.mk (bst (by repeat (first | (with_reducible first | exact HB.out | apply bal | apply pwN | apply bd1 | refine bset ?_ GE308.out | refine bset ?_ GE309.out) | exact HB.out)) hb); have n3_ := Az.mk (hbox); have n4_ := Az.mk ((by rw [hg]; exact (below_size (by repeat (first | (with_reducible first | exact HB.out | apply bal | apply pwN | apply bd1 | refine bset ?_ GE308.out | refine bset ?_ GE309.out) | exact HB.out))) : w.heap.size ≤ gb314)); have n5_ := Az.mk ((by rw [hg]; exact (below_size (by repeat (first | (with_reducible first | exact HB.out | apply bal | apply pwN | apply bd1 | refine bset ?_ GE308.out | refine bset ?_ GE309.out) | exact HB.out))) : w.heap.size ≤ gb314)); have n6_ := Az.mk ((by rw [hg]; exact Nat.ne_of_lt (blk_lt (g := gb308) (o := .cells #[.slice A0_0 l0_0.length c0_0, .slice A0_1 l0_1.length c0_1] 25 (0, 0)) (by (with_reducible repeat (first | refine bdN ?_ _ | refine blk_drew ?_ | refine bkA ?_ _)); exact BK308.out)) : gb308 ≠ gb314)); have n7_ := Az.mk ((by rw [hg]; exact Nat.ne_of_gt (blk_lt (g := gb308) (o := .cells #[.slice A0_0 l0_0.length c0_0, .slice A0_1 l0_1.length c0_1] 25 (0, 0)) (by (with_reducible repeat (first | refine bdN ?_ _ | refine blk_drew ?_ | refine bkA ?_ _)); exact BK308.out)) : gb314 ≠ gb308)); have n8_ := Az.mk ((by rw [hg]; exact Nat.ne_of_lt (blk_lt (g := gb309) (o := .cells #[.int .i64 a1_0, .int .i64 a1_1, .slice (some ad313) l1_2.length c1_2] 28 (0, 0)) (by (with_reducible repeat (first | refine bdN ?_ _ | refine blk_drew ?_ | refine bkA ?_ _)); exact BK309.out)) : gb309 ≠ gb314)); have n9_ := Az.mk ((by rw [hg]; exact Nat.ne_of_gt (blk_lt (g := gb309) (o := .cells #[.int .i64 a1_0, .int .i64 a1_1, .slice (some ad313) l1_2.length c1_2] 28 (0, 0)) (by (with_reducible repeat (first | refine bdN ?_ _ | refine blk_drew ?_ | refine bkA ?_ _)); exact BK309.out)) : gb314 ≠ gb309)); clear BK308; clear BK309; clear HB; have BK308 := n0_; have BK309 := n1_; have HB := n2_; have BK314 := n3_; have GW314 := n4_; have GE314 := n5_; have NB308_314 := n6_; have NB314_308 := n7_; have NB309_314 := n8_; have NB314_309 := n9_; clear n0_ n1_ n2_ n3_ n4_ n5_ n6_ n7_ n8_ n9_; clear hb hbox hg; have hnb35 := NB314_308.out; have hnc35 := NB308_314.out; have hnb36 := NB314_309.out; have hnc36 := NB309_314.out; have hcz37_0 : w34.cell? ⟨gb314, 0, none⟩ = some (.int .i64 0) := (blk_cell BK314.out 0).trans rfl; have hcz37_1 : w34.cell? ⟨gb314, 1, none⟩ = some (.int .i64 0) := (blk_cell BK314.out 1).trans rfl; have hcz37_2 : w34.cell? ⟨gb314, 2, none⟩ = some (.slice none 0 0) := (blk_cell BK314.out 2).trans rfl; have hfz37_0 := bkF BK314.out 0; have hfz37_1 := bkF BK314.out 1; have hfz37_2 := bkF BK314.out 2; have hnb38 := NB308_309.out; have hnc38 := NB309_308.out; have hcz39_0 : w34.cell? ⟨gb308, 0, none⟩ = some (.slice A0_0 l0_0.length c0_0) := (blk_cell BK308.out 0).trans rfl; have hcz39_1 : w34.cell? ⟨gb308, 1, none⟩ = some (.slice A0_1 l0_1.length c0_1) := (blk_cell BK308.out 1).trans rfl; have hfz39_0 := bkF BK308.out 0; have hfz39_1 := bkF BK308.out 1) | ((with_reducible refine gate_callee (f := 36) rfl ?_); refine goesL_ (some 48) rfl rfl Try.func36 (by kernel_rfl) rfl #[.agg #[.slice A0_0 l0_0.length c0_0, .slice A0_1 l0_1.length c0_1], .agg #[.int .i64 ((rd_T28 l1_2 x36_2).f0), .int .i64 ((rd_T28 l1_2 x36_2).f1), .slice A313_2 ((rd_T28 l1_2 x36_2).f2).length c313_2]] rfl (by (try simp only [List.map_toArray, List.map_cons, List.map_nil]); first | done | rfl | (simp only [List.length_drop, List.length_take]; rfl)) ?_; (with_reducible refine (ih k2 (by have := HJ2.out; have := HK2.out; omega) _ _ l0_0 _ _ l0_1 ((rd_T28 l1_2 x36_2).f0) ((rd_T28 l1_2 x36_2).f1) _ _ ((rd_T28 l1_2 x36_2).f2) t315 _ ?side1 ?side2 ?side3 ?side4 ?side5 ?side6 A32.out).mono ?_); (case side1 => exact Kd.C_below HR0_0.out (by repeat (first | (with_reducible first | exact HB.out | apply bal | apply pwN | apply bd1 | refine bset ?_ GE308.out | refine bset ?_ GE309.out | refine bset ?_ GE314.out) | exact HB.out))); (case side2 => exact HC0_0.out); (case side3 => exact Kd.C_below HR0_1.out (by repeat (first | (with_reducible first | exact HB.out | apply bal | apply pwN | apply bd1 | refine bset ?_ GE308.out | refine bset ?_ GE309.out | refine bset ?_ GE314.out) | exact HB.out))); (case side4 => exact HC0_1.out); (case side5 => exact Kd.C_below HR313_2.out (by repeat (first | (with_reducible first | exact HB.out | apply bal | apply pwN | apply bd1 | refine bset ?_ GE308.out | refine bset ?_ GE309.out | refine bset ?_ GE314.out) | exact HB.out))); (case side6 => exact HC313_2.out); rintro e w40 ⟨rfl, hb⟩; refine ⟨_, rfl, ?_⟩; have n0_ := Az.mk (bkB (g := gb308) (o := .cells #[.slice A0_0 l0_0.length c0_0, .slice A0_1 l0_1.length c0_1] 25 (0, 0)) (by (with_reducible repeat (first | refine bdN ?_ _ | refine blk_drew ?_ | refine bkA ?_ _)); refine blk_far ?_ NB308_314.out _; (with_reducible repeat (first | refine bdN ?_ _ | refine blk_drew ?_ | refine bkA ?_ _)); refine blk_far ?_ NB308_314.out _; (with_reducible repeat (first | refine bdN ?_ _ | refine blk_drew ?_ | refine bkA ?_ _)); refine blk_far ?_ NB308_314.out _; (with_reducible repeat (first | refine bdN ?_ _ | refine blk_drew ?_ | refine bkA ?_ _)); exact BK308.out) hb); have n1_ := Az.mk (bkB (g := gb309) (o := .cells #[.int .i64 a1_0, .int .i64 a1_1, .slice (some ad313) l1_2.length c1_2] 28 (0, 0)) (by (with_reducible repeat (first | refine bdN ?_ _ | refine blk_drew ?_ | refine bkA ?_ _)); refine blk_far ?_ NB309_314.out _; (with_reducible repeat (first | refine bdN ?_ _ | refine blk_drew ?_ | refine bkA ?_ _)); refine blk_far ?_ NB309_314.out _; (with_reducible repeat (first | refine bdN ?_ _ | refine blk_drew ?_ | refine bkA ?_ _)); refine blk_far ?_ NB309_314.out _; (with_reducible repeat (first | refine bdN ?_ _ | refine blk_drew ?_ | refine bkA ?_ _)); exact BK309.out) hb); have n2_ := Az.mk (bkB (g := gb314) (o := .cells #[.int .i64 ((rd_T28 l1_2 x36_2).f0), .int .i64 ((rd_T28 l1_2 x36_2).f1), .slice A313_2 ((rd_T28 l1_2 x36_2).f2).length c313_2] 28 (0, 0)) (by (with_reducible repeat (first | refine bdN ?_ _ | refine blk_drew ?_ | refine bkA ?_ _)); refine blk_put (cs := #[.int .i64 ((rd_T28 l1_2 x36_2).f0), .int .i64 ((rd_T28 l1_2 x36_2).f1), .slice none 0 0]) ?_ 2 _ rfl; (with_reducible repeat (first | refine bdN ?_ _ | refine blk_drew ?_ | refine bkA ?_ _)); refine blk_put (cs := #[.int .i64 ((rd_T28 l1_2 x36_2).f0), .int .i64 0, .slice none 0 0]) ?_ 1 _ rfl; (with_reducible repeat (first | refine bdN ?_ _ | refine blk_drew ?_ | refine bkA ?_ _)); refine blk_put (cs := #[.int .i64 0, .int .i64 0, .slice none 0 0]) ?_ 0 _ rfl; (with_reducible repeat (first | refine bdN ?_ _ | refine blk_drew ?_ | refine bkA ?_ _)); exact BK314.out) hb); have n3_ := Az.mk (bst (by repeat (first | (with_reducible first | exact HB.out | apply bal | apply pwN | apply bd1 | refine bset ?_ GE308.out | refine bset ?_ GE309.out | refine bset ?_ GE314.out) | exact HB.out)) hb); clear BK308; clear BK309; clear BK314; clear HB; have BK308 := n0_; have BK309 := n1_; have BK314 := n2_; have HB := n3_; clear n0_ n1_ n2_ n3_; (try clear hb); (try clear hb2); (try clear hk); (try clear hi)))
                      go_roundg k2
                      case measure => have := HJ2.out; have := HK2.out; omega
                      case rel => exact ⟨((x5_2 ++ (⟨#[32]⟩ : ByteArray)) ++ t315), (wrap64 (x36_2 + 1)), (by first | rfl | (simp; done) | (simp [*]; done)), (by first | rfl | (simp; done) | (simp [*]; done)), H', ⟨by have := HJ2.out; have := HK2.out; omega⟩, ⟨by (with_reducible repeat (first | refine bdN ?_ _ | refine blk_drew ?_ | refine bkA ?_ _)); exact BK308.out⟩, ⟨by (with_reducible repeat (first | refine bdN ?_ _ | refine blk_drew ?_ | refine bkA ?_ _)); exact BK309.out⟩, ⟨by repeat (first | (with_reducible first | exact HB.out | apply bal | apply pwN | apply bd1 | refine bset ?_ GE308.out | refine bset ?_ GE309.out | refine bset ?_ GE314.out) | exact HB.out)⟩⟩
                    · rw [if_neg c33] at H
                      exact absurd H (by simp)
                  · rw [if_neg c31] at H
                    exact absurd H (by simp)
                · rw [if_neg c30] at H
                  have c30b0 : ((((rd_T28 l1_2 x36_2).f2).length : Int) == 0) = false := beq_eq_false_iff_ne.mpr c30
                  have c30b1 : ((((rd_T28 l1_2 x36_2).f2).length : Int) != 0) = true := bne_iff_ne.mpr c30
                  have c30b2 : ¬ (((rd_T28 l1_2 x36_2).f2) = []) := fun h_ => c30 (by rw [h_]; rfl)
                  by_cases c41 : x5_2.size + 2 ≤ 9223372036854775807
                  · rw [if_pos c41] at H
                    have c41b0 := eq_true c41
                    have c41b1 : decide (x5_2.size + 2 ≤ 9223372036854775807) = true := decide_eq_true c41
                    try have c41b2 : (9223372036854775807 < x5_2.size + 2) = False := eq_false (Nat.not_lt.2 c41)
                    replace H := Option.bind_eq_some_iff.mp H
                    obtain ⟨t316, A420, H⟩ := H
                    replace H : (if (x5_2 ++ (⟨#[32, 40]⟩ : ByteArray)).size + t316.size ≤ 9223372036854775807 then (if ((x5_2 ++ (⟨#[32, 40]⟩ : ByteArray)) ++ t316).size + 1 ≤ 9223372036854775807 then (virgationref03_Term.l0 k2 (((x5_2 ++ (⟨#[32, 40]⟩ : ByteArray)) ++ t316) ++ (⟨#[41]⟩ : ByteArray)) l1_2 (l1_2.length : Int) (wrap64 (x36_2 + 1)) l0_0 l0_1) else (none)) else (none)) = some r := H
                    have A42 := Az.mk A420
                    clear A420
                    by_cases c43 : (x5_2 ++ (⟨#[32, 40]⟩ : ByteArray)).size + t316.size ≤ 9223372036854775807
                    · rw [if_pos c43] at H
                      have c43b0 := eq_true c43
                      have c43b1 : decide ((x5_2 ++ (⟨#[32, 40]⟩ : ByteArray)).size + t316.size ≤ 9223372036854775807) = true := decide_eq_true c43
                      try have c43b2 : (9223372036854775807 < (x5_2 ++ (⟨#[32, 40]⟩ : ByteArray)).size + t316.size) = False := eq_false (Nat.not_lt.2 c43)
                      have c43n : x5_2.size + 2 + t316.size ≤ 9223372036854775807 := by have h_ := c43; simp only [ByteArray.size_append] at h_; exact h_
                      have c43n0 := eq_true c43n
                      have c43n1 : (9223372036854775807 < x5_2.size + 2 + t316.size) = False := eq_false (Nat.not_lt.2 c43n)
                      by_cases c44 : ((x5_2 ++ (⟨#[32, 40]⟩ : ByteArray)) ++ t316).size + 1 ≤ 9223372036854775807
                      · rw [if_pos c44] at H
                        have c44b0 := eq_true c44
                        have c44b1 : decide (((x5_2 ++ (⟨#[32, 40]⟩ : ByteArray)) ++ t316).size + 1 ≤ 9223372036854775807) = true := decide_eq_true c44
                        try have c44b2 : (9223372036854775807 < ((x5_2 ++ (⟨#[32, 40]⟩ : ByteArray)) ++ t316).size + 1) = False := eq_false (Nat.not_lt.2 c44)
                        have c44n : x5_2.size + 2 + t316.size + 1 ≤ 9223372036854775807 := by have h_ := c44; simp only [ByteArray.size_append] at h_; exact h_
                        have c44n0 := eq_true c44n
                        have c44n1 : (9223372036854775807 < x5_2.size + 2 + t316.size + 1) = False := eq_false (Nat.not_lt.2 c44n)
                        have H' := Az.mk H
                        clear H
                        have p313 : 0 ≤ (x36_2 : Int) := of_decide_eq_true (by first | (with_reducible assumption) | assumption)
                        have q313 : x36_2 < (l1_2.length : Int) := of_decide_eq_true (by first | (with_reducible assumption) | assumption)
                        obtain ⟨ad313, A313_2, c313_2, e313, hx313_0, hx313_1, hx313_2, hl313_2, hi313_2⟩ := at_T28 HR1_2.out x36_2 p313 q313
                        cases e313
                        replace hx313_0 := (HB.out.cell (World.block_lt_of_cell? w _ hx313_0)).trans hx313_0
                        replace hx313_1 := (HB.out.cell (World.block_lt_of_cell? w _ hx313_1)).trans hx313_1
                        replace hx313_2 := (HB.out.cell (World.block_lt_of_cell? w _ hx313_2)).trans hx313_2
                        have HR313_2 := Az.mk hi313_2
                        have HC313_2 := Az.mk hl313_2
                        clear hi313_2 hl313_2
                        replace p313 := eq_true p313
                        replace q313 := eq_true q313
                        go_wp2_with (first | ((with_reducible refine gate_dst (N := 7) rfl ?_); refine box_event ?hg (N := 7) ?hd (cs := #[.int .i64 0, .int .i64 0, .slice none 0 0]) (t := 28) ?hr ?_; (case hd => rfl); (case hg => rfl); (case hr => first | (go_simp; done) | (go_simp; rfl)); intro gb314 hg w45 hbox hb; have n0_ := Az.mk (bkB (g := gb308) (o := .cells #[.slice A0_0 l0_0.length c0_0, .slice A0_1 l0_1.length c0_1] 25 (0, 0)) (by (with_reducible repeat (first | refine bdN ?_ _ | refine blk_drew ?_ | refine bkA ?_ _)); exact BK308.out) hb); have n1_ := Az.mk (bkB (g := gb309) (o := .cells #[.int .i64 a1_0, .int .i64 a1_1, .slice (some ad313) l1_2.length c1_2] 28 (0, 0)) (by (with_reducible repeat (first | refine bdN ?_ _ | refine blk_drew ?_ | refine bkA ?_ _)); exact BK309.out) hb); have n2_ := Az.mk (bst (by repeat (first | (with_reducible first | exact HB.out | apply bal | apply pwN | apply bd1 | refine bset ?_ GE308.out | refine bset ?_ GE309.out) | exact HB.out)) hb); have n3_ := Az.mk (hbox); have n4_ := Az.mk ((by rw [hg]; exact (below_size (by repeat (first | (with_reducible first | exact HB.out | apply bal | apply pwN | apply bd1 | refine bset ?_ GE308.out | refine bset ?_ GE309.out) | exact HB.out))) : w.heap.size ≤ gb314)); have n5_ := Az.mk ((by rw [hg]; exact (below_size (by repeat (first | (with_reducible first | exact HB.out | apply bal | apply pwN | apply bd1 | refine bset ?_ GE308.out | refine bset ?_ GE309.out) | exact HB.out))) : w.heap.size ≤ gb314)); have n6_ := Az.mk ((by rw [hg]; exact Nat.ne_of_lt (blk_lt (g := gb308) (o := .cells #[.slice A0_0 l0_0.length c0_0, .slice A0_1 l0_1.length c0_1] 25 (0, 0)) (by (with_reducible repeat (first | refine bdN ?_ _ | refine blk_drew ?_ | refine bkA ?_ _)); exact BK308.out)) : gb308 ≠ gb314)); have n7_ := Az.mk ((by rw [hg]; exact Nat.ne_of_gt (blk_lt (g := gb308) (o := .cells #[.slice A0_0 l0_0.length c0_0, .slice A0_1 l0_1.length c0_1] 25 (0, 0)) (by (with_reducible repeat (first | refine bdN ?_ _ | refine blk_drew ?_ | refine bkA ?_ _)); exact BK308.out)) : gb314 ≠ gb308)); have n8_ := Az.mk ((by rw [hg]; exact Nat.ne_of_lt (blk_lt (g := gb309) (o := .cells #[.int .i64 a1_0, .int .i64 a1_1, .slice (some ad313) l1_2.length c1_2] 28 (0, 0)) (by (with_reducible repeat (first | refine bdN ?_ _ | refine blk_drew ?_ | refine bkA ?_ _)); exact BK309.out)) : gb309 ≠ gb314)); have n9_ := Az.mk ((by rw [hg]; exact Nat.ne_of_gt (blk_lt (g := gb309) (o := .cells #[.int .i64 a1_0, .int .i64 a1_1, .slice (some ad313) l1_2.length c1_2] 28 (0, 0)) (by (with_reducible repeat (first | refine bdN ?_ _ | refine blk_drew ?_ | refine bkA ?_ _)); exact BK309.out)) : gb314 ≠ gb309)); clear BK308; clear BK309; clear HB; have BK308 := n0_; have BK309 := n1_; have HB := n2_; have BK314 := n3_; have GW314 := n4_; have GE314 := n5_; have NB308_314 := n6_; have NB314_308 := n7_; have NB309_314 := n8_; have NB314_309 := n9_; clear n0_ n1_ n2_ n3_ n4_ n5_ n6_ n7_ n8_ n9_; clear hb hbox hg; have hnb46 := NB314_308.out; have hnc46 := NB308_314.out; have hnb47 := NB314_309.out; have hnc47 := NB309_314.out; have hcz48_0 : w45.cell? ⟨gb314, 0, none⟩ = some (.int .i64 0) := (blk_cell BK314.out 0).trans rfl; have hcz48_1 : w45.cell? ⟨gb314, 1, none⟩ = some (.int .i64 0) := (blk_cell BK314.out 1).trans rfl; have hcz48_2 : w45.cell? ⟨gb314, 2, none⟩ = some (.slice none 0 0) := (blk_cell BK314.out 2).trans rfl; have hfz48_0 := bkF BK314.out 0; have hfz48_1 := bkF BK314.out 1; have hfz48_2 := bkF BK314.out 2; have hnb49 := NB308_309.out; have hnc49 := NB309_308.out; have hcz50_0 : w45.cell? ⟨gb308, 0, none⟩ = some (.slice A0_0 l0_0.length c0_0) := (blk_cell BK308.out 0).trans rfl; have hcz50_1 : w45.cell? ⟨gb308, 1, none⟩ = some (.slice A0_1 l0_1.length c0_1) := (blk_cell BK308.out 1).trans rfl; have hfz50_0 := bkF BK308.out 0; have hfz50_1 := bkF BK308.out 1) | ((with_reducible refine gate_callee (f := 36) rfl ?_); refine goesL_ (some 54) rfl rfl Try.func36 (by kernel_rfl) rfl #[.agg #[.slice A0_0 l0_0.length c0_0, .slice A0_1 l0_1.length c0_1], .agg #[.int .i64 ((rd_T28 l1_2 x36_2).f0), .int .i64 ((rd_T28 l1_2 x36_2).f1), .slice A313_2 ((rd_T28 l1_2 x36_2).f2).length c313_2]] rfl (by (try simp only [List.map_toArray, List.map_cons, List.map_nil]); first | done | rfl | (simp only [List.length_drop, List.length_take]; rfl)) ?_; (with_reducible refine (ih k2 (by have := HJ2.out; have := HK2.out; omega) _ _ l0_0 _ _ l0_1 ((rd_T28 l1_2 x36_2).f0) ((rd_T28 l1_2 x36_2).f1) _ _ ((rd_T28 l1_2 x36_2).f2) t316 _ ?side1 ?side2 ?side3 ?side4 ?side5 ?side6 A42.out).mono ?_); (case side1 => exact Kd.C_below HR0_0.out (by repeat (first | (with_reducible first | exact HB.out | apply bal | apply pwN | apply bd1 | refine bset ?_ GE308.out | refine bset ?_ GE309.out | refine bset ?_ GE314.out) | exact HB.out))); (case side2 => exact HC0_0.out); (case side3 => exact Kd.C_below HR0_1.out (by repeat (first | (with_reducible first | exact HB.out | apply bal | apply pwN | apply bd1 | refine bset ?_ GE308.out | refine bset ?_ GE309.out | refine bset ?_ GE314.out) | exact HB.out))); (case side4 => exact HC0_1.out); (case side5 => exact Kd.C_below HR313_2.out (by repeat (first | (with_reducible first | exact HB.out | apply bal | apply pwN | apply bd1 | refine bset ?_ GE308.out | refine bset ?_ GE309.out | refine bset ?_ GE314.out) | exact HB.out))); (case side6 => exact HC313_2.out); rintro e w51 ⟨rfl, hb⟩; refine ⟨_, rfl, ?_⟩; have n0_ := Az.mk (bkB (g := gb308) (o := .cells #[.slice A0_0 l0_0.length c0_0, .slice A0_1 l0_1.length c0_1] 25 (0, 0)) (by (with_reducible repeat (first | refine bdN ?_ _ | refine blk_drew ?_ | refine bkA ?_ _)); refine blk_far ?_ NB308_314.out _; (with_reducible repeat (first | refine bdN ?_ _ | refine blk_drew ?_ | refine bkA ?_ _)); refine blk_far ?_ NB308_314.out _; (with_reducible repeat (first | refine bdN ?_ _ | refine blk_drew ?_ | refine bkA ?_ _)); refine blk_far ?_ NB308_314.out _; (with_reducible repeat (first | refine bdN ?_ _ | refine blk_drew ?_ | refine bkA ?_ _)); exact BK308.out) hb); have n1_ := Az.mk (bkB (g := gb309) (o := .cells #[.int .i64 a1_0, .int .i64 a1_1, .slice (some ad313) l1_2.length c1_2] 28 (0, 0)) (by (with_reducible repeat (first | refine bdN ?_ _ | refine blk_drew ?_ | refine bkA ?_ _)); refine blk_far ?_ NB309_314.out _; (with_reducible repeat (first | refine bdN ?_ _ | refine blk_drew ?_ | refine bkA ?_ _)); refine blk_far ?_ NB309_314.out _; (with_reducible repeat (first | refine bdN ?_ _ | refine blk_drew ?_ | refine bkA ?_ _)); refine blk_far ?_ NB309_314.out _; (with_reducible repeat (first | refine bdN ?_ _ | refine blk_drew ?_ | refine bkA ?_ _)); exact BK309.out) hb); have n2_ := Az.mk (bkB (g := gb314) (o := .cells #[.int .i64 ((rd_T28 l1_2 x36_2).f0), .int .i64 ((rd_T28 l1_2 x36_2).f1), .slice A313_2 ((rd_T28 l1_2 x36_2).f2).length c313_2] 28 (0, 0)) (by (with_reducible repeat (first | refine bdN ?_ _ | refine blk_drew ?_ | refine bkA ?_ _)); refine blk_put (cs := #[.int .i64 ((rd_T28 l1_2 x36_2).f0), .int .i64 ((rd_T28 l1_2 x36_2).f1), .slice none 0 0]) ?_ 2 _ rfl; (with_reducible repeat (first | refine bdN ?_ _ | refine blk_drew ?_ | refine bkA ?_ _)); refine blk_put (cs := #[.int .i64 ((rd_T28 l1_2 x36_2).f0), .int .i64 0, .slice none 0 0]) ?_ 1 _ rfl; (with_reducible repeat (first | refine bdN ?_ _ | refine blk_drew ?_ | refine bkA ?_ _)); refine blk_put (cs := #[.int .i64 0, .int .i64 0, .slice none 0 0]) ?_ 0 _ rfl; (with_reducible repeat (first | refine bdN ?_ _ | refine blk_drew ?_ | refine bkA ?_ _)); exact BK314.out) hb); have n3_ := Az.mk (bst (by repeat (first | (with_reducible first | exact HB.out | apply bal | apply pwN | apply bd1 | refine bset ?_ GE308.out | refine bset ?_ GE309.out | refine bset ?_ GE314.out) | exact HB.out)) hb); clear BK308; clear BK309; clear BK314; clear HB; have BK308 := n0_; have BK309 := n1_; have BK314 := n2_; have HB := n3_; clear n0_ n1_ n2_ n3_; (try clear hb); (try clear hb2); (try clear hk); (try clear hi)))
                        go_roundg k2
                        case measure => have := HJ2.out; have := HK2.out; omega
                        case rel => exact ⟨(((x5_2 ++ (⟨#[32, 40]⟩ : ByteArray)) ++ t316) ++ (⟨#[41]⟩ : ByteArray)), (wrap64 (x36_2 + 1)), (by first | rfl | (simp; done) | (simp [*]; done)), (by first | rfl | (simp; done) | (simp [*]; done)), H', ⟨by have := HJ2.out; have := HK2.out; omega⟩, ⟨by (with_reducible repeat (first | refine bdN ?_ _ | refine blk_drew ?_ | refine bkA ?_ _)); exact BK308.out⟩, ⟨by (with_reducible repeat (first | refine bdN ?_ _ | refine blk_drew ?_ | refine bkA ?_ _)); exact BK309.out⟩, ⟨by repeat (first | (with_reducible first | exact HB.out | apply bal | apply pwN | apply bd1 | refine bset ?_ GE308.out | refine bset ?_ GE309.out | refine bset ?_ GE314.out) | exact HB.out)⟩⟩
                      · rw [if_neg c44] at H
                        exact absurd H (by simp)
                    · rw [if_neg c43] at H
                      exact absurd H (by simp)
                  · rw [if_neg c41] at H
                    exact absurd H (by simp)
              · rw [if_neg c29] at H
                exact absurd H (by simp)
            · rw [if_neg c28] at H
              exact absurd H (by simp)
          · rw [if_neg c27] at H
            have c27b0 : decide (x36_2 < (l1_2.length : Int)) = false := decide_eq_false c27
            clear c27
            obtain rfl := Option.some.inj H
            go_wp2
            go_ret
            exact ⟨by first | rfl | (simp [errW_none, errW_some] <;> rfl) | (simp [*, errW_none, errW_some] <;> rfl), by repeat (first | (with_reducible first | exact HB.out | apply bal | apply pwN | apply bd1 | refine bset ?_ GE308.out | refine bset ?_ GE309.out) | exact HB.out)⟩
end Go.Proofs.Ytnfgpepggehegaa.I
