/- Texts of this session's proof, laid together: IB1, I7, I9. -/
import Derived.Test.YtnfgpepggehegaaH4
namespace Go.Proofs.Ytnfgpepggehegaa.I
open Go.RowKit Go.Proofs.YtnfgpepggehegaaW.PrintWords Go.Proofs.YtnfgpepggehegaaW.PrintLast Go.Proofs.YtnfgpepggehegaaW.PrintMore
attribute [local go_sem] max2_int min2_int max_two min_two max_three min_three max_four min_four   -- for this text's walks alone
set_option linter.unusedVariables false
set_option linter.unusedSimpArgs false
def virgationref01_begins.f (a0 : ByteArray) (a1 : Int) (a2 : ByteArray) : Option (Bool) := if (wrap64 ((a0.size : Int) - a1)) ≥ (a2.size : Int) then (if 0 ≤ a1 then (if a1 ≤ (wrap64 (a1 + (a2.size : Int))) then (if (wrap64 (a1 + (a2.size : Int))) ≤ (a0.size : Int) then (some ((a0.extract (a1 : Int).toNat ((wrap64 (a1 + (a2.size : Int))) : Int).toNat).toList == a2.toList)) else (none)) else (none)) else (none)) else (some false)
set_option maxHeartbeats 8000000 in
set_option maxRecDepth 100000 in
theorem virgationref01_begins.calls (a0 : ByteArray) (a1 : Int) (a2 : ByteArray) (r : Bool) (w : World) (h : virgationref01_begins.f a0 a1 a2 = some r) :
    Calls Try.prog 87 #[.string a0, .int .i64 a1, .string a2] w fun e w' => e = .returned (.bool r) ∧ Drawn0 w w' := by
  have H : (if (wrap64 ((a0.size : Int) - a1)) ≥ (a2.size : Int) then (if 0 ≤ a1 then (if a1 ≤ (wrap64 (a1 + (a2.size : Int))) then (if (wrap64 (a1 + (a2.size : Int))) ≤ (a0.size : Int) then (some ((a0.extract (a1 : Int).toNat ((wrap64 (a1 + (a2.size : Int))) : Int).toNat).toList == a2.toList)) else (none)) else (none)) else (none)) else (some false)) = some r := h
  clear h
  by_cases c4 : (wrap64 ((a0.size : Int) - a1)) ≥ (a2.size : Int)
  · rw [if_pos c4] at H
    have c4b0 : decide ((a2.size : Int) ≤ (wrap64 ((a0.size : Int) - a1))) = true := decide_eq_true c4
    clear c4
    by_cases c5 : 0 ≤ a1
    · rw [if_pos c5] at H
      have c5b0 := eq_true c5
      have c5b1 : decide (0 ≤ a1) = true := decide_eq_true c5
      clear c5
      by_cases c6 : a1 ≤ (wrap64 (a1 + (a2.size : Int)))
      · rw [if_pos c6] at H
        have c6b0 := eq_true c6
        have c6b1 : decide (a1 ≤ (wrap64 (a1 + (a2.size : Int)))) = true := decide_eq_true c6
        by_cases c7 : (wrap64 (a1 + (a2.size : Int))) ≤ (a0.size : Int)
        · rw [if_pos c7] at H
          have c7b0 := eq_true c7
          have c7b1 : decide ((wrap64 (a1 + (a2.size : Int))) ≤ (a0.size : Int)) = true := decide_eq_true c7
          obtain rfl := Option.some.inj H
          go_enter Try.func87, Try.ntmps87
          go_wp2
          go_ret
          exact ⟨by first | rfl | (simp; done) | (simp [*]; done), by repeat (first | exact Drawn0.refl _ | apply Drawn0.step)⟩
        · rw [if_neg c7] at H
          exact absurd H (by simp)
      · rw [if_neg c6] at H
        exact absurd H (by simp)
    · rw [if_neg c5] at H
      exact absurd H (by simp)
  · rw [if_neg c4] at H
    have c4b0 : decide ((a2.size : Int) ≤ (wrap64 ((a0.size : Int) - a1))) = false := decide_eq_false c4
    clear c4
    obtain rfl := Option.some.inj H
    go_enter Try.func87, Try.ntmps87
    go_wp2
    go_ret
    exact ⟨by first | rfl | (simp; done) | (simp [*]; done), by repeat (first | exact Drawn0.refl _ | apply Drawn0.step)⟩
mutual
def virgationref01_Parse.l0 : Nat → ByteArray → Int → List (S53) → Option ((List (S53)) × Int × Bool)
  | 0, _, _, _ => none
  | k + 1, x0, x1, x335000 => (virgationref01_begins.f x0 x1 (⟨#[111]⟩ : ByteArray)).bind fun t335 => (if t335 = true then ((virgationref01_begins.f x0 (wrap64 (x1 + 1)) (⟨#[32, 62, 32]⟩ : ByteArray)).bind fun t336 => (if t336 = true then (if x335000.length < 5864062014805 then (virgationref01_Parse.l0 k x0 (wrap64 ((wrap64 (x1 + 1)) + 3)) (x335000 ++ [(⟨([] : List (S53))⟩ : S53)])) else (none)) else (some (x335000, wrap64 (x1 + 1), true)))) else ((virgationref01_begins.f x0 x1 (⟨#[40]⟩ : ByteArray)).bind fun t340 => (if t340 = true then ((virgationref01_Parse.f k x0 (wrap64 (x1 + 1))).bind fun bt341 => (if bt341.2.2 = true then (if (bt341.1.length : Int) = 0 then (some (x335000, x1, false)) else ((virgationref01_begins.f x0 bt341.2.1 (⟨#[41, 32, 62, 32]⟩ : ByteArray)).bind fun t347 => (if t347 = true then (if x335000.length < 5864062014805 then (virgationref01_Parse.l0 k x0 (wrap64 (bt341.2.1 + 4)) (x335000 ++ [(⟨bt341.1⟩ : S53)])) else (none)) else (some (x335000, x1, false))))) else (some (x335000, x1, false)))) else (some (x335000, x1, false)))))
def virgationref01_Parse.f : Nat → ByteArray → Int → Option ((List (S53)) × Int × Bool)
  | 0, _, _ => none
  | k + 1, a0, a1 => virgationref01_Parse.l0 k a0 a1 ([] : List (S53))
end
set_option maxHeartbeats 8000000 in
set_option maxRecDepth 100000 in
theorem virgationref01_Parse.calls (k : Nat) : ∀ (a0 : ByteArray) (a1 : Int) (r1 : List (S53)) (r2 : Int) (r3 : Bool) (w : World) (h : virgationref01_Parse.f k a0 a1 = some (r1, r2, r3)),
    Calls Try.prog 80 #[.string a0, .int .i64 a1] w fun e w' => ∃ v0_ : Value, e = .returned (.tuple #[.agg #[v0_], .int .i64 r2, .bool r3]) ∧ Kd.R k53 53 w' w.heap.size (fun _ => True) v0_ r1 ∧ Below w.heap.size w w' := by
  induction k using Nat.strongRecOn with
  | _ k ih =>
  intro a0 a1 r1 r2 r3 w h
  cases k with
  | zero => exact absurd h (by simp [virgationref01_Parse.f])
  | succ k =>
  simp only [virgationref01_Parse.f] at h
  have hu53 := Try.underlying53
  have HB := Az.mk (Below.refl w.heap.size w)
  have H : (virgationref01_Parse.l0 k a0 a1 ([] : List (S53))) = some (r1, r2, r3) := h
  clear h
  have H' := Az.mk H
  clear H
  go_enter Try.func80, Try.ntmps80
  go_wp2_with (first | ((with_reducible refine gate_dst (N := 4) rfl ?_); (try (refine gate_guard (by rfl) ?_; dsimp only)); refine box_event ?hg (N := 4) ?hd (cs := #[.slice none 0 0]) (t := 53) ?hr ?_; (case hd => rfl); (case hg => rfl); (case hr => first | (go_simp; done) | (go_simp; rfl)); intro gb333 hg w3 hbox hb; have n0_ := Az.mk (bst (by repeat (first | (with_reducible first | exact HB.out | apply bal | apply pwN | apply bd1) | exact HB.out)) hb); have n1_ := Az.mk (hbox); have n2_ := Az.mk ((by rw [hg]; exact (below_size (by repeat (first | (with_reducible first | exact HB.out | apply bal | apply pwN | apply bd1) | exact HB.out))) : w.heap.size ≤ gb333)); have n3_ := Az.mk ((by rw [hg]; exact (below_size (by repeat (first | (with_reducible first | exact HB.out | apply bal | apply pwN | apply bd1) | exact HB.out))) : w.heap.size ≤ gb333)); clear HB; have HB := n0_; have BK333 := n1_; have GW333 := n2_; have GE333 := n3_; clear n0_ n1_ n2_ n3_; clear hb hbox hg) | ((with_reducible refine gate_dst (N := 7) rfl ?_); (try (refine gate_guard (by rfl) ?_; dsimp only)); refine box_event ?hg (N := 7) ?hd (cs := #[.slice none 0 0]) (t := 53) ?hr ?_; (case hd => rfl); (case hg => rfl); (case hr => first | (go_simp; done) | (go_simp; rfl)); intro gb334 hg w4 hbox hb; have n0_ := Az.mk (bkB (g := gb333) (o := .cells #[.slice none 0 0] 53 (0, 0)) (by (with_reducible repeat (first | refine bdN ?_ _ | refine blk_drew ?_ | refine bkA ?_ _)); exact BK333.out) hb); have n1_ := Az.mk (bst (by repeat (first | (with_reducible first | exact HB.out | apply bal | apply pwN | apply bd1 | refine bset ?_ GE333.out) | exact HB.out)) hb); have n2_ := Az.mk (hbox); have n3_ := Az.mk ((by rw [hg]; exact (below_size (by repeat (first | (with_reducible first | exact HB.out | apply bal | apply pwN | apply bd1 | refine bset ?_ GE333.out) | exact HB.out))) : w.heap.size ≤ gb334)); have n4_ := Az.mk ((by rw [hg]; exact (below_size (by repeat (first | (with_reducible first | exact HB.out | apply bal | apply pwN | apply bd1 | refine bset ?_ GE333.out) | exact HB.out))) : w.heap.size ≤ gb334)); have n5_ := Az.mk ((by rw [hg]; exact Nat.ne_of_lt (blk_lt (g := gb333) (o := .cells #[.slice none 0 0] 53 (0, 0)) (by (with_reducible repeat (first | refine bdN ?_ _ | refine blk_drew ?_ | refine bkA ?_ _)); exact BK333.out)) : gb333 ≠ gb334)); have n6_ := Az.mk ((by rw [hg]; exact Nat.ne_of_gt (blk_lt (g := gb333) (o := .cells #[.slice none 0 0] 53 (0, 0)) (by (with_reducible repeat (first | refine bdN ?_ _ | refine blk_drew ?_ | refine bkA ?_ _)); exact BK333.out)) : gb334 ≠ gb333)); clear BK333; clear HB; have BK333 := n0_; have HB := n1_; have BK334 := n2_; have GW334 := n3_; have GE334 := n4_; have NB333_334 := n5_; have NB334_333 := n6_; clear n0_ n1_ n2_ n3_ n4_ n5_ n6_; clear hb hbox hg))
  (try simp only [Act.put, List.setIfInBounds_toArray, List.set_cons_zero, List.set_cons_succ])
  go_loopg [1] k (fun kq v1 w' => ∃ (x1_1 : Int) (x335000_1 : List (S53)) (u335000 : Value), v1 = .int .i64 x1_1 ∧ Az (virgationref01_Parse.l0 kq a0 x1_1 x335000_1 = some (r1, r2, r3)) ∧ Az (kq ≤ k) ∧ Az (Kd.R k53 53 w' w.heap.size (fun k_ => k_ ≠ gb333 ∧ k_ ≠ gb334) u335000 x335000_1) ∧ Az (w'.heap[gb333]? = some (.cells #[(.slice none 0 0)] 53 (0, 0))) ∧ Az (w'.heap[gb334]? = some (.cells #[u335000] 53 (0, 0))) ∧ Az (Below w.heap.size w w'))
  case atStart => exact ⟨(a1), (([] : List (S53))), (.slice none 0 0), (by first | rfl | (simp; done) | (simp [*]; done)), H', ⟨Nat.le_refl _⟩, ⟨by first | exact Kd.R_nil _ _ _ _ _ | exact Kd.N_nil _ _ _ _ _ | exact Kd.V_nil _ _ _ _ _ | exact Kd.Q_nil _ _ _ _ _ | exact Kd.S_nil _ _ _ _ _⟩, ⟨by (with_reducible repeat (first | refine bdN ?_ _ | refine blk_drew ?_ | refine bkA ?_ _)); exact BK333.out⟩, ⟨by (with_reducible repeat (first | refine bdN ?_ _ | refine blk_drew ?_ | refine bkA ?_ _)); exact BK334.out⟩, ⟨by repeat (first | (with_reducible first | exact HB.out | apply bal | apply pwN | apply bd1 | refine bset ?_ GE333.out | refine bset ?_ GE334.out) | exact HB.out)⟩⟩
  case round =>
    clear H'
    try clear p2
    try clear c4
    obtain ⟨x1_1, x335000_1, u335000, rfl, HA, HK1, HO_335000, BK333, BK334, HB⟩ := hrel
    cases gk with
    | zero => exact absurd HA.out (by simp [virgationref01_Parse.l0])
    | succ k1 =>
      have H := HA.out
      clear HA
      simp only [virgationref01_Parse.l0] at H
      replace H := Option.bind_eq_some_iff.mp H
      obtain ⟨t335, A50, H⟩ := H
      replace H : (if t335 = true then ((virgationref01_begins.f a0 (wrap64 (x1_1 + 1)) (⟨#[32, 62, 32]⟩ : ByteArray)).bind fun t336 => (if t336 = true then (if x335000_1.length < 5864062014805 then (virgationref01_Parse.l0 k1 a0 (wrap64 ((wrap64 (x1_1 + 1)) + 3)) (x335000_1 ++ [(⟨([] : List (S53))⟩ : S53)])) else (none)) else (some (x335000_1, wrap64 (x1_1 + 1), true)))) else ((virgationref01_begins.f a0 x1_1 (⟨#[40]⟩ : ByteArray)).bind fun t340 => (if t340 = true then ((virgationref01_Parse.f k1 a0 (wrap64 (x1_1 + 1))).bind fun bt341 => (if bt341.2.2 = true then (if (bt341.1.length : Int) = 0 then (some (x335000_1, x1_1, false)) else ((virgationref01_begins.f a0 bt341.2.1 (⟨#[41, 32, 62, 32]⟩ : ByteArray)).bind fun t347 => (if t347 = true then (if x335000_1.length < 5864062014805 then (virgationref01_Parse.l0 k1 a0 (wrap64 (bt341.2.1 + 4)) (x335000_1 ++ [(⟨bt341.1⟩ : S53)])) else (none)) else (some (x335000_1, x1_1, false))))) else (some (x335000_1, x1_1, false)))) else (some (x335000_1, x1_1, false))))) = some (r1, r2, r3) := H
      have A5 := Az.mk A50
      clear A50
      by_cases c6 : t335 = true
      · subst c6
        have H1 : ((virgationref01_begins.f a0 (wrap64 (x1_1 + 1)) (⟨#[32, 62, 32]⟩ : ByteArray)).bind fun t336 => (if t336 = true then (if x335000_1.length < 5864062014805 then (virgationref01_Parse.l0 k1 a0 (wrap64 ((wrap64 (x1_1 + 1)) + 3)) (x335000_1 ++ [(⟨([] : List (S53))⟩ : S53)])) else (none)) else (some (x335000_1, wrap64 (x1_1 + 1), true)))) = some (r1, r2, r3) := by rw [if_pos rfl] at H; exact H
        clear H
        have H := H1
        clear H1
        replace H := Option.bind_eq_some_iff.mp H
        obtain ⟨t336, A70, H⟩ := H
        replace H : (if t336 = true then (if x335000_1.length < 5864062014805 then (virgationref01_Parse.l0 k1 a0 (wrap64 ((wrap64 (x1_1 + 1)) + 3)) (x335000_1 ++ [(⟨([] : List (S53))⟩ : S53)])) else (none)) else (some (x335000_1, wrap64 (x1_1 + 1), true))) = some (r1, r2, r3) := H
        have A7 := Az.mk A70
        clear A70
        by_cases c8 : t336 = true
        · subst c8
          have H1 : (if x335000_1.length < 5864062014805 then (virgationref01_Parse.l0 k1 a0 (wrap64 ((wrap64 (x1_1 + 1)) + 3)) (x335000_1 ++ [(⟨([] : List (S53))⟩ : S53)])) else (none)) = some (r1, r2, r3) := by rw [if_pos rfl] at H; exact H
          clear H
          have H := H1
          clear H1
          by_cases c9 : x335000_1.length < 5864062014805
          · rw [if_pos c9] at H
            have LMc9 := Az.mk c9
            clear c9
            obtain ⟨y337, hy337⟩ : ∃ y_ : List (S53), y_ = (x335000_1 ++ [(⟨([] : List (S53))⟩ : S53)]) := ⟨_, rfl⟩
            replace H : (virgationref01_Parse.l0 k1 a0 (wrap64 ((wrap64 (x1_1 + 1)) + 3)) y337) = some (r1, r2, r3) := by first | (rw [hy337]; with_reducible exact H) | (have H2_ := (Option.bind_some _ _).symm.trans H; rw [hy337]; with_reducible exact H2_) | (have H2_ := (Option.bind_some _ _).symm.trans H; with_reducible exact H2_) | with_reducible exact H | (rw [hy337]; exact H) | exact H
            have Ny337 := Az.mk hy337
            clear hy337
            have H' := Az.mk H
            clear H
            go_wp2_with (first | ((with_reducible refine gate_callee (f := 87) rfl ?_); refine goesL_ (some 13) rfl rfl Try.func87 (by kernel_rfl) rfl #[.string a0, .int .i64 x1_1, .string (⟨#[111]⟩ : ByteArray)] rfl (by (try simp only [List.map_toArray, List.map_cons, List.map_nil]); first | done | rfl | (simp only [List.length_drop, List.length_take]; rfl)) ?_; (with_reducible refine (virgationref01_begins.calls a0 x1_1 (⟨#[111]⟩ : ByteArray) true _ A5.out).mono ?_); rintro e w' ⟨rfl, ⟨nd, rfl⟩⟩; refine ⟨_, rfl, ?_⟩; (try (rw [drewN_self wr]; generalize hq_ : World.drewN wr _ = wr; have n0_ : Az (Kd.R k53 53 wr w.heap.size (fun k_ => k_ ≠ gb333 ∧ k_ ≠ gb334) u335000 x335000_1) := ⟨by rw [← hq_]; exact (by (with_reducible repeat (first | apply Kd.R_alloc | apply Kd.R_drewN | apply Kd.R_drew)); exact HO_335000.out)⟩; have n1_ : Az (wr.heap[gb333]? = some (.cells #[.slice none 0 0] 53 (0, 0))) := ⟨by rw [← hq_]; exact (by (with_reducible repeat (first | refine bdN ?_ _ | refine blk_drew ?_ | refine bkA ?_ _)); exact BK333.out)⟩; have n2_ : Az (wr.heap[gb334]? = some (.cells #[u335000] 53 (0, 0))) := ⟨by rw [← hq_]; exact (by (with_reducible repeat (first | refine bdN ?_ _ | refine blk_drew ?_ | refine bkA ?_ _)); exact BK334.out)⟩; have n3_ : Az (Below w.heap.size w wr) := ⟨by rw [← hq_]; exact (by repeat (first | (with_reducible first | exact HB.out | apply bal | apply pwN | apply bd1 | refine bset ?_ GE333.out | refine bset ?_ GE334.out) | exact HB.out))⟩; clear HO_335000 BK333 BK334 HB hq_; have HO_335000 := n0_; have BK333 := n1_; have BK334 := n2_; have HB := n3_; clear n0_ n1_ n2_ n3_))) | ((with_reducible refine gate_callee (f := 87) rfl ?_); refine goesL_ (some 18) rfl rfl Try.func87 (by kernel_rfl) rfl #[.string a0, .int .i64 (wrap64 (x1_1 + 1)), .string (⟨#[32, 62, 32]⟩ : ByteArray)] rfl (by (try simp only [List.map_toArray, List.map_cons, List.map_nil]); first | done | rfl | (simp only [List.length_drop, List.length_take]; rfl)) ?_; (with_reducible refine (virgationref01_begins.calls a0 (wrap64 (x1_1 + 1)) (⟨#[32, 62, 32]⟩ : ByteArray) true _ A7.out).mono ?_); rintro e w' ⟨rfl, ⟨nd, rfl⟩⟩; refine ⟨_, rfl, ?_⟩; (try (rw [drewN_self wr]; generalize hq_ : World.drewN wr _ = wr; have n0_ : Az (Kd.R k53 53 wr w.heap.size (fun k_ => k_ ≠ gb333 ∧ k_ ≠ gb334) u335000 x335000_1) := ⟨by rw [← hq_]; exact (by (with_reducible repeat (first | apply Kd.R_alloc | apply Kd.R_drewN | apply Kd.R_drew)); exact HO_335000.out)⟩; have n1_ : Az (wr.heap[gb333]? = some (.cells #[.slice none 0 0] 53 (0, 0))) := ⟨by rw [← hq_]; exact (by (with_reducible repeat (first | refine bdN ?_ _ | refine blk_drew ?_ | refine bkA ?_ _)); exact BK333.out)⟩; have n2_ : Az (wr.heap[gb334]? = some (.cells #[u335000] 53 (0, 0))) := ⟨by rw [← hq_]; exact (by (with_reducible repeat (first | refine bdN ?_ _ | refine blk_drew ?_ | refine bkA ?_ _)); exact BK334.out)⟩; have n3_ : Az (Below w.heap.size w wr) := ⟨by rw [← hq_]; exact (by repeat (first | (with_reducible first | exact HB.out | apply bal | apply pwN | apply bd1 | refine bset ?_ GE333.out | refine bset ?_ GE334.out) | exact HB.out))⟩; clear HO_335000 BK333 BK334 HB hq_; have HO_335000 := n0_; have BK333 := n1_; have BK334 := n2_; have HB := n3_; clear n0_ n1_ n2_ n3_)); have hnb10 := NB334_333.out; have hnc10 := NB333_334.out; have hcz11_0 : wr.cell? ⟨gb334, 0, none⟩ = some (u335000) := (blk_cell BK334.out 0).trans rfl; have hfz11_0 := bkF BK334.out 0) | ((with_reducible refine gate_builtin (b := .append) (xs := #[.tmp 23, .tmp 25]) rfl ?_); (try (refine gate_guard (by rfl) ?_; dsimp only)); at_builtin; refine Kd.R_append k53 (w0 := w) w.heap.size rfl (.tmp 23) (.tmp 25) 51 53 (.agg #[(.slice none 0 0)]) 24 rfl Try.underlying51 info53 rfl (by decide) (by omega) u335000 x335000_1 (⟨([] : List (S53))⟩ : S53) [.slice none 0 0] (fun k_ => k_ ≠ gb333 ∧ k_ ≠ gb334) (fun k_ => ((fun k_ => k_ ≠ gb333 ∧ k_ ≠ gb334)) k_ ∧ some k_ ≠ (u335000 : Value).ownBlock) rfl rfl ?aP (fun _ hk => hk) ?aF ?aO ?aB ?aS ?aL ?_; (case aP => exact k53_mkM _ _ _ (⟨([] : List (S53))⟩ : S53) (Kd.R_nil _ _ _ _ _)); (case aB => exact (by repeat (first | (with_reducible first | exact HB.out | apply bal | apply pwN | apply bd1 | refine bset ?_ GE333.out | refine bset ?_ GE334.out) | exact HB.out))); (case aF => exact (fun k_ hk => ⟨Kd.freshB (g := gb333) (o := .cells #[.slice none 0 0] 53 (0, 0)) (by (with_reducible repeat (first | refine bdN ?_ _ | refine blk_drew ?_ | refine bkA ?_ _)); exact BK333.out) k_ hk, Kd.freshB (g := gb334) (o := .cells #[u335000] 53 (0, 0)) (by (with_reducible repeat (first | refine bdN ?_ _ | refine blk_drew ?_ | refine bkA ?_ _)); exact BK334.out) k_ hk⟩)); (case aO => exact (by (with_reducible repeat (first | apply Kd.R_alloc | apply Kd.R_drewN | apply Kd.R_drew)); exact HO_335000.out)); (case aS => exact (below_size (by repeat (first | (with_reducible first | exact HB.out | apply bal | apply pwN | apply bd1 | refine bset ?_ GE333.out | refine bset ?_ GE334.out) | exact HB.out)))); (case aL => have := LMc9.out; omega); intro v338 w12 ho hb hg hat; rw [← Ny337.out] at ho; have n0_ := Az.mk (blk_grown (g := gb333) (o := .cells #[.slice none 0 0] 53 (0, 0)) (by (with_reducible repeat (first | refine bdN ?_ _ | refine blk_drew ?_ | refine bkA ?_ _)); exact BK333.out) hg (Kd.R_away HO_335000.out (fun _ hk => hk.1))); have n1_ := Az.mk (blk_grown (g := gb334) (o := .cells #[u335000] 53 (0, 0)) (by (with_reducible repeat (first | refine bdN ?_ _ | refine blk_drew ?_ | refine bkA ?_ _)); exact BK334.out) hg (Kd.R_away HO_335000.out (fun _ hk => hk.2))); have n2_ := Az.mk (hb); have n3_ := Az.mk (ho); clear BK333; clear BK334; clear HB; clear HO_335000; have BK333 := n0_; have BK334 := n1_; have HB := n2_; have HO339 := n3_; clear n0_ n1_ n2_ n3_; clear ho hb hg hat; obtain ⟨Ao13, co13, eo13⟩ := Kd.R_slice HO339.out; subst eo13; have hcz14_0 : w12.cell? ⟨gb334, 0, none⟩ = some (u335000) := (blk_cell BK334.out 0).trans rfl; have hfz14_0 := bkF BK334.out 0))
            go_roundg k1
            case measure => have := HK1.out; omega
            case rel => exact ⟨(wrap64 ((wrap64 (x1_1 + 1)) + 3)), (y337), (.slice Ao13 y337.length co13), (by first | rfl | (simp; done) | (simp [*]; done)), H', ⟨by have := HK1.out; omega⟩, ⟨by (with_reducible repeat (first | apply Kd.R_alloc | apply Kd.R_drewN | apply Kd.R_drew)); exact Kd.R_mono (Kd.R_far (p := ⟨gb334, 0, none⟩) (Kd.R_mono HO339.out (fun k_ hk => (⟨hk, hk.2⟩ : _ ∧ k_ ≠ gb334))) (fun _ hk => hk.2) (.slice Ao13 y337.length co13)) (fun _ hk => ⟨hk.1.1, hk.1.2⟩)⟩, ⟨by (with_reducible repeat (first | refine bdN ?_ _ | refine blk_drew ?_ | refine bkA ?_ _)); refine blk_far ?_ NB333_334.out _; (with_reducible repeat (first | refine bdN ?_ _ | refine blk_drew ?_ | refine bkA ?_ _)); exact BK333.out⟩, ⟨by (with_reducible repeat (first | refine bdN ?_ _ | refine blk_drew ?_ | refine bkA ?_ _)); refine blk_put (cs := #[u335000]) ?_ 0 _ rfl; (with_reducible repeat (first | refine bdN ?_ _ | refine blk_drew ?_ | refine bkA ?_ _)); exact BK334.out⟩, ⟨by repeat (first | (with_reducible first | exact HB.out | apply bal | apply pwN | apply bd1 | refine bset ?_ GE333.out | refine bset ?_ GE334.out) | exact HB.out)⟩⟩
          · rw [if_neg c9] at H
            exact absurd H (by simp)
        · replace c8 := Bool.eq_false_iff.mpr c8
          subst c8
          have H1 : (some (x335000_1, wrap64 (x1_1 + 1), true)) = some (r1, r2, r3) := by rw [if_neg (show ¬ (false = true) by decide)] at H; exact H
          clear H
          have H := H1
          clear H1
          simp only [Option.some.injEq, Prod.mk.injEq] at H
          obtain ⟨rfl, rfl, rfl⟩ := H
          go_wp2_with (first | ((with_reducible refine gate_callee (f := 87) rfl ?_); refine goesL_ (some 13) rfl rfl Try.func87 (by kernel_rfl) rfl #[.string a0, .int .i64 x1_1, .string (⟨#[111]⟩ : ByteArray)] rfl (by (try simp only [List.map_toArray, List.map_cons, List.map_nil]); first | done | rfl | (simp only [List.length_drop, List.length_take]; rfl)) ?_; (with_reducible refine (virgationref01_begins.calls a0 x1_1 (⟨#[111]⟩ : ByteArray) true _ A5.out).mono ?_); rintro e w' ⟨rfl, ⟨nd, rfl⟩⟩; refine ⟨_, rfl, ?_⟩; (try (rw [drewN_self wr]; generalize hq_ : World.drewN wr _ = wr; have n0_ : Az (Kd.R k53 53 wr w.heap.size (fun k_ => k_ ≠ gb333 ∧ k_ ≠ gb334) u335000 x335000_1) := ⟨by rw [← hq_]; exact (by (with_reducible repeat (first | apply Kd.R_alloc | apply Kd.R_drewN | apply Kd.R_drew)); exact HO_335000.out)⟩; have n1_ : Az (wr.heap[gb333]? = some (.cells #[.slice none 0 0] 53 (0, 0))) := ⟨by rw [← hq_]; exact (by (with_reducible repeat (first | refine bdN ?_ _ | refine blk_drew ?_ | refine bkA ?_ _)); exact BK333.out)⟩; have n2_ : Az (wr.heap[gb334]? = some (.cells #[u335000] 53 (0, 0))) := ⟨by rw [← hq_]; exact (by (with_reducible repeat (first | refine bdN ?_ _ | refine blk_drew ?_ | refine bkA ?_ _)); exact BK334.out)⟩; have n3_ : Az (Below w.heap.size w wr) := ⟨by rw [← hq_]; exact (by repeat (first | (with_reducible first | exact HB.out | apply bal | apply pwN | apply bd1 | refine bset ?_ GE333.out | refine bset ?_ GE334.out) | exact HB.out))⟩; clear HO_335000 BK333 BK334 HB hq_; have HO_335000 := n0_; have BK333 := n1_; have BK334 := n2_; have HB := n3_; clear n0_ n1_ n2_ n3_))) | ((with_reducible refine gate_callee (f := 87) rfl ?_); refine goesL_ (some 18) rfl rfl Try.func87 (by kernel_rfl) rfl #[.string a0, .int .i64 (wrap64 (x1_1 + 1)), .string (⟨#[32, 62, 32]⟩ : ByteArray)] rfl (by (try simp only [List.map_toArray, List.map_cons, List.map_nil]); first | done | rfl | (simp only [List.length_drop, List.length_take]; rfl)) ?_; (with_reducible refine (virgationref01_begins.calls a0 (wrap64 (x1_1 + 1)) (⟨#[32, 62, 32]⟩ : ByteArray) false _ A7.out).mono ?_); rintro e w' ⟨rfl, ⟨nd, rfl⟩⟩; refine ⟨_, rfl, ?_⟩; (try (rw [drewN_self wr]; generalize hq_ : World.drewN wr _ = wr; have n0_ : Az (Kd.R k53 53 wr w.heap.size (fun k_ => k_ ≠ gb333 ∧ k_ ≠ gb334) u335000 x335000_1) := ⟨by rw [← hq_]; exact (by (with_reducible repeat (first | apply Kd.R_alloc | apply Kd.R_drewN | apply Kd.R_drew)); exact HO_335000.out)⟩; have n1_ : Az (wr.heap[gb333]? = some (.cells #[.slice none 0 0] 53 (0, 0))) := ⟨by rw [← hq_]; exact (by (with_reducible repeat (first | refine bdN ?_ _ | refine blk_drew ?_ | refine bkA ?_ _)); exact BK333.out)⟩; have n2_ : Az (wr.heap[gb334]? = some (.cells #[u335000] 53 (0, 0))) := ⟨by rw [← hq_]; exact (by (with_reducible repeat (first | refine bdN ?_ _ | refine blk_drew ?_ | refine bkA ?_ _)); exact BK334.out)⟩; have n3_ : Az (Below w.heap.size w wr) := ⟨by rw [← hq_]; exact (by repeat (first | (with_reducible first | exact HB.out | apply bal | apply pwN | apply bd1 | refine bset ?_ GE333.out | refine bset ?_ GE334.out) | exact HB.out))⟩; clear HO_335000 BK333 BK334 HB hq_; have HO_335000 := n0_; have BK333 := n1_; have BK334 := n2_; have HB := n3_; clear n0_ n1_ n2_ n3_)); have hnb15 := NB334_333.out; have hnc15 := NB333_334.out; have hcz16_0 : wr.cell? ⟨gb334, 0, none⟩ = some (u335000) := (blk_cell BK334.out 0).trans rfl; have hfz16_0 := bkF BK334.out 0; obtain ⟨Ao17, co17, eo17⟩ := Kd.R_slice HO_335000.out; subst eo17; have hcz18_0 : wr.cell? ⟨gb333, 0, none⟩ = some (.slice none 0 0) := (blk_cell BK333.out 0).trans rfl; have hfz18_0 := bkF BK333.out 0))
          refine bodyPost_ret (results_ctt rfl _ _ gb333 53 #[.slice Ao17 x335000_1.length co17] (0, 0) _ rfl (by (with_reducible repeat (first | refine bdN ?_ _ | refine blk_drew ?_ | refine bkA ?_ _)); refine blk_put (cs := #[.slice none 0 0]) ?_ 0 _ rfl; (with_reducible repeat (first | refine bdN ?_ _ | refine blk_drew ?_ | refine bkA ?_ _)); exact BK333.out) Try.underlying53 rfl (by kernel_rfl)) rfl ?_
          exact ⟨_, by first | rfl | (simp [errW_none, errW_some] <;> rfl) | (simp [*, errW_none, errW_some] <;> rfl), by (with_reducible repeat (first | apply Kd.R_alloc | apply Kd.R_drewN | apply Kd.R_drew)); exact Kd.R_mono (Kd.R_far (p := ⟨gb333, 0, none⟩) (Kd.R_mono HO_335000.out (fun k_ hk => (⟨hk, hk.1⟩ : _ ∧ k_ ≠ gb333))) (fun _ hk => hk.2) (.slice Ao17 x335000_1.length co17)) (fun _ hk => trivial), by repeat (first | (with_reducible first | exact HB.out | apply bal | apply pwN | apply bd1 | refine bset ?_ GE333.out | refine bset ?_ GE334.out) | exact HB.out)⟩
      · replace c6 := Bool.eq_false_iff.mpr c6
        subst c6
        have H1 : ((virgationref01_begins.f a0 x1_1 (⟨#[40]⟩ : ByteArray)).bind fun t340 => (if t340 = true then ((virgationref01_Parse.f k1 a0 (wrap64 (x1_1 + 1))).bind fun bt341 => (if bt341.2.2 = true then (if (bt341.1.length : Int) = 0 then (some (x335000_1, x1_1, false)) else ((virgationref01_begins.f a0 bt341.2.1 (⟨#[41, 32, 62, 32]⟩ : ByteArray)).bind fun t347 => (if t347 = true then (if x335000_1.length < 5864062014805 then (virgationref01_Parse.l0 k1 a0 (wrap64 (bt341.2.1 + 4)) (x335000_1 ++ [(⟨bt341.1⟩ : S53)])) else (none)) else (some (x335000_1, x1_1, false))))) else (some (x335000_1, x1_1, false)))) else (some (x335000_1, x1_1, false)))) = some (r1, r2, r3) := by rw [if_neg (show ¬ (false = true) by decide)] at H; exact H
        clear H
        have H := H1
        clear H1
        replace H := Option.bind_eq_some_iff.mp H
        obtain ⟨t340, A190, H⟩ := H
        replace H : (if t340 = true then ((virgationref01_Parse.f k1 a0 (wrap64 (x1_1 + 1))).bind fun bt341 => (if bt341.2.2 = true then (if (bt341.1.length : Int) = 0 then (some (x335000_1, x1_1, false)) else ((virgationref01_begins.f a0 bt341.2.1 (⟨#[41, 32, 62, 32]⟩ : ByteArray)).bind fun t347 => (if t347 = true then (if x335000_1.length < 5864062014805 then (virgationref01_Parse.l0 k1 a0 (wrap64 (bt341.2.1 + 4)) (x335000_1 ++ [(⟨bt341.1⟩ : S53)])) else (none)) else (some (x335000_1, x1_1, false))))) else (some (x335000_1, x1_1, false)))) else (some (x335000_1, x1_1, false))) = some (r1, r2, r3) := H
        have A19 := Az.mk A190
        clear A190
        by_cases c20 : t340 = true
        · subst c20
          have H1 : ((virgationref01_Parse.f k1 a0 (wrap64 (x1_1 + 1))).bind fun bt341 => (if bt341.2.2 = true then (if (bt341.1.length : Int) = 0 then (some (x335000_1, x1_1, false)) else ((virgationref01_begins.f a0 bt341.2.1 (⟨#[41, 32, 62, 32]⟩ : ByteArray)).bind fun t347 => (if t347 = true then (if x335000_1.length < 5864062014805 then (virgationref01_Parse.l0 k1 a0 (wrap64 (bt341.2.1 + 4)) (x335000_1 ++ [(⟨bt341.1⟩ : S53)])) else (none)) else (some (x335000_1, x1_1, false))))) else (some (x335000_1, x1_1, false)))) = some (r1, r2, r3) := by rw [if_pos rfl] at H; exact H
          clear H
          have H := H1
          clear H1
          replace H := Option.bind_eq_some_iff.mp H
          obtain ⟨⟨t341, t344, t345⟩, A210, H⟩ := H
          replace H : (if t345 = true then (if (t341.length : Int) = 0 then (some (x335000_1, x1_1, false)) else ((virgationref01_begins.f a0 t344 (⟨#[41, 32, 62, 32]⟩ : ByteArray)).bind fun t347 => (if t347 = true then (if x335000_1.length < 5864062014805 then (virgationref01_Parse.l0 k1 a0 (wrap64 (t344 + 4)) (x335000_1 ++ [(⟨t341⟩ : S53)])) else (none)) else (some (x335000_1, x1_1, false))))) else (some (x335000_1, x1_1, false))) = some (r1, r2, r3) := H
          have A21 := Az.mk A210
          clear A210
          by_cases c22 : t345 = true
          · subst c22
            have H1 : (if (t341.length : Int) = 0 then (some (x335000_1, x1_1, false)) else ((virgationref01_begins.f a0 t344 (⟨#[41, 32, 62, 32]⟩ : ByteArray)).bind fun t347 => (if t347 = true then (if x335000_1.length < 5864062014805 then (virgationref01_Parse.l0 k1 a0 (wrap64 (t344 + 4)) (x335000_1 ++ [(⟨t341⟩ : S53)])) else (none)) else (some (x335000_1, x1_1, false))))) = some (r1, r2, r3) := by rw [if_pos rfl] at H; exact H
            clear H
            have H := H1
            clear H1
            by_cases c23 : (t341.length : Int) = 0
            · rw [if_pos c23] at H
              have c23b0 : ((t341.length : Int) == 0) = true := beq_iff_eq.mpr c23
              have c23b1 : ((t341.length : Int) != 0) = false := bne_eq_false_iff_eq.mpr c23
              clear c23
              simp only [Option.some.injEq, Prod.mk.injEq] at H
              obtain ⟨rfl, rfl, rfl⟩ := H
              go_wp2_with (first | ((with_reducible refine gate_callee (f := 87) rfl ?_); refine goesL_ (some 13) rfl rfl Try.func87 (by kernel_rfl) rfl #[.string a0, .int .i64 x1_1, .string (⟨#[111]⟩ : ByteArray)] rfl (by (try simp only [List.map_toArray, List.map_cons, List.map_nil]); first | done | rfl | (simp only [List.length_drop, List.length_take]; rfl)) ?_; (with_reducible refine (virgationref01_begins.calls a0 x1_1 (⟨#[111]⟩ : ByteArray) false _ A5.out).mono ?_); rintro e w' ⟨rfl, ⟨nd, rfl⟩⟩; refine ⟨_, rfl, ?_⟩; (try (rw [drewN_self wr]; generalize hq_ : World.drewN wr _ = wr; have n0_ : Az (Kd.R k53 53 wr w.heap.size (fun k_ => k_ ≠ gb333 ∧ k_ ≠ gb334) u335000 x335000_1) := ⟨by rw [← hq_]; exact (by (with_reducible repeat (first | apply Kd.R_alloc | apply Kd.R_drewN | apply Kd.R_drew)); exact HO_335000.out)⟩; have n1_ : Az (wr.heap[gb333]? = some (.cells #[.slice none 0 0] 53 (0, 0))) := ⟨by rw [← hq_]; exact (by (with_reducible repeat (first | refine bdN ?_ _ | refine blk_drew ?_ | refine bkA ?_ _)); exact BK333.out)⟩; have n2_ : Az (wr.heap[gb334]? = some (.cells #[u335000] 53 (0, 0))) := ⟨by rw [← hq_]; exact (by (with_reducible repeat (first | refine bdN ?_ _ | refine blk_drew ?_ | refine bkA ?_ _)); exact BK334.out)⟩; have n3_ : Az (Below w.heap.size w wr) := ⟨by rw [← hq_]; exact (by repeat (first | (with_reducible first | exact HB.out | apply bal | apply pwN | apply bd1 | refine bset ?_ GE333.out | refine bset ?_ GE334.out) | exact HB.out))⟩; clear HO_335000 BK333 BK334 HB hq_; have HO_335000 := n0_; have BK333 := n1_; have BK334 := n2_; have HB := n3_; clear n0_ n1_ n2_ n3_))) | ((with_reducible refine gate_callee (f := 87) rfl ?_); refine goesL_ (some 32) rfl rfl Try.func87 (by kernel_rfl) rfl #[.string a0, .int .i64 x1_1, .string (⟨#[40]⟩ : ByteArray)] rfl (by (try simp only [List.map_toArray, List.map_cons, List.map_nil]); first | done | rfl | (simp only [List.length_drop, List.length_take]; rfl)) ?_; (with_reducible refine (virgationref01_begins.calls a0 x1_1 (⟨#[40]⟩ : ByteArray) true _ A19.out).mono ?_); rintro e w' ⟨rfl, ⟨nd, rfl⟩⟩; refine ⟨_, rfl, ?_⟩; (try (rw [drewN_self wr]; generalize hq_ : World.drewN wr _ = wr; have n0_ : Az (Kd.R k53 53 wr w.heap.size (fun k_ => k_ ≠ gb333 ∧ k_ ≠ gb334) u335000 x335000_1) := ⟨by rw [← hq_]; exact (by (with_reducible repeat (first | apply Kd.R_alloc | apply Kd.R_drewN | apply Kd.R_drew)); exact HO_335000.out)⟩; have n1_ : Az (wr.heap[gb333]? = some (.cells #[.slice none 0 0] 53 (0, 0))) := ⟨by rw [← hq_]; exact (by (with_reducible repeat (first | refine bdN ?_ _ | refine blk_drew ?_ | refine bkA ?_ _)); exact BK333.out)⟩; have n2_ : Az (wr.heap[gb334]? = some (.cells #[u335000] 53 (0, 0))) := ⟨by rw [← hq_]; exact (by (with_reducible repeat (first | refine bdN ?_ _ | refine blk_drew ?_ | refine bkA ?_ _)); exact BK334.out)⟩; have n3_ : Az (Below w.heap.size w wr) := ⟨by rw [← hq_]; exact (by repeat (first | (with_reducible first | exact HB.out | apply bal | apply pwN | apply bd1 | refine bset ?_ GE333.out | refine bset ?_ GE334.out) | exact HB.out))⟩; clear HO_335000 BK333 BK334 HB hq_; have HO_335000 := n0_; have BK333 := n1_; have BK334 := n2_; have HB := n3_; clear n0_ n1_ n2_ n3_))) | ((with_reducible refine gate_callee (f := 80) rfl ?_); refine goesL_ (some 40) rfl rfl Try.func80 (by kernel_rfl) rfl #[.string a0, .int .i64 (wrap64 (x1_1 + 1))] rfl (by (try simp only [List.map_toArray, List.map_cons, List.map_nil]); first | done | rfl | (simp only [List.length_drop, List.length_take]; rfl)) ?_; (with_reducible refine (ih k1 (by have := HK1.out; omega) a0 (wrap64 (x1_1 + 1)) t341 t344 true _ A21.out).mono ?_); rintro e w24 ⟨v342, rfl, ho0, hb⟩; refine ⟨_, rfl, ?_⟩; have n0_ := Az.mk (Kd.R_elder' (by (with_reducible repeat (first | apply Kd.R_alloc | apply Kd.R_drewN | apply Kd.R_drew)); exact HO_335000.out) (Kd.R_base ho0) hb); have n1_ := Az.mk (Kd.R_lower (Kd.R_newB (Kd.R_newB (Kd.R_new' ho0 (Kd.R_lt (by (with_reducible repeat (first | apply Kd.R_alloc | apply Kd.R_drewN | apply Kd.R_drew)); exact HO_335000.out))) (g := gb333) (o := .cells #[.slice none 0 0] 53 (0, 0)) (by (with_reducible repeat (first | refine bdN ?_ _ | refine blk_drew ?_ | refine bkA ?_ _)); exact BK333.out)) (g := gb334) (o := .cells #[u335000] 53 (0, 0)) (by (with_reducible repeat (first | refine bdN ?_ _ | refine blk_drew ?_ | refine bkA ?_ _)); exact BK334.out)) (below_size (by repeat (first | (with_reducible first | exact HB.out | apply bal | apply pwN | apply bd1 | refine bset ?_ GE333.out | refine bset ?_ GE334.out) | exact HB.out)))); have n2_ := Az.mk (bkB (g := gb333) (o := .cells #[.slice none 0 0] 53 (0, 0)) (by (with_reducible repeat (first | refine bdN ?_ _ | refine blk_drew ?_ | refine bkA ?_ _)); exact BK333.out) hb); have n3_ := Az.mk (bkB (g := gb334) (o := .cells #[u335000] 53 (0, 0)) (by (with_reducible repeat (first | refine bdN ?_ _ | refine blk_drew ?_ | refine bkA ?_ _)); exact BK334.out) hb); have n4_ := Az.mk (bst (by repeat (first | (with_reducible first | exact HB.out | apply bal | apply pwN | apply bd1 | refine bset ?_ GE333.out | refine bset ?_ GE334.out) | exact HB.out)) hb); clear HO_335000; clear BK333; clear BK334; clear HB; have HO_335000 := n0_; have HO343 := n1_; have BK333 := n2_; have BK334 := n3_; have HB := n4_; clear n0_ n1_ n2_ n3_ n4_; (try clear hb); (try clear hb2); (try clear hk); (try clear hi); (try clear ho0)) | ((with_reducible refine gate_dst (N := 8) rfl ?_); (try (refine gate_guard (by rfl) ?_; dsimp only)); refine box_event ?hg (N := 8) ?hd (cs := #[.slice none 0 0]) (t := 53) ?hr ?_; (case hd => rfl); (case hg => rfl); (case hr => first | (go_simp; done) | (go_simp; rfl)); intro gb346 hg w25 hbox hb; have n0_ := Az.mk (Kd.R_below (Kd.R_elderB (by (with_reducible repeat (first | apply Kd.R_alloc | apply Kd.R_drewN | apply Kd.R_drew)); exact HO_335000.out) gb346 (Nat.le_of_eq hg.symm)) hb); have n1_ := Az.mk (Kd.R_below (Kd.R_elderB (by (with_reducible repeat (first | apply Kd.R_alloc | apply Kd.R_drewN | apply Kd.R_drew)); exact HO343.out) gb346 (Nat.le_of_eq hg.symm)) hb); have n2_ := Az.mk (bkB (g := gb333) (o := .cells #[.slice none 0 0] 53 (0, 0)) (by (with_reducible repeat (first | refine bdN ?_ _ | refine blk_drew ?_ | refine bkA ?_ _)); exact BK333.out) hb); have n3_ := Az.mk (bkB (g := gb334) (o := .cells #[u335000] 53 (0, 0)) (by (with_reducible repeat (first | refine bdN ?_ _ | refine blk_drew ?_ | refine bkA ?_ _)); exact BK334.out) hb); have n4_ := Az.mk (bst (by repeat (first | (with_reducible first | exact HB.out | apply bal | apply pwN | apply bd1 | refine bset ?_ GE333.out | refine bset ?_ GE334.out) | exact HB.out)) hb); have n5_ := Az.mk (hbox); have n6_ := Az.mk ((by rw [hg]; exact (below_size (by repeat (first | (with_reducible first | exact HB.out | apply bal | apply pwN | apply bd1 | refine bset ?_ GE333.out | refine bset ?_ GE334.out) | exact HB.out))) : w.heap.size ≤ gb346)); have n7_ := Az.mk ((by rw [hg]; exact (below_size (by repeat (first | (with_reducible first | exact HB.out | apply bal | apply pwN | apply bd1 | refine bset ?_ GE333.out | refine bset ?_ GE334.out) | exact HB.out))) : w.heap.size ≤ gb346)); have n8_ := Az.mk ((by rw [hg]; exact Nat.ne_of_lt (blk_lt (g := gb333) (o := .cells #[.slice none 0 0] 53 (0, 0)) (by (with_reducible repeat (first | refine bdN ?_ _ | refine blk_drew ?_ | refine bkA ?_ _)); exact BK333.out)) : gb333 ≠ gb346)); have n9_ := Az.mk ((by rw [hg]; exact Nat.ne_of_gt (blk_lt (g := gb333) (o := .cells #[.slice none 0 0] 53 (0, 0)) (by (with_reducible repeat (first | refine bdN ?_ _ | refine blk_drew ?_ | refine bkA ?_ _)); exact BK333.out)) : gb346 ≠ gb333)); have n10_ := Az.mk ((by rw [hg]; exact Nat.ne_of_lt (blk_lt (g := gb334) (o := .cells #[u335000] 53 (0, 0)) (by (with_reducible repeat (first | refine bdN ?_ _ | refine blk_drew ?_ | refine bkA ?_ _)); exact BK334.out)) : gb334 ≠ gb346)); have n11_ := Az.mk ((by rw [hg]; exact Nat.ne_of_gt (blk_lt (g := gb334) (o := .cells #[u335000] 53 (0, 0)) (by (with_reducible repeat (first | refine bdN ?_ _ | refine blk_drew ?_ | refine bkA ?_ _)); exact BK334.out)) : gb346 ≠ gb334)); clear HO_335000; clear HO343; clear BK333; clear BK334; clear HB; have HO_335000 := n0_; have HO343 := n1_; have BK333 := n2_; have BK334 := n3_; have HB := n4_; have BK346 := n5_; have GW346 := n6_; have GE346 := n7_; have NB333_346 := n8_; have NB346_333 := n9_; have NB334_346 := n10_; have NB346_334 := n11_; clear n0_ n1_ n2_ n3_ n4_ n5_ n6_ n7_ n8_ n9_ n10_ n11_; clear hb hbox hg; obtain ⟨Ao26, co26, eo26⟩ := Kd.R_slice HO343.out; subst eo26; have hnb27 := NB346_333.out; have hnc27 := NB333_346.out; have hnb28 := NB346_334.out; have hnc28 := NB334_346.out; have hcz29_0 : w25.cell? ⟨gb346, 0, none⟩ = some (.slice none 0 0) := (blk_cell BK346.out 0).trans rfl; have hfz29_0 := bkF BK346.out 0; have hnb30 := NB334_333.out; have hnc30 := NB333_334.out; have hcz31_0 : w25.cell? ⟨gb334, 0, none⟩ = some (u335000) := (blk_cell BK334.out 0).trans rfl; have hfz31_0 := bkF BK334.out 0; obtain ⟨Ao32, co32, eo32⟩ := Kd.R_slice HO_335000.out; subst eo32; have hcz33_0 : w25.cell? ⟨gb333, 0, none⟩ = some (.slice none 0 0) := (blk_cell BK333.out 0).trans rfl; have hfz33_0 := bkF BK333.out 0))
              refine bodyPost_ret (results_ctt rfl _ _ gb333 53 #[.slice Ao32 x335000_1.length co32] (0, 0) _ rfl (by (with_reducible repeat (first | refine bdN ?_ _ | refine blk_drew ?_ | refine bkA ?_ _)); refine blk_put (cs := #[.slice none 0 0]) ?_ 0 _ rfl; (with_reducible repeat (first | refine bdN ?_ _ | refine blk_drew ?_ | refine bkA ?_ _)); refine blk_far ?_ NB333_346.out _; (with_reducible repeat (first | refine bdN ?_ _ | refine blk_drew ?_ | refine bkA ?_ _)); exact BK333.out) Try.underlying53 rfl (by kernel_rfl)) rfl ?_
              exact ⟨_, by first | rfl | (simp [errW_none, errW_some] <;> rfl) | (simp [*, errW_none, errW_some] <;> rfl), by (with_reducible repeat (first | apply Kd.R_alloc | apply Kd.R_drewN | apply Kd.R_drew)); exact Kd.R_mono (Kd.R_far (p := ⟨gb333, 0, none⟩) (Kd.R_far (p := ⟨gb346, 0, none⟩) (Kd.R_mono (Kd.R_mono HO_335000.out (fun k_ hk => (⟨hk, hk.2⟩ : _ ∧ k_ ≠ gb346))) (fun k_ hk => (⟨hk, hk.1.1.1.1⟩ : _ ∧ k_ ≠ gb333))) (fun _ hk => hk.1.2) (.slice Ao26 t341.length co26)) (fun _ hk => hk.2) (.slice Ao32 x335000_1.length co32)) (fun _ hk => trivial), by repeat (first | (with_reducible first | exact HB.out | apply bal | apply pwN | apply bd1 | refine bset ?_ GE333.out | refine bset ?_ GE334.out | refine bset ?_ GE346.out) | exact HB.out)⟩
            · rw [if_neg c23] at H
              have c23b0 : ((t341.length : Int) == 0) = false := beq_eq_false_iff_ne.mpr c23
              have c23b1 : ((t341.length : Int) != 0) = true := bne_iff_ne.mpr c23
              have c23b2 : ¬ (t341 = []) := fun h_ => c23 (by rw [h_]; rfl)
              replace H := Option.bind_eq_some_iff.mp H
              obtain ⟨t347, A340, H⟩ := H
              replace H : (if t347 = true then (if x335000_1.length < 5864062014805 then (virgationref01_Parse.l0 k1 a0 (wrap64 (t344 + 4)) (x335000_1 ++ [(⟨t341⟩ : S53)])) else (none)) else (some (x335000_1, x1_1, false))) = some (r1, r2, r3) := H
              have A34 := Az.mk A340
              clear A340
              by_cases c35 : t347 = true
              · subst c35
                have H1 : (if x335000_1.length < 5864062014805 then (virgationref01_Parse.l0 k1 a0 (wrap64 (t344 + 4)) (x335000_1 ++ [(⟨t341⟩ : S53)])) else (none)) = some (r1, r2, r3) := by rw [if_pos rfl] at H; exact H
                clear H
                have H := H1
                clear H1
                by_cases c36 : x335000_1.length < 5864062014805
                · rw [if_pos c36] at H
                  have LMc36 := Az.mk c36
                  clear c36
                  obtain ⟨y348, hy348⟩ : ∃ y_ : List (S53), y_ = (x335000_1 ++ [(⟨t341⟩ : S53)]) := ⟨_, rfl⟩
                  replace H : (virgationref01_Parse.l0 k1 a0 (wrap64 (t344 + 4)) y348) = some (r1, r2, r3) := by first | (rw [hy348]; with_reducible exact H) | (have H2_ := (Option.bind_some _ _).symm.trans H; rw [hy348]; with_reducible exact H2_) | (have H2_ := (Option.bind_some _ _).symm.trans H; with_reducible exact H2_) | with_reducible exact H | (rw [hy348]; exact H) | exact H
                  have Ny348 := Az.mk hy348
                  clear hy348
                  have H' := Az.mk H
                  clear H
                  go_wp2_with (first | ((with_reducible refine gate_callee (f := 87) rfl ?_); refine goesL_ (some 13) rfl rfl Try.func87 (by kernel_rfl) rfl #[.string a0, .int .i64 x1_1, .string (⟨#[111]⟩ : ByteArray)] rfl (by (try simp only [List.map_toArray, List.map_cons, List.map_nil]); first | done | rfl | (simp only [List.length_drop, List.length_take]; rfl)) ?_; (with_reducible refine (virgationref01_begins.calls a0 x1_1 (⟨#[111]⟩ : ByteArray) false _ A5.out).mono ?_); rintro e w' ⟨rfl, ⟨nd, rfl⟩⟩; refine ⟨_, rfl, ?_⟩; (try (rw [drewN_self wr]; generalize hq_ : World.drewN wr _ = wr; have n0_ : Az (Kd.R k53 53 wr w.heap.size (fun k_ => k_ ≠ gb333 ∧ k_ ≠ gb334) u335000 x335000_1) := ⟨by rw [← hq_]; exact (by (with_reducible repeat (first | apply Kd.R_alloc | apply Kd.R_drewN | apply Kd.R_drew)); exact HO_335000.out)⟩; have n1_ : Az (wr.heap[gb333]? = some (.cells #[.slice none 0 0] 53 (0, 0))) := ⟨by rw [← hq_]; exact (by (with_reducible repeat (first | refine bdN ?_ _ | refine blk_drew ?_ | refine bkA ?_ _)); exact BK333.out)⟩; have n2_ : Az (wr.heap[gb334]? = some (.cells #[u335000] 53 (0, 0))) := ⟨by rw [← hq_]; exact (by (with_reducible repeat (first | refine bdN ?_ _ | refine blk_drew ?_ | refine bkA ?_ _)); exact BK334.out)⟩; have n3_ : Az (Below w.heap.size w wr) := ⟨by rw [← hq_]; exact (by repeat (first | (with_reducible first | exact HB.out | apply bal | apply pwN | apply bd1 | refine bset ?_ GE333.out | refine bset ?_ GE334.out) | exact HB.out))⟩; clear HO_335000 BK333 BK334 HB hq_; have HO_335000 := n0_; have BK333 := n1_; have BK334 := n2_; have HB := n3_; clear n0_ n1_ n2_ n3_))) | ((with_reducible refine gate_callee (f := 87) rfl ?_); refine goesL_ (some 32) rfl rfl Try.func87 (by kernel_rfl) rfl #[.string a0, .int .i64 x1_1, .string (⟨#[40]⟩ : ByteArray)] rfl (by (try simp only [List.map_toArray, List.map_cons, List.map_nil]); first | done | rfl | (simp only [List.length_drop, List.length_take]; rfl)) ?_; (with_reducible refine (virgationref01_begins.calls a0 x1_1 (⟨#[40]⟩ : ByteArray) true _ A19.out).mono ?_); rintro e w' ⟨rfl, ⟨nd, rfl⟩⟩; refine ⟨_, rfl, ?_⟩; (try (rw [drewN_self wr]; generalize hq_ : World.drewN wr _ = wr; have n0_ : Az (Kd.R k53 53 wr w.heap.size (fun k_ => k_ ≠ gb333 ∧ k_ ≠ gb334) u335000 x335000_1) := ⟨by rw [← hq_]; exact (by (with_reducible repeat (first | apply Kd.R_alloc | apply Kd.R_drewN | apply Kd.R_drew)); exact HO_335000.out)⟩; have n1_ : Az (wr.heap[gb333]? = some (.cells #[.slice none 0 0] 53 (0, 0))) := ⟨by rw [← hq_]; exact (by (with_reducible repeat (first | refine bdN ?_ _ | refine blk_drew ?_ | refine bkA ?_ _)); exact BK333.out)⟩; have n2_ : Az (wr.heap[gb334]? = some (.cells #[u335000] 53 (0, 0))) := ⟨by rw [← hq_]; exact (by (with_reducible repeat (first | refine bdN ?_ _ | refine blk_drew ?_ | refine bkA ?_ _)); exact BK334.out)⟩; have n3_ : Az (Below w.heap.size w wr) := ⟨by rw [← hq_]; exact (by repeat (first | (with_reducible first | exact HB.out | apply bal | apply pwN | apply bd1 | refine bset ?_ GE333.out | refine bset ?_ GE334.out) | exact HB.out))⟩; clear HO_335000 BK333 BK334 HB hq_; have HO_335000 := n0_; have BK333 := n1_; have BK334 := n2_; have HB := n3_; clear n0_ n1_ n2_ n3_))) | ((with_reducible refine gate_callee (f := 80) rfl ?_); refine goesL_ (some 40) rfl rfl Try.func80 (by kernel_rfl) rfl #[.string a0, .int .i64 (wrap64 (x1_1 + 1))] rfl (by (try simp only [List.map_toArray, List.map_cons, List.map_nil]); first | done | rfl | (simp only [List.length_drop, List.length_take]; rfl)) ?_; (with_reducible refine (ih k1 (by have := HK1.out; omega) a0 (wrap64 (x1_1 + 1)) t341 t344 true _ A21.out).mono ?_); rintro e w37 ⟨v342, rfl, ho0, hb⟩; refine ⟨_, rfl, ?_⟩; have n0_ := Az.mk (Kd.R_elder' (by (with_reducible repeat (first | apply Kd.R_alloc | apply Kd.R_drewN | apply Kd.R_drew)); exact HO_335000.out) (Kd.R_base ho0) hb); have n1_ := Az.mk (Kd.R_lower (Kd.R_newB (Kd.R_newB (Kd.R_new' ho0 (Kd.R_lt (by (with_reducible repeat (first | apply Kd.R_alloc | apply Kd.R_drewN | apply Kd.R_drew)); exact HO_335000.out))) (g := gb333) (o := .cells #[.slice none 0 0] 53 (0, 0)) (by (with_reducible repeat (first | refine bdN ?_ _ | refine blk_drew ?_ | refine bkA ?_ _)); exact BK333.out)) (g := gb334) (o := .cells #[u335000] 53 (0, 0)) (by (with_reducible repeat (first | refine bdN ?_ _ | refine blk_drew ?_ | refine bkA ?_ _)); exact BK334.out)) (below_size (by repeat (first | (with_reducible first | exact HB.out | apply bal | apply pwN | apply bd1 | refine bset ?_ GE333.out | refine bset ?_ GE334.out) | exact HB.out)))); have n2_ := Az.mk (bkB (g := gb333) (o := .cells #[.slice none 0 0] 53 (0, 0)) (by (with_reducible repeat (first | refine bdN ?_ _ | refine blk_drew ?_ | refine bkA ?_ _)); exact BK333.out) hb); have n3_ := Az.mk (bkB (g := gb334) (o := .cells #[u335000] 53 (0, 0)) (by (with_reducible repeat (first | refine bdN ?_ _ | refine blk_drew ?_ | refine bkA ?_ _)); exact BK334.out) hb); have n4_ := Az.mk (bst (by repeat (first | (with_reducible first | exact HB.out | apply bal | apply pwN | apply bd1 | refine bset ?_ GE333.out | refine bset ?_ GE334.out) | exact HB.out)) hb); clear HO_335000; clear BK333; clear BK334; clear HB; have HO_335000 := n0_; have HO343 := n1_; have BK333 := n2_; have BK334 := n3_; have HB := n4_; clear n0_ n1_ n2_ n3_ n4_; (try clear hb); (try clear hb2); (try clear hk); (try clear hi); (try clear ho0)) | ((with_reducible refine gate_dst (N := 8) rfl ?_); (try (refine gate_guard (by rfl) ?_; dsimp only)); refine box_event ?hg (N := 8) ?hd (cs := #[.slice none 0 0]) (t := 53) ?hr ?_; (case hd => rfl); (case hg => rfl); (case hr => first | (go_simp; done) | (go_simp; rfl)); intro gb346 hg w38 hbox hb; have n0_ := Az.mk (Kd.R_below (Kd.R_elderB (by (with_reducible repeat (first | apply Kd.R_alloc | apply Kd.R_drewN | apply Kd.R_drew)); exact HO_335000.out) gb346 (Nat.le_of_eq hg.symm)) hb); have n1_ := Az.mk (Kd.R_below (Kd.R_elderB (by (with_reducible repeat (first | apply Kd.R_alloc | apply Kd.R_drewN | apply Kd.R_drew)); exact HO343.out) gb346 (Nat.le_of_eq hg.symm)) hb); have n2_ := Az.mk (bkB (g := gb333) (o := .cells #[.slice none 0 0] 53 (0, 0)) (by (with_reducible repeat (first | refine bdN ?_ _ | refine blk_drew ?_ | refine bkA ?_ _)); exact BK333.out) hb); have n3_ := Az.mk (bkB (g := gb334) (o := .cells #[u335000] 53 (0, 0)) (by (with_reducible repeat (first | refine bdN ?_ _ | refine blk_drew ?_ | refine bkA ?_ _)); exact BK334.out) hb); have n4_ := Az.mk (bst (by repeat (first | (with_reducible first | exact HB.out | apply bal | apply pwN | apply bd1 | refine bset ?_ GE333.out | refine bset ?_ GE334.out) | exact HB.out)) hb); have n5_ := Az.mk (hbox); have n6_ := Az.mk ((by rw [hg]; exact (below_size (by repeat (first | (with_reducible first | exact HB.out | apply bal | apply pwN | apply bd1 | refine bset ?_ GE333.out | refine bset ?_ GE334.out) | exact HB.out))) : w.heap.size ≤ gb346)); have n7_ := Az.mk ((by rw [hg]; exact (below_size (by repeat (first | (with_reducible first | exact HB.out | apply bal | apply pwN | apply bd1 | refine bset ?_ GE333.out | refine bset ?_ GE334.out) | exact HB.out))) : w.heap.size ≤ gb346)); have n8_ := Az.mk ((by rw [hg]; exact Nat.ne_of_lt (blk_lt (g := gb333) (o := .cells #[.slice none 0 0] 53 (0, 0)) (by (with_reducible repeat (first | refine bdN ?_ _ | refine blk_drew ?_ | refine bkA ?_ _)); exact BK333.out)) : gb333 ≠ gb346)); have n9_ := Az.mk ((by rw [hg]; exact Nat.ne_of_gt (blk_lt (g := gb333) (o := .cells #[.slice none 0 0] 53 (0, 0)) (by (with_reducible repeat (first | refine bdN ?_ _ | refine blk_drew ?_ | refine bkA ?_ _)); exact BK333.out)) : gb346 ≠ gb333)); have n10_ := Az.mk ((by rw [hg]; exact Nat.ne_of_lt (blk_lt (g := gb334) (o := .cells #[u335000] 53 (0, 0)) (by (with_reducible repeat (first | refine bdN ?_ _ | refine blk_drew ?_ | refine bkA ?_ _)); exact BK334.out)) : gb334 ≠ gb346)); have n11_ := Az.mk ((by rw [hg]; exact Nat.ne_of_gt (blk_lt (g := gb334) (o := .cells #[u335000] 53 (0, 0)) (by (with_reducible repeat (first | refine bdN ?_ _ | refine blk_drew ?_ | refine bkA ?_ _)); exact BK334.out)) : gb346 ≠ gb334)); clear HO_335000; clear HO343; clear BK333; clear BK334; clear HB; have HO_335000 := n0_; have HO343 := n1_; have BK333 := n2_; have BK334 := n3_; have HB := n4_; have BK346 := n5_; have GW346 := n6_; have GE346 := n7_; have NB333_346 := n8_; have NB346_333 := n9_; have NB334_346 := n10_; have NB346_334 := n11_; clear n0_ n1_ n2_ n3_ n4_ n5_ n6_ n7_ n8_ n9_ n10_ n11_; clear hb hbox hg; obtain ⟨Ao39, co39, eo39⟩ := Kd.R_slice HO343.out; subst eo39; have hnb40 := NB346_333.out; have hnc40 := NB333_346.out; have hnb41 := NB346_334.out; have hnc41 := NB334_346.out; have hcz42_0 : w38.cell? ⟨gb346, 0, none⟩ = some (.slice none 0 0) := (blk_cell BK346.out 0).trans rfl; have hfz42_0 := bkF BK346.out 0) | ((with_reducible refine gate_store (t := 53) (p := 8) rfl ?_); refine store_event (t := 53) (p := 8) (v := ?vo_w43) (w1 := (w38.setCell ⟨gb346, 0, none⟩ (.slice Ao39 t341.length co39))) ?hg ?ho ?hn ?hr ?_; (case ho => rfl); (case hg => rfl); (case hn => rfl); (case hr => first | (go_simp; done) | (go_simp; rfl)); intro w43 hw; have n0_ : Az (Kd.R k53 53 w43 w.heap.size (fun k_ => some k_ ≠ (.slice Ao39 t341.length co39 : Value).ownBlock ∧ k_ ≠ gb333 ∧ k_ ≠ gb334 ∧ k_ ≠ gb346) u335000 x335000_1) := ⟨(by rw [hw]; exact (by (with_reducible repeat (first | apply Kd.R_alloc | apply Kd.R_drewN | apply Kd.R_drew)); exact Kd.R_mono (Kd.R_far (p := ⟨gb346, 0, none⟩) (Kd.R_mono HO_335000.out (fun k_ hk => (⟨hk, hk.2⟩ : _ ∧ k_ ≠ gb346))) (fun _ hk => hk.2) (.slice Ao39 t341.length co39)) (fun _ hk => ⟨hk.1.1.2, ⟨hk.1.1.1.1, ⟨hk.1.1.1.2, hk.1.2⟩⟩⟩)))⟩; have n1_ : Az (Kd.R k53 53 w43 w.heap.size (fun k_ => some k_ ≠ (u335000 : Value).ownBlock ∧ k_ ≠ gb333 ∧ k_ ≠ gb334 ∧ k_ ≠ gb346) (.slice Ao39 t341.length co39) t341) := ⟨(by rw [hw]; exact (by (with_reducible repeat (first | apply Kd.R_alloc | apply Kd.R_drewN | apply Kd.R_drew)); exact Kd.R_mono (Kd.R_far (p := ⟨gb346, 0, none⟩) (Kd.R_mono HO343.out (fun k_ hk => (⟨hk, hk.2⟩ : _ ∧ k_ ≠ gb346))) (fun _ hk => hk.2) (.slice Ao39 t341.length co39)) (fun _ hk => ⟨hk.1.1.1.1.2, ⟨hk.1.1.1.2, ⟨hk.1.1.2, hk.1.2⟩⟩⟩)))⟩; have n2_ : Az (w43.heap[gb333]? = some (.cells #[.slice none 0 0] 53 (0, 0))) := ⟨(by rw [hw]; exact (by (with_reducible repeat (first | refine bdN ?_ _ | refine blk_drew ?_ | refine bkA ?_ _)); refine blk_far ?_ NB333_346.out _; (with_reducible repeat (first | refine bdN ?_ _ | refine blk_drew ?_ | refine bkA ?_ _)); exact BK333.out))⟩; have n3_ : Az (w43.heap[gb334]? = some (.cells #[u335000] 53 (0, 0))) := ⟨(by rw [hw]; exact (by (with_reducible repeat (first | refine bdN ?_ _ | refine blk_drew ?_ | refine bkA ?_ _)); refine blk_far ?_ NB334_346.out _; (with_reducible repeat (first | refine bdN ?_ _ | refine blk_drew ?_ | refine bkA ?_ _)); exact BK334.out))⟩; have n4_ : Az (w43.heap[gb346]? = some (.cells #[.slice Ao39 t341.length co39] 53 (0, 0))) := ⟨(by rw [hw]; exact (by (with_reducible repeat (first | refine bdN ?_ _ | refine blk_drew ?_ | refine bkA ?_ _)); refine blk_put (cs := #[.slice none 0 0]) ?_ 0 _ rfl; (with_reducible repeat (first | refine bdN ?_ _ | refine blk_drew ?_ | refine bkA ?_ _)); exact BK346.out))⟩; have n5_ : Az (Below w.heap.size w w43) := ⟨(by rw [hw]; exact (by repeat (first | (with_reducible first | exact HB.out | apply bal | apply pwN | apply bd1 | refine bset ?_ GE333.out | refine bset ?_ GE334.out | refine bset ?_ GE346.out) | exact HB.out)))⟩; clear hw; clear HO_335000; clear HO343; clear BK333; clear BK334; clear BK346; clear HB; have HO_335000 := n0_; have HO343 := n1_; have BK333 := n2_; have BK334 := n3_; have BK346 := n4_; have HB := n5_; clear n0_ n1_ n2_ n3_ n4_ n5_; have hcz44_0 : w43.cell? ⟨gb346, 0, none⟩ = some (.slice Ao39 t341.length co39) := (blk_cell BK346.out 0).trans rfl; have hfz44_0 := bkF BK346.out 0) | (go_at_call 87; (with_reducible refine (virgationref01_begins.calls a0 t344 (⟨#[41, 32, 62, 32]⟩ : ByteArray) true _ A34.out).mono ?_); rintro e w' ⟨rfl, ⟨nd, rfl⟩⟩; (try (rw [drewN_self w43]; generalize hq_ : World.drewN w43 _ = w43; have n0_ : Az (Kd.R k53 53 w43 w.heap.size (fun k_ => some k_ ≠ (u335000 : Value).ownBlock ∧ k_ ≠ gb333 ∧ k_ ≠ gb334 ∧ k_ ≠ gb346) (.slice Ao39 t341.length co39) t341) := ⟨by rw [← hq_]; exact (by (with_reducible repeat (first | apply Kd.R_alloc | apply Kd.R_drewN | apply Kd.R_drew)); exact HO343.out)⟩; have n1_ : Az (Kd.R k53 53 w43 w.heap.size (fun k_ => some k_ ≠ (.slice Ao39 t341.length co39 : Value).ownBlock ∧ k_ ≠ gb333 ∧ k_ ≠ gb334 ∧ k_ ≠ gb346) u335000 x335000_1) := ⟨by rw [← hq_]; exact (by (with_reducible repeat (first | apply Kd.R_alloc | apply Kd.R_drewN | apply Kd.R_drew)); exact HO_335000.out)⟩; have n2_ : Az (w43.heap[gb333]? = some (.cells #[.slice none 0 0] 53 (0, 0))) := ⟨by rw [← hq_]; exact (by (with_reducible repeat (first | refine bdN ?_ _ | refine blk_drew ?_ | refine bkA ?_ _)); exact BK333.out)⟩; have n3_ : Az (w43.heap[gb334]? = some (.cells #[u335000] 53 (0, 0))) := ⟨by rw [← hq_]; exact (by (with_reducible repeat (first | refine bdN ?_ _ | refine blk_drew ?_ | refine bkA ?_ _)); exact BK334.out)⟩; have n4_ : Az (w43.heap[gb346]? = some (.cells #[.slice Ao39 t341.length co39] 53 (0, 0))) := ⟨by rw [← hq_]; exact (by (with_reducible repeat (first | refine bdN ?_ _ | refine blk_drew ?_ | refine bkA ?_ _)); exact BK346.out)⟩; have n5_ : Az (Below w.heap.size w w43) := ⟨by rw [← hq_]; exact (by repeat (first | (with_reducible first | exact HB.out | apply bal | apply pwN | apply bd1 | refine bset ?_ GE333.out | refine bset ?_ GE334.out | refine bset ?_ GE346.out) | exact HB.out))⟩; clear HO343 HO_335000 BK333 BK334 BK346 HB hq_; have HO343 := n0_; have HO_335000 := n1_; have BK333 := n2_; have BK334 := n3_; have BK346 := n4_; have HB := n5_; clear n0_ n1_ n2_ n3_ n4_ n5_)); have hnb45 := NB334_333.out; have hnc45 := NB333_334.out; have hcz46_0 : w43.cell? ⟨gb334, 0, none⟩ = some (u335000) := (blk_cell BK334.out 0).trans rfl; have hfz46_0 := bkF BK334.out 0; have hcz46_1 : w43.cell? ⟨gb346, 0, none⟩ = some (.slice Ao39 t341.length co39) := (blk_cell BK346.out 0).trans rfl; have hfz46_1 := bkF BK346.out 0) | ((with_reducible refine gate_builtin (b := .append) (xs := #[.tmp 61, .tmp 63]) rfl ?_); (try (refine gate_guard (by rfl) ?_; dsimp only)); at_builtin; refine Kd.R_append k53 (w0 := w) w.heap.size rfl (.tmp 61) (.tmp 63) 51 53 (.agg #[(.slice none 0 0)]) 24 rfl Try.underlying51 info53 rfl (by decide) (by omega) u335000 x335000_1 (⟨t341⟩ : S53) [.slice Ao39 t341.length co39] (fun k_ => k_ ≠ gb333 ∧ k_ ≠ gb334 ∧ k_ ≠ gb346) (fun k_ => ((fun k_ => k_ ≠ gb333 ∧ k_ ≠ gb334 ∧ k_ ≠ gb346)) k_ ∧ some k_ ≠ (u335000 : Value).ownBlock) rfl rfl ?aP (fun _ hk => hk) ?aF ?aO ?aB ?aS ?aL ?_; (case aP => exact k53_mkM _ _ _ (⟨t341⟩ : S53) (Kd.R_mono (HO343.out) (fun k_ hk => ⟨⟨hk.2.1, ⟨hk.2.2.1, hk.2.2.2⟩⟩, hk.1⟩))); (case aB => exact (by repeat (first | (with_reducible first | exact HB.out | apply bal | apply pwN | apply bd1 | refine bset ?_ GE333.out | refine bset ?_ GE334.out | refine bset ?_ GE346.out) | exact HB.out))); (case aF => exact (fun k_ hk => ⟨Kd.freshB (g := gb333) (o := .cells #[.slice none 0 0] 53 (0, 0)) (by (with_reducible repeat (first | refine bdN ?_ _ | refine blk_drew ?_ | refine bkA ?_ _)); exact BK333.out) k_ hk, Kd.freshB (g := gb334) (o := .cells #[u335000] 53 (0, 0)) (by (with_reducible repeat (first | refine bdN ?_ _ | refine blk_drew ?_ | refine bkA ?_ _)); exact BK334.out) k_ hk, Kd.freshB (g := gb346) (o := .cells #[.slice Ao39 t341.length co39] 53 (0, 0)) (by (with_reducible repeat (first | refine bdN ?_ _ | refine blk_drew ?_ | refine bkA ?_ _)); exact BK346.out) k_ hk⟩)); (case aO => exact (by (with_reducible repeat (first | apply Kd.R_alloc | apply Kd.R_drewN | apply Kd.R_drew)); exact Kd.R_mono HO_335000.out (fun _ hk => ⟨hk.2.1, ⟨hk.2.2.1, hk.2.2.2⟩⟩))); (case aS => exact (below_size (by repeat (first | (with_reducible first | exact HB.out | apply bal | apply pwN | apply bd1 | refine bset ?_ GE333.out | refine bset ?_ GE334.out | refine bset ?_ GE346.out) | exact HB.out)))); (case aL => have := LMc36.out; omega); intro v349 w47 ho hb hg hat; rw [← Ny348.out] at ho; have n0_ := Az.mk (blk_grown (g := gb333) (o := .cells #[.slice none 0 0] 53 (0, 0)) (by (with_reducible repeat (first | refine bdN ?_ _ | refine blk_drew ?_ | refine bkA ?_ _)); exact BK333.out) hg (Kd.R_away HO_335000.out (fun _ hk => hk.2.1))); have n1_ := Az.mk (blk_grown (g := gb334) (o := .cells #[u335000] 53 (0, 0)) (by (with_reducible repeat (first | refine bdN ?_ _ | refine blk_drew ?_ | refine bkA ?_ _)); exact BK334.out) hg (Kd.R_away HO_335000.out (fun _ hk => hk.2.2.1))); have n2_ := Az.mk (blk_grown (g := gb346) (o := .cells #[.slice Ao39 t341.length co39] 53 (0, 0)) (by (with_reducible repeat (first | refine bdN ?_ _ | refine blk_drew ?_ | refine bkA ?_ _)); exact BK346.out) hg (Kd.R_away HO_335000.out (fun _ hk => hk.2.2.2))); have n3_ := Az.mk (hb); have n4_ := Az.mk (ho); clear BK333; clear BK334; clear BK346; clear HB; clear HO_335000; clear HO343; have BK333 := n0_; have BK334 := n1_; have BK346 := n2_; have HB := n3_; have HO350 := n4_; clear n0_ n1_ n2_ n3_ n4_; clear ho hb hg hat; obtain ⟨Ao48, co48, eo48⟩ := Kd.R_slice HO350.out; subst eo48; have hcz49_0 : w47.cell? ⟨gb334, 0, none⟩ = some (u335000) := (blk_cell BK334.out 0).trans rfl; have hfz49_0 := bkF BK334.out 0))
                  go_roundg k1
                  case measure => have := HK1.out; omega
                  case rel => exact ⟨(wrap64 (t344 + 4)), (y348), (.slice Ao48 y348.length co48), (by first | rfl | (simp; done) | (simp [*]; done)), H', ⟨by have := HK1.out; omega⟩, ⟨by (with_reducible repeat (first | apply Kd.R_alloc | apply Kd.R_drewN | apply Kd.R_drew)); exact Kd.R_mono (Kd.R_far (p := ⟨gb334, 0, none⟩) (Kd.R_mono HO350.out (fun k_ hk => (⟨hk, hk.2.1⟩ : _ ∧ k_ ≠ gb334))) (fun _ hk => hk.2) (.slice Ao48 y348.length co48)) (fun _ hk => ⟨hk.1.1, hk.1.2.1⟩)⟩, ⟨by (with_reducible repeat (first | refine bdN ?_ _ | refine blk_drew ?_ | refine bkA ?_ _)); refine blk_far ?_ NB333_334.out _; (with_reducible repeat (first | refine bdN ?_ _ | refine blk_drew ?_ | refine bkA ?_ _)); exact BK333.out⟩, ⟨by (with_reducible repeat (first | refine bdN ?_ _ | refine blk_drew ?_ | refine bkA ?_ _)); refine blk_put (cs := #[u335000]) ?_ 0 _ rfl; (with_reducible repeat (first | refine bdN ?_ _ | refine blk_drew ?_ | refine bkA ?_ _)); exact BK334.out⟩, ⟨by repeat (first | (with_reducible first | exact HB.out | apply bal | apply pwN | apply bd1 | refine bset ?_ GE333.out | refine bset ?_ GE334.out | refine bset ?_ GE346.out) | exact HB.out)⟩⟩
                · rw [if_neg c36] at H
                  exact absurd H (by simp)
              · replace c35 := Bool.eq_false_iff.mpr c35
                subst c35
                have H1 : (some (x335000_1, x1_1, false)) = some (r1, r2, r3) := by rw [if_neg (show ¬ (false = true) by decide)] at H; exact H
                clear H
                have H := H1
                clear H1
                simp only [Option.some.injEq, Prod.mk.injEq] at H
                obtain ⟨rfl, rfl, rfl⟩ := H
                go_wp2_with (first | ((with_reducible refine gate_callee (f := 87) rfl ?_); refine goesL_ (some 13) rfl rfl Try.func87 (by kernel_rfl) rfl #[.string a0, .int .i64 x1_1, .string (⟨#[111]⟩ : ByteArray)] rfl (by (try simp only [List.map_toArray, List.map_cons, List.map_nil]); first | done | rfl | (simp only [List.length_drop, List.length_take]; rfl)) ?_; (with_reducible refine (virgationref01_begins.calls a0 x1_1 (⟨#[111]⟩ : ByteArray) false _ A5.out).mono ?_); rintro e w' ⟨rfl, ⟨nd, rfl⟩⟩; refine ⟨_, rfl, ?_⟩; (try (rw [drewN_self wr]; generalize hq_ : World.drewN wr _ = wr; have n0_ : Az (Kd.R k53 53 wr w.heap.size (fun k_ => k_ ≠ gb333 ∧ k_ ≠ gb334) u335000 x335000_1) := ⟨by rw [← hq_]; exact (by (with_reducible repeat (first | apply Kd.R_alloc | apply Kd.R_drewN | apply Kd.R_drew)); exact HO_335000.out)⟩; have n1_ : Az (wr.heap[gb333]? = some (.cells #[.slice none 0 0] 53 (0, 0))) := ⟨by rw [← hq_]; exact (by (with_reducible repeat (first | refine bdN ?_ _ | refine blk_drew ?_ | refine bkA ?_ _)); exact BK333.out)⟩; have n2_ : Az (wr.heap[gb334]? = some (.cells #[u335000] 53 (0, 0))) := ⟨by rw [← hq_]; exact (by (with_reducible repeat (first | refine bdN ?_ _ | refine blk_drew ?_ | refine bkA ?_ _)); exact BK334.out)⟩; have n3_ : Az (Below w.heap.size w wr) := ⟨by rw [← hq_]; exact (by repeat (first | (with_reducible first | exact HB.out | apply bal | apply pwN | apply bd1 | refine bset ?_ GE333.out | refine bset ?_ GE334.out) | exact HB.out))⟩; clear HO_335000 BK333 BK334 HB hq_; have HO_335000 := n0_; have BK333 := n1_; have BK334 := n2_; have HB := n3_; clear n0_ n1_ n2_ n3_))) | ((with_reducible refine gate_callee (f := 87) rfl ?_); refine goesL_ (some 32) rfl rfl Try.func87 (by kernel_rfl) rfl #[.string a0, .int .i64 x1_1, .string (⟨#[40]⟩ : ByteArray)] rfl (by (try simp only [List.map_toArray, List.map_cons, List.map_nil]); first | done | rfl | (simp only [List.length_drop, List.length_take]; rfl)) ?_; (with_reducible refine (virgationref01_begins.calls a0 x1_1 (⟨#[40]⟩ : ByteArray) true _ A19.out).mono ?_); rintro e w' ⟨rfl, ⟨nd, rfl⟩⟩; refine ⟨_, rfl, ?_⟩; (try (rw [drewN_self wr]; generalize hq_ : World.drewN wr _ = wr; have n0_ : Az (Kd.R k53 53 wr w.heap.size (fun k_ => k_ ≠ gb333 ∧ k_ ≠ gb334) u335000 x335000_1) := ⟨by rw [← hq_]; exact (by (with_reducible repeat (first | apply Kd.R_alloc | apply Kd.R_drewN | apply Kd.R_drew)); exact HO_335000.out)⟩; have n1_ : Az (wr.heap[gb333]? = some (.cells #[.slice none 0 0] 53 (0, 0))) := ⟨by rw [← hq_]; exact (by (with_reducible repeat (first | refine bdN ?_ _ | refine blk_drew ?_ | refine bkA ?_ _)); exact BK333.out)⟩; have n2_ : Az (wr.heap[gb334]? = some (.cells #[u335000] 53 (0, 0))) := ⟨by rw [← hq_]; exact (by (with_reducible repeat (first | refine bdN ?_ _ | refine blk_drew ?_ | refine bkA ?_ _)); exact BK334.out)⟩; have n3_ : Az (Below w.heap.size w wr) := ⟨by rw [← hq_]; exact (by repeat (first | (with_reducible first | exact HB.out | apply bal | apply pwN | apply bd1 | refine bset ?_ GE333.out | refine bset ?_ GE334.out) | exact HB.out))⟩; clear HO_335000 BK333 BK334 HB hq_; have HO_335000 := n0_; have BK333 := n1_; have BK334 := n2_; have HB := n3_; clear n0_ n1_ n2_ n3_))) | ((with_reducible refine gate_callee (f := 80) rfl ?_); refine goesL_ (some 40) rfl rfl Try.func80 (by kernel_rfl) rfl #[.string a0, .int .i64 (wrap64 (x1_1 + 1))] rfl (by (try simp only [List.map_toArray, List.map_cons, List.map_nil]); first | done | rfl | (simp only [List.length_drop, List.length_take]; rfl)) ?_; (with_reducible refine (ih k1 (by have := HK1.out; omega) a0 (wrap64 (x1_1 + 1)) t341 t344 true _ A21.out).mono ?_); rintro e w50 ⟨v342, rfl, ho0, hb⟩; refine ⟨_, rfl, ?_⟩; have n0_ := Az.mk (Kd.R_elder' (by (with_reducible repeat (first | apply Kd.R_alloc | apply Kd.R_drewN | apply Kd.R_drew)); exact HO_335000.out) (Kd.R_base ho0) hb); have n1_ := Az.mk (Kd.R_lower (Kd.R_newB (Kd.R_newB (Kd.R_new' ho0 (Kd.R_lt (by (with_reducible repeat (first | apply Kd.R_alloc | apply Kd.R_drewN | apply Kd.R_drew)); exact HO_335000.out))) (g := gb333) (o := .cells #[.slice none 0 0] 53 (0, 0)) (by (with_reducible repeat (first | refine bdN ?_ _ | refine blk_drew ?_ | refine bkA ?_ _)); exact BK333.out)) (g := gb334) (o := .cells #[u335000] 53 (0, 0)) (by (with_reducible repeat (first | refine bdN ?_ _ | refine blk_drew ?_ | refine bkA ?_ _)); exact BK334.out)) (below_size (by repeat (first | (with_reducible first | exact HB.out | apply bal | apply pwN | apply bd1 | refine bset ?_ GE333.out | refine bset ?_ GE334.out) | exact HB.out)))); have n2_ := Az.mk (bkB (g := gb333) (o := .cells #[.slice none 0 0] 53 (0, 0)) (by (with_reducible repeat (first | refine bdN ?_ _ | refine blk_drew ?_ | refine bkA ?_ _)); exact BK333.out) hb); have n3_ := Az.mk (bkB (g := gb334) (o := .cells #[u335000] 53 (0, 0)) (by (with_reducible repeat (first | refine bdN ?_ _ | refine blk_drew ?_ | refine bkA ?_ _)); exact BK334.out) hb); have n4_ := Az.mk (bst (by repeat (first | (with_reducible first | exact HB.out | apply bal | apply pwN | apply bd1 | refine bset ?_ GE333.out | refine bset ?_ GE334.out) | exact HB.out)) hb); clear HO_335000; clear BK333; clear BK334; clear HB; have HO_335000 := n0_; have HO343 := n1_; have BK333 := n2_; have BK334 := n3_; have HB := n4_; clear n0_ n1_ n2_ n3_ n4_; (try clear hb); (try clear hb2); (try clear hk); (try clear hi); (try clear ho0)) | ((with_reducible refine gate_dst (N := 8) rfl ?_); (try (refine gate_guard (by rfl) ?_; dsimp only)); refine box_event ?hg (N := 8) ?hd (cs := #[.slice none 0 0]) (t := 53) ?hr ?_; (case hd => rfl); (case hg => rfl); (case hr => first | (go_simp; done) | (go_simp; rfl)); intro gb346 hg w51 hbox hb; have n0_ := Az.mk (Kd.R_below (Kd.R_elderB (by (with_reducible repeat (first | apply Kd.R_alloc | apply Kd.R_drewN | apply Kd.R_drew)); exact HO_335000.out) gb346 (Nat.le_of_eq hg.symm)) hb); have n1_ := Az.mk (Kd.R_below (Kd.R_elderB (by (with_reducible repeat (first | apply Kd.R_alloc | apply Kd.R_drewN | apply Kd.R_drew)); exact HO343.out) gb346 (Nat.le_of_eq hg.symm)) hb); have n2_ := Az.mk (bkB (g := gb333) (o := .cells #[.slice none 0 0] 53 (0, 0)) (by (with_reducible repeat (first | refine bdN ?_ _ | refine blk_drew ?_ | refine bkA ?_ _)); exact BK333.out) hb); have n3_ := Az.mk (bkB (g := gb334) (o := .cells #[u335000] 53 (0, 0)) (by (with_reducible repeat (first | refine bdN ?_ _ | refine blk_drew ?_ | refine bkA ?_ _)); exact BK334.out) hb); have n4_ := Az.mk (bst (by repeat (first | (with_reducible first | exact HB.out | apply bal | apply pwN | apply bd1 | refine bset ?_ GE333.out | refine bset ?_ GE334.out) | exact HB.out)) hb); have n5_ := Az.mk (hbox); have n6_ := Az.mk ((by rw [hg]; exact (below_size (by repeat (first | (with_reducible first | exact HB.out | apply bal | apply pwN | apply bd1 | refine bset ?_ GE333.out | refine bset ?_ GE334.out) | exact HB.out))) : w.heap.size ≤ gb346)); have n7_ := Az.mk ((by rw [hg]; exact (below_size (by repeat (first | (with_reducible first | exact HB.out | apply bal | apply pwN | apply bd1 | refine bset ?_ GE333.out | refine bset ?_ GE334.out) | exact HB.out))) : w.heap.size ≤ gb346)); have n8_ := Az.mk ((by rw [hg]; exact Nat.ne_of_lt (blk_lt (g := gb333) (o := .cells #[.slice none 0 0] 53 (0, 0)) (by (with_reducible repeat (first | refine bdN ?_ _ | refine blk_drew ?_ | refine bkA ?_ _)); exact BK333.out)) : gb333 ≠ gb346)); have n9_ := Az.mk ((by rw [hg]; exact Nat.ne_of_gt (blk_lt (g := gb333) (o := .cells #[.slice none 0 0] 53 (0, 0)) (by (with_reducible repeat (first | refine bdN ?_ _ | refine blk_drew ?_ | refine bkA ?_ _)); exact BK333.out)) : gb346 ≠ gb333)); have n10_ := Az.mk ((by rw [hg]; exact Nat.ne_of_lt (blk_lt (g := gb334) (o := .cells #[u335000] 53 (0, 0)) (by (with_reducible repeat (first | refine bdN ?_ _ | refine blk_drew ?_ | refine bkA ?_ _)); exact BK334.out)) : gb334 ≠ gb346)); have n11_ := Az.mk ((by rw [hg]; exact Nat.ne_of_gt (blk_lt (g := gb334) (o := .cells #[u335000] 53 (0, 0)) (by (with_reducible repeat (first | refine bdN ?_ _ | refine blk_drew ?_ | refine bkA ?_ _)); exact BK334.out)) : gb346 ≠ gb334)); clear HO_335000; clear HO343; clear BK333; clear BK334; clear HB; have HO_335000 := n0_; have HO343 := n1_; have BK333 := n2_; have BK334 := n3_; have HB := n4_; have BK346 := n5_; have GW346 := n6_; have GE346 := n7_; have NB333_346 := n8_; have NB346_333 := n9_; have NB334_346 := n10_; have NB346_334 := n11_; clear n0_ n1_ n2_ n3_ n4_ n5_ n6_ n7_ n8_ n9_ n10_ n11_; clear hb hbox hg; obtain ⟨Ao52, co52, eo52⟩ := Kd.R_slice HO343.out; subst eo52; have hnb53 := NB346_333.out; have hnc53 := NB333_346.out; have hnb54 := NB346_334.out; have hnc54 := NB334_346.out; have hcz55_0 : w51.cell? ⟨gb346, 0, none⟩ = some (.slice none 0 0) := (blk_cell BK346.out 0).trans rfl; have hfz55_0 := bkF BK346.out 0) | (go_at_call 87; (with_reducible refine (virgationref01_begins.calls a0 t344 (⟨#[41, 32, 62, 32]⟩ : ByteArray) false _ A34.out).mono ?_); rintro e w' ⟨rfl, ⟨nd, rfl⟩⟩; have hnb56 := NB334_333.out; have hnc56 := NB333_334.out; have hcz57_0 : w51.cell? ⟨gb334, 0, none⟩ = some (u335000) := (blk_cell BK334.out 0).trans rfl; have hfz57_0 := bkF BK334.out 0; obtain ⟨Ao58, co58, eo58⟩ := Kd.R_slice HO_335000.out; subst eo58; have hcz59_0 : w51.cell? ⟨gb333, 0, none⟩ = some (.slice none 0 0) := (blk_cell BK333.out 0).trans rfl; have hfz59_0 := bkF BK333.out 0))
                refine bodyPost_ret (results_ctt rfl _ _ gb333 53 #[.slice Ao58 x335000_1.length co58] (0, 0) _ rfl (by (with_reducible repeat (first | refine bdN ?_ _ | refine blk_drew ?_ | refine bkA ?_ _)); refine blk_put (cs := #[.slice none 0 0]) ?_ 0 _ rfl; (with_reducible repeat (first | refine bdN ?_ _ | refine blk_drew ?_ | refine bkA ?_ _)); refine blk_far ?_ NB333_346.out _; (with_reducible repeat (first | refine bdN ?_ _ | refine blk_drew ?_ | refine bkA ?_ _)); exact BK333.out) Try.underlying53 rfl (by kernel_rfl)) rfl ?_
                exact ⟨_, by first | rfl | (simp [errW_none, errW_some] <;> rfl) | (simp [*, errW_none, errW_some] <;> rfl), by (with_reducible repeat (first | apply Kd.R_alloc | apply Kd.R_drewN | apply Kd.R_drew)); exact Kd.R_mono (Kd.R_far (p := ⟨gb333, 0, none⟩) (Kd.R_drewN (Kd.R_far (p := ⟨gb346, 0, none⟩) (Kd.R_mono (Kd.R_mono HO_335000.out (fun k_ hk => (⟨hk, hk.2⟩ : _ ∧ k_ ≠ gb346))) (fun k_ hk => (⟨hk, hk.1.1.1.1⟩ : _ ∧ k_ ≠ gb333))) (fun _ hk => hk.1.2) (.slice Ao52 t341.length co52)) _) (fun _ hk => hk.2) (.slice Ao58 x335000_1.length co58)) (fun _ hk => trivial), by repeat (first | (with_reducible first | exact HB.out | apply bal | apply pwN | apply bd1 | refine bset ?_ GE333.out | refine bset ?_ GE334.out | refine bset ?_ GE346.out) | exact HB.out)⟩
          · replace c22 := Bool.eq_false_iff.mpr c22
            subst c22
            have H1 : (some (x335000_1, x1_1, false)) = some (r1, r2, r3) := by rw [if_neg (show ¬ (false = true) by decide)] at H; exact H
            clear H
            have H := H1
            clear H1
            simp only [Option.some.injEq, Prod.mk.injEq] at H
            obtain ⟨rfl, rfl, rfl⟩ := H
            go_wp2_with (first | ((with_reducible refine gate_callee (f := 87) rfl ?_); refine goesL_ (some 13) rfl rfl Try.func87 (by kernel_rfl) rfl #[.string a0, .int .i64 x1_1, .string (⟨#[111]⟩ : ByteArray)] rfl (by (try simp only [List.map_toArray, List.map_cons, List.map_nil]); first | done | rfl | (simp only [List.length_drop, List.length_take]; rfl)) ?_; (with_reducible refine (virgationref01_begins.calls a0 x1_1 (⟨#[111]⟩ : ByteArray) false _ A5.out).mono ?_); rintro e w' ⟨rfl, ⟨nd, rfl⟩⟩; refine ⟨_, rfl, ?_⟩; (try (rw [drewN_self wr]; generalize hq_ : World.drewN wr _ = wr; have n0_ : Az (Kd.R k53 53 wr w.heap.size (fun k_ => k_ ≠ gb333 ∧ k_ ≠ gb334) u335000 x335000_1) := ⟨by rw [← hq_]; exact (by (with_reducible repeat (first | apply Kd.R_alloc | apply Kd.R_drewN | apply Kd.R_drew)); exact HO_335000.out)⟩; have n1_ : Az (wr.heap[gb333]? = some (.cells #[.slice none 0 0] 53 (0, 0))) := ⟨by rw [← hq_]; exact (by (with_reducible repeat (first | refine bdN ?_ _ | refine blk_drew ?_ | refine bkA ?_ _)); exact BK333.out)⟩; have n2_ : Az (wr.heap[gb334]? = some (.cells #[u335000] 53 (0, 0))) := ⟨by rw [← hq_]; exact (by (with_reducible repeat (first | refine bdN ?_ _ | refine blk_drew ?_ | refine bkA ?_ _)); exact BK334.out)⟩; have n3_ : Az (Below w.heap.size w wr) := ⟨by rw [← hq_]; exact (by repeat (first | (with_reducible first | exact HB.out | apply bal | apply pwN | apply bd1 | refine bset ?_ GE333.out | refine bset ?_ GE334.out) | exact HB.out))⟩; clear HO_335000 BK333 BK334 HB hq_; have HO_335000 := n0_; have BK333 := n1_; have BK334 := n2_; have HB := n3_; clear n0_ n1_ n2_ n3_))) | ((with_reducible refine gate_callee (f := 87) rfl ?_); refine goesL_ (some 32) rfl rfl Try.func87 (by kernel_rfl) rfl #[.string a0, .int .i64 x1_1, .string (⟨#[40]⟩ : ByteArray)] rfl (by (try simp only [List.map_toArray, List.map_cons, List.map_nil]); first | done | rfl | (simp only [List.length_drop, List.length_take]; rfl)) ?_; (with_reducible refine (virgationref01_begins.calls a0 x1_1 (⟨#[40]⟩ : ByteArray) true _ A19.out).mono ?_); rintro e w' ⟨rfl, ⟨nd, rfl⟩⟩; refine ⟨_, rfl, ?_⟩; (try (rw [drewN_self wr]; generalize hq_ : World.drewN wr _ = wr; have n0_ : Az (Kd.R k53 53 wr w.heap.size (fun k_ => k_ ≠ gb333 ∧ k_ ≠ gb334) u335000 x335000_1) := ⟨by rw [← hq_]; exact (by (with_reducible repeat (first | apply Kd.R_alloc | apply Kd.R_drewN | apply Kd.R_drew)); exact HO_335000.out)⟩; have n1_ : Az (wr.heap[gb333]? = some (.cells #[.slice none 0 0] 53 (0, 0))) := ⟨by rw [← hq_]; exact (by (with_reducible repeat (first | refine bdN ?_ _ | refine blk_drew ?_ | refine bkA ?_ _)); exact BK333.out)⟩; have n2_ : Az (wr.heap[gb334]? = some (.cells #[u335000] 53 (0, 0))) := ⟨by rw [← hq_]; exact (by (with_reducible repeat (first | refine bdN ?_ _ | refine blk_drew ?_ | refine bkA ?_ _)); exact BK334.out)⟩; have n3_ : Az (Below w.heap.size w wr) := ⟨by rw [← hq_]; exact (by repeat (first | (with_reducible first | exact HB.out | apply bal | apply pwN | apply bd1 | refine bset ?_ GE333.out | refine bset ?_ GE334.out) | exact HB.out))⟩; clear HO_335000 BK333 BK334 HB hq_; have HO_335000 := n0_; have BK333 := n1_; have BK334 := n2_; have HB := n3_; clear n0_ n1_ n2_ n3_))) | ((with_reducible refine gate_callee (f := 80) rfl ?_); refine goesL_ (some 40) rfl rfl Try.func80 (by kernel_rfl) rfl #[.string a0, .int .i64 (wrap64 (x1_1 + 1))] rfl (by (try simp only [List.map_toArray, List.map_cons, List.map_nil]); first | done | rfl | (simp only [List.length_drop, List.length_take]; rfl)) ?_; (with_reducible refine (ih k1 (by have := HK1.out; omega) a0 (wrap64 (x1_1 + 1)) t341 t344 false _ A21.out).mono ?_); rintro e w60 ⟨v342, rfl, ho0, hb⟩; refine ⟨_, rfl, ?_⟩; have n0_ := Az.mk (Kd.R_elder' (by (with_reducible repeat (first | apply Kd.R_alloc | apply Kd.R_drewN | apply Kd.R_drew)); exact HO_335000.out) (Kd.R_base ho0) hb); have n1_ := Az.mk (Kd.R_lower (Kd.R_newB (Kd.R_newB (Kd.R_new' ho0 (Kd.R_lt (by (with_reducible repeat (first | apply Kd.R_alloc | apply Kd.R_drewN | apply Kd.R_drew)); exact HO_335000.out))) (g := gb333) (o := .cells #[.slice none 0 0] 53 (0, 0)) (by (with_reducible repeat (first | refine bdN ?_ _ | refine blk_drew ?_ | refine bkA ?_ _)); exact BK333.out)) (g := gb334) (o := .cells #[u335000] 53 (0, 0)) (by (with_reducible repeat (first | refine bdN ?_ _ | refine blk_drew ?_ | refine bkA ?_ _)); exact BK334.out)) (below_size (by repeat (first | (with_reducible first | exact HB.out | apply bal | apply pwN | apply bd1 | refine bset ?_ GE333.out | refine bset ?_ GE334.out) | exact HB.out)))); have n2_ := Az.mk (bkB (g := gb333) (o := .cells #[.slice none 0 0] 53 (0, 0)) (by (with_reducible repeat (first | refine bdN ?_ _ | refine blk_drew ?_ | refine bkA ?_ _)); exact BK333.out) hb); have n3_ := Az.mk (bkB (g := gb334) (o := .cells #[u335000] 53 (0, 0)) (by (with_reducible repeat (first | refine bdN ?_ _ | refine blk_drew ?_ | refine bkA ?_ _)); exact BK334.out) hb); have n4_ := Az.mk (bst (by repeat (first | (with_reducible first | exact HB.out | apply bal | apply pwN | apply bd1 | refine bset ?_ GE333.out | refine bset ?_ GE334.out) | exact HB.out)) hb); clear HO_335000; clear BK333; clear BK334; clear HB; have HO_335000 := n0_; have HO343 := n1_; have BK333 := n2_; have BK334 := n3_; have HB := n4_; clear n0_ n1_ n2_ n3_ n4_; (try clear hb); (try clear hb2); (try clear hk); (try clear hi); (try clear ho0)) | ((with_reducible refine gate_dst (N := 8) rfl ?_); (try (refine gate_guard (by rfl) ?_; dsimp only)); refine box_event ?hg (N := 8) ?hd (cs := #[.slice none 0 0]) (t := 53) ?hr ?_; (case hd => rfl); (case hg => rfl); (case hr => first | (go_simp; done) | (go_simp; rfl)); intro gb346 hg w61 hbox hb; have n0_ := Az.mk (Kd.R_below (Kd.R_elderB (by (with_reducible repeat (first | apply Kd.R_alloc | apply Kd.R_drewN | apply Kd.R_drew)); exact HO_335000.out) gb346 (Nat.le_of_eq hg.symm)) hb); have n1_ := Az.mk (Kd.R_below (Kd.R_elderB (by (with_reducible repeat (first | apply Kd.R_alloc | apply Kd.R_drewN | apply Kd.R_drew)); exact HO343.out) gb346 (Nat.le_of_eq hg.symm)) hb); have n2_ := Az.mk (bkB (g := gb333) (o := .cells #[.slice none 0 0] 53 (0, 0)) (by (with_reducible repeat (first | refine bdN ?_ _ | refine blk_drew ?_ | refine bkA ?_ _)); exact BK333.out) hb); have n3_ := Az.mk (bkB (g := gb334) (o := .cells #[u335000] 53 (0, 0)) (by (with_reducible repeat (first | refine bdN ?_ _ | refine blk_drew ?_ | refine bkA ?_ _)); exact BK334.out) hb); have n4_ := Az.mk (bst (by repeat (first | (with_reducible first | exact HB.out | apply bal | apply pwN | apply bd1 | refine bset ?_ GE333.out | refine bset ?_ GE334.out) | exact HB.out)) hb); have n5_ := Az.mk (hbox); have n6_ := Az.mk ((by rw [hg]; exact (below_size (by repeat (first | (with_reducible first | exact HB.out | apply bal | apply pwN | apply bd1 | refine bset ?_ GE333.out | refine bset ?_ GE334.out) | exact HB.out))) : w.heap.size ≤ gb346)); have n7_ := Az.mk ((by rw [hg]; exact (below_size (by repeat (first | (with_reducible first | exact HB.out | apply bal | apply pwN | apply bd1 | refine bset ?_ GE333.out | refine bset ?_ GE334.out) | exact HB.out))) : w.heap.size ≤ gb346)); have n8_ := Az.mk ((by rw [hg]; exact Nat.ne_of_lt (blk_lt (g := gb333) (o := .cells #[.slice none 0 0] 53 (0, 0)) (by (with_reducible repeat (first | refine bdN ?_ _ | refine blk_drew ?_ | refine bkA ?_ _)); exact BK333.out)) : gb333 ≠ gb346)); have n9_ := Az.mk ((by rw [hg]; exact Nat.ne_of_gt (blk_lt (g := gb333) (o := .cells #[.slice none 0 0] 53 (0, 0)) (by (with_reducible repeat (first | refine bdN ?_ _ | refine blk_drew ?_ | refine bkA ?_ _)); exact BK333.out)) : gb346 ≠ gb333)); have n10_ := Az.mk ((by rw [hg]; exact Nat.ne_of_lt (blk_lt (g := gb334) (o := .cells #[u335000] 53 (0, 0)) (by (with_reducible repeat (first | refine bdN ?_ _ | refine blk_drew ?_ | refine bkA ?_ _)); exact BK334.out)) : gb334 ≠ gb346)); have n11_ := Az.mk ((by rw [hg]; exact Nat.ne_of_gt (blk_lt (g := gb334) (o := .cells #[u335000] 53 (0, 0)) (by (with_reducible repeat (first | refine bdN ?_ _ | refine blk_drew ?_ | refine bkA ?_ _)); exact BK334.out)) : gb346 ≠ gb334)); clear HO_335000; clear HO343; clear BK333; clear BK334; clear HB; have HO_335000 := n0_; have HO343 := n1_; have BK333 := n2_; have BK334 := n3_; have HB := n4_; have BK346 := n5_; have GW346 := n6_; have GE346 := n7_; have NB333_346 := n8_; have NB346_333 := n9_; have NB334_346 := n10_; have NB346_334 := n11_; clear n0_ n1_ n2_ n3_ n4_ n5_ n6_ n7_ n8_ n9_ n10_ n11_; clear hb hbox hg; obtain ⟨Ao62, co62, eo62⟩ := Kd.R_slice HO343.out; subst eo62; have hnb63 := NB346_333.out; have hnc63 := NB333_346.out; have hnb64 := NB346_334.out; have hnc64 := NB334_346.out; have hcz65_0 : w61.cell? ⟨gb346, 0, none⟩ = some (.slice none 0 0) := (blk_cell BK346.out 0).trans rfl; have hfz65_0 := bkF BK346.out 0; have hnb66 := NB334_333.out; have hnc66 := NB333_334.out; have hcz67_0 : w61.cell? ⟨gb334, 0, none⟩ = some (u335000) := (blk_cell BK334.out 0).trans rfl; have hfz67_0 := bkF BK334.out 0; obtain ⟨Ao68, co68, eo68⟩ := Kd.R_slice HO_335000.out; subst eo68; have hcz69_0 : w61.cell? ⟨gb333, 0, none⟩ = some (.slice none 0 0) := (blk_cell BK333.out 0).trans rfl; have hfz69_0 := bkF BK333.out 0))
            refine bodyPost_ret (results_ctt rfl _ _ gb333 53 #[.slice Ao68 x335000_1.length co68] (0, 0) _ rfl (by (with_reducible repeat (first | refine bdN ?_ _ | refine blk_drew ?_ | refine bkA ?_ _)); refine blk_put (cs := #[.slice none 0 0]) ?_ 0 _ rfl; (with_reducible repeat (first | refine bdN ?_ _ | refine blk_drew ?_ | refine bkA ?_ _)); refine blk_far ?_ NB333_346.out _; (with_reducible repeat (first | refine bdN ?_ _ | refine blk_drew ?_ | refine bkA ?_ _)); exact BK333.out) Try.underlying53 rfl (by kernel_rfl)) rfl ?_
            exact ⟨_, by first | rfl | (simp [errW_none, errW_some] <;> rfl) | (simp [*, errW_none, errW_some] <;> rfl), by (with_reducible repeat (first | apply Kd.R_alloc | apply Kd.R_drewN | apply Kd.R_drew)); exact Kd.R_mono (Kd.R_far (p := ⟨gb333, 0, none⟩) (Kd.R_far (p := ⟨gb346, 0, none⟩) (Kd.R_mono (Kd.R_mono HO_335000.out (fun k_ hk => (⟨hk, hk.2⟩ : _ ∧ k_ ≠ gb346))) (fun k_ hk => (⟨hk, hk.1.1.1.1⟩ : _ ∧ k_ ≠ gb333))) (fun _ hk => hk.1.2) (.slice Ao62 t341.length co62)) (fun _ hk => hk.2) (.slice Ao68 x335000_1.length co68)) (fun _ hk => trivial), by repeat (first | (with_reducible first | exact HB.out | apply bal | apply pwN | apply bd1 | refine bset ?_ GE333.out | refine bset ?_ GE334.out | refine bset ?_ GE346.out) | exact HB.out)⟩
        · replace c20 := Bool.eq_false_iff.mpr c20
          subst c20
          have H1 : (some (x335000_1, x1_1, false)) = some (r1, r2, r3) := by rw [if_neg (show ¬ (false = true) by decide)] at H; exact H
          clear H
          have H := H1
          clear H1
          simp only [Option.some.injEq, Prod.mk.injEq] at H
          obtain ⟨rfl, rfl, rfl⟩ := H
          go_wp2_with (first | ((with_reducible refine gate_callee (f := 87) rfl ?_); refine goesL_ (some 13) rfl rfl Try.func87 (by kernel_rfl) rfl #[.string a0, .int .i64 x1_1, .string (⟨#[111]⟩ : ByteArray)] rfl (by (try simp only [List.map_toArray, List.map_cons, List.map_nil]); first | done | rfl | (simp only [List.length_drop, List.length_take]; rfl)) ?_; (with_reducible refine (virgationref01_begins.calls a0 x1_1 (⟨#[111]⟩ : ByteArray) false _ A5.out).mono ?_); rintro e w' ⟨rfl, ⟨nd, rfl⟩⟩; refine ⟨_, rfl, ?_⟩; (try (rw [drewN_self wr]; generalize hq_ : World.drewN wr _ = wr; have n0_ : Az (Kd.R k53 53 wr w.heap.size (fun k_ => k_ ≠ gb333 ∧ k_ ≠ gb334) u335000 x335000_1) := ⟨by rw [← hq_]; exact (by (with_reducible repeat (first | apply Kd.R_alloc | apply Kd.R_drewN | apply Kd.R_drew)); exact HO_335000.out)⟩; have n1_ : Az (wr.heap[gb333]? = some (.cells #[.slice none 0 0] 53 (0, 0))) := ⟨by rw [← hq_]; exact (by (with_reducible repeat (first | refine bdN ?_ _ | refine blk_drew ?_ | refine bkA ?_ _)); exact BK333.out)⟩; have n2_ : Az (wr.heap[gb334]? = some (.cells #[u335000] 53 (0, 0))) := ⟨by rw [← hq_]; exact (by (with_reducible repeat (first | refine bdN ?_ _ | refine blk_drew ?_ | refine bkA ?_ _)); exact BK334.out)⟩; have n3_ : Az (Below w.heap.size w wr) := ⟨by rw [← hq_]; exact (by repeat (first | (with_reducible first | exact HB.out | apply bal | apply pwN | apply bd1 | refine bset ?_ GE333.out | refine bset ?_ GE334.out) | exact HB.out))⟩; clear HO_335000 BK333 BK334 HB hq_; have HO_335000 := n0_; have BK333 := n1_; have BK334 := n2_; have HB := n3_; clear n0_ n1_ n2_ n3_))) | ((with_reducible refine gate_callee (f := 87) rfl ?_); refine goesL_ (some 32) rfl rfl Try.func87 (by kernel_rfl) rfl #[.string a0, .int .i64 x1_1, .string (⟨#[40]⟩ : ByteArray)] rfl (by (try simp only [List.map_toArray, List.map_cons, List.map_nil]); first | done | rfl | (simp only [List.length_drop, List.length_take]; rfl)) ?_; (with_reducible refine (virgationref01_begins.calls a0 x1_1 (⟨#[40]⟩ : ByteArray) false _ A19.out).mono ?_); rintro e w' ⟨rfl, ⟨nd, rfl⟩⟩; refine ⟨_, rfl, ?_⟩; (try (rw [drewN_self wr]; generalize hq_ : World.drewN wr _ = wr; have n0_ : Az (Kd.R k53 53 wr w.heap.size (fun k_ => k_ ≠ gb333 ∧ k_ ≠ gb334) u335000 x335000_1) := ⟨by rw [← hq_]; exact (by (with_reducible repeat (first | apply Kd.R_alloc | apply Kd.R_drewN | apply Kd.R_drew)); exact HO_335000.out)⟩; have n1_ : Az (wr.heap[gb333]? = some (.cells #[.slice none 0 0] 53 (0, 0))) := ⟨by rw [← hq_]; exact (by (with_reducible repeat (first | refine bdN ?_ _ | refine blk_drew ?_ | refine bkA ?_ _)); exact BK333.out)⟩; have n2_ : Az (wr.heap[gb334]? = some (.cells #[u335000] 53 (0, 0))) := ⟨by rw [← hq_]; exact (by (with_reducible repeat (first | refine bdN ?_ _ | refine blk_drew ?_ | refine bkA ?_ _)); exact BK334.out)⟩; have n3_ : Az (Below w.heap.size w wr) := ⟨by rw [← hq_]; exact (by repeat (first | (with_reducible first | exact HB.out | apply bal | apply pwN | apply bd1 | refine bset ?_ GE333.out | refine bset ?_ GE334.out) | exact HB.out))⟩; clear HO_335000 BK333 BK334 HB hq_; have HO_335000 := n0_; have BK333 := n1_; have BK334 := n2_; have HB := n3_; clear n0_ n1_ n2_ n3_)); have hnb70 := NB334_333.out; have hnc70 := NB333_334.out; have hcz71_0 : wr.cell? ⟨gb334, 0, none⟩ = some (u335000) := (blk_cell BK334.out 0).trans rfl; have hfz71_0 := bkF BK334.out 0; obtain ⟨Ao72, co72, eo72⟩ := Kd.R_slice HO_335000.out; subst eo72; have hcz73_0 : wr.cell? ⟨gb333, 0, none⟩ = some (.slice none 0 0) := (blk_cell BK333.out 0).trans rfl; have hfz73_0 := bkF BK333.out 0))
          refine bodyPost_ret (results_ctt rfl _ _ gb333 53 #[.slice Ao72 x335000_1.length co72] (0, 0) _ rfl (by (with_reducible repeat (first | refine bdN ?_ _ | refine blk_drew ?_ | refine bkA ?_ _)); refine blk_put (cs := #[.slice none 0 0]) ?_ 0 _ rfl; (with_reducible repeat (first | refine bdN ?_ _ | refine blk_drew ?_ | refine bkA ?_ _)); exact BK333.out) Try.underlying53 rfl (by kernel_rfl)) rfl ?_
          exact ⟨_, by first | rfl | (simp [errW_none, errW_some] <;> rfl) | (simp [*, errW_none, errW_some] <;> rfl), by (with_reducible repeat (first | apply Kd.R_alloc | apply Kd.R_drewN | apply Kd.R_drew)); exact Kd.R_mono (Kd.R_far (p := ⟨gb333, 0, none⟩) (Kd.R_mono HO_335000.out (fun k_ hk => (⟨hk, hk.1⟩ : _ ∧ k_ ≠ gb333))) (fun _ hk => hk.2) (.slice Ao72 x335000_1.length co72)) (fun _ hk => trivial), by repeat (first | (with_reducible first | exact HB.out | apply bal | apply pwN | apply bd1 | refine bset ?_ GE333.out | refine bset ?_ GE334.out) | exact HB.out)⟩
end Go.Proofs.Ytnfgpepggehegaa.I
namespace Go.Proofs.Ytnfgpepggehegaa.I
open Go.RowKit Go.Proofs.YtnfgpepggehegaaW.PrintWords Go.Proofs.YtnfgpepggehegaaW.PrintLast Go.Proofs.YtnfgpepggehegaaW.PrintMore
attribute [local go_sem] max2_int min2_int max_two min_two max_three min_three max_four min_four   -- for this text's walks alone
set_option linter.unusedVariables false
set_option linter.unusedSimpArgs false
def virgationref03_number.l0 : Nat → ByteArray → Int → Int → Int → Option (Int × Int × Bool)
  | 0, _, _, _, _ => none
  | k + 1, x0, x1, x7, x8 => if x1 < (x0.size : Int) then (if 0 ≤ x1 then (if (bt x0 x1) ≥ 48 then (if (bt x0 x1) ≤ 57 then (if (wrap64 (x1 - x8)) < 11 then (virgationref03_number.l0 k x0 (wrap64 (x1 + 1)) (wrap64 ((wrap64 (10 * x7)) + (((bt x0 x1) - 48) % 256))) x8) else (if x1 > x8 then (if x7 ≤ 1000000000 then (if x1 = (wrap64 (x8 + 1)) then (some (x7, x1, true)) else (if 0 ≤ x8 then (if x8 < (x0.size : Int) then (some (x7, x1, ((bt x0 x8) != 48))) else (none)) else (none))) else (some (x7, x1, false))) else (some (x7, x1, false)))) else (if x1 > x8 then (if x7 ≤ 1000000000 then (if x1 = (wrap64 (x8 + 1)) then (some (x7, x1, true)) else (if 0 ≤ x8 then (if x8 < (x0.size : Int) then (some (x7, x1, ((bt x0 x8) != 48))) else (none)) else (none))) else (some (x7, x1, false))) else (some (x7, x1, false)))) else (if x1 > x8 then (if x7 ≤ 1000000000 then (if x1 = (wrap64 (x8 + 1)) then (some (x7, x1, true)) else (if 0 ≤ x8 then (if x8 < (x0.size : Int) then (some (x7, x1, ((bt x0 x8) != 48))) else (none)) else (none))) else (some (x7, x1, false))) else (some (x7, x1, false)))) else (none)) else (if x1 > x8 then (if x7 ≤ 1000000000 then (if x1 = (wrap64 (x8 + 1)) then (some (x7, x1, true)) else (if 0 ≤ x8 then (if x8 < (x0.size : Int) then (some (x7, x1, ((bt x0 x8) != 48))) else (none)) else (none))) else (some (x7, x1, false))) else (some (x7, x1, false)))
def virgationref03_number.f (k : Nat) (a0 : ByteArray) (a1 : Int) : Option (Int × Int × Bool) := virgationref03_number.l0 k a0 a1 0 a1
set_option maxHeartbeats 8000000 in
set_option maxRecDepth 100000 in
theorem virgationref03_number.calls (k : Nat) (a0 : ByteArray) (a1 : Int) (r1 : Int) (r2 : Int) (r3 : Bool) (w : World) (h : virgationref03_number.f k a0 a1 = some (r1, r2, r3)) :
    Calls Try.prog 79 #[.string a0, .int .i64 a1] w fun e w' => e = .returned (.tuple #[.int .i64 r1, .int .i64 r2, .bool r3]) ∧ Drawn0 w w' := by
  have H : (virgationref03_number.l0 k a0 a1 0 a1) = some (r1, r2, r3) := h
  clear h
  have H' := Az.mk H
  clear H
  go_enter Try.func79, Try.ntmps79
  go_wp2
  repeat (go_quiet (fail); try go_wp2)
  go_loopg [1, 7] k (fun kq v1 v7 w' => ∃ (x1_1 : Int) (x7_1 : Int), v1 = .int .i64 x1_1 ∧ v7 = .int .i64 x7_1 ∧ Az (virgationref03_number.l0 kq a0 x1_1 x7_1 a1 = some (r1, r2, r3)) ∧ Az (kq ≤ k) ∧ Drawn0 w w')
  case atStart => exact ⟨(a1), (0), (by first | rfl | (simp; done) | (simp [*]; done)), (by first | rfl | (simp; done) | (simp [*]; done)), H', ⟨Nat.le_refl _⟩, by repeat (first | exact Drawn0.refl _ | apply Drawn0.step)⟩
  case round =>
    clear H'
    try clear p2
    obtain ⟨x1_1, x7_1, rfl, rfl, HA, HK1, ⟨m1, rfl⟩⟩ := hrel
    cases gk with
    | zero => exact absurd HA.out (by simp [virgationref03_number.l0])
    | succ k1 =>
      have H := HA.out
      clear HA
      simp only [virgationref03_number.l0] at H
      by_cases c3 : x1_1 < (a0.size : Int)
      · rw [if_pos c3] at H
        have c3b0 : decide (x1_1 < (a0.size : Int)) = true := decide_eq_true c3
        clear c3
        by_cases c4 : 0 ≤ x1_1
        · rw [if_pos c4] at H
          have c4b0 : decide (0 ≤ x1_1) = true := decide_eq_true c4
          clear c4
          by_cases c6 : (bt a0 x1_1) ≥ 48
          · rw [if_pos c6] at H
            have c6b0 : decide (48 ≤ (bt a0 x1_1)) = true := decide_eq_true c6
            clear c6
            by_cases c8 : (bt a0 x1_1) ≤ 57
            · rw [if_pos c8] at H
              have c8b0 : decide ((bt a0 x1_1) ≤ 57) = true := decide_eq_true c8
              clear c8
              by_cases c9 : (wrap64 (x1_1 - a1)) < 11
              · rw [if_pos c9] at H
                have c9b0 : decide ((wrap64 (x1_1 - a1)) < 11) = true := decide_eq_true c9
                clear c9
                have H' := Az.mk H
                clear H
                have p5 : 0 ≤ (x1_1 : Int) := of_decide_eq_true (by first | (with_reducible assumption) | assumption)
                have q5 : x1_1 < (a0.size : Int) := of_decide_eq_true (by first | (with_reducible assumption) | assumption)
                have hx5 := bt_at a0 x1_1
                replace p5 := eq_true p5
                replace q5 := eq_true q5
                have p7 : 0 ≤ (x1_1 : Int) := of_decide_eq_true (by first | (with_reducible assumption) | assumption)
                have q7 : x1_1 < (a0.size : Int) := of_decide_eq_true (by first | (with_reducible assumption) | assumption)
                have hx7 := bt_at a0 x1_1
                replace p7 := eq_true p7
                replace q7 := eq_true q7
                have p10 : 0 ≤ (x1_1 : Int) := of_decide_eq_true (by first | (with_reducible assumption) | assumption)
                have q10 : x1_1 < (a0.size : Int) := of_decide_eq_true (by first | (with_reducible assumption) | assumption)
                have hx10 := bt_at a0 x1_1
                replace p10 := eq_true p10
                replace q10 := eq_true q10
                go_wp2
                repeat (go_quiet (fail); try go_wp2)
                go_roundg k1
                case measure => have := HK1.out; omega
                case rel => exact ⟨(wrap64 (x1_1 + 1)), (wrap64 ((wrap64 (10 * x7_1)) + (((bt a0 x1_1) - 48) % 256))), (by first | rfl | (simp; done) | (simp [*]; done)), (by first | rfl | (simp; done) | (simp [*]; done)), H', ⟨by have := HK1.out; omega⟩, by repeat (first | exact Drawn0.refl _ | apply Drawn0.step)⟩
              · rw [if_neg c9] at H
                have c9b0 : decide ((wrap64 (x1_1 - a1)) < 11) = false := decide_eq_false c9
                clear c9
                by_cases c11 : x1_1 > a1
                · rw [if_pos c11] at H
                  have c11b0 : decide (a1 < x1_1) = true := decide_eq_true c11
                  clear c11
                  by_cases c12 : x7_1 ≤ 1000000000
                  · rw [if_pos c12] at H
                    have c12b0 : decide (x7_1 ≤ 1000000000) = true := decide_eq_true c12
                    clear c12
                    by_cases c13 : x1_1 = (wrap64 (a1 + 1))
                    · rw [if_pos c13] at H
                      have c13b0 : (x1_1 == (wrap64 (a1 + 1))) = true := beq_iff_eq.mpr c13
                      have c13b1 : (x1_1 != (wrap64 (a1 + 1))) = false := bne_eq_false_iff_eq.mpr c13
                      clear c13
                      simp only [Option.some.injEq, Prod.mk.injEq] at H
                      obtain ⟨rfl, rfl, rfl⟩ := H
                      have p5 : 0 ≤ (x1_1 : Int) := of_decide_eq_true (by first | (with_reducible assumption) | assumption)
                      have q5 : x1_1 < (a0.size : Int) := of_decide_eq_true (by first | (with_reducible assumption) | assumption)
                      have hx5 := bt_at a0 x1_1
                      replace p5 := eq_true p5
                      replace q5 := eq_true q5
                      have p7 : 0 ≤ (x1_1 : Int) := of_decide_eq_true (by first | (with_reducible assumption) | assumption)
                      have q7 : x1_1 < (a0.size : Int) := of_decide_eq_true (by first | (with_reducible assumption) | assumption)
                      have hx7 := bt_at a0 x1_1
                      replace p7 := eq_true p7
                      replace q7 := eq_true q7
                      go_wp2
                      repeat (go_quiet (fail); try go_wp2)
                      go_ret3
                      exact ⟨by first | rfl | (simp; done) | (simp [*]; done), by repeat (first | exact Drawn0.refl _ | apply Drawn0.step)⟩
                    · rw [if_neg c13] at H
                      have c13b0 : (x1_1 == (wrap64 (a1 + 1))) = false := beq_eq_false_iff_ne.mpr c13
                      have c13b1 : (x1_1 != (wrap64 (a1 + 1))) = true := bne_iff_ne.mpr c13
                      by_cases c14 : 0 ≤ a1
                      · rw [if_pos c14] at H
                        have c14b0 : decide (0 ≤ a1) = true := decide_eq_true c14
                        clear c14
                        by_cases c15 : a1 < (a0.size : Int)
                        · rw [if_pos c15] at H
                          have c15b0 : decide (a1 < (a0.size : Int)) = true := decide_eq_true c15
                          clear c15
                          simp only [Option.some.injEq, Prod.mk.injEq] at H
                          obtain ⟨rfl, rfl, rfl⟩ := H
                          have p5 : 0 ≤ (x1_1 : Int) := of_decide_eq_true (by first | (with_reducible assumption) | assumption)
                          have q5 : x1_1 < (a0.size : Int) := of_decide_eq_true (by first | (with_reducible assumption) | assumption)
                          have hx5 := bt_at a0 x1_1
                          replace p5 := eq_true p5
                          replace q5 := eq_true q5
                          have p7 : 0 ≤ (x1_1 : Int) := of_decide_eq_true (by first | (with_reducible assumption) | assumption)
                          have q7 : x1_1 < (a0.size : Int) := of_decide_eq_true (by first | (with_reducible assumption) | assumption)
                          have hx7 := bt_at a0 x1_1
                          replace p7 := eq_true p7
                          replace q7 := eq_true q7
                          have p16 : 0 ≤ (a1 : Int) := of_decide_eq_true (by first | (with_reducible assumption) | assumption)
                          have q16 : a1 < (a0.size : Int) := of_decide_eq_true (by first | (with_reducible assumption) | assumption)
                          have hx16 := bt_at a0 a1
                          replace p16 := eq_true p16
                          replace q16 := eq_true q16
                          go_wp2
                          repeat (go_quiet (fail); try go_wp2)
                          go_ret3
                          exact ⟨by first | rfl | (simp; done) | (simp [*]; done), by repeat (first | exact Drawn0.refl _ | apply Drawn0.step)⟩
                        · rw [if_neg c15] at H
                          exact absurd H (by simp)
                      · rw [if_neg c14] at H
                        exact absurd H (by simp)
                  · rw [if_neg c12] at H
                    have c12b0 : decide (x7_1 ≤ 1000000000) = false := decide_eq_false c12
                    clear c12
                    simp only [Option.some.injEq, Prod.mk.injEq] at H
                    obtain ⟨rfl, rfl, rfl⟩ := H
                    have p5 : 0 ≤ (x1_1 : Int) := of_decide_eq_true (by first | (with_reducible assumption) | assumption)
                    have q5 : x1_1 < (a0.size : Int) := of_decide_eq_true (by first | (with_reducible assumption) | assumption)
                    have hx5 := bt_at a0 x1_1
                    replace p5 := eq_true p5
                    replace q5 := eq_true q5
                    have p7 : 0 ≤ (x1_1 : Int) := of_decide_eq_true (by first | (with_reducible assumption) | assumption)
                    have q7 : x1_1 < (a0.size : Int) := of_decide_eq_true (by first | (with_reducible assumption) | assumption)
                    have hx7 := bt_at a0 x1_1
                    replace p7 := eq_true p7
                    replace q7 := eq_true q7
                    go_wp2
                    repeat (go_quiet (fail); try go_wp2)
                    go_ret3
                    exact ⟨by first | rfl | (simp; done) | (simp [*]; done), by repeat (first | exact Drawn0.refl _ | apply Drawn0.step)⟩
                · rw [if_neg c11] at H
                  have c11b0 : decide (a1 < x1_1) = false := decide_eq_false c11
                  clear c11
                  simp only [Option.some.injEq, Prod.mk.injEq] at H
                  obtain ⟨rfl, rfl, rfl⟩ := H
                  have p5 : 0 ≤ (x1_1 : Int) := of_decide_eq_true (by first | (with_reducible assumption) | assumption)
                  have q5 : x1_1 < (a0.size : Int) := of_decide_eq_true (by first | (with_reducible assumption) | assumption)
                  have hx5 := bt_at a0 x1_1
                  replace p5 := eq_true p5
                  replace q5 := eq_true q5
                  have p7 : 0 ≤ (x1_1 : Int) := of_decide_eq_true (by first | (with_reducible assumption) | assumption)
                  have q7 : x1_1 < (a0.size : Int) := of_decide_eq_true (by first | (with_reducible assumption) | assumption)
                  have hx7 := bt_at a0 x1_1
                  replace p7 := eq_true p7
                  replace q7 := eq_true q7
                  go_wp2
                  repeat (go_quiet (fail); try go_wp2)
                  go_ret3
                  exact ⟨by first | rfl | (simp; done) | (simp [*]; done), by repeat (first | exact Drawn0.refl _ | apply Drawn0.step)⟩
            · rw [if_neg c8] at H
              have c8b0 : decide ((bt a0 x1_1) ≤ 57) = false := decide_eq_false c8
              clear c8
              by_cases c17 : x1_1 > a1
              · rw [if_pos c17] at H
                have c17b0 : decide (a1 < x1_1) = true := decide_eq_true c17
                clear c17
                by_cases c18 : x7_1 ≤ 1000000000
                · rw [if_pos c18] at H
                  have c18b0 : decide (x7_1 ≤ 1000000000) = true := decide_eq_true c18
                  clear c18
                  by_cases c19 : x1_1 = (wrap64 (a1 + 1))
                  · rw [if_pos c19] at H
                    have c19b0 : (x1_1 == (wrap64 (a1 + 1))) = true := beq_iff_eq.mpr c19
                    have c19b1 : (x1_1 != (wrap64 (a1 + 1))) = false := bne_eq_false_iff_eq.mpr c19
                    clear c19
                    simp only [Option.some.injEq, Prod.mk.injEq] at H
                    obtain ⟨rfl, rfl, rfl⟩ := H
                    have p5 : 0 ≤ (x1_1 : Int) := of_decide_eq_true (by first | (with_reducible assumption) | assumption)
                    have q5 : x1_1 < (a0.size : Int) := of_decide_eq_true (by first | (with_reducible assumption) | assumption)
                    have hx5 := bt_at a0 x1_1
                    replace p5 := eq_true p5
                    replace q5 := eq_true q5
                    have p7 : 0 ≤ (x1_1 : Int) := of_decide_eq_true (by first | (with_reducible assumption) | assumption)
                    have q7 : x1_1 < (a0.size : Int) := of_decide_eq_true (by first | (with_reducible assumption) | assumption)
                    have hx7 := bt_at a0 x1_1
                    replace p7 := eq_true p7
                    replace q7 := eq_true q7
                    go_wp2
                    repeat (go_quiet (fail); try go_wp2)
                    go_ret3
                    exact ⟨by first | rfl | (simp; done) | (simp [*]; done), by repeat (first | exact Drawn0.refl _ | apply Drawn0.step)⟩
                  · rw [if_neg c19] at H
                    have c19b0 : (x1_1 == (wrap64 (a1 + 1))) = false := beq_eq_false_iff_ne.mpr c19
                    have c19b1 : (x1_1 != (wrap64 (a1 + 1))) = true := bne_iff_ne.mpr c19
                    by_cases c20 : 0 ≤ a1
                    · rw [if_pos c20] at H
                      have c20b0 : decide (0 ≤ a1) = true := decide_eq_true c20
                      clear c20
                      by_cases c21 : a1 < (a0.size : Int)
                      · rw [if_pos c21] at H
                        have c21b0 : decide (a1 < (a0.size : Int)) = true := decide_eq_true c21
                        clear c21
                        simp only [Option.some.injEq, Prod.mk.injEq] at H
                        obtain ⟨rfl, rfl, rfl⟩ := H
                        have p5 : 0 ≤ (x1_1 : Int) := of_decide_eq_true (by first | (with_reducible assumption) | assumption)
                        have q5 : x1_1 < (a0.size : Int) := of_decide_eq_true (by first | (with_reducible assumption) | assumption)
                        have hx5 := bt_at a0 x1_1
                        replace p5 := eq_true p5
                        replace q5 := eq_true q5
                        have p7 : 0 ≤ (x1_1 : Int) := of_decide_eq_true (by first | (with_reducible assumption) | assumption)
                        have q7 : x1_1 < (a0.size : Int) := of_decide_eq_true (by first | (with_reducible assumption) | assumption)
                        have hx7 := bt_at a0 x1_1
                        replace p7 := eq_true p7
                        replace q7 := eq_true q7
                        have p22 : 0 ≤ (a1 : Int) := of_decide_eq_true (by first | (with_reducible assumption) | assumption)
                        have q22 : a1 < (a0.size : Int) := of_decide_eq_true (by first | (with_reducible assumption) | assumption)
                        have hx22 := bt_at a0 a1
                        replace p22 := eq_true p22
                        replace q22 := eq_true q22
                        go_wp2
                        repeat (go_quiet (fail); try go_wp2)
                        go_ret3
                        exact ⟨by first | rfl | (simp; done) | (simp [*]; done), by repeat (first | exact Drawn0.refl _ | apply Drawn0.step)⟩
                      · rw [if_neg c21] at H
                        exact absurd H (by simp)
                    · rw [if_neg c20] at H
                      exact absurd H (by simp)
                · rw [if_neg c18] at H
                  have c18b0 : decide (x7_1 ≤ 1000000000) = false := decide_eq_false c18
                  clear c18
                  simp only [Option.some.injEq, Prod.mk.injEq] at H
                  obtain ⟨rfl, rfl, rfl⟩ := H
                  have p5 : 0 ≤ (x1_1 : Int) := of_decide_eq_true (by first | (with_reducible assumption) | assumption)
                  have q5 : x1_1 < (a0.size : Int) := of_decide_eq_true (by first | (with_reducible assumption) | assumption)
                  have hx5 := bt_at a0 x1_1
                  replace p5 := eq_true p5
                  replace q5 := eq_true q5
                  have p7 : 0 ≤ (x1_1 : Int) := of_decide_eq_true (by first | (with_reducible assumption) | assumption)
                  have q7 : x1_1 < (a0.size : Int) := of_decide_eq_true (by first | (with_reducible assumption) | assumption)
                  have hx7 := bt_at a0 x1_1
                  replace p7 := eq_true p7
                  replace q7 := eq_true q7
                  go_wp2
                  repeat (go_quiet (fail); try go_wp2)
                  go_ret3
                  exact ⟨by first | rfl | (simp; done) | (simp [*]; done), by repeat (first | exact Drawn0.refl _ | apply Drawn0.step)⟩
              · rw [if_neg c17] at H
                have c17b0 : decide (a1 < x1_1) = false := decide_eq_false c17
                clear c17
                simp only [Option.some.injEq, Prod.mk.injEq] at H
                obtain ⟨rfl, rfl, rfl⟩ := H
                have p5 : 0 ≤ (x1_1 : Int) := of_decide_eq_true (by first | (with_reducible assumption) | assumption)
                have q5 : x1_1 < (a0.size : Int) := of_decide_eq_true (by first | (with_reducible assumption) | assumption)
                have hx5 := bt_at a0 x1_1
                replace p5 := eq_true p5
                replace q5 := eq_true q5
                have p7 : 0 ≤ (x1_1 : Int) := of_decide_eq_true (by first | (with_reducible assumption) | assumption)
                have q7 : x1_1 < (a0.size : Int) := of_decide_eq_true (by first | (with_reducible assumption) | assumption)
                have hx7 := bt_at a0 x1_1
                replace p7 := eq_true p7
                replace q7 := eq_true q7
                go_wp2
                repeat (go_quiet (fail); try go_wp2)
                go_ret3
                exact ⟨by first | rfl | (simp; done) | (simp [*]; done), by repeat (first | exact Drawn0.refl _ | apply Drawn0.step)⟩
          · rw [if_neg c6] at H
            have c6b0 : decide (48 ≤ (bt a0 x1_1)) = false := decide_eq_false c6
            clear c6
            by_cases c23 : x1_1 > a1
            · rw [if_pos c23] at H
              have c23b0 : decide (a1 < x1_1) = true := decide_eq_true c23
              clear c23
              by_cases c24 : x7_1 ≤ 1000000000
              · rw [if_pos c24] at H
                have c24b0 : decide (x7_1 ≤ 1000000000) = true := decide_eq_true c24
                clear c24
                by_cases c25 : x1_1 = (wrap64 (a1 + 1))
                · rw [if_pos c25] at H
                  have c25b0 : (x1_1 == (wrap64 (a1 + 1))) = true := beq_iff_eq.mpr c25
                  have c25b1 : (x1_1 != (wrap64 (a1 + 1))) = false := bne_eq_false_iff_eq.mpr c25
                  clear c25
                  simp only [Option.some.injEq, Prod.mk.injEq] at H
                  obtain ⟨rfl, rfl, rfl⟩ := H
                  have p5 : 0 ≤ (x1_1 : Int) := of_decide_eq_true (by first | (with_reducible assumption) | assumption)
                  have q5 : x1_1 < (a0.size : Int) := of_decide_eq_true (by first | (with_reducible assumption) | assumption)
                  have hx5 := bt_at a0 x1_1
                  replace p5 := eq_true p5
                  replace q5 := eq_true q5
                  go_wp2
                  repeat (go_quiet (fail); try go_wp2)
                  go_ret3
                  exact ⟨by first | rfl | (simp; done) | (simp [*]; done), by repeat (first | exact Drawn0.refl _ | apply Drawn0.step)⟩
                · rw [if_neg c25] at H
                  have c25b0 : (x1_1 == (wrap64 (a1 + 1))) = false := beq_eq_false_iff_ne.mpr c25
                  have c25b1 : (x1_1 != (wrap64 (a1 + 1))) = true := bne_iff_ne.mpr c25
                  by_cases c26 : 0 ≤ a1
                  · rw [if_pos c26] at H
                    have c26b0 : decide (0 ≤ a1) = true := decide_eq_true c26
                    clear c26
                    by_cases c27 : a1 < (a0.size : Int)
                    · rw [if_pos c27] at H
                      have c27b0 : decide (a1 < (a0.size : Int)) = true := decide_eq_true c27
                      clear c27
                      simp only [Option.some.injEq, Prod.mk.injEq] at H
                      obtain ⟨rfl, rfl, rfl⟩ := H
                      have p5 : 0 ≤ (x1_1 : Int) := of_decide_eq_true (by first | (with_reducible assumption) | assumption)
                      have q5 : x1_1 < (a0.size : Int) := of_decide_eq_true (by first | (with_reducible assumption) | assumption)
                      have hx5 := bt_at a0 x1_1
                      replace p5 := eq_true p5
                      replace q5 := eq_true q5
                      have p28 : 0 ≤ (a1 : Int) := of_decide_eq_true (by first | (with_reducible assumption) | assumption)
                      have q28 : a1 < (a0.size : Int) := of_decide_eq_true (by first | (with_reducible assumption) | assumption)
                      have hx28 := bt_at a0 a1
                      replace p28 := eq_true p28
                      replace q28 := eq_true q28
                      go_wp2
                      repeat (go_quiet (fail); try go_wp2)
                      go_ret3
                      exact ⟨by first | rfl | (simp; done) | (simp [*]; done), by repeat (first | exact Drawn0.refl _ | apply Drawn0.step)⟩
                    · rw [if_neg c27] at H
                      exact absurd H (by simp)
                  · rw [if_neg c26] at H
                    exact absurd H (by simp)
              · rw [if_neg c24] at H
                have c24b0 : decide (x7_1 ≤ 1000000000) = false := decide_eq_false c24
                clear c24
                simp only [Option.some.injEq, Prod.mk.injEq] at H
                obtain ⟨rfl, rfl, rfl⟩ := H
                have p5 : 0 ≤ (x1_1 : Int) := of_decide_eq_true (by first | (with_reducible assumption) | assumption)
                have q5 : x1_1 < (a0.size : Int) := of_decide_eq_true (by first | (with_reducible assumption) | assumption)
                have hx5 := bt_at a0 x1_1
                replace p5 := eq_true p5
                replace q5 := eq_true q5
                go_wp2
                repeat (go_quiet (fail); try go_wp2)
                go_ret3
                exact ⟨by first | rfl | (simp; done) | (simp [*]; done), by repeat (first | exact Drawn0.refl _ | apply Drawn0.step)⟩
            · rw [if_neg c23] at H
              have c23b0 : decide (a1 < x1_1) = false := decide_eq_false c23
              clear c23
              simp only [Option.some.injEq, Prod.mk.injEq] at H
              obtain ⟨rfl, rfl, rfl⟩ := H
              have p5 : 0 ≤ (x1_1 : Int) := of_decide_eq_true (by first | (with_reducible assumption) | assumption)
              have q5 : x1_1 < (a0.size : Int) := of_decide_eq_true (by first | (with_reducible assumption) | assumption)
              have hx5 := bt_at a0 x1_1
              replace p5 := eq_true p5
              replace q5 := eq_true q5
              go_wp2
              repeat (go_quiet (fail); try go_wp2)
              go_ret3
              exact ⟨by first | rfl | (simp; done) | (simp [*]; done), by repeat (first | exact Drawn0.refl _ | apply Drawn0.step)⟩
        · rw [if_neg c4] at H
          exact absurd H (by simp)
      · rw [if_neg c3] at H
        have c3b0 : decide (x1_1 < (a0.size : Int)) = false := decide_eq_false c3
        clear c3
        by_cases c29 : x1_1 > a1
        · rw [if_pos c29] at H
          have c29b0 : decide (a1 < x1_1) = true := decide_eq_true c29
          clear c29
          by_cases c30 : x7_1 ≤ 1000000000
          · rw [if_pos c30] at H
            have c30b0 : decide (x7_1 ≤ 1000000000) = true := decide_eq_true c30
            clear c30
            by_cases c31 : x1_1 = (wrap64 (a1 + 1))
            · rw [if_pos c31] at H
              have c31b0 : (x1_1 == (wrap64 (a1 + 1))) = true := beq_iff_eq.mpr c31
              have c31b1 : (x1_1 != (wrap64 (a1 + 1))) = false := bne_eq_false_iff_eq.mpr c31
              clear c31
              simp only [Option.some.injEq, Prod.mk.injEq] at H
              obtain ⟨rfl, rfl, rfl⟩ := H
              go_wp2
              repeat (go_quiet (fail); try go_wp2)
              go_ret3
              exact ⟨by first | rfl | (simp; done) | (simp [*]; done), by repeat (first | exact Drawn0.refl _ | apply Drawn0.step)⟩
            · rw [if_neg c31] at H
              have c31b0 : (x1_1 == (wrap64 (a1 + 1))) = false := beq_eq_false_iff_ne.mpr c31
              have c31b1 : (x1_1 != (wrap64 (a1 + 1))) = true := bne_iff_ne.mpr c31
              by_cases c32 : 0 ≤ a1
              · rw [if_pos c32] at H
                have c32b0 : decide (0 ≤ a1) = true := decide_eq_true c32
                clear c32
                by_cases c33 : a1 < (a0.size : Int)
                · rw [if_pos c33] at H
                  have c33b0 : decide (a1 < (a0.size : Int)) = true := decide_eq_true c33
                  clear c33
                  simp only [Option.some.injEq, Prod.mk.injEq] at H
                  obtain ⟨rfl, rfl, rfl⟩ := H
                  have p34 : 0 ≤ (a1 : Int) := of_decide_eq_true (by first | (with_reducible assumption) | assumption)
                  have q34 : a1 < (a0.size : Int) := of_decide_eq_true (by first | (with_reducible assumption) | assumption)
                  have hx34 := bt_at a0 a1
                  replace p34 := eq_true p34
                  replace q34 := eq_true q34
                  go_wp2
                  repeat (go_quiet (fail); try go_wp2)
                  go_ret3
                  exact ⟨by first | rfl | (simp; done) | (simp [*]; done), by repeat (first | exact Drawn0.refl _ | apply Drawn0.step)⟩
                · rw [if_neg c33] at H
                  exact absurd H (by simp)
              · rw [if_neg c32] at H
                exact absurd H (by simp)
          · rw [if_neg c30] at H
            have c30b0 : decide (x7_1 ≤ 1000000000) = false := decide_eq_false c30
            clear c30
            simp only [Option.some.injEq, Prod.mk.injEq] at H
            obtain ⟨rfl, rfl, rfl⟩ := H
            go_wp2
            repeat (go_quiet (fail); try go_wp2)
            go_ret3
            exact ⟨by first | rfl | (simp; done) | (simp [*]; done), by repeat (first | exact Drawn0.refl _ | apply Drawn0.step)⟩
        · rw [if_neg c29] at H
          have c29b0 : decide (a1 < x1_1) = false := decide_eq_false c29
          clear c29
          simp only [Option.some.injEq, Prod.mk.injEq] at H
          obtain ⟨rfl, rfl, rfl⟩ := H
          go_wp2
          repeat (go_quiet (fail); try go_wp2)
          go_ret3
          exact ⟨by first | rfl | (simp; done) | (simp [*]; done), by repeat (first | exact Drawn0.refl _ | apply Drawn0.step)⟩
end Go.Proofs.Ytnfgpepggehegaa.I
namespace Go.Proofs.Ytnfgpepggehegaa.I
open Go.RowKit Go.Proofs.YtnfgpepggehegaaW.PrintWords Go.Proofs.YtnfgpepggehegaaW.PrintLast Go.Proofs.YtnfgpepggehegaaW.PrintMore
attribute [local go_sem] max2_int min2_int max_two min_two max_three min_three max_four min_four   -- for this text's walks alone
set_option linter.unusedVariables false
set_option linter.unusedSimpArgs false
def virgationlaw05_start.f  : Option (Int × Int × (List (S28))) := some (1, 0, ([] : List (S28)))
set_option maxHeartbeats 8000000 in
set_option maxRecDepth 100000 in
theorem virgationlaw05_start.calls  (r1 : Int) (r2 : Int) (r3 : List (S28)) (w : World) (h : virgationlaw05_start.f  = some (r1, r2, r3)) :
    Calls Try.prog 35 #[] w fun e w' => ∃ v2_ : Value, e = .returned (.agg #[.int .i64 r1, .int .i64 r2, v2_]) ∧ Kd.R k28 28 w' w.heap.size (fun _ => True) v2_ r3 ∧ Below w.heap.size w w' := by
  have hu28 := Try.underlying28
  have HB := Az.mk (Below.refl w.heap.size w)
  have H : (some (1, 0, ([] : List (S28)))) = some (r1, r2, r3) := h
  clear h
  simp only [Option.some.injEq, Prod.mk.injEq] at H
  obtain ⟨rfl, rfl, rfl⟩ := H
  go_enter Try.func35, Try.ntmps35
  go_wp2_with (first | ((with_reducible refine gate_dst (N := 0) rfl ?_); refine box_event ?hg (N := 0) ?hd (cs := #[.int .i64 0, .int .i64 0, .slice none 0 0]) (t := 28) ?hr ?_; (case hd => rfl); (case hg => rfl); (case hr => first | (go_simp; done) | (go_simp; rfl)); intro gb305 hg w1 hbox hb; have n0_ := Az.mk (bst (by repeat (first | (with_reducible first | exact HB.out | apply bal | apply pwN | apply bd1) | exact HB.out)) hb); have n1_ := Az.mk (hbox); have n2_ := Az.mk ((by rw [hg]; exact (below_size (by repeat (first | (with_reducible first | exact HB.out | apply bal | apply pwN | apply bd1) | exact HB.out))) : w.heap.size ≤ gb305)); have n3_ := Az.mk ((by rw [hg]; exact (below_size (by repeat (first | (with_reducible first | exact HB.out | apply bal | apply pwN | apply bd1) | exact HB.out))) : w.heap.size ≤ gb305)); clear HB; have HB := n0_; have BK305 := n1_; have GW305 := n2_; have GE305 := n3_; clear n0_ n1_ n2_ n3_; clear hb hbox hg; have hcz2_0 : w1.cell? ⟨gb305, 0, none⟩ = some (.int .i64 0) := (blk_cell BK305.out 0).trans rfl; have hcz2_1 : w1.cell? ⟨gb305, 1, none⟩ = some (.int .i64 0) := (blk_cell BK305.out 1).trans rfl; have hcz2_2 : w1.cell? ⟨gb305, 2, none⟩ = some (.slice none 0 0) := (blk_cell BK305.out 2).trans rfl; have hfz2_0 := bkF BK305.out 0; have hfz2_1 := bkF BK305.out 1; have hfz2_2 := bkF BK305.out 2))
  refine bodyPost_ret (results_cell_row rfl _ _ gb305 28 #[.int .i64 1, .int .i64 0, .slice none 0 0] (0, 0) _ rfl (by (with_reducible repeat (first | refine bdN ?_ _ | refine blk_drew ?_ | refine bkA ?_ _)); refine blk_put (cs := #[.int .i64 1, .int .i64 0, .slice none 0 0]) ?_ 2 _ rfl; (with_reducible repeat (first | refine bdN ?_ _ | refine blk_drew ?_ | refine bkA ?_ _)); refine blk_put (cs := #[.int .i64 1, .int .i64 0, .slice none 0 0]) ?_ 1 _ rfl; (with_reducible repeat (first | refine bdN ?_ _ | refine blk_drew ?_ | refine bkA ?_ _)); refine blk_put (cs := #[.int .i64 0, .int .i64 0, .slice none 0 0]) ?_ 0 _ rfl; (with_reducible repeat (first | refine bdN ?_ _ | refine blk_drew ?_ | refine bkA ?_ _)); exact BK305.out) Try.underlying28 rfl (by kernel_rfl)) rfl ?_
  exact ⟨_, by first | rfl | (simp [errW_none, errW_some] <;> rfl) | (simp [*, errW_none, errW_some] <;> rfl), by first | exact Kd.R_nil _ _ _ _ _ | exact Kd.N_nil _ _ _ _ _ | exact Kd.V_nil _ _ _ _ _ | exact Kd.Q_nil _ _ _ _ _ | exact Kd.S_nil _ _ _ _ _, by repeat (first | (with_reducible first | exact HB.out | apply bal | apply pwN | apply bd1 | refine bset ?_ GE305.out) | exact HB.out)⟩
def virgationref03_Number.f : Nat → Int → Option (ByteArray)
  | 0, _ => none
  | k + 1, a0 => if a0 < 10 then (if 0 ≤ a0 then (if a0 ≤ (wrap64 (a0 + 1)) then (if (wrap64 (a0 + 1)) ≤ 10 then (some ((⟨#[48, 49, 50, 51, 52, 53, 54, 55, 56, 57]⟩ : ByteArray).extract (a0 : Int).toNat ((wrap64 (a0 + 1)) : Int).toNat)) else (none)) else (none)) else (none)) else ((virgationref03_Number.f k (wrap64 (Int.tdiv a0 10))).bind fun t306 => ((virgationref03_Number.f k (Int.tmod a0 10)).bind fun t307 => (if t306.size + t307.size ≤ 9223372036854775807 then (some (t306 ++ t307)) else (none))))
set_option maxHeartbeats 8000000 in
set_option maxRecDepth 100000 in
theorem virgationref03_Number.calls (k : Nat) : ∀ (a0 : Int) (r : ByteArray) (w : World) (h : virgationref03_Number.f k a0 = some r),
    Calls Try.prog 64 #[.int .i64 a0] w fun e w' => e = .returned (.string r) ∧ Drawn0 w w' := by
  induction k using Nat.strongRecOn with
  | _ k ih =>
  intro a0 r w h
  cases k with
  | zero => exact absurd h (by simp [virgationref03_Number.f])
  | succ k =>
  simp only [virgationref03_Number.f] at h
  have H : (if a0 < 10 then (if 0 ≤ a0 then (if a0 ≤ (wrap64 (a0 + 1)) then (if (wrap64 (a0 + 1)) ≤ 10 then (some ((⟨#[48, 49, 50, 51, 52, 53, 54, 55, 56, 57]⟩ : ByteArray).extract (a0 : Int).toNat ((wrap64 (a0 + 1)) : Int).toNat)) else (none)) else (none)) else (none)) else ((virgationref03_Number.f k (wrap64 (Int.tdiv a0 10))).bind fun t306 => ((virgationref03_Number.f k (Int.tmod a0 10)).bind fun t307 => (if t306.size + t307.size ≤ 9223372036854775807 then (some (t306 ++ t307)) else (none))))) = some r := h
  clear h
  by_cases c2 : a0 < 10
  · rw [if_pos c2] at H
    have c2b0 : decide (a0 < 10) = true := decide_eq_true c2
    clear c2
    by_cases c3 : 0 ≤ a0
    · rw [if_pos c3] at H
      have c3b0 := eq_true c3
      have c3b1 : decide (0 ≤ a0) = true := decide_eq_true c3
      clear c3
      by_cases c4 : a0 ≤ (wrap64 (a0 + 1))
      · rw [if_pos c4] at H
        have c4b0 := eq_true c4
        have c4b1 : decide (a0 ≤ (wrap64 (a0 + 1))) = true := decide_eq_true c4
        by_cases c5 : (wrap64 (a0 + 1)) ≤ 10
        · rw [if_pos c5] at H
          have c5b0 := eq_true c5
          have c5b1 : decide ((wrap64 (a0 + 1)) ≤ 10) = true := decide_eq_true c5
          obtain rfl := Option.some.inj H
          go_enter Try.func64, Try.ntmps64
          go_wp2
          go_ret
          exact ⟨by first | rfl | (simp; done) | (simp [*]; done), by repeat (first | exact Drawn0.refl _ | apply Drawn0.step)⟩
        · rw [if_neg c5] at H
          exact absurd H (by simp)
      · rw [if_neg c4] at H
        exact absurd H (by simp)
    · rw [if_neg c3] at H
      exact absurd H (by simp)
  · rw [if_neg c2] at H
    have c2b0 : decide (a0 < 10) = false := decide_eq_false c2
    clear c2
    replace H := Option.bind_eq_some_iff.mp H
    obtain ⟨t306, A60, H⟩ := H
    replace H : ((virgationref03_Number.f k (Int.tmod a0 10)).bind fun t307 => (if t306.size + t307.size ≤ 9223372036854775807 then (some (t306 ++ t307)) else (none))) = some r := H
    have A6 := Az.mk A60
    clear A60
    replace H := Option.bind_eq_some_iff.mp H
    obtain ⟨t307, A70, H⟩ := H
    replace H : (if t306.size + t307.size ≤ 9223372036854775807 then (some (t306 ++ t307)) else (none)) = some r := H
    have A7 := Az.mk A70
    clear A70
    by_cases c8 : t306.size + t307.size ≤ 9223372036854775807
    · rw [if_pos c8] at H
      have c8b0 := eq_true c8
      have c8b1 : decide (t306.size + t307.size ≤ 9223372036854775807) = true := decide_eq_true c8
      try have c8b2 : (9223372036854775807 < t306.size + t307.size) = False := eq_false (Nat.not_lt.2 c8)
      obtain rfl := Option.some.inj H
      go_enter Try.func64, Try.ntmps64
      go_wp2_with (first | ((with_reducible refine gate_callee (f := 64) rfl ?_); refine goesL_ (some 11) rfl rfl Try.func64 (by kernel_rfl) rfl #[.int .i64 (wrap64 (Int.tdiv a0 10))] rfl (by (try simp only [List.map_toArray, List.map_cons, List.map_nil]); first | done | rfl | (simp only [List.length_drop, List.length_take]; rfl)) ?_; (with_reducible refine (ih k (by omega) (wrap64 (Int.tdiv a0 10)) t306 _ A6.out).mono ?_); rintro e w' ⟨rfl, ⟨nd, rfl⟩⟩; refine ⟨_, rfl, ?_⟩) | ((with_reducible refine gate_callee (f := 64) rfl ?_); refine goesL_ (some 14) rfl rfl Try.func64 (by kernel_rfl) rfl #[.int .i64 (Int.tmod a0 10)] rfl (by (try simp only [List.map_toArray, List.map_cons, List.map_nil]); first | done | rfl | (simp only [List.length_drop, List.length_take]; rfl)) ?_; (with_reducible refine (ih k (by omega) (Int.tmod a0 10) t307 _ A7.out).mono ?_); rintro e w' ⟨rfl, ⟨nd, rfl⟩⟩; refine ⟨_, rfl, ?_⟩))
      go_ret
      exact ⟨by first | rfl | (simp; done) | (simp [*]; done), by repeat (first | exact Drawn0.refl _ | apply Drawn0.step)⟩
    · rw [if_neg c8] at H
      exact absurd H (by simp)
end Go.Proofs.Ytnfgpepggehegaa.I
