-- PRINTED by print.py (a twelfth state) out of the translation. Not trusted: Lean checks it.
import Derived.Test.YtfhgoebgnilfaaaI0
import Derived.Test.YtfhgoebgnilfaaaI2
import Derived.Test.YtfhgoebgnilfaaaI3
import Derived.Test.YtfhgoebgnilfaaaI4
namespace Go.Proofs.Ytfhgoebgnilfaaa.I
open Go.RowKit Go.Proofs.YtfhgoebgnilfaaaW.PrintWords Go.Proofs.YtfhgoebgnilfaaaW.PrintLast Go.Proofs.YtfhgoebgnilfaaaW.PrintMore
attribute [local go_sem] max2_int min2_int max_two min_two max_three min_three max_four min_four   -- for this text's walks alone
set_option linter.unusedVariables false
set_option linter.unusedSimpArgs false

/-! ### virgationref04_Check: function 12 -/
mutual
def virgationref04_Check.j0 : Nat → List (S59) → List (S56) → Bool → Option (Int)
  | 0, _, _, _ => none
  | k + 1, x0, x1, x26 => if x26 = true then (some 4) else (virgationref04_Check.l0 k x0 x1 x1 (x1.length : Int) 0)
def virgationref04_Check.l0 : Nat → List (S59) → List (S56) → List (S56) → Int → Int → Option (Int)
  | 0, _, _, _, _, _ => none
  | k + 1, x0, x1, x27, x28, x29 => if x29 < x28 then (if 0 ≤ x29 then (if x29 < (x27.length : Int) then ((virgationref02_Name.f k ((rd_T56 x27 x29).f0)).bind fun t147 => (if t147 = true then (if ((rd_T56 x27 x29).f1) < 0 then (virgationref04_Check.j2 k x0 x1 x29 x27 x28 x29 true ((rd_T56 x27 x29).f0) ((rd_T56 x27 x29).f1) ((rd_T56 x27 x29).f2.f0) ((rd_T56 x27 x29).f2.f1) ((rd_T56 x27 x29).f2.f2)) else (if ((rd_T56 x27 x29).f1) > 8 then (virgationref04_Check.j2 k x0 x1 x29 x27 x28 x29 true ((rd_T56 x27 x29).f0) ((rd_T56 x27 x29).f1) ((rd_T56 x27 x29).f2.f0) ((rd_T56 x27 x29).f2.f1) ((rd_T56 x27 x29).f2.f2)) else ((virgationref02_Nodes.f k ((rd_T56 x27 x29).f2.f0) ((rd_T56 x27 x29).f2.f1) ((rd_T56 x27 x29).f2.f2) 400).bind fun t148 => (if t148 > 400 then (virgationref04_Check.j2 k x0 x1 x29 x27 x28 x29 true ((rd_T56 x27 x29).f0) ((rd_T56 x27 x29).f1) ((rd_T56 x27 x29).f2.f0) ((rd_T56 x27 x29).f2.f1) ((rd_T56 x27 x29).f2.f2)) else ((virgationref02_Depth.f k ((rd_T56 x27 x29).f2.f0) ((rd_T56 x27 x29).f2.f1) ((rd_T56 x27 x29).f2.f2)).bind fun t149 => (if t149 > 30 then (virgationref04_Check.j2 k x0 x1 x29 x27 x28 x29 true ((rd_T56 x27 x29).f0) ((rd_T56 x27 x29).f1) ((rd_T56 x27 x29).f2.f0) ((rd_T56 x27 x29).f2.f1) ((rd_T56 x27 x29).f2.f2)) else ((virgationref04_exist.f k ((rd_T56 x27 x29).f2.f0) ((rd_T56 x27 x29).f2.f1) ((rd_T56 x27 x29).f2.f2) ((rd_T56 x27 x29).f1) (x1.length : Int) (x0.length : Int)).bind fun t150 => (virgationref04_Check.j2 k x0 x1 x29 x27 x28 x29 (!t150) ((rd_T56 x27 x29).f0) ((rd_T56 x27 x29).f1) ((rd_T56 x27 x29).f2.f0) ((rd_T56 x27 x29).f2.f1) ((rd_T56 x27 x29).f2.f2))))))))) else (virgationref04_Check.j2 k x0 x1 x29 x27 x28 x29 true ((rd_T56 x27 x29).f0) ((rd_T56 x27 x29).f1) ((rd_T56 x27 x29).f2.f0) ((rd_T56 x27 x29).f2.f1) ((rd_T56 x27 x29).f2.f2)))) else (none)) else (none)) else (some 0)
def virgationref04_Check.j2 : Nat → List (S59) → List (S56) → Int → List (S56) → Int → Int → Bool → ByteArray → Int → Int → Int → List (S44) → Option (Int)
  | 0, _, _, _, _, _, _, _, _, _, _, _, _ => none
  | k + 1, x0, x1, x5, x27, x28, x29, x71, x147000, x147001, x147002, x147003, x147004 => if x71 = true then (some 4) else (if 0 ≤ x5 then (if x5 ≤ (x1.length : Int) then ((some (x1.take (x5 : Int).toNat : List (S56))).bind fun y151 => (virgationref04_Check.l1 k x0 x1 x27 x28 x29 y151 (y151.length : Int) 0 x147000 x147001 x147002 x147003 x147004)) else (none)) else (none))
def virgationref04_Check.l1 : Nat → List (S59) → List (S56) → List (S56) → Int → Int → List (S56) → Int → Int → ByteArray → Int → Int → Int → List (S44) → Option (Int)
  | 0, _, _, _, _, _, _, _, _, _, _, _, _, _ => none
  | k + 1, x0, x1, x27, x28, x29, x74, x75, x76, x147000, x147001, x147002, x147003, x147004 => if x76 < x75 then (if 0 ≤ x76 then (if x76 < (x74.length : Int) then (if x147000.toList = ((rd_T56 x74 x76).f0).toList then (some 4) else (virgationref04_Check.l1 k x0 x1 x27 x28 x29 x74 x75 (wrap64 (x76 + 1)) x147000 x147001 x147002 x147003 x147004)) else (none)) else (none)) else (virgationref04_Check.l0 k x0 x1 x27 x28 (wrap64 (x29 + 1)))
end
def virgationref04_Check.f (k : Nat) (l0 : List (S59)) (l1 : List (S56)) : Option (Int) := (virgationref02_Symbols.f k l0).bind fun t143 => (if t143 = true then (if (l1.length : Int) < 1 then (virgationref04_Check.j0 k l0 l1 true) else (if (l1.length : Int) > 64 then (virgationref04_Check.j0 k l0 l1 true) else (if 0 < (l1.length : Int) then (virgationref04_Check.j0 k l0 l1 (((rd_T56 l1 0).f1) != 0)) else (none)))) else (some 2))
theorem virgationref04_Check.mono_l : ∀ k, (∀ y0 y1 y2, LeO (virgationref04_Check.j0 k y0 y1 y2) (virgationref04_Check.j0 (k + 1) y0 y1 y2)) ∧ (∀ y0 y1 y2 y3 y4, LeO (virgationref04_Check.l0 k y0 y1 y2 y3 y4) (virgationref04_Check.l0 (k + 1) y0 y1 y2 y3 y4)) ∧ (∀ y0 y1 y2 y3 y4 y5 y6 y7 y8 y9 y10 y11, LeO (virgationref04_Check.j2 k y0 y1 y2 y3 y4 y5 y6 y7 y8 y9 y10 y11) (virgationref04_Check.j2 (k + 1) y0 y1 y2 y3 y4 y5 y6 y7 y8 y9 y10 y11)) ∧ (∀ y0 y1 y2 y3 y4 y5 y6 y7 y8 y9 y10 y11 y12, LeO (virgationref04_Check.l1 k y0 y1 y2 y3 y4 y5 y6 y7 y8 y9 y10 y11 y12) (virgationref04_Check.l1 (k + 1) y0 y1 y2 y3 y4 y5 y6 y7 y8 y9 y10 y11 y12))
  | 0 => ⟨fun _ _ _ r h => by simp [virgationref04_Check.j0] at h, fun _ _ _ _ _ r h => by simp [virgationref04_Check.l0] at h, fun _ _ _ _ _ _ _ _ _ _ _ _ r h => by simp [virgationref04_Check.j2] at h, fun _ _ _ _ _ _ _ _ _ _ _ _ _ r h => by simp [virgationref04_Check.l1] at h⟩
  | k + 1 => by
    obtain ⟨ih0, ih1, ih2, ih3⟩ := virgationref04_Check.mono_l k
    refine ⟨?_, ?_, ?_, ?_⟩
    · intro y0 y1 y2
      unfold virgationref04_Check.j0
      repeat' first
      | (with_reducible exact ih0 _ _ _)
      | (with_reducible exact ih1 _ _ _ _ _)
      | (with_reducible exact ih2 _ _ _ _ _ _ _ _ _ _ _ _)
      | (with_reducible exact ih3 _ _ _ _ _ _ _ _ _ _ _ _ _)
      | (with_reducible exact virgationref02_Depth.mono _ _ _ _)
      | (with_reducible exact virgationref02_Name.mono _ _)
      | (with_reducible exact virgationref02_Nodes.mono _ _ _ _ _)
      | (with_reducible exact virgationref02_Symbols.mono _ _)
      | (with_reducible exact virgationref04_exist.mono _ _ _ _ _ _ _)
      | (with_reducible exact LeO.refl _)
      | (with_reducible exact LeO.none _)
      | (with_reducible refine LeO.ite ?_ ?_)
      | (with_reducible refine LeO.bind ?_ (fun _ => ?_))
      | exact ih0 _ _ _
      | exact ih1 _ _ _ _ _
      | exact ih2 _ _ _ _ _ _ _ _ _ _ _ _
      | exact ih3 _ _ _ _ _ _ _ _ _ _ _ _ _
      | exact virgationref02_Depth.mono _ _ _ _
      | exact virgationref02_Name.mono _ _
      | exact virgationref02_Nodes.mono _ _ _ _ _
      | exact virgationref02_Symbols.mono _ _
      | exact virgationref04_exist.mono _ _ _ _ _ _ _
      | exact LeO.none _
      | refine LeO.ite ?_ ?_
      | refine LeO.bind ?_ (fun _ => ?_)
    · intro y0 y1 y2 y3 y4
      unfold virgationref04_Check.l0
      repeat' first
      | (with_reducible exact ih0 _ _ _)
      | (with_reducible exact ih1 _ _ _ _ _)
      | (with_reducible exact ih2 _ _ _ _ _ _ _ _ _ _ _ _)
      | (with_reducible exact ih3 _ _ _ _ _ _ _ _ _ _ _ _ _)
      | (with_reducible exact virgationref02_Depth.mono _ _ _ _)
      | (with_reducible exact virgationref02_Name.mono _ _)
      | (with_reducible exact virgationref02_Nodes.mono _ _ _ _ _)
      | (with_reducible exact virgationref02_Symbols.mono _ _)
      | (with_reducible exact virgationref04_exist.mono _ _ _ _ _ _ _)
      | (with_reducible exact LeO.refl _)
      | (with_reducible exact LeO.none _)
      | (with_reducible refine LeO.ite ?_ ?_)
      | (with_reducible refine LeO.bind ?_ (fun _ => ?_))
      | exact ih0 _ _ _
      | exact ih1 _ _ _ _ _
      | exact ih2 _ _ _ _ _ _ _ _ _ _ _ _
      | exact ih3 _ _ _ _ _ _ _ _ _ _ _ _ _
      | exact virgationref02_Depth.mono _ _ _ _
      | exact virgationref02_Name.mono _ _
      | exact virgationref02_Nodes.mono _ _ _ _ _
      | exact virgationref02_Symbols.mono _ _
      | exact virgationref04_exist.mono _ _ _ _ _ _ _
      | exact LeO.none _
      | refine LeO.ite ?_ ?_
      | refine LeO.bind ?_ (fun _ => ?_)
    · intro y0 y1 y2 y3 y4 y5 y6 y7 y8 y9 y10 y11
      unfold virgationref04_Check.j2
      repeat' first
      | (with_reducible exact ih0 _ _ _)
      | (with_reducible exact ih1 _ _ _ _ _)
      | (with_reducible exact ih2 _ _ _ _ _ _ _ _ _ _ _ _)
      | (with_reducible exact ih3 _ _ _ _ _ _ _ _ _ _ _ _ _)
      | (with_reducible exact virgationref02_Depth.mono _ _ _ _)
      | (with_reducible exact virgationref02_Name.mono _ _)
      | (with_reducible exact virgationref02_Nodes.mono _ _ _ _ _)
      | (with_reducible exact virgationref02_Symbols.mono _ _)
      | (with_reducible exact virgationref04_exist.mono _ _ _ _ _ _ _)
      | (with_reducible exact LeO.refl _)
      | (with_reducible exact LeO.none _)
      | (with_reducible refine LeO.ite ?_ ?_)
      | (with_reducible refine LeO.bind ?_ (fun _ => ?_))
      | exact ih0 _ _ _
      | exact ih1 _ _ _ _ _
      | exact ih2 _ _ _ _ _ _ _ _ _ _ _ _
      | exact ih3 _ _ _ _ _ _ _ _ _ _ _ _ _
      | exact virgationref02_Depth.mono _ _ _ _
      | exact virgationref02_Name.mono _ _
      | exact virgationref02_Nodes.mono _ _ _ _ _
      | exact virgationref02_Symbols.mono _ _
      | exact virgationref04_exist.mono _ _ _ _ _ _ _
      | exact LeO.none _
      | refine LeO.ite ?_ ?_
      | refine LeO.bind ?_ (fun _ => ?_)
    · intro y0 y1 y2 y3 y4 y5 y6 y7 y8 y9 y10 y11 y12
      unfold virgationref04_Check.l1
      repeat' first
      | (with_reducible exact ih0 _ _ _)
      | (with_reducible exact ih1 _ _ _ _ _)
      | (with_reducible exact ih2 _ _ _ _ _ _ _ _ _ _ _ _)
      | (with_reducible exact ih3 _ _ _ _ _ _ _ _ _ _ _ _ _)
      | (with_reducible exact virgationref02_Depth.mono _ _ _ _)
      | (with_reducible exact virgationref02_Name.mono _ _)
      | (with_reducible exact virgationref02_Nodes.mono _ _ _ _ _)
      | (with_reducible exact virgationref02_Symbols.mono _ _)
      | (with_reducible exact virgationref04_exist.mono _ _ _ _ _ _ _)
      | (with_reducible exact LeO.refl _)
      | (with_reducible exact LeO.none _)
      | (with_reducible refine LeO.ite ?_ ?_)
      | (with_reducible refine LeO.bind ?_ (fun _ => ?_))
      | exact ih0 _ _ _
      | exact ih1 _ _ _ _ _
      | exact ih2 _ _ _ _ _ _ _ _ _ _ _ _
      | exact ih3 _ _ _ _ _ _ _ _ _ _ _ _ _
      | exact virgationref02_Depth.mono _ _ _ _
      | exact virgationref02_Name.mono _ _
      | exact virgationref02_Nodes.mono _ _ _ _ _
      | exact virgationref02_Symbols.mono _ _
      | exact virgationref04_exist.mono _ _ _ _ _ _ _
      | exact LeO.none _
      | refine LeO.ite ?_ ?_
      | refine LeO.bind ?_ (fun _ => ?_)
theorem virgationref04_Check.mono : ∀ a0 a1 k, LeO (virgationref04_Check.f k a0 a1) (virgationref04_Check.f (k + 1) a0 a1) := by
  intro a0 a1 k
  obtain ⟨ih0, ih1, ih2, ih3⟩ := virgationref04_Check.mono_l k
  unfold virgationref04_Check.f
  repeat' first
      | (with_reducible exact ih0 _ _ _)
      | (with_reducible exact ih1 _ _ _ _ _)
      | (with_reducible exact ih2 _ _ _ _ _ _ _ _ _ _ _ _)
      | (with_reducible exact ih3 _ _ _ _ _ _ _ _ _ _ _ _ _)
      | (with_reducible exact virgationref02_Depth.mono _ _ _ _)
      | (with_reducible exact virgationref02_Name.mono _ _)
      | (with_reducible exact virgationref02_Nodes.mono _ _ _ _ _)
      | (with_reducible exact virgationref02_Symbols.mono _ _)
      | (with_reducible exact virgationref04_exist.mono _ _ _ _ _ _ _)
      | (with_reducible exact LeO.refl _)
      | (with_reducible exact LeO.none _)
      | (with_reducible refine LeO.ite ?_ ?_)
      | (with_reducible refine LeO.bind ?_ (fun _ => ?_))
      | exact ih0 _ _ _
      | exact ih1 _ _ _ _ _
      | exact ih2 _ _ _ _ _ _ _ _ _ _ _ _
      | exact ih3 _ _ _ _ _ _ _ _ _ _ _ _ _
      | exact virgationref02_Depth.mono _ _ _ _
      | exact virgationref02_Name.mono _ _
      | exact virgationref02_Nodes.mono _ _ _ _ _
      | exact virgationref02_Symbols.mono _ _
      | exact virgationref04_exist.mono _ _ _ _ _ _ _
      | exact LeO.none _
      | refine LeO.ite ?_ ?_
      | refine LeO.bind ?_ (fun _ => ?_)
set_option maxHeartbeats 8000000 in
set_option maxRecDepth 100000 in
theorem virgationref04_Check.calls (k : Nat) (A0 : Option Addr) (c0 : Nat) (l0 : List (S59)) (A1 : Option Addr) (c1 : Nat) (l1 : List (S56)) (r : Int) (w : World) (hr0 : Kd.C k59 w A0 l0.length l0) (hc0 : l0.length ≤ c0) (hr1 : Kd.C k56 w A1 l1.length l1) (hc1 : l1.length ≤ c1) (h : virgationref04_Check.f k l0 l1 = some r) :
    Calls Try.prog 12 #[.slice A0 l0.length c0, .slice A1 l1.length c1] w fun e w' => e = .returned (.int .i64 r) ∧ Below w.heap.size w w' := by
  have hu56 := Try.underlying56
  have hu44 := Try.underlying44
  have HR0 := Aside0.mk hr0
  have HC0 := Aside0.mk hc0
  clear hr0 hc0
  have HR1 := Aside0.mk hr1
  have HC1 := Aside0.mk hc1
  clear hr1 hc1
  have HB := Aside0.mk (Below.refl w.heap.size w)
  have H : ((virgationref02_Symbols.f k l0).bind fun t143 => (if t143 = true then (if (l1.length : Int) < 1 then (virgationref04_Check.j0 k l0 l1 true) else (if (l1.length : Int) > 64 then (virgationref04_Check.j0 k l0 l1 true) else (if 0 < (l1.length : Int) then (virgationref04_Check.j0 k l0 l1 (((rd_T56 l1 0).f1) != 0)) else (none)))) else (some 2))) = some r := h
  clear h
  replace H := Option.bind_eq_some_iff.mp H
  obtain ⟨t143, A30, H⟩ := H
  replace H : (if t143 = true then (if (l1.length : Int) < 1 then (virgationref04_Check.j0 k l0 l1 true) else (if (l1.length : Int) > 64 then (virgationref04_Check.j0 k l0 l1 true) else (if 0 < (l1.length : Int) then (virgationref04_Check.j0 k l0 l1 (((rd_T56 l1 0).f1) != 0)) else (none)))) else (some 2)) = some r := H
  have A3 := Aside0.mk A30
  clear A30
  by_cases c4 : t143 = true
  · subst c4
    have H1 : (if (l1.length : Int) < 1 then (virgationref04_Check.j0 k l0 l1 true) else (if (l1.length : Int) > 64 then (virgationref04_Check.j0 k l0 l1 true) else (if 0 < (l1.length : Int) then (virgationref04_Check.j0 k l0 l1 (((rd_T56 l1 0).f1) != 0)) else (none)))) = some r := by rw [if_pos rfl] at H; exact H
    clear H
    have H := H1
    clear H1
    have HC5 := Aside0.mk H
    clear H
    go_enter Try.func12, Try.ntmps12
    go_upto_region 3 with (first | ((with_reducible refine gate_callee (f := 32) rfl ?_); refine goesL_ (some 10) rfl rfl Try.func32 (by kernel_rfl) rfl #[.slice A0 l0.length c0] rfl (by (try simp only [List.map_toArray, List.map_cons, List.map_nil]); first | done | rfl | (simp only [List.length_drop, List.length_take]; rfl)) ?_; (with_reducible refine (virgationref02_Symbols.calls k _ _ l0 true _ ?side1 ?side2 A3.out).mono ?_); (case side1 => repeat (first | exact HR0.out | (with_reducible refine Kd.C_alloc ?_ _) | (with_reducible refine Kd.C_drewN ?_ _) | (with_reducible refine Kd.C_drew ?_))); (case side2 => exact HC0.out); rintro e w6 ⟨rfl, hb⟩; refine ⟨_, rfl, ?_⟩; have n0_ := Aside0.mk (below_step (by repeat (first | (with_reducible first | exact HB.out | apply below_alloc | apply pw_below_drewN | apply below_drew1) | exact HB.out)) hb); clear HB; have HB := n0_; clear n0_; (try clear hb); (try clear hb2); (try clear hk); (try clear hi)))
    (try simp only [Act.put, List.setIfInBounds_toArray, List.set_cons_zero, List.set_cons_succ])
    go_cut [26] (fun v26 wc => ∃ (kq : Nat) (x26_4 : Bool), v26 = .bool x26_4 ∧ Aside0 (virgationref04_Check.j0 kq l0 l1 x26_4 = some r) ∧ Aside0 (kq ≤ k) ∧ Aside0 (Below w.heap.size w wc))
    case first =>
      have H := HC5.out
      clear HC5
      by_cases c7 : (l1.length : Int) < 1
      · rw [if_pos c7] at H
        have c7b0 : decide ((l1.length : Int) < 1) = true := decide_eq_true c7
        have c7b1 : decide (l1.length < 1) = true := decide_eq_true (by omega)
        clear c7
        (first | rw [c7b0] | (simp only [i64_w, i32_w]; rw [c7b0]) | skip)
        have H' := Aside0.mk H
        clear H
        go_wp2
        go_meet
        case rel => exact ⟨_, (true), (by first | rfl | (simp; done) | (simp [*]; done)), H', ⟨by first | omega | exact Nat.le_refl _⟩, ⟨by repeat (first | (with_reducible first | exact HB.out | apply below_alloc | apply pw_below_drewN | apply below_drew1) | exact HB.out)⟩⟩
      · rw [if_neg c7] at H
        have c7b0 : decide ((l1.length : Int) < 1) = false := decide_eq_false c7
        have c7b1 : decide (l1.length < 1) = false := decide_eq_false (by omega)
        clear c7
        (first | rw [c7b0] | (simp only [i64_w, i32_w]; rw [c7b0]) | skip)
        by_cases c8 : (l1.length : Int) > 64
        · rw [if_pos c8] at H
          have c8b0 : decide (64 < (l1.length : Int)) = true := decide_eq_true c8
          have c8b1 : decide (64 < l1.length) = true := decide_eq_true (by omega)
          clear c8
          have H' := Aside0.mk H
          clear H
          go_wp2
          go_meet
          case rel => exact ⟨_, (true), (by first | rfl | (simp; done) | (simp [*]; done)), H', ⟨by first | omega | exact Nat.le_refl _⟩, ⟨by repeat (first | (with_reducible first | exact HB.out | apply below_alloc | apply pw_below_drewN | apply below_drew1) | exact HB.out)⟩⟩
        · rw [if_neg c8] at H
          have c8b0 : decide (64 < (l1.length : Int)) = false := decide_eq_false c8
          have c8b1 : decide (64 < l1.length) = false := decide_eq_false (by omega)
          clear c8
          by_cases c9 : 0 < (l1.length : Int)
          · rw [if_pos c9] at H
            have c9b0 : decide (0 < (l1.length : Int)) = true := decide_eq_true c9
            have c9b1 : decide (0 < l1.length) = true := decide_eq_true (by omega)
            clear c9
            have H' := Aside0.mk H
            clear H
            have p144 : 0 ≤ (0 : Int) := (by omega)
            have q144 : 0 < (l1.length : Int) := of_decide_eq_true (by first | (with_reducible assumption) | assumption)
            obtain ⟨ad144, A144_4, c144_4, e144, hx144_0, hx144_1, hx144_2, hx144_3, hx144_4, hl144_4, hi144_4⟩ := at_T56 HR1.out 0 p144 q144
            cases e144
            have qi144 : (0 < l1.length) = True := eq_true (by omega)
            (try rw [show ((0 : Int)).toNat = 0 from rfl] at hx144_0)
            (try rw [show 0 * 5 = 0 from rfl] at hx144_0)
            (try rw [Addr.add_zero'] at hx144_0)
            (try rw [show ((0 : Int)).toNat = 0 from rfl] at hx144_1)
            (try rw [show 0 * 5 = 0 from rfl] at hx144_1)
            (try rw [Addr.add_zero'] at hx144_1)
            (try rw [show ((0 : Int)).toNat = 0 from rfl] at hx144_2)
            (try rw [show 0 * 5 = 0 from rfl] at hx144_2)
            (try rw [Addr.add_zero'] at hx144_2)
            (try rw [show ((0 : Int)).toNat = 0 from rfl] at hx144_3)
            (try rw [show 0 * 5 = 0 from rfl] at hx144_3)
            (try rw [Addr.add_zero'] at hx144_3)
            (try rw [show ((0 : Int)).toNat = 0 from rfl] at hx144_4)
            (try rw [show 0 * 5 = 0 from rfl] at hx144_4)
            (try rw [Addr.add_zero'] at hx144_4)
            replace hx144_0 := (HB.out.cell (World.block_lt_of_cell? w _ hx144_0)).trans hx144_0
            replace hx144_1 := (HB.out.cell (World.block_lt_of_cell? w _ hx144_1)).trans hx144_1
            replace hx144_2 := (HB.out.cell (World.block_lt_of_cell? w _ hx144_2)).trans hx144_2
            replace hx144_3 := (HB.out.cell (World.block_lt_of_cell? w _ hx144_3)).trans hx144_3
            replace hx144_4 := (HB.out.cell (World.block_lt_of_cell? w _ hx144_4)).trans hx144_4
            have HR144_4 := Aside0.mk hi144_4
            have HC144_4 := Aside0.mk hl144_4
            clear hi144_4 hl144_4
            replace p144 := eq_true p144
            replace q144 := eq_true q144
            go_wp2
            go_meet
            case rel => exact ⟨_, ((((rd_T56 l1 0).f1) != 0)), (by first | rfl | (simp; done) | (simp [*]; done)), H', ⟨by first | omega | exact Nat.le_refl _⟩, ⟨by repeat (first | (with_reducible first | exact HB.out | apply below_alloc | apply pw_below_drewN | apply below_drew1) | exact HB.out)⟩⟩
          · rw [if_neg c9] at H
            exact absurd H (by simp)
    case rest =>
      clear HC5
      try clear c1
      try clear p1
      try clear q1
      try clear hx1
      try clear qi1
      try clear p2
      try clear c3
      try clear c4
      try clear c7
      try clear c7b0
      try clear c7b1
      try clear c8
      try clear c8b0
      try clear c8b1
      try clear c9
      try clear c9b0
      try clear c9b1
      try clear hx144_0
      try clear hx144_1
      try clear hx144_2
      try clear hx144_3
      try clear hx144_4
      try clear p144
      try clear q144
      obtain ⟨kq, x26_4, rfl, HA, HJ4, HB⟩ := hcut
      cases kq with
      | zero => exact absurd HA.out (by simp [virgationref04_Check.j0])
      | succ kj4 =>
        have H := HA.out
        clear HA
        simp only [virgationref04_Check.j0] at H
        by_cases c10 : x26_4 = true
        · subst c10
          have H1 : (some 4) = some r := by rw [if_pos rfl] at H; exact H
          clear H
          have H := H1
          clear H1
          obtain rfl := Option.some.inj H
          go_wp2
          go_ret
          exact ⟨by first | rfl | (simp [errW_none, errW_some] <;> rfl) | (simp [*, errW_none, errW_some] <;> rfl), by repeat (first | (with_reducible first | exact HB.out | apply below_alloc | apply pw_below_drewN | apply below_drew1) | exact HB.out)⟩
        · replace c10 := Bool.eq_false_iff.mpr c10
          subst c10
          have H1 : (virgationref04_Check.l0 kj4 l0 l1 l1 (l1.length : Int) 0) = some r := by rw [if_neg (show ¬ (false = true) by decide)] at H; exact H
          clear H
          have H := H1
          clear H1
          have H' := Aside0.mk H
          clear H
          go_wp2
          go_loopg [29] kj4 (fun kq v29 w' => ∃ (x29_2 : Int), v29 = .int .i64 x29_2 ∧ Aside0 (virgationref04_Check.l0 kq l0 l1 l1 (l1.length : Int) x29_2 = some r) ∧ Aside0 (kq ≤ kj4) ∧ Aside0 (Below w.heap.size w w'))
          case atStart => exact ⟨(0), (by first | rfl | (simp; done) | (simp [*]; done)), H', ⟨Nat.le_refl _⟩, ⟨by repeat (first | (with_reducible first | exact HB.out | apply below_alloc | apply pw_below_drewN | apply below_drew1) | exact HB.out)⟩⟩
          case round =>
            clear H'
            try clear c1
            try clear p1
            try clear q1
            try clear hx1
            try clear qi1
            try clear p2
            try clear c3
            try clear c4
            try clear c7
            try clear c7b0
            try clear c7b1
            try clear c8
            try clear c8b0
            try clear c8b1
            try clear c9
            try clear c9b0
            try clear c9b1
            try clear c10
            try clear hx144_0
            try clear hx144_1
            try clear hx144_2
            try clear hx144_3
            try clear hx144_4
            try clear p1
            try clear p144
            try clear p2
            try clear q1
            try clear q144
            obtain ⟨x29_2, rfl, HA, HK2, HB⟩ := hrel
            cases gk with
            | zero => exact absurd HA.out (by simp [virgationref04_Check.l0])
            | succ k2 =>
              have H := HA.out
              clear HA
              simp only [virgationref04_Check.l0] at H
              by_cases c11 : x29_2 < (l1.length : Int)
              · rw [if_pos c11] at H
                have c11b0 : decide (x29_2 < (l1.length : Int)) = true := decide_eq_true c11
                clear c11
                by_cases c12 : 0 ≤ x29_2
                · rw [if_pos c12] at H
                  have c12b0 : decide (0 ≤ x29_2) = true := decide_eq_true c12
                  clear c12
                  by_cases c13 : x29_2 < (l1.length : Int)
                  · rw [if_pos c13] at H
                    have c13b0 : decide (x29_2 < (l1.length : Int)) = true := decide_eq_true c13
                    clear c13
                    have HC14 := Aside0.mk H
                    clear H
                    have p145 : 0 ≤ (x29_2 : Int) := of_decide_eq_true (by first | (with_reducible assumption) | assumption)
                    have q145 : x29_2 < (l1.length : Int) := of_decide_eq_true (by first | (with_reducible assumption) | assumption)
                    obtain ⟨ad145, A145_4, c145_4, e145, hx145_0, hx145_1, hx145_2, hx145_3, hx145_4, hl145_4, hi145_4⟩ := at_T56 HR1.out x29_2 p145 q145
                    cases e145
                    replace hx145_0 := (HB.out.cell (World.block_lt_of_cell? w _ hx145_0)).trans hx145_0
                    replace hx145_1 := (HB.out.cell (World.block_lt_of_cell? w _ hx145_1)).trans hx145_1
                    replace hx145_2 := (HB.out.cell (World.block_lt_of_cell? w _ hx145_2)).trans hx145_2
                    replace hx145_3 := (HB.out.cell (World.block_lt_of_cell? w _ hx145_3)).trans hx145_3
                    replace hx145_4 := (HB.out.cell (World.block_lt_of_cell? w _ hx145_4)).trans hx145_4
                    have HR145_4 := Aside0.mk hi145_4
                    have HC145_4 := Aside0.mk hl145_4
                    clear hi145_4 hl145_4
                    replace p145 := eq_true p145
                    replace q145 := eq_true q145
                    go_upto_region 8 with (first | ((with_reducible refine gate_dst (N := 6) rfl ?_); (try (refine gate_guard (by rfl) ?_; dsimp only)); refine box_event ?hg (N := 6) ?hd (cs := #[.string (⟨#[]⟩ : ByteArray), .int .i64 0, .int .i64 0, .int .i64 0, .slice none 0 0]) (t := 56) ?hr ?_; (case hd => rfl); (case hg => rfl); (case hr => first | (go_simp; done) | (go_simp; rfl)); intro gb146 hg w15 hbox hb; have n0_ := Aside0.mk (below_step (by repeat (first | (with_reducible first | exact HB.out | apply below_alloc | apply pw_below_drewN | apply below_drew1) | exact HB.out)) hb); have n1_ := Aside0.mk (hbox); have n2_ := Aside0.mk ((by rw [hg]; exact (below_size (by repeat (first | (with_reducible first | exact HB.out | apply below_alloc | apply pw_below_drewN | apply below_drew1) | exact HB.out))) : w.heap.size ≤ gb146)); have n3_ := Aside0.mk ((by rw [hg]; exact (below_size (by repeat (first | (with_reducible first | exact HB.out | apply below_alloc | apply pw_below_drewN | apply below_drew1) | exact HB.out))) : w.heap.size ≤ gb146)); clear HB; have HB := n0_; have BK146 := n1_; have GW146 := n2_; have GE146 := n3_; clear n0_ n1_ n2_ n3_; clear hb hbox hg; have hcz16_0 : w15.cell? ⟨gb146, 0, none⟩ = some (.string (⟨#[]⟩ : ByteArray)) := (blk_cell BK146.out 0).trans rfl; have hcz16_1 : w15.cell? ⟨gb146, 1, none⟩ = some (.int .i64 0) := (blk_cell BK146.out 1).trans rfl; have hcz16_2 : w15.cell? ⟨gb146, 2, none⟩ = some (.int .i64 0) := (blk_cell BK146.out 2).trans rfl; have hcz16_3 : w15.cell? ⟨gb146, 3, none⟩ = some (.int .i64 0) := (blk_cell BK146.out 3).trans rfl; have hcz16_4 : w15.cell? ⟨gb146, 4, none⟩ = some (.slice none 0 0) := (blk_cell BK146.out 4).trans rfl; have hfz16_0 := blk_frozen BK146.out 0; have hfz16_1 := blk_frozen BK146.out 1; have hfz16_2 := blk_frozen BK146.out 2; have hfz16_3 := blk_frozen BK146.out 3; have hfz16_4 := blk_frozen BK146.out 4))
                    (try simp only [Act.put, List.setIfInBounds_toArray, List.set_cons_zero, List.set_cons_succ])
                    go_cut [71] (fun v71 wc => ∃ (kq : Nat) (x71_13 : Bool), v71 = .bool x71_13 ∧ Aside0 (virgationref04_Check.j2 kq l0 l1 x29_2 l1 (l1.length : Int) x29_2 x71_13 ((rd_T56 l1 x29_2).f0) ((rd_T56 l1 x29_2).f1) ((rd_T56 l1 x29_2).f2.f0) ((rd_T56 l1 x29_2).f2.f1) ((rd_T56 l1 x29_2).f2.f2) = some r) ∧ Aside0 (kq ≤ k2) ∧ Aside0 (wc.heap[gb146]? = some (.cells #[.string ((rd_T56 l1 x29_2).f0), .int .i64 ((rd_T56 l1 x29_2).f1), .int .i64 ((rd_T56 l1 x29_2).f2.f0), .int .i64 ((rd_T56 l1 x29_2).f2.f1), (.slice A145_4 ((rd_T56 l1 x29_2).f2.f2).length c145_4)] 56 (0, 0))) ∧ Aside0 (Below w.heap.size w wc))
                    case first =>
                      have H := HC14.out
                      clear HC14
                      replace H := Option.bind_eq_some_iff.mp H
                      obtain ⟨t147, A170, H⟩ := H
                      replace H : (if t147 = true then (if ((rd_T56 l1 x29_2).f1) < 0 then (virgationref04_Check.j2 k2 l0 l1 x29_2 l1 (l1.length : Int) x29_2 true ((rd_T56 l1 x29_2).f0) ((rd_T56 l1 x29_2).f1) ((rd_T56 l1 x29_2).f2.f0) ((rd_T56 l1 x29_2).f2.f1) ((rd_T56 l1 x29_2).f2.f2)) else (if ((rd_T56 l1 x29_2).f1) > 8 then (virgationref04_Check.j2 k2 l0 l1 x29_2 l1 (l1.length : Int) x29_2 true ((rd_T56 l1 x29_2).f0) ((rd_T56 l1 x29_2).f1) ((rd_T56 l1 x29_2).f2.f0) ((rd_T56 l1 x29_2).f2.f1) ((rd_T56 l1 x29_2).f2.f2)) else ((virgationref02_Nodes.f k2 ((rd_T56 l1 x29_2).f2.f0) ((rd_T56 l1 x29_2).f2.f1) ((rd_T56 l1 x29_2).f2.f2) 400).bind fun t148 => (if t148 > 400 then (virgationref04_Check.j2 k2 l0 l1 x29_2 l1 (l1.length : Int) x29_2 true ((rd_T56 l1 x29_2).f0) ((rd_T56 l1 x29_2).f1) ((rd_T56 l1 x29_2).f2.f0) ((rd_T56 l1 x29_2).f2.f1) ((rd_T56 l1 x29_2).f2.f2)) else ((virgationref02_Depth.f k2 ((rd_T56 l1 x29_2).f2.f0) ((rd_T56 l1 x29_2).f2.f1) ((rd_T56 l1 x29_2).f2.f2)).bind fun t149 => (if t149 > 30 then (virgationref04_Check.j2 k2 l0 l1 x29_2 l1 (l1.length : Int) x29_2 true ((rd_T56 l1 x29_2).f0) ((rd_T56 l1 x29_2).f1) ((rd_T56 l1 x29_2).f2.f0) ((rd_T56 l1 x29_2).f2.f1) ((rd_T56 l1 x29_2).f2.f2)) else ((virgationref04_exist.f k2 ((rd_T56 l1 x29_2).f2.f0) ((rd_T56 l1 x29_2).f2.f1) ((rd_T56 l1 x29_2).f2.f2) ((rd_T56 l1 x29_2).f1) (l1.length : Int) (l0.length : Int)).bind fun t150 => (virgationref04_Check.j2 k2 l0 l1 x29_2 l1 (l1.length : Int) x29_2 (!t150) ((rd_T56 l1 x29_2).f0) ((rd_T56 l1 x29_2).f1) ((rd_T56 l1 x29_2).f2.f0) ((rd_T56 l1 x29_2).f2.f1) ((rd_T56 l1 x29_2).f2.f2))))))))) else (virgationref04_Check.j2 k2 l0 l1 x29_2 l1 (l1.length : Int) x29_2 true ((rd_T56 l1 x29_2).f0) ((rd_T56 l1 x29_2).f1) ((rd_T56 l1 x29_2).f2.f0) ((rd_T56 l1 x29_2).f2.f1) ((rd_T56 l1 x29_2).f2.f2))) = some r := H
                      have A17 := Aside0.mk A170
                      clear A170
                      by_cases c18 : t147 = true
                      · subst c18
                        have H1 : (if ((rd_T56 l1 x29_2).f1) < 0 then (virgationref04_Check.j2 k2 l0 l1 x29_2 l1 (l1.length : Int) x29_2 true ((rd_T56 l1 x29_2).f0) ((rd_T56 l1 x29_2).f1) ((rd_T56 l1 x29_2).f2.f0) ((rd_T56 l1 x29_2).f2.f1) ((rd_T56 l1 x29_2).f2.f2)) else (if ((rd_T56 l1 x29_2).f1) > 8 then (virgationref04_Check.j2 k2 l0 l1 x29_2 l1 (l1.length : Int) x29_2 true ((rd_T56 l1 x29_2).f0) ((rd_T56 l1 x29_2).f1) ((rd_T56 l1 x29_2).f2.f0) ((rd_T56 l1 x29_2).f2.f1) ((rd_T56 l1 x29_2).f2.f2)) else ((virgationref02_Nodes.f k2 ((rd_T56 l1 x29_2).f2.f0) ((rd_T56 l1 x29_2).f2.f1) ((rd_T56 l1 x29_2).f2.f2) 400).bind fun t148 => (if t148 > 400 then (virgationref04_Check.j2 k2 l0 l1 x29_2 l1 (l1.length : Int) x29_2 true ((rd_T56 l1 x29_2).f0) ((rd_T56 l1 x29_2).f1) ((rd_T56 l1 x29_2).f2.f0) ((rd_T56 l1 x29_2).f2.f1) ((rd_T56 l1 x29_2).f2.f2)) else ((virgationref02_Depth.f k2 ((rd_T56 l1 x29_2).f2.f0) ((rd_T56 l1 x29_2).f2.f1) ((rd_T56 l1 x29_2).f2.f2)).bind fun t149 => (if t149 > 30 then (virgationref04_Check.j2 k2 l0 l1 x29_2 l1 (l1.length : Int) x29_2 true ((rd_T56 l1 x29_2).f0) ((rd_T56 l1 x29_2).f1) ((rd_T56 l1 x29_2).f2.f0) ((rd_T56 l1 x29_2).f2.f1) ((rd_T56 l1 x29_2).f2.f2)) else ((virgationref04_exist.f k2 ((rd_T56 l1 x29_2).f2.f0) ((rd_T56 l1 x29_2).f2.f1) ((rd_T56 l1 x29_2).f2.f2) ((rd_T56 l1 x29_2).f1) (l1.length : Int) (l0.length : Int)).bind fun t150 => (virgationref04_Check.j2 k2 l0 l1 x29_2 l1 (l1.length : Int) x29_2 (!t150) ((rd_T56 l1 x29_2).f0) ((rd_T56 l1 x29_2).f1) ((rd_T56 l1 x29_2).f2.f0) ((rd_T56 l1 x29_2).f2.f1) ((rd_T56 l1 x29_2).f2.f2))))))))) = some r := by rw [if_pos rfl] at H; exact H
                        clear H
                        have H := H1
                        clear H1
                        by_cases c19 : ((rd_T56 l1 x29_2).f1) < 0
                        · rw [if_pos c19] at H
                          have c19b0 : decide (((rd_T56 l1 x29_2).f1) < 0) = true := decide_eq_true c19
                          clear c19
                          (first | rw [c19b0] | (simp only [i64_w, i32_w]; rw [c19b0]) | skip)
                          have H' := Aside0.mk H
                          clear H
                          have hcz20_0 : w15.cell? ⟨gb146, 0, none⟩ = some (.string (⟨#[]⟩ : ByteArray)) := (blk_cell BK146.out 0).trans rfl
                          have hcz20_1 : w15.cell? ⟨gb146, 1, none⟩ = some (.int .i64 0) := (blk_cell BK146.out 1).trans rfl
                          have hcz20_2 : w15.cell? ⟨gb146, 2, none⟩ = some (.int .i64 0) := (blk_cell BK146.out 2).trans rfl
                          have hcz20_3 : w15.cell? ⟨gb146, 3, none⟩ = some (.int .i64 0) := (blk_cell BK146.out 3).trans rfl
                          have hcz20_4 : w15.cell? ⟨gb146, 4, none⟩ = some (.slice none 0 0) := (blk_cell BK146.out 4).trans rfl
                          have hfz20_0 := blk_frozen BK146.out 0
                          have hfz20_1 := blk_frozen BK146.out 1
                          have hfz20_2 := blk_frozen BK146.out 2
                          have hfz20_3 := blk_frozen BK146.out 3
                          have hfz20_4 := blk_frozen BK146.out 4
                          go_wp2_with (first | ((with_reducible refine gate_callee (f := 33) rfl ?_); refine goesL_ (some 36) rfl rfl Try.func33 (by kernel_rfl) rfl #[.string ((rd_T56 l1 x29_2).f0)] rfl (by (try simp only [List.map_toArray, List.map_cons, List.map_nil]); first | done | rfl | (simp only [List.length_drop, List.length_take]; rfl)) ?_; (with_reducible refine (virgationref02_Name.calls k2 ((rd_T56 l1 x29_2).f0) true _ A17.out).mono ?_); rintro e w' ⟨rfl, ⟨nd, rfl⟩⟩; refine ⟨_, rfl, ?_⟩))
                          go_meet
                          case rel => exact ⟨_, (true), (by first | rfl | (simp; done) | (simp [*]; done)), H', ⟨by have := HJ4.out; have := HK2.out; first | omega | exact Nat.le_refl _⟩, ⟨by (with_reducible repeat (first | refine blk_drewN ?_ _ | refine blk_drew ?_ | refine blk_alloc ?_ _)); refine blk_put (cs := #[.string ((rd_T56 l1 x29_2).f0), .int .i64 ((rd_T56 l1 x29_2).f1), .int .i64 ((rd_T56 l1 x29_2).f2.f0), .int .i64 ((rd_T56 l1 x29_2).f2.f1), .slice none 0 0]) ?_ 4 _ rfl; (with_reducible repeat (first | refine blk_drewN ?_ _ | refine blk_drew ?_ | refine blk_alloc ?_ _)); refine blk_put (cs := #[.string ((rd_T56 l1 x29_2).f0), .int .i64 ((rd_T56 l1 x29_2).f1), .int .i64 ((rd_T56 l1 x29_2).f2.f0), .int .i64 0, .slice none 0 0]) ?_ 3 _ rfl; (with_reducible repeat (first | refine blk_drewN ?_ _ | refine blk_drew ?_ | refine blk_alloc ?_ _)); refine blk_put (cs := #[.string ((rd_T56 l1 x29_2).f0), .int .i64 ((rd_T56 l1 x29_2).f1), .int .i64 0, .int .i64 0, .slice none 0 0]) ?_ 2 _ rfl; (with_reducible repeat (first | refine blk_drewN ?_ _ | refine blk_drew ?_ | refine blk_alloc ?_ _)); refine blk_put (cs := #[.string ((rd_T56 l1 x29_2).f0), .int .i64 0, .int .i64 0, .int .i64 0, .slice none 0 0]) ?_ 1 _ rfl; (with_reducible repeat (first | refine blk_drewN ?_ _ | refine blk_drew ?_ | refine blk_alloc ?_ _)); refine blk_put (cs := #[.string (⟨#[]⟩ : ByteArray), .int .i64 0, .int .i64 0, .int .i64 0, .slice none 0 0]) ?_ 0 _ rfl; (with_reducible repeat (first | refine blk_drewN ?_ _ | refine blk_drew ?_ | refine blk_alloc ?_ _)); exact BK146.out⟩, ⟨by repeat (first | (with_reducible first | exact HB.out | apply below_alloc | apply pw_below_drewN | apply below_drew1 | refine below_set ?_ GE146.out) | exact HB.out)⟩⟩
                        · rw [if_neg c19] at H
                          have c19b0 : decide (((rd_T56 l1 x29_2).f1) < 0) = false := decide_eq_false c19
                          clear c19
                          (first | rw [c19b0] | (simp only [i64_w, i32_w]; rw [c19b0]) | skip)
                          by_cases c21 : ((rd_T56 l1 x29_2).f1) > 8
                          · rw [if_pos c21] at H
                            have c21b0 : decide (8 < ((rd_T56 l1 x29_2).f1)) = true := decide_eq_true c21
                            clear c21
                            have H' := Aside0.mk H
                            clear H
                            have hcz22_0 : w15.cell? ⟨gb146, 0, none⟩ = some (.string (⟨#[]⟩ : ByteArray)) := (blk_cell BK146.out 0).trans rfl
                            have hcz22_1 : w15.cell? ⟨gb146, 1, none⟩ = some (.int .i64 0) := (blk_cell BK146.out 1).trans rfl
                            have hcz22_2 : w15.cell? ⟨gb146, 2, none⟩ = some (.int .i64 0) := (blk_cell BK146.out 2).trans rfl
                            have hcz22_3 : w15.cell? ⟨gb146, 3, none⟩ = some (.int .i64 0) := (blk_cell BK146.out 3).trans rfl
                            have hcz22_4 : w15.cell? ⟨gb146, 4, none⟩ = some (.slice none 0 0) := (blk_cell BK146.out 4).trans rfl
                            have hfz22_0 := blk_frozen BK146.out 0
                            have hfz22_1 := blk_frozen BK146.out 1
                            have hfz22_2 := blk_frozen BK146.out 2
                            have hfz22_3 := blk_frozen BK146.out 3
                            have hfz22_4 := blk_frozen BK146.out 4
                            go_wp2_with (first | ((with_reducible refine gate_callee (f := 33) rfl ?_); refine goesL_ (some 36) rfl rfl Try.func33 (by kernel_rfl) rfl #[.string ((rd_T56 l1 x29_2).f0)] rfl (by (try simp only [List.map_toArray, List.map_cons, List.map_nil]); first | done | rfl | (simp only [List.length_drop, List.length_take]; rfl)) ?_; (with_reducible refine (virgationref02_Name.calls k2 ((rd_T56 l1 x29_2).f0) true _ A17.out).mono ?_); rintro e w' ⟨rfl, ⟨nd, rfl⟩⟩; refine ⟨_, rfl, ?_⟩))
                            go_meet
                            case rel => exact ⟨_, (true), (by first | rfl | (simp; done) | (simp [*]; done)), H', ⟨by have := HJ4.out; have := HK2.out; first | omega | exact Nat.le_refl _⟩, ⟨by (with_reducible repeat (first | refine blk_drewN ?_ _ | refine blk_drew ?_ | refine blk_alloc ?_ _)); refine blk_put (cs := #[.string ((rd_T56 l1 x29_2).f0), .int .i64 ((rd_T56 l1 x29_2).f1), .int .i64 ((rd_T56 l1 x29_2).f2.f0), .int .i64 ((rd_T56 l1 x29_2).f2.f1), .slice none 0 0]) ?_ 4 _ rfl; (with_reducible repeat (first | refine blk_drewN ?_ _ | refine blk_drew ?_ | refine blk_alloc ?_ _)); refine blk_put (cs := #[.string ((rd_T56 l1 x29_2).f0), .int .i64 ((rd_T56 l1 x29_2).f1), .int .i64 ((rd_T56 l1 x29_2).f2.f0), .int .i64 0, .slice none 0 0]) ?_ 3 _ rfl; (with_reducible repeat (first | refine blk_drewN ?_ _ | refine blk_drew ?_ | refine blk_alloc ?_ _)); refine blk_put (cs := #[.string ((rd_T56 l1 x29_2).f0), .int .i64 ((rd_T56 l1 x29_2).f1), .int .i64 0, .int .i64 0, .slice none 0 0]) ?_ 2 _ rfl; (with_reducible repeat (first | refine blk_drewN ?_ _ | refine blk_drew ?_ | refine blk_alloc ?_ _)); refine blk_put (cs := #[.string ((rd_T56 l1 x29_2).f0), .int .i64 0, .int .i64 0, .int .i64 0, .slice none 0 0]) ?_ 1 _ rfl; (with_reducible repeat (first | refine blk_drewN ?_ _ | refine blk_drew ?_ | refine blk_alloc ?_ _)); refine blk_put (cs := #[.string (⟨#[]⟩ : ByteArray), .int .i64 0, .int .i64 0, .int .i64 0, .slice none 0 0]) ?_ 0 _ rfl; (with_reducible repeat (first | refine blk_drewN ?_ _ | refine blk_drew ?_ | refine blk_alloc ?_ _)); exact BK146.out⟩, ⟨by repeat (first | (with_reducible first | exact HB.out | apply below_alloc | apply pw_below_drewN | apply below_drew1 | refine below_set ?_ GE146.out) | exact HB.out)⟩⟩
                          · rw [if_neg c21] at H
                            have c21b0 : decide (8 < ((rd_T56 l1 x29_2).f1)) = false := decide_eq_false c21
                            clear c21
                            replace H := Option.bind_eq_some_iff.mp H
                            obtain ⟨t148, A230, H⟩ := H
                            replace H : (if t148 > 400 then (virgationref04_Check.j2 k2 l0 l1 x29_2 l1 (l1.length : Int) x29_2 true ((rd_T56 l1 x29_2).f0) ((rd_T56 l1 x29_2).f1) ((rd_T56 l1 x29_2).f2.f0) ((rd_T56 l1 x29_2).f2.f1) ((rd_T56 l1 x29_2).f2.f2)) else ((virgationref02_Depth.f k2 ((rd_T56 l1 x29_2).f2.f0) ((rd_T56 l1 x29_2).f2.f1) ((rd_T56 l1 x29_2).f2.f2)).bind fun t149 => (if t149 > 30 then (virgationref04_Check.j2 k2 l0 l1 x29_2 l1 (l1.length : Int) x29_2 true ((rd_T56 l1 x29_2).f0) ((rd_T56 l1 x29_2).f1) ((rd_T56 l1 x29_2).f2.f0) ((rd_T56 l1 x29_2).f2.f1) ((rd_T56 l1 x29_2).f2.f2)) else ((virgationref04_exist.f k2 ((rd_T56 l1 x29_2).f2.f0) ((rd_T56 l1 x29_2).f2.f1) ((rd_T56 l1 x29_2).f2.f2) ((rd_T56 l1 x29_2).f1) (l1.length : Int) (l0.length : Int)).bind fun t150 => (virgationref04_Check.j2 k2 l0 l1 x29_2 l1 (l1.length : Int) x29_2 (!t150) ((rd_T56 l1 x29_2).f0) ((rd_T56 l1 x29_2).f1) ((rd_T56 l1 x29_2).f2.f0) ((rd_T56 l1 x29_2).f2.f1) ((rd_T56 l1 x29_2).f2.f2)))))) = some r := H
                            have A23 := Aside0.mk A230
                            clear A230
                            by_cases c24 : t148 > 400
                            · rw [if_pos c24] at H
                              have c24b0 : decide (400 < t148) = true := decide_eq_true c24
                              clear c24
                              have H' := Aside0.mk H
                              clear H
                              have hcz25_0 : w15.cell? ⟨gb146, 0, none⟩ = some (.string (⟨#[]⟩ : ByteArray)) := (blk_cell BK146.out 0).trans rfl
                              have hcz25_1 : w15.cell? ⟨gb146, 1, none⟩ = some (.int .i64 0) := (blk_cell BK146.out 1).trans rfl
                              have hcz25_2 : w15.cell? ⟨gb146, 2, none⟩ = some (.int .i64 0) := (blk_cell BK146.out 2).trans rfl
                              have hcz25_3 : w15.cell? ⟨gb146, 3, none⟩ = some (.int .i64 0) := (blk_cell BK146.out 3).trans rfl
                              have hcz25_4 : w15.cell? ⟨gb146, 4, none⟩ = some (.slice none 0 0) := (blk_cell BK146.out 4).trans rfl
                              have hfz25_0 := blk_frozen BK146.out 0
                              have hfz25_1 := blk_frozen BK146.out 1
                              have hfz25_2 := blk_frozen BK146.out 2
                              have hfz25_3 := blk_frozen BK146.out 3
                              have hfz25_4 := blk_frozen BK146.out 4
                              go_wp2_with (first | ((with_reducible refine gate_callee (f := 33) rfl ?_); refine goesL_ (some 36) rfl rfl Try.func33 (by kernel_rfl) rfl #[.string ((rd_T56 l1 x29_2).f0)] rfl (by (try simp only [List.map_toArray, List.map_cons, List.map_nil]); first | done | rfl | (simp only [List.length_drop, List.length_take]; rfl)) ?_; (with_reducible refine (virgationref02_Name.calls k2 ((rd_T56 l1 x29_2).f0) true _ A17.out).mono ?_); rintro e w' ⟨rfl, ⟨nd, rfl⟩⟩; refine ⟨_, rfl, ?_⟩) | (go_at_call 34; (with_reducible refine (virgationref02_Nodes.calls k2 ((rd_T56 l1 x29_2).f2.f0) ((rd_T56 l1 x29_2).f2.f1) _ _ ((rd_T56 l1 x29_2).f2.f2) 400 t148 _ ?side1 ?side2 A23.out).mono ?_); (case side1 => exact Kd.C_below HR145_4.out (by repeat (first | (with_reducible first | exact HB.out | apply below_alloc | apply pw_below_drewN | apply below_drew1 | refine below_set ?_ GE146.out) | exact HB.out))); (case side2 => exact HC145_4.out); rintro e w26 ⟨rfl, hb⟩; have n0_ := Aside0.mk (blk_below (g := gb146) (o := .cells #[.string ((rd_T56 l1 x29_2).f0), .int .i64 ((rd_T56 l1 x29_2).f1), .int .i64 ((rd_T56 l1 x29_2).f2.f0), .int .i64 ((rd_T56 l1 x29_2).f2.f1), .slice A145_4 ((rd_T56 l1 x29_2).f2.f2).length c145_4] 56 (0, 0)) (by (with_reducible repeat (first | refine blk_drewN ?_ _ | refine blk_drew ?_ | refine blk_alloc ?_ _)); refine blk_put (cs := #[.string ((rd_T56 l1 x29_2).f0), .int .i64 ((rd_T56 l1 x29_2).f1), .int .i64 ((rd_T56 l1 x29_2).f2.f0), .int .i64 ((rd_T56 l1 x29_2).f2.f1), .slice none 0 0]) ?_ 4 _ rfl; (with_reducible repeat (first | refine blk_drewN ?_ _ | refine blk_drew ?_ | refine blk_alloc ?_ _)); refine blk_put (cs := #[.string ((rd_T56 l1 x29_2).f0), .int .i64 ((rd_T56 l1 x29_2).f1), .int .i64 ((rd_T56 l1 x29_2).f2.f0), .int .i64 0, .slice none 0 0]) ?_ 3 _ rfl; (with_reducible repeat (first | refine blk_drewN ?_ _ | refine blk_drew ?_ | refine blk_alloc ?_ _)); refine blk_put (cs := #[.string ((rd_T56 l1 x29_2).f0), .int .i64 ((rd_T56 l1 x29_2).f1), .int .i64 0, .int .i64 0, .slice none 0 0]) ?_ 2 _ rfl; (with_reducible repeat (first | refine blk_drewN ?_ _ | refine blk_drew ?_ | refine blk_alloc ?_ _)); refine blk_put (cs := #[.string ((rd_T56 l1 x29_2).f0), .int .i64 0, .int .i64 0, .int .i64 0, .slice none 0 0]) ?_ 1 _ rfl; (with_reducible repeat (first | refine blk_drewN ?_ _ | refine blk_drew ?_ | refine blk_alloc ?_ _)); refine blk_put (cs := #[.string (⟨#[]⟩ : ByteArray), .int .i64 0, .int .i64 0, .int .i64 0, .slice none 0 0]) ?_ 0 _ rfl; (with_reducible repeat (first | refine blk_drewN ?_ _ | refine blk_drew ?_ | refine blk_alloc ?_ _)); exact BK146.out) hb); have n1_ := Aside0.mk (below_step (by repeat (first | (with_reducible first | exact HB.out | apply below_alloc | apply pw_below_drewN | apply below_drew1 | refine below_set ?_ GE146.out) | exact HB.out)) hb); clear BK146; clear HB; have BK146 := n0_; have HB := n1_; clear n0_ n1_; (try clear hb); (try clear hb2); (try clear hk); (try clear hi)))
                              go_meet
                              case rel => exact ⟨_, (true), (by first | rfl | (simp; done) | (simp [*]; done)), H', ⟨by have := HJ4.out; have := HK2.out; first | omega | exact Nat.le_refl _⟩, ⟨by (with_reducible repeat (first | refine blk_drewN ?_ _ | refine blk_drew ?_ | refine blk_alloc ?_ _)); exact BK146.out⟩, ⟨by repeat (first | (with_reducible first | exact HB.out | apply below_alloc | apply pw_below_drewN | apply below_drew1 | refine below_set ?_ GE146.out) | exact HB.out)⟩⟩
                            · rw [if_neg c24] at H
                              have c24b0 : decide (400 < t148) = false := decide_eq_false c24
                              clear c24
                              replace H := Option.bind_eq_some_iff.mp H
                              obtain ⟨t149, A270, H⟩ := H
                              replace H : (if t149 > 30 then (virgationref04_Check.j2 k2 l0 l1 x29_2 l1 (l1.length : Int) x29_2 true ((rd_T56 l1 x29_2).f0) ((rd_T56 l1 x29_2).f1) ((rd_T56 l1 x29_2).f2.f0) ((rd_T56 l1 x29_2).f2.f1) ((rd_T56 l1 x29_2).f2.f2)) else ((virgationref04_exist.f k2 ((rd_T56 l1 x29_2).f2.f0) ((rd_T56 l1 x29_2).f2.f1) ((rd_T56 l1 x29_2).f2.f2) ((rd_T56 l1 x29_2).f1) (l1.length : Int) (l0.length : Int)).bind fun t150 => (virgationref04_Check.j2 k2 l0 l1 x29_2 l1 (l1.length : Int) x29_2 (!t150) ((rd_T56 l1 x29_2).f0) ((rd_T56 l1 x29_2).f1) ((rd_T56 l1 x29_2).f2.f0) ((rd_T56 l1 x29_2).f2.f1) ((rd_T56 l1 x29_2).f2.f2)))) = some r := H
                              have A27 := Aside0.mk A270
                              clear A270
                              by_cases c28 : t149 > 30
                              · rw [if_pos c28] at H
                                have c28b0 : decide (30 < t149) = true := decide_eq_true c28
                                clear c28
                                have H' := Aside0.mk H
                                clear H
                                have hcz29_0 : w15.cell? ⟨gb146, 0, none⟩ = some (.string (⟨#[]⟩ : ByteArray)) := (blk_cell BK146.out 0).trans rfl
                                have hcz29_1 : w15.cell? ⟨gb146, 1, none⟩ = some (.int .i64 0) := (blk_cell BK146.out 1).trans rfl
                                have hcz29_2 : w15.cell? ⟨gb146, 2, none⟩ = some (.int .i64 0) := (blk_cell BK146.out 2).trans rfl
                                have hcz29_3 : w15.cell? ⟨gb146, 3, none⟩ = some (.int .i64 0) := (blk_cell BK146.out 3).trans rfl
                                have hcz29_4 : w15.cell? ⟨gb146, 4, none⟩ = some (.slice none 0 0) := (blk_cell BK146.out 4).trans rfl
                                have hfz29_0 := blk_frozen BK146.out 0
                                have hfz29_1 := blk_frozen BK146.out 1
                                have hfz29_2 := blk_frozen BK146.out 2
                                have hfz29_3 := blk_frozen BK146.out 3
                                have hfz29_4 := blk_frozen BK146.out 4
                                go_wp2_with (first | ((with_reducible refine gate_callee (f := 33) rfl ?_); refine goesL_ (some 36) rfl rfl Try.func33 (by kernel_rfl) rfl #[.string ((rd_T56 l1 x29_2).f0)] rfl (by (try simp only [List.map_toArray, List.map_cons, List.map_nil]); first | done | rfl | (simp only [List.length_drop, List.length_take]; rfl)) ?_; (with_reducible refine (virgationref02_Name.calls k2 ((rd_T56 l1 x29_2).f0) true _ A17.out).mono ?_); rintro e w' ⟨rfl, ⟨nd, rfl⟩⟩; refine ⟨_, rfl, ?_⟩) | (go_at_call 34; (with_reducible refine (virgationref02_Nodes.calls k2 ((rd_T56 l1 x29_2).f2.f0) ((rd_T56 l1 x29_2).f2.f1) _ _ ((rd_T56 l1 x29_2).f2.f2) 400 t148 _ ?side1 ?side2 A23.out).mono ?_); (case side1 => exact Kd.C_below HR145_4.out (by repeat (first | (with_reducible first | exact HB.out | apply below_alloc | apply pw_below_drewN | apply below_drew1 | refine below_set ?_ GE146.out) | exact HB.out))); (case side2 => exact HC145_4.out); rintro e w30 ⟨rfl, hb⟩; have n0_ := Aside0.mk (blk_below (g := gb146) (o := .cells #[.string ((rd_T56 l1 x29_2).f0), .int .i64 ((rd_T56 l1 x29_2).f1), .int .i64 ((rd_T56 l1 x29_2).f2.f0), .int .i64 ((rd_T56 l1 x29_2).f2.f1), .slice A145_4 ((rd_T56 l1 x29_2).f2.f2).length c145_4] 56 (0, 0)) (by (with_reducible repeat (first | refine blk_drewN ?_ _ | refine blk_drew ?_ | refine blk_alloc ?_ _)); refine blk_put (cs := #[.string ((rd_T56 l1 x29_2).f0), .int .i64 ((rd_T56 l1 x29_2).f1), .int .i64 ((rd_T56 l1 x29_2).f2.f0), .int .i64 ((rd_T56 l1 x29_2).f2.f1), .slice none 0 0]) ?_ 4 _ rfl; (with_reducible repeat (first | refine blk_drewN ?_ _ | refine blk_drew ?_ | refine blk_alloc ?_ _)); refine blk_put (cs := #[.string ((rd_T56 l1 x29_2).f0), .int .i64 ((rd_T56 l1 x29_2).f1), .int .i64 ((rd_T56 l1 x29_2).f2.f0), .int .i64 0, .slice none 0 0]) ?_ 3 _ rfl; (with_reducible repeat (first | refine blk_drewN ?_ _ | refine blk_drew ?_ | refine blk_alloc ?_ _)); refine blk_put (cs := #[.string ((rd_T56 l1 x29_2).f0), .int .i64 ((rd_T56 l1 x29_2).f1), .int .i64 0, .int .i64 0, .slice none 0 0]) ?_ 2 _ rfl; (with_reducible repeat (first | refine blk_drewN ?_ _ | refine blk_drew ?_ | refine blk_alloc ?_ _)); refine blk_put (cs := #[.string ((rd_T56 l1 x29_2).f0), .int .i64 0, .int .i64 0, .int .i64 0, .slice none 0 0]) ?_ 1 _ rfl; (with_reducible repeat (first | refine blk_drewN ?_ _ | refine blk_drew ?_ | refine blk_alloc ?_ _)); refine blk_put (cs := #[.string (⟨#[]⟩ : ByteArray), .int .i64 0, .int .i64 0, .int .i64 0, .slice none 0 0]) ?_ 0 _ rfl; (with_reducible repeat (first | refine blk_drewN ?_ _ | refine blk_drew ?_ | refine blk_alloc ?_ _)); exact BK146.out) hb); have n1_ := Aside0.mk (below_step (by repeat (first | (with_reducible first | exact HB.out | apply below_alloc | apply pw_below_drewN | apply below_drew1 | refine below_set ?_ GE146.out) | exact HB.out)) hb); clear BK146; clear HB; have BK146 := n0_; have HB := n1_; clear n0_ n1_; (try clear hb); (try clear hb2); (try clear hk); (try clear hi); have hcz31_0 : w30.cell? ⟨gb146, 0, none⟩ = some (.string ((rd_T56 l1 x29_2).f0)) := (blk_cell BK146.out 0).trans rfl; have hcz31_1 : w30.cell? ⟨gb146, 1, none⟩ = some (.int .i64 ((rd_T56 l1 x29_2).f1)) := (blk_cell BK146.out 1).trans rfl; have hcz31_2 : w30.cell? ⟨gb146, 2, none⟩ = some (.int .i64 ((rd_T56 l1 x29_2).f2.f0)) := (blk_cell BK146.out 2).trans rfl; have hcz31_3 : w30.cell? ⟨gb146, 3, none⟩ = some (.int .i64 ((rd_T56 l1 x29_2).f2.f1)) := (blk_cell BK146.out 3).trans rfl; have hcz31_4 : w30.cell? ⟨gb146, 4, none⟩ = some (.slice A145_4 ((rd_T56 l1 x29_2).f2.f2).length c145_4) := (blk_cell BK146.out 4).trans rfl; have hfz31_0 := blk_frozen BK146.out 0; have hfz31_1 := blk_frozen BK146.out 1; have hfz31_2 := blk_frozen BK146.out 2; have hfz31_3 := blk_frozen BK146.out 3; have hfz31_4 := blk_frozen BK146.out 4) | (go_at_call 35; (with_reducible refine (virgationref02_Depth.calls k2 ((rd_T56 l1 x29_2).f2.f0) ((rd_T56 l1 x29_2).f2.f1) _ _ ((rd_T56 l1 x29_2).f2.f2) t149 _ ?side1 ?side2 A27.out).mono ?_); (case side1 => repeat (first | exact (Kd.C_below HR145_4.out HB.out) | (with_reducible refine Kd.C_alloc ?_ _) | (with_reducible refine Kd.C_drewN ?_ _) | (with_reducible refine Kd.C_drew ?_))); (case side2 => exact HC145_4.out); rintro e w32 ⟨rfl, hb⟩; have n0_ := Aside0.mk (blk_below (g := gb146) (o := .cells #[.string ((rd_T56 l1 x29_2).f0), .int .i64 ((rd_T56 l1 x29_2).f1), .int .i64 ((rd_T56 l1 x29_2).f2.f0), .int .i64 ((rd_T56 l1 x29_2).f2.f1), .slice A145_4 ((rd_T56 l1 x29_2).f2.f2).length c145_4] 56 (0, 0)) (by (with_reducible repeat (first | refine blk_drewN ?_ _ | refine blk_drew ?_ | refine blk_alloc ?_ _)); exact BK146.out) hb); have n1_ := Aside0.mk (below_step (by repeat (first | (with_reducible first | exact HB.out | apply below_alloc | apply pw_below_drewN | apply below_drew1 | refine below_set ?_ GE146.out) | exact HB.out)) hb); clear BK146; clear HB; have BK146 := n0_; have HB := n1_; clear n0_ n1_; (try clear hb); (try clear hb2); (try clear hk); (try clear hi)))
                                go_meet
                                case rel => exact ⟨_, (true), (by first | rfl | (simp; done) | (simp [*]; done)), H', ⟨by have := HJ4.out; have := HK2.out; first | omega | exact Nat.le_refl _⟩, ⟨by (with_reducible repeat (first | refine blk_drewN ?_ _ | refine blk_drew ?_ | refine blk_alloc ?_ _)); exact BK146.out⟩, ⟨by repeat (first | (with_reducible first | exact HB.out | apply below_alloc | apply pw_below_drewN | apply below_drew1 | refine below_set ?_ GE146.out) | exact HB.out)⟩⟩
                              · rw [if_neg c28] at H
                                have c28b0 : decide (30 < t149) = false := decide_eq_false c28
                                clear c28
                                replace H := Option.bind_eq_some_iff.mp H
                                obtain ⟨t150, A330, H⟩ := H
                                replace H : (virgationref04_Check.j2 k2 l0 l1 x29_2 l1 (l1.length : Int) x29_2 (!t150) ((rd_T56 l1 x29_2).f0) ((rd_T56 l1 x29_2).f1) ((rd_T56 l1 x29_2).f2.f0) ((rd_T56 l1 x29_2).f2.f1) ((rd_T56 l1 x29_2).f2.f2)) = some r := H
                                have A33 := Aside0.mk A330
                                clear A330
                                have H' := Aside0.mk H
                                clear H
                                have hcz34_0 : w15.cell? ⟨gb146, 0, none⟩ = some (.string (⟨#[]⟩ : ByteArray)) := (blk_cell BK146.out 0).trans rfl
                                have hcz34_1 : w15.cell? ⟨gb146, 1, none⟩ = some (.int .i64 0) := (blk_cell BK146.out 1).trans rfl
                                have hcz34_2 : w15.cell? ⟨gb146, 2, none⟩ = some (.int .i64 0) := (blk_cell BK146.out 2).trans rfl
                                have hcz34_3 : w15.cell? ⟨gb146, 3, none⟩ = some (.int .i64 0) := (blk_cell BK146.out 3).trans rfl
                                have hcz34_4 : w15.cell? ⟨gb146, 4, none⟩ = some (.slice none 0 0) := (blk_cell BK146.out 4).trans rfl
                                have hfz34_0 := blk_frozen BK146.out 0
                                have hfz34_1 := blk_frozen BK146.out 1
                                have hfz34_2 := blk_frozen BK146.out 2
                                have hfz34_3 := blk_frozen BK146.out 3
                                have hfz34_4 := blk_frozen BK146.out 4
                                go_wp2_with (first | ((with_reducible refine gate_callee (f := 33) rfl ?_); refine goesL_ (some 36) rfl rfl Try.func33 (by kernel_rfl) rfl #[.string ((rd_T56 l1 x29_2).f0)] rfl (by (try simp only [List.map_toArray, List.map_cons, List.map_nil]); first | done | rfl | (simp only [List.length_drop, List.length_take]; rfl)) ?_; (with_reducible refine (virgationref02_Name.calls k2 ((rd_T56 l1 x29_2).f0) true _ A17.out).mono ?_); rintro e w' ⟨rfl, ⟨nd, rfl⟩⟩; refine ⟨_, rfl, ?_⟩) | (go_at_call 34; (with_reducible refine (virgationref02_Nodes.calls k2 ((rd_T56 l1 x29_2).f2.f0) ((rd_T56 l1 x29_2).f2.f1) _ _ ((rd_T56 l1 x29_2).f2.f2) 400 t148 _ ?side1 ?side2 A23.out).mono ?_); (case side1 => exact Kd.C_below HR145_4.out (by repeat (first | (with_reducible first | exact HB.out | apply below_alloc | apply pw_below_drewN | apply below_drew1 | refine below_set ?_ GE146.out) | exact HB.out))); (case side2 => exact HC145_4.out); rintro e w35 ⟨rfl, hb⟩; have n0_ := Aside0.mk (blk_below (g := gb146) (o := .cells #[.string ((rd_T56 l1 x29_2).f0), .int .i64 ((rd_T56 l1 x29_2).f1), .int .i64 ((rd_T56 l1 x29_2).f2.f0), .int .i64 ((rd_T56 l1 x29_2).f2.f1), .slice A145_4 ((rd_T56 l1 x29_2).f2.f2).length c145_4] 56 (0, 0)) (by (with_reducible repeat (first | refine blk_drewN ?_ _ | refine blk_drew ?_ | refine blk_alloc ?_ _)); refine blk_put (cs := #[.string ((rd_T56 l1 x29_2).f0), .int .i64 ((rd_T56 l1 x29_2).f1), .int .i64 ((rd_T56 l1 x29_2).f2.f0), .int .i64 ((rd_T56 l1 x29_2).f2.f1), .slice none 0 0]) ?_ 4 _ rfl; (with_reducible repeat (first | refine blk_drewN ?_ _ | refine blk_drew ?_ | refine blk_alloc ?_ _)); refine blk_put (cs := #[.string ((rd_T56 l1 x29_2).f0), .int .i64 ((rd_T56 l1 x29_2).f1), .int .i64 ((rd_T56 l1 x29_2).f2.f0), .int .i64 0, .slice none 0 0]) ?_ 3 _ rfl; (with_reducible repeat (first | refine blk_drewN ?_ _ | refine blk_drew ?_ | refine blk_alloc ?_ _)); refine blk_put (cs := #[.string ((rd_T56 l1 x29_2).f0), .int .i64 ((rd_T56 l1 x29_2).f1), .int .i64 0, .int .i64 0, .slice none 0 0]) ?_ 2 _ rfl; (with_reducible repeat (first | refine blk_drewN ?_ _ | refine blk_drew ?_ | refine blk_alloc ?_ _)); refine blk_put (cs := #[.string ((rd_T56 l1 x29_2).f0), .int .i64 0, .int .i64 0, .int .i64 0, .slice none 0 0]) ?_ 1 _ rfl; (with_reducible repeat (first | refine blk_drewN ?_ _ | refine blk_drew ?_ | refine blk_alloc ?_ _)); refine blk_put (cs := #[.string (⟨#[]⟩ : ByteArray), .int .i64 0, .int .i64 0, .int .i64 0, .slice none 0 0]) ?_ 0 _ rfl; (with_reducible repeat (first | refine blk_drewN ?_ _ | refine blk_drew ?_ | refine blk_alloc ?_ _)); exact BK146.out) hb); have n1_ := Aside0.mk (below_step (by repeat (first | (with_reducible first | exact HB.out | apply below_alloc | apply pw_below_drewN | apply below_drew1 | refine below_set ?_ GE146.out) | exact HB.out)) hb); clear BK146; clear HB; have BK146 := n0_; have HB := n1_; clear n0_ n1_; (try clear hb); (try clear hb2); (try clear hk); (try clear hi); have hcz36_0 : w35.cell? ⟨gb146, 0, none⟩ = some (.string ((rd_T56 l1 x29_2).f0)) := (blk_cell BK146.out 0).trans rfl; have hcz36_1 : w35.cell? ⟨gb146, 1, none⟩ = some (.int .i64 ((rd_T56 l1 x29_2).f1)) := (blk_cell BK146.out 1).trans rfl; have hcz36_2 : w35.cell? ⟨gb146, 2, none⟩ = some (.int .i64 ((rd_T56 l1 x29_2).f2.f0)) := (blk_cell BK146.out 2).trans rfl; have hcz36_3 : w35.cell? ⟨gb146, 3, none⟩ = some (.int .i64 ((rd_T56 l1 x29_2).f2.f1)) := (blk_cell BK146.out 3).trans rfl; have hcz36_4 : w35.cell? ⟨gb146, 4, none⟩ = some (.slice A145_4 ((rd_T56 l1 x29_2).f2.f2).length c145_4) := (blk_cell BK146.out 4).trans rfl; have hfz36_0 := blk_frozen BK146.out 0; have hfz36_1 := blk_frozen BK146.out 1; have hfz36_2 := blk_frozen BK146.out 2; have hfz36_3 := blk_frozen BK146.out 3; have hfz36_4 := blk_frozen BK146.out 4) | (go_at_call 35; (with_reducible refine (virgationref02_Depth.calls k2 ((rd_T56 l1 x29_2).f2.f0) ((rd_T56 l1 x29_2).f2.f1) _ _ ((rd_T56 l1 x29_2).f2.f2) t149 _ ?side1 ?side2 A27.out).mono ?_); (case side1 => repeat (first | exact (Kd.C_below HR145_4.out HB.out) | (with_reducible refine Kd.C_alloc ?_ _) | (with_reducible refine Kd.C_drewN ?_ _) | (with_reducible refine Kd.C_drew ?_))); (case side2 => exact HC145_4.out); rintro e w37 ⟨rfl, hb⟩; have n0_ := Aside0.mk (blk_below (g := gb146) (o := .cells #[.string ((rd_T56 l1 x29_2).f0), .int .i64 ((rd_T56 l1 x29_2).f1), .int .i64 ((rd_T56 l1 x29_2).f2.f0), .int .i64 ((rd_T56 l1 x29_2).f2.f1), .slice A145_4 ((rd_T56 l1 x29_2).f2.f2).length c145_4] 56 (0, 0)) (by (with_reducible repeat (first | refine blk_drewN ?_ _ | refine blk_drew ?_ | refine blk_alloc ?_ _)); exact BK146.out) hb); have n1_ := Aside0.mk (below_step (by repeat (first | (with_reducible first | exact HB.out | apply below_alloc | apply pw_below_drewN | apply below_drew1 | refine below_set ?_ GE146.out) | exact HB.out)) hb); clear BK146; clear HB; have BK146 := n0_; have HB := n1_; clear n0_ n1_; (try clear hb); (try clear hb2); (try clear hk); (try clear hi); have hcz38_0 : w37.cell? ⟨gb146, 0, none⟩ = some (.string ((rd_T56 l1 x29_2).f0)) := (blk_cell BK146.out 0).trans rfl; have hcz38_1 : w37.cell? ⟨gb146, 1, none⟩ = some (.int .i64 ((rd_T56 l1 x29_2).f1)) := (blk_cell BK146.out 1).trans rfl; have hcz38_2 : w37.cell? ⟨gb146, 2, none⟩ = some (.int .i64 ((rd_T56 l1 x29_2).f2.f0)) := (blk_cell BK146.out 2).trans rfl; have hcz38_3 : w37.cell? ⟨gb146, 3, none⟩ = some (.int .i64 ((rd_T56 l1 x29_2).f2.f1)) := (blk_cell BK146.out 3).trans rfl; have hcz38_4 : w37.cell? ⟨gb146, 4, none⟩ = some (.slice A145_4 ((rd_T56 l1 x29_2).f2.f2).length c145_4) := (blk_cell BK146.out 4).trans rfl; have hfz38_0 := blk_frozen BK146.out 0; have hfz38_1 := blk_frozen BK146.out 1; have hfz38_2 := blk_frozen BK146.out 2; have hfz38_3 := blk_frozen BK146.out 3; have hfz38_4 := blk_frozen BK146.out 4) | (go_at_call 36; (with_reducible refine (virgationref04_exist.calls k2 ((rd_T56 l1 x29_2).f2.f0) ((rd_T56 l1 x29_2).f2.f1) _ _ ((rd_T56 l1 x29_2).f2.f2) ((rd_T56 l1 x29_2).f1) (l1.length : Int) (l0.length : Int) t150 _ ?side1 ?side2 A33.out).mono ?_); (case side1 => repeat (first | exact (Kd.C_below HR145_4.out HB.out) | (with_reducible refine Kd.C_alloc ?_ _) | (with_reducible refine Kd.C_drewN ?_ _) | (with_reducible refine Kd.C_drew ?_))); (case side2 => exact HC145_4.out); rintro e w39 ⟨rfl, hb⟩; have n0_ := Aside0.mk (blk_below (g := gb146) (o := .cells #[.string ((rd_T56 l1 x29_2).f0), .int .i64 ((rd_T56 l1 x29_2).f1), .int .i64 ((rd_T56 l1 x29_2).f2.f0), .int .i64 ((rd_T56 l1 x29_2).f2.f1), .slice A145_4 ((rd_T56 l1 x29_2).f2.f2).length c145_4] 56 (0, 0)) (by (with_reducible repeat (first | refine blk_drewN ?_ _ | refine blk_drew ?_ | refine blk_alloc ?_ _)); exact BK146.out) hb); have n1_ := Aside0.mk (below_step (by repeat (first | (with_reducible first | exact HB.out | apply below_alloc | apply pw_below_drewN | apply below_drew1 | refine below_set ?_ GE146.out) | exact HB.out)) hb); clear BK146; clear HB; have BK146 := n0_; have HB := n1_; clear n0_ n1_; (try clear hb); (try clear hb2); (try clear hk); (try clear hi)))
                                go_meet
                                case rel => exact ⟨_, (!t150), (by first | rfl | (simp; done) | (simp [*]; done)), H', ⟨by have := HJ4.out; have := HK2.out; first | omega | exact Nat.le_refl _⟩, ⟨by (with_reducible repeat (first | refine blk_drewN ?_ _ | refine blk_drew ?_ | refine blk_alloc ?_ _)); exact BK146.out⟩, ⟨by repeat (first | (with_reducible first | exact HB.out | apply below_alloc | apply pw_below_drewN | apply below_drew1 | refine below_set ?_ GE146.out) | exact HB.out)⟩⟩
                      · replace c18 := Bool.eq_false_iff.mpr c18
                        subst c18
                        have H1 : (virgationref04_Check.j2 k2 l0 l1 x29_2 l1 (l1.length : Int) x29_2 true ((rd_T56 l1 x29_2).f0) ((rd_T56 l1 x29_2).f1) ((rd_T56 l1 x29_2).f2.f0) ((rd_T56 l1 x29_2).f2.f1) ((rd_T56 l1 x29_2).f2.f2)) = some r := by rw [if_neg (show ¬ (false = true) by decide)] at H; exact H
                        clear H
                        have H := H1
                        clear H1
                        have H' := Aside0.mk H
                        clear H
                        have hcz40_0 : w15.cell? ⟨gb146, 0, none⟩ = some (.string (⟨#[]⟩ : ByteArray)) := (blk_cell BK146.out 0).trans rfl
                        have hcz40_1 : w15.cell? ⟨gb146, 1, none⟩ = some (.int .i64 0) := (blk_cell BK146.out 1).trans rfl
                        have hcz40_2 : w15.cell? ⟨gb146, 2, none⟩ = some (.int .i64 0) := (blk_cell BK146.out 2).trans rfl
                        have hcz40_3 : w15.cell? ⟨gb146, 3, none⟩ = some (.int .i64 0) := (blk_cell BK146.out 3).trans rfl
                        have hcz40_4 : w15.cell? ⟨gb146, 4, none⟩ = some (.slice none 0 0) := (blk_cell BK146.out 4).trans rfl
                        have hfz40_0 := blk_frozen BK146.out 0
                        have hfz40_1 := blk_frozen BK146.out 1
                        have hfz40_2 := blk_frozen BK146.out 2
                        have hfz40_3 := blk_frozen BK146.out 3
                        have hfz40_4 := blk_frozen BK146.out 4
                        go_wp2_with (first | ((with_reducible refine gate_callee (f := 33) rfl ?_); refine goesL_ (some 36) rfl rfl Try.func33 (by kernel_rfl) rfl #[.string ((rd_T56 l1 x29_2).f0)] rfl (by (try simp only [List.map_toArray, List.map_cons, List.map_nil]); first | done | rfl | (simp only [List.length_drop, List.length_take]; rfl)) ?_; (with_reducible refine (virgationref02_Name.calls k2 ((rd_T56 l1 x29_2).f0) false _ A17.out).mono ?_); rintro e w' ⟨rfl, ⟨nd, rfl⟩⟩; refine ⟨_, rfl, ?_⟩))
                        go_meet
                        case rel => exact ⟨_, (true), (by first | rfl | (simp; done) | (simp [*]; done)), H', ⟨by have := HJ4.out; have := HK2.out; first | omega | exact Nat.le_refl _⟩, ⟨by (with_reducible repeat (first | refine blk_drewN ?_ _ | refine blk_drew ?_ | refine blk_alloc ?_ _)); refine blk_put (cs := #[.string ((rd_T56 l1 x29_2).f0), .int .i64 ((rd_T56 l1 x29_2).f1), .int .i64 ((rd_T56 l1 x29_2).f2.f0), .int .i64 ((rd_T56 l1 x29_2).f2.f1), .slice none 0 0]) ?_ 4 _ rfl; (with_reducible repeat (first | refine blk_drewN ?_ _ | refine blk_drew ?_ | refine blk_alloc ?_ _)); refine blk_put (cs := #[.string ((rd_T56 l1 x29_2).f0), .int .i64 ((rd_T56 l1 x29_2).f1), .int .i64 ((rd_T56 l1 x29_2).f2.f0), .int .i64 0, .slice none 0 0]) ?_ 3 _ rfl; (with_reducible repeat (first | refine blk_drewN ?_ _ | refine blk_drew ?_ | refine blk_alloc ?_ _)); refine blk_put (cs := #[.string ((rd_T56 l1 x29_2).f0), .int .i64 ((rd_T56 l1 x29_2).f1), .int .i64 0, .int .i64 0, .slice none 0 0]) ?_ 2 _ rfl; (with_reducible repeat (first | refine blk_drewN ?_ _ | refine blk_drew ?_ | refine blk_alloc ?_ _)); refine blk_put (cs := #[.string ((rd_T56 l1 x29_2).f0), .int .i64 0, .int .i64 0, .int .i64 0, .slice none 0 0]) ?_ 1 _ rfl; (with_reducible repeat (first | refine blk_drewN ?_ _ | refine blk_drew ?_ | refine blk_alloc ?_ _)); refine blk_put (cs := #[.string (⟨#[]⟩ : ByteArray), .int .i64 0, .int .i64 0, .int .i64 0, .slice none 0 0]) ?_ 0 _ rfl; (with_reducible repeat (first | refine blk_drewN ?_ _ | refine blk_drew ?_ | refine blk_alloc ?_ _)); exact BK146.out⟩, ⟨by repeat (first | (with_reducible first | exact HB.out | apply below_alloc | apply pw_below_drewN | apply below_drew1 | refine below_set ?_ GE146.out) | exact HB.out)⟩⟩
                    case rest =>
                      clear HC14
                      try clear c1
                      try clear p1
                      try clear q1
                      try clear hx1
                      try clear qi1
                      try clear c2
                      try clear p2
                      try clear c3
                      try clear c4
                      try clear c7
                      try clear c7b0
                      try clear c7b1
                      try clear c8
                      try clear c8b0
                      try clear c8b1
                      try clear c9
                      try clear c9b0
                      try clear c9b1
                      try clear c10
                      try clear c11
                      try clear c11b0
                      try clear c12
                      try clear c12b0
                      try clear c13
                      try clear c13b0
                      try clear c14
                      try clear p14
                      try clear q14
                      try clear hx14
                      try clear qi14
                      try clear c18
                      try clear c19
                      try clear c19b0
                      try clear c21
                      try clear c21b0
                      try clear c24
                      try clear c24b0
                      try clear c28
                      try clear c28b0
                      try clear c32
                      try clear c33
                      try clear hcz16_0
                      try clear hcz16_1
                      try clear hcz16_2
                      try clear hcz16_3
                      try clear hcz16_4
                      try clear hcz20_0
                      try clear hcz20_1
                      try clear hcz20_2
                      try clear hcz20_3
                      try clear hcz20_4
                      try clear hcz22_0
                      try clear hcz22_1
                      try clear hcz22_2
                      try clear hcz22_3
                      try clear hcz22_4
                      try clear hcz25_0
                      try clear hcz25_1
                      try clear hcz25_2
                      try clear hcz25_3
                      try clear hcz25_4
                      try clear hcz29_0
                      try clear hcz29_1
                      try clear hcz29_2
                      try clear hcz29_3
                      try clear hcz29_4
                      try clear hcz31_0
                      try clear hcz31_1
                      try clear hcz31_2
                      try clear hcz31_3
                      try clear hcz31_4
                      try clear hcz34_0
                      try clear hcz34_1
                      try clear hcz34_2
                      try clear hcz34_3
                      try clear hcz34_4
                      try clear hcz36_0
                      try clear hcz36_1
                      try clear hcz36_2
                      try clear hcz36_3
                      try clear hcz36_4
                      try clear hcz38_0
                      try clear hcz38_1
                      try clear hcz38_2
                      try clear hcz38_3
                      try clear hcz38_4
                      try clear hcz40_0
                      try clear hcz40_1
                      try clear hcz40_2
                      try clear hcz40_3
                      try clear hcz40_4
                      try clear hfz16_0
                      try clear hfz16_1
                      try clear hfz16_2
                      try clear hfz16_3
                      try clear hfz16_4
                      try clear hfz20_0
                      try clear hfz20_1
                      try clear hfz20_2
                      try clear hfz20_3
                      try clear hfz20_4
                      try clear hfz22_0
                      try clear hfz22_1
                      try clear hfz22_2
                      try clear hfz22_3
                      try clear hfz22_4
                      try clear hfz25_0
                      try clear hfz25_1
                      try clear hfz25_2
                      try clear hfz25_3
                      try clear hfz25_4
                      try clear hfz29_0
                      try clear hfz29_1
                      try clear hfz29_2
                      try clear hfz29_3
                      try clear hfz29_4
                      try clear hfz31_0
                      try clear hfz31_1
                      try clear hfz31_2
                      try clear hfz31_3
                      try clear hfz31_4
                      try clear hfz34_0
                      try clear hfz34_1
                      try clear hfz34_2
                      try clear hfz34_3
                      try clear hfz34_4
                      try clear hfz36_0
                      try clear hfz36_1
                      try clear hfz36_2
                      try clear hfz36_3
                      try clear hfz36_4
                      try clear hfz38_0
                      try clear hfz38_1
                      try clear hfz38_2
                      try clear hfz38_3
                      try clear hfz38_4
                      try clear hfz40_0
                      try clear hfz40_1
                      try clear hfz40_2
                      try clear hfz40_3
                      try clear hfz40_4
                      try clear hx144_0
                      try clear hx144_1
                      try clear hx144_2
                      try clear hx144_3
                      try clear hx144_4
                      try clear hx145_0
                      try clear hx145_1
                      try clear hx145_2
                      try clear hx145_3
                      try clear hx145_4
                      try clear p1
                      try clear p144
                      try clear p145
                      try clear p2
                      try clear q1
                      try clear q144
                      try clear q145
                      obtain ⟨kq, x71_13, rfl, HA, HJ13, BK146, HB⟩ := hcut
                      cases kq with
                      | zero => exact absurd HA.out (by simp [virgationref04_Check.j2])
                      | succ kj13 =>
                        have H := HA.out
                        clear HA
                        simp only [virgationref04_Check.j2] at H
                        by_cases c41 : x71_13 = true
                        · subst c41
                          have H1 : (some 4) = some r := by rw [if_pos rfl] at H; exact H
                          clear H
                          have H := H1
                          clear H1
                          obtain rfl := Option.some.inj H
                          go_wp2
                          go_ret
                          exact ⟨by first | rfl | (simp [errW_none, errW_some] <;> rfl) | (simp [*, errW_none, errW_some] <;> rfl), by repeat (first | (with_reducible first | exact HB.out | apply below_alloc | apply pw_below_drewN | apply below_drew1 | refine below_set ?_ GE146.out) | exact HB.out)⟩
                        · replace c41 := Bool.eq_false_iff.mpr c41
                          subst c41
                          have H1 : (if 0 ≤ x29_2 then (if x29_2 ≤ (l1.length : Int) then ((some (l1.take (x29_2 : Int).toNat : List (S56))).bind fun y151 => (virgationref04_Check.l1 kj13 l0 l1 l1 (l1.length : Int) x29_2 y151 (y151.length : Int) 0 ((rd_T56 l1 x29_2).f0) ((rd_T56 l1 x29_2).f1) ((rd_T56 l1 x29_2).f2.f0) ((rd_T56 l1 x29_2).f2.f1) ((rd_T56 l1 x29_2).f2.f2))) else (none)) else (none)) = some r := by rw [if_neg (show ¬ (false = true) by decide)] at H; exact H
                          clear H
                          have H := H1
                          clear H1
                          by_cases c42 : 0 ≤ x29_2
                          · rw [if_pos c42] at H
                            have c42b0 := eq_true c42
                            have c42b1 : decide (0 ≤ x29_2) = true := decide_eq_true c42
                            clear c42
                            by_cases c43 : x29_2 ≤ (l1.length : Int)
                            · rw [if_pos c43] at H
                              have c43b0 := eq_true c43
                              have c43b1 : decide (x29_2 ≤ (l1.length : Int)) = true := decide_eq_true c43
                              clear c43
                              obtain ⟨y151, hy151⟩ : ∃ y_ : List (S56), y_ = (l1.take (x29_2 : Int).toNat) := ⟨_, rfl⟩
                              replace H : (virgationref04_Check.l1 kj13 l0 l1 l1 (l1.length : Int) x29_2 y151 (y151.length : Int) 0 ((rd_T56 l1 x29_2).f0) ((rd_T56 l1 x29_2).f1) ((rd_T56 l1 x29_2).f2.f0) ((rd_T56 l1 x29_2).f2.f1) ((rd_T56 l1 x29_2).f2.f2)) = some r := by first | (rw [hy151]; with_reducible exact H) | (have H2_ := (Option.bind_some _ _).symm.trans H; rw [hy151]; with_reducible exact H2_) | (have H2_ := (Option.bind_some _ _).symm.trans H; with_reducible exact H2_) | with_reducible exact H | (rw [hy151]; exact H) | exact H
                              have Ny151 := Aside0.mk hy151
                              clear hy151
                              have H' := Aside0.mk H
                              clear H
                              have q44 : (x29_2 : Int) ≤ ((l1.length : Int) : Int) := of_decide_eq_true (by first | (with_reducible assumption) | assumption)
                              obtain ⟨i044, hi044, _, hsz44, _⟩ := info_parts info56
                              have hroom44 : l1.length ≤ c1 := HC1.out
                              have hC44 : Kd.C k56 _ (some ad145) l1.length l1 := HR1.out
                              have hcut44 := cut_to (P := Try.prog) 23 56 .i64 Try.underlying23 hi044 (some ad145) l1.length c1 x29_2 (of_decide_eq_true (by first | (with_reducible assumption) | assumption)) q44 hroom44
                              have hr44 := Kd.C_take (m := (x29_2 : Int).toNat) hC44 (by omega)
                              have hy44 : y151.length = (x29_2 : Int).toNat := (by rw [Ny151.out, List.length_take]; omega)
                              rw [← Ny151.out] at hr44
                              rw [← hy44] at hcut44
                              have HR154 := Aside0.mk hr44
                              have HC154 := Aside0.mk (show y151.length ≤ c1 from by omega)
                              clear hr44 hC44 hroom44 hi044 hsz44
                              have KY44 := Aside0.mk hy44
                              clear hy44
                              replace q44 := eq_true q44
                              go_wp2
                              go_loopg [76] kj13 (fun kq v76 w' => ∃ (x76_4 : Int), v76 = .int .i64 x76_4 ∧ Aside0 (virgationref04_Check.l1 kq l0 l1 l1 (l1.length : Int) x29_2 y151 (y151.length : Int) x76_4 ((rd_T56 l1 x29_2).f0) ((rd_T56 l1 x29_2).f1) ((rd_T56 l1 x29_2).f2.f0) ((rd_T56 l1 x29_2).f2.f1) ((rd_T56 l1 x29_2).f2.f2) = some r) ∧ Aside0 (kq ≤ kj13) ∧ Aside0 (w'.heap[gb146]? = some (.cells #[.string ((rd_T56 l1 x29_2).f0), .int .i64 ((rd_T56 l1 x29_2).f1), .int .i64 ((rd_T56 l1 x29_2).f2.f0), .int .i64 ((rd_T56 l1 x29_2).f2.f1), (.slice A145_4 ((rd_T56 l1 x29_2).f2.f2).length c145_4)] 56 (0, 0))) ∧ Aside0 (Below w.heap.size w w'))
                              case atStart => exact ⟨(0), (by first | rfl | (simp; done) | (simp [*]; done)), H', ⟨Nat.le_refl _⟩, ⟨by (with_reducible repeat (first | refine blk_drewN ?_ _ | refine blk_drew ?_ | refine blk_alloc ?_ _)); exact BK146.out⟩, ⟨by repeat (first | (with_reducible first | exact HB.out | apply below_alloc | apply pw_below_drewN | apply below_drew1 | refine below_set ?_ GE146.out) | exact HB.out)⟩⟩
                              case round =>
                                clear H'
                                try clear c1
                                try clear p1
                                try clear q1
                                try clear hx1
                                try clear qi1
                                try clear c2
                                try clear p2
                                try clear c3
                                try clear c4
                                try clear q4
                                try clear c7
                                try clear c7b0
                                try clear c7b1
                                try clear c8
                                try clear c8b0
                                try clear c8b1
                                try clear c9
                                try clear c9b0
                                try clear c9b1
                                try clear c10
                                try clear c11
                                try clear c11b0
                                try clear c12
                                try clear c12b0
                                try clear c13
                                try clear c13b0
                                try clear c14
                                try clear p14
                                try clear q14
                                try clear hx14
                                try clear qi14
                                try clear c18
                                try clear c19
                                try clear c19b0
                                try clear c21
                                try clear c21b0
                                try clear c24
                                try clear c24b0
                                try clear c28
                                try clear c28b0
                                try clear c32
                                try clear c33
                                try clear c41
                                try clear c42
                                try clear c42b0
                                try clear c42b1
                                try clear c43
                                try clear c43b0
                                try clear c43b1
                                try clear q44
                                try clear hcz16_0
                                try clear hcz16_1
                                try clear hcz16_2
                                try clear hcz16_3
                                try clear hcz16_4
                                try clear hcz20_0
                                try clear hcz20_1
                                try clear hcz20_2
                                try clear hcz20_3
                                try clear hcz20_4
                                try clear hcz22_0
                                try clear hcz22_1
                                try clear hcz22_2
                                try clear hcz22_3
                                try clear hcz22_4
                                try clear hcz25_0
                                try clear hcz25_1
                                try clear hcz25_2
                                try clear hcz25_3
                                try clear hcz25_4
                                try clear hcz29_0
                                try clear hcz29_1
                                try clear hcz29_2
                                try clear hcz29_3
                                try clear hcz29_4
                                try clear hcz31_0
                                try clear hcz31_1
                                try clear hcz31_2
                                try clear hcz31_3
                                try clear hcz31_4
                                try clear hcz34_0
                                try clear hcz34_1
                                try clear hcz34_2
                                try clear hcz34_3
                                try clear hcz34_4
                                try clear hcz36_0
                                try clear hcz36_1
                                try clear hcz36_2
                                try clear hcz36_3
                                try clear hcz36_4
                                try clear hcz38_0
                                try clear hcz38_1
                                try clear hcz38_2
                                try clear hcz38_3
                                try clear hcz38_4
                                try clear hcz40_0
                                try clear hcz40_1
                                try clear hcz40_2
                                try clear hcz40_3
                                try clear hcz40_4
                                try clear hfz16_0
                                try clear hfz16_1
                                try clear hfz16_2
                                try clear hfz16_3
                                try clear hfz16_4
                                try clear hfz20_0
                                try clear hfz20_1
                                try clear hfz20_2
                                try clear hfz20_3
                                try clear hfz20_4
                                try clear hfz22_0
                                try clear hfz22_1
                                try clear hfz22_2
                                try clear hfz22_3
                                try clear hfz22_4
                                try clear hfz25_0
                                try clear hfz25_1
                                try clear hfz25_2
                                try clear hfz25_3
                                try clear hfz25_4
                                try clear hfz29_0
                                try clear hfz29_1
                                try clear hfz29_2
                                try clear hfz29_3
                                try clear hfz29_4
                                try clear hfz31_0
                                try clear hfz31_1
                                try clear hfz31_2
                                try clear hfz31_3
                                try clear hfz31_4
                                try clear hfz34_0
                                try clear hfz34_1
                                try clear hfz34_2
                                try clear hfz34_3
                                try clear hfz34_4
                                try clear hfz36_0
                                try clear hfz36_1
                                try clear hfz36_2
                                try clear hfz36_3
                                try clear hfz36_4
                                try clear hfz38_0
                                try clear hfz38_1
                                try clear hfz38_2
                                try clear hfz38_3
                                try clear hfz38_4
                                try clear hfz40_0
                                try clear hfz40_1
                                try clear hfz40_2
                                try clear hfz40_3
                                try clear hfz40_4
                                try clear hx144_0
                                try clear hx144_1
                                try clear hx144_2
                                try clear hx144_3
                                try clear hx144_4
                                try clear hx145_0
                                try clear hx145_1
                                try clear hx145_2
                                try clear hx145_3
                                try clear hx145_4
                                try clear p1
                                try clear p14
                                try clear p144
                                try clear p145
                                try clear p2
                                try clear q1
                                try clear q14
                                try clear q144
                                try clear q145
                                try clear q44
                                obtain ⟨x76_4, rfl, HA, HK4, BK146, HB⟩ := hrel
                                cases gk with
                                | zero => exact absurd HA.out (by simp [virgationref04_Check.l1])
                                | succ k4 =>
                                  have H := HA.out
                                  clear HA
                                  simp only [virgationref04_Check.l1] at H
                                  by_cases c45 : x76_4 < (y151.length : Int)
                                  · rw [if_pos c45] at H
                                    have c45b0 : decide (x76_4 < (y151.length : Int)) = true := decide_eq_true c45
                                    clear c45
                                    by_cases c46 : 0 ≤ x76_4
                                    · rw [if_pos c46] at H
                                      have c46b0 : decide (0 ≤ x76_4) = true := decide_eq_true c46
                                      clear c46
                                      by_cases c47 : x76_4 < (y151.length : Int)
                                      · rw [if_pos c47] at H
                                        have c47b0 : decide (x76_4 < (y151.length : Int)) = true := decide_eq_true c47
                                        clear c47
                                        by_cases c48 : ((rd_T56 l1 x29_2).f0).toList = ((rd_T56 y151 x76_4).f0).toList
                                        · rw [if_pos c48] at H
                                          have c48b0 : (((rd_T56 l1 x29_2).f0).toList == ((rd_T56 y151 x76_4).f0).toList) = true := beq_iff_eq.mpr c48
                                          have c48b1 : (((rd_T56 l1 x29_2).f0).toList != ((rd_T56 y151 x76_4).f0).toList) = false := bne_eq_false_iff_eq.mpr c48
                                          clear c48
                                          obtain rfl := Option.some.inj H
                                          have p155 : 0 ≤ (x76_4 : Int) := of_decide_eq_true (by first | (with_reducible assumption) | assumption)
                                          have q155 : x76_4 < (y151.length : Int) := of_decide_eq_true (by first | (with_reducible assumption) | assumption)
                                          obtain ⟨ad155, A155_4, c155_4, e155, hx155_0, hx155_1, hx155_2, hx155_3, hx155_4, hl155_4, hi155_4⟩ := at_T56 HR154.out x76_4 p155 q155
                                          obtain rfl : ad145 = ad155 := (by injection e155)
                                          replace hx155_0 := (HB.out.cell (World.block_lt_of_cell? w _ hx155_0)).trans hx155_0
                                          replace hx155_1 := (HB.out.cell (World.block_lt_of_cell? w _ hx155_1)).trans hx155_1
                                          replace hx155_2 := (HB.out.cell (World.block_lt_of_cell? w _ hx155_2)).trans hx155_2
                                          replace hx155_3 := (HB.out.cell (World.block_lt_of_cell? w _ hx155_3)).trans hx155_3
                                          replace hx155_4 := (HB.out.cell (World.block_lt_of_cell? w _ hx155_4)).trans hx155_4
                                          have HR155_4 := Aside0.mk hi155_4
                                          have HC155_4 := Aside0.mk hl155_4
                                          clear hi155_4 hl155_4
                                          replace p155 := eq_true p155
                                          replace q155 := eq_true q155
                                          go_wp2_with (first | ((with_reducible refine gate_dst (N := 8) rfl ?_); (try (refine gate_guard (by rfl) ?_; dsimp only)); refine box_event ?hg (N := 8) ?hd (cs := #[.string (⟨#[]⟩ : ByteArray), .int .i64 0, .int .i64 0, .int .i64 0, .slice none 0 0]) (t := 56) ?hr ?_; (case hd => rfl); (case hg => rfl); (case hr => first | (go_simp; done) | (go_simp; rfl)); intro gb156 hg w49 hbox hb; have n0_ := Aside0.mk (blk_below (g := gb146) (o := .cells #[.string ((rd_T56 l1 x29_2).f0), .int .i64 ((rd_T56 l1 x29_2).f1), .int .i64 ((rd_T56 l1 x29_2).f2.f0), .int .i64 ((rd_T56 l1 x29_2).f2.f1), .slice A145_4 ((rd_T56 l1 x29_2).f2.f2).length c145_4] 56 (0, 0)) (by (with_reducible repeat (first | refine blk_drewN ?_ _ | refine blk_drew ?_ | refine blk_alloc ?_ _)); exact BK146.out) hb); have n1_ := Aside0.mk (below_step (by repeat (first | (with_reducible first | exact HB.out | apply below_alloc | apply pw_below_drewN | apply below_drew1 | refine below_set ?_ GE146.out) | exact HB.out)) hb); have n2_ := Aside0.mk (hbox); have n3_ := Aside0.mk ((by rw [hg]; exact (below_size (by repeat (first | (with_reducible first | exact HB.out | apply below_alloc | apply pw_below_drewN | apply below_drew1 | refine below_set ?_ GE146.out) | exact HB.out))) : w.heap.size ≤ gb156)); have n4_ := Aside0.mk ((by rw [hg]; exact (below_size (by repeat (first | (with_reducible first | exact HB.out | apply below_alloc | apply pw_below_drewN | apply below_drew1 | refine below_set ?_ GE146.out) | exact HB.out))) : w.heap.size ≤ gb156)); have n5_ := Aside0.mk ((by rw [hg]; exact Nat.ne_of_lt (blk_lt (g := gb146) (o := .cells #[.string ((rd_T56 l1 x29_2).f0), .int .i64 ((rd_T56 l1 x29_2).f1), .int .i64 ((rd_T56 l1 x29_2).f2.f0), .int .i64 ((rd_T56 l1 x29_2).f2.f1), .slice A145_4 ((rd_T56 l1 x29_2).f2.f2).length c145_4] 56 (0, 0)) (by (with_reducible repeat (first | refine blk_drewN ?_ _ | refine blk_drew ?_ | refine blk_alloc ?_ _)); exact BK146.out)) : gb146 ≠ gb156)); have n6_ := Aside0.mk ((by rw [hg]; exact Nat.ne_of_gt (blk_lt (g := gb146) (o := .cells #[.string ((rd_T56 l1 x29_2).f0), .int .i64 ((rd_T56 l1 x29_2).f1), .int .i64 ((rd_T56 l1 x29_2).f2.f0), .int .i64 ((rd_T56 l1 x29_2).f2.f1), .slice A145_4 ((rd_T56 l1 x29_2).f2.f2).length c145_4] 56 (0, 0)) (by (with_reducible repeat (first | refine blk_drewN ?_ _ | refine blk_drew ?_ | refine blk_alloc ?_ _)); exact BK146.out)) : gb156 ≠ gb146)); clear BK146; clear HB; have BK146 := n0_; have HB := n1_; have BK156 := n2_; have GW156 := n3_; have GE156 := n4_; have NB146_156 := n5_; have NB156_146 := n6_; clear n0_ n1_ n2_ n3_ n4_ n5_ n6_; clear hb hbox hg; have hnb50 := NB156_146.out; have hnc50 := NB146_156.out; have hcz51_0 : w49.cell? ⟨gb156, 0, none⟩ = some (.string (⟨#[]⟩ : ByteArray)) := (blk_cell BK156.out 0).trans rfl; have hcz51_1 : w49.cell? ⟨gb156, 1, none⟩ = some (.int .i64 0) := (blk_cell BK156.out 1).trans rfl; have hcz51_2 : w49.cell? ⟨gb156, 2, none⟩ = some (.int .i64 0) := (blk_cell BK156.out 2).trans rfl; have hcz51_3 : w49.cell? ⟨gb156, 3, none⟩ = some (.int .i64 0) := (blk_cell BK156.out 3).trans rfl; have hcz51_4 : w49.cell? ⟨gb156, 4, none⟩ = some (.slice none 0 0) := (blk_cell BK156.out 4).trans rfl; have hfz51_0 := blk_frozen BK156.out 0; have hfz51_1 := blk_frozen BK156.out 1; have hfz51_2 := blk_frozen BK156.out 2; have hfz51_3 := blk_frozen BK156.out 3; have hfz51_4 := blk_frozen BK156.out 4; have hcz52_0 : w49.cell? ⟨gb146, 0, none⟩ = some (.string ((rd_T56 l1 x29_2).f0)) := (blk_cell BK146.out 0).trans rfl; have hcz52_1 : w49.cell? ⟨gb146, 1, none⟩ = some (.int .i64 ((rd_T56 l1 x29_2).f1)) := (blk_cell BK146.out 1).trans rfl; have hcz52_2 : w49.cell? ⟨gb146, 2, none⟩ = some (.int .i64 ((rd_T56 l1 x29_2).f2.f0)) := (blk_cell BK146.out 2).trans rfl; have hcz52_3 : w49.cell? ⟨gb146, 3, none⟩ = some (.int .i64 ((rd_T56 l1 x29_2).f2.f1)) := (blk_cell BK146.out 3).trans rfl; have hcz52_4 : w49.cell? ⟨gb146, 4, none⟩ = some (.slice A145_4 ((rd_T56 l1 x29_2).f2.f2).length c145_4) := (blk_cell BK146.out 4).trans rfl; have hfz52_0 := blk_frozen BK146.out 0; have hfz52_1 := blk_frozen BK146.out 1; have hfz52_2 := blk_frozen BK146.out 2; have hfz52_3 := blk_frozen BK146.out 3; have hfz52_4 := blk_frozen BK146.out 4))
                                          go_ret
                                          exact ⟨by first | rfl | (simp [errW_none, errW_some] <;> rfl) | (simp [*, errW_none, errW_some] <;> rfl), by repeat (first | (with_reducible first | exact HB.out | apply below_alloc | apply pw_below_drewN | apply below_drew1 | refine below_set ?_ GE146.out | refine below_set ?_ GE156.out) | exact HB.out)⟩
                                        · rw [if_neg c48] at H
                                          have c48b0 : (((rd_T56 l1 x29_2).f0).toList == ((rd_T56 y151 x76_4).f0).toList) = false := beq_eq_false_iff_ne.mpr c48
                                          have c48b1 : (((rd_T56 l1 x29_2).f0).toList != ((rd_T56 y151 x76_4).f0).toList) = true := bne_iff_ne.mpr c48
                                          have H' := Aside0.mk H
                                          clear H
                                          have p155 : 0 ≤ (x76_4 : Int) := of_decide_eq_true (by first | (with_reducible assumption) | assumption)
                                          have q155 : x76_4 < (y151.length : Int) := of_decide_eq_true (by first | (with_reducible assumption) | assumption)
                                          obtain ⟨ad155, A155_4, c155_4, e155, hx155_0, hx155_1, hx155_2, hx155_3, hx155_4, hl155_4, hi155_4⟩ := at_T56 HR154.out x76_4 p155 q155
                                          obtain rfl : ad145 = ad155 := (by injection e155)
                                          replace hx155_0 := (HB.out.cell (World.block_lt_of_cell? w _ hx155_0)).trans hx155_0
                                          replace hx155_1 := (HB.out.cell (World.block_lt_of_cell? w _ hx155_1)).trans hx155_1
                                          replace hx155_2 := (HB.out.cell (World.block_lt_of_cell? w _ hx155_2)).trans hx155_2
                                          replace hx155_3 := (HB.out.cell (World.block_lt_of_cell? w _ hx155_3)).trans hx155_3
                                          replace hx155_4 := (HB.out.cell (World.block_lt_of_cell? w _ hx155_4)).trans hx155_4
                                          have HR155_4 := Aside0.mk hi155_4
                                          have HC155_4 := Aside0.mk hl155_4
                                          clear hi155_4 hl155_4
                                          replace p155 := eq_true p155
                                          replace q155 := eq_true q155
                                          go_wp2_with (first | ((with_reducible refine gate_dst (N := 8) rfl ?_); (try (refine gate_guard (by rfl) ?_; dsimp only)); refine box_event ?hg (N := 8) ?hd (cs := #[.string (⟨#[]⟩ : ByteArray), .int .i64 0, .int .i64 0, .int .i64 0, .slice none 0 0]) (t := 56) ?hr ?_; (case hd => rfl); (case hg => rfl); (case hr => first | (go_simp; done) | (go_simp; rfl)); intro gb156 hg w53 hbox hb; have n0_ := Aside0.mk (blk_below (g := gb146) (o := .cells #[.string ((rd_T56 l1 x29_2).f0), .int .i64 ((rd_T56 l1 x29_2).f1), .int .i64 ((rd_T56 l1 x29_2).f2.f0), .int .i64 ((rd_T56 l1 x29_2).f2.f1), .slice A145_4 ((rd_T56 l1 x29_2).f2.f2).length c145_4] 56 (0, 0)) (by (with_reducible repeat (first | refine blk_drewN ?_ _ | refine blk_drew ?_ | refine blk_alloc ?_ _)); exact BK146.out) hb); have n1_ := Aside0.mk (below_step (by repeat (first | (with_reducible first | exact HB.out | apply below_alloc | apply pw_below_drewN | apply below_drew1 | refine below_set ?_ GE146.out) | exact HB.out)) hb); have n2_ := Aside0.mk (hbox); have n3_ := Aside0.mk ((by rw [hg]; exact (below_size (by repeat (first | (with_reducible first | exact HB.out | apply below_alloc | apply pw_below_drewN | apply below_drew1 | refine below_set ?_ GE146.out) | exact HB.out))) : w.heap.size ≤ gb156)); have n4_ := Aside0.mk ((by rw [hg]; exact (below_size (by repeat (first | (with_reducible first | exact HB.out | apply below_alloc | apply pw_below_drewN | apply below_drew1 | refine below_set ?_ GE146.out) | exact HB.out))) : w.heap.size ≤ gb156)); have n5_ := Aside0.mk ((by rw [hg]; exact Nat.ne_of_lt (blk_lt (g := gb146) (o := .cells #[.string ((rd_T56 l1 x29_2).f0), .int .i64 ((rd_T56 l1 x29_2).f1), .int .i64 ((rd_T56 l1 x29_2).f2.f0), .int .i64 ((rd_T56 l1 x29_2).f2.f1), .slice A145_4 ((rd_T56 l1 x29_2).f2.f2).length c145_4] 56 (0, 0)) (by (with_reducible repeat (first | refine blk_drewN ?_ _ | refine blk_drew ?_ | refine blk_alloc ?_ _)); exact BK146.out)) : gb146 ≠ gb156)); have n6_ := Aside0.mk ((by rw [hg]; exact Nat.ne_of_gt (blk_lt (g := gb146) (o := .cells #[.string ((rd_T56 l1 x29_2).f0), .int .i64 ((rd_T56 l1 x29_2).f1), .int .i64 ((rd_T56 l1 x29_2).f2.f0), .int .i64 ((rd_T56 l1 x29_2).f2.f1), .slice A145_4 ((rd_T56 l1 x29_2).f2.f2).length c145_4] 56 (0, 0)) (by (with_reducible repeat (first | refine blk_drewN ?_ _ | refine blk_drew ?_ | refine blk_alloc ?_ _)); exact BK146.out)) : gb156 ≠ gb146)); clear BK146; clear HB; have BK146 := n0_; have HB := n1_; have BK156 := n2_; have GW156 := n3_; have GE156 := n4_; have NB146_156 := n5_; have NB156_146 := n6_; clear n0_ n1_ n2_ n3_ n4_ n5_ n6_; clear hb hbox hg; have hnb54 := NB156_146.out; have hnc54 := NB146_156.out; have hcz55_0 : w53.cell? ⟨gb156, 0, none⟩ = some (.string (⟨#[]⟩ : ByteArray)) := (blk_cell BK156.out 0).trans rfl; have hcz55_1 : w53.cell? ⟨gb156, 1, none⟩ = some (.int .i64 0) := (blk_cell BK156.out 1).trans rfl; have hcz55_2 : w53.cell? ⟨gb156, 2, none⟩ = some (.int .i64 0) := (blk_cell BK156.out 2).trans rfl; have hcz55_3 : w53.cell? ⟨gb156, 3, none⟩ = some (.int .i64 0) := (blk_cell BK156.out 3).trans rfl; have hcz55_4 : w53.cell? ⟨gb156, 4, none⟩ = some (.slice none 0 0) := (blk_cell BK156.out 4).trans rfl; have hfz55_0 := blk_frozen BK156.out 0; have hfz55_1 := blk_frozen BK156.out 1; have hfz55_2 := blk_frozen BK156.out 2; have hfz55_3 := blk_frozen BK156.out 3; have hfz55_4 := blk_frozen BK156.out 4; have hcz56_0 : w53.cell? ⟨gb146, 0, none⟩ = some (.string ((rd_T56 l1 x29_2).f0)) := (blk_cell BK146.out 0).trans rfl; have hcz56_1 : w53.cell? ⟨gb146, 1, none⟩ = some (.int .i64 ((rd_T56 l1 x29_2).f1)) := (blk_cell BK146.out 1).trans rfl; have hcz56_2 : w53.cell? ⟨gb146, 2, none⟩ = some (.int .i64 ((rd_T56 l1 x29_2).f2.f0)) := (blk_cell BK146.out 2).trans rfl; have hcz56_3 : w53.cell? ⟨gb146, 3, none⟩ = some (.int .i64 ((rd_T56 l1 x29_2).f2.f1)) := (blk_cell BK146.out 3).trans rfl; have hcz56_4 : w53.cell? ⟨gb146, 4, none⟩ = some (.slice A145_4 ((rd_T56 l1 x29_2).f2.f2).length c145_4) := (blk_cell BK146.out 4).trans rfl; have hfz56_0 := blk_frozen BK146.out 0; have hfz56_1 := blk_frozen BK146.out 1; have hfz56_2 := blk_frozen BK146.out 2; have hfz56_3 := blk_frozen BK146.out 3; have hfz56_4 := blk_frozen BK146.out 4))
                                          go_roundg k4
                                          case measure => have := HJ4.out; have := HK2.out; have := HJ13.out; have := HK4.out; omega
                                          case rel => exact ⟨(wrap64 (x76_4 + 1)), (by first | rfl | (simp; done) | (simp [*]; done)), H', ⟨by have := HJ4.out; have := HK2.out; have := HJ13.out; have := HK4.out; omega⟩, ⟨by (with_reducible repeat (first | refine blk_drewN ?_ _ | refine blk_drew ?_ | refine blk_alloc ?_ _)); refine blk_far ?_ NB146_156.out _; (with_reducible repeat (first | refine blk_drewN ?_ _ | refine blk_drew ?_ | refine blk_alloc ?_ _)); refine blk_far ?_ NB146_156.out _; (with_reducible repeat (first | refine blk_drewN ?_ _ | refine blk_drew ?_ | refine blk_alloc ?_ _)); refine blk_far ?_ NB146_156.out _; (with_reducible repeat (first | refine blk_drewN ?_ _ | refine blk_drew ?_ | refine blk_alloc ?_ _)); refine blk_far ?_ NB146_156.out _; (with_reducible repeat (first | refine blk_drewN ?_ _ | refine blk_drew ?_ | refine blk_alloc ?_ _)); refine blk_far ?_ NB146_156.out _; (with_reducible repeat (first | refine blk_drewN ?_ _ | refine blk_drew ?_ | refine blk_alloc ?_ _)); exact BK146.out⟩, ⟨by repeat (first | (with_reducible first | exact HB.out | apply below_alloc | apply pw_below_drewN | apply below_drew1 | refine below_set ?_ GE146.out | refine below_set ?_ GE156.out) | exact HB.out)⟩⟩
                                      · rw [if_neg c47] at H
                                        exact absurd H (by simp)
                                    · rw [if_neg c46] at H
                                      exact absurd H (by simp)
                                  · rw [if_neg c45] at H
                                    have c45b0 : decide (x76_4 < (y151.length : Int)) = false := decide_eq_false c45
                                    clear c45
                                    have H' := Aside0.mk H
                                    clear H
                                    go_wp2
                                    go_roundg k4
                                    case measure => have := HJ4.out; have := HK2.out; have := HJ13.out; have := HK4.out; omega
                                    case rel => exact ⟨(wrap64 (x29_2 + 1)), (by first | rfl | (simp; done) | (simp [*]; done)), H', ⟨by have := HJ4.out; have := HK2.out; have := HJ13.out; have := HK4.out; omega⟩, ⟨by repeat (first | (with_reducible first | exact HB.out | apply below_alloc | apply pw_below_drewN | apply below_drew1 | refine below_set ?_ GE146.out) | exact HB.out)⟩⟩
                            · rw [if_neg c43] at H
                              exact absurd H (by simp)
                          · rw [if_neg c42] at H
                            exact absurd H (by simp)
                  · rw [if_neg c13] at H
                    exact absurd H (by simp)
                · rw [if_neg c12] at H
                  exact absurd H (by simp)
              · rw [if_neg c11] at H
                have c11b0 : decide (x29_2 < (l1.length : Int)) = false := decide_eq_false c11
                clear c11
                obtain rfl := Option.some.inj H
                go_wp2
                go_ret
                exact ⟨by first | rfl | (simp [errW_none, errW_some] <;> rfl) | (simp [*, errW_none, errW_some] <;> rfl), by repeat (first | (with_reducible first | exact HB.out | apply below_alloc | apply pw_below_drewN | apply below_drew1) | exact HB.out)⟩
  · replace c4 := Bool.eq_false_iff.mpr c4
    subst c4
    have H1 : (some 2) = some r := by rw [if_neg (show ¬ (false = true) by decide)] at H; exact H
    clear H
    have H := H1
    clear H1
    obtain rfl := Option.some.inj H
    go_enter Try.func12, Try.ntmps12
    go_wp2_with (first | ((with_reducible refine gate_callee (f := 32) rfl ?_); refine goesL_ (some 10) rfl rfl Try.func32 (by kernel_rfl) rfl #[.slice A0 l0.length c0] rfl (by (try simp only [List.map_toArray, List.map_cons, List.map_nil]); first | done | rfl | (simp only [List.length_drop, List.length_take]; rfl)) ?_; (with_reducible refine (virgationref02_Symbols.calls k _ _ l0 false _ ?side1 ?side2 A3.out).mono ?_); (case side1 => repeat (first | exact HR0.out | (with_reducible refine Kd.C_alloc ?_ _) | (with_reducible refine Kd.C_drewN ?_ _) | (with_reducible refine Kd.C_drew ?_))); (case side2 => exact HC0.out); rintro e w57 ⟨rfl, hb⟩; refine ⟨_, rfl, ?_⟩; have n0_ := Aside0.mk (below_step (by repeat (first | (with_reducible first | exact HB.out | apply below_alloc | apply pw_below_drewN | apply below_drew1) | exact HB.out)) hb); clear HB; have HB := n0_; clear n0_; (try clear hb); (try clear hb2); (try clear hk); (try clear hi)))
    go_ret
    exact ⟨by first | rfl | (simp [errW_none, errW_some] <;> rfl) | (simp [*, errW_none, errW_some] <;> rfl), by repeat (first | (with_reducible first | exact HB.out | apply below_alloc | apply pw_below_drewN | apply below_drew1) | exact HB.out)⟩

end Go.Proofs.Ytfhgoebgnilfaaa.I
