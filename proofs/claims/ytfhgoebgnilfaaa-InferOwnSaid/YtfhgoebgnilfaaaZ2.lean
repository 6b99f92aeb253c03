/- Texts of this session's proof, laid together: I1, I2, IN, IH4, IH5, IH6, IH2, IK7, IQ1, IKM. -/
import Derived.Carry
import Derived.Maps.OwnSet
import Derived.Test.YtfhgoebgnilfaaaZ1
namespace Go.Proofs.Ytfhgoebgnilfaaa.I
open Go.RowKit Go.Proofs.YtfhgoebgnilfaaaW.PrintWords Go.Proofs.YtfhgoebgnilfaaaW.PrintLast Go.Proofs.YtfhgoebgnilfaaaW.PrintMore
attribute [local go_sem] max2_int min2_int max_two min_two max_three min_three max_four min_four   -- for this text's walks alone
set_option linter.unusedVariables false
set_option linter.unusedSimpArgs false
mutual
def term_Name.j0 : Nat → ByteArray → Bool → Option (Bool)
  | 0, _, _ => none
  | k + 1, x0, x22 => if x22 = true then (some false) else (term_Name.l0 k x0 (x0.size : Int) 0)
def term_Name.l0 : Nat → ByteArray → Int → Int → Option (Bool)
  | 0, _, _, _ => none
  | k + 1, x0, x24, x25 => if x25 < x24 then (if 0 ≤ x25 then (if x25 < (x0.size : Int) then (if (bt x0 x25) < 97 then (if (bt x0 x25) < 48 then (if (bt x0 x25) = 95 then (term_Name.l0 k x0 x24 (wrap64 (x25 + 1))) else (some false)) else (if (bt x0 x25) > 57 then (if (bt x0 x25) = 95 then (term_Name.l0 k x0 x24 (wrap64 (x25 + 1))) else (some false)) else (term_Name.l0 k x0 x24 (wrap64 (x25 + 1))))) else (if (bt x0 x25) > 122 then (if (bt x0 x25) < 48 then (if (bt x0 x25) = 95 then (term_Name.l0 k x0 x24 (wrap64 (x25 + 1))) else (some false)) else (if (bt x0 x25) > 57 then (if (bt x0 x25) = 95 then (term_Name.l0 k x0 x24 (wrap64 (x25 + 1))) else (some false)) else (term_Name.l0 k x0 x24 (wrap64 (x25 + 1))))) else (term_Name.l0 k x0 x24 (wrap64 (x25 + 1))))) else (none)) else (none)) else (some true)
end
def term_Name.f (k : Nat) (a0 : ByteArray) : Option (Bool) := if (a0.size : Int) = 0 then (term_Name.j0 k a0 true) else (if (a0.size : Int) > 24 then (term_Name.j0 k a0 true) else (if 0 < (a0.size : Int) then (if (bt a0 0) < 97 then (term_Name.j0 k a0 true) else (term_Name.j0 k a0 (decide ((bt a0 0) > 122)))) else (none)))
theorem term_Name.mono_l : ∀ k, (∀ y0 y1, LeO (term_Name.j0 k y0 y1) (term_Name.j0 (k + 1) y0 y1)) ∧ (∀ y0 y1 y2, LeO (term_Name.l0 k y0 y1 y2) (term_Name.l0 (k + 1) y0 y1 y2))
  | 0 => ⟨fun _ _ r h => by simp [term_Name.j0] at h, fun _ _ _ r h => by simp [term_Name.l0] at h⟩
  | k + 1 => by
    obtain ⟨ih0, ih1⟩ := term_Name.mono_l k
    refine ⟨?_, ?_⟩
    · intro y0 y1
      unfold term_Name.j0
      repeat' first
      | (with_reducible exact ih0 _ _)
      | (with_reducible exact ih1 _ _ _)
      | (with_reducible exact LeO.refl _)
      | (with_reducible exact LeO.none _)
      | (with_reducible refine LeO.ite ?_ ?_)
      | (with_reducible refine LeO.bind ?_ (fun _ => ?_))
      | exact ih0 _ _
      | exact ih1 _ _ _
      | exact LeO.none _
      | refine LeO.ite ?_ ?_
      | refine LeO.bind ?_ (fun _ => ?_)
    · intro y0 y1 y2
      unfold term_Name.l0
      repeat' first
      | (with_reducible exact ih0 _ _)
      | (with_reducible exact ih1 _ _ _)
      | (with_reducible exact LeO.refl _)
      | (with_reducible exact LeO.none _)
      | (with_reducible refine LeO.ite ?_ ?_)
      | (with_reducible refine LeO.bind ?_ (fun _ => ?_))
      | exact ih0 _ _
      | exact ih1 _ _ _
      | exact LeO.none _
      | refine LeO.ite ?_ ?_
      | refine LeO.bind ?_ (fun _ => ?_)
theorem term_Name.mono : ∀ a0 k, LeO (term_Name.f k a0) (term_Name.f (k + 1) a0) := by
  intro a0 k
  obtain ⟨ih0, ih1⟩ := term_Name.mono_l k
  unfold term_Name.f
  repeat' first
      | (with_reducible exact ih0 _ _)
      | (with_reducible exact ih1 _ _ _)
      | (with_reducible exact LeO.refl _)
      | (with_reducible exact LeO.none _)
      | (with_reducible refine LeO.ite ?_ ?_)
      | (with_reducible refine LeO.bind ?_ (fun _ => ?_))
      | exact ih0 _ _
      | exact ih1 _ _ _
      | exact LeO.none _
      | refine LeO.ite ?_ ?_
      | refine LeO.bind ?_ (fun _ => ?_)
set_option maxHeartbeats 8000000 in
set_option maxRecDepth 100000 in
theorem term_Name.calls (k : Nat) (a0 : ByteArray) (r : Bool) (w : World) (h : term_Name.f k a0 = some r) :
    Calls Try.prog 30 #[.string a0] w fun e w' => e = .returned (.bool r) ∧ Drawn0 w w' := by
  have H : (if (a0.size : Int) = 0 then (term_Name.j0 k a0 true) else (if (a0.size : Int) > 24 then (term_Name.j0 k a0 true) else (if 0 < (a0.size : Int) then (if (bt a0 0) < 97 then (term_Name.j0 k a0 true) else (term_Name.j0 k a0 (decide ((bt a0 0) > 122)))) else (none)))) = some r := h
  clear h
  have HC2 := Aside0.mk H
  clear H
  go_enter Try.func30, Try.ntmps30
  go_upto_region 1 with (fail)
  go_cut [22] (fun v22 wc => ∃ (kq : Nat) (x22_1 : Bool), v22 = .bool x22_1 ∧ Aside0 (term_Name.j0 kq a0 x22_1 = some r) ∧ Aside0 (kq ≤ k) ∧ Drawn0 w wc)
  case first =>
    have H := HC2.out
    clear HC2
    by_cases c3 : (a0.size : Int) = 0
    · rw [if_pos c3] at H
      have c3b0 : ((a0.size : Int) == 0) = true := beq_iff_eq.mpr c3
      have c3b1 : ((a0.size : Int) != 0) = false := bne_eq_false_iff_eq.mpr c3
      clear c3
      (first | rw [c3b0] | (simp only [i64_w, i32_w]; rw [c3b0]) | skip)
      have H' := Aside0.mk H
      clear H
      go_wp2
      go_meet
      case rel => exact ⟨_, (true), (by first | rfl | (simp; done) | (simp [*]; done)), H', ⟨by first | omega | exact Nat.le_refl _⟩, by repeat (first | exact Drawn0.refl _ | apply Drawn0.step)⟩
    · rw [if_neg c3] at H
      have c3b0 : ((a0.size : Int) == 0) = false := beq_eq_false_iff_ne.mpr c3
      have c3b1 : ((a0.size : Int) != 0) = true := bne_iff_ne.mpr c3
      (first | rw [c3b0] | (simp only [i64_w, i32_w]; rw [c3b0]) | skip)
      by_cases c4 : (a0.size : Int) > 24
      · rw [if_pos c4] at H
        have c4b0 : decide (24 < (a0.size : Int)) = true := decide_eq_true c4
        have c4b1 : decide (24 < a0.size) = true := decide_eq_true (by omega)
        clear c4
        have H' := Aside0.mk H
        clear H
        go_wp2
        go_meet
        case rel => exact ⟨_, (true), (by first | rfl | (simp; done) | (simp [*]; done)), H', ⟨by first | omega | exact Nat.le_refl _⟩, by repeat (first | exact Drawn0.refl _ | apply Drawn0.step)⟩
      · rw [if_neg c4] at H
        have c4b0 : decide (24 < (a0.size : Int)) = false := decide_eq_false c4
        have c4b1 : decide (24 < a0.size) = false := decide_eq_false (by omega)
        clear c4
        by_cases c5 : 0 < (a0.size : Int)
        · rw [if_pos c5] at H
          have c5b0 : decide (0 < (a0.size : Int)) = true := decide_eq_true c5
          have c5b1 : decide (0 < a0.size) = true := decide_eq_true (by omega)
          clear c5
          by_cases c7 : (bt a0 0) < 97
          · rw [if_pos c7] at H
            have c7b0 : decide ((bt a0 0) < 97) = true := decide_eq_true c7
            clear c7
            have H' := Aside0.mk H
            clear H
            have p6 : 0 ≤ (0 : Int) := (by omega)
            have q6 : 0 < a0.size := (by have : (0 : Int) < (a0.size : Int) := of_decide_eq_true (by first | (with_reducible assumption) | assumption); omega)
            have hx6 : ∀ h : 0 < a0.size, ((a0[0]'h).toNat : Int) = bt a0 0 := bt_at a0 0
            clear p6
            have qi6 : (0 < (a0.size : Int)) = True := eq_true (of_decide_eq_true (by first | (with_reducible assumption) | assumption))
            replace q6 := eq_true q6
            go_wp2
            go_meet
            case rel => exact ⟨_, (true), (by first | rfl | (simp; done) | (simp [*]; done)), H', ⟨by first | omega | exact Nat.le_refl _⟩, by repeat (first | exact Drawn0.refl _ | apply Drawn0.step)⟩
          · rw [if_neg c7] at H
            have c7b0 : decide ((bt a0 0) < 97) = false := decide_eq_false c7
            clear c7
            have H' := Aside0.mk H
            clear H
            have p6 : 0 ≤ (0 : Int) := (by omega)
            have q6 : 0 < a0.size := (by have : (0 : Int) < (a0.size : Int) := of_decide_eq_true (by first | (with_reducible assumption) | assumption); omega)
            have hx6 : ∀ h : 0 < a0.size, ((a0[0]'h).toNat : Int) = bt a0 0 := bt_at a0 0
            clear p6
            have qi6 : (0 < (a0.size : Int)) = True := eq_true (of_decide_eq_true (by first | (with_reducible assumption) | assumption))
            replace q6 := eq_true q6
            have p8 : 0 ≤ (0 : Int) := (by omega)
            have q8 : 0 < a0.size := (by have : (0 : Int) < (a0.size : Int) := of_decide_eq_true (by first | (with_reducible assumption) | assumption); omega)
            have hx8 : ∀ h : 0 < a0.size, ((a0[0]'h).toNat : Int) = bt a0 0 := bt_at a0 0
            clear p8
            have qi8 : (0 < (a0.size : Int)) = True := eq_true (of_decide_eq_true (by first | (with_reducible assumption) | assumption))
            replace q8 := eq_true q8
            go_wp2
            go_meet
            case rel => exact ⟨_, (decide ((bt a0 0) > 122)), (by first | rfl | (simp; done) | (simp [*]; done)), H', ⟨by first | omega | exact Nat.le_refl _⟩, by repeat (first | exact Drawn0.refl _ | apply Drawn0.step)⟩
        · rw [if_neg c5] at H
          exact absurd H (by simp)
  case rest =>
    clear HC2
    try clear p2
    try clear c3
    try clear c3b0
    try clear c3b1
    try clear c4
    try clear c4b0
    try clear c4b1
    try clear c5
    try clear c5b0
    try clear c5b1
    try clear p6
    try clear q6
    try clear hx6
    try clear qi6
    try clear c7
    try clear c7b0
    try clear p8
    try clear q8
    try clear hx8
    try clear qi8
    try clear p6
    try clear p8
    try clear q6
    try clear q8
    obtain ⟨kq, x22_1, rfl, HA, HJ1, ⟨mc1, rfl⟩⟩ := hcut
    cases kq with
    | zero => exact absurd HA.out (by simp [term_Name.j0])
    | succ kj1 =>
      have H := HA.out
      clear HA
      simp only [term_Name.j0] at H
      by_cases c9 : x22_1 = true
      · subst c9
        have H1 : (some false) = some r := by rw [if_pos rfl] at H; exact H
        clear H
        have H := H1
        clear H1
        obtain rfl := Option.some.inj H
        go_wp2
        go_ret
        exact ⟨by first | rfl | (simp; done) | (simp [*]; done), by repeat (first | exact Drawn0.refl _ | apply Drawn0.step)⟩
      · replace c9 := Bool.eq_false_iff.mpr c9
        subst c9
        have H1 : (term_Name.l0 kj1 a0 (a0.size : Int) 0) = some r := by rw [if_neg (show ¬ (false = true) by decide)] at H; exact H
        clear H
        have H := H1
        clear H1
        have H' := Aside0.mk H
        clear H
        go_wp2
        go_loopg [25] kj1 (fun kq v25 w' => ∃ (x25_2 : Int), v25 = .int .i64 x25_2 ∧ Aside0 (term_Name.l0 kq a0 (a0.size : Int) x25_2 = some r) ∧ Aside0 (kq ≤ kj1) ∧ Drawn0 w w')
        case atStart => exact ⟨(0), (by first | rfl | (simp; done) | (simp [*]; done)), H', ⟨Nat.le_refl _⟩, by repeat (first | exact Drawn0.refl _ | apply Drawn0.step)⟩
        case round =>
          clear H'
          try clear c1
          try clear p2
          try clear c3
          try clear c3b0
          try clear c3b1
          try clear c4
          try clear c4b0
          try clear c4b1
          try clear c5
          try clear c5b0
          try clear c5b1
          try clear p6
          try clear q6
          try clear hx6
          try clear qi6
          try clear c7
          try clear c7b0
          try clear p8
          try clear q8
          try clear hx8
          try clear qi8
          try clear c9
          try clear p2
          try clear p6
          try clear p8
          try clear q6
          try clear q8
          obtain ⟨x25_2, rfl, HA, HK2, ⟨m2, rfl⟩⟩ := hrel
          cases gk with
          | zero => exact absurd HA.out (by simp [term_Name.l0])
          | succ k2 =>
            have H := HA.out
            clear HA
            simp only [term_Name.l0] at H
            by_cases c10 : x25_2 < (a0.size : Int)
            · rw [if_pos c10] at H
              have c10b0 : decide (x25_2 < (a0.size : Int)) = true := decide_eq_true c10
              clear c10
              by_cases c11 : 0 ≤ x25_2
              · rw [if_pos c11] at H
                have c11b0 : decide (0 ≤ x25_2) = true := decide_eq_true c11
                clear c11
                by_cases c12 : x25_2 < (a0.size : Int)
                · rw [if_pos c12] at H
                  have c12b0 : decide (x25_2 < (a0.size : Int)) = true := decide_eq_true c12
                  clear c12
                  by_cases c14 : (bt a0 x25_2) < 97
                  · rw [if_pos c14] at H
                    have c14b0 : decide ((bt a0 x25_2) < 97) = true := decide_eq_true c14
                    clear c14
                    by_cases c15 : (bt a0 x25_2) < 48
                    · rw [if_pos c15] at H
                      have c15b0 : decide ((bt a0 x25_2) < 48) = true := decide_eq_true c15
                      clear c15
                      by_cases c16 : (bt a0 x25_2) = 95
                      · rw [if_pos c16] at H
                        have c16b0 : ((bt a0 x25_2) == 95) = true := beq_iff_eq.mpr c16
                        have c16b1 : ((bt a0 x25_2) != 95) = false := bne_eq_false_iff_eq.mpr c16
                        clear c16
                        have H' := Aside0.mk H
                        clear H
                        have p13 : 0 ≤ (x25_2 : Int) := of_decide_eq_true (by first | (with_reducible assumption) | assumption)
                        have q13 : x25_2 < (a0.size : Int) := of_decide_eq_true (by first | (with_reducible assumption) | assumption)
                        have hx13 := bt_at a0 x25_2
                        replace p13 := eq_true p13
                        replace q13 := eq_true q13
                        go_wp2
                        go_roundg k2
                        case measure => have := HJ1.out; have := HK2.out; omega
                        case rel => exact ⟨(wrap64 (x25_2 + 1)), (by first | rfl | (simp; done) | (simp [*]; done)), H', ⟨by have := HJ1.out; have := HK2.out; omega⟩, by repeat (first | exact Drawn0.refl _ | apply Drawn0.step)⟩
                      · rw [if_neg c16] at H
                        have c16b0 : ((bt a0 x25_2) == 95) = false := beq_eq_false_iff_ne.mpr c16
                        have c16b1 : ((bt a0 x25_2) != 95) = true := bne_iff_ne.mpr c16
                        obtain rfl := Option.some.inj H
                        have p13 : 0 ≤ (x25_2 : Int) := of_decide_eq_true (by first | (with_reducible assumption) | assumption)
                        have q13 : x25_2 < (a0.size : Int) := of_decide_eq_true (by first | (with_reducible assumption) | assumption)
                        have hx13 := bt_at a0 x25_2
                        replace p13 := eq_true p13
                        replace q13 := eq_true q13
                        go_wp2
                        go_ret
                        exact ⟨by first | rfl | (simp; done) | (simp [*]; done), by repeat (first | exact Drawn0.refl _ | apply Drawn0.step)⟩
                    · rw [if_neg c15] at H
                      have c15b0 : decide ((bt a0 x25_2) < 48) = false := decide_eq_false c15
                      clear c15
                      by_cases c17 : (bt a0 x25_2) > 57
                      · rw [if_pos c17] at H
                        have c17b0 : decide (57 < (bt a0 x25_2)) = true := decide_eq_true c17
                        clear c17
                        by_cases c18 : (bt a0 x25_2) = 95
                        · rw [if_pos c18] at H
                          have c18b0 : ((bt a0 x25_2) == 95) = true := beq_iff_eq.mpr c18
                          have c18b1 : ((bt a0 x25_2) != 95) = false := bne_eq_false_iff_eq.mpr c18
                          clear c18
                          have H' := Aside0.mk H
                          clear H
                          have p13 : 0 ≤ (x25_2 : Int) := of_decide_eq_true (by first | (with_reducible assumption) | assumption)
                          have q13 : x25_2 < (a0.size : Int) := of_decide_eq_true (by first | (with_reducible assumption) | assumption)
                          have hx13 := bt_at a0 x25_2
                          replace p13 := eq_true p13
                          replace q13 := eq_true q13
                          go_wp2
                          go_roundg k2
                          case measure => have := HJ1.out; have := HK2.out; omega
                          case rel => exact ⟨(wrap64 (x25_2 + 1)), (by first | rfl | (simp; done) | (simp [*]; done)), H', ⟨by have := HJ1.out; have := HK2.out; omega⟩, by repeat (first | exact Drawn0.refl _ | apply Drawn0.step)⟩
                        · rw [if_neg c18] at H
                          have c18b0 : ((bt a0 x25_2) == 95) = false := beq_eq_false_iff_ne.mpr c18
                          have c18b1 : ((bt a0 x25_2) != 95) = true := bne_iff_ne.mpr c18
                          obtain rfl := Option.some.inj H
                          have p13 : 0 ≤ (x25_2 : Int) := of_decide_eq_true (by first | (with_reducible assumption) | assumption)
                          have q13 : x25_2 < (a0.size : Int) := of_decide_eq_true (by first | (with_reducible assumption) | assumption)
                          have hx13 := bt_at a0 x25_2
                          replace p13 := eq_true p13
                          replace q13 := eq_true q13
                          go_wp2
                          go_ret
                          exact ⟨by first | rfl | (simp; done) | (simp [*]; done), by repeat (first | exact Drawn0.refl _ | apply Drawn0.step)⟩
                      · rw [if_neg c17] at H
                        have c17b0 : decide (57 < (bt a0 x25_2)) = false := decide_eq_false c17
                        clear c17
                        have H' := Aside0.mk H
                        clear H
                        have p13 : 0 ≤ (x25_2 : Int) := of_decide_eq_true (by first | (with_reducible assumption) | assumption)
                        have q13 : x25_2 < (a0.size : Int) := of_decide_eq_true (by first | (with_reducible assumption) | assumption)
                        have hx13 := bt_at a0 x25_2
                        replace p13 := eq_true p13
                        replace q13 := eq_true q13
                        go_wp2
                        go_roundg k2
                        case measure => have := HJ1.out; have := HK2.out; omega
                        case rel => exact ⟨(wrap64 (x25_2 + 1)), (by first | rfl | (simp; done) | (simp [*]; done)), H', ⟨by have := HJ1.out; have := HK2.out; omega⟩, by repeat (first | exact Drawn0.refl _ | apply Drawn0.step)⟩
                  · rw [if_neg c14] at H
                    have c14b0 : decide ((bt a0 x25_2) < 97) = false := decide_eq_false c14
                    clear c14
                    by_cases c19 : (bt a0 x25_2) > 122
                    · rw [if_pos c19] at H
                      have c19b0 : decide (122 < (bt a0 x25_2)) = true := decide_eq_true c19
                      clear c19
                      by_cases c20 : (bt a0 x25_2) < 48
                      · rw [if_pos c20] at H
                        have c20b0 : decide ((bt a0 x25_2) < 48) = true := decide_eq_true c20
                        clear c20
                        by_cases c21 : (bt a0 x25_2) = 95
                        · rw [if_pos c21] at H
                          have c21b0 : ((bt a0 x25_2) == 95) = true := beq_iff_eq.mpr c21
                          have c21b1 : ((bt a0 x25_2) != 95) = false := bne_eq_false_iff_eq.mpr c21
                          clear c21
                          have H' := Aside0.mk H
                          clear H
                          have p13 : 0 ≤ (x25_2 : Int) := of_decide_eq_true (by first | (with_reducible assumption) | assumption)
                          have q13 : x25_2 < (a0.size : Int) := of_decide_eq_true (by first | (with_reducible assumption) | assumption)
                          have hx13 := bt_at a0 x25_2
                          replace p13 := eq_true p13
                          replace q13 := eq_true q13
                          go_wp2
                          go_roundg k2
                          case measure => have := HJ1.out; have := HK2.out; omega
                          case rel => exact ⟨(wrap64 (x25_2 + 1)), (by first | rfl | (simp; done) | (simp [*]; done)), H', ⟨by have := HJ1.out; have := HK2.out; omega⟩, by repeat (first | exact Drawn0.refl _ | apply Drawn0.step)⟩
                        · rw [if_neg c21] at H
                          have c21b0 : ((bt a0 x25_2) == 95) = false := beq_eq_false_iff_ne.mpr c21
                          have c21b1 : ((bt a0 x25_2) != 95) = true := bne_iff_ne.mpr c21
                          obtain rfl := Option.some.inj H
                          have p13 : 0 ≤ (x25_2 : Int) := of_decide_eq_true (by first | (with_reducible assumption) | assumption)
                          have q13 : x25_2 < (a0.size : Int) := of_decide_eq_true (by first | (with_reducible assumption) | assumption)
                          have hx13 := bt_at a0 x25_2
                          replace p13 := eq_true p13
                          replace q13 := eq_true q13
                          go_wp2
                          go_ret
                          exact ⟨by first | rfl | (simp; done) | (simp [*]; done), by repeat (first | exact Drawn0.refl _ | apply Drawn0.step)⟩
                      · rw [if_neg c20] at H
                        have c20b0 : decide ((bt a0 x25_2) < 48) = false := decide_eq_false c20
                        clear c20
                        by_cases c22 : (bt a0 x25_2) > 57
                        · rw [if_pos c22] at H
                          have c22b0 : decide (57 < (bt a0 x25_2)) = true := decide_eq_true c22
                          clear c22
                          by_cases c23 : (bt a0 x25_2) = 95
                          · rw [if_pos c23] at H
                            have c23b0 : ((bt a0 x25_2) == 95) = true := beq_iff_eq.mpr c23
                            have c23b1 : ((bt a0 x25_2) != 95) = false := bne_eq_false_iff_eq.mpr c23
                            clear c23
                            have H' := Aside0.mk H
                            clear H
                            have p13 : 0 ≤ (x25_2 : Int) := of_decide_eq_true (by first | (with_reducible assumption) | assumption)
                            have q13 : x25_2 < (a0.size : Int) := of_decide_eq_true (by first | (with_reducible assumption) | assumption)
                            have hx13 := bt_at a0 x25_2
                            replace p13 := eq_true p13
                            replace q13 := eq_true q13
                            go_wp2
                            go_roundg k2
                            case measure => have := HJ1.out; have := HK2.out; omega
                            case rel => exact ⟨(wrap64 (x25_2 + 1)), (by first | rfl | (simp; done) | (simp [*]; done)), H', ⟨by have := HJ1.out; have := HK2.out; omega⟩, by repeat (first | exact Drawn0.refl _ | apply Drawn0.step)⟩
                          · rw [if_neg c23] at H
                            have c23b0 : ((bt a0 x25_2) == 95) = false := beq_eq_false_iff_ne.mpr c23
                            have c23b1 : ((bt a0 x25_2) != 95) = true := bne_iff_ne.mpr c23
                            obtain rfl := Option.some.inj H
                            have p13 : 0 ≤ (x25_2 : Int) := of_decide_eq_true (by first | (with_reducible assumption) | assumption)
                            have q13 : x25_2 < (a0.size : Int) := of_decide_eq_true (by first | (with_reducible assumption) | assumption)
                            have hx13 := bt_at a0 x25_2
                            replace p13 := eq_true p13
                            replace q13 := eq_true q13
                            go_wp2
                            go_ret
                            exact ⟨by first | rfl | (simp; done) | (simp [*]; done), by repeat (first | exact Drawn0.refl _ | apply Drawn0.step)⟩
                        · rw [if_neg c22] at H
                          have c22b0 : decide (57 < (bt a0 x25_2)) = false := decide_eq_false c22
                          clear c22
                          have H' := Aside0.mk H
                          clear H
                          have p13 : 0 ≤ (x25_2 : Int) := of_decide_eq_true (by first | (with_reducible assumption) | assumption)
                          have q13 : x25_2 < (a0.size : Int) := of_decide_eq_true (by first | (with_reducible assumption) | assumption)
                          have hx13 := bt_at a0 x25_2
                          replace p13 := eq_true p13
                          replace q13 := eq_true q13
                          go_wp2
                          go_roundg k2
                          case measure => have := HJ1.out; have := HK2.out; omega
                          case rel => exact ⟨(wrap64 (x25_2 + 1)), (by first | rfl | (simp; done) | (simp [*]; done)), H', ⟨by have := HJ1.out; have := HK2.out; omega⟩, by repeat (first | exact Drawn0.refl _ | apply Drawn0.step)⟩
                    · rw [if_neg c19] at H
                      have c19b0 : decide (122 < (bt a0 x25_2)) = false := decide_eq_false c19
                      clear c19
                      have H' := Aside0.mk H
                      clear H
                      have p13 : 0 ≤ (x25_2 : Int) := of_decide_eq_true (by first | (with_reducible assumption) | assumption)
                      have q13 : x25_2 < (a0.size : Int) := of_decide_eq_true (by first | (with_reducible assumption) | assumption)
                      have hx13 := bt_at a0 x25_2
                      replace p13 := eq_true p13
                      replace q13 := eq_true q13
                      go_wp2
                      go_roundg k2
                      case measure => have := HJ1.out; have := HK2.out; omega
                      case rel => exact ⟨(wrap64 (x25_2 + 1)), (by first | rfl | (simp; done) | (simp [*]; done)), H', ⟨by have := HJ1.out; have := HK2.out; omega⟩, by repeat (first | exact Drawn0.refl _ | apply Drawn0.step)⟩
                · rw [if_neg c12] at H
                  exact absurd H (by simp)
              · rw [if_neg c11] at H
                exact absurd H (by simp)
            · rw [if_neg c10] at H
              have c10b0 : decide (x25_2 < (a0.size : Int)) = false := decide_eq_false c10
              clear c10
              obtain rfl := Option.some.inj H
              go_wp2
              go_ret
              exact ⟨by first | rfl | (simp; done) | (simp [*]; done), by repeat (first | exact Drawn0.refl _ | apply Drawn0.step)⟩
def virgationlaw04_term.f (a0 : Int) (a1 : Int) (l2 : List (S44)) : Option (Int × Int × (List (S44))) := some (a0, a1, l2)
def virgationlaw04_given.l0 : Nat → List (S48) → List (S56) → Int → Int → Option ((List (S48)))
  | 0, _, _, _, _ => none
  | k + 1, x3, x6, x7, x8 => if x8 < x7 then (if 0 ≤ x8 then (if x8 < (x6.length : Int) then (if x3.length < 2199023255552 then (virgationlaw04_given.l0 k (x3 ++ [(⟨(rd_T56 x6 x8).f0, (rd_T56 x6 x8).f1, (⟨(rd_T56 x6 x8).f2.f0, (rd_T56 x6 x8).f2.f1, (rd_T56 x6 x8).f2.f2⟩ : S44)⟩ : S48)]) x6 x7 (wrap64 (x8 + 1))) else (none)) else (none)) else (none)) else (some x3)
def virgationlaw04_given.f (k : Nat) (l0 : List (S56)) : Option ((List (S48))) := virgationlaw04_given.l0 k ([] : List (S48)) l0 (l0.length : Int) 0
theorem virgationlaw04_given.mono_l : ∀ k, (∀ y0 y1 y2 y3, LeO (virgationlaw04_given.l0 k y0 y1 y2 y3) (virgationlaw04_given.l0 (k + 1) y0 y1 y2 y3))
  | 0 => fun _ _ _ _ r h => by simp [virgationlaw04_given.l0] at h
  | k + 1 => by
    have ih0 := virgationlaw04_given.mono_l k
    · intro y0 y1 y2 y3
      unfold virgationlaw04_given.l0
      repeat' first
      | (with_reducible exact ih0 _ _ _ _)
      | (with_reducible exact LeO.refl _)
      | (with_reducible exact LeO.none _)
      | (with_reducible refine LeO.ite ?_ ?_)
      | (with_reducible refine LeO.bind ?_ (fun _ => ?_))
      | exact ih0 _ _ _ _
      | exact LeO.none _
      | refine LeO.ite ?_ ?_
      | refine LeO.bind ?_ (fun _ => ?_)
theorem virgationlaw04_given.mono : ∀ a0 k, LeO (virgationlaw04_given.f k a0) (virgationlaw04_given.f (k + 1) a0) := by
  intro a0 k
  have ih0 := virgationlaw04_given.mono_l k
  unfold virgationlaw04_given.f
  repeat' first
      | (with_reducible exact ih0 _ _ _ _)
      | (with_reducible exact LeO.refl _)
      | (with_reducible exact LeO.none _)
      | (with_reducible refine LeO.ite ?_ ?_)
      | (with_reducible refine LeO.bind ?_ (fun _ => ?_))
      | exact ih0 _ _ _ _
      | exact LeO.none _
      | refine LeO.ite ?_ ?_
      | refine LeO.bind ?_ (fun _ => ?_)
set_option maxHeartbeats 8000000 in
set_option maxRecDepth 100000 in
theorem virgationlaw04_given.calls (k : Nat) (P0_ : Nat → Prop) (A0 : Option Addr) (c0 : Nat) (l0 : List (S56)) (r : List (S48)) (w : World) (hs0 : Kd.V k56 56 w w.heap.size (fun k_ => P0_ k_) (.slice A0 l0.length c0) l0) (h : virgationlaw04_given.f k l0 = some r) :
    Calls Try.prog 11 #[.slice A0 l0.length c0] w fun e w' => ∃ v0_ : Value, e = .returned (v0_) ∧ Kd.N k48 48 w' w.heap.size (fun k_ => (P0_ k_ ∨ w.heap.size ≤ k_)) v0_ r ∧ Below w.heap.size w w' := by
  have hu56 := Try.underlying56
  have hu44 := Try.underlying44
  have hu48 := Try.underlying48
  have HO0 := Aside0.mk (show Kd.V k56 56 w w.heap.size (fun k_ => (P0_ k_ ∨ w.heap.size ≤ k_)) (.slice A0 l0.length c0) l0 from Kd.V_mono hs0 (fun k_ hk => .inl hk))
  have HB := Aside0.mk (Below.refl w.heap.size w)
  have H : (virgationlaw04_given.l0 k ([] : List (S48)) l0 (l0.length : Int) 0) = some r := h
  clear h
  have H' := Aside0.mk H
  clear H
  go_enter Try.func11, Try.ntmps11
  go_wp2
  go_loopg [3, 8] k (fun kq v3 v8 w' => ∃ (x3_1 : List (S48)) (x8_1 : Int), v8 = .int .i64 x8_1 ∧ Aside0 (virgationlaw04_given.l0 kq x3_1 l0 (l0.length : Int) x8_1 = some r) ∧ Aside0 (kq ≤ k) ∧ Aside0 (Kd.N k48 48 w' w.heap.size (fun k_ => (P0_ k_ ∨ w.heap.size ≤ k_)) v3 x3_1) ∧ Aside0 (Kd.V k56 56 w' w.heap.size (fun k_ => (P0_ k_ ∨ w.heap.size ≤ k_) ∧ some k_ ≠ (v3 : Value).ownBlock) (.slice A0 l0.length c0) l0) ∧ Aside0 (Below w.heap.size w w'))
  case atStart => exact ⟨(([] : List (S48))), (0), (by first | rfl | (simp; done) | (simp [*]; done)), H', ⟨Nat.le_refl _⟩, ⟨by first | exact Kd.R_nil _ _ _ _ _ | exact Kd.N_nil _ _ _ _ _ | exact Kd.V_nil _ _ _ _ _ | exact Kd.Q_nil _ _ _ _ _ | exact Kd.S_nil _ _ _ _ _⟩, ⟨by (with_reducible repeat (first | apply Kd.V_alloc | apply Kd.V_drewN | apply Kd.V_drew)); exact Kd.V_mono HO0.out (fun _ hk => ⟨hk, (by simp [Value.ownBlock])⟩)⟩, ⟨by repeat (first | (with_reducible first | exact HB.out | apply below_alloc | apply pw_below_drewN | apply below_drew1) | exact HB.out)⟩⟩
  case round =>
    clear H'
    try clear c1
    obtain ⟨x3_1, x8_1, rfl, HA, HK1, HO_3, HO_6, HB⟩ := hrel
    cases gk with
    | zero => exact absurd HA.out (by simp [virgationlaw04_given.l0])
    | succ k1 =>
      have H := HA.out
      clear HA
      simp only [virgationlaw04_given.l0] at H
      by_cases c2 : x8_1 < (l0.length : Int)
      · rw [if_pos c2] at H
        have c2b0 : decide (x8_1 < (l0.length : Int)) = true := decide_eq_true c2
        clear c2
        by_cases c3 : 0 ≤ x8_1
        · rw [if_pos c3] at H
          have c3b0 : decide (0 ≤ x8_1) = true := decide_eq_true c3
          clear c3
          by_cases c4 : x8_1 < (l0.length : Int)
          · rw [if_pos c4] at H
            have c4b0 : decide (x8_1 < (l0.length : Int)) = true := decide_eq_true c4
            clear c4
            by_cases c5 : x3_1.length < 2199023255552
            · rw [if_pos c5] at H
              have LMc5 := Aside0.mk c5
              clear c5
              obtain ⟨y120, hy120⟩ : ∃ y_ : List (S48), y_ = (x3_1 ++ [(⟨(rd_T56 l0 x8_1).f0, (rd_T56 l0 x8_1).f1, (⟨(rd_T56 l0 x8_1).f2.f0, (rd_T56 l0 x8_1).f2.f1, (rd_T56 l0 x8_1).f2.f2⟩ : S44)⟩ : S48)]) := ⟨_, rfl⟩
              replace H : (virgationlaw04_given.l0 k1 y120 l0 (l0.length : Int) (wrap64 (x8_1 + 1))) = some r := by first | (rw [hy120]; with_reducible exact H) | (have H2_ := (Option.bind_some _ _).symm.trans H; rw [hy120]; with_reducible exact H2_) | (have H2_ := (Option.bind_some _ _).symm.trans H; with_reducible exact H2_) | with_reducible exact H | (rw [hy120]; exact H) | exact H
              have Ny120 := Aside0.mk hy120
              clear hy120
              have H' := Aside0.mk H
              clear H
              have p118 : 0 ≤ (x8_1 : Int) := of_decide_eq_true (by first | (with_reducible assumption) | assumption)
              have q118 : x8_1 < (l0.length : Int) := of_decide_eq_true (by first | (with_reducible assumption) | assumption)
              obtain ⟨ad118, A118_4, c118_4, e118, hx118_0, hx118_1, hx118_2, hx118_3, hx118_4, hl118_4, hi118_4⟩ := at_T56 (Kd.V_reads' HO_6.out).2.2 x8_1 p118 q118
              cases e118
              obtain ⟨ce118, hce118, hMe118, hcc118⟩ := Kd.V_get HO_6.out z56 x8_1 p118 (by first | exact q118 | exact of_decide_eq_true (by first | (with_reducible assumption) | assumption) | (have e_ := (Kd.V_reads' HO_6.out).1; omega))
              obtain ⟨ua118_4, uc118_4, rfl, ul118_4, ge118_4⟩ := k56_openF hMe118
              have hv118_4 := hcc118 4 _ rfl
              rw [add_field _ _ 4 (by omega)] at hv118_4
              replace hv118_4 := Option.some.inj (hv118_4.symm.trans hx118_4)
              injection hv118_4 with hva_ hvn_ hvc_
              rw [hva_] at ge118_4
              rw [hvc_] at ul118_4
              have HL118_4 := Aside0.mk (show Kd.V k44 44 _ w.heap.size _ _ ((rd_T56 l0 x8_1).f2.f2) from Kd.V_mk ul118_4 ge118_4)
              clear hva_ hvn_ hvc_ ge118_4 ul118_4
              clear hcc118 hce118
              have HR118_4 := Aside0.mk hi118_4
              have HC118_4 := Aside0.mk hl118_4
              clear hi118_4 hl118_4
              replace p118 := eq_true p118
              replace q118 := eq_true q118
              go_wp2_with (first | ((with_reducible refine gate_dst (N := 5) rfl ?_); refine box_event ?hg (N := 5) ?hd (cs := #[.string (⟨#[]⟩ : ByteArray), .int .i64 0, .int .i64 0, .int .i64 0, .slice none 0 0]) (t := 56) ?hr ?_; (case hd => rfl); (case hg => rfl); (case hr => first | (go_simp; done) | (go_simp; rfl)); intro gb119 hg w6 hbox hb; have n0_ := Aside0.mk (Kd.N_below (Kd.N_elderB (by (with_reducible repeat (first | apply Kd.N_alloc | apply Kd.N_drewN | apply Kd.N_drew)); exact HO_3.out) gb119 (Nat.le_of_eq hg.symm)) hb); have n1_ := Aside0.mk (Kd.V_below (Kd.V_elderB (by (with_reducible repeat (first | apply Kd.V_alloc | apply Kd.V_drewN | apply Kd.V_drew)); exact HO_6.out) gb119 (Nat.le_of_eq hg.symm)) hb); have n2_ := Aside0.mk (Kd.V_below (Kd.V_elderB (by (with_reducible repeat (first | apply Kd.V_alloc | apply Kd.V_drewN | apply Kd.V_drew)); exact HL118_4.out) gb119 (Nat.le_of_eq hg.symm)) hb); have n3_ := Aside0.mk (Kd.C_below (by repeat (first | (with_reducible exact HR118_4.out) | (with_reducible refine Kd.C_alloc ?_ _) | (with_reducible refine Kd.C_drewN ?_ _) | (with_reducible refine Kd.C_drew ?_) | exact HR118_4.out)) hb); have n4_ := Aside0.mk (below_step (by repeat (first | (with_reducible first | exact HB.out | apply below_alloc | apply pw_below_drewN | apply below_drew1) | exact HB.out)) hb); have n5_ := Aside0.mk (hbox); have n6_ := Aside0.mk ((by rw [hg]; exact (below_size (by repeat (first | (with_reducible first | exact HB.out | apply below_alloc | apply pw_below_drewN | apply below_drew1) | exact HB.out))) : w.heap.size ≤ gb119)); have n7_ := Aside0.mk ((by rw [hg]; exact (below_size (by repeat (first | (with_reducible first | exact HB.out | apply below_alloc | apply pw_below_drewN | apply below_drew1) | exact HB.out))) : w.heap.size ≤ gb119)); clear HO_3; clear HO_6; clear HL118_4; clear HR118_4; clear HB; have HO_3 := n0_; have HO_6 := n1_; have HL118_4 := n2_; have HR118_4 := n3_; have HB := n4_; have BK119 := n5_; have GW119 := n6_; have GE119 := n7_; clear n0_ n1_ n2_ n3_ n4_ n5_ n6_ n7_; clear hb hbox hg; have hcz7_0 : w6.cell? ⟨gb119, 0, none⟩ = some (.string (⟨#[]⟩ : ByteArray)) := (blk_cell BK119.out 0).trans rfl; have hcz7_1 : w6.cell? ⟨gb119, 1, none⟩ = some (.int .i64 0) := (blk_cell BK119.out 1).trans rfl; have hcz7_2 : w6.cell? ⟨gb119, 2, none⟩ = some (.int .i64 0) := (blk_cell BK119.out 2).trans rfl; have hcz7_3 : w6.cell? ⟨gb119, 3, none⟩ = some (.int .i64 0) := (blk_cell BK119.out 3).trans rfl; have hcz7_4 : w6.cell? ⟨gb119, 4, none⟩ = some (.slice none 0 0) := (blk_cell BK119.out 4).trans rfl; have hfz7_0 := blk_frozen BK119.out 0; have hfz7_1 := blk_frozen BK119.out 1; have hfz7_2 := blk_frozen BK119.out 2; have hfz7_3 := blk_frozen BK119.out 3; have hfz7_4 := blk_frozen BK119.out 4) | ((with_reducible refine gate_store (t := 56) (p := 5) rfl ?_); refine store_event (t := 56) (p := 5) (v := ?vo_w8) (w1 := (((((w6.setCell ⟨gb119, 0, none⟩ (.string ((rd_T56 l0 x8_1).f0))).setCell ⟨gb119, 1, none⟩ (.int .i64 ((rd_T56 l0 x8_1).f1))).setCell ⟨gb119, 2, none⟩ (.int .i64 ((rd_T56 l0 x8_1).f2.f0))).setCell ⟨gb119, 3, none⟩ (.int .i64 ((rd_T56 l0 x8_1).f2.f1))).setCell ⟨gb119, 4, none⟩ (.slice A118_4 ((rd_T56 l0 x8_1).f2.f2).length c118_4))) ?hg ?ho ?hn ?hr ?_; (case ho => rfl); (case hg => rfl); (case hn => rfl); (case hr => first | (go_simp; done) | (go_simp; rfl)); intro w8 hw; have n0_ : Aside0 (Kd.N k48 48 w8 w.heap.size (fun k_ => (P0_ k_ ∨ w.heap.size ≤ k_) ∧ k_ ≠ gb119) u3 x3_1) := ⟨(by rw [hw]; exact (by (with_reducible repeat (first | apply Kd.N_alloc | apply Kd.N_drewN | apply Kd.N_drew)); exact Kd.N_mono (Kd.N_far (p := ⟨gb119, 4, none⟩) (Kd.N_far (p := ⟨gb119, 3, none⟩) (Kd.N_far (p := ⟨gb119, 2, none⟩) (Kd.N_far (p := ⟨gb119, 1, none⟩) (Kd.N_far (p := ⟨gb119, 0, none⟩) (Kd.N_mono HO_3.out (fun k_ hk => (⟨hk, hk.2⟩ : _ ∧ k_ ≠ gb119))) (fun _ hk => hk.2) (.string ((rd_T56 l0 x8_1).f0))) (fun _ hk => hk.2) (.int .i64 ((rd_T56 l0 x8_1).f1))) (fun _ hk => hk.2) (.int .i64 ((rd_T56 l0 x8_1).f2.f0))) (fun _ hk => hk.2) (.int .i64 ((rd_T56 l0 x8_1).f2.f1))) (fun _ hk => hk.2) (.slice A118_4 ((rd_T56 l0 x8_1).f2.f2).length c118_4)) (fun _ hk => ⟨hk.1.1, hk.1.2⟩)))⟩; have n1_ : Aside0 (Kd.V k56 56 w8 w.heap.size (fun k_ => (P0_ k_ ∨ w.heap.size ≤ k_) ∧ some k_ ≠ (u3 : Value).ownBlock ∧ k_ ≠ gb119) (.slice (some ad118) l0.length c0) l0) := ⟨(by rw [hw]; exact (by (with_reducible repeat (first | apply Kd.V_alloc | apply Kd.V_drewN | apply Kd.V_drew)); exact Kd.V_mono (Kd.V_far (p := ⟨gb119, 4, none⟩) (Kd.V_far (p := ⟨gb119, 3, none⟩) (Kd.V_far (p := ⟨gb119, 2, none⟩) (Kd.V_far (p := ⟨gb119, 1, none⟩) (Kd.V_far (p := ⟨gb119, 0, none⟩) (Kd.V_mono HO_6.out (fun k_ hk => (⟨hk, hk.2⟩ : _ ∧ k_ ≠ gb119))) (fun _ hk => hk.2) (.string ((rd_T56 l0 x8_1).f0))) (fun _ hk => hk.2) (.int .i64 ((rd_T56 l0 x8_1).f1))) (fun _ hk => hk.2) (.int .i64 ((rd_T56 l0 x8_1).f2.f0))) (fun _ hk => hk.2) (.int .i64 ((rd_T56 l0 x8_1).f2.f1))) (fun _ hk => hk.2) (.slice A118_4 ((rd_T56 l0 x8_1).f2.f2).length c118_4)) (fun _ hk => ⟨hk.1.1.1, ⟨hk.1.1.2, hk.1.2⟩⟩)))⟩; have n2_ : Aside0 (Kd.V k44 44 w8 w.heap.size (fun k_ => (P0_ k_ ∨ w.heap.size ≤ k_) ∧ some k_ ≠ (u3 : Value).ownBlock ∧ k_ ≠ gb119) (.slice A118_4 ((rd_T56 l0 x8_1).f2.f2).length c118_4) ((rd_T56 l0 x8_1).f2.f2)) := ⟨(by rw [hw]; exact (by (with_reducible repeat (first | apply Kd.V_alloc | apply Kd.V_drewN | apply Kd.V_drew)); exact Kd.V_mono (Kd.V_far (p := ⟨gb119, 4, none⟩) (Kd.V_far (p := ⟨gb119, 3, none⟩) (Kd.V_far (p := ⟨gb119, 2, none⟩) (Kd.V_far (p := ⟨gb119, 1, none⟩) (Kd.V_far (p := ⟨gb119, 0, none⟩) (Kd.V_mono HL118_4.out (fun k_ hk => (⟨hk, hk.2⟩ : _ ∧ k_ ≠ gb119))) (fun _ hk => hk.2) (.string ((rd_T56 l0 x8_1).f0))) (fun _ hk => hk.2) (.int .i64 ((rd_T56 l0 x8_1).f1))) (fun _ hk => hk.2) (.int .i64 ((rd_T56 l0 x8_1).f2.f0))) (fun _ hk => hk.2) (.int .i64 ((rd_T56 l0 x8_1).f2.f1))) (fun _ hk => hk.2) (.slice A118_4 ((rd_T56 l0 x8_1).f2.f2).length c118_4)) (fun _ hk => ⟨hk.1.1.1, ⟨hk.1.1.2, hk.1.2⟩⟩)))⟩; have n3_ : Aside0 (w8.heap[gb119]? = some (.cells #[.string ((rd_T56 l0 x8_1).f0), .int .i64 ((rd_T56 l0 x8_1).f1), .int .i64 ((rd_T56 l0 x8_1).f2.f0), .int .i64 ((rd_T56 l0 x8_1).f2.f1), .slice A118_4 ((rd_T56 l0 x8_1).f2.f2).length c118_4] 56 (0, 0))) := ⟨(by rw [hw]; exact (by (with_reducible repeat (first | refine blk_drewN ?_ _ | refine blk_drew ?_ | refine blk_alloc ?_ _)); refine blk_put (cs := #[.string ((rd_T56 l0 x8_1).f0), .int .i64 ((rd_T56 l0 x8_1).f1), .int .i64 ((rd_T56 l0 x8_1).f2.f0), .int .i64 ((rd_T56 l0 x8_1).f2.f1), .slice none 0 0]) ?_ 4 _ rfl; (with_reducible repeat (first | refine blk_drewN ?_ _ | refine blk_drew ?_ | refine blk_alloc ?_ _)); refine blk_put (cs := #[.string ((rd_T56 l0 x8_1).f0), .int .i64 ((rd_T56 l0 x8_1).f1), .int .i64 ((rd_T56 l0 x8_1).f2.f0), .int .i64 0, .slice none 0 0]) ?_ 3 _ rfl; (with_reducible repeat (first | refine blk_drewN ?_ _ | refine blk_drew ?_ | refine blk_alloc ?_ _)); refine blk_put (cs := #[.string ((rd_T56 l0 x8_1).f0), .int .i64 ((rd_T56 l0 x8_1).f1), .int .i64 0, .int .i64 0, .slice none 0 0]) ?_ 2 _ rfl; (with_reducible repeat (first | refine blk_drewN ?_ _ | refine blk_drew ?_ | refine blk_alloc ?_ _)); refine blk_put (cs := #[.string ((rd_T56 l0 x8_1).f0), .int .i64 0, .int .i64 0, .int .i64 0, .slice none 0 0]) ?_ 1 _ rfl; (with_reducible repeat (first | refine blk_drewN ?_ _ | refine blk_drew ?_ | refine blk_alloc ?_ _)); refine blk_put (cs := #[.string (⟨#[]⟩ : ByteArray), .int .i64 0, .int .i64 0, .int .i64 0, .slice none 0 0]) ?_ 0 _ rfl; (with_reducible repeat (first | refine blk_drewN ?_ _ | refine blk_drew ?_ | refine blk_alloc ?_ _)); exact BK119.out))⟩; have n4_ : Aside0 (Below w.heap.size w w8) := ⟨(by rw [hw]; exact (by repeat (first | (with_reducible first | exact HB.out | apply below_alloc | apply pw_below_drewN | apply below_drew1 | refine below_set ?_ GE119.out) | exact HB.out)))⟩; clear hw; clear HO_3; clear HO_6; clear HL118_4; clear BK119; clear HB; have HO_3 := n0_; have HO_6 := n1_; have HL118_4 := n2_; have BK119 := n3_; have HB := n4_; clear n0_ n1_ n2_ n3_ n4_; have hcz9_0 : w8.cell? ⟨gb119, 0, none⟩ = some (.string ((rd_T56 l0 x8_1).f0)) := (blk_cell BK119.out 0).trans rfl; have hcz9_1 : w8.cell? ⟨gb119, 1, none⟩ = some (.int .i64 ((rd_T56 l0 x8_1).f1)) := (blk_cell BK119.out 1).trans rfl; have hcz9_2 : w8.cell? ⟨gb119, 2, none⟩ = some (.int .i64 ((rd_T56 l0 x8_1).f2.f0)) := (blk_cell BK119.out 2).trans rfl; have hcz9_3 : w8.cell? ⟨gb119, 3, none⟩ = some (.int .i64 ((rd_T56 l0 x8_1).f2.f1)) := (blk_cell BK119.out 3).trans rfl; have hcz9_4 : w8.cell? ⟨gb119, 4, none⟩ = some (.slice A118_4 ((rd_T56 l0 x8_1).f2.f2).length c118_4) := (blk_cell BK119.out 4).trans rfl; have hfz9_0 := blk_frozen BK119.out 0; have hfz9_1 := blk_frozen BK119.out 1; have hfz9_2 := blk_frozen BK119.out 2; have hfz9_3 := blk_frozen BK119.out 3; have hfz9_4 := blk_frozen BK119.out 4) | ((with_reducible refine gate_builtin (b := .append) (xs := #[.tmp 12, .tmp 20]) rfl ?_); at_builtin; refine Kd.N_append k48 (w0 := w) w.heap.size rfl (.tmp 12) (.tmp 20) 27 48 (.agg #[(.string ⟨#[]⟩), (.int .i64 0), (.int .i64 0), (.int .i64 0), (.slice none 0 0)]) 64 rfl Try.underlying27 info48 rfl (by decide) (by omega) u3 x3_1 (⟨(rd_T56 l0 x8_1).f0, (rd_T56 l0 x8_1).f1, (⟨(rd_T56 l0 x8_1).f2.f0, (rd_T56 l0 x8_1).f2.f1, (rd_T56 l0 x8_1).f2.f2⟩ : S44)⟩ : S48) [.string ((rd_T56 l0 x8_1).f0), .int .i64 ((rd_T56 l0 x8_1).f1), .int .i64 ((rd_T56 l0 x8_1).f2.f0), .int .i64 ((rd_T56 l0 x8_1).f2.f1), .slice A118_4 ((rd_T56 l0 x8_1).f2.f2).length c118_4] (fun k_ => (P0_ k_ ∨ w.heap.size ≤ k_) ∧ k_ ≠ gb119) (fun k_ => ((fun k_ => (P0_ k_ ∨ w.heap.size ≤ k_) ∧ k_ ≠ gb119)) k_ ∧ some k_ ≠ (u3 : Value).ownBlock) rfl rfl ?aP (fun _ hk => hk) ?aF ?aO ?aB ?aS ?aL ?_; (case aP => exact (k48_mkF _ _ (⟨(rd_T56 l0 x8_1).f0, (rd_T56 l0 x8_1).f1, (⟨(rd_T56 l0 x8_1).f2.f0, (rd_T56 l0 x8_1).f2.f1, (rd_T56 l0 x8_1).f2.f2⟩ : S44)⟩ : S48) (Kd.V_reads' (Kd.V_mono (ok' := (fun k_ => ((fun k_ => (P0_ k_ ∨ w.heap.size ≤ k_) ∧ k_ ≠ gb119)) k_ ∧ some k_ ≠ (u3 : Value).ownBlock)) (HL118_4.out) (fun k_ hk => ⟨⟨hk.1, hk.2.2⟩, hk.2.1⟩))).2.1 (Kd.V_F (Kd.V_mono (ok' := (fun k_ => ((fun k_ => (P0_ k_ ∨ w.heap.size ≤ k_) ∧ k_ ≠ gb119)) k_ ∧ some k_ ≠ (u3 : Value).ownBlock)) (HL118_4.out) (fun k_ hk => ⟨⟨hk.1, hk.2.2⟩, hk.2.1⟩))))); (case aB => exact (by repeat (first | (with_reducible first | exact HB.out | apply below_alloc | apply pw_below_drewN | apply below_drew1 | refine below_set ?_ GE119.out) | exact HB.out))); (case aF => exact (fun k_ hk => ⟨(.inr (Nat.le_trans (below_size (by repeat (first | (with_reducible first | exact HB.out | apply below_alloc | apply pw_below_drewN | apply below_drew1 | refine below_set ?_ GE119.out) | exact HB.out))) hk)), Kd.freshB (g := gb119) (o := .cells #[.string ((rd_T56 l0 x8_1).f0), .int .i64 ((rd_T56 l0 x8_1).f1), .int .i64 ((rd_T56 l0 x8_1).f2.f0), .int .i64 ((rd_T56 l0 x8_1).f2.f1), .slice A118_4 ((rd_T56 l0 x8_1).f2.f2).length c118_4] 56 (0, 0)) (by (with_reducible repeat (first | refine blk_drewN ?_ _ | refine blk_drew ?_ | refine blk_alloc ?_ _)); exact BK119.out) k_ hk⟩)); (case aO => exact (by (with_reducible repeat (first | apply Kd.N_alloc | apply Kd.N_drewN | apply Kd.N_drew)); exact HO_3.out)); (case aS => exact (below_size (by repeat (first | (with_reducible first | exact HB.out | apply below_alloc | apply pw_below_drewN | apply below_drew1 | refine below_set ?_ GE119.out) | exact HB.out)))); (case aL => have := LMc5.out; omega); intro v121 w10 ho hb hg hat; rw [← Ny120.out] at ho; have n0_ := Aside0.mk (Kd.V_afterv (ok := (fun k_ => (P0_ k_ ∨ w.heap.size ≤ k_) ∧ k_ ≠ gb119)) (by (with_reducible repeat (first | apply Kd.V_alloc | apply Kd.V_drewN | apply Kd.V_drew)); exact Kd.V_mono HO_6.out (fun _ hk => ⟨⟨hk.1, hk.2.2⟩, hk.2.1⟩)) hg hat); have n1_ := Aside0.mk (Kd.V_afterv (ok := (fun k_ => (P0_ k_ ∨ w.heap.size ≤ k_) ∧ k_ ≠ gb119)) (by (with_reducible repeat (first | apply Kd.V_alloc | apply Kd.V_drewN | apply Kd.V_drew)); exact Kd.V_mono HL118_4.out (fun _ hk => ⟨⟨hk.1, hk.2.2⟩, hk.2.1⟩)) hg hat); have n2_ := Aside0.mk (blk_grown (g := gb119) (o := .cells #[.string ((rd_T56 l0 x8_1).f0), .int .i64 ((rd_T56 l0 x8_1).f1), .int .i64 ((rd_T56 l0 x8_1).f2.f0), .int .i64 ((rd_T56 l0 x8_1).f2.f1), .slice A118_4 ((rd_T56 l0 x8_1).f2.f2).length c118_4] 56 (0, 0)) (by (with_reducible repeat (first | refine blk_drewN ?_ _ | refine blk_drew ?_ | refine blk_alloc ?_ _)); exact BK119.out) hg (Kd.N_ne HO_3.out BK119.out (by decide))); have n3_ := Aside0.mk (hb); have n4_ := Aside0.mk (ho); clear HO_6; clear HL118_4; clear BK119; clear HB; clear HO_3; have HO_6 := n0_; have HL118_4 := n1_; have BK119 := n2_; have HB := n3_; have HO122 := n4_; clear n0_ n1_ n2_ n3_ n4_; clear ho hb hg hat))
              go_roundg k1
              case measure => have := HK1.out; omega
              case rel => exact ⟨(y120), (wrap64 (x8_1 + 1)), (by first | rfl | (simp; done) | (simp [*]; done)), H', ⟨by have := HK1.out; omega⟩, ⟨by (with_reducible repeat (first | apply Kd.N_alloc | apply Kd.N_drewN | apply Kd.N_drew)); exact Kd.N_mono HO122.out (fun _ hk => hk.1)⟩, ⟨by (with_reducible repeat (first | apply Kd.V_alloc | apply Kd.V_drewN | apply Kd.V_drew)); exact Kd.V_mono HO_6.out (fun _ hk => ⟨hk.1.1, hk.2⟩)⟩, ⟨by repeat (first | (with_reducible first | exact HB.out | apply below_alloc | apply pw_below_drewN | apply below_drew1 | refine below_set ?_ GE119.out) | exact HB.out)⟩⟩
            · rw [if_neg c5] at H
              exact absurd H (by simp)
          · rw [if_neg c4] at H
            exact absurd H (by simp)
        · rw [if_neg c3] at H
          exact absurd H (by simp)
      · rw [if_neg c2] at H
        have c2b0 : decide (x8_1 < (l0.length : Int)) = false := decide_eq_false c2
        clear c2
        obtain rfl := Option.some.inj H
        go_wp2
        go_ret
        exact ⟨_, by first | rfl | (simp [errW_none, errW_some] <;> rfl) | (simp [*, errW_none, errW_some] <;> rfl), by (with_reducible repeat (first | apply Kd.N_alloc | apply Kd.N_drewN | apply Kd.N_drew)); exact HO_3.out, by repeat (first | (with_reducible first | exact HB.out | apply below_alloc | apply pw_below_drewN | apply below_drew1) | exact HB.out)⟩
end Go.Proofs.Ytfhgoebgnilfaaa.I
namespace Go.Proofs.Ytfhgoebgnilfaaa.I
open Go.RowKit Go.Proofs.YtfhgoebgnilfaaaW.PrintWords Go.Proofs.YtfhgoebgnilfaaaW.PrintLast Go.Proofs.YtfhgoebgnilfaaaW.PrintMore
attribute [local go_sem] max2_int min2_int max_two min_two max_three min_three max_four min_four   -- for this text's walks alone
set_option linter.unusedVariables false
set_option linter.unusedSimpArgs false
mutual
def virgationref02_Name.j0 : Nat → ByteArray → Bool → Option (Bool)
  | 0, _, _ => none
  | k + 1, x0, x21 => if x21 = true then (some false) else (virgationref02_Name.l0 k x0 0)
def virgationref02_Name.l0 : Nat → ByteArray → Int → Option (Bool)
  | 0, _, _ => none
  | k + 1, x0, x3 => if x3 < (x0.size : Int) then (if 0 ≤ x3 then (if (bt x0 x3) < 97 then (if (bt x0 x3) < 48 then (if (bt x0 x3) = 95 then (virgationref02_Name.l0 k x0 (wrap64 (x3 + 1))) else (some false)) else (if (bt x0 x3) > 57 then (if (bt x0 x3) = 95 then (virgationref02_Name.l0 k x0 (wrap64 (x3 + 1))) else (some false)) else (virgationref02_Name.l0 k x0 (wrap64 (x3 + 1))))) else (if (bt x0 x3) > 122 then (if (bt x0 x3) < 48 then (if (bt x0 x3) = 95 then (virgationref02_Name.l0 k x0 (wrap64 (x3 + 1))) else (some false)) else (if (bt x0 x3) > 57 then (if (bt x0 x3) = 95 then (virgationref02_Name.l0 k x0 (wrap64 (x3 + 1))) else (some false)) else (virgationref02_Name.l0 k x0 (wrap64 (x3 + 1))))) else (virgationref02_Name.l0 k x0 (wrap64 (x3 + 1))))) else (none)) else (some true)
end
def virgationref02_Name.f (k : Nat) (a0 : ByteArray) : Option (Bool) := if (a0.size : Int) < 1 then (virgationref02_Name.j0 k a0 true) else (if (a0.size : Int) > 24 then (virgationref02_Name.j0 k a0 true) else (if 0 < (a0.size : Int) then (if (bt a0 0) < 97 then (virgationref02_Name.j0 k a0 true) else (virgationref02_Name.j0 k a0 (decide ((bt a0 0) > 122)))) else (none)))
theorem virgationref02_Name.mono_l : ∀ k, (∀ y0 y1, LeO (virgationref02_Name.j0 k y0 y1) (virgationref02_Name.j0 (k + 1) y0 y1)) ∧ (∀ y0 y1, LeO (virgationref02_Name.l0 k y0 y1) (virgationref02_Name.l0 (k + 1) y0 y1))
  | 0 => ⟨fun _ _ r h => by simp [virgationref02_Name.j0] at h, fun _ _ r h => by simp [virgationref02_Name.l0] at h⟩
  | k + 1 => by
    obtain ⟨ih0, ih1⟩ := virgationref02_Name.mono_l k
    refine ⟨?_, ?_⟩
    · intro y0 y1
      unfold virgationref02_Name.j0
      repeat' first
      | (with_reducible exact ih0 _ _)
      | (with_reducible exact ih1 _ _)
      | (with_reducible exact LeO.refl _)
      | (with_reducible exact LeO.none _)
      | (with_reducible refine LeO.ite ?_ ?_)
      | (with_reducible refine LeO.bind ?_ (fun _ => ?_))
      | exact ih0 _ _
      | exact ih1 _ _
      | exact LeO.none _
      | refine LeO.ite ?_ ?_
      | refine LeO.bind ?_ (fun _ => ?_)
    · intro y0 y1
      unfold virgationref02_Name.l0
      repeat' first
      | (with_reducible exact ih0 _ _)
      | (with_reducible exact ih1 _ _)
      | (with_reducible exact LeO.refl _)
      | (with_reducible exact LeO.none _)
      | (with_reducible refine LeO.ite ?_ ?_)
      | (with_reducible refine LeO.bind ?_ (fun _ => ?_))
      | exact ih0 _ _
      | exact ih1 _ _
      | exact LeO.none _
      | refine LeO.ite ?_ ?_
      | refine LeO.bind ?_ (fun _ => ?_)
theorem virgationref02_Name.mono : ∀ a0 k, LeO (virgationref02_Name.f k a0) (virgationref02_Name.f (k + 1) a0) := by
  intro a0 k
  obtain ⟨ih0, ih1⟩ := virgationref02_Name.mono_l k
  unfold virgationref02_Name.f
  repeat' first
      | (with_reducible exact ih0 _ _)
      | (with_reducible exact ih1 _ _)
      | (with_reducible exact LeO.refl _)
      | (with_reducible exact LeO.none _)
      | (with_reducible refine LeO.ite ?_ ?_)
      | (with_reducible refine LeO.bind ?_ (fun _ => ?_))
      | exact ih0 _ _
      | exact ih1 _ _
      | exact LeO.none _
      | refine LeO.ite ?_ ?_
      | refine LeO.bind ?_ (fun _ => ?_)
set_option maxHeartbeats 8000000 in
set_option maxRecDepth 100000 in
theorem virgationref02_Name.calls (k : Nat) (a0 : ByteArray) (r : Bool) (w : World) (h : virgationref02_Name.f k a0 = some r) :
    Calls Try.prog 33 #[.string a0] w fun e w' => e = .returned (.bool r) ∧ Drawn0 w w' := by
  have H : (if (a0.size : Int) < 1 then (virgationref02_Name.j0 k a0 true) else (if (a0.size : Int) > 24 then (virgationref02_Name.j0 k a0 true) else (if 0 < (a0.size : Int) then (if (bt a0 0) < 97 then (virgationref02_Name.j0 k a0 true) else (virgationref02_Name.j0 k a0 (decide ((bt a0 0) > 122)))) else (none)))) = some r := h
  clear h
  have HC2 := Aside0.mk H
  clear H
  go_enter Try.func33, Try.ntmps33
  go_upto_region 1 with (fail)
  go_cut [21] (fun v21 wc => ∃ (kq : Nat) (x21_1 : Bool), v21 = .bool x21_1 ∧ Aside0 (virgationref02_Name.j0 kq a0 x21_1 = some r) ∧ Aside0 (kq ≤ k) ∧ Drawn0 w wc)
  case first =>
    have H := HC2.out
    clear HC2
    by_cases c3 : (a0.size : Int) < 1
    · rw [if_pos c3] at H
      have c3b0 : decide ((a0.size : Int) < 1) = true := decide_eq_true c3
      have c3b1 : decide (a0.size < 1) = true := decide_eq_true (by omega)
      clear c3
      (first | rw [c3b0] | (simp only [i64_w, i32_w]; rw [c3b0]) | skip)
      have H' := Aside0.mk H
      clear H
      go_wp2
      go_meet
      case rel => exact ⟨_, (true), (by first | rfl | (simp; done) | (simp [*]; done)), H', ⟨by first | omega | exact Nat.le_refl _⟩, by repeat (first | exact Drawn0.refl _ | apply Drawn0.step)⟩
    · rw [if_neg c3] at H
      have c3b0 : decide ((a0.size : Int) < 1) = false := decide_eq_false c3
      have c3b1 : decide (a0.size < 1) = false := decide_eq_false (by omega)
      clear c3
      (first | rw [c3b0] | (simp only [i64_w, i32_w]; rw [c3b0]) | skip)
      by_cases c4 : (a0.size : Int) > 24
      · rw [if_pos c4] at H
        have c4b0 : decide (24 < (a0.size : Int)) = true := decide_eq_true c4
        have c4b1 : decide (24 < a0.size) = true := decide_eq_true (by omega)
        clear c4
        have H' := Aside0.mk H
        clear H
        go_wp2
        go_meet
        case rel => exact ⟨_, (true), (by first | rfl | (simp; done) | (simp [*]; done)), H', ⟨by first | omega | exact Nat.le_refl _⟩, by repeat (first | exact Drawn0.refl _ | apply Drawn0.step)⟩
      · rw [if_neg c4] at H
        have c4b0 : decide (24 < (a0.size : Int)) = false := decide_eq_false c4
        have c4b1 : decide (24 < a0.size) = false := decide_eq_false (by omega)
        clear c4
        by_cases c5 : 0 < (a0.size : Int)
        · rw [if_pos c5] at H
          have c5b0 : decide (0 < (a0.size : Int)) = true := decide_eq_true c5
          have c5b1 : decide (0 < a0.size) = true := decide_eq_true (by omega)
          clear c5
          by_cases c7 : (bt a0 0) < 97
          · rw [if_pos c7] at H
            have c7b0 : decide ((bt a0 0) < 97) = true := decide_eq_true c7
            clear c7
            have H' := Aside0.mk H
            clear H
            have p6 : 0 ≤ (0 : Int) := (by omega)
            have q6 : 0 < a0.size := (by have : (0 : Int) < (a0.size : Int) := of_decide_eq_true (by first | (with_reducible assumption) | assumption); omega)
            have hx6 : ∀ h : 0 < a0.size, ((a0[0]'h).toNat : Int) = bt a0 0 := bt_at a0 0
            clear p6
            have qi6 : (0 < (a0.size : Int)) = True := eq_true (of_decide_eq_true (by first | (with_reducible assumption) | assumption))
            replace q6 := eq_true q6
            go_wp2
            go_meet
            case rel => exact ⟨_, (true), (by first | rfl | (simp; done) | (simp [*]; done)), H', ⟨by first | omega | exact Nat.le_refl _⟩, by repeat (first | exact Drawn0.refl _ | apply Drawn0.step)⟩
          · rw [if_neg c7] at H
            have c7b0 : decide ((bt a0 0) < 97) = false := decide_eq_false c7
            clear c7
            have H' := Aside0.mk H
            clear H
            have p6 : 0 ≤ (0 : Int) := (by omega)
            have q6 : 0 < a0.size := (by have : (0 : Int) < (a0.size : Int) := of_decide_eq_true (by first | (with_reducible assumption) | assumption); omega)
            have hx6 : ∀ h : 0 < a0.size, ((a0[0]'h).toNat : Int) = bt a0 0 := bt_at a0 0
            clear p6
            have qi6 : (0 < (a0.size : Int)) = True := eq_true (of_decide_eq_true (by first | (with_reducible assumption) | assumption))
            replace q6 := eq_true q6
            have p8 : 0 ≤ (0 : Int) := (by omega)
            have q8 : 0 < a0.size := (by have : (0 : Int) < (a0.size : Int) := of_decide_eq_true (by first | (with_reducible assumption) | assumption); omega)
            have hx8 : ∀ h : 0 < a0.size, ((a0[0]'h).toNat : Int) = bt a0 0 := bt_at a0 0
            clear p8
            have qi8 : (0 < (a0.size : Int)) = True := eq_true (of_decide_eq_true (by first | (with_reducible assumption) | assumption))
            replace q8 := eq_true q8
            go_wp2
            go_meet
            case rel => exact ⟨_, (decide ((bt a0 0) > 122)), (by first | rfl | (simp; done) | (simp [*]; done)), H', ⟨by first | omega | exact Nat.le_refl _⟩, by repeat (first | exact Drawn0.refl _ | apply Drawn0.step)⟩
        · rw [if_neg c5] at H
          exact absurd H (by simp)
  case rest =>
    clear HC2
    try clear p2
    try clear c3
    try clear c3b0
    try clear c3b1
    try clear c4
    try clear c4b0
    try clear c4b1
    try clear c5
    try clear c5b0
    try clear c5b1
    try clear p6
    try clear q6
    try clear hx6
    try clear qi6
    try clear c7
    try clear c7b0
    try clear p8
    try clear q8
    try clear hx8
    try clear qi8
    try clear p6
    try clear p8
    try clear q6
    try clear q8
    obtain ⟨kq, x21_1, rfl, HA, HJ1, ⟨mc1, rfl⟩⟩ := hcut
    cases kq with
    | zero => exact absurd HA.out (by simp [virgationref02_Name.j0])
    | succ kj1 =>
      have H := HA.out
      clear HA
      simp only [virgationref02_Name.j0] at H
      by_cases c9 : x21_1 = true
      · subst c9
        have H1 : (some false) = some r := by rw [if_pos rfl] at H; exact H
        clear H
        have H := H1
        clear H1
        obtain rfl := Option.some.inj H
        go_wp2
        go_ret
        exact ⟨by first | rfl | (simp; done) | (simp [*]; done), by repeat (first | exact Drawn0.refl _ | apply Drawn0.step)⟩
      · replace c9 := Bool.eq_false_iff.mpr c9
        subst c9
        have H1 : (virgationref02_Name.l0 kj1 a0 0) = some r := by rw [if_neg (show ¬ (false = true) by decide)] at H; exact H
        clear H
        have H := H1
        clear H1
        have H' := Aside0.mk H
        clear H
        go_wp2
        go_loopg [3] kj1 (fun kq v3 w' => ∃ (x3_2 : Int), v3 = .int .i64 x3_2 ∧ Aside0 (virgationref02_Name.l0 kq a0 x3_2 = some r) ∧ Aside0 (kq ≤ kj1) ∧ Drawn0 w w')
        case atStart => exact ⟨(0), (by first | rfl | (simp; done) | (simp [*]; done)), H', ⟨Nat.le_refl _⟩, by repeat (first | exact Drawn0.refl _ | apply Drawn0.step)⟩
        case round =>
          clear H'
          try clear c1
          try clear p2
          try clear c3
          try clear c3b0
          try clear c3b1
          try clear c4
          try clear c4b0
          try clear c4b1
          try clear c5
          try clear c5b0
          try clear c5b1
          try clear p6
          try clear q6
          try clear hx6
          try clear qi6
          try clear c7
          try clear c7b0
          try clear p8
          try clear q8
          try clear hx8
          try clear qi8
          try clear c9
          try clear p2
          try clear p6
          try clear p8
          try clear q6
          try clear q8
          obtain ⟨x3_2, rfl, HA, HK2, ⟨m2, rfl⟩⟩ := hrel
          cases gk with
          | zero => exact absurd HA.out (by simp [virgationref02_Name.l0])
          | succ k2 =>
            have H := HA.out
            clear HA
            simp only [virgationref02_Name.l0] at H
            by_cases c10 : x3_2 < (a0.size : Int)
            · rw [if_pos c10] at H
              have c10b0 : decide (x3_2 < (a0.size : Int)) = true := decide_eq_true c10
              clear c10
              by_cases c11 : 0 ≤ x3_2
              · rw [if_pos c11] at H
                have c11b0 : decide (0 ≤ x3_2) = true := decide_eq_true c11
                clear c11
                by_cases c13 : (bt a0 x3_2) < 97
                · rw [if_pos c13] at H
                  have c13b0 : decide ((bt a0 x3_2) < 97) = true := decide_eq_true c13
                  clear c13
                  by_cases c15 : (bt a0 x3_2) < 48
                  · rw [if_pos c15] at H
                    have c15b0 : decide ((bt a0 x3_2) < 48) = true := decide_eq_true c15
                    clear c15
                    by_cases c17 : (bt a0 x3_2) = 95
                    · rw [if_pos c17] at H
                      have c17b0 : ((bt a0 x3_2) == 95) = true := beq_iff_eq.mpr c17
                      have c17b1 : ((bt a0 x3_2) != 95) = false := bne_eq_false_iff_eq.mpr c17
                      clear c17
                      have H' := Aside0.mk H
                      clear H
                      have p12 : 0 ≤ (x3_2 : Int) := of_decide_eq_true (by first | (with_reducible assumption) | assumption)
                      have q12 : x3_2 < (a0.size : Int) := of_decide_eq_true (by first | (with_reducible assumption) | assumption)
                      have hx12 := bt_at a0 x3_2
                      replace p12 := eq_true p12
                      replace q12 := eq_true q12
                      have p14 : 0 ≤ (x3_2 : Int) := of_decide_eq_true (by first | (with_reducible assumption) | assumption)
                      have q14 : x3_2 < (a0.size : Int) := of_decide_eq_true (by first | (with_reducible assumption) | assumption)
                      have hx14 := bt_at a0 x3_2
                      replace p14 := eq_true p14
                      replace q14 := eq_true q14
                      have p16 : 0 ≤ (x3_2 : Int) := of_decide_eq_true (by first | (with_reducible assumption) | assumption)
                      have q16 : x3_2 < (a0.size : Int) := of_decide_eq_true (by first | (with_reducible assumption) | assumption)
                      have hx16 := bt_at a0 x3_2
                      replace p16 := eq_true p16
                      replace q16 := eq_true q16
                      go_wp2
                      go_roundg k2
                      case measure => have := HJ1.out; have := HK2.out; omega
                      case rel => exact ⟨(wrap64 (x3_2 + 1)), (by first | rfl | (simp; done) | (simp [*]; done)), H', ⟨by have := HJ1.out; have := HK2.out; omega⟩, by repeat (first | exact Drawn0.refl _ | apply Drawn0.step)⟩
                    · rw [if_neg c17] at H
                      have c17b0 : ((bt a0 x3_2) == 95) = false := beq_eq_false_iff_ne.mpr c17
                      have c17b1 : ((bt a0 x3_2) != 95) = true := bne_iff_ne.mpr c17
                      obtain rfl := Option.some.inj H
                      have p12 : 0 ≤ (x3_2 : Int) := of_decide_eq_true (by first | (with_reducible assumption) | assumption)
                      have q12 : x3_2 < (a0.size : Int) := of_decide_eq_true (by first | (with_reducible assumption) | assumption)
                      have hx12 := bt_at a0 x3_2
                      replace p12 := eq_true p12
                      replace q12 := eq_true q12
                      have p14 : 0 ≤ (x3_2 : Int) := of_decide_eq_true (by first | (with_reducible assumption) | assumption)
                      have q14 : x3_2 < (a0.size : Int) := of_decide_eq_true (by first | (with_reducible assumption) | assumption)
                      have hx14 := bt_at a0 x3_2
                      replace p14 := eq_true p14
                      replace q14 := eq_true q14
                      have p16 : 0 ≤ (x3_2 : Int) := of_decide_eq_true (by first | (with_reducible assumption) | assumption)
                      have q16 : x3_2 < (a0.size : Int) := of_decide_eq_true (by first | (with_reducible assumption) | assumption)
                      have hx16 := bt_at a0 x3_2
                      replace p16 := eq_true p16
                      replace q16 := eq_true q16
                      go_wp2
                      go_ret
                      exact ⟨by first | rfl | (simp; done) | (simp [*]; done), by repeat (first | exact Drawn0.refl _ | apply Drawn0.step)⟩
                  · rw [if_neg c15] at H
                    have c15b0 : decide ((bt a0 x3_2) < 48) = false := decide_eq_false c15
                    clear c15
                    by_cases c19 : (bt a0 x3_2) > 57
                    · rw [if_pos c19] at H
                      have c19b0 : decide (57 < (bt a0 x3_2)) = true := decide_eq_true c19
                      clear c19
                      by_cases c21 : (bt a0 x3_2) = 95
                      · rw [if_pos c21] at H
                        have c21b0 : ((bt a0 x3_2) == 95) = true := beq_iff_eq.mpr c21
                        have c21b1 : ((bt a0 x3_2) != 95) = false := bne_eq_false_iff_eq.mpr c21
                        clear c21
                        have H' := Aside0.mk H
                        clear H
                        have p12 : 0 ≤ (x3_2 : Int) := of_decide_eq_true (by first | (with_reducible assumption) | assumption)
                        have q12 : x3_2 < (a0.size : Int) := of_decide_eq_true (by first | (with_reducible assumption) | assumption)
                        have hx12 := bt_at a0 x3_2
                        replace p12 := eq_true p12
                        replace q12 := eq_true q12
                        have p14 : 0 ≤ (x3_2 : Int) := of_decide_eq_true (by first | (with_reducible assumption) | assumption)
                        have q14 : x3_2 < (a0.size : Int) := of_decide_eq_true (by first | (with_reducible assumption) | assumption)
                        have hx14 := bt_at a0 x3_2
                        replace p14 := eq_true p14
                        replace q14 := eq_true q14
                        have p18 : 0 ≤ (x3_2 : Int) := of_decide_eq_true (by first | (with_reducible assumption) | assumption)
                        have q18 : x3_2 < (a0.size : Int) := of_decide_eq_true (by first | (with_reducible assumption) | assumption)
                        have hx18 := bt_at a0 x3_2
                        replace p18 := eq_true p18
                        replace q18 := eq_true q18
                        have p20 : 0 ≤ (x3_2 : Int) := of_decide_eq_true (by first | (with_reducible assumption) | assumption)
                        have q20 : x3_2 < (a0.size : Int) := of_decide_eq_true (by first | (with_reducible assumption) | assumption)
                        have hx20 := bt_at a0 x3_2
                        replace p20 := eq_true p20
                        replace q20 := eq_true q20
                        go_wp2
                        go_roundg k2
                        case measure => have := HJ1.out; have := HK2.out; omega
                        case rel => exact ⟨(wrap64 (x3_2 + 1)), (by first | rfl | (simp; done) | (simp [*]; done)), H', ⟨by have := HJ1.out; have := HK2.out; omega⟩, by repeat (first | exact Drawn0.refl _ | apply Drawn0.step)⟩
                      · rw [if_neg c21] at H
                        have c21b0 : ((bt a0 x3_2) == 95) = false := beq_eq_false_iff_ne.mpr c21
                        have c21b1 : ((bt a0 x3_2) != 95) = true := bne_iff_ne.mpr c21
                        obtain rfl := Option.some.inj H
                        have p12 : 0 ≤ (x3_2 : Int) := of_decide_eq_true (by first | (with_reducible assumption) | assumption)
                        have q12 : x3_2 < (a0.size : Int) := of_decide_eq_true (by first | (with_reducible assumption) | assumption)
                        have hx12 := bt_at a0 x3_2
                        replace p12 := eq_true p12
                        replace q12 := eq_true q12
                        have p14 : 0 ≤ (x3_2 : Int) := of_decide_eq_true (by first | (with_reducible assumption) | assumption)
                        have q14 : x3_2 < (a0.size : Int) := of_decide_eq_true (by first | (with_reducible assumption) | assumption)
                        have hx14 := bt_at a0 x3_2
                        replace p14 := eq_true p14
                        replace q14 := eq_true q14
                        have p18 : 0 ≤ (x3_2 : Int) := of_decide_eq_true (by first | (with_reducible assumption) | assumption)
                        have q18 : x3_2 < (a0.size : Int) := of_decide_eq_true (by first | (with_reducible assumption) | assumption)
                        have hx18 := bt_at a0 x3_2
                        replace p18 := eq_true p18
                        replace q18 := eq_true q18
                        have p20 : 0 ≤ (x3_2 : Int) := of_decide_eq_true (by first | (with_reducible assumption) | assumption)
                        have q20 : x3_2 < (a0.size : Int) := of_decide_eq_true (by first | (with_reducible assumption) | assumption)
                        have hx20 := bt_at a0 x3_2
                        replace p20 := eq_true p20
                        replace q20 := eq_true q20
                        go_wp2
                        go_ret
                        exact ⟨by first | rfl | (simp; done) | (simp [*]; done), by repeat (first | exact Drawn0.refl _ | apply Drawn0.step)⟩
                    · rw [if_neg c19] at H
                      have c19b0 : decide (57 < (bt a0 x3_2)) = false := decide_eq_false c19
                      clear c19
                      have H' := Aside0.mk H
                      clear H
                      have p12 : 0 ≤ (x3_2 : Int) := of_decide_eq_true (by first | (with_reducible assumption) | assumption)
                      have q12 : x3_2 < (a0.size : Int) := of_decide_eq_true (by first | (with_reducible assumption) | assumption)
                      have hx12 := bt_at a0 x3_2
                      replace p12 := eq_true p12
                      replace q12 := eq_true q12
                      have p14 : 0 ≤ (x3_2 : Int) := of_decide_eq_true (by first | (with_reducible assumption) | assumption)
                      have q14 : x3_2 < (a0.size : Int) := of_decide_eq_true (by first | (with_reducible assumption) | assumption)
                      have hx14 := bt_at a0 x3_2
                      replace p14 := eq_true p14
                      replace q14 := eq_true q14
                      have p18 : 0 ≤ (x3_2 : Int) := of_decide_eq_true (by first | (with_reducible assumption) | assumption)
                      have q18 : x3_2 < (a0.size : Int) := of_decide_eq_true (by first | (with_reducible assumption) | assumption)
                      have hx18 := bt_at a0 x3_2
                      replace p18 := eq_true p18
                      replace q18 := eq_true q18
                      go_wp2
                      go_roundg k2
                      case measure => have := HJ1.out; have := HK2.out; omega
                      case rel => exact ⟨(wrap64 (x3_2 + 1)), (by first | rfl | (simp; done) | (simp [*]; done)), H', ⟨by have := HJ1.out; have := HK2.out; omega⟩, by repeat (first | exact Drawn0.refl _ | apply Drawn0.step)⟩
                · rw [if_neg c13] at H
                  have c13b0 : decide ((bt a0 x3_2) < 97) = false := decide_eq_false c13
                  clear c13
                  by_cases c23 : (bt a0 x3_2) > 122
                  · rw [if_pos c23] at H
                    have c23b0 : decide (122 < (bt a0 x3_2)) = true := decide_eq_true c23
                    clear c23
                    by_cases c25 : (bt a0 x3_2) < 48
                    · rw [if_pos c25] at H
                      have c25b0 : decide ((bt a0 x3_2) < 48) = true := decide_eq_true c25
                      clear c25
                      by_cases c27 : (bt a0 x3_2) = 95
                      · rw [if_pos c27] at H
                        have c27b0 : ((bt a0 x3_2) == 95) = true := beq_iff_eq.mpr c27
                        have c27b1 : ((bt a0 x3_2) != 95) = false := bne_eq_false_iff_eq.mpr c27
                        clear c27
                        have H' := Aside0.mk H
                        clear H
                        have p12 : 0 ≤ (x3_2 : Int) := of_decide_eq_true (by first | (with_reducible assumption) | assumption)
                        have q12 : x3_2 < (a0.size : Int) := of_decide_eq_true (by first | (with_reducible assumption) | assumption)
                        have hx12 := bt_at a0 x3_2
                        replace p12 := eq_true p12
                        replace q12 := eq_true q12
                        have p22 : 0 ≤ (x3_2 : Int) := of_decide_eq_true (by first | (with_reducible assumption) | assumption)
                        have q22 : x3_2 < (a0.size : Int) := of_decide_eq_true (by first | (with_reducible assumption) | assumption)
                        have hx22 := bt_at a0 x3_2
                        replace p22 := eq_true p22
                        replace q22 := eq_true q22
                        have p24 : 0 ≤ (x3_2 : Int) := of_decide_eq_true (by first | (with_reducible assumption) | assumption)
                        have q24 : x3_2 < (a0.size : Int) := of_decide_eq_true (by first | (with_reducible assumption) | assumption)
                        have hx24 := bt_at a0 x3_2
                        replace p24 := eq_true p24
                        replace q24 := eq_true q24
                        have p26 : 0 ≤ (x3_2 : Int) := of_decide_eq_true (by first | (with_reducible assumption) | assumption)
                        have q26 : x3_2 < (a0.size : Int) := of_decide_eq_true (by first | (with_reducible assumption) | assumption)
                        have hx26 := bt_at a0 x3_2
                        replace p26 := eq_true p26
                        replace q26 := eq_true q26
                        go_wp2
                        go_roundg k2
                        case measure => have := HJ1.out; have := HK2.out; omega
                        case rel => exact ⟨(wrap64 (x3_2 + 1)), (by first | rfl | (simp; done) | (simp [*]; done)), H', ⟨by have := HJ1.out; have := HK2.out; omega⟩, by repeat (first | exact Drawn0.refl _ | apply Drawn0.step)⟩
                      · rw [if_neg c27] at H
                        have c27b0 : ((bt a0 x3_2) == 95) = false := beq_eq_false_iff_ne.mpr c27
                        have c27b1 : ((bt a0 x3_2) != 95) = true := bne_iff_ne.mpr c27
                        obtain rfl := Option.some.inj H
                        have p12 : 0 ≤ (x3_2 : Int) := of_decide_eq_true (by first | (with_reducible assumption) | assumption)
                        have q12 : x3_2 < (a0.size : Int) := of_decide_eq_true (by first | (with_reducible assumption) | assumption)
                        have hx12 := bt_at a0 x3_2
                        replace p12 := eq_true p12
                        replace q12 := eq_true q12
                        have p22 : 0 ≤ (x3_2 : Int) := of_decide_eq_true (by first | (with_reducible assumption) | assumption)
                        have q22 : x3_2 < (a0.size : Int) := of_decide_eq_true (by first | (with_reducible assumption) | assumption)
                        have hx22 := bt_at a0 x3_2
                        replace p22 := eq_true p22
                        replace q22 := eq_true q22
                        have p24 : 0 ≤ (x3_2 : Int) := of_decide_eq_true (by first | (with_reducible assumption) | assumption)
                        have q24 : x3_2 < (a0.size : Int) := of_decide_eq_true (by first | (with_reducible assumption) | assumption)
                        have hx24 := bt_at a0 x3_2
                        replace p24 := eq_true p24
                        replace q24 := eq_true q24
                        have p26 : 0 ≤ (x3_2 : Int) := of_decide_eq_true (by first | (with_reducible assumption) | assumption)
                        have q26 : x3_2 < (a0.size : Int) := of_decide_eq_true (by first | (with_reducible assumption) | assumption)
                        have hx26 := bt_at a0 x3_2
                        replace p26 := eq_true p26
                        replace q26 := eq_true q26
                        go_wp2
                        go_ret
                        exact ⟨by first | rfl | (simp; done) | (simp [*]; done), by repeat (first | exact Drawn0.refl _ | apply Drawn0.step)⟩
                    · rw [if_neg c25] at H
                      have c25b0 : decide ((bt a0 x3_2) < 48) = false := decide_eq_false c25
                      clear c25
                      by_cases c29 : (bt a0 x3_2) > 57
                      · rw [if_pos c29] at H
                        have c29b0 : decide (57 < (bt a0 x3_2)) = true := decide_eq_true c29
                        clear c29
                        by_cases c31 : (bt a0 x3_2) = 95
                        · rw [if_pos c31] at H
                          have c31b0 : ((bt a0 x3_2) == 95) = true := beq_iff_eq.mpr c31
                          have c31b1 : ((bt a0 x3_2) != 95) = false := bne_eq_false_iff_eq.mpr c31
                          clear c31
                          have H' := Aside0.mk H
                          clear H
                          have p12 : 0 ≤ (x3_2 : Int) := of_decide_eq_true (by first | (with_reducible assumption) | assumption)
                          have q12 : x3_2 < (a0.size : Int) := of_decide_eq_true (by first | (with_reducible assumption) | assumption)
                          have hx12 := bt_at a0 x3_2
                          replace p12 := eq_true p12
                          replace q12 := eq_true q12
                          have p22 : 0 ≤ (x3_2 : Int) := of_decide_eq_true (by first | (with_reducible assumption) | assumption)
                          have q22 : x3_2 < (a0.size : Int) := of_decide_eq_true (by first | (with_reducible assumption) | assumption)
                          have hx22 := bt_at a0 x3_2
                          replace p22 := eq_true p22
                          replace q22 := eq_true q22
                          have p24 : 0 ≤ (x3_2 : Int) := of_decide_eq_true (by first | (with_reducible assumption) | assumption)
                          have q24 : x3_2 < (a0.size : Int) := of_decide_eq_true (by first | (with_reducible assumption) | assumption)
                          have hx24 := bt_at a0 x3_2
                          replace p24 := eq_true p24
                          replace q24 := eq_true q24
                          have p28 : 0 ≤ (x3_2 : Int) := of_decide_eq_true (by first | (with_reducible assumption) | assumption)
                          have q28 : x3_2 < (a0.size : Int) := of_decide_eq_true (by first | (with_reducible assumption) | assumption)
                          have hx28 := bt_at a0 x3_2
                          replace p28 := eq_true p28
                          replace q28 := eq_true q28
                          have p30 : 0 ≤ (x3_2 : Int) := of_decide_eq_true (by first | (with_reducible assumption) | assumption)
                          have q30 : x3_2 < (a0.size : Int) := of_decide_eq_true (by first | (with_reducible assumption) | assumption)
                          have hx30 := bt_at a0 x3_2
                          replace p30 := eq_true p30
                          replace q30 := eq_true q30
                          go_wp2
                          go_roundg k2
                          case measure => have := HJ1.out; have := HK2.out; omega
                          case rel => exact ⟨(wrap64 (x3_2 + 1)), (by first | rfl | (simp; done) | (simp [*]; done)), H', ⟨by have := HJ1.out; have := HK2.out; omega⟩, by repeat (first | exact Drawn0.refl _ | apply Drawn0.step)⟩
                        · rw [if_neg c31] at H
                          have c31b0 : ((bt a0 x3_2) == 95) = false := beq_eq_false_iff_ne.mpr c31
                          have c31b1 : ((bt a0 x3_2) != 95) = true := bne_iff_ne.mpr c31
                          obtain rfl := Option.some.inj H
                          have p12 : 0 ≤ (x3_2 : Int) := of_decide_eq_true (by first | (with_reducible assumption) | assumption)
                          have q12 : x3_2 < (a0.size : Int) := of_decide_eq_true (by first | (with_reducible assumption) | assumption)
                          have hx12 := bt_at a0 x3_2
                          replace p12 := eq_true p12
                          replace q12 := eq_true q12
                          have p22 : 0 ≤ (x3_2 : Int) := of_decide_eq_true (by first | (with_reducible assumption) | assumption)
                          have q22 : x3_2 < (a0.size : Int) := of_decide_eq_true (by first | (with_reducible assumption) | assumption)
                          have hx22 := bt_at a0 x3_2
                          replace p22 := eq_true p22
                          replace q22 := eq_true q22
                          have p24 : 0 ≤ (x3_2 : Int) := of_decide_eq_true (by first | (with_reducible assumption) | assumption)
                          have q24 : x3_2 < (a0.size : Int) := of_decide_eq_true (by first | (with_reducible assumption) | assumption)
                          have hx24 := bt_at a0 x3_2
                          replace p24 := eq_true p24
                          replace q24 := eq_true q24
                          have p28 : 0 ≤ (x3_2 : Int) := of_decide_eq_true (by first | (with_reducible assumption) | assumption)
                          have q28 : x3_2 < (a0.size : Int) := of_decide_eq_true (by first | (with_reducible assumption) | assumption)
                          have hx28 := bt_at a0 x3_2
                          replace p28 := eq_true p28
                          replace q28 := eq_true q28
                          have p30 : 0 ≤ (x3_2 : Int) := of_decide_eq_true (by first | (with_reducible assumption) | assumption)
                          have q30 : x3_2 < (a0.size : Int) := of_decide_eq_true (by first | (with_reducible assumption) | assumption)
                          have hx30 := bt_at a0 x3_2
                          replace p30 := eq_true p30
                          replace q30 := eq_true q30
                          go_wp2
                          go_ret
                          exact ⟨by first | rfl | (simp; done) | (simp [*]; done), by repeat (first | exact Drawn0.refl _ | apply Drawn0.step)⟩
                      · rw [if_neg c29] at H
                        have c29b0 : decide (57 < (bt a0 x3_2)) = false := decide_eq_false c29
                        clear c29
                        have H' := Aside0.mk H
                        clear H
                        have p12 : 0 ≤ (x3_2 : Int) := of_decide_eq_true (by first | (with_reducible assumption) | assumption)
                        have q12 : x3_2 < (a0.size : Int) := of_decide_eq_true (by first | (with_reducible assumption) | assumption)
                        have hx12 := bt_at a0 x3_2
                        replace p12 := eq_true p12
                        replace q12 := eq_true q12
                        have p22 : 0 ≤ (x3_2 : Int) := of_decide_eq_true (by first | (with_reducible assumption) | assumption)
                        have q22 : x3_2 < (a0.size : Int) := of_decide_eq_true (by first | (with_reducible assumption) | assumption)
                        have hx22 := bt_at a0 x3_2
                        replace p22 := eq_true p22
                        replace q22 := eq_true q22
                        have p24 : 0 ≤ (x3_2 : Int) := of_decide_eq_true (by first | (with_reducible assumption) | assumption)
                        have q24 : x3_2 < (a0.size : Int) := of_decide_eq_true (by first | (with_reducible assumption) | assumption)
                        have hx24 := bt_at a0 x3_2
                        replace p24 := eq_true p24
                        replace q24 := eq_true q24
                        have p28 : 0 ≤ (x3_2 : Int) := of_decide_eq_true (by first | (with_reducible assumption) | assumption)
                        have q28 : x3_2 < (a0.size : Int) := of_decide_eq_true (by first | (with_reducible assumption) | assumption)
                        have hx28 := bt_at a0 x3_2
                        replace p28 := eq_true p28
                        replace q28 := eq_true q28
                        go_wp2
                        go_roundg k2
                        case measure => have := HJ1.out; have := HK2.out; omega
                        case rel => exact ⟨(wrap64 (x3_2 + 1)), (by first | rfl | (simp; done) | (simp [*]; done)), H', ⟨by have := HJ1.out; have := HK2.out; omega⟩, by repeat (first | exact Drawn0.refl _ | apply Drawn0.step)⟩
                  · rw [if_neg c23] at H
                    have c23b0 : decide (122 < (bt a0 x3_2)) = false := decide_eq_false c23
                    clear c23
                    have H' := Aside0.mk H
                    clear H
                    have p12 : 0 ≤ (x3_2 : Int) := of_decide_eq_true (by first | (with_reducible assumption) | assumption)
                    have q12 : x3_2 < (a0.size : Int) := of_decide_eq_true (by first | (with_reducible assumption) | assumption)
                    have hx12 := bt_at a0 x3_2
                    replace p12 := eq_true p12
                    replace q12 := eq_true q12
                    have p22 : 0 ≤ (x3_2 : Int) := of_decide_eq_true (by first | (with_reducible assumption) | assumption)
                    have q22 : x3_2 < (a0.size : Int) := of_decide_eq_true (by first | (with_reducible assumption) | assumption)
                    have hx22 := bt_at a0 x3_2
                    replace p22 := eq_true p22
                    replace q22 := eq_true q22
                    go_wp2
                    go_roundg k2
                    case measure => have := HJ1.out; have := HK2.out; omega
                    case rel => exact ⟨(wrap64 (x3_2 + 1)), (by first | rfl | (simp; done) | (simp [*]; done)), H', ⟨by have := HJ1.out; have := HK2.out; omega⟩, by repeat (first | exact Drawn0.refl _ | apply Drawn0.step)⟩
              · rw [if_neg c11] at H
                exact absurd H (by simp)
            · rw [if_neg c10] at H
              have c10b0 : decide (x3_2 < (a0.size : Int)) = false := decide_eq_false c10
              clear c10
              obtain rfl := Option.some.inj H
              go_wp2
              go_ret
              exact ⟨by first | rfl | (simp; done) | (simp [*]; done), by repeat (first | exact Drawn0.refl _ | apply Drawn0.step)⟩
end Go.Proofs.Ytfhgoebgnilfaaa.I
namespace Go.Proofs.Ytfhgoebgnilfaaa.I
open Go.RowKit Go.Proofs.YtfhgoebgnilfaaaW.PrintWords Go.Proofs.YtfhgoebgnilfaaaW.PrintLast Go.Proofs.YtfhgoebgnilfaaaW.PrintMore
set_option linter.unusedVariables false
set_option maxRecDepth 100000
set_option linter.unusedSimpArgs false
theorem w64 (x : Int) (h : -1000000 ≤ x ∧ x ≤ 1000000) : wrap64 x = x := by unfold wrap64; omega
theorem Ev.ifp {α : Type} {c : Prop} [Decidable c] {f g : Nat → Option α} {r : α} (h : c) (k : Ev f r) : Ev (fun n => if c then f n else g n) r := by
  simp only [if_pos h]; exact k
theorem Ev.ifn {α : Type} {c : Prop} [Decidable c] {f g : Nat → Option α} {r : α} (h : ¬ c) (k : Ev g r) : Ev (fun n => if c then f n else g n) r := by
  simp only [if_neg h]; exact k
/-- May a sign stand in a name? -/
def okc (b : Int) : Bool := decide ((97 ≤ b ∧ b ≤ 122) ∨ (48 ≤ b ∧ b ≤ 57) ∨ b = 95)
theorem chr_ite {α : Type} (b : Int) (c d : α) : (if b < 97 then (if b < 48 then (if b = 95 then c else d) else (if b > 57 then (if b = 95 then c else d) else c)) else (if b > 122 then (if b < 48 then (if b = 95 then c else d) else (if b > 57 then (if b = 95 then c else d) else c)) else c)) = if okc b = true then c else d := by
  unfold okc
  simp only [decide_eq_true_eq]
  repeat' split
  all_goals first | rfl | (exfalso; omega)
def chars (s : ByteArray) : Nat → Nat → Bool
  | 0, _ => true
  | n + 1, i => okc (bt s (i : Int)) && chars s n (i + 1)
def nameOk (s : ByteArray) : Bool := decide (1 ≤ s.size ∧ s.size ≤ 24 ∧ 97 ≤ bt s 0 ∧ bt s 0 ≤ 122) && chars s s.size 0
theorem name_loop (s : ByteArray) (hs : s.size ≤ 24) : ∀ (n i : Nat), i + n = s.size → Ev (fun k => term_Name.l0 k s (s.size : Int) (i : Int)) (chars s n i)
  | 0, i, h => Ev.step (fun k => by rw [term_Name.l0, if_neg (by omega)]; rfl) (Ev.now _)
  | n + 1, i, h => by
    refine Ev.step (fun k => by rw [term_Name.l0, if_pos (by omega), if_pos (by omega), if_pos (by omega), chr_ite]) ?_
    unfold chars
    cases hc : okc (bt s (i : Int))
    · exact Ev.ifn (by simp) (Ev.now _)
    · refine Ev.ifp rfl ?_
      rw [w64 _ (by omega)]
      exact name_loop s hs n (i + 1) (by omega)
theorem refname_loop (s : ByteArray) (hs : s.size ≤ 24) : ∀ (n i : Nat), i + n = s.size → Ev (fun k => virgationref02_Name.l0 k s (i : Int)) (chars s n i)
  | 0, i, h => Ev.step (fun k => by rw [virgationref02_Name.l0, if_neg (by omega)]; rfl) (Ev.now _)
  | n + 1, i, h => by
    refine Ev.step (fun k => by rw [virgationref02_Name.l0, if_pos (by omega), if_pos (by omega), chr_ite]) ?_
    unfold chars
    cases hc : okc (bt s (i : Int))
    · exact Ev.ifn (by simp) (Ev.now _)
    · refine Ev.ifp rfl ?_
      rw [w64 _ (by omega)]
      exact refname_loop s hs n (i + 1) (by omega)
theorem name_no (s : ByteArray) : Ev (fun k => term_Name.j0 k s true) false := Ev.step (fun k => by rw [term_Name.j0, if_pos rfl]) (Ev.now _)
theorem refname_no (s : ByteArray) : Ev (fun k => virgationref02_Name.j0 k s true) false := Ev.step (fun k => by rw [virgationref02_Name.j0, if_pos rfl]) (Ev.now _)
theorem nameOk_no {s : ByteArray} (h : ¬ (1 ≤ s.size ∧ s.size ≤ 24 ∧ 97 ≤ bt s 0 ∧ bt s 0 ≤ 122)) : nameOk s = false := by
  unfold nameOk
  rw [decide_eq_false h, Bool.false_and]
theorem name_ev (s : ByteArray) : Ev (fun k => term_Name.f k s) (nameOk s) := by
  unfold term_Name.f
  by_cases h1 : (s.size : Int) = 0
  · rw [nameOk_no (by omega)]; exact Ev.ifp h1 (name_no s)
  · by_cases h2 : (s.size : Int) > 24
    · rw [nameOk_no (by omega)]; exact Ev.ifn h1 (Ev.ifp h2 (name_no s))
    · refine Ev.ifn h1 (Ev.ifn h2 (Ev.ifp (by omega) ?_))
      by_cases h3 : bt s 0 < 97
      · rw [nameOk_no (by omega)]; exact Ev.ifp h3 (name_no s)
      · refine Ev.ifn h3 ?_
        by_cases h4 : bt s 0 > 122
        · rw [nameOk_no (by omega), decide_eq_true h4]; exact name_no s
        · rw [decide_eq_false h4]
          refine Ev.step (fun k => by rw [term_Name.j0, if_neg (by simp)]) ?_
          unfold nameOk
          rw [decide_eq_true (by omega), Bool.true_and]
          exact name_loop s (by omega) s.size 0 (by omega)
theorem refname_ev (s : ByteArray) : Ev (fun k => virgationref02_Name.f k s) (nameOk s) := by
  unfold virgationref02_Name.f
  by_cases h1 : (s.size : Int) < 1
  · rw [nameOk_no (by omega)]; exact Ev.ifp h1 (refname_no s)
  · by_cases h2 : (s.size : Int) > 24
    · rw [nameOk_no (by omega)]; exact Ev.ifn h1 (Ev.ifp h2 (refname_no s))
    · refine Ev.ifn h1 (Ev.ifn h2 (Ev.ifp (by omega) ?_))
      by_cases h3 : bt s 0 < 97
      · rw [nameOk_no (by omega)]; exact Ev.ifp h3 (refname_no s)
      · refine Ev.ifn h3 ?_
        by_cases h4 : bt s 0 > 122
        · rw [nameOk_no (by omega), decide_eq_true h4]; exact refname_no s
        · rw [decide_eq_false h4]
          refine Ev.step (fun k => by rw [virgationref02_Name.j0, if_neg (by simp)]) ?_
          unfold nameOk
          rw [decide_eq_true (by omega), Bool.true_and]
          exact refname_loop s (by omega) s.size 0 (by omega)
end Go.Proofs.Ytfhgoebgnilfaaa.I
namespace Go.Proofs.Ytfhgoebgnilfaaa.I
open Go.RowKit Go.Proofs.YtfhgoebgnilfaaaW.PrintWords Go.Proofs.YtfhgoebgnilfaaaW.PrintLast Go.Proofs.YtfhgoebgnilfaaaW.PrintMore
open Go.WideShapes Go.Maps Go.ChangeMaps Go.WideMaps
attribute [local go_sem] max2_int min2_int max_two min_two max_three min_three max_four min_four
set_option linter.unusedVariables false
set_option maxRecDepth 100000
set_option linter.unusedSimpArgs false
/-- Is a symbol wrong behind others with these names? -/
def symBad (x : S59) (L : List ByteArray) : Bool := !nameOk x.f0 || (isIn L x.f0 || (decide (x.f1 < 0) || decide (4 < x.f1)))
def symsL : List S59 → List ByteArray → Bool
  | [], _ => true
  | x :: xs, L => if symBad x L = true then false else symsL xs (L ++ [x.f0])
def names59 (l : List S59) : List ByteArray := l.map (fun x => x.f0)
def term_Symbols.f (l0 : List S59) : Option Bool := some (symsL l0 [] && decide (l0.length ≤ 24))
theorem rd_T59_drop (l : List S59) (i : Nat) (h : i < l.length) : l.drop i = rd_T59 l (i : Int) :: l.drop (i + 1) := by
  rw [List.drop_eq_getElem_cons h]
  simp [rd_T59, List.getD_eq_getElem?_getD, List.getElem?_eq_getElem h]
theorem rd_T59_take (l : List S59) (i : Nat) (h : i < l.length) : names59 (l.take i) ++ [(rd_T59 l (i : Int)).f0] = names59 (l.take (i + 1)) := by
  have e : l.take (i + 1) = l.take i ++ [l[i]] := by rw [List.take_add_one, List.getElem?_eq_getElem h]; rfl
  have e2 : rd_T59 l (i : Int) = l[i] := by unfold rd_T59; rw [Int.toNat_natCast, List.getD_eq_getElem?_getD, List.getElem?_eq_getElem h]; rfl
  rw [e, e2]
  unfold names59
  rw [List.map_append]
  rfl
theorem nameOk_size {s : ByteArray} (h : nameOk s = true) : s.size ≤ maxLen := by
  unfold nameOk at h
  rw [Bool.and_eq_true, decide_eq_true_eq] at h
  have := h.1.2.1
  unfold maxLen
  omega
/-- A goal at which the walk stands still. -/
def HoldI (p : Prop) : Prop := p
theorem holdI {p : Prop} (h : HoldI p) : p := h
theorem drawn_below {w w1 : World} (h : Drawn0 w w1) : Below w.heap.size w w1 := by
  obtain ⟨nd, rfl⟩ := h
  exact pw_below_drewN (Below.refl _ _) nd
set_option maxHeartbeats 4000000 in
theorem term_Symbols.calls (A0 : Option Addr) (c0 : Nat) (l0 : List S59) (r : Bool) (w : World) (hr0 : Kd.C k59 w A0 l0.length l0) (hc0 : l0.length ≤ c0) (h : term_Symbols.f l0 = some r) :
    Calls Try.prog 28 #[.slice A0 l0.length c0] w fun e w' => e = .returned (.bool r) ∧ Below w.heap.size w w' := by
  have hu59 := Try.underlying59
  have hmm := @run_makeMap Try.prog
  have hlen : l0.length ≤ 9223372036854775807 := hr0.2.1
  have HR := Aside0.mk hr0
  have HC := Aside0.mk hc0
  have H := Aside0.mk h
  clear hr0 hc0 h
  go_enter Try.func28, Try.ntmps28
  go_wp2_with fail
  go_loopg [9] l0.length (fun kq v9 wr => ∃ (i : Nat), v9 = .int .i64 (i : Int) ∧ Aside0 (kq + i = l0.length) ∧ Aside0 (Seen wr w.heap.size i (names59 (l0.take i))) ∧ Aside0 (symsL (l0.drop i) (names59 (l0.take i)) = symsL l0 []) ∧ Aside0 (Below w.heap.size w wr))
  case atStart => exact ⟨0, rfl, ⟨by omega⟩, ⟨seen_made w⟩, ⟨rfl⟩, ⟨below_alloc (Below.refl _ _) _⟩⟩
  case round =>
    obtain ⟨i, rfl, Hi, HS, HM, HB⟩ := hrel
    have hi : i ≤ l0.length := by have := Hi.out; omega
    by_cases hlt : i < l0.length
    · have hdrop := Aside0.mk (rd_T59_drop l0 i hlt)
      have htake := Aside0.mk (rd_T59_take l0 i hlt)
      obtain ⟨ad, he, hx1, hx2⟩ := at_T59 HR.out (i : Int) (by omega) (by omega)
      cases he
      replace hx1 := (HB.out.cell (World.block_lt_of_cell? w _ hx1)).trans hx1
      replace hx2 := (HB.out.cell (World.block_lt_of_cell? w _ hx2)).trans hx2
      rw [Int.toNat_natCast] at hx1 hx2
      have p1 : (0 ≤ (i : Int)) = True := eq_true (by omega)
      have p2 : ((i : Int) < (l0.length : Int)) = True := eq_true (by omega)
      have p3 : (i < l0.length) = True := eq_true (by omega)
      generalize hx : rd_T59 l0 (i : Int) = x at *
      clear hx
      obtain ⟨kN, hN⟩ := (name_ev x.f0).rounds
      have HN := Aside0.mk hN
      clear hN
      go_wp2_with (
        (with_reducible refine gate_dst (N := 5) rfl ?_)
        refine box_event ?hg (N := 5) ?hd (cs := #[.string (⟨#[]⟩ : ByteArray), .int .i64 0]) (t := 59) ?hr ?_
        (case hd => rfl)
        (case hg => rfl)
        (case hr => first | (go_simp; done) | (go_simp; rfl))
        intro gi hgi w3 hbox hb3
        have hsz := below_size HB.out
        have hgw : w.heap.size ≤ gi := by omega
        have hnb : w.heap.size ≠ gi := by have := HS.out.lt; omega
        have HB3 := Aside0.mk (below_set (g := gi) (j := 1) (v := .int .i64 x.f1) (below_set (g := gi) (j := 0) (v := .string x.f0) (below_step HB.out hb3) hgw) hgw)
        have HS3 := Aside0.mk (Seen.set (Seen.set (Seen.grown HS.out hb3) (p := ⟨gi, 0, none⟩) hnb (.string x.f0)) (p := ⟨gi, 1, none⟩) hnb (.int .i64 x.f1))
        have Hgi := Aside0.mk (blk_put (cs' := #[.string x.f0, .int .i64 x.f1]) (blk_put (cs' := #[.string x.f0, .int .i64 0]) hbox 0 (.string x.f0) rfl) 1 (.int .i64 x.f1) rfl)
        have hci0 : ((w3.setCell ⟨gi, 0, none⟩ (.string x.f0)).setCell ⟨gi, 1, none⟩ (.int .i64 x.f1)).cell? ⟨gi, 0, none⟩ = some (.string x.f0) := (blk_cell Hgi.out 0).trans rfl
        have hcz0 := (blk_cell hbox 0).trans rfl
        have hcz1 := (blk_cell hbox 1).trans rfl
        have hfz0 := blk_frozen hbox 0
        have hfz1 := blk_frozen hbox 1
        clear hbox hb3 hgi hsz)
      (with_reducible refine (term_Name.calls kN x.f0 (nameOk x.f0) _ HN.out).mono ?_)
      rintro e w4 ⟨rfl, hD⟩
      have hB4 := drawn_below hD
      have HB4 := Aside0.mk (below_step HB3.out hB4)
      have HS4 := Aside0.mk (Seen.grown HS3.out hB4)
      have Hg4 := Aside0.mk (blk_below Hgi.out hB4)
      have hc0 : w4.cell? ⟨gi, 0, none⟩ = some (.string x.f0) := (blk_cell Hg4.out 0).trans rfl
      have hc1 : w4.cell? ⟨gi, 1, none⟩ = some (.int .i64 x.f1) := (blk_cell Hg4.out 1).trans rfl
      clear hD hB4 HB HS HB3 HS3 Hgi hci0 hcz0 hcz1 hfz0 hfz1
      cases hn : nameOk x.f0 with
      | false =>
        have hr : r = false := by
          have e := H.out
          unfold term_Symbols.f at e
          rw [← HM.out, hdrop.out, symsL, if_pos (by simp [symBad, hn]), Bool.false_and] at e
          injection e with e
          exact e.symm
        subst hr
        go_wp2_with fail
        go_ret
        exact ⟨rfl, HB4.out⟩
      | true =>
        have hlk := seen_look HS4.out x.f0 (nameOk_size hn)
        cases hin : isIn (names59 (l0.take i)) x.f0 with
        | true =>
          have hr : r = false := by
            have e := H.out
            unfold term_Symbols.f at e
            rw [← HM.out, hdrop.out, symsL, if_pos (by simp [symBad, hn, hin]), Bool.false_and] at e
            injection e with e
            exact e.symm
          rw [hin] at hlk
          subst hr
          go_wp2_with fail
          go_ret
          exact ⟨rfl, HB4.out⟩
        | false =>
          rw [hin] at hlk
          by_cases h1 : x.f1 < 0
          · have h1b : decide (x.f1 < 0) = true := decide_eq_true h1
            have hr : r = false := by
              have e := H.out
              unfold term_Symbols.f at e
              rw [← HM.out, hdrop.out, symsL, if_pos (by simp [symBad, hn, hin, h1]), Bool.false_and] at e
              injection e with e
              exact e.symm
            clear h1
            subst hr
            go_wp2_with fail
            go_ret
            exact ⟨rfl, HB4.out⟩
          · have h1b : decide (x.f1 < 0) = false := decide_eq_false h1
            by_cases h2 : 4 < x.f1
            · have h2b : decide (4 < x.f1) = true := decide_eq_true h2
              have hr : r = false := by
                have e := H.out
                unfold term_Symbols.f at e
                rw [← HM.out, hdrop.out, symsL, if_pos (by simp [symBad, hn, hin, h1, h2]), Bool.false_and] at e
                injection e with e
                exact e.symm
              clear h1 h2
              subst hr
              go_wp2_with fail
              go_ret
              exact ⟨rfl, HB4.out⟩
            · have h2b : decide (4 < x.f1) = false := decide_eq_false h2
              have HM2 : Aside0 (symsL (l0.drop (i + 1)) (names59 (l0.take (i + 1))) = symsL l0 []) := ⟨by rw [← HM.out, hdrop.out, symsL, if_neg (by simp [symBad, hn, hin, h1, h2]), htake.out]⟩
              have hkey := keyOf_string_mk Try.underlying9 (nameOk_size hn)
              have Hkey := Aside0.mk hkey
              clear h1 h2 hn hin hkey
              go_wp2_with (at_mapUpdate; refine holdI ?_)
              unfold HoldI
              refine wpList_mapUpdate_own (H := Unit) _ rfl (.tmp 33) (.tmp 35) (.const (.bool true)) 64 rfl 9 4 law9 Try.underlying64 (plainElem Try.prog 4) w.heap.size i _ rfl HS4.out (by unfold maxLen; omega) (.string x.f0) (.bool true) (.string x.f0.data.toList) rfl rfl Hkey.out _ [] (plainElem_bool Try.underlying4 true) ?_
              intro w5 hown5 hgrow5
              have HS5 := Aside0.mk (seen_put hown5)
              have HB5 := Aside0.mk (HB4.out.grown hgrow5 HB4.out.size (fun k hk => by injection hk with hk; omega))
              rw [htake.out] at HS5
              clear hown5 hgrow5 hc0 hc1 hlk HS4 HB4 HM
              go_wp2_with fail
              have hk := Hi.out
              obtain ⟨k1, rfl⟩ : ∃ k1, gk = k1 + 1 := ⟨gk - 1, by omega⟩
              go_roundg k1
              case measure => omega
              case rel => exact ⟨i + 1, by go_num, ⟨by omega⟩, HS5, HM2, HB5⟩
    · have hie : i = l0.length := by omega
      have hr : r = decide ((l0.length : Int) ≤ 24) := by
        have e := H.out
        unfold term_Symbols.f at e
        rw [← HM.out, hie, List.drop_length, symsL, Bool.true_and] at e
        injection e with e
        rw [← e]
        exact decide_eq_decide.2 (by omega)
      clear hie
      subst hr
      go_wp2_with fail
      go_ret
      exact ⟨rfl, HB.out⟩
end Go.Proofs.Ytfhgoebgnilfaaa.I
namespace Go.Proofs.Ytfhgoebgnilfaaa.I
open Go.RowKit Go.Proofs.YtfhgoebgnilfaaaW.PrintWords Go.Proofs.YtfhgoebgnilfaaaW.PrintLast Go.Proofs.YtfhgoebgnilfaaaW.PrintMore
open Go.WideShapes Go.Maps Go.ChangeMaps Go.WideMaps
attribute [local go_sem] max2_int min2_int max_two min_two max_three min_three max_four min_four
set_option linter.unusedVariables false
set_option maxRecDepth 100000
set_option linter.unusedSimpArgs false
/-- How many heads of a kind there are. -/
def manyK (k p f s : Int) : Int := if k = 2 then s else if k = 1 then f else if k = 0 then p else 0
def isK (k : Int) : Bool := decide (k = 0 ∨ k = 1 ∨ k = 2)
mutual
/-- Do all heads of a term exist? -/
def knownS : S44 → Int → Int → Int → Bool
  | ⟨k, n, l⟩, p, f, s => (isK k && (decide (0 ≤ n) && decide (n < manyK k p f s))) && knownL l p f s
def knownL : List S44 → Int → Int → Int → Bool
  | [], _, _, _ => true
  | x :: xs, p, f, s => knownS x p f s && knownL xs p f s
end
mutual
/-- The kinds of a term's heads are whole numbers of the machine's. -/
def twf : S44 → Prop
  | ⟨k, _, l⟩ => (Lit.int .i64 k).wf = true ∧ twfL l
def twfL : List S44 → Prop
  | [] => True
  | x :: xs => twf x ∧ twfL xs
end
theorem twfL_drop : ∀ (l : List S44) (i : Nat), twfL l → twfL (l.drop i)
  | [], i, h => by simpa using h
  | x :: xs, 0, h => h
  | x :: xs, i + 1, h => twfL_drop xs i h.2
def kmap (p f s : Int) : DataW Unit := (((DataW.map []).put (.int .i64 0) (.lit (.int .i64 p))).put (.int .i64 1) (.lit (.int .i64 f))).put (.int .i64 2) (.lit (.int .i64 s))
theorem ikey (k : Int) : WideAt.IsKeyLit (Lit.int .i64 k) := trivial
theorem lit_ne {a b : Int} (h : a ≠ b) : Lit.int .i64 a ≠ Lit.int .i64 b := fun e => by injection e with _ e; exact h e
theorem kmap_at (k p f s : Int) : (kmap p f s).atKey (.int .i64 k) (.lit (.int .i64 0)) = .lit (.int .i64 (manyK k p f s)) := by
  unfold kmap manyK
  have m0 : IsMap (DataW.map [] : DataW Unit) := isMap_empty
  by_cases h2 : k = 2
  · subst h2
    rw [atKey_put_same ((m0.put _ _).put _ _) (ikey 2), if_pos rfl]
  · rw [atKey_put_other (lit_ne h2), if_neg h2]
    by_cases h1 : k = 1
    · subst h1
      rw [atKey_put_same (m0.put _ _) (ikey 1), if_pos rfl]
    · rw [atKey_put_other (lit_ne h1), if_neg h1]
      by_cases h0 : k = 0
      · subst h0
        rw [atKey_put_same m0 (ikey 0), if_pos rfl]
      · rw [atKey_put_other (lit_ne h0), if_neg h0]
        rfl
theorem kmap_has (k p f s : Int) : Maps.has (kmap p f s) (.int .i64 k) = isK k := by
  unfold kmap isK
  have m0 : IsMap (DataW.map [] : DataW Unit) := isMap_empty
  by_cases h2 : k = 2
  · subst h2
    rw [has_put_same ((m0.put _ _).put _ _) (ikey 2)]
    simp
  · rw [has_put_other (lit_ne h2)]
    by_cases h1 : k = 1
    · subst h1
      rw [has_put_same (m0.put _ _) (ikey 1)]
      simp
    · rw [has_put_other (lit_ne h1)]
      by_cases h0 : k = 0
      · subst h0
        rw [has_put_same m0 (ikey 0)]
        simp
      · rw [has_put_other (lit_ne h0)]
        simp [h0, h1, h2, Maps.has]
theorem law3 : Keyed Try.prog 3 := int_keyed Try.underlying3
theorem zero3 (w : World) : (zeroValue 3).run Try.prog w = .ok (.int .i64 0) w := by kernel_rfl
theorem ok64 {a : Int} (h : -1000000 ≤ a ∧ a ≤ 1000000) : (Lit.int .i64 a).wf = true := WalkArith.wf_i64 (by omega)
/-- The map of three is made. -/
theorem kmap_made (w : World) (p f s : Int) (hp : -1000000 ≤ p ∧ p ≤ 1000000) (hf : -1000000 ≤ f ∧ f ≤ 1000000) (hs : -1000000 ≤ s ∧ s ≤ 1000000) : ∃ wa wb wc,
    (Instr.mapUpdate 109 (.map (some w.heap.size)) (.int .i64 0) (.int .i64 p)).run Try.prog (w.alloc (.map #[] 0)) = .ok () wa ∧
    (Instr.mapUpdate 109 (.map (some w.heap.size)) (.int .i64 1) (.int .i64 f)).run Try.prog wa = .ok () wb ∧
    (Instr.mapUpdate 109 (.map (some w.heap.size)) (.int .i64 2) (.int .i64 s)).run Try.prog wb = .ok () wc ∧
    wc.ownsMap (H := Unit) Try.prog 3 (plainElem Try.prog 3) w.heap.size 3 (kmap p f s) ∧ Below w.heap.size w wc := by
  have o0 := World.ownsMap_made (H := Unit) w Try.prog 3 (plainElem Try.prog 3)
  obtain ⟨wa, ra, oa, ga⟩ := World.ownsMap.update (t := 109) o0 law3 Try.underlying109 (by unfold maxLen; omega) (keyOf_int_mk Try.underlying3 (ok64 (a := 0) (by omega))) (plainElem_int Try.underlying3 (ok64 hp))
  obtain ⟨wb, rb, ob, gb⟩ := World.ownsMap.update (t := 109) oa law3 Try.underlying109 (by unfold maxLen; omega) (keyOf_int_mk Try.underlying3 (ok64 (a := 1) (by omega))) (plainElem_int Try.underlying3 (ok64 hf))
  obtain ⟨wc, rc, oc, gc⟩ := World.ownsMap.update (t := 109) ob law3 Try.underlying109 (by unfold maxLen; omega) (keyOf_int_mk Try.underlying3 (ok64 (a := 2) (by omega))) (plainElem_int Try.underlying3 (ok64 hs))
  have hle : ∀ k, some w.heap.size = some k → w.heap.size ≤ k := fun k hk => by injection hk with hk; omega
  have b0 := below_alloc (Below.refl w.heap.size w) (.map #[] 0)
  have b1 := b0.grown ga b0.size hle
  have b2 := b1.grown gb b1.size hle
  have b3 := b2.grown gc b2.size hle
  exact ⟨wa, wb, wc, ra, rb, rc, oc, b3⟩
theorem kmap_look {w : World} {b : Nat} {p f s : Int} (h : w.ownsMap (H := Unit) Try.prog 3 (plainElem Try.prog 3) b 3 (kmap p f s)) (k : Int) (hk : (Lit.int .i64 k).wf = true) :
    (Instr.lookup 109 (.map (some b)) (.int .i64 k) true).run Try.prog w = .ok (.tuple #[.int .i64 (manyK k p f s), .bool (isK k)]) w := by
  obtain ⟨v, ps, hrun, hv⟩ := World.ownsMap.look_ok (t := 109) h law3 Try.underlying109 (zero3 w) (plainElem_int Try.underlying3 (ok64 (a := 0) (by omega))) (keyOf_int_mk Try.underlying3 hk)
  obtain ⟨x, rfl, hx, _⟩ := plainElem_int_inv Try.underlying3 hv
  injection hx with hx _
  rw [kmap_at] at hx
  injection hx with hx
  injection hx with _ hx
  rw [hrun, kmap_has, hx]
set_option maxHeartbeats 4000000 in
theorem known_calls (N : Nat) : ∀ (k n : Int) (l : List S44) (A : Option Addr) (c : Nat) (p f s : Int) (w0 w : World) (hN : SizeOf.sizeOf l < N) (hr : Kd.C k44 w0 A l.length l) (hc : l.length ≤ c) (hB : Below w0.heap.size w0 w)
    (hk : (Lit.int .i64 k).wf = true) (hl : twfL l) (hp : -1000000 ≤ p ∧ p ≤ 1000000) (hf : -1000000 ≤ f ∧ f ≤ 1000000) (hs : -1000000 ≤ s ∧ s ≤ 1000000),
    Calls Try.prog 31 #[.agg #[.int .i64 k, .int .i64 n, .slice A l.length c], .int .i64 p, .int .i64 f, .int .i64 s] w fun e w' => e = .returned (.bool (knownS ⟨k, n, l⟩ p f s)) ∧ Below w0.heap.size w0 w' := by
  induction N with
  | zero => intro k n l A c p f s w0 w hN; omega
  | succ N ih =>
  intro k n l A c p f s w0 w hN hr hc hB hk hl hp hf hs
  have hu44 := Try.underlying44
  have hmm := @run_makeMap Try.prog
  have hlen : l.length ≤ 9223372036854775807 := hr.2.1
  have HR := Aside0.mk hr
  have HC := Aside0.mk hc
  have HB := Aside0.mk hB
  have HN := Aside0.mk hN
  have HK := Aside0.mk hk
  have HL := Aside0.mk hl
  have HP := Aside0.mk hp
  have HF := Aside0.mk hf
  have HQ := Aside0.mk hs
  have IH := Aside0.mk ih
  clear hr hc hB hN ih hk hl hp hf hs
  cases hK : isK k with
  | false =>
    have hr : knownS ⟨k, n, l⟩ p f s = false := by
      unfold knownS
      simp [hK]
    rw [hr]
    go_enter Try.func31, Try.ntmps31
    go_wp2_with (
      (with_reducible refine gate_dst (N := 4) rfl ?_)
      refine box_event ?hg (N := 4) ?hd (cs := #[.int .i64 k, .int .i64 n, .slice A l.length c]) (t := 44) ?hr ?_
      (case hd => rfl)
      (case hg => rfl)
      (case hr => first | (go_simp; done) | (go_simp; rfl))
      intro g4 hg4 w2 hbox hb2
      obtain ⟨wa, wb, wc, ra, rb, rc, oc, bc⟩ := kmap_made w2 p f s HP.out HF.out HQ.out
      have HBc := Aside0.mk (below_step (below_step HB.out hb2) bc)
      have S4 := Aside0.mk (blk_below hbox bc)
      have hc0 : wc.cell? ⟨g4, 0, none⟩ = some (.int .i64 k) := (blk_cell S4.out 0).trans rfl
      have hc1 : wc.cell? ⟨g4, 1, none⟩ = some (.int .i64 n) := (blk_cell S4.out 1).trans rfl
      have hc2 : wc.cell? ⟨g4, 2, none⟩ = some (.slice A l.length c) := (blk_cell S4.out 2).trans rfl
      have hlk := kmap_look oc k HK.out
      rw [hK] at hlk
      clear hbox hb2 hg4 oc bc HB)
    go_ret
    exact ⟨rfl, HBc.out⟩
  | true =>
    by_cases h1 : n < 0
    · have h1b : decide (n < 0) = true := decide_eq_true h1
      have hr : knownS ⟨k, n, l⟩ p f s = false := by
        unfold knownS
        simp [hK, show ¬ (0 ≤ n) from by omega]
      rw [hr]
      go_enter Try.func31, Try.ntmps31
      clear h1
      go_wp2_with (
        (with_reducible refine gate_dst (N := 4) rfl ?_)
        refine box_event ?hg (N := 4) ?hd (cs := #[.int .i64 k, .int .i64 n, .slice A l.length c]) (t := 44) ?hr ?_
        (case hd => rfl)
        (case hg => rfl)
        (case hr => first | (go_simp; done) | (go_simp; rfl))
        intro g4 hg4 w2 hbox hb2
        obtain ⟨wa, wb, wc, ra, rb, rc, oc, bc⟩ := kmap_made w2 p f s HP.out HF.out HQ.out
        have HBc := Aside0.mk (below_step (below_step HB.out hb2) bc)
        have S4 := Aside0.mk (blk_below hbox bc)
        have hc0 : wc.cell? ⟨g4, 0, none⟩ = some (.int .i64 k) := (blk_cell S4.out 0).trans rfl
        have hc1 : wc.cell? ⟨g4, 1, none⟩ = some (.int .i64 n) := (blk_cell S4.out 1).trans rfl
        have hc2 : wc.cell? ⟨g4, 2, none⟩ = some (.slice A l.length c) := (blk_cell S4.out 2).trans rfl
        have hlk := kmap_look oc k HK.out
        rw [hK] at hlk
        clear hbox hb2 hg4 oc bc HB)
      go_ret
      exact ⟨rfl, HBc.out⟩
    · have h1b : decide (n < 0) = false := decide_eq_false h1
      by_cases h2 : manyK k p f s ≤ n
      · have h2b : decide (manyK k p f s ≤ n) = true := decide_eq_true h2
        have hr : knownS ⟨k, n, l⟩ p f s = false := by
          unfold knownS
          simp [hK, show ¬ (n < manyK k p f s) from by omega]
        rw [hr]
        go_enter Try.func31, Try.ntmps31
        clear h1 h2
        go_wp2_with (
          (with_reducible refine gate_dst (N := 4) rfl ?_)
          refine box_event ?hg (N := 4) ?hd (cs := #[.int .i64 k, .int .i64 n, .slice A l.length c]) (t := 44) ?hr ?_
          (case hd => rfl)
          (case hg => rfl)
          (case hr => first | (go_simp; done) | (go_simp; rfl))
          intro g4 hg4 w2 hbox hb2
          obtain ⟨wa, wb, wc, ra, rb, rc, oc, bc⟩ := kmap_made w2 p f s HP.out HF.out HQ.out
          have HBc := Aside0.mk (below_step (below_step HB.out hb2) bc)
          have S4 := Aside0.mk (blk_below hbox bc)
          have hc0 : wc.cell? ⟨g4, 0, none⟩ = some (.int .i64 k) := (blk_cell S4.out 0).trans rfl
          have hc1 : wc.cell? ⟨g4, 1, none⟩ = some (.int .i64 n) := (blk_cell S4.out 1).trans rfl
          have hc2 : wc.cell? ⟨g4, 2, none⟩ = some (.slice A l.length c) := (blk_cell S4.out 2).trans rfl
          have hlk := kmap_look oc k HK.out
          rw [hK] at hlk
          clear hbox hb2 hg4 oc bc HB)
        go_ret
        exact ⟨rfl, HBc.out⟩
      · have h2b : decide (manyK k p f s ≤ n) = false := decide_eq_false h2
        have hr : knownS ⟨k, n, l⟩ p f s = knownL l p f s := by
          unfold knownS
          simp [hK, show 0 ≤ n from by omega, show n < manyK k p f s from by omega]
        rw [hr]
        clear h1 h2 hr
        go_enter Try.func31, Try.ntmps31
        go_wp2_with (
          (with_reducible refine gate_dst (N := 4) rfl ?_)
          refine box_event ?hg (N := 4) ?hd (cs := #[.int .i64 k, .int .i64 n, .slice A l.length c]) (t := 44) ?hr ?_
          (case hd => rfl)
          (case hg => rfl)
          (case hr => first | (go_simp; done) | (go_simp; rfl))
          intro g4 hg4 w2 hbox hb2
          obtain ⟨wa, wb, wc, ra, rb, rc, oc, bc⟩ := kmap_made w2 p f s HP.out HF.out HQ.out
          have HBc := Aside0.mk (below_step (below_step HB.out hb2) bc)
          have S4 := Aside0.mk (blk_below hbox bc)
          have hc0 : wc.cell? ⟨g4, 0, none⟩ = some (.int .i64 k) := (blk_cell S4.out 0).trans rfl
          have hc1 : wc.cell? ⟨g4, 1, none⟩ = some (.int .i64 n) := (blk_cell S4.out 1).trans rfl
          have hc2 : wc.cell? ⟨g4, 2, none⟩ = some (.slice A l.length c) := (blk_cell S4.out 2).trans rfl
          have hlk := kmap_look oc k HK.out
          rw [hK] at hlk
          clear hbox hb2 hg4 oc bc HB)
        clear hlk ra rb rc hc0 hc1 hc2 h1b h2b hK
        go_loopg [42] l.length (fun kq v42 wr => ∃ (i : Nat), v42 = .int .i64 (i : Int) ∧ Aside0 (kq + i = l.length) ∧ Aside0 (knownL (l.drop i) p f s = knownL l p f s) ∧ Aside0 (Below w0.heap.size w0 wr))
        case atStart => exact ⟨0, rfl, ⟨by omega⟩, ⟨rfl⟩, HBc⟩
        case round =>
          clear HBc S4
          obtain ⟨i, rfl, Hi, HM, HB⟩ := hrel
          have hi : i ≤ l.length := by have := Hi.out; omega
          by_cases hlt : i < l.length
          · have hdrop := Aside0.mk (rd_T44_drop l i hlt)
            have hmem := Aside0.mk (rd_T44_mem l i hlt)
            have hwf := Aside0.mk (show twf (rd_T44 l (i : Int)) from by have := twfL_drop l i HL.out; rw [rd_T44_drop l i hlt] at this; exact this.1)
            obtain ⟨ad, A1, c1, he, hx1, hx2, hx3, hl1, hi1⟩ := at_T44 HR.out (i : Int) (by omega) (by omega)
            cases he
            replace hx1 := (HB.out.cell (World.block_lt_of_cell? w0 _ hx1)).trans hx1
            replace hx2 := (HB.out.cell (World.block_lt_of_cell? w0 _ hx2)).trans hx2
            replace hx3 := (HB.out.cell (World.block_lt_of_cell? w0 _ hx3)).trans hx3
            rw [Int.toNat_natCast] at hx1 hx2 hx3
            have Hl1 := Aside0.mk hl1
            have Hi1 := Aside0.mk hi1
            clear hl1 hi1
            have p1 : (0 ≤ (i : Int)) = True := eq_true (by omega)
            have p2 : ((i : Int) < (l.length : Int)) = True := eq_true (by omega)
            have p3 : (i < l.length) = True := eq_true (by omega)
            generalize hx : rd_T44 l (i : Int) = x at *
            clear hx
            go_wp2_with (
              (with_reducible refine gate_dst (N := 13) rfl ?_)
              refine box_event ?hg (N := 13) ?hd (cs := #[.int .i64 0, .int .i64 0, .slice none 0 0]) (t := 44) ?hr ?_
              (case hd => rfl)
              (case hg => rfl)
              (case hr => first | (go_simp; done) | (go_simp; rfl))
              intro gi hgi w3 hbox3 hb3
              have hsz := below_size HB.out
              have hgiw : w0.heap.size ≤ gi := by omega
              have HB3 := Aside0.mk (below_set (g := gi) (j := 2) (v := .slice A1 x.f2.length c1) (below_set (g := gi) (j := 1) (v := .int .i64 x.f1) (below_set (g := gi) (j := 0) (v := .int .i64 x.f0) (below_step HB.out hb3) hgiw) hgiw) hgiw)
              have Hgi := Aside0.mk (blk_put (cs' := #[.int .i64 x.f0, .int .i64 x.f1, .slice A1 x.f2.length c1]) (blk_put (cs' := #[.int .i64 x.f0, .int .i64 x.f1, .slice none 0 0]) (blk_put (cs' := #[.int .i64 x.f0, .int .i64 0, .slice none 0 0]) hbox3 0 (.int .i64 x.f0) rfl) 1 (.int .i64 x.f1) rfl) 2 (.slice A1 x.f2.length c1) rfl)
              have hci0 : (((w3.setCell ⟨gi, 0, none⟩ (.int .i64 x.f0)).setCell ⟨gi, 1, none⟩ (.int .i64 x.f1)).setCell ⟨gi, 2, none⟩ (.slice A1 x.f2.length c1)).cell? ⟨gi, 0, none⟩ = some (.int .i64 x.f0) := (blk_cell Hgi.out 0).trans rfl
              have hci1 : (((w3.setCell ⟨gi, 0, none⟩ (.int .i64 x.f0)).setCell ⟨gi, 1, none⟩ (.int .i64 x.f1)).setCell ⟨gi, 2, none⟩ (.slice A1 x.f2.length c1)).cell? ⟨gi, 1, none⟩ = some (.int .i64 x.f1) := (blk_cell Hgi.out 1).trans rfl
              have hci2 : (((w3.setCell ⟨gi, 0, none⟩ (.int .i64 x.f0)).setCell ⟨gi, 1, none⟩ (.int .i64 x.f1)).setCell ⟨gi, 2, none⟩ (.slice A1 x.f2.length c1)).cell? ⟨gi, 2, none⟩ = some (.slice A1 x.f2.length c1) := (blk_cell Hgi.out 2).trans rfl
              have hcz0 := (blk_cell hbox3 0).trans rfl
              have hcz1 := (blk_cell hbox3 1).trans rfl
              have hcz2 := (blk_cell hbox3 2).trans rfl
              have hfz0 := blk_frozen hbox3 0
              have hfz1 := blk_frozen hbox3 1
              have hfz2 := blk_frozen hbox3 2
              clear hbox3 hb3 hsz hgi HB)
            have hxe : x = ⟨x.f0, x.f1, x.f2⟩ := by cases x; rfl
            have Hxe := Aside0.mk hxe
            have hw2 := Aside0.mk (show (Lit.int .i64 x.f0).wf = true ∧ twfL x.f2 from by have := hwf.out; rw [hxe] at this; exact this)
            clear hxe
            (with_reducible refine (IH.out x.f0 x.f1 x.f2 A1 c1 p f s w0 _ ?_ Hi1.out Hl1.out HB3.out hw2.out.1 hw2.out.2 HP.out HF.out HQ.out).mono ?_)
            · have := hmem.out; have := HN.out; omega
            rintro e w4 ⟨rfl, hB4⟩
            rw [← Hxe.out]
            have HB4 := Aside0.mk hB4
            clear hB4 HB3 Hgi hci0 hci1 hci2 hcz0 hcz1 hcz2 hfz0 hfz1 hfz2
            cases hkx : knownS x p f s with
            | false =>
              have hr : knownL l p f s = false := by rw [← HM.out, hdrop.out, knownL, hkx]; rfl
              have Hr := Aside0.mk hr
              clear hr
              go_wp2_with fail
              go_ret
              exact ⟨by have := Hr.out; simp [this], HB4.out⟩
            | true =>
              have HM2 : Aside0 (knownL (l.drop (i + 1)) p f s = knownL l p f s) := ⟨by rw [← HM.out, hdrop.out, knownL, hkx]; rfl⟩
              clear hkx
              go_wp2_with fail
              have hk := Hi.out
              obtain ⟨k1, rfl⟩ : ∃ k1, gk = k1 + 1 := ⟨gk - 1, by omega⟩
              go_roundg k1
              case measure => omega
              case rel => exact ⟨i + 1, by go_num, ⟨by omega⟩, HM2, HB4⟩
          · have hie : i = l.length := by omega
            have hr : knownL l p f s = true := by rw [← HM.out, hie, List.drop_length, knownL]
            have Hr := Aside0.mk hr
            clear hr
            go_wp2_with fail
            go_ret
            exact ⟨by have := Hr.out; simp [this], HB.out⟩
end Go.Proofs.Ytfhgoebgnilfaaa.I
namespace Go.Proofs.Ytfhgoebgnilfaaa.I
open Go.RowKit Go.Proofs.YtfhgoebgnilfaaaW.PrintWords Go.Proofs.YtfhgoebgnilfaaaW.PrintLast Go.Proofs.YtfhgoebgnilfaaaW.PrintMore
open Go.WideShapes Go.Maps Go.ChangeMaps Go.WideMaps
attribute [local go_sem] max2_int min2_int max_two min_two max_three min_three max_four min_four
set_option linter.unusedVariables false
set_option maxRecDepth 100000
set_option linter.unusedSimpArgs false
/-- Nodes and depth of a term. -/
def szT (x : S44) : Int × Int := if (tmeas x 100000).2 < 0 then (100001, 0) else (100000 - (tmeas x 100000).2, (tmeas x 100000).1)
theorem szT_eq (a b : Int) (l : List S44) : term_Size.f a b l = some ((szT ⟨a, b, l⟩).1, (szT ⟨a, b, l⟩).2) := by unfold term_Size.f szT; split <;> rfl
/-- Is a function wrong behind others with these names? -/
def looseBad (x : S48) (nf ns : Int) (L : List ByteArray) : Bool := !nameOk x.f0 || (isIn L x.f0 || (decide (x.f1 < 0) || (decide (8 < x.f1) || (decide (400 < (szT ⟨x.f2.f0, x.f2.f1, x.f2.f2⟩).1) || (decide (30 < (szT ⟨x.f2.f0, x.f2.f1, x.f2.f2⟩).2) || !knownS ⟨x.f2.f0, x.f2.f1, x.f2.f2⟩ x.f1 nf ns)))))
def looseL : List S48 → Int → Int → List ByteArray → Bool
  | [], _, _, _ => true
  | x :: xs, nf, ns, L => if looseBad x nf ns L = true then false else looseL xs nf ns (L ++ [x.f0])
def names48 (l : List S48) : List ByteArray := l.map (fun x => x.f0)
def chkF (l0 : List S59) (l1 : List S48) : Option Int := some (if 24 < l0.length ∨ symsL l0 [] = false then 2 else if l1.length = 0 ∨ 64 < l1.length ∨ (rd_T48 l1 0).f1 ≠ 0 then 4 else if looseL l1 (l1.length : Int) (l0.length : Int) [] = true then 0 else 4)
theorem rd_T48_drop (l : List S48) (i : Nat) (h : i < l.length) : l.drop i = rd_T48 l (i : Int) :: l.drop (i + 1) := by
  rw [List.drop_eq_getElem_cons h]
  simp [rd_T48, List.getD_eq_getElem?_getD, List.getElem?_eq_getElem h]
theorem rd_T48_take (l : List S48) (i : Nat) (h : i < l.length) : names48 (l.take i) ++ [(rd_T48 l (i : Int)).f0] = names48 (l.take (i + 1)) := by
  have e : l.take (i + 1) = l.take i ++ [l[i]] := by rw [List.take_add_one, List.getElem?_eq_getElem h]; rfl
  have e2 : rd_T48 l (i : Int) = l[i] := by unfold rd_T48; rw [Int.toNat_natCast, List.getD_eq_getElem?_getD, List.getElem?_eq_getElem h]; rfl
  rw [e, e2]
  unfold names48
  rw [List.map_append]
  rfl
theorem rd_T48_mem (l : List S48) (i : Nat) (h : i < l.length) : rd_T48 l (i : Int) ∈ l := by
  simp [rd_T48, List.getD_eq_getElem?_getD, List.getElem?_eq_getElem h]
set_option maxHeartbeats 8000000 in
theorem chkF_calls (A0 : Option Addr) (c0 : Nat) (l0 : List S59) (A1 : Option Addr) (c1 : Nat) (l1 : List S48) (r : Int) (w : World) (hr0 : Kd.C k59 w A0 l0.length l0) (hc0 : l0.length ≤ c0) (hr1 : Kd.C k48 w A1 l1.length l1) (hc1 : l1.length ≤ c1) (hwf : ∀ x ∈ l1, twf x.f2) (h : chkF l0 l1 = some r) :
    Calls Try.prog 10 #[.slice A0 l0.length c0, .slice A1 l1.length c1] w fun e w' => e = .returned (.int .i64 r) ∧ Below w.heap.size w w' := by
  have hu48 := Try.underlying48
  have hu44 := Try.underlying44
  have hmm := @run_makeMap Try.prog
  have hlen0 : l0.length ≤ 9223372036854775807 := hr0.2.1
  have hlen1 : l1.length ≤ 9223372036854775807 := hr1.2.1
  have HR0 := Aside0.mk hr0
  have HC0 := Aside0.mk hc0
  have HR1 := Aside0.mk hr1
  have HC1 := Aside0.mk hc1
  have HW := Aside0.mk hwf
  have H := Aside0.mk h
  have HBw := Aside0.mk (Below.refl w.heap.size w)
  clear hr0 hc0 hr1 hc1 hwf h
  by_cases ha : 24 < l0.length
  · have hab : decide ((24 : Int) < (l0.length : Int)) = true := decide_eq_true (by omega)
    have hr : r = 2 := by
      have e := H.out
      unfold chkF at e
      rw [if_pos (.inl ha)] at e
      injection e with e
      exact e.symm
    clear ha
    go_enter Try.func10, Try.ntmps10
    subst hr
    go_wp2_with fail
    go_ret
    exact ⟨rfl, HBw.out⟩
  have hab : decide ((24 : Int) < (l0.length : Int)) = false := decide_eq_false (by omega)
  have hsy := Aside0.mk (show term_Symbols.f l0 = some (symsL l0 []) from by unfold term_Symbols.f; rw [decide_eq_true (by omega), Bool.and_true])
  have hal : l0.length ≤ 24 := by omega
  clear ha
  go_enter Try.func10, Try.ntmps10
  go_wp2_with fail
  (with_reducible refine (term_Symbols.calls A0 c0 l0 (symsL l0 []) _ HR0.out HC0.out hsy.out).mono ?_)
  rintro e w1 ⟨rfl, hB1⟩
  have HB1 := Aside0.mk hB1
  clear hB1 HBw
  cases hs : symsL l0 [] with
  | false =>
    have hr : r = 2 := by
      have e := H.out
      unfold chkF at e
      rw [if_pos (.inr hs)] at e
      injection e with e
      exact e.symm
    subst hr
    go_wp2_with fail
    go_ret
    exact ⟨rfl, HB1.out⟩
  | true =>
    have HA := Aside0.mk (show ¬ (24 < l0.length ∨ symsL l0 [] = false) from by rw [hs]; simp; omega)
    clear hs
    have end4 : ∀ (hq : l1.length = 0 ∨ 64 < l1.length ∨ (rd_T48 l1 0).f1 ≠ 0), r = 4 := by
      intro hq
      have e := H.out
      unfold chkF at e
      rw [if_neg HA.out, if_pos hq] at e
      injection e with e
      exact e.symm
    have End4 := Aside0.mk end4
    clear end4
    by_cases hz : l1.length = 0
    · have hzb : ((l1.length : Int) == 0) = true := beq_iff_eq.2 (by omega)
      have hr := End4.out (.inl hz)
      clear hz
      subst hr
      go_wp2_with fail
      go_ret
      exact ⟨rfl, HB1.out⟩
    have hzb : ((l1.length : Int) == 0) = false := beq_eq_false_iff_ne.2 (by omega)
    by_cases hy : 64 < l1.length
    · have hyb : decide ((64 : Int) < (l1.length : Int)) = true := decide_eq_true (by omega)
      have hr := End4.out (.inr (.inl hy))
      clear hz hy
      subst hr
      go_wp2_with fail
      go_ret
      exact ⟨rfl, HB1.out⟩
    have hyb : decide ((64 : Int) < (l1.length : Int)) = false := decide_eq_false (by omega)
    have hbl : l1.length ≤ 64 := by omega
    have hpl : 0 < l1.length := by omega
    obtain ⟨ad0, A4_, c4_, he0, _, hy1, _, _, _, _, _⟩ := at_T48 HR1.out 0 (by omega) (by omega)
    replace hy1 := (HB1.out.cell (World.block_lt_of_cell? w _ hy1)).trans hy1
    replace hy1 : w1.cell? ⟨ad0.block, ad0.off + 1, none⟩ = some (.int .i64 (rd_T48 l1 0).f1) := by simpa [Addr.add] using hy1
    cases he0
    have p2_ : ((0 : Int) < (l1.length : Int)) = True := eq_true (by omega)
    have p3_ : (0 < l1.length) = True := eq_true hpl
    by_cases hx0 : (rd_T48 l1 0).f1 = 0
    · have hxb : ((rd_T48 l1 0).f1 != 0) = false := bne_eq_false_iff_eq.2 hx0
      have HAB := Aside0.mk (show ¬ (l1.length = 0 ∨ 64 < l1.length ∨ (rd_T48 l1 0).f1 ≠ 0) from fun hq => by
        rcases hq with hq | hq | hq
        · omega
        · omega
        · exact hq hx0)
      clear hx0 hz hy
      go_wp2_with fail
      obtain ⟨bm, hbm⟩ : ∃ b, b = w1.heap.size := ⟨_, rfl⟩
      have hbw : w.heap.size ≤ bm := by have := HB1.out.size; omega
      have HS1 := Aside0.mk (show Seen (w1.alloc (.map #[] 0)) bm 0 [] from by rw [hbm]; exact seen_made w1)
      have HBa := Aside0.mk (below_alloc HB1.out (.map #[] 0))
      rw [← hbm]
      clear hbm
      go_loopg [36] l1.length (fun kq v36 wr => ∃ (i : Nat), v36 = .int .i64 (i : Int) ∧ Aside0 (kq + i = l1.length) ∧ Aside0 (Seen wr bm i (names48 (l1.take i))) ∧ Aside0 (looseL (l1.drop i) (l1.length : Int) (l0.length : Int) (names48 (l1.take i)) = looseL l1 (l1.length : Int) (l0.length : Int) []) ∧ Aside0 (Below w.heap.size w wr))
      case atStart => exact ⟨0, rfl, ⟨by omega⟩, HS1, ⟨rfl⟩, HBa⟩
      case round =>
        clear HS1 HBa HB1 hy1
        obtain ⟨i, rfl, Hi, HS, HM, HB⟩ := hrel
        have hi : i ≤ l1.length := by have := Hi.out; omega
        by_cases hlt : i < l1.length
        · have hdrop := Aside0.mk (rd_T48_drop l1 i hlt)
          have htake := Aside0.mk (rd_T48_take l1 i hlt)
          have hxw := Aside0.mk (HW.out _ (rd_T48_mem l1 i hlt))
          obtain ⟨ad, A4, c4, he, hx1, hx2, hx3, hx4, hx5, hl4, hC4⟩ := at_T48 HR1.out (i : Int) (by omega) (by omega)
          cases he
          replace hx1 := (HB.out.cell (World.block_lt_of_cell? w _ hx1)).trans hx1
          rw [Int.toNat_natCast] at hx1
          replace hx2 := (HB.out.cell (World.block_lt_of_cell? w _ hx2)).trans hx2
          rw [Int.toNat_natCast] at hx2
          replace hx3 := (HB.out.cell (World.block_lt_of_cell? w _ hx3)).trans hx3
          rw [Int.toNat_natCast] at hx3
          replace hx4 := (HB.out.cell (World.block_lt_of_cell? w _ hx4)).trans hx4
          rw [Int.toNat_natCast] at hx4
          replace hx5 := (HB.out.cell (World.block_lt_of_cell? w _ hx5)).trans hx5
          rw [Int.toNat_natCast] at hx5
          have Hl4 := Aside0.mk hl4
          have HC4 := Aside0.mk hC4
          clear hl4 hC4
          have p1 : (0 ≤ (i : Int)) = True := eq_true (by omega)
          have p2 : ((i : Int) < (l1.length : Int)) = True := eq_true (by omega)
          have p3 : (i < l1.length) = True := eq_true (by omega)
          generalize hx : rd_T48 l1 (i : Int) = x at *
          clear hx
          obtain ⟨kN, hN⟩ := (name_ev x.f0).rounds
          have HN := Aside0.mk hN
          clear hN
          go_wp2_with (
            (with_reducible refine gate_dst (N := 7) rfl ?_)
            refine box_event ?hg (N := 7) ?hd (cs := #[.string (⟨#[]⟩ : ByteArray), .int .i64 0, .int .i64 0, .int .i64 0, .slice none 0 0]) (t := 48) ?hr ?_
            (case hd => rfl)
            (case hg => rfl)
            (case hr => first | (go_simp; done) | (go_simp; rfl))
            intro gi hgi w3 hbox hb3
            have hsz := below_size HB.out
            have hgw : w.heap.size ≤ gi := by omega
            have hnb : bm ≠ gi := by have := HS.out.lt; omega
            have HB3 := Aside0.mk (below_set (g := gi) (j := 4) (v := .slice A4 x.f2.f2.length c4) (below_set (g := gi) (j := 3) (v := .int .i64 x.f2.f1) (below_set (g := gi) (j := 2) (v := .int .i64 x.f2.f0) (below_set (g := gi) (j := 1) (v := .int .i64 x.f1) (below_set (g := gi) (j := 0) (v := .string x.f0) (below_step HB.out hb3) hgw) hgw) hgw) hgw) hgw)
            have HS3 := Aside0.mk (Seen.set (Seen.set (Seen.set (Seen.set (Seen.set (Seen.grown HS.out hb3) (p := ⟨gi, 0, none⟩) hnb (.string x.f0)) (p := ⟨gi, 1, none⟩) hnb (.int .i64 x.f1)) (p := ⟨gi, 2, none⟩) hnb (.int .i64 x.f2.f0)) (p := ⟨gi, 3, none⟩) hnb (.int .i64 x.f2.f1)) (p := ⟨gi, 4, none⟩) hnb (.slice A4 x.f2.f2.length c4))
            have Hgi := Aside0.mk (blk_put (cs' := #[.string x.f0, .int .i64 x.f1, .int .i64 x.f2.f0, .int .i64 x.f2.f1, .slice A4 x.f2.f2.length c4]) (blk_put (cs' := #[.string x.f0, .int .i64 x.f1, .int .i64 x.f2.f0, .int .i64 x.f2.f1, .slice none 0 0]) (blk_put (cs' := #[.string x.f0, .int .i64 x.f1, .int .i64 x.f2.f0, .int .i64 0, .slice none 0 0]) (blk_put (cs' := #[.string x.f0, .int .i64 x.f1, .int .i64 0, .int .i64 0, .slice none 0 0]) (blk_put (cs' := #[.string x.f0, .int .i64 0, .int .i64 0, .int .i64 0, .slice none 0 0]) (hbox) 0 (.string x.f0) rfl) 1 (.int .i64 x.f1) rfl) 2 (.int .i64 x.f2.f0) rfl) 3 (.int .i64 x.f2.f1) rfl) 4 (.slice A4 x.f2.f2.length c4) rfl)
            have hci0 : (((((w3.setCell ⟨gi, 0, none⟩ (.string x.f0)).setCell ⟨gi, 1, none⟩ (.int .i64 x.f1)).setCell ⟨gi, 2, none⟩ (.int .i64 x.f2.f0)).setCell ⟨gi, 3, none⟩ (.int .i64 x.f2.f1)).setCell ⟨gi, 4, none⟩ (.slice A4 x.f2.f2.length c4)).cell? ⟨gi, 0, none⟩ = some (.string x.f0) := (blk_cell Hgi.out 0).trans rfl
            have hcz0 := (blk_cell hbox 0).trans rfl
            have hfz0 := blk_frozen hbox 0
            have hci1 : (((((w3.setCell ⟨gi, 0, none⟩ (.string x.f0)).setCell ⟨gi, 1, none⟩ (.int .i64 x.f1)).setCell ⟨gi, 2, none⟩ (.int .i64 x.f2.f0)).setCell ⟨gi, 3, none⟩ (.int .i64 x.f2.f1)).setCell ⟨gi, 4, none⟩ (.slice A4 x.f2.f2.length c4)).cell? ⟨gi, 1, none⟩ = some (.int .i64 x.f1) := (blk_cell Hgi.out 1).trans rfl
            have hcz1 := (blk_cell hbox 1).trans rfl
            have hfz1 := blk_frozen hbox 1
            have hci2 : (((((w3.setCell ⟨gi, 0, none⟩ (.string x.f0)).setCell ⟨gi, 1, none⟩ (.int .i64 x.f1)).setCell ⟨gi, 2, none⟩ (.int .i64 x.f2.f0)).setCell ⟨gi, 3, none⟩ (.int .i64 x.f2.f1)).setCell ⟨gi, 4, none⟩ (.slice A4 x.f2.f2.length c4)).cell? ⟨gi, 2, none⟩ = some (.int .i64 x.f2.f0) := (blk_cell Hgi.out 2).trans rfl
            have hcz2 := (blk_cell hbox 2).trans rfl
            have hfz2 := blk_frozen hbox 2
            have hci3 : (((((w3.setCell ⟨gi, 0, none⟩ (.string x.f0)).setCell ⟨gi, 1, none⟩ (.int .i64 x.f1)).setCell ⟨gi, 2, none⟩ (.int .i64 x.f2.f0)).setCell ⟨gi, 3, none⟩ (.int .i64 x.f2.f1)).setCell ⟨gi, 4, none⟩ (.slice A4 x.f2.f2.length c4)).cell? ⟨gi, 3, none⟩ = some (.int .i64 x.f2.f1) := (blk_cell Hgi.out 3).trans rfl
            have hcz3 := (blk_cell hbox 3).trans rfl
            have hfz3 := blk_frozen hbox 3
            have hci4 : (((((w3.setCell ⟨gi, 0, none⟩ (.string x.f0)).setCell ⟨gi, 1, none⟩ (.int .i64 x.f1)).setCell ⟨gi, 2, none⟩ (.int .i64 x.f2.f0)).setCell ⟨gi, 3, none⟩ (.int .i64 x.f2.f1)).setCell ⟨gi, 4, none⟩ (.slice A4 x.f2.f2.length c4)).cell? ⟨gi, 4, none⟩ = some (.slice A4 x.f2.f2.length c4) := (blk_cell Hgi.out 4).trans rfl
            have hcz4 := (blk_cell hbox 4).trans rfl
            have hfz4 := blk_frozen hbox 4
            clear hbox hb3 hgi hsz)
          (with_reducible refine (term_Size.calls x.f2.f0 x.f2.f1 A4 c4 x.f2.f2 _ _ _ (Kd.C_below HC4.out HB3.out) Hl4.out (szT_eq x.f2.f0 x.f2.f1 x.f2.f2)).mono ?_)
          rintro e w4 ⟨rfl, hB4⟩
          have HB4 := Aside0.mk (below_step HB3.out hB4)
          have HS4 := Aside0.mk (Seen.grown HS3.out hB4)
          have Hg4 := Aside0.mk (blk_below Hgi.out hB4)
          have hc0 : w4.cell? ⟨gi, 0, none⟩ = some (.string x.f0) := (blk_cell Hg4.out 0).trans rfl
          clear hB4 HB HS HB3 HS3 Hgi hci0 hci1 hci2 hci3 hci4 hcz0 hcz1 hcz2 hcz3 hcz4 hfz0 hfz1 hfz2 hfz3 hfz4
          go_wp2_with fail
          (with_reducible refine (term_Name.calls kN x.f0 (nameOk x.f0) _ HN.out).mono ?_)
          rintro e w5 ⟨rfl, hD⟩
          have hB5 := drawn_below hD
          have HB5 := Aside0.mk (below_step HB4.out hB5)
          have HS5 := Aside0.mk (Seen.grown HS4.out hB5)
          have Hg5 := Aside0.mk (blk_below Hg4.out hB5)
          have hcw50 : w5.cell? ⟨gi, 0, none⟩ = some (.string x.f0) := (blk_cell Hg5.out 0).trans rfl
          have hcw51 : w5.cell? ⟨gi, 1, none⟩ = some (.int .i64 x.f1) := (blk_cell Hg5.out 1).trans rfl
          have hcw52 : w5.cell? ⟨gi, 2, none⟩ = some (.int .i64 x.f2.f0) := (blk_cell Hg5.out 2).trans rfl
          have hcw53 : w5.cell? ⟨gi, 3, none⟩ = some (.int .i64 x.f2.f1) := (blk_cell Hg5.out 3).trans rfl
          have hcw54 : w5.cell? ⟨gi, 4, none⟩ = some (.slice A4 x.f2.f2.length c4) := (blk_cell Hg5.out 4).trans rfl
          clear hD hB5 HB4 HS4 Hg4 hc0
          cases hn : nameOk x.f0 with
          | false =>
            have hr : r = 4 := by
              have e := H.out
              have hbad : looseBad x (l1.length : Int) (l0.length : Int) (names48 (l1.take i)) = true := by
                unfold looseBad
                simp [hn]
              unfold chkF at e
              rw [if_neg HA.out, if_neg HAB.out, ← HM.out, hdrop.out, looseL, if_pos hbad, if_neg (by simp)] at e
              injection e with e
              exact e.symm
            subst hr
            go_wp2_with fail
            go_ret
            exact ⟨rfl, HB5.out⟩
          | true =>
            have hlk := seen_look HS5.out x.f0 (nameOk_size hn)
            cases hin : isIn (names48 (l1.take i)) x.f0 with
            | true =>
              have hr : r = 4 := by
                have e := H.out
                have hbad : looseBad x (l1.length : Int) (l0.length : Int) (names48 (l1.take i)) = true := by
                  unfold looseBad
                  simp [hn, hin]
                unfold chkF at e
                rw [if_neg HA.out, if_neg HAB.out, ← HM.out, hdrop.out, looseL, if_pos hbad, if_neg (by simp)] at e
                injection e with e
                exact e.symm
              rw [hin] at hlk
              subst hr
              go_wp2_with fail
              go_ret
              exact ⟨rfl, HB5.out⟩
            | false =>
              rw [hin] at hlk
              by_cases h1 : x.f1 < 0
              · have h1b : decide (x.f1 < 0) = true := decide_eq_true h1
                have hr : r = 4 := by
                  have e := H.out
                  have hbad : looseBad x (l1.length : Int) (l0.length : Int) (names48 (l1.take i)) = true := by
                    unfold looseBad
                    simp [hn, hin, h1]
                  unfold chkF at e
                  rw [if_neg HA.out, if_neg HAB.out, ← HM.out, hdrop.out, looseL, if_pos hbad, if_neg (by simp)] at e
                  injection e with e
                  exact e.symm
                clear h1
                subst hr
                go_wp2_with fail
                go_ret
                exact ⟨rfl, HB5.out⟩
              have h1b : decide (x.f1 < 0) = false := decide_eq_false h1
              by_cases h2 : 8 < x.f1
              · have h2b : decide (8 < x.f1) = true := decide_eq_true h2
                have hr : r = 4 := by
                  have e := H.out
                  have hbad : looseBad x (l1.length : Int) (l0.length : Int) (names48 (l1.take i)) = true := by
                    unfold looseBad
                    simp [hn, hin, h1, h2]
                  unfold chkF at e
                  rw [if_neg HA.out, if_neg HAB.out, ← HM.out, hdrop.out, looseL, if_pos hbad, if_neg (by simp)] at e
                  injection e with e
                  exact e.symm
                clear h1 h2
                subst hr
                go_wp2_with fail
                go_ret
                exact ⟨rfl, HB5.out⟩
              have h2b : decide (8 < x.f1) = false := decide_eq_false h2
              by_cases h3 : 400 < (szT ⟨x.f2.f0, x.f2.f1, x.f2.f2⟩).1
              · have h3b : decide (400 < (szT ⟨x.f2.f0, x.f2.f1, x.f2.f2⟩).1) = true := decide_eq_true h3
                have hr : r = 4 := by
                  have e := H.out
                  have hbad : looseBad x (l1.length : Int) (l0.length : Int) (names48 (l1.take i)) = true := by
                    unfold looseBad
                    simp [hn, hin, h1, h2, h3]
                  unfold chkF at e
                  rw [if_neg HA.out, if_neg HAB.out, ← HM.out, hdrop.out, looseL, if_pos hbad, if_neg (by simp)] at e
                  injection e with e
                  exact e.symm
                clear h1 h2 h3
                subst hr
                go_wp2_with fail
                go_ret
                exact ⟨rfl, HB5.out⟩
              have h3b : decide (400 < (szT ⟨x.f2.f0, x.f2.f1, x.f2.f2⟩).1) = false := decide_eq_false h3
              by_cases h4 : 30 < (szT ⟨x.f2.f0, x.f2.f1, x.f2.f2⟩).2
              · have h4b : decide (30 < (szT ⟨x.f2.f0, x.f2.f1, x.f2.f2⟩).2) = true := decide_eq_true h4
                have hr : r = 4 := by
                  have e := H.out
                  have hbad : looseBad x (l1.length : Int) (l0.length : Int) (names48 (l1.take i)) = true := by
                    unfold looseBad
                    simp [hn, hin, h1, h2, h3, h4]
                  unfold chkF at e
                  rw [if_neg HA.out, if_neg HAB.out, ← HM.out, hdrop.out, looseL, if_pos hbad, if_neg (by simp)] at e
                  injection e with e
                  exact e.symm
                clear h1 h2 h3 h4
                subst hr
                go_wp2_with fail
                go_ret
                exact ⟨rfl, HB5.out⟩
              have h4b : decide (30 < (szT ⟨x.f2.f0, x.f2.f1, x.f2.f2⟩).2) = false := decide_eq_false h4
              have hq := Aside0.mk (show (Lit.int .i64 x.f2.f0).wf = true ∧ twfL x.f2.f2 from by have := hxw.out; cases hxx : x.f2 with | mk a b l => rw [hxx] at this; exact this)
              have Hn := Aside0.mk hn
              have Hin := Aside0.mk hin
              have H1 := Aside0.mk h1
              have H2 := Aside0.mk h2
              have H3 := Aside0.mk h3
              have H4 := Aside0.mk h4
              clear hn hin h1 h2 h3 h4
              go_wp2_with fail
              (with_reducible refine (known_calls (SizeOf.sizeOf x.f2.f2 + 1) x.f2.f0 x.f2.f1 x.f2.f2 A4 c4 x.f1 (l1.length : Int) (l0.length : Int) w5 w5 (Nat.lt_succ_self _) (Kd.C_below HC4.out HB5.out) Hl4.out (Below.refl _ _) hq.out.1 hq.out.2 (by have := H1.out; have := H2.out; omega) (by omega) (by omega)).mono ?_)
              rintro e w6 ⟨rfl, hB6⟩
              have HB6 := Aside0.mk (below_step HB5.out hB6)
              have HS6 := Aside0.mk (Seen.grown HS5.out hB6)
              have Hg6 := Aside0.mk (blk_below Hg5.out hB6)
              have hc6 : w6.cell? ⟨gi, 0, none⟩ = some (.string x.f0) := (blk_cell Hg6.out 0).trans rfl
              clear hB6 HB5 HS5 Hg5 hlk hcw50 hcw51 hcw52 hcw53 hcw54 h1b h2b h3b h4b
              cases hkn : knownS ⟨x.f2.f0, x.f2.f1, x.f2.f2⟩ x.f1 (l1.length : Int) (l0.length : Int) with
              | false =>
                have hr : r = 4 := by
                  have e := H.out
                  have hbad : looseBad x (l1.length : Int) (l0.length : Int) (names48 (l1.take i)) = true := by
                    unfold looseBad
                    simp [Hn.out, Hin.out, H1.out, H2.out, H3.out, H4.out, hkn]
                  unfold chkF at e
                  rw [if_neg HA.out, if_neg HAB.out, ← HM.out, hdrop.out, looseL, if_pos hbad, if_neg (by simp)] at e
                  injection e with e
                  exact e.symm
                subst hr
                go_wp2_with fail
                go_ret
                exact ⟨rfl, HB6.out⟩
              | true =>
                have hgood : looseBad x (l1.length : Int) (l0.length : Int) (names48 (l1.take i)) = false := by
                  unfold looseBad
                  simp [Hn.out, Hin.out, H1.out, H2.out, H3.out, H4.out, hkn]
                have HM2 : Aside0 (looseL (l1.drop (i + 1)) (l1.length : Int) (l0.length : Int) (names48 (l1.take (i + 1))) = looseL l1 (l1.length : Int) (l0.length : Int) []) := ⟨by rw [← HM.out, hdrop.out, looseL, if_neg (by rw [hgood]; simp), htake.out]⟩
                have Hkey := Aside0.mk (keyOf_string_mk Try.underlying9 (nameOk_size Hn.out))
                clear hkn hgood
                go_wp2_with (at_mapUpdate; refine holdI ?_)
                unfold HoldI
                refine wpList_mapUpdate_own (H := Unit) _ rfl (.tmp 86) (.tmp 88) (.const (.bool true)) 64 rfl 9 4 law9 Try.underlying64 (plainElem Try.prog 4) bm i _ rfl HS6.out (by unfold maxLen; omega) (.string x.f0) (.bool true) (.string x.f0.data.toList) rfl rfl Hkey.out _ [] (plainElem_bool Try.underlying4 true) ?_
                intro w7 hown7 hgrow7
                have HS7 := Aside0.mk (seen_put hown7)
                have HB7 := Aside0.mk (HB6.out.grown hgrow7 HB6.out.size (fun k hk => by injection hk with hk; omega))
                rw [htake.out] at HS7
                clear hown7 hgrow7 hc6 HS6 HB6 HM
                go_wp2_with fail
                have hk := Hi.out
                obtain ⟨k1, rfl⟩ : ∃ k1, gk = k1 + 1 := ⟨gk - 1, by omega⟩
                go_roundg k1
                case measure => omega
                case rel => exact ⟨i + 1, by go_num, ⟨by omega⟩, HS7, HM2, HB7⟩
        · have hie : i = l1.length := by omega
          have hr : r = 0 := by
            have e := H.out
            unfold chkF at e
            rw [if_neg HA.out, if_neg HAB.out, ← HM.out, hie, List.drop_length, looseL, if_pos rfl] at e
            injection e with e
            exact e.symm
          clear hie
          subst hr
          go_wp2_with fail
          go_ret
          exact ⟨rfl, HB.out⟩
    · have hxb : ((rd_T48 l1 0).f1 != 0) = true := bne_iff_ne.2 hx0
      have hr := End4.out (.inr (.inr hx0))
      clear hx0 hz hy
      subst hr
      go_wp2_with fail
      go_ret
      exact ⟨rfl, HB1.out⟩
end Go.Proofs.Ytfhgoebgnilfaaa.I
namespace Go.Proofs.Ytfhgoebgnilfaaa.I
open Go.RowKit Go.Proofs.YtfhgoebgnilfaaaW.PrintWords Go.Proofs.YtfhgoebgnilfaaaW.PrintLast Go.Proofs.YtfhgoebgnilfaaaW.PrintMore
attribute [local go_sem] max2_int min2_int max_two min_two max_three min_three max_four min_four
set_option linter.unusedVariables false
set_option maxRecDepth 100000
set_option linter.unusedSimpArgs false
mutual
/-- Has it, and each sort in it, at most 8 arguments? -/
def fewS : S41 → Bool
  | ⟨l⟩ => fewL l && decide (l.length ≤ 8)
def fewL : List S41 → Bool
  | [] => true
  | x :: xs => fewS x && fewL xs
end
theorem few1_calls (l : List S41) (A : Option Addr) (c : Nat) (w : World) (hr : Kd.C k41 w A l.length l) (hc : l.length ≤ c) :
    Calls Try.prog 62 #[.agg #[.slice A l.length c]] w fun e w' => e = .returned (.bool (decide (l.length ≤ 8))) ∧ Below w.heap.size w w' := by
  have hu41 := Try.underlying41
  have hlen : l.length ≤ 9223372036854775807 := hr.2.1
  have HR := Aside0.mk hr
  clear hr
  go_enter Try.func62, Try.ntmps62
  have HB := Aside0.mk (below_alloc (Below.refl w.heap.size w) (.cells #[.slice A l.length c] 41))
  by_cases h8 : l.length ≤ 8
  · have h8' : decide ((l.length : Int) ≤ 8) = true := decide_eq_true (by omega)
    have h9 : decide (l.length ≤ 8) = true := decide_eq_true h8
    go_wp2_with fail
    go_ret
    exact ⟨by rw [h9]; rfl, HB.out⟩
  · have h8' : decide ((l.length : Int) ≤ 8) = false := decide_eq_false (by omega)
    have h9 : decide (l.length ≤ 8) = false := decide_eq_false h8
    go_wp2_with fail
    go_ret
    exact ⟨by rw [h9]; rfl, HB.out⟩
theorem all_calls (N : Nat) : ∀ (l : List S41) (A : Option Addr) (c : Nat) (w : World) (hN : SizeOf.sizeOf l < N) (hr : Kd.C k41 w A l.length l) (hc : l.length ≤ c),
    Calls Try.prog 61 #[.agg #[.slice A l.length c], .func (.func 62) #[] #[]] w fun e w' => e = .returned (.bool (fewS ⟨l⟩)) ∧ Below w.heap.size w w' := by
  induction N with
  | zero => intro l A c w hN; omega
  | succ N ih =>
  intro l A c w hN hr hc
  have hu41 := Try.underlying41
  have hlen : l.length ≤ 9223372036854775807 := hr.2.1
  have HR := Aside0.mk hr
  have HC := Aside0.mk hc
  have HN := Aside0.mk hN
  have IH := Aside0.mk ih
  clear hr hc hN ih
  go_enter Try.func61, Try.ntmps61
  go_wp2_with (
    (with_reducible refine gate_dst (N := 2) rfl ?_)
    refine box_event ?hg (N := 2) ?hd (cs := #[.slice A l.length c]) (t := 41) ?hr ?_
    (case hd => rfl)
    (case hg => rfl)
    (case hr => first | (go_simp; done) | (go_simp; rfl))
    intro gb hgb w2 hbox hb2
    have HB2 := Aside0.mk hb2
    have hcz2 : w2.cell? ⟨gb, 0, none⟩ = some (.slice A l.length c) := (blk_cell hbox 0).trans rfl
    have Hbox := Aside0.mk hbox
    clear hbox hb2 hgb)
  clear hcz2
  go_loopg [10] l.length (fun kq v10 wr => ∃ (i : Nat), v10 = .int .i64 (i : Int) ∧ Aside0 (kq + i = l.length) ∧ Aside0 (fewL (l.drop i) = fewL l) ∧ Aside0 (wr.heap[gb]? = some (.cells #[.slice A l.length c] 41 (0, 0))) ∧ Aside0 (Below w.heap.size w wr))
  case atStart => exact ⟨0, rfl, ⟨by omega⟩, ⟨by rw [List.drop_zero]⟩, Hbox, HB2⟩
  case round =>
    clear Hbox HB2
    obtain ⟨i, rfl, Hi, Hm, Hbox, HB⟩ := hrel
    have hi : i ≤ l.length := by have := Hi.out; omega
    by_cases hlt : i < l.length
    · have hdrop := Aside0.mk (rd_T41_drop l i hlt)
      have hmem := Aside0.mk (rd_T41_mem l i hlt)
      obtain ⟨ad, A1, c1, he, hx1, hl1, hi1⟩ := at_T41 HR.out (i : Int) (by omega) (by omega)
      cases he
      replace hx1 := (HB.out.cell (World.block_lt_of_cell? w _ hx1)).trans hx1
      rw [Int.toNat_natCast] at hx1
      have Hl1 := Aside0.mk hl1
      have Hi1 := Aside0.mk hi1
      clear hl1 hi1
      have p1 : (0 ≤ (i : Int)) = True := eq_true (by omega)
      have p2 : ((i : Int) < (l.length : Int)) = True := eq_true (by omega)
      have p3 : (i < l.length) = True := eq_true (by omega)
      generalize hx : rd_T41 l (i : Int) = x at *
      have Hx := Aside0.mk hx
      clear hx
      go_wp2_with (
        (with_reducible refine gate_dst (N := 6) rfl ?_)
        refine box_event ?hg (N := 6) ?hd (cs := #[.slice none 0 0]) (t := 41) ?hr ?_
        (case hd => rfl)
        (case hg => rfl)
        (case hr => first | (go_simp; done) | (go_simp; rfl))
        intro gi hgi w3 hbox3 hb3
        have hsz := below_size HB.out
        have HB3 := Aside0.mk (below_set (j := 0) (v := .slice A1 x.f0.length c1) (below_step HB.out hb3) (show w.heap.size ≤ gi by omega))
        have hne4 : gb ≠ gi := by have := blk_lt Hbox.out; omega
        have Hbox3 := Aside0.mk (blk_far (p := ⟨gi, 0, none⟩) (blk_below Hbox.out hb3) hne4 (.slice A1 x.f0.length c1))
        have hci : (w3.setCell ⟨gi, 0, none⟩ (.slice A1 x.f0.length c1)).cell? ⟨gi, 0, none⟩ = some (.slice A1 x.f0.length c1) := (blk_cell (blk_set hbox3 0 (.slice A1 x.f0.length c1)) 0).trans rfl
        have hcz := (blk_cell hbox3 0).trans rfl
        have hfz := blk_frozen hbox3 0
        clear hbox3 hb3 hsz hgi HB Hbox)
      (with_reducible refine (IH.out x.f0 A1 c1 _ ?_ (Kd.C_below Hi1.out HB3.out) Hl1.out).mono ?_)
      · have := hmem.out; have := HN.out; omega
      rintro e w4 ⟨rfl, hB4⟩
      have HB := Aside0.mk (below_step HB3.out hB4)
      have Hbox := Aside0.mk (blk_below Hbox3.out hB4)
      clear hB4 HB3 Hbox3 hci hcz hfz
      have hxe : fewS ⟨x.f0⟩ = fewS x := by cases x; rfl
      have HM : Aside0 (fewL l = (fewS ⟨x.f0⟩ && fewL (l.drop (i + 1)))) := ⟨by rw [← Hm.out, hdrop.out, fewL, hxe]⟩
      clear hxe
      cases hf : fewS ⟨x.f0⟩ with
      | false =>
        rw [hf] at HM
        have HM2 : Aside0 (fewS ⟨l⟩ = false) := ⟨by rw [fewS, HM.out]; simp⟩
        clear hf HM
        go_wp2_with fail
        go_ret
        exact ⟨by rw [HM2.out]; rfl, HB.out⟩
      | true =>
        rw [hf] at HM
        clear hf
        go_wp2_with fail
        have hk := Hi.out
        obtain ⟨k1, rfl⟩ : ∃ k1, gk = k1 + 1 := ⟨gk - 1, by omega⟩
        go_roundg k1
        case measure => omega
        case rel => exact ⟨i + 1, by go_num, ⟨by omega⟩, ⟨by rw [HM.out]; simp⟩, Hbox, HB⟩
    · have hie : i = l.length := by omega
      have Hfew : Aside0 (fewS ⟨l⟩ = decide (l.length ≤ 8)) := ⟨by rw [fewS, ← Hm.out, hie, List.drop_length, fewL]; simp⟩
      have Hie := Aside0.mk hie
      clear hie
      have hcz2 : wr.cell? ⟨gb, 0, none⟩ = some (.slice A l.length c) := (blk_cell Hbox.out 0).trans rfl
      go_wp2_with fail
      (with_reducible refine (few1_calls l A c _ (Kd.C_below HR.out HB.out) HC.out).mono ?_)
      rintro e w4 ⟨rfl, hB4⟩
      have HB4 := Aside0.mk (below_step HB.out hB4)
      clear hB4
      go_wp2_with fail
      go_ret
      exact ⟨by rw [Hfew.out]; rfl, HB4.out⟩
def sorts_Check.f (l0_0 : List S41) : Option Int := some (if (meas ⟨l0_0⟩ 60).2 < 0 ∨ (meas ⟨l0_0⟩ 60).1 > 30 ∨ fewS ⟨l0_0⟩ = false then 6 else 0)
theorem sorts_Check.calls (A0_0 : Option Addr) (c0_0 : Nat) (l0_0 : List S41) (r : Int) (w : World) (hr0_0 : Kd.C k41 w A0_0 l0_0.length l0_0) (hc0_0 : l0_0.length ≤ c0_0) (h : sorts_Check.f l0_0 = some r) :
    Calls Try.prog 41 #[.agg #[.slice A0_0 l0_0.length c0_0]] w fun e w' => e = .returned (.int .i64 r) ∧ Below w.heap.size w w' := by
  have hu41 := Try.underlying41
  have HR := Aside0.mk hr0_0
  have HC := Aside0.mk hc0_0
  have HBD := Aside0.mk (meas_bd ⟨l0_0⟩ 60 (by omega))
  obtain ⟨n1, n2, hS⟩ : ∃ n1 n2, sorts_Size.f l0_0 = some (n1, n2) := ⟨_, _, rfl⟩
  have HS := Aside0.mk hS
  have HSC : Aside0 ((n1 > 60 ∨ n2 > 30 ∨ fewS ⟨l0_0⟩ = false) ↔ ((meas ⟨l0_0⟩ 60).2 < 0 ∨ (meas ⟨l0_0⟩ 60).1 > 30 ∨ fewS ⟨l0_0⟩ = false)) := ⟨by
    have hb := HBD.out
    unfold sorts_Size.f at hS
    by_cases hneg : (meas ⟨l0_0⟩ 60).2 < 0
    · simp only [if_pos hneg, Option.some.injEq, Prod.mk.injEq] at hS
      obtain ⟨rfl, rfl⟩ := hS
      exact ⟨fun _ => .inl hneg, fun _ => .inl (by omega)⟩
    · simp only [if_neg hneg, Option.some.injEq, Prod.mk.injEq] at hS
      obtain ⟨rfl, rfl⟩ := hS
      exact ⟨fun h => h.elim (fun h => by omega) .inr, fun h => h.elim (fun h => absurd h hneg) .inr⟩⟩
  have HF := Aside0.mk h
  clear h hr0_0 hc0_0 hS
  go_enter Try.func41, Try.ntmps41
  go_wp2_with (
      (with_reducible refine gate_dst (N := 1) rfl ?_)
      refine box_event ?hg (N := 1) ?hd (cs := #[.slice A0_0 l0_0.length c0_0]) (t := 41) ?hr ?_
      (case hd => rfl)
      (case hg => rfl)
      (case hr => first | (go_simp; done) | (go_simp; rfl))
      intro gb hgb w2 hbox hb2
      have HB2 := Aside0.mk hb2
      have Hbox := Aside0.mk hbox
      have hcz2 : w2.cell? ⟨gb, 0, none⟩ = some (.slice A0_0 l0_0.length c0_0) := (blk_cell hbox 0).trans rfl
      clear hbox hb2 hgb)
  (with_reducible refine (sorts_Size.calls A0_0 c0_0 l0_0 n1 n2 _ (Kd.C_below HR.out HB2.out) HC.out HS.out).mono ?_)
  rintro e w3 ⟨rfl, hB3⟩
  have HB3 := Aside0.mk (below_step HB2.out hB3)
  have Hbox3 := Aside0.mk (blk_below Hbox.out hB3)
  clear hB3 hcz2
  have hcz3 : w3.cell? ⟨gb, 0, none⟩ = some (.slice A0_0 l0_0.length c0_0) := (blk_cell Hbox3.out 0).trans rfl
  by_cases h1 : n1 > 60
  · have HR6 : Aside0 (r = 6) := ⟨by have e := HF.out; rw [sorts_Check.f, if_pos (HSC.out.1 (.inl h1))] at e; injection e with e; exact e.symm⟩
    have h1b : decide (60 < n1) = true := decide_eq_true h1
    go_wp2_with fail
    go_ret
    exact ⟨by rw [HR6.out]; rfl, HB3.out⟩
  · have h1b : decide (60 < n1) = false := decide_eq_false h1
    by_cases h2 : n2 > 30
    · have HR6 : Aside0 (r = 6) := ⟨by have e := HF.out; rw [sorts_Check.f, if_pos (HSC.out.1 (.inr (.inl h2)))] at e; injection e with e; exact e.symm⟩
      have h2b : decide (30 < n2) = true := decide_eq_true h2
      go_wp2_with fail
      go_ret
      exact ⟨by rw [HR6.out]; rfl, HB3.out⟩
    · have h2b : decide (30 < n2) = false := decide_eq_false h2
      go_wp2_with fail
      (with_reducible refine (all_calls (SizeOf.sizeOf l0_0 + 1) l0_0 A0_0 c0_0 _ (by omega) (Kd.C_below HR.out HB3.out) HC.out).mono ?_)
      rintro e w4 ⟨rfl, hB4⟩
      have HB4 := Aside0.mk (below_step HB3.out hB4)
      clear hB4
      cases hf : fewS ⟨l0_0⟩ with
      | false =>
        have HR6 : Aside0 (r = 6) := ⟨by have e := HF.out; rw [sorts_Check.f, if_pos (HSC.out.1 (.inr (.inr hf)))] at e; injection e with e; exact e.symm⟩
        clear hf
        go_wp2_with fail
        go_ret
        exact ⟨by rw [HR6.out]; rfl, HB4.out⟩
      | true =>
        have HR6 : Aside0 (r = 0) := ⟨by have e := HF.out; rw [sorts_Check.f, if_neg (fun h => by rcases HSC.out.2 h with h | h | h; omega; omega; rw [hf] at h; cases h)] at e; injection e with e; exact e.symm⟩
        clear hf
        go_wp2_with fail
        go_ret
        exact ⟨by rw [HR6.out]; rfl, HB4.out⟩
end Go.Proofs.Ytfhgoebgnilfaaa.I
namespace Go.Proofs.Ytfhgoebgnilfaaa.I
open Go.RowKit
set_option linter.unusedVariables false
def kbare : KN := ⟨none, false, none, none⟩
/-- The kinds of the functions: each one's parameters, its arrow. -/
def fheads : List KN → List S48 → (List (List Nat) × List Nat) × List KN
  | s, [] => (([], []), s)
  | s, x :: xs =>
    let a := farrow (s ++ List.replicate x.f1.toNat kbare) 0 (List.range' s.length x.f1.toNat)
    let r := fheads a.2 xs
    ((List.range' s.length x.f1.toNat :: r.1.1, a.1 :: r.1.2), r.2)
/-- The bodies, one after another: false: one has no kind, or its kind isn't o. -/
def fbodies (syms : List S59) (funs : List Nat) (f : Nat) : List KN → List (List Nat) → List S48 → Option (Bool × List KN)
  | s, _, [] => some (true, s)
  | s, [], _ :: _ => none
  | s, ps :: pss, x :: xs => match fterm ⟨0, syms, funs, ps⟩ f s x.f2.f0 x.f2.f1 x.f2.f2 with
    | none => none
    | some (none, s1) => some (false, s1)
    | some (some k, s1) => match fjoin f s1 k 0 with
      | none => none
      | some (false, s2) => some (false, s2)
      | some (true, s2) => fbodies syms funs f s2 pss xs
/-- The sorts that are shown; none inside: one has too many nodes, or fails its check. -/
def fouts (s : List KN) (f : Nat) : List S41 → List Nat → Option (Option (List S41))
  | acc, [] => some (some acc)
  | acc, k :: ks => match fshown s f k 60 with
    | none => none
    | some (none, _) => some none
    | some (some l, _) => match sorts_Check.f l with
      | none => none
      | some e => if e = 0 then fouts s f (acc ++ [⟨l⟩]) ks else some none
/-- infer.Sorts. -/
def fsorts (f : Nat) (syms : List S59) (l : List S48) : Option (List S41 × Int) :=
  match chkF syms l with
  | none => none
  | some e => if e = 0 then
      match fbodies syms (fheads [⟨none, true, none, none⟩] l).1.2 f (fheads [⟨none, true, none, none⟩] l).2 (fheads [⟨none, true, none, none⟩] l).1.1 l with
      | none => none
      | some (false, _) => some ([], 6)
      | some (true, s) => match fouts s f [] (fheads [⟨none, true, none, none⟩] l).1.2 with
        | none => none
        | some none => some ([], 3)
        | some (some out) => some (out, 0)
    else some ([], e)
theorem looseL_le : ∀ (l : List S48) (nf ns : Int) (L : List ByteArray), looseL l nf ns L = true → ∀ x ∈ l, 0 ≤ x.f1 ∧ x.f1 ≤ 8
  | [], _, _, _, _, x, hx => by cases hx
  | y :: ys, nf, ns, L, h, x, hx => by
    unfold looseL at h
    by_cases hb : looseBad y nf ns L = true
    · rw [if_pos hb] at h; cases h
    · rw [if_neg hb] at h
      rcases List.mem_cons.1 hx with hx | hx
      · subst hx
        unfold looseBad at hb
        simp only [Bool.or_eq_true, decide_eq_true_eq, not_or] at hb
        exact ⟨by have := hb.2.2.1; omega, by have := hb.2.2.2.1; omega⟩
      · exact looseL_le ys nf ns _ h x hx
theorem symsL_le : ∀ (l : List S59) (L : List ByteArray), symsL l L = true → ∀ x ∈ l, 0 ≤ x.f1 ∧ x.f1 ≤ 4
  | [], _, _, x, hx => by cases hx
  | y :: ys, L, h, x, hx => by
    unfold symsL at h
    by_cases hb : symBad y L = true
    · rw [if_pos hb] at h; cases h
    · rw [if_neg hb] at h
      rcases List.mem_cons.1 hx with hx | hx
      · subst hx
        unfold symBad at hb
        simp only [Bool.or_eq_true, decide_eq_true_eq, not_or] at hb
        exact ⟨by have := hb.2.2.1; omega, by have := hb.2.2.2; omega⟩
      · exact symsL_le ys _ h x hx
theorem fCheck_ok {l0 : List S59} {l1 : List S48} (h : chkF l0 l1 = some 0) : symsL l0 [] = true ∧ l0.length ≤ 24 ∧ 0 < l1.length ∧ l1.length ≤ 64 ∧ ∀ x ∈ l1, 0 ≤ x.f1 ∧ x.f1 ≤ 8 := by
  unfold chkF at h
  injection h with h
  split at h
  · cases h
  · split at h
    · cases h
    · split at h
      · rename_i h1 h2 h3
        refine ⟨by cases hs : symsL l0 [] <;> simp_all, by omega, by omega, by omega, looseL_le _ _ _ _ h3⟩
      · cases h
end Go.Proofs.Ytfhgoebgnilfaaa.I
namespace Go.Proofs.Ytfhgoebgnilfaaa.I
open Go.RowKit
set_option linter.unusedVariables false
theorem fend_s (s : List KN) : ∀ (k i r : Nat), fend s k i = some r → fend s (k + 1) i = some r := by
  intro k
  induction k with
  | zero => intro i r h; simp [fend] at h
  | succ k ih =>
    intro i r h
    unfold fend at h ⊢
    grind
theorem fwithin_s (s : List KN) : ∀ (f k i : Nat) (r : Bool), fwithin s f k i = some r → fwithin s (f + 1) k i = some r := by
  intro f
  induction f with
  | zero => intro k i r h; simp [fwithin] at h
  | succ f ih =>
    intro k i r h
    have := fend_s s f
    unfold fwithin at h ⊢
    cases h1 : fend s f i with
    | none => rw [h1] at h; cases h
    | some t =>
      rw [h1] at h
      rw [this _ _ h1]
      simp only at h ⊢
      by_cases hk : k = t
      · rw [if_pos hk] at h ⊢; exact h
      · rw [if_neg hk] at h ⊢
        cases h2 : s[t]? with
        | none => rw [h2] at h; cases h
        | some n =>
          rw [h2] at h
          simp only at h ⊢
          cases h3 : n.fr with
          | none => rw [h3] at h; exact h
          | some a =>
            rw [h3] at h
            simp only at h ⊢
            cases h4 : fwithin s f k a with
            | none => rw [h4] at h; cases h
            | some b =>
              rw [h4] at h
              rw [ih _ _ _ h4]
              cases b with
              | true => exact h
              | false =>
                simp only at h ⊢
                cases h5 : n.tk with
                | none => rw [h5] at h; cases h
                | some u => rw [h5] at h; exact ih _ _ _ h
theorem fjoin_s : ∀ (f : Nat) (s : List KN) (a b : Nat) (r : Bool × List KN), fjoin f s a b = some r → fjoin (f + 1) s a b = some r := by
  intro f
  induction f with
  | zero => intro s a b r h; simp [fjoin] at h
  | succ f ih =>
    intro s a b r h
    unfold fjoin at h ⊢
    cases c0 : fend s f a with
    | none => rw [c0] at h; cases h
    | some p =>
      rw [c0] at h
      rw [fend_s s f _ _ c0]
      simp only at h ⊢
      cases c1 : fend s f b with
      | none => rw [c1] at h; cases h
      | some q =>
        rw [c1] at h
        rw [fend_s s f _ _ c1]
        simp only at h ⊢
        by_cases e0 : p = q
        · rw [if_pos e0] at h ⊢; exact h
        · rw [if_neg e0] at h ⊢
          cases c2 : s[p]? with
          | none => rw [c2] at h; cases h
          | some x =>
            rw [c2] at h
            simp only at h ⊢
            cases c3 : s[q]? with
            | none => rw [c3] at h; cases h
            | some y =>
              rw [c3] at h
              simp only at h ⊢
              by_cases e1 : x.bs = false ∧ x.fr = none
              · rw [if_pos e1] at h ⊢
                cases w1 : fwithin s f p q with
                | none => rw [w1] at h; cases h
                | some b =>
                  rw [w1] at h
                  rw [fwithin_s s f _ _ _ w1]
                  exact h
              · rw [if_neg e1] at h ⊢
                by_cases e2 : y.bs = false ∧ y.fr = none
                · rw [if_pos e2] at h ⊢; exact ih _ _ _ _ h
                · rw [if_neg e2] at h ⊢
                  by_cases e3 : x.bs = true ∨ y.bs = true
                  · rw [if_pos e3] at h ⊢; exact h
                  · rw [if_neg e3] at h ⊢
                    cases c4 : x.fr with
                    | none => rw [c4] at h; cases h
                    | some xf =>
                      rw [c4] at h
                      simp only at h ⊢
                      cases c4b : y.fr with
                      | none => rw [c4b] at h; cases h
                      | some yf =>
                        rw [c4b] at h
                        simp only at h ⊢
                        cases c5 : fjoin f s xf yf with
                        | none => rw [c5] at h; cases h
                        | some w =>
                          rw [c5] at h
                          rw [ih _ _ _ _ c5]
                          obtain ⟨bb, s1⟩ := w
                          cases bb with
                          | false => exact h
                          | true =>
                            simp only at h ⊢
                            cases c6 : s1[p]? with
                            | none => rw [c6] at h; cases h
                            | some x1 =>
                              rw [c6] at h
                              simp only at h ⊢
                              cases c6b : s1[q]? with
                              | none => rw [c6b] at h; cases h
                              | some y1 =>
                                rw [c6b] at h
                                simp only at h ⊢
                                cases c7 : x1.tk with
                                | none => rw [c7] at h; cases h
                                | some xt =>
                                  rw [c7] at h
                                  simp only at h ⊢
                                  cases c8 : y1.tk with
                                  | none => rw [c8] at h; cases h
                                  | some yt =>
                                    rw [c8] at h
                                    simp only at h ⊢
                                    exact ih _ _ _ _ h
theorem fterm_s (E : FE) : ∀ (f : Nat), (∀ s kd n l r, fterm E f s kd n l = some r → fterm E (f + 1) s kd n l = some r) ∧ (∀ s k l r, ftermL E f s k l = some r → ftermL E (f + 1) s k l = some r) := by
  intro f
  induction f with
  | zero => exact ⟨fun s kd n l r h => by simp [fterm] at h, fun s k l r h => by simp [ftermL] at h⟩
  | succ f ih =>
    obtain ⟨i1, i2⟩ := ih
    refine ⟨fun s kd n l r h => ?_, fun s k l r h => ?_⟩
    · unfold fterm at h ⊢
      grind
    · have h2 := fjoin_s f
      cases l with
      | nil => unfold ftermL at h ⊢; exact h
      | cons x xs =>
        unfold ftermL at h ⊢
        grind
theorem fshown_s (s : List KN) : ∀ (f : Nat), (∀ i l r, fshown s f i l = some r → fshown s (f + 1) i l = some r) ∧ (∀ q acc l r, fshownL s f q acc l = some r → fshownL s (f + 1) q acc l = some r) := by
  intro f
  induction f with
  | zero => exact ⟨fun i l r h => by simp [fshown] at h, fun q acc l r h => by simp [fshownL] at h⟩
  | succ f ih =>
    obtain ⟨i1, i2⟩ := ih
    have h1 := fend_s s f
    refine ⟨fun i l r h => ?_, fun q acc l r h => ?_⟩
    · unfold fshown at h ⊢
      grind
    · unfold fshownL at h ⊢
      cases c1 : s[q]? with
      | none => rw [c1] at h; cases h
      | some n =>
        rw [c1] at h
        simp only at h ⊢
        cases c2 : n.fr with
        | none => rw [c2] at h; exact h
        | some a =>
          rw [c2] at h
          simp only at h ⊢
          cases c3 : fshown s f a l with
          | none => rw [c3] at h; cases h
          | some w =>
            rw [c3] at h
            rw [i1 _ _ _ c3]
            obtain ⟨o, l1⟩ := w
            cases o with
            | none => exact h
            | some x =>
              simp only at h ⊢
              by_cases hl : acc.length < 5864062014805
              · rw [if_pos hl] at h ⊢
                cases c4 : n.tk with
                | none => rw [c4] at h; cases h
                | some t =>
                  rw [c4] at h
                  simp only at h ⊢
                  cases c5 : fend s f t with
                  | none => rw [c5] at h; cases h
                  | some r2 =>
                    rw [c5] at h
                    rw [h1 _ _ c5]
                    exact i2 _ _ _ _ h
              · rw [if_neg hl] at h; cases h
theorem fbodies_s (syms : List S59) (funs : List Nat) (f : Nat) : ∀ (l : List S48) (s : List KN) (pss : List (List Nat)) (r : Bool × List KN), fbodies syms funs f s pss l = some r → fbodies syms funs (f + 1) s pss l = some r := by
  intro l
  induction l with
  | nil => intro s pss r h; unfold fbodies at h ⊢; exact h
  | cons x xs ih =>
    intro s pss r h
    cases pss with
    | nil => unfold fbodies at h; cases h
    | cons ps pss =>
      unfold fbodies at h ⊢
      cases h1 : fterm ⟨0, syms, funs, ps⟩ f s x.f2.f0 x.f2.f1 x.f2.f2 with
      | none => rw [h1] at h; cases h
      | some q =>
        rw [h1] at h
        rw [(fterm_s ⟨0, syms, funs, ps⟩ f).1 _ _ _ _ _ h1]
        obtain ⟨o, s1⟩ := q
        cases o with
        | none => exact h
        | some k =>
          simp only at h ⊢
          cases h2 : fjoin f s1 k 0 with
          | none => rw [h2] at h; cases h
          | some q2 =>
            rw [h2] at h
            rw [fjoin_s f _ _ _ _ h2]
            obtain ⟨b, s2⟩ := q2
            cases b with
            | false => exact h
            | true => exact ih _ _ _ h
theorem fouts_s (s : List KN) (f : Nat) : ∀ (ks : List Nat) (acc : List S41) (r : Option (List S41)), fouts s f acc ks = some r → fouts s (f + 1) acc ks = some r := by
  intro ks
  induction ks with
  | nil => intro acc r h; unfold fouts at h ⊢; exact h
  | cons k ks ih =>
    intro acc r h
    unfold fouts at h ⊢
    cases h1 : fshown s f k 60 with
    | none => rw [h1] at h; cases h
    | some q =>
      rw [h1] at h
      rw [(fshown_s s f).1 _ _ _ h1]
      obtain ⟨o, l1⟩ := q
      cases o with
      | none => exact h
      | some x =>
        simp only at h ⊢
        cases h2 : sorts_Check.f x with
        | none => rw [h2] at h; cases h
        | some e =>
          rw [h2] at h
          simp only at h ⊢
          by_cases h0 : e = 0
          · rw [if_pos h0] at h ⊢; exact ih _ _ h
          · rw [if_neg h0] at h ⊢; exact h
theorem fsorts_s (f : Nat) (syms : List S59) (l : List S48) (r : List S41 × Int) (h : fsorts f syms l = some r) : fsorts (f + 1) syms l = some r := by
  have h1 := fbodies_s syms (fheads [⟨none, true, none, none⟩] l).1.2 f l (fheads [⟨none, true, none, none⟩] l).2 (fheads [⟨none, true, none, none⟩] l).1.1
  have h2 := fun s => fouts_s s f (fheads [⟨none, true, none, none⟩] l).1.2 []
  unfold fsorts at h ⊢
  generalize fheads [⟨none, true, none, none⟩] l = hd at *
  cases hc : chkF syms l with
  | none => rw [hc] at h; cases h
  | some e =>
    rw [hc] at h
    simp only at h ⊢
    by_cases h0 : e = 0
    · rw [if_pos h0] at h ⊢
      cases h3 : fbodies syms hd.1.2 f hd.2 hd.1.1 l with
      | none => rw [h3] at h; cases h
      | some q =>
        rw [h3] at h
        rw [h1 _ h3]
        obtain ⟨b, s⟩ := q
        cases b with
        | false => exact h
        | true =>
          simp only at h ⊢
          cases h4 : fouts s f [] hd.1.2 with
          | none => rw [h4] at h; cases h
          | some o => rw [h4] at h; rw [h2 s _ h4]; exact h
    · rw [if_neg h0] at h ⊢; exact h
end Go.Proofs.Ytfhgoebgnilfaaa.I
namespace Go.Proofs.Ytfhgoebgnilfaaa.I
open Go.RowKit Go.Proofs.YtfhgoebgnilfaaaW.PrintWords Go.Proofs.YtfhgoebgnilfaaaW.PrintLast Go.Proofs.YtfhgoebgnilfaaaW.PrintMore
set_option linter.unusedVariables false
set_option maxRecDepth 100000
set_option linter.unusedSimpArgs false
/-- Pointers to kinds, as elements of a row. -/
def kds (ad : List Nat) (ps : List Nat) : List (List Value) := ps.map (fun p => [pk ad p])
theorem kds_len (ad ps : List Nat) : (kds ad ps).length = ps.length := by unfold kds; rw [List.length_map]
theorem kds_app {ad e ps : List Nat} (h : ∀ p, p ∈ ps → p < ad.length) : kds (ad ++ e) ps = kds ad ps := by
  unfold kds
  exact List.map_congr_left (fun p hp => by rw [pk_app (h p hp)])
theorem rows_app {ad e : List Nat} {rows : List (List Nat)} (h : ∀ ps, ps ∈ rows → ∀ p, p ∈ ps → p < ad.length) : rows.map (kds (ad ++ e)) = rows.map (kds ad) :=
  List.map_congr_left (fun ps hp => kds_app (h ps hp))
theorem rows_getD (ad : List Nat) (rows : List (List Nat)) (i : Nat) : (rows.map (kds ad)).getD i [] = kds ad (rows.getD i []) := by
  rw [List.getD_eq_getElem?_getD, List.getD_eq_getElem?_getD, List.getElem?_map]
  cases rows[i]? <;> rfl
abbrev KR := Kd.slice 72 (Kd.raw 1)
structure Mem (gf gp cp n : Nat) (A0 : Option Addr) (m0 c0 : Nat) (w0 : World) (s : List KN) (ad : List Nat) (rs : List (List Nat)) (fs : List Nat) (Af : Option Addr) (cf : Nat) (pr : Value) (w : World) : Prop where
  held : Held w0.heap.size s ad w
  pos : 0 < s.length
  rows : Kd.S KR 75 w w0.heap.size (fun k => some k ≠ (Value.slice Af fs.length cf).ownBlock) (.slice (some ⟨gp, 0, none⟩) n cp) (rs.map (kds ad))
  funs : Kd.R (Kd.raw 1) 72 w w0.heap.size (fun _ => True) (.slice Af fs.length cf) (kds ad fs)
  fin : w.heap[gf]? = some (.cells #[pk ad 0, .slice A0 m0 c0, .slice Af fs.length cf, pr] 77 (0, 0))
  brows : ∀ ps, ps ∈ rs → ∀ p, p ∈ ps → p < s.length
  bfuns : ∀ p, p ∈ fs → p < s.length
  gf0 : w0.heap.size ≤ gf
  below : Below w0.heap.size w0 w
variable {gf gp cp n : Nat} {A0 : Option Addr} {m0 c0 : Nat} {w0 w w1 w2 w5 : World} {s s' : List KN} {ad e' : List Nat} {rows : List (List Nat)} {funs : List Nat} {Af : Option Addr} {cf : Nat} {pr : Value}
theorem Mem.sub (h : Mem gf gp cp n A0 m0 c0 w0 s ad rows funs Af cf pr w) (hb : Below w.heap.size w w1) : Mem gf gp cp n A0 m0 c0 w0 s ad rows funs Af cf pr w1 :=
  ⟨Held.below h.held hb, h.pos, Kd.S_below h.rows hb, Kd.R_below h.funs hb, blk_below h.fin hb, h.brows, h.bfuns, h.gf0, below_step h.below hb⟩
theorem Mem.grow (h : Mem gf gp cp n A0 m0 c0 w0 s ad rows funs Af cf pr w) (hH : Held w0.heap.size s' (ad ++ e') w1) (hb : Below w.heap.size w w1) : Mem gf gp cp n A0 m0 c0 w0 s' (ad ++ e') rows funs Af cf pr w1 := by
  have hl := h.held.len
  have hl' := hH.len
  rw [List.length_append] at hl'
  have hle : s.length ≤ s'.length := by omega
  refine ⟨hH, Nat.lt_of_lt_of_le h.pos hle, ?_, ?_, ?_, fun ps hp p hq => Nat.lt_of_lt_of_le (h.brows ps hp p hq) hle, fun p hp => Nat.lt_of_lt_of_le (h.bfuns p hp) hle, h.gf0, below_step h.below hb⟩
  · rw [rows_app (fun ps hp p hq => by rw [hl]; exact h.brows ps hp p hq)]; exact Kd.S_below h.rows hb
  · rw [kds_app (fun p hp => by rw [hl]; exact h.bfuns p hp)]; exact Kd.R_below h.funs hb
  · rw [pk_app (by rw [hl]; exact h.pos)]; exact blk_below h.fin hb
theorem Mem.lend (h : Mem gf gp cp n A0 m0 c0 w0 s ad rows funs Af cf pr w) {i : Nat} (hi : i < n) : ∃ (oki : Nat → Prop) (A7 : Option Addr) (c7 : Nat), w.cell? ⟨gp, i, none⟩ = some (.slice A7 (rows.getD i []).length c7) ∧ (Kd.raw 1).R 72 w w0.heap.size oki (.slice A7 (rows.getD i []).length c7) (kds ad (rows.getD i [])) ∧
    (∀ k, oki k → some k ≠ (Value.slice Af funs.length cf).ownBlock ∧ k ≠ gp) ∧ Kd.H KR 75 w w0.heap.size (fun k => some k ≠ (Value.slice Af funs.length cf).ownBlock) (.slice (some ⟨gp, 0, none⟩) n cp) (rows.map (kds ad)) (i : Int) oki [.slice A7 (rows.getD i []).length c7] := by
  obtain ⟨oki, c, hcl, hM, hcc, hoki, hH⟩ := Kd.S_lend h.rows [] (i : Int) (by omega) (by omega)
  rw [Int.toNat_natCast, rows_getD] at hM
  obtain ⟨v, rfl, hR⟩ := hM
  obtain ⟨A7, c7, rfl⟩ := Kd.R_slice hR
  rw [kds_len] at hR hcc hH
  refine ⟨oki, A7, c7, ?_, hR, hoki, hH⟩
  have := hcc 0 _ rfl
  rw [Int.toNat_natCast] at this
  exact (congrArg (fun j => w.cell? ⟨gp, j, none⟩) (show i = i * (KR).sz + 0 from by show i = i * 1 + 0; omega)).trans this
theorem Held.grownT {B : Nat} {row : Option Nat} (h : Held B s ad w) (hg : w.grownBy w1 row) (ht : ∀ k, row = some k → ∃ q cells, q ≠ 74 ∧ w.heap[k]? = some (.cells cells q (0, 0))) : Held B s ad w1 :=
  ⟨h.len, h.nodup, h.ge, fun i n hn => blk_grown (h.cell i n hn) hg (fun e => by
    obtain ⟨q, cells, hq, hc⟩ := ht _ e.symm
    have := hc.symm.trans (h.cell i n hn)
    injection this with this
    injection this with _ e2 _
    exact hq e2), h.ok⟩
theorem blk_grownT {g t : Nat} {cs : Array Value} {row : Option Nat} (h : w.heap[g]? = some (.cells cs t (0, 0))) (hg : w.grownBy w1 row) (ht : ∀ k, row = some k → ∃ q cells, q ≠ t ∧ w.heap[k]? = some (.cells cells q (0, 0))) : w1.heap[g]? = some (.cells cs t (0, 0)) :=
  blk_grown h hg (fun e => by
    obtain ⟨q, cells, hq, hc⟩ := ht _ e.symm
    have := hc.symm.trans h
    injection this with this
    injection this with _ e2 _
    exact hq e2)
/-- A kind is made and put behind row i. -/
theorem Mem.put (h : Mem gf gp cp n A0 m0 c0 w0 s ad rows funs Af cf pr w) {i : Nat} (hi : i < n) {oki : Nat → Prop} {v : Value} (hoki : ∀ k, oki k → some k ≠ (Value.slice Af funs.length cf).ownBlock ∧ k ≠ gp) (hv : (Kd.raw 1).R 72 w w0.heap.size oki v (kds ad (rows.getD i [])))
    {g : Nat} (hb5 : Below w.heap.size w w5) (hH5 : Held w0.heap.size (s ++ [kbare]) (ad ++ [g]) w5) (hg1 : w5.grownBy w1 v.ownBlock) (hg2 : w1.grownBy w2 (some gp)) (hbw : Below w0.heap.size w0 w2)
    (hS : Kd.S KR 75 w2 w0.heap.size (fun k => some k ≠ (Value.slice Af funs.length cf).ownBlock) (.slice (some ⟨gp, 0, none⟩) n cp) ((rows.map (kds ad)).set i (kds ad (rows.getD i []) ++ [[pk (ad ++ [g]) s.length]]))) :
    Mem gf gp cp n A0 m0 c0 w0 (s ++ [kbare]) (ad ++ [g]) (rows.set i (rows.getD i [] ++ [s.length])) funs Af cf pr w2 := by
  have hl := h.held.len
  have h5 := h.sub hb5
  have tv : ∀ k, v.ownBlock = some k → ∃ cells, w5.heap[k]? = some (.cells cells 72 (0, 0)) := fun k hk => by
    obtain ⟨cells, hc⟩ := Kd.R_typed hv k hk
    exact ⟨cells, blk_below hc hb5⟩
  have tp : ∀ w' : World, w5.grownBy w' v.ownBlock → ∃ cells, w'.heap[gp]? = some (.cells cells 75 (0, 0)) := fun w' hg => by
    obtain ⟨cells, hc⟩ := Kd.S_typed h5.rows gp (by simp [Value.ownBlock])
    exact ⟨cells, blk_grownT hc hg (fun k hk => by obtain ⟨c, hk'⟩ := tv k hk; exact ⟨72, c, by decide, hk'⟩)⟩
  obtain ⟨cp1, hcp1⟩ := tp w1 hg1
  have rl : rows.length = n := by have := (Kd.S_reads' h.rows).1; rw [List.length_map] at this; exact this.symm
  have brow : ∀ p, p ∈ rows.getD i [] → p < s.length := fun p hp => by
    rw [List.getD_eq_getElem?_getD, List.getElem?_eq_getElem (by omega)] at hp
    exact h.brows _ (List.getElem_mem _) p hp
  refine ⟨?_, by rw [List.length_append]; exact Nat.lt_of_lt_of_le h.pos (Nat.le_add_right _ _), ?_, ?_, ?_, ?_, fun p hp => by rw [List.length_append]; have := h.bfuns p hp; omega, h.gf0, hbw⟩
  · exact Held.grownT (Held.grownT hH5 hg1 (fun k hk => by obtain ⟨c, hk'⟩ := tv k hk; exact ⟨72, c, by decide, hk'⟩)) hg2 (fun k hk => by injection hk with hk; subst hk; exact ⟨75, cp1, by decide, hcp1⟩)
  · have e : (rows.set i (rows.getD i [] ++ [s.length])).map (kds (ad ++ [g])) = (rows.map (kds ad)).set i (kds ad (rows.getD i []) ++ [[pk (ad ++ [g]) s.length]]) := by
      rw [List.map_set, rows_app (fun ps hp p hq => by rw [hl]; exact h.brows ps hp p hq)]
      congr 1
      unfold kds
      rw [List.map_append]
      congr 1
      exact List.map_congr_left (fun p hp => by rw [pk_app (by rw [hl]; exact brow p hp)])
    rw [e]
    exact hS
  · rw [kds_app (fun p hp => by rw [hl]; exact h.bfuns p hp)]
    have f1 := Kd.R_tight rfl h5.funs
    have f2 : (Kd.raw 1).R 72 w1 w0.heap.size (fun k => some k = (Value.slice Af funs.length cf).ownBlock) (.slice Af funs.length cf) (kds ad funs) := Kd.R_grown f1 hg1 (fun k hk hk2 => (hoki k (hv.1 k hk2.symm)).1 hk)
    exact Kd.R_mono (Kd.R_grown f2 hg2 (fun k hk hk2 => by
      injection hk2 with hk2
      subst hk2
      obtain ⟨c, hc⟩ := Kd.R_typed f2 k hk.symm
      have := hc.symm.trans hcp1
      injection this with this
      injection this with _ e2 _
      exact absurd e2 (by decide))) (fun _ _ => trivial)
  · rw [pk_app (by rw [hl]; exact h.pos)]
    exact blk_grownT (blk_grownT h5.fin hg1 (fun k hk => by obtain ⟨c, hk'⟩ := tv k hk; exact ⟨72, c, by decide, hk'⟩)) hg2 (fun k hk => by injection hk with hk; subst hk; exact ⟨75, cp1, by decide, hcp1⟩)
  · intro ps hp p hq
    rw [List.length_append]
    simp only [List.length_cons, List.length_nil]
    rcases List.mem_or_eq_of_mem_set hp with hp | hp
    · have := h.brows ps hp p hq; omega
    · subst hp
      rcases List.mem_append.1 hq with hq | hq
      · have := brow p hq; omega
      · rw [List.mem_singleton] at hq; omega
/-- A row of pointers of the call's own, read. -/
theorem Ptrs_of_R {B : Nat} {ok : Nat → Prop} {A : Option Addr} {c : Nat} {ps : List Nat} (h : (Kd.raw 1).R 72 w B ok (.slice A ps.length c) (kds ad ps)) (hp : ∀ p, p ∈ ps → p < ad.length) (hl : ps.length ≤ 9223372036854775807) : Ptrs ad w A ps := by
  refine ⟨hl, hp, fun h0 => ?_⟩
  obtain ⟨_, _, hC⟩ := Kd.R_reads' h
  rw [kds_len] at hC
  obtain ⟨ad0, c0, he0, _⟩ := Kd.C_get hC [] 0 (by omega) (by omega)
  refine ⟨ad0, he0, fun j p hj => ?_⟩
  have hjl := (List.getElem?_eq_some_iff.1 hj).1
  obtain ⟨ad1, c1, he1, hcl, hK, hcc⟩ := Kd.C_get hC [] (j : Int) (by omega) (by omega)
  rw [he0] at he1
  injection he1 with he1
  subst he1
  have hc1 : c1 = [pk ad p] := by
    have h1 := hK.1
    rw [Int.toNat_natCast, List.getD_eq_getElem?_getD] at h1
    unfold kds at h1
    rw [List.getElem?_map, hj] at h1
    exact h1
  have := hcc 0 (pk ad p) (by rw [hc1]; rfl)
  rw [Int.toNat_natCast] at this
  exact (congrArg w.cell? (congrArg ad0.add (show j = j * (Kd.raw 1).sz + 0 from by show j = j * 1 + 0; omega))).trans this
theorem Held.far {B g t j : Nat} {cs : Array Value} (h : Held B s ad w) (hg : w.heap[g]? = some (.cells cs t (0, 0))) (ht : t ≠ 74) (u : Value) : Held B s ad (w.setCell ⟨g, j, none⟩ u) :=
  ⟨h.len, h.nodup, h.ge, fun i n hn => blk_far (h.cell i n hn) (fun e => blk_ne hg (h.cell i n hn) ht e.symm) u, h.ok⟩
/-- The kind of one function more. -/
theorem Mem.putFun (h : Mem gf gp cp n A0 m0 c0 w0 s ad rows funs Af cf pr w) {k : Nat} (hk : k < s.length) {A2 : Option Addr} {c2 : Nat} (hg : w.grownBy w1 (Value.slice Af funs.length cf).ownBlock)
    (ho : (Kd.raw 1).R 72 w1 w0.heap.size (fun _ => True) (.slice A2 (funs.length + 1) c2) (kds ad funs ++ [[pk ad k]])) (hb : Below w0.heap.size w0 w1) (hat : (Value.slice A2 (funs.length + 1) c2).ownBlock = (Value.slice Af funs.length cf).ownBlock ∨ ∃ b, (Value.slice A2 (funs.length + 1) c2).ownBlock = some b ∧ w.heap.size ≤ b) :
    Mem gf gp cp n A0 m0 c0 w0 s ad rows (funs ++ [k]) A2 c2 pr (w1.setCell ⟨gf, 2, none⟩ (.slice A2 (funs.length + 1) c2)) := by
  have tf : ∀ k, (Value.slice Af funs.length cf).ownBlock = some k → ∃ cells, w.heap[k]? = some (.cells cells 72 (0, 0)) := Kd.R_typed h.funs
  have hH1 := Held.grownT h.held hg (fun k hk => by obtain ⟨c, hc⟩ := tf k hk; exact ⟨72, c, by decide, hc⟩)
  have hf1 := blk_grownT h.fin hg (fun k hk => by obtain ⟨c, hc⟩ := tf k hk; exact ⟨72, c, by decide, hc⟩)
  have hS1 := Kd.S_after (v1 := .slice A2 (funs.length + 1) c2) (ok := fun _ => True) (Kd.S_mono h.rows (fun k hk => ⟨trivial, hk⟩)) hg hat
  have hlen : (funs ++ [k]).length = funs.length + 1 := by rw [List.length_append]; rfl
  refine ⟨Held.far hH1 hf1 (by decide) _, h.pos, ?_, ?_, ?_, h.brows, fun p hp => ?_, h.gf0, hb.setCell h.gf0 _⟩
  · rw [hlen]
    exact Kd.S_set (Kd.S_mono hS1 (fun k hk => hk.2)) hf1 (by decide) _ _
  · rw [hlen]
    have e : kds ad (funs ++ [k]) = kds ad funs ++ [[pk ad k]] := by unfold kds; rw [List.map_append]; rfl
    rw [e]
    exact Kd.R_set ho hf1 (by decide) _ _
  · rw [hlen]
    exact blk_put hf1 2 _ rfl
  · rcases List.mem_append.1 hp with hp | hp
    · exact h.bfuns p hp
    · rw [List.mem_singleton] at hp; omega
theorem Held.notin {B g t : Nat} {cs : Array Value} (h : Held B s ad w) (hg : w.heap[g]? = some (.cells cs t (0, 0))) (ht : t ≠ 74) : g ∉ ad := fun hm => by
  obtain ⟨i, hi, e⟩ := List.getElem_of_mem hm
  obtain ⟨m, _, hm2⟩ := h.at (i := i) (by rw [← h.len]; exact hi)
  have e2 : bk ad i = g := by
    unfold bk
    rw [List.getD_eq_getElem?_getD, List.getElem?_eq_getElem hi]
    exact e
  rw [e2] at hm2
  exact blk_ne hg hm2 ht rfl
/-- The kinds have been made the same, new ones have been made. -/
theorem Mem.turn (h : Mem gf gp cp n A0 m0 c0 w0 s ad rows funs Af cf pr w) (hH : Held w0.heap.size s' (ad ++ e') w1) (ht : Turned (fun k => k ∈ ad) w w1) : Mem gf gp cp n A0 m0 c0 w0 s' (ad ++ e') rows funs Af cf pr w1 := by
  have hl := h.held.len
  have hl' := hH.len
  rw [List.length_append] at hl'
  have hle : s.length ≤ s'.length := by omega
  refine ⟨hH, Nat.lt_of_lt_of_le h.pos hle, ?_, ?_, ?_, fun ps hp p hq => Nat.lt_of_lt_of_le (h.brows ps hp p hq) hle, fun p hp => Nat.lt_of_lt_of_le (h.bfuns p hp) hle, h.gf0, Turned.below ht h.below h.below.size (fun k hk => h.held.ge k hk)⟩
  · rw [rows_app (fun ps hp p hq => by rw [hl]; exact h.brows ps hp p hq)]
    exact Kd.S_mono (Kd.S_step (Kd.S_bound h.rows) (fun k hk hlt => by
      obtain ⟨_, _, _, q, hq, cells, hc⟩ := hk
      refine ht.block k hlt (h.held.notin hc ?_)
      simp [Kd.slice, Kd.raw] at hq
      omega)) (fun k hk => hk.1)
  · rw [kds_app (fun p hp => by rw [hl]; exact h.bfuns p hp)]
    exact Kd.R_mono (Kd.R_step (Kd.R_bound h.funs) (fun k hk hlt => by
      obtain ⟨_, _, _, q, hq, cells, hc⟩ := hk
      refine ht.block k hlt (h.held.notin hc ?_)
      simp [Kd.raw] at hq
      omega)) (fun k hk => trivial)
  · rw [pk_app (by rw [hl]; exact h.pos)]
    exact (ht.block gf (blk_lt h.fin) (h.held.notin h.fin (by decide))).trans h.fin
/-- f.params is set. -/
theorem Mem.setPr (h : Mem gf gp cp n A0 m0 c0 w0 s ad rows funs Af cf pr w) (v : Value) : Mem gf gp cp n A0 m0 c0 w0 s ad rows funs Af cf v (w.setCell ⟨gf, 3, none⟩ v) :=
  ⟨Held.far h.held h.fin (by decide) _, h.pos, Kd.S_set h.rows h.fin (by decide) _ _, Kd.R_set h.funs h.fin (by decide) _ _, blk_put h.fin 3 v rfl, h.brows, h.bfuns, h.gf0, h.below.setCell h.gf0 _⟩
/-- The finder, for the walk of a term. -/
theorem Mem.find {l0 : List S59} {ps : List Nat} {Ap : Option Addr} {cp' : Nat} (h : Mem gf gp cp n A0 l0.length c0 w0 s ad rows funs Af cf (.slice Ap ps.length cp') w) (hP : (Kd.raw 1).R 72 w w0.heap.size (fun _ => True) (.slice Ap ps.length cp') (kds ad ps)) (hps : ∀ p, p ∈ ps → p < s.length) (hl1 : ps.length ≤ 9223372036854775807) (hl2 : funs.length ≤ 9223372036854775807) :
    Find ⟨0, l0, funs, ps⟩ s ad gf A0 c0 w := by
  have hl := h.held.len
  have blk : ∀ (A : Option Addr) (c : Nat) (qs : List Nat), (Kd.raw 1).R 72 w w0.heap.size (fun _ => True) (.slice A qs.length c) (kds ad qs) → ∀ a, A = some a → a.block ∉ ad ∧ a.block < w.heap.size := by
    intro A c qs hR a ha
    subst ha
    have ho : (Value.slice (some a) qs.length c).ownBlock = some a.block := rfl
    obtain ⟨cells, hc⟩ := Kd.R_typed hR a.block ho
    exact ⟨h.held.notin hc (by decide), blk_lt hc⟩
  exact ⟨⟨Af, cf, Ap, cp', h.fin, Ptrs_of_R h.funs (fun p hp => by rw [hl]; exact h.bfuns p hp) hl2, Ptrs_of_R hP (fun p hp => by rw [hl]; exact hps p hp) hl1, blk _ _ _ h.funs, blk _ _ _ hP⟩, h.held.notin h.fin (by decide), h.pos⟩
end Go.Proofs.Ytfhgoebgnilfaaa.I
