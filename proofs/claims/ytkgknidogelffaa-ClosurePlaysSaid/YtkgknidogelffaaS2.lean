/- Texts of this session's proof, laid together: I1, IN, IP1, IX1, IH2, IP4, IJ, IQ0, IX2, IX3, IM, IH4, IP2, IX4, IX5. -/
import Derived.Deep.DeepMust
import Derived.Deep.RegionHeld3
import Derived.Deep.RegionLaw
import Derived.Maps.OwnOps
import Derived.Maps.Views
import Derived.Carry
import Derived.Test.YtkgknidogelffaaS1
namespace Go.Proofs.Ytkgknidogelffaa.I
open Go.RowKit Go.Proofs.YtkgknidogelffaaW.PrintWords Go.Proofs.YtkgknidogelffaaW.PrintLast Go.Proofs.YtkgknidogelffaaW.PrintMore
attribute [local go_sem] max2_int min2_int max_two min_two max_three min_three max_four min_four   -- for this text's walks alone
set_option linter.unusedVariables false
set_option linter.unusedSimpArgs false
mutual
def term_Name.j0:Nat→ByteArray→Bool→Option (Bool)
  | 0,_,_=>none
  | k+1,x0,x22=>if x22=true then (some false) else (term_Name.l0 k x0 (x0.size:Int) 0)
def term_Name.l0:Nat→ByteArray→Int→Int→Option (Bool)
  | 0,_,_,_=>none
  | k+1,x0,x24,x25=>if x25 < x24 then (if 0≤x25 then (if x25 < (x0.size:Int) then (if (bt x0 x25) < 97 then (if (bt x0 x25) < 48 then (if (bt x0 x25)=95 then (term_Name.l0 k x0 x24 (wrap64 (x25+1))) else (some false)) else (if (bt x0 x25) > 57 then (if (bt x0 x25)=95 then (term_Name.l0 k x0 x24 (wrap64 (x25+1))) else (some false)) else (term_Name.l0 k x0 x24 (wrap64 (x25+1))))) else (if (bt x0 x25) > 122 then (if (bt x0 x25) < 48 then (if (bt x0 x25)=95 then (term_Name.l0 k x0 x24 (wrap64 (x25+1))) else (some false)) else (if (bt x0 x25) > 57 then (if (bt x0 x25)=95 then (term_Name.l0 k x0 x24 (wrap64 (x25+1))) else (some false)) else (term_Name.l0 k x0 x24 (wrap64 (x25+1))))) else (term_Name.l0 k x0 x24 (wrap64 (x25+1))))) else (none)) else (none)) else (some true)
end
def term_Name.f (k:Nat) (a0:ByteArray):Option (Bool):=if (a0.size:Int)=0 then (term_Name.j0 k a0 true) else (if (a0.size:Int) > 24 then (term_Name.j0 k a0 true) else (if 0 < (a0.size:Int) then (if (bt a0 0) < 97 then (term_Name.j0 k a0 true) else (term_Name.j0 k a0 (decide ((bt a0 0) > 122)))) else (none)))
set_option maxHeartbeats 8000000 in
set_option maxRecDepth 100000 in
theorem term_Name.calls (k:Nat) (a0:ByteArray) (r:Bool) (w:World) (h:term_Name.f k a0=some r) :
    Calls Try.prog 53 #[.string a0] w fun e w'=>e=.returned (.bool r)∧Drawn0 w w':=by
  have H:(if (a0.size:Int)=0 then (term_Name.j0 k a0 true) else (if (a0.size:Int) > 24 then (term_Name.j0 k a0 true) else (if 0 < (a0.size:Int) then (if (bt a0 0) < 97 then (term_Name.j0 k a0 true) else (term_Name.j0 k a0 (decide ((bt a0 0) > 122)))) else (none))))=some r:=h
  clear h
  have HC2:=Az.mk H
  clear H
  go_enter Try.func53,Try.ntmps53
  go_upto_region 1 with (fail)
  go_cut [22] (fun v22 wc=>∃ (kq:Nat) (x22_1:Bool),v22=.bool x22_1∧Az (term_Name.j0 kq a0 x22_1=some r)∧Az (kq≤k)∧Drawn0 w wc)
  case first =>
    have H:=HC2.out
    clear HC2
    by_cases c3:(a0.size:Int)=0
    · rw [if_pos c3] at H
      have c3b0:((a0.size:Int) == 0)=true:=beq_iff_eq.mpr c3
      have c3b1:((a0.size:Int) != 0)=false:=bne_eq_false_iff_eq.mpr c3
      clear c3
      (first | rw [c3b0] | (simp only [i64_w,i32_w]; rw [c3b0]) | skip)
      have H':=Az.mk H
      clear H
      go_wp2
      go_meet
      case rel=>exact ⟨_,(true),(by first | rfl | (simp; done) | (simp [*]; done)),H',⟨by first | omega | exact Nat.le_refl _⟩,by repeat (first | exact Drawn0.refl _ | apply Drawn0.step)⟩
    · rw [if_neg c3] at H
      have c3b0:((a0.size:Int) == 0)=false:=beq_eq_false_iff_ne.mpr c3
      have c3b1:((a0.size:Int) != 0)=true:=bne_iff_ne.mpr c3
      (first | rw [c3b0] | (simp only [i64_w,i32_w]; rw [c3b0]) | skip)
      by_cases c4:(a0.size:Int) > 24
      · rw [if_pos c4] at H
        have c4b0:decide (24 < (a0.size:Int))=true:=decide_eq_true c4
        have c4b1:decide (24 < a0.size)=true:=decide_eq_true (by omega)
        clear c4
        have H':=Az.mk H
        clear H
        go_wp2
        go_meet
        case rel=>exact ⟨_,(true),(by first | rfl | (simp; done) | (simp [*]; done)),H',⟨by first | omega | exact Nat.le_refl _⟩,by repeat (first | exact Drawn0.refl _ | apply Drawn0.step)⟩
      · rw [if_neg c4] at H
        have c4b0:decide (24 < (a0.size:Int))=false:=decide_eq_false c4
        have c4b1:decide (24 < a0.size)=false:=decide_eq_false (by omega)
        clear c4
        by_cases c5:0 < (a0.size:Int)
        · rw [if_pos c5] at H
          have c5b0:decide (0 < (a0.size:Int))=true:=decide_eq_true c5
          have c5b1:decide (0 < a0.size)=true:=decide_eq_true (by omega)
          clear c5
          by_cases c7:(bt a0 0) < 97
          · rw [if_pos c7] at H
            have c7b0:decide ((bt a0 0) < 97)=true:=decide_eq_true c7
            clear c7
            have H':=Az.mk H
            clear H
            have p6:0≤(0:Int):=(by omega)
            have q6:0 < a0.size:=(by have:(0:Int) < (a0.size:Int):=of_decide_eq_true (by first | (with_reducible assumption) | assumption); omega)
            have hx6:∀ h:0 < a0.size,((a0[0]'h).toNat:Int)=bt a0 0:=bt_at a0 0
            clear p6
            have qi6:(0 < (a0.size:Int))=True:=eq_true (of_decide_eq_true (by first | (with_reducible assumption) | assumption))
            replace q6:=eq_true q6
            go_wp2
            go_meet
            case rel=>exact ⟨_,(true),(by first | rfl | (simp; done) | (simp [*]; done)),H',⟨by first | omega | exact Nat.le_refl _⟩,by repeat (first | exact Drawn0.refl _ | apply Drawn0.step)⟩
          · rw [if_neg c7] at H
            have c7b0:decide ((bt a0 0) < 97)=false:=decide_eq_false c7
            clear c7
            have H':=Az.mk H
            clear H
            have p6:0≤(0:Int):=(by omega)
            have q6:0 < a0.size:=(by have:(0:Int) < (a0.size:Int):=of_decide_eq_true (by first | (with_reducible assumption) | assumption); omega)
            have hx6:∀ h:0 < a0.size,((a0[0]'h).toNat:Int)=bt a0 0:=bt_at a0 0
            clear p6
            have qi6:(0 < (a0.size:Int))=True:=eq_true (of_decide_eq_true (by first | (with_reducible assumption) | assumption))
            replace q6:=eq_true q6
            have p8:0≤(0:Int):=(by omega)
            have q8:0 < a0.size:=(by have:(0:Int) < (a0.size:Int):=of_decide_eq_true (by first | (with_reducible assumption) | assumption); omega)
            have hx8:∀ h:0 < a0.size,((a0[0]'h).toNat:Int)=bt a0 0:=bt_at a0 0
            clear p8
            have qi8:(0 < (a0.size:Int))=True:=eq_true (of_decide_eq_true (by first | (with_reducible assumption) | assumption))
            replace q8:=eq_true q8
            go_wp2
            go_meet
            case rel=>exact ⟨_,(decide ((bt a0 0) > 122)),(by first | rfl | (simp; done) | (simp [*]; done)),H',⟨by first | omega | exact Nat.le_refl _⟩,by repeat (first | exact Drawn0.refl _ | apply Drawn0.step)⟩
        · rw [if_neg c5] at H
          exact absurd H (by simp)
  case rest =>
    clear HC2
    try clear p2
    try clear c3
    try clear c3b0
    try clear c3b1
    try clear c4
    try clear c4b0
    try clear c4b1
    try clear c5
    try clear c5b0
    try clear c5b1
    try clear p6
    try clear q6
    try clear hx6
    try clear qi6
    try clear c7
    try clear c7b0
    try clear p8
    try clear q8
    try clear hx8
    try clear qi8
    try clear p6
    try clear p8
    try clear q6
    try clear q8
    obtain ⟨kq,x22_1,rfl,HA,HJ1,⟨mc1,rfl⟩⟩:=hcut
    cases kq with
    | zero=>exact absurd HA.out (by simp [term_Name.j0])
    | succ kj1 =>
      have H:=HA.out
      clear HA
      simp only [term_Name.j0] at H
      by_cases c9:x22_1=true
      · subst c9
        have H1:(some false)=some r:=by rw [if_pos rfl] at H; exact H
        clear H
        have H:=H1
        clear H1
        obtain rfl:=Option.some.inj H
        go_wp2
        go_ret
        exact ⟨by first | rfl | (simp; done) | (simp [*]; done),by repeat (first | exact Drawn0.refl _ | apply Drawn0.step)⟩
      · replace c9:=Bool.eq_false_iff.mpr c9
        subst c9
        have H1:(term_Name.l0 kj1 a0 (a0.size:Int) 0)=some r:=by rw [if_neg (show ¬ (false=true) by decide)] at H; exact H
        clear H
        have H:=H1
        clear H1
        have H':=Az.mk H
        clear H
        go_wp2
        go_loopg [25] kj1 (fun kq v25 w'=>∃ (x25_2:Int),v25=.int .i64 x25_2∧Az (term_Name.l0 kq a0 (a0.size:Int) x25_2=some r)∧Az (kq≤kj1)∧Drawn0 w w')
        case atStart=>exact ⟨(0),(by first | rfl | (simp; done) | (simp [*]; done)),H',⟨Nat.le_refl _⟩,by repeat (first | exact Drawn0.refl _ | apply Drawn0.step)⟩
        case round =>
          clear H'
          try clear c1
          try clear p2
          try clear c3
          try clear c3b0
          try clear c3b1
          try clear c4
          try clear c4b0
          try clear c4b1
          try clear c5
          try clear c5b0
          try clear c5b1
          try clear p6
          try clear q6
          try clear hx6
          try clear qi6
          try clear c7
          try clear c7b0
          try clear p8
          try clear q8
          try clear hx8
          try clear qi8
          try clear c9
          try clear p2
          try clear p6
          try clear p8
          try clear q6
          try clear q8
          obtain ⟨x25_2,rfl,HA,HK2,⟨m2,rfl⟩⟩:=hrel
          cases gk with
          | zero=>exact absurd HA.out (by simp [term_Name.l0])
          | succ k2 =>
            have H:=HA.out
            clear HA
            simp only [term_Name.l0] at H
            by_cases c10:x25_2 < (a0.size:Int)
            · rw [if_pos c10] at H
              have c10b0:decide (x25_2 < (a0.size:Int))=true:=decide_eq_true c10
              clear c10
              by_cases c11:0≤x25_2
              · rw [if_pos c11] at H
                have c11b0:decide (0≤x25_2)=true:=decide_eq_true c11
                clear c11
                by_cases c12:x25_2 < (a0.size:Int)
                · rw [if_pos c12] at H
                  have c12b0:decide (x25_2 < (a0.size:Int))=true:=decide_eq_true c12
                  clear c12
                  by_cases c14:(bt a0 x25_2) < 97
                  · rw [if_pos c14] at H
                    have c14b0:decide ((bt a0 x25_2) < 97)=true:=decide_eq_true c14
                    clear c14
                    by_cases c15:(bt a0 x25_2) < 48
                    · rw [if_pos c15] at H
                      have c15b0:decide ((bt a0 x25_2) < 48)=true:=decide_eq_true c15
                      clear c15
                      by_cases c16:(bt a0 x25_2)=95
                      · rw [if_pos c16] at H
                        have c16b0:((bt a0 x25_2) == 95)=true:=beq_iff_eq.mpr c16
                        have c16b1:((bt a0 x25_2) != 95)=false:=bne_eq_false_iff_eq.mpr c16
                        clear c16
                        have H':=Az.mk H
                        clear H
                        have p13:0≤(x25_2:Int):=of_decide_eq_true (by first | (with_reducible assumption) | assumption)
                        have q13:x25_2 < (a0.size:Int):=of_decide_eq_true (by first | (with_reducible assumption) | assumption)
                        have hx13:=bt_at a0 x25_2
                        replace p13:=eq_true p13
                        replace q13:=eq_true q13
                        go_wp2
                        go_roundg k2
                        case measure=>have:=HJ1.out; have:=HK2.out; omega
                        case rel=>exact ⟨(wrap64 (x25_2+1)),(by first | rfl | (simp; done) | (simp [*]; done)),H',⟨by have:=HJ1.out; have:=HK2.out; omega⟩,by repeat (first | exact Drawn0.refl _ | apply Drawn0.step)⟩
                      · rw [if_neg c16] at H
                        have c16b0:((bt a0 x25_2) == 95)=false:=beq_eq_false_iff_ne.mpr c16
                        have c16b1:((bt a0 x25_2) != 95)=true:=bne_iff_ne.mpr c16
                        obtain rfl:=Option.some.inj H
                        have p13:0≤(x25_2:Int):=of_decide_eq_true (by first | (with_reducible assumption) | assumption)
                        have q13:x25_2 < (a0.size:Int):=of_decide_eq_true (by first | (with_reducible assumption) | assumption)
                        have hx13:=bt_at a0 x25_2
                        replace p13:=eq_true p13
                        replace q13:=eq_true q13
                        go_wp2
                        go_ret
                        exact ⟨by first | rfl | (simp; done) | (simp [*]; done),by repeat (first | exact Drawn0.refl _ | apply Drawn0.step)⟩
                    · rw [if_neg c15] at H
                      have c15b0:decide ((bt a0 x25_2) < 48)=false:=decide_eq_false c15
                      clear c15
                      by_cases c17:(bt a0 x25_2) > 57
                      · rw [if_pos c17] at H
                        have c17b0:decide (57 < (bt a0 x25_2))=true:=decide_eq_true c17
                        clear c17
                        by_cases c18:(bt a0 x25_2)=95
                        · rw [if_pos c18] at H
                          have c18b0:((bt a0 x25_2) == 95)=true:=beq_iff_eq.mpr c18
                          have c18b1:((bt a0 x25_2) != 95)=false:=bne_eq_false_iff_eq.mpr c18
                          clear c18
                          have H':=Az.mk H
                          clear H
                          have p13:0≤(x25_2:Int):=of_decide_eq_true (by first | (with_reducible assumption) | assumption)
                          have q13:x25_2 < (a0.size:Int):=of_decide_eq_true (by first | (with_reducible assumption) | assumption)
                          have hx13:=bt_at a0 x25_2
                          replace p13:=eq_true p13
                          replace q13:=eq_true q13
                          go_wp2
                          go_roundg k2
                          case measure=>have:=HJ1.out; have:=HK2.out; omega
                          case rel=>exact ⟨(wrap64 (x25_2+1)),(by first | rfl | (simp; done) | (simp [*]; done)),H',⟨by have:=HJ1.out; have:=HK2.out; omega⟩,by repeat (first | exact Drawn0.refl _ | apply Drawn0.step)⟩
                        · rw [if_neg c18] at H
                          have c18b0:((bt a0 x25_2) == 95)=false:=beq_eq_false_iff_ne.mpr c18
                          have c18b1:((bt a0 x25_2) != 95)=true:=bne_iff_ne.mpr c18
                          obtain rfl:=Option.some.inj H
                          have p13:0≤(x25_2:Int):=of_decide_eq_true (by first | (with_reducible assumption) | assumption)
                          have q13:x25_2 < (a0.size:Int):=of_decide_eq_true (by first | (with_reducible assumption) | assumption)
                          have hx13:=bt_at a0 x25_2
                          replace p13:=eq_true p13
                          replace q13:=eq_true q13
                          go_wp2
                          go_ret
                          exact ⟨by first | rfl | (simp; done) | (simp [*]; done),by repeat (first | exact Drawn0.refl _ | apply Drawn0.step)⟩
                      · rw [if_neg c17] at H
                        have c17b0:decide (57 < (bt a0 x25_2))=false:=decide_eq_false c17
                        clear c17
                        have H':=Az.mk H
                        clear H
                        have p13:0≤(x25_2:Int):=of_decide_eq_true (by first | (with_reducible assumption) | assumption)
                        have q13:x25_2 < (a0.size:Int):=of_decide_eq_true (by first | (with_reducible assumption) | assumption)
                        have hx13:=bt_at a0 x25_2
                        replace p13:=eq_true p13
                        replace q13:=eq_true q13
                        go_wp2
                        go_roundg k2
                        case measure=>have:=HJ1.out; have:=HK2.out; omega
                        case rel=>exact ⟨(wrap64 (x25_2+1)),(by first | rfl | (simp; done) | (simp [*]; done)),H',⟨by have:=HJ1.out; have:=HK2.out; omega⟩,by repeat (first | exact Drawn0.refl _ | apply Drawn0.step)⟩
                  · rw [if_neg c14] at H
                    have c14b0:decide ((bt a0 x25_2) < 97)=false:=decide_eq_false c14
                    clear c14
                    by_cases c19:(bt a0 x25_2) > 122
                    · rw [if_pos c19] at H
                      have c19b0:decide (122 < (bt a0 x25_2))=true:=decide_eq_true c19
                      clear c19
                      by_cases c20:(bt a0 x25_2) < 48
                      · rw [if_pos c20] at H
                        have c20b0:decide ((bt a0 x25_2) < 48)=true:=decide_eq_true c20
                        clear c20
                        by_cases c21:(bt a0 x25_2)=95
                        · rw [if_pos c21] at H
                          have c21b0:((bt a0 x25_2) == 95)=true:=beq_iff_eq.mpr c21
                          have c21b1:((bt a0 x25_2) != 95)=false:=bne_eq_false_iff_eq.mpr c21
                          clear c21
                          have H':=Az.mk H
                          clear H
                          have p13:0≤(x25_2:Int):=of_decide_eq_true (by first | (with_reducible assumption) | assumption)
                          have q13:x25_2 < (a0.size:Int):=of_decide_eq_true (by first | (with_reducible assumption) | assumption)
                          have hx13:=bt_at a0 x25_2
                          replace p13:=eq_true p13
                          replace q13:=eq_true q13
                          go_wp2
                          go_roundg k2
                          case measure=>have:=HJ1.out; have:=HK2.out; omega
                          case rel=>exact ⟨(wrap64 (x25_2+1)),(by first | rfl | (simp; done) | (simp [*]; done)),H',⟨by have:=HJ1.out; have:=HK2.out; omega⟩,by repeat (first | exact Drawn0.refl _ | apply Drawn0.step)⟩
                        · rw [if_neg c21] at H
                          have c21b0:((bt a0 x25_2) == 95)=false:=beq_eq_false_iff_ne.mpr c21
                          have c21b1:((bt a0 x25_2) != 95)=true:=bne_iff_ne.mpr c21
                          obtain rfl:=Option.some.inj H
                          have p13:0≤(x25_2:Int):=of_decide_eq_true (by first | (with_reducible assumption) | assumption)
                          have q13:x25_2 < (a0.size:Int):=of_decide_eq_true (by first | (with_reducible assumption) | assumption)
                          have hx13:=bt_at a0 x25_2
                          replace p13:=eq_true p13
                          replace q13:=eq_true q13
                          go_wp2
                          go_ret
                          exact ⟨by first | rfl | (simp; done) | (simp [*]; done),by repeat (first | exact Drawn0.refl _ | apply Drawn0.step)⟩
                      · rw [if_neg c20] at H
                        have c20b0:decide ((bt a0 x25_2) < 48)=false:=decide_eq_false c20
                        clear c20
                        by_cases c22:(bt a0 x25_2) > 57
                        · rw [if_pos c22] at H
                          have c22b0:decide (57 < (bt a0 x25_2))=true:=decide_eq_true c22
                          clear c22
                          by_cases c23:(bt a0 x25_2)=95
                          · rw [if_pos c23] at H
                            have c23b0:((bt a0 x25_2) == 95)=true:=beq_iff_eq.mpr c23
                            have c23b1:((bt a0 x25_2) != 95)=false:=bne_eq_false_iff_eq.mpr c23
                            clear c23
                            have H':=Az.mk H
                            clear H
                            have p13:0≤(x25_2:Int):=of_decide_eq_true (by first | (with_reducible assumption) | assumption)
                            have q13:x25_2 < (a0.size:Int):=of_decide_eq_true (by first | (with_reducible assumption) | assumption)
                            have hx13:=bt_at a0 x25_2
                            replace p13:=eq_true p13
                            replace q13:=eq_true q13
                            go_wp2
                            go_roundg k2
                            case measure=>have:=HJ1.out; have:=HK2.out; omega
                            case rel=>exact ⟨(wrap64 (x25_2+1)),(by first | rfl | (simp; done) | (simp [*]; done)),H',⟨by have:=HJ1.out; have:=HK2.out; omega⟩,by repeat (first | exact Drawn0.refl _ | apply Drawn0.step)⟩
                          · rw [if_neg c23] at H
                            have c23b0:((bt a0 x25_2) == 95)=false:=beq_eq_false_iff_ne.mpr c23
                            have c23b1:((bt a0 x25_2) != 95)=true:=bne_iff_ne.mpr c23
                            obtain rfl:=Option.some.inj H
                            have p13:0≤(x25_2:Int):=of_decide_eq_true (by first | (with_reducible assumption) | assumption)
                            have q13:x25_2 < (a0.size:Int):=of_decide_eq_true (by first | (with_reducible assumption) | assumption)
                            have hx13:=bt_at a0 x25_2
                            replace p13:=eq_true p13
                            replace q13:=eq_true q13
                            go_wp2
                            go_ret
                            exact ⟨by first | rfl | (simp; done) | (simp [*]; done),by repeat (first | exact Drawn0.refl _ | apply Drawn0.step)⟩
                        · rw [if_neg c22] at H
                          have c22b0:decide (57 < (bt a0 x25_2))=false:=decide_eq_false c22
                          clear c22
                          have H':=Az.mk H
                          clear H
                          have p13:0≤(x25_2:Int):=of_decide_eq_true (by first | (with_reducible assumption) | assumption)
                          have q13:x25_2 < (a0.size:Int):=of_decide_eq_true (by first | (with_reducible assumption) | assumption)
                          have hx13:=bt_at a0 x25_2
                          replace p13:=eq_true p13
                          replace q13:=eq_true q13
                          go_wp2
                          go_roundg k2
                          case measure=>have:=HJ1.out; have:=HK2.out; omega
                          case rel=>exact ⟨(wrap64 (x25_2+1)),(by first | rfl | (simp; done) | (simp [*]; done)),H',⟨by have:=HJ1.out; have:=HK2.out; omega⟩,by repeat (first | exact Drawn0.refl _ | apply Drawn0.step)⟩
                    · rw [if_neg c19] at H
                      have c19b0:decide (122 < (bt a0 x25_2))=false:=decide_eq_false c19
                      clear c19
                      have H':=Az.mk H
                      clear H
                      have p13:0≤(x25_2:Int):=of_decide_eq_true (by first | (with_reducible assumption) | assumption)
                      have q13:x25_2 < (a0.size:Int):=of_decide_eq_true (by first | (with_reducible assumption) | assumption)
                      have hx13:=bt_at a0 x25_2
                      replace p13:=eq_true p13
                      replace q13:=eq_true q13
                      go_wp2
                      go_roundg k2
                      case measure=>have:=HJ1.out; have:=HK2.out; omega
                      case rel=>exact ⟨(wrap64 (x25_2+1)),(by first | rfl | (simp; done) | (simp [*]; done)),H',⟨by have:=HJ1.out; have:=HK2.out; omega⟩,by repeat (first | exact Drawn0.refl _ | apply Drawn0.step)⟩
                · rw [if_neg c12] at H
                  exact absurd H (by simp)
              · rw [if_neg c11] at H
                exact absurd H (by simp)
            · rw [if_neg c10] at H
              have c10b0:decide (x25_2 < (a0.size:Int))=false:=decide_eq_false c10
              clear c10
              obtain rfl:=Option.some.inj H
              go_wp2
              go_ret
              exact ⟨by first | rfl | (simp; done) | (simp [*]; done),by repeat (first | exact Drawn0.refl _ | apply Drawn0.step)⟩
end Go.Proofs.Ytkgknidogelffaa.I
namespace Go.Proofs.Ytkgknidogelffaa.I
open Go.RowKit Go.Proofs.YtkgknidogelffaaW.PrintWords Go.Proofs.YtkgknidogelffaaW.PrintLast Go.Proofs.YtkgknidogelffaaW.PrintMore
set_option linter.unusedVariables false
set_option maxRecDepth 100000
set_option linter.unusedSimpArgs false
theorem w64 (x:Int) (h : -1000000≤x∧x≤1000000):wrap64 x=x:=by unfold wrap64; omega
theorem Ev.ifp {α:Type} {c:Prop} [Decidable c] {f g:Nat→Option α} {r:α} (h:c) (k:Ev f r):Ev (fun n=>if c then f n else g n) r:=by
  simp only [if_pos h]; exact k
theorem Ev.ifn {α:Type} {c:Prop} [Decidable c] {f g:Nat→Option α} {r:α} (h:¬ c) (k:Ev g r):Ev (fun n=>if c then f n else g n) r:=by
  simp only [if_neg h]; exact k
def okc (b:Int):Bool:=decide ((97≤b∧b≤122)∨(48≤b∧b≤57)∨b=95)
theorem chr_ite {α:Type} (b:Int) (c d:α):(if b < 97 then (if b < 48 then (if b=95 then c else d) else (if b > 57 then (if b=95 then c else d) else c)) else (if b > 122 then (if b < 48 then (if b=95 then c else d) else (if b > 57 then (if b=95 then c else d) else c)) else c))=if okc b=true then c else d:=by
  unfold okc
  simp only [decide_eq_true_eq]
  repeat' split
  all_goals first | rfl | (exfalso; omega)
def chars (s:ByteArray):Nat→Nat→Bool
  | 0,_=>true
  | n+1,i=>okc (bt s (i:Int)) && chars s n (i+1)
def nameOk (s:ByteArray):Bool:=decide (1≤s.size∧s.size≤24∧97≤bt s 0∧bt s 0≤122) && chars s s.size 0
theorem name_loop (s:ByteArray) (hs:s.size≤24):∀ (n i:Nat),i+n=s.size→Ev (fun k=>term_Name.l0 k s (s.size:Int) (i:Int)) (chars s n i)
  | 0,i,h=>Ev.step (fun k=>by rw [term_Name.l0,if_neg (by omega)]; rfl) (Ev.now _)
  | n+1,i,h=>by
    refine Ev.step (fun k=>by rw [term_Name.l0,if_pos (by omega),if_pos (by omega),if_pos (by omega),chr_ite]) ?_
    unfold chars
    cases hc:okc (bt s (i:Int))
    · exact Ev.ifn (by simp) (Ev.now _)
    · refine Ev.ifp rfl ?_
      rw [w64 _ (by omega)]
      exact name_loop s hs n (i+1) (by omega)
theorem refname_loop (s:ByteArray) (hs:s.size≤24):∀ (n i:Nat),i+n=s.size→Ev (fun k=>virgationref02_Name.l0 k s (i:Int)) (chars s n i)
  | 0,i,h=>Ev.step (fun k=>by rw [virgationref02_Name.l0,if_neg (by omega)]; rfl) (Ev.now _)
  | n+1,i,h=>by
    refine Ev.step (fun k=>by rw [virgationref02_Name.l0,if_pos (by omega),if_pos (by omega),chr_ite]) ?_
    unfold chars
    cases hc:okc (bt s (i:Int))
    · exact Ev.ifn (by simp) (Ev.now _)
    · refine Ev.ifp rfl ?_
      rw [w64 _ (by omega)]
      exact refname_loop s hs n (i+1) (by omega)
theorem name_no (s:ByteArray):Ev (fun k=>term_Name.j0 k s true) false:=Ev.step (fun k=>by rw [term_Name.j0,if_pos rfl]) (Ev.now _)
theorem refname_no (s:ByteArray):Ev (fun k=>virgationref02_Name.j0 k s true) false:=Ev.step (fun k=>by rw [virgationref02_Name.j0,if_pos rfl]) (Ev.now _)
theorem nameOk_no {s:ByteArray} (h:¬ (1≤s.size∧s.size≤24∧97≤bt s 0∧bt s 0≤122)):nameOk s=false:=by
  unfold nameOk
  rw [decide_eq_false h,Bool.false_and]
theorem name_ev (s:ByteArray):Ev (fun k=>term_Name.f k s) (nameOk s):=by
  unfold term_Name.f
  by_cases h1:(s.size:Int)=0
  · rw [nameOk_no (by omega)]; exact Ev.ifp h1 (name_no s)
  · by_cases h2:(s.size:Int) > 24
    · rw [nameOk_no (by omega)]; exact Ev.ifn h1 (Ev.ifp h2 (name_no s))
    · refine Ev.ifn h1 (Ev.ifn h2 (Ev.ifp (by omega) ?_))
      by_cases h3:bt s 0 < 97
      · rw [nameOk_no (by omega)]; exact Ev.ifp h3 (name_no s)
      · refine Ev.ifn h3 ?_
        by_cases h4:bt s 0 > 122
        · rw [nameOk_no (by omega),decide_eq_true h4]; exact name_no s
        · rw [decide_eq_false h4]
          refine Ev.step (fun k=>by rw [term_Name.j0,if_neg (by simp)]) ?_
          unfold nameOk
          rw [decide_eq_true (by omega),Bool.true_and]
          exact name_loop s (by omega) s.size 0 (by omega)
theorem refname_ev (s:ByteArray):Ev (fun k=>virgationref02_Name.f k s) (nameOk s):=by
  unfold virgationref02_Name.f
  by_cases h1:(s.size:Int) < 1
  · rw [nameOk_no (by omega)]; exact Ev.ifp h1 (refname_no s)
  · by_cases h2:(s.size:Int) > 24
    · rw [nameOk_no (by omega)]; exact Ev.ifn h1 (Ev.ifp h2 (refname_no s))
    · refine Ev.ifn h1 (Ev.ifn h2 (Ev.ifp (by omega) ?_))
      by_cases h3:bt s 0 < 97
      · rw [nameOk_no (by omega)]; exact Ev.ifp h3 (refname_no s)
      · refine Ev.ifn h3 ?_
        by_cases h4:bt s 0 > 122
        · rw [nameOk_no (by omega),decide_eq_true h4]; exact refname_no s
        · rw [decide_eq_false h4]
          refine Ev.step (fun k=>by rw [virgationref02_Name.j0,if_neg (by simp)]) ?_
          unfold nameOk
          rw [decide_eq_true (by omega),Bool.true_and]
          exact refname_loop s (by omega) s.size 0 (by omega)
end Go.Proofs.Ytkgknidogelffaa.I
namespace Go.Proofs.Ytkgknidogelffaa.I
open Go.RowKit Go.Proofs.YtkgknidogelffaaW.PrintWords Go.Proofs.YtkgknidogelffaaW.PrintLast Go.Proofs.YtkgknidogelffaaW.PrintMore
set_option linter.unusedVariables false
set_option maxRecDepth 100000
set_option linter.unusedSimpArgs false
def szT (x:S36):Int × Int:=if (tmeas x 100000).2 < 0 then (100001,0) else (100000 - (tmeas x 100000).2,(tmeas x 100000).1)
theorem szT_eq (a b:Int) (l:List S36):term_Size.f a b l=some ((szT ⟨a,b,l⟩).1,(szT ⟨a,b,l⟩).2):=by unfold term_Size.f szT; split <;> rfl
mutual
def tcnt:S36→Int
  | ⟨_,_,l⟩=>1+tcntL l
def tcntL:List S36→Int
  | []=>0
  | x :: xs=>tcnt x+tcntL xs
end
mutual
def tdep:S36→Int
  | ⟨_,_,l⟩=>1+tdepL l
def tdepL:List S36→Int
  | []=>0
  | x :: xs=>max (tdep x) (tdepL xs)
end
mutual
theorem tcnt_ge:∀ x:S36,1≤tcnt x
  | ⟨_,_,l⟩=>by have:=tcntL_ge l; unfold tcnt; omega
theorem tcntL_ge:∀ l:List S36,(l.length:Int)≤tcntL l
  | []=>by simp [tcntL]
  | x :: xs=>by have h1:=tcnt_ge x; have h2:=tcntL_ge xs; unfold tcntL; simp only [List.length_cons]; omega
end
mutual
theorem tdep_bd:∀ x:S36,1≤tdep x∧tdep x≤tcnt x
  | ⟨_,_,l⟩=>by have:=tdepL_bd l; unfold tdep tcnt; omega
theorem tdepL_bd:∀ l:List S36,0≤tdepL l∧tdepL l≤tcntL l
  | []=>by simp [tdepL,tcntL]
  | x :: xs=>by have h1:=tdep_bd x; have h2:=tdepL_bd xs; have h3:=tcnt_ge x; have h4:=tcntL_ge xs; unfold tdepL tcntL; omega
end
theorem tcnt_f2 (x:S36):tcnt x=1+tcntL x.f2:=by cases x; rfl
theorem tdep_f2 (x:S36):tdep x=1+tdepL x.f2:=by cases x; rfl
theorem tdrop_cnt (l:List S36) (i:Nat) (h:i < l.length):tcntL (l.drop i)=1+tcntL (rd_T36 l (i:Int)).f2+tcntL (l.drop (i+1)):=by
  rw [rd_T36_drop l i h]; show tcnt _+tcntL _=_; rw [tcnt_f2]
theorem tdrop_dep (l:List S36) (i:Nat) (h:i < l.length):tdepL (l.drop i)=max (1+tdepL (rd_T36 l (i:Int)).f2) (tdepL (l.drop (i+1))):=by
  rw [rd_T36_drop l i h]; show max (tdep _) (tdepL _)=_; rw [tdep_f2]
theorem tdrop_cnt_le:∀ (l:List S36) (i:Nat),tcntL (l.drop i)≤tcntL l
  | [],i=>by simp
  | x :: xs,0=>by simp
  | x :: xs,i+1=>by have h1:=tdrop_cnt_le xs i; have h2:=tcnt_ge x; rw [List.drop_succ_cons]; show tcntL (xs.drop i)≤tcnt x+tcntL xs; omega
theorem tcnt_child (l:List S36) (i:Nat) (h:i < l.length):tcntL (rd_T36 l (i:Int)).f2 < tcntL l:=by
  have h1:=tdrop_cnt l i h; have h2:=tdrop_cnt_le l i; have h3:=tcntL_ge (l.drop (i+1)); omega
theorem mx_max (a b:Int):mx a b=max a b:=by unfold mx; split <;> omega
mutual
theorem tmeas_eq:∀ (x:S36) (left:Int),0≤left→(if tcnt x≤left then tmeas x left=(tdep x,left - tcnt x) else (tmeas x left).2 < 0)
  | ⟨_,_,l⟩,left,h=>by
    have:=tmeasL_eq l (left - 1) 0 (by omega) (by omega)
    unfold tcnt tmeas tdep
    split at this
    · rw [if_pos (by omega),this]
      have h1:=tdepL_bd l
      rw [show max 0 (tdepL l)+1=1+tdepL l from by omega,show left - 1 - tcntL l=left - (1+tcntL l) from by omega]
    · rw [if_neg (by omega)]; exact this
theorem tmeasL_eq:∀ (l:List S36) (left d:Int), -1≤left→0≤d→(if tcntL l≤left then tmeasL l left d=(max d (tdepL l)+1,left - tcntL l) else (tmeasL l left d).2 < 0)
  | [],left,d,h,hd=>by
    unfold tcntL tmeasL tdepL
    split
    · rw [show max d 0=d from by omega,show left - 0=left from by omega]
    · simp only; omega
  | x :: xs,left,d,h,hd=>by
    have hc:=tcnt_ge x
    have hl:=tcntL_ge xs
    unfold tcntL tmeasL tdepL
    by_cases hn:left < 0
    · rw [if_pos hn,if_neg (by omega)]; exact hn
    · rw [if_neg hn]
      have h1:=tmeas_eq x left (by omega)
      have hb:=tmeas_bd x left (by omega)
      have h2:=tmeasL_eq xs (tmeas x left).2 (mx d (tmeas x left).1) (by omega) (by rw [mx_max]; omega)
      split at h1
      · rw [h1] at h2
        simp only at h2
        rw [h1]
        simp only
        split at h2
        · rw [if_pos (by omega),h2,mx_max,show max (max d (tdep x)) (tdepL xs)=max d (max (tdep x) (tdepL xs)) from by omega,show left - tcnt x - tcntL xs=left - (tcnt x+tcntL xs) from by omega]
        · rw [if_neg (by omega)]; exact h2
      · rw [if_neg (by omega)]
        rw [if_neg (by omega)] at h2
        exact h2
end
def big (x:S36):Bool:=decide (400 < tcnt x) || decide (30 < tdep x)
theorem szT_big (x:S36):(decide (400 < (szT x).1) || decide (30 < (szT x).2))=big x:=by
  have h:=tmeas_eq x 100000 (by omega)
  unfold szT big
  by_cases hc:tcnt x≤100000
  · rw [if_pos hc] at h
    rw [h]
    simp only
    rw [if_neg (by omega)]
    simp only
    rw [show 100000 - (100000 - tcnt x)=tcnt x from by omega]
  · rw [if_neg hc] at h
    rw [if_pos h]
    rw [decide_eq_true (by omega:(400:Int) < 100001),decide_eq_true (by omega:400 < tcnt x)]
    rfl
theorem tnodes_ev (N:Nat):∀ (a b:Int) (l:List S36) (most:Int),SizeOf.sizeOf l < N→0≤most→most≤100000→Ev (fun k=>virgationref02_Nodes.f k a b l most) (min (1+tcntL l) (most+1)):=by
  induction N with
  | zero=>intro a b l most h; omega
  | succ N ih =>
  intro a b l most hN h0 h1
  have loop:∀ (n i:Nat) (x5:Int),l.length - i=n→i≤l.length→1≤x5→x5≤most+1→(i:Int)≤x5→Ev (fun k=>virgationref02_Nodes.l0 k most x5 (i:Int) a b l) (min (x5+tcntL (l.drop i)) (most+1)):=by
    intro n
    induction n with
    | zero =>
      intro i x5 hn hi h2 h3 h4
      have hd:l.drop i=[]:=List.drop_eq_nil_of_le (by omega)
      rw [hd,show min (x5+tcntL []) (most+1)=x5 from by unfold tcntL; omega]
      exact Ev.step (fun k=>by rw [virgationref02_Nodes.l0,if_neg (by omega)]) (Ev.now _)
    | succ n ihn =>
      intro i x5 hn hi h2 h3 h4
      have hil:i < l.length:=by omega
      have hc:=tcntL_ge (l.drop (i+1))
      have hx:=tcntL_ge (rd_T36 l (i:Int)).f2
      by_cases hm:x5≤most
      · refine Ev.step (fun k=>by rw [virgationref02_Nodes.l0,if_pos (by omega),if_pos hm,if_pos (by omega)]) ?_
        refine Ev.bind (a:=min (1+tcntL (rd_T36 l (i:Int)).f2) (most - x5+1)) ?_ ?_
        · rw [w64 (most - x5) (by omega)]
          exact ih _ _ _ _ (by have:=rd_T36_mem l i hil; omega) (by omega) (by omega)
        · rw [w64 _ (by omega),w64 _ (by omega)]
          have:=ihn (i+1) (x5+min (1+tcntL (rd_T36 l (i:Int)).f2) (most - x5+1)) (by omega) (by omega) (by omega) (by omega) (by omega)
          rw [tdrop_cnt l i hil]
          rw [show ((i+1:Nat):Int)=(i:Int)+1 from rfl] at this
          rw [show min (x5+(1+tcntL (rd_T36 l (i:Int)).f2+tcntL (l.drop (i+1)))) (most+1)=min (x5+min (1+tcntL (rd_T36 l (i:Int)).f2) (most - x5+1)+tcntL (l.drop (i+1))) (most+1) from by omega]
          exact this
      · rw [show min (x5+tcntL (l.drop i)) (most+1)=x5 from by have:=tcntL_ge (l.drop i); omega]
        exact Ev.step (fun k=>by rw [virgationref02_Nodes.l0,if_pos (by omega),if_neg hm]) (Ev.now _)
  refine Ev.step (fun k=>by rw [virgationref02_Nodes.f]) ?_
  have:=loop l.length 0 1 (by omega) (by omega) (by omega) (by omega) (by omega)
  rw [List.drop_zero] at this
  exact this
theorem tdepth_ev (N:Nat):∀ (a b:Int) (l:List S36),SizeOf.sizeOf l < N→tcntL l≤1000→Ev (fun k=>virgationref02_Depth.f k a b l) (1+tdepL l):=by
  induction N with
  | zero=>intro a b l h; omega
  | succ N ih =>
  intro a b l hN h1
  have hlen:=tcntL_ge l
  have loop:∀ (n i:Nat) (x3:Int),l.length - i=n→i≤l.length→0≤x3→x3≤1000→Ev (fun k=>virgationref02_Depth.l0 k x3 l (l.length:Int) (i:Int)) (1+max x3 (tdepL (l.drop i))):=by
    intro n
    induction n with
    | zero =>
      intro i x3 hn hi h2 h3
      have hd:l.drop i=[]:=List.drop_eq_nil_of_le (by omega)
      rw [hd,show 1+max x3 (tdepL [])=x3+1 from by unfold tdepL; omega]
      exact Ev.step (fun k=>by rw [virgationref02_Depth.l0,if_neg (by omega),w64 _ (by omega)]) (Ev.now _)
    | succ n ihn =>
      intro i x3 hn hi h2 h3
      have hil:i < l.length:=by omega
      have hch:=tcnt_child l i hil
      have hdb:=tdepL_bd (rd_T36 l (i:Int)).f2
      refine Ev.step (fun k=>by rw [virgationref02_Depth.l0,if_pos (by omega),if_pos (by omega),if_pos (by omega)]) ?_
      refine Ev.bind (a:=1+tdepL (rd_T36 l (i:Int)).f2) ?_ ?_
      · exact ih _ _ _ (by have:=rd_T36_mem l i hil; omega) (by omega)
      · rw [w64 _ (by omega),mx_max,tdrop_dep l i hil]
        have:=ihn (i+1) (max x3 (1+tdepL (rd_T36 l (i:Int)).f2)) (by omega) (by omega) (by omega) (by omega)
        rw [show ((i+1:Nat):Int)=(i:Int)+1 from rfl] at this
        rw [show 1+max x3 (max (1+tdepL (rd_T36 l (i:Int)).f2) (tdepL (l.drop (i+1))))=1+max (max x3 (1+tdepL (rd_T36 l (i:Int)).f2)) (tdepL (l.drop (i+1))) from by omega]
        exact this
  refine Ev.step (fun k=>by rw [virgationref02_Depth.f]) ?_
  have:=loop l.length 0 0 (by omega) (by omega) (by omega) (by omega)
  rw [List.drop_zero,show max 0 (tdepL l)=tdepL l from by have:=tdepL_bd l; omega] at this
  exact this
end Go.Proofs.Ytkgknidogelffaa.I
namespace Go.Proofs.Ytkgknidogelffaa.I
open Go.RowKit Go.Proofs.YtkgknidogelffaaW.PrintWords Go.Proofs.YtkgknidogelffaaW.PrintLast Go.Proofs.YtkgknidogelffaaW.PrintMore
attribute [local go_sem] max2_int min2_int max_two min_two max_three min_three max_four min_four
set_option linter.unusedVariables false
set_option maxRecDepth 100000
set_option linter.unusedSimpArgs false
def HoldX (p:Prop):Prop:=p
theorem holdX {p:Prop} (h:HoldX p):p:=h
def hdF (sy:List S84) (fu pa:List S39) (k n:Int):Option (List S39) :=
  if n < 0 then none else if k=0 then (if n < (pa.length:Int) then some (rd_T39 pa n).f0 else none) else if k=1 then (if n < (fu.length:Int) then some (rd_T39 fu n).f0 else none) else if k=2 then (if n < (sy.length:Int) then some (List.replicate (rd_T84 sy n).f1.toNat z39) else none) else none
theorem infoS39:(Try.prog.info? 39).map (fun i=>(i.zero,i.size,i.bytes))=some (some (.agg #[.slice none 0 0]),1,24):=by kernel_rfl
theorem make_sorts (n:Nat) (hn:n≤1000000):∃ ob:Obj,(∀ w:World,(Instr.makeSlice 37 (.int .i64 (n:Int)) (.int .i64 (n:Int))).run Try.prog w=.ok (.slice (some ⟨w.heap.size,0,none⟩) n n) (w.alloc ob)) ∧
    (∀ (w:World) (b:Nat),b≤w.heap.size→Kd.R k39 39 (w.alloc ob) b (fun k=>w.heap.size≤k) (.slice (some ⟨w.heap.size,0,none⟩) n n) (List.replicate n z39)):=by
  obtain ⟨i0,hi,hzz⟩:=Option.map_eq_some_iff.1 infoS39
  simp only [Prod.mk.injEq] at hzz
  obtain ⟨hz0,hz1,hz2⟩:=hzz
  refine ⟨.cells (madeCells (Value.agg #[.slice none 0 0]).cells (n*1)) 39,fun w=>?_,fun w b hb=>?_⟩
  · have h:=run_make (P:=Try.prog) (w:=w) 37 39 i0 (.agg #[.slice none 0 0]) Try.underlying37 hi hz0 .i64 .i64 (n:Int) (n:Int) (by omega) (by omega) (by rw [hz2]; omega) (by omega)
    rw [hz1,Int.toNat_natCast] at h
    exact h
  · have hr:Reps (k39.M w b (fun _=>False)) k39.sz (List.replicate n z39) (madeCells (Value.agg #[.slice none 0 0]).cells (n*1)).toList:=Kd.reps_made (R:=k39.M w b (fun _=>False)) (z:=.agg #[.slice none 0 0]) (size:=1) (z0:=z39) rfl (by decide) (k39_mkM w b _ z39 (Kd.R_nil _ _ _ _ _)) n
    have h:=OwnRow.lit (e:=39) w b (hr.imp_ (R':=k39.M (w.alloc (.cells (madeCells (Value.agg #[.slice none 0 0]).cells (n*1)) 39)) b (fun k=>w.heap.size≤k∧some k≠(Value.slice (some ⟨w.heap.size,0,none⟩) n n).ownBlock)) (fun p c hp=>k39.M_mono (fun _ hk=>hk.elim) (Kd.M_below hp (bal (Below.refl _ _) _)))) hb (by rw [List.length_replicate]; omega)
    rw [List.length_replicate] at h
    refine ⟨fun k hk=>?_,?_⟩
    · have:w.heap.size=k:=by simpa [Value.ownBlock] using hk
      omega
    · simpa using h
theorem V_at41 {w:World} {B n c:Nat} {P:Nat→Prop} {A:Option Addr} {l:List S39} (h:Kd.V k39 39 w B P (.slice A n c) l) {i:Int} (h0:0≤i) (h1:i < (n:Int)) :
    ∃ ad A' c',A=some ad∧w.cell? (ad.add i.toNat)=some (.slice A' (rd_T39 l i).f0.length c')∧Kd.V k39 39 w B P (.slice A' (rd_T39 l i).f0.length c') (rd_T39 l i).f0:=by
  obtain ⟨ad,A',c',rfl,hx,hl,hi⟩:=at_T39 (Kd.V_reads' h).2.2 i h0 (by have:=(Kd.V_reads' h).1; omega)
  obtain ⟨ce,hce,hM,hcc⟩:=Kd.V_get h z39 i h0 h1
  obtain ⟨A2,c2,rfl,l2,g2⟩:=k39_openF hM
  have hv:=hcc 0 _ rfl
  rw [Nat.add_zero,show (k39).sz=1 from rfl,Nat.mul_one] at hv
  have e:=Option.some.inj (hv.symm.trans hx)
  injection e with ea _ ec
  rw [ea] at g2
  rw [ec] at l2
  exact ⟨ad,A',c',rfl,hx,Kd.V_mk l2 g2⟩
set_option maxHeartbeats 8000000 in
theorem head_calls (P:Nat→Prop) (A0:Option Addr) (c0:Nat) (l0:List S84) (A1:Option Addr) (c1:Nat) (l1:List S39) (A2:Option Addr) (c2:Nat) (l2:List S39) (k n:Int) (u:Value) (w:World) (hu:u.oneCell'=true)
    (hr0:Kd.C k84 w A0 l0.length l0) (h1:Kd.V k39 39 w w.heap.size P (.slice A1 l1.length c1) l1) (h2:Kd.V k39 39 w w.heap.size P (.slice A2 l2.length c2) l2) (hrk:∀ x ∈ l0,0≤x.f1∧x.f1≤1000000) :
    Calls Try.prog 48 #[.agg #[.slice A0 l0.length c0,.slice A1 l1.length c1,.slice A2 l2.length c2],.agg #[.int .i64 k,.int .i64 n,u]] w fun e w'=>∃ v,e=.returned (.tuple #[.agg #[v],.bool (hdF l0 l1 l2 k n).isSome])∧Kd.V k39 39 w' w.heap.size (fun q=>P q∨w.heap.size≤q) v ((hdF l0 l1 l2 k n).getD [])∧Below w.heap.size w w':=by
  have hu74:=Try.underlying74
  have hu36:=Try.underlying36
  have hu39:=Try.underlying39
  have hu84:=Try.underlying84
  have HR0:=Az.mk hr0
  have H1:=Az.mk (Kd.V_bound h1)
  have H2:=Az.mk (Kd.V_bound h2)
  have HK:=Az.mk hrk
  clear hr0 h1 h2 hrk
  go_enter Try.func48,Try.ntmps48
  go_wp2_with (first
   | ((with_reducible refine gate_dst (N:=2) rfl ?_)
      refine box_event ?hg (N:=2) ?hd (cs:=#[.slice A0 l0.length c0,.slice A1 l1.length c1,.slice A2 l2.length c2]) (t:=74) ?hr ?_
      (case hd=>rfl)
      (case hg=>rfl)
      (case hr=>first | (go_simp; done) | (go_simp; rfl))
      intro g2 hg2 w2 hbox hb2
      have S22:=Az.mk hbox
      have HB2:=Az.mk hb2
      have hw2:w.heap.size≤g2:=by omega
      clear hbox hb2 hg2)
   | ((with_reducible refine gate_dst (N:=3) rfl ?_)
      refine box_event ?hg (N:=3) ?hd (cs:=#[.int .i64 k,.int .i64 n,u]) (t:=36) ?hr ?_
      (case hd=>rfl)
      (case hg=>rfl)
      (case hr=>first | (go_simp; done) | (go_simp; rfl))
      intro g3 hg3 w3 hbox hb3
      have hn32:g3≠g2:=by have:=blk_lt S22.out; omega
      have hw3:w.heap.size≤g3:=by have:=HB2.out.size; omega
      have S23:=Az.mk (bkB S22.out hb3)
      have S33:=Az.mk hbox
      have HB3:=Az.mk (bst HB2.out hb3)
      clear hbox hb3 hg3 S22 HB2)
   | ((with_reducible refine gate_dst (N:=4) rfl ?_)
      refine box_event ?hg (N:=4) ?hd (cs:=#[.slice none 0 0]) (t:=39) ?hr ?_
      (case hd=>rfl)
      (case hg=>rfl)
      (case hr=>first | (go_simp; done) | (go_simp; rfl))
      intro g4 hg4 w4 hbox hb4
      have hn42:g4≠g2:=by have:=blk_lt S23.out; omega
      have hn43:g4≠g3:=by have:=blk_lt S33.out; omega
      have hw4:w.heap.size≤g4:=by have:=HB3.out.size; omega
      have S24:=Az.mk (bkB S23.out hb4)
      have S34:=Az.mk (bkB S33.out hb4)
      have S44:=Az.mk hbox
      have HB4:=Az.mk (bst HB3.out hb4)
      have hlt4:g4 < w4.heap.size:=blk_lt hbox
      clear hbox hb4 hg4 S23 S33 HB3
      refine holdX ?_))
  unfold HoldX
  have HR4:=Az.mk (Kd.C_below HR0.out HB4.out)
  have V1:=Az.mk (Kd.V_below H1.out HB4.out)
  have V2:=Az.mk (Kd.V_below H2.out HB4.out)
  have a0:w4.cell? ⟨g2,0,none⟩=some (.slice A0 l0.length c0):=(blk_cell S24.out 0).trans rfl
  have a1:w4.cell? ⟨g2,1,none⟩=some (.slice A1 l1.length c1):=(blk_cell S24.out 1).trans rfl
  have a2:w4.cell? ⟨g2,2,none⟩=some (.slice A2 l2.length c2):=(blk_cell S24.out 2).trans rfl
  have b0:w4.cell? ⟨g3,0,none⟩=some (.int .i64 k):=(blk_cell S34.out 0).trans rfl
  have b1:w4.cell? ⟨g3,1,none⟩=some (.int .i64 n):=(blk_cell S34.out 1).trans rfl
  have d0:w4.cell? ⟨g4,0,none⟩=some (.slice none 0 0):=(blk_cell S44.out 0).trans rfl
  have df:=bkF S44.out 0
  have fin:∀ (v:Value) (l:List S39) (wq:World),Below w.heap.size w wq→wq.heap[g4]?=some (.cells #[.slice none 0 0] 39 (0,0))→Kd.V k39 39 wq w.heap.size (fun q=>(P q∨w.heap.size≤q)∧q≠g4) v l→Kd.V k39 39 (wq.setCell ⟨g4,0,none⟩ v) w.heap.size (fun q=>P q∨w.heap.size≤q) v l∧Below w.heap.size w (wq.setCell ⟨g4,0,none⟩ v):=fun v l wq hb hc hv=>⟨Kd.V_mono (Kd.V_far (p:=⟨g4,0,none⟩) hv (fun _ hk=>hk.2) v) (fun _ hk=>hk.1),bset (g:=g4) (j:=0) hb hw4⟩
  have nilV:Kd.V k39 39 w4 w.heap.size (fun q=>(P q∨w.heap.size≤q)∧q≠g4) (.slice none 0 0) ([]:List S39):=Kd.V_nil _ _ _ _ _
  by_cases q1:n < 0
  · have b:decide (n < 0)=true:=decide_eq_true q1
    have e:hdF l0 l1 l2 k n=none:=by unfold hdF; rw [if_pos q1]
    go_wp2_with fail
    refine bodyPost_ret (results_ct rfl _ _ g4 39 #[.slice none 0 0] (0,0) _ rfl (blk_put (cs':=#[.slice none 0 0]) S44.out 0 _ rfl) Try.underlying39 rfl (by kernel_rfl)) rfl ?_
    try rw [e]
    exact ⟨_,rfl,fin _ _ _ HB4.out S44.out nilV⟩
  have bn:decide (n < 0)=false:=decide_eq_false q1
  have pn:(0≤n)=True:=eq_true (by omega)
  by_cases q2:k=0
  · subst q2
    by_cases q3:n < (l2.length:Int)
    · have b:decide (n < (l2.length:Int))=true:=decide_eq_true q3
      have p3:=eq_true q3
      have e:hdF l0 l1 l2 0 n=some (rd_T39 l2 n).f0:=by unfold hdF; rw [if_neg q1,if_pos rfl,if_pos q3]
      obtain ⟨ad,A',c',rfl,hx,hv⟩:=V_at41 V2.out (by omega) q3
      have HV:=Az.mk hv
      clear hv
      go_wp2_with fail
      refine bodyPost_ret (results_ct rfl _ _ g4 39 #[.slice A' (rd_T39 l2 n).f0.length c'] (0,0) _ rfl (blk_put (cs':=#[.slice A' (rd_T39 l2 n).f0.length c']) S44.out 0 _ rfl) Try.underlying39 rfl (by kernel_rfl)) rfl ?_
      try rw [e]
      exact ⟨_,rfl,fin _ _ _ HB4.out S44.out (Kd.V_mono HV.out (fun q hq=>⟨.inl hq.1,by omega⟩))⟩
    · have b:decide (n < (l2.length:Int))=false:=decide_eq_false q3
      have e:hdF l0 l1 l2 0 n=none:=by unfold hdF; rw [if_neg q1,if_pos rfl,if_neg q3]
      go_wp2_with fail
      refine bodyPost_ret (results_ct rfl _ _ g4 39 #[.slice none 0 0] (0,0) _ rfl (blk_put (cs':=#[.slice none 0 0]) S44.out 0 _ rfl) Try.underlying39 rfl (by kernel_rfl)) rfl ?_
      try rw [e]
      exact ⟨_,rfl,fin _ _ _ HB4.out S44.out nilV⟩
  have bk:(k == 0)=false:=beq_eq_false_iff_ne.2 q2
  by_cases q4:k=1
  · subst q4
    clear bk
    by_cases q3:n < (l1.length:Int)
    · have b:decide (n < (l1.length:Int))=true:=decide_eq_true q3
      have p3:=eq_true q3
      have e:hdF l0 l1 l2 1 n=some (rd_T39 l1 n).f0:=by unfold hdF; rw [if_neg q1,if_neg q2,if_pos rfl,if_pos q3]
      obtain ⟨ad,A',c',rfl,hx,hv⟩:=V_at41 V1.out (by omega) q3
      have HV:=Az.mk hv
      clear hv
      go_wp2_with fail
      refine bodyPost_ret (results_ct rfl _ _ g4 39 #[.slice A' (rd_T39 l1 n).f0.length c'] (0,0) _ rfl (blk_put (cs':=#[.slice A' (rd_T39 l1 n).f0.length c']) S44.out 0 _ rfl) Try.underlying39 rfl (by kernel_rfl)) rfl ?_
      try rw [e]
      exact ⟨_,rfl,fin _ _ _ HB4.out S44.out (Kd.V_mono HV.out (fun q hq=>⟨.inl hq.1,by omega⟩))⟩
    · have b:decide (n < (l1.length:Int))=false:=decide_eq_false q3
      have e:hdF l0 l1 l2 1 n=none:=by unfold hdF; rw [if_neg q1,if_neg q2,if_pos rfl,if_neg q3]
      go_wp2_with fail
      refine bodyPost_ret (results_ct rfl _ _ g4 39 #[.slice none 0 0] (0,0) _ rfl (blk_put (cs':=#[.slice none 0 0]) S44.out 0 _ rfl) Try.underlying39 rfl (by kernel_rfl)) rfl ?_
      try rw [e]
      exact ⟨_,rfl,fin _ _ _ HB4.out S44.out nilV⟩
  have bk1:(k == 1)=false:=beq_eq_false_iff_ne.2 q4
  by_cases q5:k=2
  · subst q5
    clear bk bk1
    by_cases q3:n < (l0.length:Int)
    · have b:decide (n < (l0.length:Int))=true:=decide_eq_true q3
      have p3:=eq_true q3
      have e:hdF l0 l1 l2 2 n=some (List.replicate (rd_T84 l0 n).f1.toNat z39):=by unfold hdF; rw [if_neg q1,if_neg q2,if_neg q4,if_pos rfl,if_pos q3]
      obtain ⟨ad,rfl,hx0,hx1⟩:=at_T84 HR4.out n (by omega) q3
      have hm:rd_T84 l0 n ∈ l0:=by
        unfold rd_T84
        rw [List.getD_eq_getElem?_getD,List.getElem?_eq_getElem (by omega:n.toNat < l0.length)]
        exact List.getElem_mem _
      obtain ⟨r0,r1⟩:=HK.out _ hm
      obtain ⟨m,hm⟩:∃ m:Nat,(rd_T84 l0 n).f1=(m:Int):=⟨(rd_T84 l0 n).f1.toNat,by omega⟩
      rw [hm] at hx1
      rw [hm,Int.toNat_natCast] at e
      obtain ⟨ob,hrun,hrow⟩:=make_sorts m (by omega)
      have HRow:=Az.mk hrow
      clear hrow
      go_wp2_with fail
      obtain ⟨x,hx⟩:∃ x:Value,x=.slice (some ⟨w4.heap.size,0,none⟩) m m:=⟨_,rfl⟩
      have hs:(w4.setCell ⟨g4,0,none⟩ x).heap.size=w4.heap.size:=World.size_setCell _ _ _
      have hrow:=HRow.out (w4.setCell ⟨g4,0,none⟩ x) w.heap.size (by rw [hs]; exact HB4.out.size)
      rw [hs,← hx] at hrow
      rw [← hx]
      refine bodyPost_ret (results_ct rfl _ _ g4 39 #[x] (0,0) _ rfl (bkA (blk_put (cs':=#[x]) S44.out 0 _ rfl) _) Try.underlying39 rfl (by kernel_rfl)) rfl ?_
      try rw [e]
      exact ⟨_,rfl,Kd.V_mono (Kd.R_V hrow) (fun q hq=>.inr (by have:=HB4.out.size; omega)),bal (bset (g:=g4) (j:=0) HB4.out hw4) _⟩
    · have b:decide (n < (l0.length:Int))=false:=decide_eq_false q3
      have e:hdF l0 l1 l2 2 n=none:=by unfold hdF; rw [if_neg q1,if_neg q2,if_neg q4,if_pos rfl,if_neg q3]
      go_wp2_with fail
      refine bodyPost_ret (results_ct rfl _ _ g4 39 #[.slice none 0 0] (0,0) _ rfl (blk_put (cs':=#[.slice none 0 0]) S44.out 0 _ rfl) Try.underlying39 rfl (by kernel_rfl)) rfl ?_
      try rw [e]
      exact ⟨_,rfl,fin _ _ _ HB4.out S44.out nilV⟩
  have bk2:(k == 2)=false:=beq_eq_false_iff_ne.2 q5
  have e:hdF l0 l1 l2 k n=none:=by unfold hdF; rw [if_neg q1,if_neg q2,if_neg q4,if_neg q5]
  go_wp2_with fail
  refine bodyPost_ret (results_ct rfl _ _ g4 39 #[.slice none 0 0] (0,0) _ rfl (blk_put (cs':=#[.slice none 0 0]) S44.out 0 _ rfl) Try.underlying39 rfl (by kernel_rfl)) rfl ?_
  try rw [e]
  exact ⟨_,rfl,fin _ _ _ HB4.out S44.out nilV⟩
end Go.Proofs.Ytkgknidogelffaa.I
namespace Go.Proofs.Ytkgknidogelffaa.I
open Go.RowKit Go.Proofs.YtkgknidogelffaaW.PrintWords Go.Proofs.YtkgknidogelffaaW.PrintLast Go.Proofs.YtkgknidogelffaaW.PrintMore
attribute [local go_sem] max2_int min2_int max_two min_two max_three min_three max_four min_four
set_option linter.unusedVariables false
set_option maxRecDepth 100000
set_option linter.unusedSimpArgs false
mutual
/-- Has it, and each sort in it, at most 8 arguments? -/
def fewS:S39→Bool
  | ⟨l⟩=>fewL l && decide (l.length≤8)
def fewL:List S39→Bool
  | []=>true
  | x :: xs=>fewS x && fewL xs
end
theorem few1_calls (l:List S39) (A:Option Addr) (c:Nat) (w:World) (hr:Kd.C k39 w A l.length l) (hc:l.length≤c) :
    Calls Try.prog 67 #[.agg #[.slice A l.length c]] w fun e w'=>e=.returned (.bool (decide (l.length≤8)))∧Below w.heap.size w w':=by
  have hu39:=Try.underlying39
  have hlen:l.length≤9223372036854775807:=hr.2.1
  have HR:=Az.mk hr
  clear hr
  go_enter Try.func67,Try.ntmps67
  have HB:=Az.mk (bal (Below.refl w.heap.size w) (.cells #[.slice A l.length c] 39))
  by_cases h8:l.length≤8
  · have h8':decide ((l.length:Int)≤8)=true:=decide_eq_true (by omega)
    have h9:decide (l.length≤8)=true:=decide_eq_true h8
    go_wp2_with fail
    go_ret
    exact ⟨by rw [h9]; rfl,HB.out⟩
  · have h8':decide ((l.length:Int)≤8)=false:=decide_eq_false (by omega)
    have h9:decide (l.length≤8)=false:=decide_eq_false h8
    go_wp2_with fail
    go_ret
    exact ⟨by rw [h9]; rfl,HB.out⟩
theorem all_calls (N:Nat):∀ (l:List S39) (A:Option Addr) (c:Nat) (w:World) (hN:SizeOf.sizeOf l < N) (hr:Kd.C k39 w A l.length l) (hc:l.length≤c),
    Calls Try.prog 66 #[.agg #[.slice A l.length c],.func (.func 67) #[] #[]] w fun e w'=>e=.returned (.bool (fewS ⟨l⟩))∧Below w.heap.size w w':=by
  induction N with
  | zero=>intro l A c w hN; omega
  | succ N ih =>
  intro l A c w hN hr hc
  have hu39:=Try.underlying39
  have hlen:l.length≤9223372036854775807:=hr.2.1
  have HR:=Az.mk hr
  have HC:=Az.mk hc
  have HN:=Az.mk hN
  have IH:=Az.mk ih
  clear hr hc hN ih
  go_enter Try.func66,Try.ntmps66
  go_wp2_with (
    (with_reducible refine gate_dst (N:=2) rfl ?_)
    refine box_event ?hg (N:=2) ?hd (cs:=#[.slice A l.length c]) (t:=39) ?hr ?_
    (case hd=>rfl)
    (case hg=>rfl)
    (case hr=>first | (go_simp; done) | (go_simp; rfl))
    intro gb hgb w2 hbox hb2
    have HB2:=Az.mk hb2
    have hcz2:w2.cell? ⟨gb,0,none⟩=some (.slice A l.length c):=(blk_cell hbox 0).trans rfl
    have Hbox:=Az.mk hbox
    clear hbox hb2 hgb)
  clear hcz2
  go_loopg [10] l.length (fun kq v10 wr=>∃ (i:Nat),v10=.int .i64 (i:Int)∧Az (kq+i=l.length)∧Az (fewL (l.drop i)=fewL l)∧Az (wr.heap[gb]?=some (.cells #[.slice A l.length c] 39 (0,0)))∧Az (Below w.heap.size w wr))
  case atStart=>exact ⟨0,rfl,⟨by omega⟩,⟨by rw [List.drop_zero]⟩,Hbox,HB2⟩
  case round =>
    clear Hbox HB2
    obtain ⟨i,rfl,Hi,Hm,Hbox,HB⟩:=hrel
    have hi:i≤l.length:=by have:=Hi.out; omega
    by_cases hlt:i < l.length
    · have hdrop:=Az.mk (rd_T39_drop l i hlt)
      have hmem:=Az.mk (rd_T39_mem l i hlt)
      obtain ⟨ad,A1,c1,he,hx1,hl1,hi1⟩:=at_T39 HR.out (i:Int) (by omega) (by omega)
      cases he
      replace hx1:=(HB.out.cell (World.block_lt_of_cell? w _ hx1)).trans hx1
      rw [Int.toNat_natCast] at hx1
      have Hl1:=Az.mk hl1
      have Hi1:=Az.mk hi1
      clear hl1 hi1
      have p1:(0≤(i:Int))=True:=eq_true (by omega)
      have p2:((i:Int) < (l.length:Int))=True:=eq_true (by omega)
      have p3:(i < l.length)=True:=eq_true (by omega)
      generalize hx:rd_T39 l (i:Int)=x at *
      have Hx:=Az.mk hx
      clear hx
      go_wp2_with (
        (with_reducible refine gate_dst (N:=6) rfl ?_)
        refine box_event ?hg (N:=6) ?hd (cs:=#[.slice none 0 0]) (t:=39) ?hr ?_
        (case hd=>rfl)
        (case hg=>rfl)
        (case hr=>first | (go_simp; done) | (go_simp; rfl))
        intro gi hgi w3 hbox3 hb3
        have hsz:=below_size HB.out
        have HB3:=Az.mk (bset (j:=0) (v:=.slice A1 x.f0.length c1) (bst HB.out hb3) (show w.heap.size≤gi by omega))
        have hne4:gb≠gi:=by have:=blk_lt Hbox.out; omega
        have Hbox3:=Az.mk (blk_far (p:=⟨gi,0,none⟩) (bkB Hbox.out hb3) hne4 (.slice A1 x.f0.length c1))
        have hci:(w3.setCell ⟨gi,0,none⟩ (.slice A1 x.f0.length c1)).cell? ⟨gi,0,none⟩=some (.slice A1 x.f0.length c1):=(blk_cell (blk_set hbox3 0 (.slice A1 x.f0.length c1)) 0).trans rfl
        have hcz:=(blk_cell hbox3 0).trans rfl
        have hfz:=bkF hbox3 0
        clear hbox3 hb3 hsz hgi HB Hbox)
      (with_reducible refine (IH.out x.f0 A1 c1 _ ?_ (Kd.C_below Hi1.out HB3.out) Hl1.out).mono ?_)
      · have:=hmem.out; have:=HN.out; omega
      rintro e w4 ⟨rfl,hB4⟩
      have HB:=Az.mk (bst HB3.out hB4)
      have Hbox:=Az.mk (bkB Hbox3.out hB4)
      clear hB4 HB3 Hbox3 hci hcz hfz
      have hxe:fewS ⟨x.f0⟩=fewS x:=by cases x; rfl
      have HM:Az (fewL l=(fewS ⟨x.f0⟩ && fewL (l.drop (i+1)))):=⟨by rw [← Hm.out,hdrop.out,fewL,hxe]⟩
      clear hxe
      cases hf:fewS ⟨x.f0⟩ with
      | false =>
        rw [hf] at HM
        have HM2:Az (fewS ⟨l⟩=false):=⟨by rw [fewS,HM.out]; simp⟩
        clear hf HM
        go_wp2_with fail
        go_ret
        exact ⟨by rw [HM2.out]; rfl,HB.out⟩
      | true =>
        rw [hf] at HM
        clear hf
        go_wp2_with fail
        have hk:=Hi.out
        obtain ⟨k1,rfl⟩:∃ k1,gk=k1+1:=⟨gk - 1,by omega⟩
        go_roundg k1
        case measure=>omega
        case rel=>exact ⟨i+1,by go_num,⟨by omega⟩,⟨by rw [HM.out]; simp⟩,Hbox,HB⟩
    · have hie:i=l.length:=by omega
      have Hfew:Az (fewS ⟨l⟩=decide (l.length≤8)):=⟨by rw [fewS,← Hm.out,hie,List.drop_length,fewL]; simp⟩
      have Hie:=Az.mk hie
      clear hie
      have hcz2:wr.cell? ⟨gb,0,none⟩=some (.slice A l.length c):=(blk_cell Hbox.out 0).trans rfl
      go_wp2_with fail
      (with_reducible refine (few1_calls l A c _ (Kd.C_below HR.out HB.out) HC.out).mono ?_)
      rintro e w4 ⟨rfl,hB4⟩
      have HB4:=Az.mk (bst HB.out hB4)
      clear hB4
      go_wp2_with fail
      go_ret
      exact ⟨by rw [Hfew.out]; rfl,HB4.out⟩
def sorts_Check.f (l0_0:List S39):Option Int:=some (if (meas ⟨l0_0⟩ 60).2 < 0∨(meas ⟨l0_0⟩ 60).1 > 30∨fewS ⟨l0_0⟩=false then 6 else 0)
theorem sorts_Check.calls (A0_0:Option Addr) (c0_0:Nat) (l0_0:List S39) (r:Int) (w:World) (hr0_0:Kd.C k39 w A0_0 l0_0.length l0_0) (hc0_0:l0_0.length≤c0_0) (h:sorts_Check.f l0_0=some r) :
    Calls Try.prog 54 #[.agg #[.slice A0_0 l0_0.length c0_0]] w fun e w'=>e=.returned (.int .i64 r)∧Below w.heap.size w w':=by
  have hu39:=Try.underlying39
  have HR:=Az.mk hr0_0
  have HC:=Az.mk hc0_0
  have HBD:=Az.mk (meas_bd ⟨l0_0⟩ 60 (by omega))
  obtain ⟨n1,n2,hS⟩:∃ n1 n2,sorts_Size.f l0_0=some (n1,n2):=⟨_,_,rfl⟩
  have HS:=Az.mk hS
  have HSC:Az ((n1 > 60∨n2 > 30∨fewS ⟨l0_0⟩=false) ↔ ((meas ⟨l0_0⟩ 60).2 < 0∨(meas ⟨l0_0⟩ 60).1 > 30∨fewS ⟨l0_0⟩=false)):=⟨by
    have hb:=HBD.out
    unfold sorts_Size.f at hS
    by_cases hneg:(meas ⟨l0_0⟩ 60).2 < 0
    · simp only [if_pos hneg,Option.some.injEq,Prod.mk.injEq] at hS
      obtain ⟨rfl,rfl⟩:=hS
      exact ⟨fun _=>.inl hneg,fun _=>.inl (by omega)⟩
    · simp only [if_neg hneg,Option.some.injEq,Prod.mk.injEq] at hS
      obtain ⟨rfl,rfl⟩:=hS
      exact ⟨fun h=>h.elim (fun h=>by omega) .inr,fun h=>h.elim (fun h=>absurd h hneg) .inr⟩⟩
  have HF:=Az.mk h
  clear h hr0_0 hc0_0 hS
  go_enter Try.func54,Try.ntmps54
  go_wp2_with (
      (with_reducible refine gate_dst (N:=1) rfl ?_)
      refine box_event ?hg (N:=1) ?hd (cs:=#[.slice A0_0 l0_0.length c0_0]) (t:=39) ?hr ?_
      (case hd=>rfl)
      (case hg=>rfl)
      (case hr=>first | (go_simp; done) | (go_simp; rfl))
      intro gb hgb w2 hbox hb2
      have HB2:=Az.mk hb2
      have Hbox:=Az.mk hbox
      have hcz2:w2.cell? ⟨gb,0,none⟩=some (.slice A0_0 l0_0.length c0_0):=(blk_cell hbox 0).trans rfl
      clear hbox hb2 hgb)
  (with_reducible refine (sorts_Size.calls A0_0 c0_0 l0_0 n1 n2 _ (Kd.C_below HR.out HB2.out) HC.out HS.out).mono ?_)
  rintro e w3 ⟨rfl,hB3⟩
  have HB3:=Az.mk (bst HB2.out hB3)
  have Hbox3:=Az.mk (bkB Hbox.out hB3)
  clear hB3 hcz2
  have hcz3:w3.cell? ⟨gb,0,none⟩=some (.slice A0_0 l0_0.length c0_0):=(blk_cell Hbox3.out 0).trans rfl
  by_cases h1:n1 > 60
  · have HR6:Az (r=6):=⟨by have e:=HF.out; rw [sorts_Check.f,if_pos (HSC.out.1 (.inl h1))] at e; injection e with e; exact e.symm⟩
    have h1b:decide (60 < n1)=true:=decide_eq_true h1
    go_wp2_with fail
    go_ret
    exact ⟨by rw [HR6.out]; rfl,HB3.out⟩
  · have h1b:decide (60 < n1)=false:=decide_eq_false h1
    by_cases h2:n2 > 30
    · have HR6:Az (r=6):=⟨by have e:=HF.out; rw [sorts_Check.f,if_pos (HSC.out.1 (.inr (.inl h2)))] at e; injection e with e; exact e.symm⟩
      have h2b:decide (30 < n2)=true:=decide_eq_true h2
      go_wp2_with fail
      go_ret
      exact ⟨by rw [HR6.out]; rfl,HB3.out⟩
    · have h2b:decide (30 < n2)=false:=decide_eq_false h2
      go_wp2_with fail
      (with_reducible refine (all_calls (SizeOf.sizeOf l0_0+1) l0_0 A0_0 c0_0 _ (by omega) (Kd.C_below HR.out HB3.out) HC.out).mono ?_)
      rintro e w4 ⟨rfl,hB4⟩
      have HB4:=Az.mk (bst HB3.out hB4)
      clear hB4
      cases hf:fewS ⟨l0_0⟩ with
      | false =>
        have HR6:Az (r=6):=⟨by have e:=HF.out; rw [sorts_Check.f,if_pos (HSC.out.1 (.inr (.inr hf)))] at e; injection e with e; exact e.symm⟩
        clear hf
        go_wp2_with fail
        go_ret
        exact ⟨by rw [HR6.out]; rfl,HB4.out⟩
      | true =>
        have HR6:Az (r=0):=⟨by have e:=HF.out; rw [sorts_Check.f,if_neg (fun h=>by rcases HSC.out.2 h with h | h | h; omega; omega; rw [hf] at h; cases h)] at e; injection e with e; exact e.symm⟩
        clear hf
        go_wp2_with fail
        go_ret
        exact ⟨by rw [HR6.out]; rfl,HB4.out⟩
end Go.Proofs.Ytkgknidogelffaa.I
namespace Go.Proofs.Ytkgknidogelffaa.I
open Go.RowKit Go.Proofs.YtkgknidogelffaaW.PrintWords Go.Proofs.YtkgknidogelffaaW.PrintLast Go.Proofs.YtkgknidogelffaaW.PrintMore
set_option linter.unusedVariables false
set_option linter.unusedSimpArgs false
mutual
def cnt:S39→Int
  | ⟨l⟩=>1+cntL l
def cntL:List S39→Int
  | []=>0
  | x :: xs=>cnt x+cntL xs
end
mutual
def dep:S39→Int
  | ⟨l⟩=>1+depL l
def depL:List S39→Int
  | []=>0
  | x :: xs=>max (dep x) (depL xs)
end
mutual
def eqS:S39→S39→Bool
  | ⟨l⟩,y=>eqL l y.f0
def eqL:List S39→List S39→Bool
  | [],m=>m.isEmpty
  | _ :: _,[]=>false
  | x :: xs,y :: ys=>eqS x y && eqL xs ys
end
mutual
theorem cnt_ge:∀ x:S39,1≤cnt x
  | ⟨l⟩=>by have:=cntL_ge l; unfold cnt; omega
theorem cntL_ge:∀ l:List S39,(l.length:Int)≤cntL l
  | []=>by simp [cntL]
  | x :: xs=>by have h1:=cnt_ge x; have h2:=cntL_ge xs; unfold cntL; simp only [List.length_cons]; omega
end
mutual
theorem dep_bd:∀ x:S39,1≤dep x∧dep x≤cnt x
  | ⟨l⟩=>by have:=depL_bd l; unfold dep cnt; omega
theorem depL_bd:∀ l:List S39,0≤depL l∧depL l≤cntL l
  | []=>by simp [depL,cntL]
  | x :: xs=>by have h1:=dep_bd x; have h2:=depL_bd xs; have h3:=cnt_ge x; have h4:=cntL_ge xs; unfold depL cntL; omega
end
mutual
theorem eqS_refl:∀ x:S39,eqS x x=true
  | ⟨l⟩=>by unfold eqS; exact eqL_refl l
theorem eqL_refl:∀ l:List S39,eqL l l=true
  | []=>rfl
  | x :: xs=>by unfold eqL; rw [eqS_refl x,eqL_refl xs]; rfl
end
theorem eqL_len:∀ (l m:List S39),eqL l m=true→l.length=m.length
  | [],[],_=>rfl
  | [],_ :: _,h=>by simp [eqL] at h
  | _ :: _,[],h=>by simp [eqL] at h
  | x :: xs,y :: ys,h=>by
    unfold eqL at h
    rw [Bool.and_eq_true] at h
    rw [List.length_cons,List.length_cons,eqL_len xs ys h.2]
theorem cnt_f0 (x:S39):cnt x=1+cntL x.f0:=by cases x; rfl
theorem dep_f0 (x:S39):dep x=1+depL x.f0:=by cases x; rfl
theorem eqS_f0 (x y:S39):eqS x y=eqL x.f0 y.f0:=by cases x; rfl
theorem fewS_f0 (x:S39):fewS x=(fewL x.f0 && decide (x.f0.length≤8)):=by cases x; rfl
theorem drop_cnt (l:List S39) (i:Nat) (h:i < l.length):cntL (l.drop i)=1+cntL (rd_T39 l (i:Int)).f0+cntL (l.drop (i+1)):=by
  rw [rd_T39_drop l i h]; show cnt _+cntL _=_; rw [cnt_f0]
theorem drop_dep (l:List S39) (i:Nat) (h:i < l.length):depL (l.drop i)=max (1+depL (rd_T39 l (i:Int)).f0) (depL (l.drop (i+1))):=by
  rw [rd_T39_drop l i h]; show max (dep _) (depL _)=_; rw [dep_f0]
theorem drop_few (l:List S39) (i:Nat) (h:i < l.length):fewL (l.drop i)=((fewL (rd_T39 l (i:Int)).f0 && decide ((rd_T39 l (i:Int)).f0.length≤8)) && fewL (l.drop (i+1))):=by
  rw [rd_T39_drop l i h]; show (fewS _ && fewL _)=_; rw [fewS_f0]
theorem drop_eq (l m:List S39) (i:Nat) (h:i < l.length) (h2:i < m.length):eqL (l.drop i) (m.drop i)=(eqL (rd_T39 l (i:Int)).f0 (rd_T39 m (i:Int)).f0 && eqL (l.drop (i+1)) (m.drop (i+1))):=by
  rw [rd_T39_drop l i h,rd_T39_drop m i h2]; show (eqS _ _ && eqL _ _)=_; rw [eqS_f0]
theorem drop_cnt_le:∀ (l:List S39) (i:Nat),cntL (l.drop i)≤cntL l
  | [],i=>by simp
  | x :: xs,0=>by simp
  | x :: xs,i+1=>by have h1:=drop_cnt_le xs i; have h2:=cnt_ge x; rw [List.drop_succ_cons]; show cntL (xs.drop i)≤cnt x+cntL xs; omega
theorem cnt_child (l:List S39) (i:Nat) (h:i < l.length):cntL (rd_T39 l (i:Int)).f0 < cntL l:=by
  have h1:=drop_cnt l i h; have h2:=drop_cnt_le l i; have h3:=cntL_ge (l.drop (i+1)); omega
mutual
theorem meas_eq:∀ (x:S39) (left:Int),0≤left→(if cnt x≤left then meas x left=(dep x,left - cnt x) else (meas x left).2 < 0)
  | ⟨l⟩,left,h=>by
    have:=measL_eq l (left - 1) 0 (by omega) (by omega)
    unfold cnt meas dep
    split at this
    · rw [if_pos (by omega),this]
      have h1:=depL_bd l
      rw [show max 0 (depL l)+1=1+depL l from by omega,show left - 1 - cntL l=left - (1+cntL l) from by omega]
    · rw [if_neg (by omega)]; exact this
theorem measL_eq:∀ (l:List S39) (left d:Int), -1≤left→0≤d→(if cntL l≤left then measL l left d=(max d (depL l)+1,left - cntL l) else (measL l left d).2 < 0)
  | [],left,d,h,hd=>by
    unfold cntL measL depL
    split
    · rw [show max d 0=d from by omega,show left - 0=left from by omega]
    · simp only; omega
  | x :: xs,left,d,h,hd=>by
    have hc:=cnt_ge x
    have hl:=cntL_ge xs
    unfold cntL measL depL
    by_cases hn:left < 0
    · rw [if_pos hn,if_neg (by omega)]; exact hn
    · rw [if_neg hn]
      have h1:=meas_eq x left (by omega)
      have hb:=meas_bd x left (by omega)
      have h2:=measL_eq xs (meas x left).2 (mx d (meas x left).1) (by omega) (by rw [mx_max]; omega)
      split at h1
      · rw [h1] at h2
        simp only at h2
        rw [h1]
        simp only
        split at h2
        · rw [if_pos (by omega),h2,mx_max,show max (max d (dep x)) (depL xs)=max d (max (dep x) (depL xs)) from by omega,show left - cnt x - cntL xs=left - (cnt x+cntL xs) from by omega]
        · rw [if_neg (by omega)]; exact h2
      · rw [if_neg (by omega)]
        rw [if_neg (by omega)] at h2
        exact h2
end
theorem size_eq (l:List S39):sorts_Size.f l=some (if 1+cntL l≤60 then (1+cntL l,1+depL l) else (61,0)):=by
  have h:=meas_eq ⟨l⟩ 60 (by omega)
  have hc:cnt ⟨l⟩=1+cntL l:=rfl
  have hd:dep ⟨l⟩=1+depL l:=rfl
  rw [hc,hd] at h
  unfold sorts_Size.f
  split at h
  · rename_i hle
    have h3:¬ (60 - (1+cntL l) < 0):=by omega
    rw [h,if_pos hle]
    simp only [if_neg h3]
    rw [show 60 - (60 - (1+cntL l))=1+cntL l from by omega]
  · rename_i hle
    rw [if_neg hle,if_pos h]
def isok (l:List S39):Bool:=decide (1+cntL l≤60) && (decide (1+depL l≤30) && fewS ⟨l⟩)
theorem check_eq (l:List S39):sorts_Check.f l=some (if isok l=true then 0 else 6):=by
  have h:=meas_eq ⟨l⟩ 60 (by omega)
  have hc:cnt ⟨l⟩=1+cntL l:=rfl
  have hd:dep ⟨l⟩=1+depL l:=rfl
  rw [hc,hd] at h
  unfold sorts_Check.f isok
  split at h
  · rename_i hle
    rw [h]
    simp only [hle,decide_true,Bool.true_and,Bool.and_eq_true,decide_eq_true_eq]
    by_cases h1:1+depL l≤30
    · cases h2:fewS ⟨l⟩
      · rw [if_pos (.inr (.inr rfl)),if_neg (by simp)]
      · rw [if_neg (by simp only [reduceCtorEq,or_false,not_or]; omega),if_pos ⟨h1,rfl⟩]
    · rw [if_pos (.inr (.inl (by omega))),if_neg (by intro hh; exact h1 hh.1)]
  · rename_i hle
    rw [if_pos (.inl h)]
    simp [hle]
theorem nodes_ev (N:Nat):∀ (l:List S39) (most:Int),SizeOf.sizeOf l < N→0≤most→most≤1000→Ev (fun k=>virgationref01_Nodes.f k l most) (min (1+cntL l) (most+1)):=by
  induction N with
  | zero=>intro l most h; omega
  | succ N ih =>
  intro l most hN h0 h1
  have loop:∀ (n i:Nat) (x5:Int),l.length - i=n→i≤l.length→1≤x5→x5≤most+1→(i:Int)≤x5→Ev (fun k=>virgationref01_Nodes.l0 k most x5 (i:Int) l) (min (x5+cntL (l.drop i)) (most+1)):=by
    intro n
    induction n with
    | zero =>
      intro i x5 hn hi h2 h3 h4
      have hd:l.drop i=[]:=List.drop_eq_nil_of_le (by omega)
      rw [hd,show min (x5+cntL []) (most+1)=x5 from by unfold cntL; omega]
      exact Ev.step (fun k=>by rw [virgationref01_Nodes.l0,if_neg (by omega)]) (Ev.now _)
    | succ n ihn =>
      intro i x5 hn hi h2 h3 h4
      have hil:i < l.length:=by omega
      have hc:=cntL_ge (l.drop (i+1))
      have hx:=cntL_ge (rd_T39 l (i:Int)).f0
      by_cases hm:x5≤most
      · refine Ev.step (fun k=>by rw [virgationref01_Nodes.l0,if_pos (by omega),if_pos hm,if_pos (by omega)]) ?_
        refine Ev.bind (a:=min (1+cntL (rd_T39 l (i:Int)).f0) (most - x5+1)) ?_ ?_
        · rw [w64 (most - x5) (by omega)]
          exact ih _ _ (by have:=rd_T39_mem l i hil; omega) (by omega) (by omega)
        · rw [w64 _ (by omega),w64 _ (by omega)]
          have:=ihn (i+1) (x5+min (1+cntL (rd_T39 l (i:Int)).f0) (most - x5+1)) (by omega) (by omega) (by omega) (by omega) (by omega)
          rw [drop_cnt l i hil]
          rw [show ((i+1:Nat):Int)=(i:Int)+1 from rfl] at this
          rw [show min (x5+(1+cntL (rd_T39 l (i:Int)).f0+cntL (l.drop (i+1)))) (most+1)=min (x5+min (1+cntL (rd_T39 l (i:Int)).f0) (most - x5+1)+cntL (l.drop (i+1))) (most+1) from by omega]
          exact this
      · rw [show min (x5+cntL (l.drop i)) (most+1)=x5 from by have:=cntL_ge (l.drop i); omega]
        exact Ev.step (fun k=>by rw [virgationref01_Nodes.l0,if_pos (by omega),if_neg hm]) (Ev.now _)
  refine Ev.step (fun k=>by rw [virgationref01_Nodes.f]) ?_
  have:=loop l.length 0 1 (by omega) (by omega) (by omega) (by omega) (by omega)
  rw [List.drop_zero] at this
  exact this
theorem nodes60 (l:List S39):Ev (fun k=>virgationref01_Nodes.f k l 60) (min (1+cntL l) 61):=nodes_ev _ l 60 (Nat.lt_succ_self _) (by omega) (by omega)
theorem depth_ev (N:Nat):∀ (l:List S39),SizeOf.sizeOf l < N→cntL l≤1000→Ev (fun k=>virgationref01_depth.f k l) (1+depL l):=by
  induction N with
  | zero=>intro l h; omega
  | succ N ih =>
  intro l hN h1
  have hlen:=cntL_ge l
  have loop:∀ (n i:Nat) (x3:Int),l.length - i=n→i≤l.length→0≤x3→x3≤1000→Ev (fun k=>virgationref01_depth.l0 k x3 l (l.length:Int) (i:Int)) (1+max x3 (depL (l.drop i))):=by
    intro n
    induction n with
    | zero =>
      intro i x3 hn hi h2 h3
      have hd:l.drop i=[]:=List.drop_eq_nil_of_le (by omega)
      rw [hd,show 1+max x3 (depL [])=x3+1 from by unfold depL; omega]
      exact Ev.step (fun k=>by rw [virgationref01_depth.l0,if_neg (by omega),w64 _ (by omega)]) (Ev.now _)
    | succ n ihn =>
      intro i x3 hn hi h2 h3
      have hil:i < l.length:=by omega
      have hch:=cnt_child l i hil
      have hdb:=depL_bd (rd_T39 l (i:Int)).f0
      refine Ev.step (fun k=>by rw [virgationref01_depth.l0,if_pos (by omega),if_pos (by omega),if_pos (by omega)]) ?_
      refine Ev.bind (a:=1+depL (rd_T39 l (i:Int)).f0) ?_ ?_
      · exact ih _ (by have:=rd_T39_mem l i hil; omega) (by omega)
      · rw [w64 _ (by omega),mx_max,drop_dep l i hil]
        have:=ihn (i+1) (max x3 (1+depL (rd_T39 l (i:Int)).f0)) (by omega) (by omega) (by omega) (by omega)
        rw [show ((i+1:Nat):Int)=(i:Int)+1 from rfl] at this
        rw [show 1+max x3 (max (1+depL (rd_T39 l (i:Int)).f0) (depL (l.drop (i+1))))=1+max (max x3 (1+depL (rd_T39 l (i:Int)).f0)) (depL (l.drop (i+1))) from by omega]
        exact this
  refine Ev.step (fun k=>by rw [virgationref01_depth.f]) ?_
  have:=loop l.length 0 0 (by omega) (by omega) (by omega) (by omega)
  rw [List.drop_zero,show max 0 (depL l)=depL l from by have:=depL_bd l; omega] at this
  exact this
theorem depth60 {l:List S39} (h:cntL l≤60):Ev (fun k=>virgationref01_depth.f k l) (1+depL l):=depth_ev _ l (Nat.lt_succ_self _) (by omega)
theorem few_ev (N:Nat):∀ (l:List S39),SizeOf.sizeOf l < N→cntL l≤1000→Ev (fun k=>virgationref01_few.f k l) (fewS ⟨l⟩):=by
  induction N with
  | zero=>intro l h; omega
  | succ N ih =>
  intro l hN h1
  have hlen:=cntL_ge l
  have loop:∀ (n i:Nat),l.length - i=n→i≤l.length→Ev (fun k=>virgationref01_few.l0 k l (l.length:Int) (i:Int) l) (fewL (l.drop i) && decide (l.length≤8)):=by
    intro n
    induction n with
    | zero =>
      intro i hn hi
      have hd:l.drop i=[]:=List.drop_eq_nil_of_le (by omega)
      rw [hd,show (fewL [] && decide (l.length≤8))=decide ((l.length:Int)≤8) from by show (true && _)=_; rw [Bool.true_and]; exact decide_eq_decide.2 (by omega)]
      exact Ev.step (fun k=>by rw [virgationref01_few.l0,if_neg (by omega)]) (Ev.now _)
    | succ n ihn =>
      intro i hn hi
      have hil:i < l.length:=by omega
      have hch:=cnt_child l i hil
      refine Ev.step (fun k=>by rw [virgationref01_few.l0,if_pos (by omega),if_pos (by omega),if_pos (by omega)]) ?_
      refine Ev.bind (a:=fewS ⟨(rd_T39 l (i:Int)).f0⟩) ?_ ?_
      · exact ih _ (by have:=rd_T39_mem l i hil; omega) (by omega)
      · have e:fewS ⟨(rd_T39 l (i:Int)).f0⟩=(fewL (rd_T39 l (i:Int)).f0 && decide ((rd_T39 l (i:Int)).f0.length≤8)):=rfl
        rw [drop_few l i hil,← e]
        cases hb:fewS ⟨(rd_T39 l (i:Int)).f0⟩
        · exact Ev.now _
        · have:=ihn (i+1) (by omega) (by omega)
          rw [show ((i+1:Nat):Int)=(i:Int)+1 from rfl] at this
          rw [w64 _ (by omega)]
          exact this
  refine Ev.step (fun k=>by rw [virgationref01_few.f]) ?_
  have:=loop l.length 0 (by omega) (by omega)
  rw [List.drop_zero] at this
  exact this
theorem is_ev (l:List S39):Ev (fun k=>virgationref01_Is.f k l) (isok l):=by
  unfold virgationref01_Is.f isok
  refine Ev.bind (nodes60 l) ?_
  by_cases h:1+cntL l≤60
  · refine Ev.ifp (by omega) ?_
    refine Ev.bind (depth60 (by omega)) ?_
    by_cases h2:1+depL l≤30
    · refine Ev.ifp h2 ?_
      refine Ev.bind (few_ev _ l (Nat.lt_succ_self _) (by omega)) ?_
      simp only [h,h2,decide_true,Bool.true_and]
      exact Ev.now _
    · refine Ev.ifn h2 ?_
      simp only [h,h2,decide_true,decide_false,Bool.true_and,Bool.false_and]
      exact Ev.now _
  · refine Ev.ifn (by omega) ?_
    simp only [h,decide_false,Bool.false_and]
    exact Ev.now _
theorem isok_cnt {l:List S39} (h:isok l=true):cntL l≤59:=by
  unfold isok at h
  rw [Bool.and_eq_true,decide_eq_true_eq] at h
  omega
end Go.Proofs.Ytkgknidogelffaa.I
namespace Go.Proofs.Ytkgknidogelffaa.I
open Go.RowKit Go.Proofs.YtkgknidogelffaaW.PrintWords Go.Proofs.YtkgknidogelffaaW.PrintLast Go.Proofs.YtkgknidogelffaaW.PrintMore
theorem k36_heap:Kd.Heap k36:=Kd.heap_fix (fun _ h_=>Kd.heap_iso _ (Kd.heap_pair (Kd.heap_int .i64) (Kd.heap_pair (Kd.heap_int .i64) (Kd.heap_slice 36 h_))))
theorem k39_heap:Kd.Heap k39:=Kd.heap_fix (fun _ h_=>Kd.heap_iso _ (Kd.heap_slice 39 h_))
theorem cell_up {w w1:World} {p:Addr} {v:Value} (hb:Below w.heap.size w w1) (h:w.cell? p=some v):w1.cell? p=some v:=(hb.cell (World.block_lt_of_cell? w p h)).trans h
theorem blk_type {w:World} {k q t:Nat} {c c':Array Value} (h:w.heap[k]?=some (.cells c q (0,0))) (h':w.heap[k]?=some (.cells c' t (0,0))):q=t:=by
  have:=h.symm.trans h'
  injection this with this
  injection this
end Go.Proofs.Ytkgknidogelffaa.I
namespace Go.Proofs.Ytkgknidogelffaa.I
open Go.RowKit Go.Proofs.YtkgknidogelffaaW.PrintWords Go.Proofs.YtkgknidogelffaaW.PrintLast Go.Proofs.YtkgknidogelffaaW.PrintMore
attribute [local go_sem] max2_int min2_int max_two min_two max_three min_three max_four min_four
set_option linter.unusedVariables false
set_option maxRecDepth 100000
set_option linter.unusedSimpArgs false
set_option maxHeartbeats 8000000 in
theorem seq86 (N:Nat):∀ (l m:List S39) (A A':Option Addr) (c c':Nat) (w:World),SizeOf.sizeOf l < N→Kd.C k39 w A l.length l→l.length≤c→Kd.C k39 w A' m.length m→m.length≤c' →
    Calls Try.prog 80 #[.agg #[.slice A l.length c],.agg #[.slice A' m.length c']] w fun e w'=>e=.returned (.bool (eqL l m))∧Below w.heap.size w w':=by
  have hu39:=Try.underlying39
  have hu37:=Try.underlying37
  induction N with
  | zero=>intro l m A A' c c' w hN; omega
  | succ N ih =>
  intro l m A A' c c' w hN hr hc hr' hc'
  have hlen:l.length≤9223372036854775807:=hr.2.1
  have hlen':m.length≤9223372036854775807:=hr'.2.1
  have HR:=Az.mk hr
  have HR':=Az.mk hr'
  have HN:=Az.mk hN
  have IH:=Az.mk ih
  clear hr hc hr' hc' hN ih
  obtain ⟨r,hr⟩:∃ r,r=eqL l m:=⟨_,rfl⟩
  rw [← hr]
  have HE:=Az.mk hr
  clear hr
  go_enter Try.func80,Try.ntmps80
  by_cases hlm:l.length=m.length
  rotate_left
  · have hf:r=false:=by
      rw [HE.out]
      cases h:eqL l m with
      | false=>rfl
      | true=>exact absurd (eqL_len l m h) hlm
    have q1:((l.length:Int)=(m.length:Int))=False:=eq_false (by omega)
    have q2:(l.length=m.length)=False:=eq_false hlm
    have b1:((l.length:Int) != (m.length:Int))=true:=bne_iff_ne.2 (by omega)
    have b2:((l.length:Int) == (m.length:Int))=false:=beq_eq_false_iff_ne.2 (by omega)
    have b3:(l.length == m.length)=false:=beq_eq_false_iff_ne.2 hlm
    subst hf
    clear hlm HE
    go_wp2_with (first
      | ((with_reducible refine gate_dst (N:=2) rfl ?_)
         refine box_event ?hg (N:=2) ?hd (cs:=#[.slice A l.length c]) (t:=39) ?hr ?_
         (case hd=>rfl)
         (case hg=>rfl)
         (case hr=>first | (go_simp; done) | (go_simp; rfl))
         intro g2 hg2 w2 hbox hbb
         have S2:=Az.mk hbox
         have HB2:=Az.mk hbb
         clear hbox hbb hg2)
      | ((with_reducible refine gate_dst (N:=3) rfl ?_)
         refine box_event ?hg (N:=3) ?hd (cs:=#[.slice A' m.length c']) (t:=39) ?hr ?_
         (case hd=>rfl)
         (case hg=>rfl)
         (case hr=>first | (go_simp; done) | (go_simp; rfl))
         intro g3 hg3 w3 hbox hbb
         have HB3:=Az.mk (bst HB2.out hbb)
         have a0:w3.cell? ⟨g2,0,none⟩=some (.slice A l.length c):=(blk_cell (bkB S2.out hbb) 0).trans rfl
         have b0:w3.cell? ⟨g3,0,none⟩=some (.slice A' m.length c'):=(blk_cell hbox 0).trans rfl
         clear hbox hbb hg3))
    go_ret
    exact ⟨rfl,HB3.out⟩
  have HLM:=Az.mk hlm
  rw [← hlm] at hlen' ⊢
  clear hlm
  go_wp2_with (first
    | ((with_reducible refine gate_dst (N:=2) rfl ?_)
       refine box_event ?hg (N:=2) ?hd (cs:=#[.slice A l.length c]) (t:=39) ?hr ?_
       (case hd=>rfl)
       (case hg=>rfl)
       (case hr=>first | (go_simp; done) | (go_simp; rfl))
       intro g2 hg2 w2 hbox hbb
       have S2:=Az.mk hbox
       have HB2:=Az.mk hbb
       clear hbox hbb hg2)
    | ((with_reducible refine gate_dst (N:=3) rfl ?_)
       refine box_event ?hg (N:=3) ?hd (cs:=#[.slice A' l.length c']) (t:=39) ?hr ?_
       (case hd=>rfl)
       (case hg=>rfl)
       (case hr=>first | (go_simp; done) | (go_simp; rfl))
       intro g3 hg3 w3 hbox hbb
       have S3:=Az.mk hbox
       have S23:=Az.mk (bkB S2.out hbb)
       have HB3:=Az.mk (bst HB2.out hbb)
       have a0:w3.cell? ⟨g2,0,none⟩=some (.slice A l.length c):=(blk_cell S23.out 0).trans rfl
       have b0:w3.cell? ⟨g3,0,none⟩=some (.slice A' l.length c'):=(blk_cell hbox 0).trans rfl
       clear hbox hbb hg3))
  clear a0 b0 S2 HB2
  have HQ:=Az.mk (show r=eqL (l.drop 0) (m.drop 0) from HE.out)
  clear HE
  go_loopg [16] l.length (fun kq v16 wr=>∃ i:Nat,v16=.int .i64 (i:Int)∧Az (i+kq=l.length)∧Az (r=eqL (l.drop i) (m.drop i))∧Az (Below w3.heap.size w3 wr))
  case atStart=>exact ⟨0,rfl,⟨by omega⟩,HQ,⟨Below.refl _ _⟩⟩
  case round =>
    clear HQ
    obtain ⟨i,rfl,Hi,HQ,HB⟩:=hrel
    by_cases hlt:i < l.length
    rotate_left
    · have hr:r=true:=by have:=HQ.out; rw [List.drop_of_length_le (by omega),List.drop_of_length_le (by have:=HLM.out; omega)] at this; exact this
      subst hr
      clear HQ
      go_wp2_with fail
      go_ret
      exact ⟨rfl,bst HB3.out HB.out⟩
    have HBw:=Az.mk (bst HB3.out HB.out)
    obtain ⟨ad,A4,c4,he,hx,hl4,hC4⟩:=at_T39 (Kd.C_below HR.out HBw.out) (i:Int) (by omega) (by omega)
    cases he
    obtain ⟨ad',A5,c5,he,hy,hl5,hC5⟩:=at_T39 (Kd.C_below HR'.out HBw.out) (i:Int) (by omega) (by have:=HLM.out; omega)
    cases he
    rw [Int.toNat_natCast] at hx hy
    have HC4:=Az.mk hC4
    have Hl4:=Az.mk hl4
    have HC5:=Az.mk hC5
    have Hl5:=Az.mk hl5
    have HSZ:=Az.mk (show SizeOf.sizeOf (rd_T39 l (i:Int)).f0 < N from by have:=rd_T39_mem l i hlt; have:=HN.out; omega)
    have HQ2:=Az.mk (HQ.out.trans (drop_eq l m i hlt (by have:=HLM.out; omega)))
    have q1:(0≤(i:Int))=True:=eq_true (by omega)
    have q2:((i:Int) < (l.length:Int))=True:=eq_true (by omega)
    have q3:(i < l.length)=True:=eq_true (by omega)
    clear hl4 hC4 hl5 hC5 HQ
    generalize (rd_T39 l (i:Int)).f0=x at *
    generalize (rd_T39 m (i:Int)).f0=y at *
    have a2:wr.cell? ⟨g2,0,none⟩=some (.slice (some ad) l.length c):=(blk_cell (bkB S23.out HB.out) 0).trans rfl
    have b2:wr.cell? ⟨g3,0,none⟩=some (.slice (some ad') l.length c'):=(blk_cell (bkB S3.out HB.out) 0).trans rfl
    go_upto_region 6 with fail
    try simp only [Act.put,List.setIfInBounds_toArray,List.set_cons_succ,List.set_cons_zero]
    go_cut [30] from 19 to 30 (fun v30 wc=>v30=.bool (!(eqL x y))∧Az (Below w3.heap.size w3 wc))
    case first =>
      go_region_held3 (fun w'=>w'.cell? ⟨g2,0,none⟩=some (.slice (some ad) l.length c)∧w'.cell? ⟨g3,0,none⟩=some (.slice (some ad') l.length c')∧w'.cell? (ad.add i)=some (.slice A4 x.length c4)∧w'.cell? (ad'.add i)=some (.slice A5 y.length c5)) (go_keep)
        (first
          | (go_at_call 80
             (with_reducible refine (IH.out x y A4 A5 c4 c5 _ HSZ.out (Kd.C_below HC4.out (below_drew (Below.refl _ _))) Hl4.out (Kd.C_below HC5.out (below_drew (Below.refl _ _))) Hl5.out).mono ?_)
             rintro e9 wA ⟨rfl,hbA⟩
             have HBA:=Az.mk (bst (below_drew HB.out) hbA)
             have z0:=cell_up hbA (show wr.drew.cell? _=_ from a2)
             have z1:=cell_up hbA (show wr.drew.cell? _=_ from b2)
             have z2:=cell_up hbA (show wr.drew.cell? _=_ from hx)
             have z3:=cell_up hbA (show wr.drew.cell? _=_ from hy)
             clear hbA))
      all_goals (go_wp2_with fail; go_meet; exact ⟨rfl,HBA⟩)
    case rest =>
      obtain ⟨rfl,HBc⟩:=hcut
      clear a2 b2 hx hy
      generalize eqL x y=b at *
      cases b with
      | false =>
        have hr:r=false:=HQ2.out
        subst hr
        clear HQ2
        go_wp2_with fail
        go_ret
        exact ⟨rfl,bst HB3.out HBc.out⟩
      | true =>
        have HN2:=Az.mk (show r=eqL (l.drop (i+1)) (m.drop (i+1)) from HQ2.out)
        clear HQ2
        go_wp2_with fail
        have hk:=Hi.out
        obtain ⟨k1,rfl⟩:∃ k1,gk=k1+1:=⟨gk - 1,by omega⟩
        go_roundg k1
        case measure=>omega
        case rel=>exact ⟨i+1,by go_num,⟨by omega⟩,HN2,HBc⟩
set_option maxHeartbeats 8000000 in
theorem seq48 (N:Nat):∀ (l m:List S39) (A A':Option Addr) (c c':Nat) (w:World),SizeOf.sizeOf l < N→Kd.C k39 w A l.length l→l.length≤c→Kd.C k39 w A' m.length m→m.length≤c' →
    Calls Try.prog 37 #[.agg #[.slice A l.length c],.agg #[.slice A' m.length c']] w fun e w'=>e=.returned (.bool (eqL l m))∧Below w.heap.size w w':=by
  have hu39:=Try.underlying39
  have hu37:=Try.underlying37
  induction N with
  | zero=>intro l m A A' c c' w hN; omega
  | succ N ih =>
  intro l m A A' c c' w hN hr hc hr' hc'
  have hlen:l.length≤9223372036854775807:=hr.2.1
  have hlen':m.length≤9223372036854775807:=hr'.2.1
  have HR:=Az.mk hr
  have HR':=Az.mk hr'
  have HN:=Az.mk hN
  have IH:=Az.mk ih
  clear hr hc hr' hc' hN ih
  obtain ⟨r,hr⟩:∃ r,r=eqL l m:=⟨_,rfl⟩
  rw [← hr]
  have HE:=Az.mk hr
  clear hr
  go_enter Try.func37,Try.ntmps37
  by_cases hlm:l.length=m.length
  rotate_left
  · have hf:r=false:=by
      rw [HE.out]
      cases h:eqL l m with
      | false=>rfl
      | true=>exact absurd (eqL_len l m h) hlm
    have q1:((l.length:Int)=(m.length:Int))=False:=eq_false (by omega)
    have q2:(l.length=m.length)=False:=eq_false hlm
    have b1:((l.length:Int) != (m.length:Int))=true:=bne_iff_ne.2 (by omega)
    have b2:((l.length:Int) == (m.length:Int))=false:=beq_eq_false_iff_ne.2 (by omega)
    have b3:(l.length == m.length)=false:=beq_eq_false_iff_ne.2 hlm
    subst hf
    clear hlm HE
    go_wp2_with (first
      | ((with_reducible refine gate_dst (N:=2) rfl ?_)
         refine box_event ?hg (N:=2) ?hd (cs:=#[.slice A l.length c]) (t:=39) ?hr ?_
         (case hd=>rfl)
         (case hg=>rfl)
         (case hr=>first | (go_simp; done) | (go_simp; rfl))
         intro g2 hg2 w2 hbox hbb
         have S2:=Az.mk hbox
         have HB2:=Az.mk hbb
         clear hbox hbb hg2)
      | ((with_reducible refine gate_dst (N:=3) rfl ?_)
         refine box_event ?hg (N:=3) ?hd (cs:=#[.slice A' m.length c']) (t:=39) ?hr ?_
         (case hd=>rfl)
         (case hg=>rfl)
         (case hr=>first | (go_simp; done) | (go_simp; rfl))
         intro g3 hg3 w3 hbox hbb
         have HB3:=Az.mk (bst HB2.out hbb)
         have a0:w3.cell? ⟨g2,0,none⟩=some (.slice A l.length c):=(blk_cell (bkB S2.out hbb) 0).trans rfl
         have b0:w3.cell? ⟨g3,0,none⟩=some (.slice A' m.length c'):=(blk_cell hbox 0).trans rfl
         clear hbox hbb hg3))
    go_ret
    exact ⟨rfl,HB3.out⟩
  have HLM:=Az.mk hlm
  rw [← hlm] at hlen' ⊢
  clear hlm
  go_wp2_with (first
    | ((with_reducible refine gate_dst (N:=2) rfl ?_)
       refine box_event ?hg (N:=2) ?hd (cs:=#[.slice A l.length c]) (t:=39) ?hr ?_
       (case hd=>rfl)
       (case hg=>rfl)
       (case hr=>first | (go_simp; done) | (go_simp; rfl))
       intro g2 hg2 w2 hbox hbb
       have S2:=Az.mk hbox
       have HB2:=Az.mk hbb
       clear hbox hbb hg2)
    | ((with_reducible refine gate_dst (N:=3) rfl ?_)
       refine box_event ?hg (N:=3) ?hd (cs:=#[.slice A' l.length c']) (t:=39) ?hr ?_
       (case hd=>rfl)
       (case hg=>rfl)
       (case hr=>first | (go_simp; done) | (go_simp; rfl))
       intro g3 hg3 w3 hbox hbb
       have S3:=Az.mk hbox
       have S23:=Az.mk (bkB S2.out hbb)
       have HB3:=Az.mk (bst HB2.out hbb)
       have a0:w3.cell? ⟨g2,0,none⟩=some (.slice A l.length c):=(blk_cell S23.out 0).trans rfl
       have b0:w3.cell? ⟨g3,0,none⟩=some (.slice A' l.length c'):=(blk_cell hbox 0).trans rfl
       clear hbox hbb hg3))
  clear a0 b0 S2 HB2
  have HQ:=Az.mk (show r=eqL (l.drop 0) (m.drop 0) from HE.out)
  clear HE
  go_loopg [16] l.length (fun kq v16 wr=>∃ i:Nat,v16=.int .i64 (i:Int)∧Az (i+kq=l.length)∧Az (r=eqL (l.drop i) (m.drop i))∧Az (Below w3.heap.size w3 wr))
  case atStart=>exact ⟨0,rfl,⟨by omega⟩,HQ,⟨Below.refl _ _⟩⟩
  case round =>
    clear HQ
    obtain ⟨i,rfl,Hi,HQ,HB⟩:=hrel
    by_cases hlt:i < l.length
    rotate_left
    · have hr:r=true:=by have:=HQ.out; rw [List.drop_of_length_le (by omega),List.drop_of_length_le (by have:=HLM.out; omega)] at this; exact this
      subst hr
      clear HQ
      go_wp2_with fail
      go_ret
      exact ⟨rfl,bst HB3.out HB.out⟩
    have HBw:=Az.mk (bst HB3.out HB.out)
    obtain ⟨ad,A4,c4,he,hx,hl4,hC4⟩:=at_T39 (Kd.C_below HR.out HBw.out) (i:Int) (by omega) (by omega)
    cases he
    obtain ⟨ad',A5,c5,he,hy,hl5,hC5⟩:=at_T39 (Kd.C_below HR'.out HBw.out) (i:Int) (by omega) (by have:=HLM.out; omega)
    cases he
    rw [Int.toNat_natCast] at hx hy
    have HC4:=Az.mk hC4
    have Hl4:=Az.mk hl4
    have HC5:=Az.mk hC5
    have Hl5:=Az.mk hl5
    have HSZ:=Az.mk (show SizeOf.sizeOf (rd_T39 l (i:Int)).f0 < N from by have:=rd_T39_mem l i hlt; have:=HN.out; omega)
    have HQ2:=Az.mk (HQ.out.trans (drop_eq l m i hlt (by have:=HLM.out; omega)))
    have q1:(0≤(i:Int))=True:=eq_true (by omega)
    have q2:((i:Int) < (l.length:Int))=True:=eq_true (by omega)
    have q3:(i < l.length)=True:=eq_true (by omega)
    clear hl4 hC4 hl5 hC5 HQ
    generalize (rd_T39 l (i:Int)).f0=x at *
    generalize (rd_T39 m (i:Int)).f0=y at *
    have a2:wr.cell? ⟨g2,0,none⟩=some (.slice (some ad) l.length c):=(blk_cell (bkB S23.out HB.out) 0).trans rfl
    have b2:wr.cell? ⟨g3,0,none⟩=some (.slice (some ad') l.length c'):=(blk_cell (bkB S3.out HB.out) 0).trans rfl
    go_upto_region 6 with fail
    try simp only [Act.put,List.setIfInBounds_toArray,List.set_cons_succ,List.set_cons_zero]
    go_cut [30] from 19 to 30 (fun v30 wc=>v30=.bool (!(eqL x y))∧Az (Below w3.heap.size w3 wc))
    case first =>
      go_region_held3 (fun w'=>w'.cell? ⟨g2,0,none⟩=some (.slice (some ad) l.length c)∧w'.cell? ⟨g3,0,none⟩=some (.slice (some ad') l.length c')∧w'.cell? (ad.add i)=some (.slice A4 x.length c4)∧w'.cell? (ad'.add i)=some (.slice A5 y.length c5)) (go_keep)
        (first
          | (go_at_call 37
             (with_reducible refine (IH.out x y A4 A5 c4 c5 _ HSZ.out (Kd.C_below HC4.out (below_drew (Below.refl _ _))) Hl4.out (Kd.C_below HC5.out (below_drew (Below.refl _ _))) Hl5.out).mono ?_)
             rintro e9 wA ⟨rfl,hbA⟩
             have HBA:=Az.mk (bst (below_drew HB.out) hbA)
             have z0:=cell_up hbA (show wr.drew.cell? _=_ from a2)
             have z1:=cell_up hbA (show wr.drew.cell? _=_ from b2)
             have z2:=cell_up hbA (show wr.drew.cell? _=_ from hx)
             have z3:=cell_up hbA (show wr.drew.cell? _=_ from hy)
             clear hbA))
      all_goals (go_wp2_with fail; go_meet; exact ⟨rfl,HBA⟩)
    case rest =>
      obtain ⟨rfl,HBc⟩:=hcut
      clear a2 b2 hx hy
      generalize eqL x y=b at *
      cases b with
      | false =>
        have hr:r=false:=HQ2.out
        subst hr
        clear HQ2
        go_wp2_with fail
        go_ret
        exact ⟨rfl,bst HB3.out HBc.out⟩
      | true =>
        have HN2:=Az.mk (show r=eqL (l.drop (i+1)) (m.drop (i+1)) from HQ2.out)
        clear HQ2
        go_wp2_with fail
        have hk:=Hi.out
        obtain ⟨k1,rfl⟩:∃ k1,gk=k1+1:=⟨gk - 1,by omega⟩
        go_roundg k1
        case measure=>omega
        case rel=>exact ⟨i+1,by go_num,⟨by omega⟩,HN2,HBc⟩
end Go.Proofs.Ytkgknidogelffaa.I
namespace Go.Proofs.Ytkgknidogelffaa.I
open Go.RowKit Go.Proofs.YtkgknidogelffaaW.PrintWords Go.Proofs.YtkgknidogelffaaW.PrintLast Go.Proofs.YtkgknidogelffaaW.PrintMore
attribute [local go_sem] max2_int min2_int max_two min_two max_three min_three max_four min_four
set_option linter.unusedVariables false
set_option maxRecDepth 100000
set_option linter.unusedSimpArgs false
mutual
def ofT (sy:List S84) (fu pa:List S39):S36→Option (List S39)
  | ⟨k,n,l⟩=>match hdF sy fu pa k n with
    | none=>none
    | some s=>if s.length < l.length then none else if ofL sy fu pa l s=true then some (s.drop l.length) else none
def ofL (sy:List S84) (fu pa:List S39):List S36→List S39→Bool
  | [],_=>true
  | x :: xs,s=>(match ofT sy fu pa x with
    | none=>false
    | some r=>eqL r (s.headD z39).f0) && ofL sy fu pa xs s.tail
end
theorem ofT_eq (sy:List S84) (fu pa:List S39) (x:S36):ofT sy fu pa x=match hdF sy fu pa x.f0 x.f1 with
    | none=>none
    | some s=>if s.length < x.f2.length then none else if ofL sy fu pa x.f2 s=true then some (s.drop x.f2.length) else none:=by
  cases x; rw [ofT]
theorem ofL_step (sy:List S84) (fu pa:List S39) (l:List S36) (s:List S39) (i:Nat) (h:i < l.length):ofL sy fu pa (l.drop i) (s.drop i)=((match ofT sy fu pa (rd_T36 l (i:Int)) with
    | none=>false
    | some r=>eqL r (rd_T39 s (i:Int)).f0) && ofL sy fu pa (l.drop (i+1)) (s.drop (i+1))):=by
  rw [rd_T36_drop l i h,ofL,List.tail_drop]
  have e:(s.drop i).headD z39=rd_T39 s (i:Int):=by
    unfold rd_T39
    rw [Int.toNat_natCast,List.getD_eq_getElem?_getD,List.headD_eq_head?_getD,List.head?_drop]
  rw [e]
def SmallP (sy:List S84) (fu pa:List S39):Prop:=(∀ x ∈ sy,0≤x.f1∧x.f1≤59)∧(∀ x ∈ fu,cntL x.f0≤59)∧(∀ x ∈ pa,cntL x.f0≤59)
theorem cntL_rep:∀ n:Nat,cntL (List.replicate n z39)=n
  | 0=>rfl
  | n+1=>by rw [List.replicate_succ,cntL,cntL_rep n]; simp only [z39,cnt,cntL]; omega
theorem rd_mem41 {l:List S39} {n:Int} (h0:0≤n) (h:n < (l.length:Int)):rd_T39 l n ∈ l:=by
  unfold rd_T39
  rw [List.getD_eq_getElem?_getD,List.getElem?_eq_getElem (by omega:n.toNat < l.length)]
  exact List.getElem_mem _
theorem hdF_cnt {sy:List S84} {fu pa:List S39} (hs:SmallP sy fu pa) {k n:Int} {r:List S39} (h:hdF sy fu pa k n=some r):cntL r≤59:=by
  unfold hdF at h
  split at h
  · cases h
  split at h
  · split at h
    · injection h with h; rw [← h]; exact hs.2.2 _ (rd_mem41 (by omega) (by assumption))
    · cases h
  split at h
  · split at h
    · injection h with h; rw [← h]; exact hs.2.1 _ (rd_mem41 (by omega) (by assumption))
    · cases h
  split at h
  · split at h
    · injection h with h
      rw [← h,cntL_rep]
      have hm:rd_T84 sy n ∈ sy:=by
        unfold rd_T84
        rw [List.getD_eq_getElem?_getD,List.getElem?_eq_getElem (by omega:n.toNat < sy.length)]
        exact List.getElem_mem _
      have:=hs.1 _ hm
      omega
    · cases h
  · cases h
theorem ofT_cnt {sy:List S84} {fu pa:List S39} (hs:SmallP sy fu pa) {x:S36} {r:List S39} (h:ofT sy fu pa x=some r):cntL r≤59:=by
  rw [ofT_eq] at h
  split at h
  · cases h
  · rename_i s hh
    split at h
    · cases h
    split at h
    · injection h with h
      rw [← h]
      have h1:=hdF_cnt hs hh
      have h2:=drop_cnt_le s x.f2.length
      omega
    · cases h
theorem eq_calls {l m:List S39} (hl:cntL l≤59) {w:World} {A:Option Addr} {c:Nat} {A':Option Addr} {c':Nat} (hr:Kd.C k39 w A l.length l) (hc:l.length≤c) (hr':Kd.C k39 w A' m.length m) (hc':m.length≤c') :
    Calls Try.prog 37 #[.agg #[.slice A l.length c],.agg #[.slice A' m.length c']] w fun e w'=>e=.returned (.bool (eqL l m))∧Below w.heap.size w w':=by
  exact seq48 _ l m A A' c c' w (Nat.lt_succ_self _) hr hc hr' hc'
set_option maxHeartbeats 16000000 in
theorem of_calls (P:Nat→Prop) (A0:Option Addr) (c0:Nat) (l0:List S84) (A1:Option Addr) (c1:Nat) (l1:List S39) (A2:Option Addr) (c2:Nat) (l2:List S39) (hsm:SmallP l0 l1 l2) (N:Nat):∀ (l:List S36),SizeOf.sizeOf l < N→∀ (k n:Int) (A3:Option Addr) (c3:Nat) (w:World),
    Kd.C k84 w A0 l0.length l0→Kd.V k39 39 w w.heap.size P (.slice A1 l1.length c1) l1→Kd.V k39 39 w w.heap.size P (.slice A2 l2.length c2) l2→Kd.C k36 w A3 l.length l→l.length≤c3 →
    Calls Try.prog 26 #[.agg #[.slice A0 l0.length c0,.slice A1 l1.length c1,.slice A2 l2.length c2],.agg #[.int .i64 k,.int .i64 n,.slice A3 l.length c3]] w fun e w'=>∃ v,e=.returned (.tuple #[.agg #[v],.bool (ofT l0 l1 l2 ⟨k,n,l⟩).isSome])∧Kd.V k39 39 w' w.heap.size (fun q=>P q∨w.heap.size≤q) v ((ofT l0 l1 l2 ⟨k,n,l⟩).getD [])∧Below w.heap.size w w':=by
  induction N with
  | zero=>intro l h; omega
  | succ N ih =>
  intro l hN k n A3 c3 w hr0 h1 h2 hr3 hc3
  have hu74:=Try.underlying74
  have hu36:=Try.underlying36
  have hu39:=Try.underlying39
  have hlen:l.length≤9223372036854775807:=hr3.2.1
  have HSM:=Az.mk hsm
  have HR0:=Az.mk hr0
  have H1:=Az.mk h1
  have H2:=Az.mk h2
  have HR3:=Az.mk hr3
  have HC3:=Az.mk hc3
  have IH:=Az.mk ih
  have HN:=Az.mk hN
  clear hr0 h1 h2 hr3 hc3 ih hN hsm
  obtain ⟨R,hR⟩:∃ R,R=hdF l0 l1 l2 k n:=⟨_,rfl⟩
  have HR:=Az.mk hR
  clear hR
  go_enter Try.func26,Try.ntmps26
  go_wp2_with (first
   | ((with_reducible refine gate_dst (N:=2) rfl ?_)
      refine box_event ?hg (N:=2) ?hd (cs:=#[.slice A0 l0.length c0,.slice A1 l1.length c1,.slice A2 l2.length c2]) (t:=74) ?hr ?_
      (case hd=>rfl)
      (case hg=>rfl)
      (case hr=>first | (go_simp; done) | (go_simp; rfl))
      intro g2 hg2 w2 hbox hb2
      have S22:=Az.mk hbox
      have HB2:=Az.mk hb2
      have hw2:w.heap.size≤g2:=by omega
      clear hbox hb2 hg2)
   | ((with_reducible refine gate_dst (N:=3) rfl ?_)
      refine box_event ?hg (N:=3) ?hd (cs:=#[.int .i64 k,.int .i64 n,.slice A3 l.length c3]) (t:=36) ?hr ?_
      (case hd=>rfl)
      (case hg=>rfl)
      (case hr=>first | (go_simp; done) | (go_simp; rfl))
      intro g3 hg3 w3 hbox hb3
      have S23:=Az.mk (bkB S22.out hb3)
      have S33:=Az.mk hbox
      have HB3:=Az.mk (bst HB2.out hb3)
      clear hbox hb3 hg3 S22 HB2)
   | ((with_reducible refine gate_dst (N:=4) rfl ?_)
      refine box_event ?hg (N:=4) ?hd (cs:=#[.slice none 0 0]) (t:=39) ?hr ?_
      (case hd=>rfl)
      (case hg=>rfl)
      (case hr=>first | (go_simp; done) | (go_simp; rfl))
      intro g4 hg4 w4 hbox hb4
      have hw4:w.heap.size≤g4:=by have:=HB3.out.size; omega
      have S24:=Az.mk (bkB S23.out hb4)
      have S34:=Az.mk (bkB S33.out hb4)
      have S44:=Az.mk hbox
      have HB4:=Az.mk (bst HB3.out hb4)
      have a0:w4.cell? ⟨g2,0,none⟩=some (.slice A0 l0.length c0):=(blk_cell S24.out 0).trans rfl
      have a1:w4.cell? ⟨g2,1,none⟩=some (.slice A1 l1.length c1):=(blk_cell S24.out 1).trans rfl
      have a2:w4.cell? ⟨g2,2,none⟩=some (.slice A2 l2.length c2):=(blk_cell S24.out 2).trans rfl
      have b0:w4.cell? ⟨g3,0,none⟩=some (.int .i64 k):=(blk_cell S34.out 0).trans rfl
      have b1:w4.cell? ⟨g3,1,none⟩=some (.int .i64 n):=(blk_cell S34.out 1).trans rfl
      have b2:w4.cell? ⟨g3,2,none⟩=some (.slice A3 l.length c3):=(blk_cell S34.out 2).trans rfl
      clear hbox hb4 hg4 S23 S33 HB3))
  have hc:=head_calls (fun q=>P q∧q < w.heap.size) A0 c0 l0 A1 c1 l1 A2 c2 l2 k n (.slice A3 l.length c3) w4 rfl (Kd.C_below HR0.out HB4.out) (Kd.V_below (Kd.V_bound H1.out) HB4.out) (Kd.V_below (Kd.V_bound H2.out) HB4.out) (fun x hx=>by have:=HSM.out.1 x hx; omega)
  rw [← HR.out] at hc
  (with_reducible refine hc.mono ?_)
  clear hc
  rintro e w5 ⟨v,rfl,hv,hb5⟩
  have hw45:=HB4.out.size
  have hlt4:=blk_lt S44.out
  have HV5:=Az.mk (Kd.V_mono (ok':=fun q=>(P q∨w.heap.size≤q)∧q≠g4) hv (fun q hq=>by
    rcases hq with hq | hq
    · exact ⟨.inl hq.1,by omega⟩
    · exact ⟨.inr (by omega),by omega⟩))
  have S25:=Az.mk (bkB S24.out hb5)
  have S35:=Az.mk (bkB S34.out hb5)
  have S45:=Az.mk (bkB S44.out hb5)
  have HB5:=Az.mk (bst HB4.out hb5)
  clear hv hb5 a0 a1 a2 b0 b1 b2 S24 S34 S44 HB4 hlt4 hw45
  have fin:∀ (v:Value) (l:List S39) (wq:World),Below w.heap.size w wq→Kd.V k39 39 wq w.heap.size (fun q=>(P q∨w.heap.size≤q)∧q≠g4) v l→Kd.V k39 39 (wq.setCell ⟨g4,0,none⟩ v) w.heap.size (fun q=>P q∨w.heap.size≤q) v l∧Below w.heap.size w (wq.setCell ⟨g4,0,none⟩ v):=fun v l wq hb hv=>⟨Kd.V_mono (Kd.V_far (p:=⟨g4,0,none⟩) hv (fun _ hk=>hk.2) v) (fun _ hk=>hk.1),bset (g:=g4) (j:=0) hb hw4⟩
  have FIN:=Az.mk fin
  clear fin
  obtain ⟨As,cs,rfl⟩:=Kd.V_slice HV5.out
  obtain ⟨sl,hsl⟩:∃ sl,sl=(R.getD []).length:=⟨_,rfl⟩
  rw [← hsl] at HV5 ⊢
  have HSL:=Az.mk hsl
  clear hsl
  have hcase:R=none∨(∃ s,R=some s∧s.length < l.length)∨(∃ s,R=some s∧¬ s.length < l.length):=by
    cases R with
    | none=>exact .inl rfl
    | some s =>
      by_cases h:s.length < l.length
      · exact .inr (.inl ⟨s,rfl,h⟩)
      · exact .inr (.inr ⟨s,rfl,h⟩)
  have NE:=Az.mk (show R=none→ofT l0 l1 l2 ⟨k,n,l⟩=none from fun h=>by rw [ofT_eq]; show (match hdF l0 l1 l2 k n with | none=>none | some s=>_)=none; rw [← HR.out,h])
  have SE:=Az.mk (show ∀ s,R=some s→ofT l0 l1 l2 ⟨k,n,l⟩=if s.length < l.length then none else if ofL l0 l1 l2 l s=true then some (s.drop l.length) else none from fun s h=>by rw [ofT_eq]; show (match hdF l0 l1 l2 k n with | none=>none | some s=>_)=_; rw [← HR.out,h])
  rcases hcase with h | ⟨s,h,hl⟩ | ⟨s,h,hl⟩
  all_goals subst h
  case' inl=>have HE:=Az.mk (NE.out rfl)
  case' inr.inl =>
    have HE:=Az.mk ((SE.out s rfl).trans (if_pos hl))
    have b:(sl < l.length)=True:=eq_true (by have:sl=s.length:=HSL.out; omega)
  case' inr.inr=>have b:(sl < l.length)=False:=eq_false (by have:sl=s.length:=HSL.out; omega)
  all_goals go_wp2_with (
       (with_reducible refine gate_dst (N:=6) rfl ?_)
       refine box_event ?hg (N:=6) ?hd (cs:=#[.slice none 0 0]) (t:=39) ?hr ?_
       (case hd=>rfl)
       (case hg=>rfl)
       (case hr=>first | (go_simp; done) | (go_simp; rfl))
       intro g6 hg6 w6 hbox hb6
       have hw6:w.heap.size≤g6:=by have:=HB5.out.size; omega
       have S66:=Az.mk (blk_put (cs':=#[.slice As sl cs]) hbox 0 (.slice As sl cs) rfl)
       have hne2:g2≠g6:=by have:=blk_lt S25.out; omega
       have hne3:g3≠g6:=by have:=blk_lt S35.out; omega
       have hne4:g4≠g6:=by have:=blk_lt S45.out; omega
       have S26:=Az.mk (blk_far (p:=⟨g6,0,none⟩) (bkB S25.out hb6) hne2 (.slice As sl cs))
       have S36:=Az.mk (blk_far (p:=⟨g6,0,none⟩) (bkB S35.out hb6) hne3 (.slice As sl cs))
       have S46:=Az.mk (blk_far (p:=⟨g6,0,none⟩) (bkB S45.out hb6) hne4 (.slice As sl cs))
       have HB6:=Az.mk (bset (g:=g6) (j:=0) (v:=.slice As sl cs) (bst HB5.out hb6) hw6)
       have HV6:=Az.mk (Kd.V_below HV5.out (bset (g:=g6) (j:=0) (v:=.slice As sl cs) hb6 (by omega)))
       have hcz:=(blk_cell hbox 0).trans rfl
       have hfz:=bkF hbox 0
       have b2:=(blk_cell S36.out 2).trans rfl
       have d0:=(blk_cell S46.out 0).trans rfl
       have df:=bkF S46.out 0
       have e0:=(blk_cell S66.out 0).trans rfl
       clear hbox hb6 hg6 S25 S35 S45 HB5 HV5 hne2 hne3 hne4)
  rotate_left 1
  iterate 2
    refine bodyPost_ret (results_ct rfl _ _ g4 39 #[.slice none 0 0] (0,0) _ rfl (blk_put (cs':=#[.slice none 0 0]) S46.out 0 _ rfl) Try.underlying39 rfl (by kernel_rfl)) rfl ?_
    rw [HE.out]
    exact ⟨_,rfl,FIN.out _ _ _ HB6.out (Kd.V_nil _ _ _ _ _)⟩
  have hsl:sl=s.length:=HSL.out
  subst hsl
  have HV6':=Az.mk (show Kd.V k39 39 (w6.setCell ⟨g6,0,none⟩ (.slice As s.length cs)) w.heap.size (fun q=>(P q∨w.heap.size≤q)∧q≠g4) (.slice As s.length cs) s from HV6.out)
  clear HV6
  have HV6:=HV6'
  clear HV6'
  obtain ⟨r,hr⟩:∃ r,r=ofL l0 l1 l2 l s:=⟨_,rfl⟩
  have HE:=Az.mk (show ofT l0 l1 l2 ⟨k,n,l⟩=if r=true then some (s.drop l.length) else none from by rw [hr]; exact (SE.out s rfl).trans (if_neg hl))
  have Hr:=Az.mk hr
  have Hl:=Az.mk hl
  clear hr hl NE SE b b2 d0 df e0 hcz hfz HSL
  generalize w6.setCell ⟨g6,0,none⟩ (.slice As s.length cs)=w7 at *
  have HR7:=Az.mk (Kd.C_below HR0.out HB6.out)
  have H17:=Az.mk (Kd.V_below (Kd.V_bound H1.out) HB6.out)
  have H27:=Az.mk (Kd.V_below (Kd.V_bound H2.out) HB6.out)
  have HR37:=Az.mk (Kd.C_below HR3.out HB6.out)
  clear HR0 H1 H2 HR3
  go_loopg [33] l.length (fun kq v33 wr=>∃ i:Nat,v33=.int .i64 (i:Int)∧Az (i+kq=l.length)∧Az (r=ofL l0 l1 l2 (l.drop i) (s.drop i))∧Az (Below w7.heap.size w7 wr))
  case atStart=>exact ⟨0,rfl,⟨by omega⟩,Hr,⟨Below.refl _ _⟩⟩
  case round =>
    obtain ⟨i,rfl,Hi,HL,HB⟩:=hrel
    clear Hr
    have HBw:=Az.mk (bst HB6.out HB.out)
    have S2:=Az.mk (bkB S26.out HB.out)
    have S3:=Az.mk (bkB S36.out HB.out)
    have S4:=Az.mk (bkB S46.out HB.out)
    have S6:=Az.mk (bkB S66.out HB.out)
    have HV:=Az.mk (Kd.V_below HV6.out HB.out)
    by_cases hlt:i < l.length
    rotate_left
    · have hie:i=l.length:=by have:=Hi.out; omega
      have hr:r=true:=by have:=HL.out; rw [hie,List.drop_length] at this; exact this.trans (by rw [ofL])
      have he:=HE.out
      rw [if_pos hr] at he
      have HE':=Az.mk he
      have b2:wr.cell? ⟨g3,2,none⟩=some (.slice A3 l.length c3):=(blk_cell S3.out 2).trans rfl
      have d0:wr.cell? ⟨g4,0,none⟩=some (.slice none 0 0):=(blk_cell S4.out 0).trans rfl
      have df:=bkF S4.out 0
      have e0:wr.cell? ⟨g6,0,none⟩=some (.slice As s.length cs):=(blk_cell S6.out 0).trans rfl
      have b:(s.length < l.length)=False:=eq_false Hl.out
      have p1:(l.length≤s.length)=True:=eq_true (by have:=Hl.out; omega)
      clear he hr
      subst hie
      have hcap:=(Kd.V_at HV.out).2.1
      have hcut:∀ A',(if cs=l.length then As else As.map (·.add (l.length*1)))=A'→Kd.V k39 39 wr w.heap.size (fun q=>(P q∨w.heap.size≤q)∧q≠g4) (.slice A' (s.length - l.length) (cs - l.length)) (s.drop l.length):=by
        intro A' h
        have h2:=Kd.V_mk (d:=k39) (e:=39) (base:=w.heap.size) (c:=cs - l.length) (by rw [List.length_drop]; omega) (Kd.F_cut (m:=l.length) (c:=cs) (Kd.V_F HV.out) (by have:=Hl.out; omega) hcap)
        rw [List.length_drop] at h2
        rw [← h]
        exact h2
      have HCut:=Az.mk hcut
      clear hcut hcap
      by_cases hcs:cs=l.length
      · go_wp2_with fail
        have hv:=HCut.out As (if_pos hcs)
        rw [hcs,Nat.sub_self] at hv
        refine bodyPost_ret (results_ct rfl _ _ g4 39 #[.slice As (s.length - l.length) 0] (0,0) _ rfl (blk_put (cs':=#[.slice As (s.length - l.length) 0]) S4.out 0 _ rfl) Try.underlying39 rfl (by kernel_rfl)) rfl ?_
        rw [HE'.out]
        exact ⟨_,rfl,FIN.out _ _ _ HBw.out hv⟩
      · go_wp2_with fail
        have hv:=HCut.out _ (if_neg hcs)
        rw [Nat.mul_one] at hv
        refine bodyPost_ret (results_ct rfl _ _ g4 39 #[.slice (As.map (·.add l.length)) (s.length - l.length) (cs - l.length)] (0,0) _ rfl (blk_put (cs':=#[.slice (As.map (·.add l.length)) (s.length - l.length) (cs - l.length)]) S4.out 0 _ rfl) Try.underlying39 rfl (by kernel_rfl)) rfl ?_
        rw [HE'.out]
        exact ⟨_,rfl,FIN.out _ _ _ HBw.out hv⟩
    obtain ⟨ad,A4,c4,rfl,hx1,hx2,hx3,hc4,hA4⟩:=at_T36 (Kd.C_below HR37.out HB.out) (i:Int) (by omega) (by omega)
    rw [Int.toNat_natCast] at hx1 hx2 hx3
    have HA4:=Az.mk hA4
    have Hc4:=Az.mk hc4
    have HNx:=Az.mk (show SizeOf.sizeOf (rd_T36 l (i:Int)).f2 < N from by have:=rd_T36_mem l i hlt; have:=HN.out; omega)
    have HStep:=Az.mk (HL.out.trans (ofL_step l0 l1 l2 l s i hlt))
    have p1:(0≤(i:Int))=True:=eq_true (by omega)
    have p2:((i:Int) < (l.length:Int))=True:=eq_true (by omega)
    have p3:(i < l.length)=True:=eq_true (by omega)
    have p4:(i < s.length)=True:=eq_true (by have:=Hl.out; omega)
    clear hA4 hc4 HL
    generalize rd_T36 l (i:Int)=x at *
    have HEx:=Az.mk (show ofT l0 l1 l2 ⟨x.f0,x.f1,x.f2⟩=ofT l0 l1 l2 x from by cases x; rfl)
    go_wp2_with (
      (with_reducible refine gate_dst (N:=9) rfl ?_)
      refine box_event ?hg (N:=9) ?hd (cs:=#[.int .i64 0,.int .i64 0,.slice none 0 0]) (t:=36) ?hr ?_
      (case hd=>rfl)
      (case hg=>rfl)
      (case hr=>first | (go_simp; done) | (go_simp; rfl))
      intro gx hgx w6 hbox hb6
      have hgw:wr.heap.size≤gx:=by omega
      have Hbw:=Az.mk (bset (g:=gx) (j:=2) (v:=.slice A4 x.f2.length c4) (bset (g:=gx) (j:=1) (v:=.int .i64 x.f1) (bset (g:=gx) (j:=0) (v:=.int .i64 x.f0) hb6 hgw) hgw) hgw)
      have hcz0:=(blk_cell hbox 0).trans rfl
      have hfz0:=bkF hbox 0
      have hcz1:=(blk_cell hbox 1).trans rfl
      have hfz1:=bkF hbox 1
      have hcz2:=(blk_cell hbox 2).trans rfl
      have hfz2:=bkF hbox 2
      have Sx:=Az.mk (blk_put (cs':=#[.int .i64 x.f0,.int .i64 x.f1,.slice A4 x.f2.length c4]) (blk_put (cs':=#[.int .i64 x.f0,.int .i64 x.f1,.slice none 0 0]) (blk_put (cs':=#[.int .i64 x.f0,.int .i64 0,.slice none 0 0]) hbox 0 (.int .i64 x.f0) rfl) 1 (.int .i64 x.f1) rfl) 2 (.slice A4 x.f2.length c4) rfl)
      have d0:=(blk_cell (bkB S2.out Hbw.out) 0).trans rfl
      have d1:=(blk_cell (bkB S2.out Hbw.out) 1).trans rfl
      have d2:=(blk_cell (bkB S2.out Hbw.out) 2).trans rfl
      have e0:=(blk_cell Sx.out 0).trans rfl
      have e1:=(blk_cell Sx.out 1).trans rfl
      have e2:=(blk_cell Sx.out 2).trans rfl
      clear hbox hb6 hgx hgw hx1 hx2 hx3 Sx)
    clear hcz0 hcz1 hcz2 hfz0 hfz1 hfz2 d0 d1 d2 e0 e1 e2
    generalize (((w6.setCell ⟨gx,0,none⟩ (.int .i64 x.f0)).setCell ⟨gx,1,none⟩ (.int .i64 x.f1)).setCell ⟨gx,2,none⟩ (.slice A4 x.f2.length c4))=wq at *
    have HBq:=Az.mk (bst HB.out Hbw.out)
    (with_reducible refine (IH.out x.f2 HNx.out x.f0 x.f1 A4 c4 wq (Kd.C_below HR7.out HBq.out) (Kd.V_mono (Kd.V_below H17.out HBq.out) (fun _ h=>h.1)) (Kd.V_mono (Kd.V_below H27.out HBq.out) (fun _ h=>h.1)) (Kd.C_below HA4.out Hbw.out) Hc4.out).mono ?_)
    rintro e w8 ⟨v,rfl,hv8,hb8⟩
    rw [HEx.out] at hv8 ⊢
    have HB8:=Az.mk (bst HBq.out hb8)
    have HV8:=Az.mk (Kd.V_bound hv8)
    clear hv8 hb8 Hbw HBq S2 S3 S4 S6 HV HBw HA4 Hc4 HNx HEx IH
    obtain ⟨Ay,cy,rfl⟩:=Kd.V_slice HV8.out
    obtain ⟨Y,hY⟩:∃ Y,Y=ofT l0 l1 l2 x:=⟨_,rfl⟩
    rw [← hY] at HV8 HStep ⊢
    have HY:=Az.mk hY
    clear hY
    obtain ⟨m,hm⟩:∃ m,m=(Y.getD []).length:=⟨_,rfl⟩
    rw [← hm] at HV8 ⊢
    have HMm:=Az.mk hm
    clear hm
    go_wp2_with (
      (with_reducible refine gate_dst (N:=10) rfl ?_)
      refine box_event ?hg (N:=10) ?hd (cs:=#[.slice none 0 0]) (t:=39) ?hr ?_
      (case hd=>rfl)
      (case hg=>rfl)
      (case hr=>first | (go_simp; done) | (go_simp; rfl))
      intro g10 hg10 wA hbox hbA
      have hb9:=bset (g:=g10) (j:=0) (v:=.slice Ay m cy) hbA (by omega)
      have S10:=Az.mk (blk_put (cs':=#[.slice Ay m cy]) hbox 0 (.slice Ay m cy) rfl)
      have HB9:=Az.mk (bst HB8.out hb9)
      have HV9:=Az.mk (Kd.V_below HV8.out hb9)
      have hcz:=(blk_cell hbox 0).trans rfl
      have hfz:=bkF hbox 0
      clear hbox hbA hg10 hb9 HB8 HV8)
    clear hcz hfz
    generalize wA.setCell ⟨g10,0,none⟩ (.slice Ay m cy)=w9 at *
    have HBw:=Az.mk (bst HB6.out HB9.out)
    have S4:=Az.mk (bkB S46.out HB9.out)
    have S6:=Az.mk (bkB S66.out HB9.out)
    have HV:=Az.mk (Kd.V_below HV6.out HB9.out)
    have d0:w9.cell? ⟨g4,0,none⟩=some (.slice none 0 0):=(blk_cell S4.out 0).trans rfl
    have df:=bkF S4.out 0
    have e0:w9.cell? ⟨g6,0,none⟩=some (.slice As s.length cs):=(blk_cell S6.out 0).trans rfl
    have y0:w9.cell? ⟨g10,0,none⟩=some (.slice Ay m cy):=(blk_cell S10.out 0).trans rfl
    cases Y with
    | none =>
      have hr:r=false:=by have:=HStep.out; simpa using this
      have HE':=Az.mk (show ofT l0 l1 l2 ⟨k,n,l⟩=none from HE.out.trans (if_neg (by rw [hr]; decide)))
      clear hr
      go_quiet (fail)
      have HBn:=Az.mk (pwN HBw.out nq)
      have S4n:=Az.mk (bdN S4.out nq)
      clear d0 df e0 y0 S4 S6 HV HBw HB9 S10 HV9
      generalize w9.drewN nq=wn at *
      have d0:wn.cell? ⟨g4,0,none⟩=some (.slice none 0 0):=(blk_cell S4n.out 0).trans rfl
      have df:=bkF S4n.out 0
      go_wp2_with fail
      refine bodyPost_ret (results_ct rfl _ _ g4 39 #[.slice none 0 0] (0,0) _ rfl (blk_put (cs':=#[.slice none 0 0]) S4n.out 0 _ rfl) Try.underlying39 rfl (by kernel_rfl)) rfl ?_
      rw [HE'.out]
      exact ⟨_,rfl,FIN.out _ _ _ HBn.out (Kd.V_nil _ _ _ _ _)⟩
    | some y =>
      have hm:m=y.length:=HMm.out
      subst hm
      have hcy:=ofT_cnt HSM.out HY.out.symm
      obtain ⟨ads,Ae,ce,rfl,hxe,hve⟩:=V_at41 HV.out (i:=(i:Int)) (by omega) (by have:=Hl.out; omega)
      rw [Int.toNat_natCast] at hxe
      have p5:((i:Int) < (s.length:Int))=True:=eq_true (by have:=Hl.out; omega)
      have HY9:=Az.mk (show y.length≤cy∧k39.C w9 Ay y.length y from (Kd.V_reads' HV9.out).2)
      have HVe:=Az.mk (Kd.V_reads' hve).2
      have HCy:=Az.mk hcy
      clear hve hcy HV9 HV
      generalize rd_T39 s (i:Int)=ys at *
      go_region_law
        (first
          | (go_simp
             go_at_call 37
             (with_reducible refine (eq_calls (l:=y) (m:=ys.f0) HCy.out (w:=w9.drew) (Kd.C_below HY9.out.2 (below_drew (Below.refl _ _))) HY9.out.1 (Kd.C_below HVe.out.2 (below_drew (Below.refl _ _))) HVe.out.1).mono ?_)
             rintro e9 wB ⟨rfl,hbB⟩
             have HBB:=Az.mk (bst (below_drew HB9.out) hbB)
             clear hbB))
      all_goals (
        have HStep2:=Az.mk (show r=(eqL y ys.f0 && ofL l0 l1 l2 (l.drop (i+1)) (s.drop (i+1))) from HStep.out)
        clear HStep HCy HY9 HVe S4 S6 HB9 HBw S10 hxe y0 e0 d0 df
        generalize eqL y ys.f0=q at *
        cases q with
        | true =>
          have HN2:=Az.mk (show r=ofL l0 l1 l2 (l.drop (i+1)) (s.drop (i+1)) from HStep2.out)
          clear HStep2
          go_wp2_with fail
          have hk:=Hi.out
          obtain ⟨k1,rfl⟩:∃ k1,gk=k1+1:=⟨gk - 1,by omega⟩
          go_roundg k1
          case measure=>omega
          case rel=>exact ⟨i+1,by go_num,⟨by omega⟩,HN2,HBB⟩
        | false =>
          have hr:r=false:=HStep2.out
          have HE':=Az.mk (show ofT l0 l1 l2 ⟨k,n,l⟩=none from HE.out.trans (if_neg (by rw [hr]; decide)))
          clear hr HStep2
          have S4B:=Az.mk (bkB S46.out HBB.out)
          have d0B:wB.cell? ⟨g4,0,none⟩=some (.slice none 0 0):=(blk_cell S4B.out 0).trans rfl
          have dfB:=bkF S4B.out 0
          go_wp2_with fail
          refine bodyPost_ret (results_ct rfl _ _ g4 39 #[.slice none 0 0] (0,0) _ rfl (blk_put (cs':=#[.slice none 0 0]) S4B.out 0 _ rfl) Try.underlying39 rfl (by kernel_rfl)) rfl ?_
          rw [HE'.out]
          exact ⟨_,rfl,FIN.out _ _ _ (bst HB6.out HBB.out) (Kd.V_nil _ _ _ _ _)⟩)
end Go.Proofs.Ytkgknidogelffaa.I
namespace Go.Proofs.Ytkgknidogelffaa.I
open Go.RowKit Go.Proofs.YtkgknidogelffaaW.PrintWords Go.Proofs.YtkgknidogelffaaW.PrintLast Go.Proofs.YtkgknidogelffaaW.PrintMore
attribute [local go_sem] max2_int min2_int max_two min_two max_three min_three max_four min_four
set_option linter.unusedVariables false
set_option maxRecDepth 100000
set_option linter.unusedSimpArgs false
theorem cel1 {w:World} {p:Addr} {v:Value} (h:w.cell? p=some v):∀ o:Obj,(w.alloc o).cell? p=some v:=fun o=>cell_up (bal (Below.refl _ _) o) h
theorem take46_snoc {l:List S41} {i:Nat} (h:i < l.length):(l.take i).map (·.f1) ++ [⟨(rd_T41 l (i:Int)).f1.f0⟩]=(l.take (i+1)).map (·.f1):=by
  have e1:l.take (i+1)=l.take i ++ [l[i]]:=by rw [List.take_add_one,List.getElem?_eq_getElem h]; rfl
  have e2:rd_T41 l (i:Int)=l[i]:=by unfold rd_T41; rw [Int.toNat_natCast,List.getD_eq_getElem?_getD,List.getElem?_eq_getElem h]; rfl
  rw [e1,e2,List.map_append]
  cases h2:l[i] with
  | mk a b c =>
    cases b
    rfl
set_option maxHeartbeats 16000000 in
theorem place_calls (A0:Option Addr) (c0:Nat) (l0:List S84) (A1:Option Addr) (c1:Nat) (l1:List S41) (j:Nat) (hj:j < l1.length) (w:World) (hr1:Kd.C k41 w A1 l1.length l1) (hc1:l1.length≤c1) (h64:l1.length≤64) :
    Calls Try.prog 27 #[.agg #[.slice A0 l0.length c0,.slice A1 l1.length c1],.int .i64 (j:Int)] w fun e w'=>∃ v A2 c2,e=.returned (.agg #[.slice A0 l0.length c0,v,.slice A2 (rd_T41 l1 (j:Int)).f1.f0.length c2])∧Kd.V k39 39 w' w.heap.size (fun _=>True) v (l1.map (·.f1))∧Kd.V k39 39 w' w.heap.size (fun _=>True) (.slice A2 (rd_T41 l1 (j:Int)).f1.f0.length c2) (rd_T41 l1 (j:Int)).f1.f0∧Below w.heap.size w w':=by
  have hu74:=Try.underlying74
  have hu25:=Try.underlying25
  have hu41:=Try.underlying41
  have hu39:=Try.underlying39
  have hu36:=Try.underlying36
  obtain ⟨ad,A2,c2,A4,c4,rfl,hx0,hx1,hx2,hx3,hx4,hl2,hC2,hl4,hC4⟩:=at_T41 hr1 (j:Int) (by omega) (by omega)
  rw [Int.toNat_natCast] at hx1
  have HR1:=Az.mk hr1
  have HV2:=Az.mk (show Kd.V k39 39 w w.heap.size (fun _=>True) (.slice A2 (rd_T41 l1 (j:Int)).f1.f0.length c2) (rd_T41 l1 (j:Int)).f1.f0 from Kd.V_mk hl2 (Kd.F_mono (Kd.C_F k39_heap hC2) (fun _ _=>trivial)))
  have H64:=Az.mk h64
  have p1:(0≤(j:Int))=True:=eq_true (by omega)
  have p2:((j:Int) < (l1.length:Int))=True:=eq_true (by omega)
  have p3:(j < l1.length)=True:=eq_true (by omega)
  have HX1:=Az.mk hx1
  clear hr1 hx0 hx2 hx3 hx4 hl2 hC2 hl4 hC4 h64 hx1 hj
  generalize (rd_T41 l1 (j:Int)).f1.f0=pa at *
  go_enter Try.func27,Try.ntmps27
  go_upto_region 1 with (first
   | ((with_reducible refine gate_dst (N:=2) rfl ?_)
      refine box_event ?hg (N:=2) ?hd (cs:=#[.slice A0 l0.length c0,.slice (some ad) l1.length c1]) (t:=25) ?hr ?_
      (case hd=>rfl)
      (case hg=>rfl)
      (case hr=>first | (go_simp; done) | (go_simp; rfl))
      intro g2 hg2 w2 hbox hb2
      have S22:=Az.mk hbox
      have HB2:=Az.mk hb2
      clear hbox hb2 hg2)
   | ((with_reducible refine gate_dst (N:=4) rfl ?_)
      refine box_event ?hg (N:=4) ?hd (cs:=#[.slice none 0 0,.slice none 0 0,.slice none 0 0]) (t:=74) ?hr ?_
      (case hd=>rfl)
      (case hg=>rfl)
      (case hr=>first | (go_simp; done) | (go_simp; rfl))
      intro g4 hg4 w4 hbox hb4
      have hw4:w.heap.size≤g4:=by have:=HB2.out.size; omega
      have S24:=Az.mk (bkB S22.out hb4)
      have S44:=Az.mk hbox
      have HB4:=Az.mk (bst HB2.out hb4)
      have a0:w4.cell? ⟨g2,0,none⟩=some (.slice A0 l0.length c0):=(blk_cell S24.out 0).trans rfl
      have a1:w4.cell? ⟨g2,1,none⟩=some (.slice (some ad) l1.length c1):=(blk_cell S24.out 1).trans rfl
      have x1:=cell_up HB4.out HX1.out
      have a0':=cel1 a0
      have a1':=cel1 a1
      have x1':=cel1 x1
      clear hbox hb4 hg4 S22 HB2))
  simp only [Act.put,List.setIfInBounds_toArray,List.set_cons_succ,List.set_cons_zero]
  go_cut [5] from 8 to 17 (fun v5 wc=>v5=.pointer (some ⟨w4.heap.size,0,none⟩)∧wc=(w4.alloc (.cells #[.slice A0 l0.length c0,.slice none 0 0,.slice A2 pa.length c2] 74)).drew)
  case first =>
    go_region
    all_goals (go_wp2_with fail; go_meet; exact ⟨rfl,rfl⟩)
  case rest =>
    obtain ⟨rfl,rfl⟩:=hcut
    clear a0 a1 x1 a0' a1' x1'
    have hb5:Below w4.heap.size w4 (w4.alloc (.cells #[.slice A0 l0.length c0,.slice none 0 0,.slice A2 pa.length c2] 74)).drew:=below_drew (bal (Below.refl _ _) _)
    have S5:=Az.mk (show (w4.alloc (.cells #[.slice A0 l0.length c0,.slice none 0 0,.slice A2 pa.length c2] 74)).drew.heap[w4.heap.size]?=some (.cells #[.slice A0 l0.length c0,.slice none 0 0,.slice A2 pa.length c2] 74 (0,0)) from blk_drew (blk_new _ _))
    have HB5:=Az.mk (bst HB4.out hb5)
    have S25:=Az.mk (bkB S24.out hb5)
    have S45:=Az.mk (bkB S44.out hb5)
    have hw5:w.heap.size≤w4.heap.size:=HB4.out.size
    have hn45:g4≠w4.heap.size:=by have:=blk_lt S44.out; omega
    clear hb5 S24 S44 HB4
    generalize (w4.alloc (.cells #[.slice A0 l0.length c0,.slice none 0 0,.slice A2 pa.length c2] 74)).drew=w5 at *
    generalize w4.heap.size=g5 at *
    have b1:w5.cell? ⟨g2,1,none⟩=some (.slice (some ad) l1.length c1):=(blk_cell S25.out 1).trans rfl
    go_wp2_with fail
    clear b1
    go_loopg [21] l1.length (fun kq v21 wr=>∃ (i:Nat) (Af:Option Addr) (cf:Nat),v21=.int .i64 (i:Int)∧Az (i+kq=l1.length)∧Az (Kd.N k39 39 wr w.heap.size (fun k=>k≠g4∧k≠g5) (.slice Af i cf) ((l1.take i).map (·.f1)))∧Az (wr.heap[g5]?=some (.cells #[.slice A0 l0.length c0,.slice Af i cf,.slice A2 pa.length c2] 74 (0,0)))∧Az (wr.heap[g4]?=some (.cells #[.slice none 0 0,.slice none 0 0,.slice none 0 0] 74 (0,0)))∧Az (Below w.heap.size w wr))
    case atStart=>exact ⟨0,none,0,rfl,⟨by omega⟩,⟨Kd.N_nil _ _ _ _ _⟩,S5,S45,HB5⟩
    case round =>
      clear S5 S45 HB5 S25
      obtain ⟨i,Af,cf,rfl,Hi,HN,S5,S4,HB⟩:=hrel
      have h64':=H64.out
      by_cases hlt:i < l1.length
      rotate_left
      · have hie:i=l1.length:=by have:=Hi.out; omega
        subst hie
        have e0:wr.cell? ⟨g5,0,none⟩=some (.slice A0 l0.length c0):=(blk_cell S5.out 0).trans rfl
        have e1:wr.cell? ⟨g5,1,none⟩=some (.slice Af l1.length cf):=(blk_cell S5.out 1).trans rfl
        have e2:wr.cell? ⟨g5,2,none⟩=some (.slice A2 pa.length c2):=(blk_cell S5.out 2).trans rfl
        have d0:wr.cell? ⟨g4,0,none⟩=some (.slice none 0 0):=(blk_cell S4.out 0).trans rfl
        have d1:wr.cell? ⟨g4,1,none⟩=some (.slice none 0 0):=(blk_cell S4.out 1).trans rfl
        have d2:wr.cell? ⟨g4,2,none⟩=some (.slice none 0 0):=(blk_cell S4.out 2).trans rfl
        have f0:=bkF S4.out 0
        have f1:=bkF S4.out 1
        have f2:=bkF S4.out 2
        go_wp2_with fail
        have Sz:=blk_put (cs':=#[.slice A0 l0.length c0,.slice Af l1.length cf,.slice A2 pa.length c2]) (blk_put (cs':=#[.slice A0 l0.length c0,.slice Af l1.length cf,.slice none 0 0]) (blk_put (cs':=#[.slice A0 l0.length c0,.slice none 0 0,.slice none 0 0]) S4.out 0 (.slice A0 l0.length c0) rfl) 1 (.slice Af l1.length cf) rfl) 2 (.slice A2 pa.length c2) rfl
        refine bodyPost_ret (results_cell_row rfl _ _ g4 74 #[.slice A0 l0.length c0,.slice Af l1.length cf,.slice A2 pa.length c2] (0,0) _ rfl Sz Try.underlying74 rfl (by kernel_rfl)) rfl ?_
        have hN:=HN.out
        rw [List.take_length] at hN
        have hV:=Kd.V_far (p:=⟨g4,2,none⟩) (Kd.V_far (p:=⟨g4,1,none⟩) (Kd.V_far (p:=⟨g4,0,none⟩) (Kd.N_V (base':=w.heap.size) hN) (fun k hk=>hk.1) (.slice A0 l0.length c0)) (fun k hk=>hk.1) (.slice Af l1.length cf)) (fun k hk=>hk.1) (.slice A2 pa.length c2)
        have hbz:=bset (g:=g4) (j:=2) (v:=.slice A2 pa.length c2) (bset (g:=g4) (j:=1) (v:=.slice Af l1.length cf) (bset (g:=g4) (j:=0) (v:=.slice A0 l0.length c0) HB.out hw4) hw4) hw4
        exact ⟨_,A2,c2,rfl,Kd.V_mono hV (fun _ _=>trivial),Kd.V_below HV2.out hbz,hbz⟩
      obtain ⟨ad',A3,c3,A4,c4,he,hx0,hx1,hx2,hx3,hx4,hl3,hC3,hl4,hC4⟩:=at_T41 HR1.out (i:Int) (by omega) (by omega)
      cases he
      replace hx0:=(HB.out.cell (World.block_lt_of_cell? w _ hx0)).trans hx0
      replace hx1:=(HB.out.cell (World.block_lt_of_cell? w _ hx1)).trans hx1
      replace hx2:=(HB.out.cell (World.block_lt_of_cell? w _ hx2)).trans hx2
      replace hx3:=(HB.out.cell (World.block_lt_of_cell? w _ hx3)).trans hx3
      replace hx4:=(HB.out.cell (World.block_lt_of_cell? w _ hx4)).trans hx4
      rw [Int.toNat_natCast] at hx0 hx1 hx2 hx3 hx4
      have HSN:=Az.mk (take46_snoc hlt)
      have HF3:=Az.mk (Kd.C_F k39_heap hC3)
      have Hl3:=Az.mk hl3
      have q1:(0≤(i:Int))=True:=eq_true (by omega)
      have q2:((i:Int) < (l1.length:Int))=True:=eq_true (by omega)
      have q3:(i < l1.length)=True:=eq_true (by omega)
      clear hC3 hl4 hC4 hl3
      generalize rd_T41 l1 (i:Int)=x at *
      go_wp2_with (first
        | ((with_reducible refine gate_dst (N:=7) rfl ?_)
           refine box_event ?hg (N:=7) ?hd (cs:=#[.string (⟨#[]⟩:ByteArray),.slice none 0 0,.int .i64 0,.int .i64 0,.slice none 0 0]) (t:=41) ?hr ?_
           (case hd=>rfl)
           (case hg=>rfl)
           (case hr=>first | (go_simp; done) | (go_simp; rfl))
           intro gi hgi w6 hbox hb6
           have hgw:wr.heap.size≤gi:=by omega
           have Hbw:=Az.mk (bset (g:=gi) (j:=4) (v:=.slice A4 x.f2.f2.length c4) (bset (g:=gi) (j:=3) (v:=.int .i64 x.f2.f1) (bset (g:=gi) (j:=2) (v:=.int .i64 x.f2.f0) (bset (g:=gi) (j:=1) (v:=.slice A3 x.f1.f0.length c3) (bset (g:=gi) (j:=0) (v:=.string x.f0) hb6 hgw) hgw) hgw) hgw) hgw)
           have Hgi:=Az.mk (blk_put (cs':=#[.string x.f0,.slice A3 x.f1.f0.length c3,.int .i64 x.f2.f0,.int .i64 x.f2.f1,.slice A4 x.f2.f2.length c4]) (blk_put (cs':=#[.string x.f0,.slice A3 x.f1.f0.length c3,.int .i64 x.f2.f0,.int .i64 x.f2.f1,.slice none 0 0]) (blk_put (cs':=#[.string x.f0,.slice A3 x.f1.f0.length c3,.int .i64 x.f2.f0,.int .i64 0,.slice none 0 0]) (blk_put (cs':=#[.string x.f0,.slice A3 x.f1.f0.length c3,.int .i64 0,.int .i64 0,.slice none 0 0]) (blk_put (cs':=#[.string x.f0,.slice none 0 0,.int .i64 0,.int .i64 0,.slice none 0 0]) hbox 0 (.string x.f0) rfl) 1 (.slice A3 x.f1.f0.length c3) rfl) 2 (.int .i64 x.f2.f0) rfl) 3 (.int .i64 x.f2.f1) rfl) 4 (.slice A4 x.f2.f2.length c4) rfl)
           have hcz0:=(blk_cell hbox 0).trans rfl
           have hfz0:=bkF hbox 0
           have hcz1:=(blk_cell hbox 1).trans rfl
           have hfz1:=bkF hbox 1
           have hcz2:=(blk_cell hbox 2).trans rfl
           have hfz2:=bkF hbox 2
           have hcz3:=(blk_cell hbox 3).trans rfl
           have hfz3:=bkF hbox 3
           have hcz4:=(blk_cell hbox 4).trans rfl
           have hfz4:=bkF hbox 4
           have m1:=(blk_cell Hgi.out 1).trans rfl
           have m5:=(blk_cell (bkB S5.out Hbw.out) 1).trans rfl
           clear hbox hb6 hgi hgw)
        | (at_builtin; refine holdX ?_))
      unfold HoldX
      clear hcz0 hcz1 hcz2 hcz3 hcz4 hfz0 hfz1 hfz2 hfz3 hfz4 m1 m5 hx0 hx1 hx2 hx3 hx4
      have hs:(((((w6.setCell ⟨gi,0,none⟩ (.string x.f0)).setCell ⟨gi,1,none⟩ (.slice A3 x.f1.f0.length c3)).setCell ⟨gi,2,none⟩ (.int .i64 x.f2.f0)).setCell ⟨gi,3,none⟩ (.int .i64 x.f2.f1)).setCell ⟨gi,4,none⟩ (.slice A4 x.f2.f2.length c4)).heap.size=w6.heap.size:=by simp only [World.size_setCell]
      rw [← hs]
      clear hs
      generalize (((((w6.setCell ⟨gi,0,none⟩ (.string x.f0)).setCell ⟨gi,1,none⟩ (.slice A3 x.f1.f0.length c3)).setCell ⟨gi,2,none⟩ (.int .i64 x.f2.f0)).setCell ⟨gi,3,none⟩ (.int .i64 x.f2.f1)).setCell ⟨gi,4,none⟩ (.slice A4 x.f2.f2.length c4))=wq at *
      have HBq:=Az.mk (bst HB.out Hbw.out)
      have HNq:=Az.mk (Kd.N_below HN.out Hbw.out)
      have S5q:=Az.mk (bkB S5.out Hbw.out)
      have S4q:=Az.mk (bkB S4.out Hbw.out)
      clear Hbw HN S5 S4 HB Hgi
      refine Kd.N_append k39 (w0:=w) w.heap.size rfl (.tmp 26) (.tmp 29) 37 39 (.agg #[.slice none 0 0]) 24 rfl Try.underlying37 infoS39 rfl (by decide) (by omega) (.slice Af i cf) ((l1.take i).map (·.f1)) ⟨x.f1.f0⟩ [.slice A3 x.f1.f0.length c3] (fun k=>k≠g4∧k≠g5) (fun k=>k < w.heap.size) rfl rfl (k39_mkF _ _ (⟨x.f1.f0⟩:S39) Hl3.out (Kd.F_below HF3.out HBq.out)) (fun k hk=>⟨⟨by omega,by omega⟩,fun e=>by have:=Kd.N_base HNq.out k e.symm; omega⟩) (fun k hk=>by have:=blk_lt S4q.out; have:=blk_lt S5q.out; exact ⟨by omega,by omega⟩) HNq.out HBq.out HBq.out.size (by rw [List.length_map,List.length_take]; have:=H64.out; omega) ?_
      intro v2 w7 hn7 hb7 hg7 hat
      rw [HSN.out] at hn7
      obtain ⟨A5,c5,e2⟩:=Kd.N_slice hn7
      rw [List.length_map,List.length_take,Nat.min_eq_left (by omega)] at e2
      subst e2
      have HN7:=Az.mk hn7
      have HB7:=Az.mk hb7
      have S57:=Az.mk (blk_grown S5q.out hg7 (Kd.N_away HNq.out (fun k hk=>hk.2)))
      have S47:=Az.mk (blk_grown S4q.out hg7 (Kd.N_away HNq.out (fun k hk=>hk.1)))
      have m5:w7.cell? ⟨g5,1,none⟩=some (.slice Af i cf):=(blk_cell S57.out 1).trans rfl
      have f5:=bkF S57.out 1
      clear hn7 hb7 hg7 hat HNq S5q S4q HBq HSN HF3 Hl3
      go_wp2_with fail
      have HN8:=Az.mk (Kd.N_far (p:=⟨g5,1,none⟩) HN7.out (fun k hk=>hk.2) (.slice A5 (i+1) c5))
      have HB8:=Az.mk (bset (g:=g5) (j:=1) (v:=.slice A5 (i+1) c5) HB7.out hw5)
      have S58:=Az.mk (blk_put (cs':=#[.slice A0 l0.length c0,.slice A5 (i+1) c5,.slice A2 pa.length c2]) S57.out 1 (.slice A5 (i+1) c5) rfl)
      have S48:=Az.mk (blk_far (p:=⟨g5,1,none⟩) S47.out hn45 (.slice A5 (i+1) c5))
      have hk:=Hi.out
      obtain ⟨k1,rfl⟩:∃ k1,gk=k1+1:=⟨gk - 1,by omega⟩
      go_roundg k1
      case measure=>omega
      case rel=>exact ⟨i+1,A5,c5,by go_num,⟨by omega⟩,HN8,S58,S48,HB8⟩
end Go.Proofs.Ytkgknidogelffaa.I
namespace Go.Proofs.Ytkgknidogelffaa.I
open Go.RowKit Go.Proofs.YtkgknidogelffaaW.PrintWords Go.Proofs.YtkgknidogelffaaW.PrintLast Go.Proofs.YtkgknidogelffaaW.PrintMore
open Go.WideShapes Go.Maps Go.ChangeMaps Go.WideMaps
set_option linter.unusedVariables false
set_option maxRecDepth 100000
set_option linter.unusedSimpArgs false
def lits (L:List ByteArray):List Lit:=L.map (fun s=>Lit.string s.data.toList)
def isIn (L:List ByteArray) (s:ByteArray):Bool:=L.any (fun x=>x.data.toList == s.data.toList)
def Seen (w:World) (b n:Nat) (L:List ByteArray):Prop:=w.ownsMap (H:=Unit) Try.prog 9 (plainElem Try.prog 4) b n (setOf (.lit (.bool true)) (lits L))
theorem seen_made (w:World):Seen (w.alloc (.map #[] 0)) w.heap.size 0 []:=World.ownsMap_made w Try.prog 9 _
theorem bool_inv {e:TypeId} (he:Try.prog.underlying e=some .bool) {v:Value} {z:DataW Unit × List MemPlace} (h:plainElem Try.prog e v=some z):∃ x,v=.bool x∧z=(.lit (.bool x),[]):=by
  unfold plainElem at h
  rw [he] at h
  cases v <;> simp at h
  exact ⟨_,rfl,h.symm⟩
theorem iskey (x:ByteArray):WideAt.IsKeyLit (Lit.string x.data.toList):=trivial
theorem atKey_set (L:List ByteArray) (s:ByteArray):(setOf (H:=Unit) (.lit (.bool true)) (lits L)).atKey (.string s.data.toList) (.lit (.bool false))=.lit (.bool (isIn L s)):=by
  have gen:∀ (M:List ByteArray),(setOf (H:=Unit) (.lit (.bool true)) (lits M.reverse)).atKey (.string s.data.toList) (.lit (.bool false))=.lit (.bool (isIn M s)):=by
    intro M
    induction M with
    | nil=>rfl
    | cons x M ih =>
      have e:lits (x :: M).reverse=lits M.reverse ++ [Lit.string x.data.toList]:=by simp [lits]
      have hk:∀ y ∈ lits M.reverse,WideAt.IsKeyLit y:=by
        intro y hy
        obtain ⟨z,_,rfl⟩:=List.mem_map.1 hy
        exact iskey z
      rw [e,setOf_snoc]
      by_cases hx:x.data.toList=s.data.toList
      · rw [hx,atKey_put_same (tidy_setOf _ _ hk).isMap (iskey s)]
        have:(x.data.toList == s.data.toList)=true:=beq_iff_eq.2 hx
        unfold isIn
        rw [List.any_cons,this]
        rfl
      · have hne:Lit.string s.data.toList≠Lit.string x.data.toList:=by
          intro h
          injection h with h
          exact hx h.symm
        rw [atKey_put_other hne,ih]
        have:(x.data.toList == s.data.toList)=false:=beq_eq_false_iff_ne.2 hx
        unfold isIn
        rw [List.any_cons,this]
        rfl
  have:=gen L.reverse
  rw [List.reverse_reverse] at this
  rw [this]
  simp [isIn,List.any_reverse]
theorem law9:Keyed Try.prog 9:=string_keyed Try.underlying9
theorem zero4 (w:World):(zeroValue 4).run Try.prog w=.ok (.bool false) w:=by kernel_rfl
theorem seen_look {w:World} {b n:Nat} {L:List ByteArray} (h:Seen w b n L) (s:ByteArray) (hs:s.size≤maxLen):(Instr.lookup 120 (.map (some b)) (.string s) false).run Try.prog w=.ok (.bool (isIn L s)) w:=by
  obtain ⟨v,ps,hrun,hv⟩:=World.ownsMap.lookup (t:=120) h law9 Try.underlying120 (zero4 w) (plainElem_bool Try.underlying4 false) (keyOf_string_mk Try.underlying9 hs)
  obtain ⟨x,rfl,hx⟩:=bool_inv Try.underlying4 hv
  injection hx with hx _
  rw [atKey_set] at hx
  injection hx with hx
  injection hx with hx
  rw [hrun,hx]
theorem Seen.grown {w w1:World} {b n:Nat} {L:List ByteArray} (h:Seen w b n L) (hb:Below w.heap.size w w1):Seen w1 b n L :=
  World.ownsMap.kept (row:=none) h ⟨hb.os,hb.tape,hb.output,hb.size,fun i hi _=>hb.block i hi⟩ (by simp)
theorem Seen.set {w:World} {b n:Nat} {L:List ByteArray} (h:Seen w b n L) {p:Addr} (hp:b≠p.block) (u:Value):Seen (w.setCell p u) b n L:=by
  obtain ⟨es,clock,hb,r⟩:=h
  exact ⟨es,clock,by rw [Below.heap_setCell _ _ _ _ hp]; exact hb,r⟩
theorem Seen.lt {w:World} {b n:Nat} {L:List ByteArray} (h:Seen w b n L):b < w.heap.size:=World.ownsMap.lt h
theorem seen_put {b n:Nat} {L:List ByteArray} {s:ByteArray} {w':World} (h:w'.ownsMap (H:=Unit) Try.prog 9 (plainElem Try.prog 4) b (n+1) ((setOf (.lit (.bool true)) (lits L)).put (.string s.data.toList) (.lit (.bool true)))):Seen w' b (n+1) (L ++ [s]):=by
  unfold Seen
  rw [show lits (L ++ [s])=lits L ++ [Lit.string s.data.toList] from by simp [lits],setOf_snoc]
  exact h
end Go.Proofs.Ytkgknidogelffaa.I
namespace Go.Proofs.Ytkgknidogelffaa.I
open Go.RowKit Go.Proofs.YtkgknidogelffaaW.PrintWords Go.Proofs.YtkgknidogelffaaW.PrintLast Go.Proofs.YtkgknidogelffaaW.PrintMore
open Go.WideShapes Go.Maps Go.ChangeMaps Go.WideMaps
attribute [local go_sem] max2_int min2_int max_two min_two max_three min_three max_four min_four
set_option linter.unusedVariables false
set_option maxRecDepth 100000
set_option linter.unusedSimpArgs false
def symBad (x:S84) (L:List ByteArray):Bool:=!nameOk x.f0 || (isIn L x.f0 || (decide (x.f1 < 0) || decide (4 < x.f1)))
def symsL:List S84→List ByteArray→Bool
  | [],_=>true
  | x :: xs,L=>if symBad x L=true then false else symsL xs (L ++ [x.f0])
def names59 (l:List S84):List ByteArray:=l.map (fun x=>x.f0)
def term_Symbols.f (l0:List S84):Option Bool:=some (symsL l0 [] && decide (l0.length≤24))
theorem rd_T84_drop (l:List S84) (i:Nat) (h:i < l.length):l.drop i=rd_T84 l (i:Int) :: l.drop (i+1):=by
  rw [List.drop_eq_getElem_cons h]
  simp [rd_T84,List.getD_eq_getElem?_getD,List.getElem?_eq_getElem h]
theorem rd_T84_take (l:List S84) (i:Nat) (h:i < l.length):names59 (l.take i) ++ [(rd_T84 l (i:Int)).f0]=names59 (l.take (i+1)):=by
  have e:l.take (i+1)=l.take i ++ [l[i]]:=by rw [List.take_add_one,List.getElem?_eq_getElem h]; rfl
  have e2:rd_T84 l (i:Int)=l[i]:=by unfold rd_T84; rw [Int.toNat_natCast,List.getD_eq_getElem?_getD,List.getElem?_eq_getElem h]; rfl
  rw [e,e2]
  unfold names59
  rw [List.map_append]
  rfl
theorem nameOk_size {s:ByteArray} (h:nameOk s=true):s.size≤maxLen:=by
  unfold nameOk at h
  rw [Bool.and_eq_true,decide_eq_true_eq] at h
  have:=h.1.2.1
  unfold maxLen
  omega
def HoldI (p:Prop):Prop:=p
theorem holdI {p:Prop} (h:HoldI p):p:=h
theorem drawn_below {w w1:World} (h:Drawn0 w w1):Below w.heap.size w w1:=by
  obtain ⟨nd,rfl⟩:=h
  exact pwN (Below.refl _ _) nd
set_option maxHeartbeats 4000000 in
theorem term_Symbols.calls (A0:Option Addr) (c0:Nat) (l0:List S84) (r:Bool) (w:World) (hr0:Kd.C k84 w A0 l0.length l0) (hc0:l0.length≤c0) (h:term_Symbols.f l0=some r) :
    Calls Try.prog 52 #[.slice A0 l0.length c0] w fun e w'=>e=.returned (.bool r)∧Below w.heap.size w w':=by
  have hu84:=Try.underlying84
  have hmm:=@run_makeMap Try.prog
  have hlen:l0.length≤9223372036854775807:=hr0.2.1
  have HR:=Az.mk hr0
  have HC:=Az.mk hc0
  have H:=Az.mk h
  clear hr0 hc0 h
  go_enter Try.func52,Try.ntmps52
  go_wp2_with fail
  go_loopg [9] l0.length (fun kq v9 wr=>∃ (i:Nat),v9=.int .i64 (i:Int)∧Az (kq+i=l0.length)∧Az (Seen wr w.heap.size i (names59 (l0.take i)))∧Az (symsL (l0.drop i) (names59 (l0.take i))=symsL l0 [])∧Az (Below w.heap.size w wr))
  case atStart=>exact ⟨0,rfl,⟨by omega⟩,⟨seen_made w⟩,⟨rfl⟩,⟨bal (Below.refl _ _) _⟩⟩
  case round =>
    obtain ⟨i,rfl,Hi,HS,HM,HB⟩:=hrel
    have hi:i≤l0.length:=by have:=Hi.out; omega
    by_cases hlt:i < l0.length
    · have hdrop:=Az.mk (rd_T84_drop l0 i hlt)
      have htake:=Az.mk (rd_T84_take l0 i hlt)
      obtain ⟨ad,he,hx1,hx2⟩:=at_T84 HR.out (i:Int) (by omega) (by omega)
      cases he
      replace hx1:=(HB.out.cell (World.block_lt_of_cell? w _ hx1)).trans hx1
      replace hx2:=(HB.out.cell (World.block_lt_of_cell? w _ hx2)).trans hx2
      rw [Int.toNat_natCast] at hx1 hx2
      have p1:(0≤(i:Int))=True:=eq_true (by omega)
      have p2:((i:Int) < (l0.length:Int))=True:=eq_true (by omega)
      have p3:(i < l0.length)=True:=eq_true (by omega)
      generalize hx:rd_T84 l0 (i:Int)=x at *
      clear hx
      obtain ⟨kN,hN⟩:=(name_ev x.f0).rounds
      have HN:=Az.mk hN
      clear hN
      go_wp2_with (
        (with_reducible refine gate_dst (N:=5) rfl ?_)
        refine box_event ?hg (N:=5) ?hd (cs:=#[.string (⟨#[]⟩:ByteArray),.int .i64 0]) (t:=84) ?hr ?_
        (case hd=>rfl)
        (case hg=>rfl)
        (case hr=>first | (go_simp; done) | (go_simp; rfl))
        intro gi hgi w3 hbox hb3
        have hsz:=below_size HB.out
        have hgw:w.heap.size≤gi:=by omega
        have hnb:w.heap.size≠gi:=by have:=HS.out.lt; omega
        have HB3:=Az.mk (bset (g:=gi) (j:=1) (v:=.int .i64 x.f1) (bset (g:=gi) (j:=0) (v:=.string x.f0) (bst HB.out hb3) hgw) hgw)
        have HS3:=Az.mk (Seen.set (Seen.set (Seen.grown HS.out hb3) (p:=⟨gi,0,none⟩) hnb (.string x.f0)) (p:=⟨gi,1,none⟩) hnb (.int .i64 x.f1))
        have Hgi:=Az.mk (blk_put (cs':=#[.string x.f0,.int .i64 x.f1]) (blk_put (cs':=#[.string x.f0,.int .i64 0]) hbox 0 (.string x.f0) rfl) 1 (.int .i64 x.f1) rfl)
        have hci0:((w3.setCell ⟨gi,0,none⟩ (.string x.f0)).setCell ⟨gi,1,none⟩ (.int .i64 x.f1)).cell? ⟨gi,0,none⟩=some (.string x.f0):=(blk_cell Hgi.out 0).trans rfl
        have hcz0:=(blk_cell hbox 0).trans rfl
        have hcz1:=(blk_cell hbox 1).trans rfl
        have hfz0:=bkF hbox 0
        have hfz1:=bkF hbox 1
        clear hbox hb3 hgi hsz)
      (with_reducible refine (term_Name.calls kN x.f0 (nameOk x.f0) _ HN.out).mono ?_)
      rintro e w4 ⟨rfl,hD⟩
      have hB4:=drawn_below hD
      have HB4:=Az.mk (bst HB3.out hB4)
      have HS4:=Az.mk (Seen.grown HS3.out hB4)
      have Hg4:=Az.mk (bkB Hgi.out hB4)
      have hc0:w4.cell? ⟨gi,0,none⟩=some (.string x.f0):=(blk_cell Hg4.out 0).trans rfl
      have hc1:w4.cell? ⟨gi,1,none⟩=some (.int .i64 x.f1):=(blk_cell Hg4.out 1).trans rfl
      clear hD hB4 HB HS HB3 HS3 Hgi hci0 hcz0 hcz1 hfz0 hfz1
      cases hn:nameOk x.f0 with
      | false =>
        have hr:r=false:=by
          have e:=H.out
          unfold term_Symbols.f at e
          rw [← HM.out,hdrop.out,symsL,if_pos (by simp [symBad,hn]),Bool.false_and] at e
          injection e with e
          exact e.symm
        subst hr
        go_wp2_with fail
        go_ret
        exact ⟨rfl,HB4.out⟩
      | true =>
        have hlk:=seen_look HS4.out x.f0 (nameOk_size hn)
        cases hin:isIn (names59 (l0.take i)) x.f0 with
        | true =>
          have hr:r=false:=by
            have e:=H.out
            unfold term_Symbols.f at e
            rw [← HM.out,hdrop.out,symsL,if_pos (by simp [symBad,hn,hin]),Bool.false_and] at e
            injection e with e
            exact e.symm
          rw [hin] at hlk
          subst hr
          go_wp2_with fail
          go_ret
          exact ⟨rfl,HB4.out⟩
        | false =>
          rw [hin] at hlk
          by_cases h1:x.f1 < 0
          · have h1b:decide (x.f1 < 0)=true:=decide_eq_true h1
            have hr:r=false:=by
              have e:=H.out
              unfold term_Symbols.f at e
              rw [← HM.out,hdrop.out,symsL,if_pos (by simp [symBad,hn,hin,h1]),Bool.false_and] at e
              injection e with e
              exact e.symm
            clear h1
            subst hr
            go_wp2_with fail
            go_ret
            exact ⟨rfl,HB4.out⟩
          · have h1b:decide (x.f1 < 0)=false:=decide_eq_false h1
            by_cases h2:4 < x.f1
            · have h2b:decide (4 < x.f1)=true:=decide_eq_true h2
              have hr:r=false:=by
                have e:=H.out
                unfold term_Symbols.f at e
                rw [← HM.out,hdrop.out,symsL,if_pos (by simp [symBad,hn,hin,h1,h2]),Bool.false_and] at e
                injection e with e
                exact e.symm
              clear h1 h2
              subst hr
              go_wp2_with fail
              go_ret
              exact ⟨rfl,HB4.out⟩
            · have h2b:decide (4 < x.f1)=false:=decide_eq_false h2
              have HM2:Az (symsL (l0.drop (i+1)) (names59 (l0.take (i+1)))=symsL l0 []):=⟨by rw [← HM.out,hdrop.out,symsL,if_neg (by simp [symBad,hn,hin,h1,h2]),htake.out]⟩
              have hkey:=keyOf_string_mk Try.underlying9 (nameOk_size hn)
              have Hkey:=Az.mk hkey
              clear h1 h2 hn hin hkey
              go_wp2_with (at_mapUpdate; refine holdI ?_)
              unfold HoldI
              refine wpList_mapUpdate_own (H:=Unit) _ rfl (.tmp 33) (.tmp 35) (.const (.bool true)) 120 rfl 9 4 law9 Try.underlying120 (plainElem Try.prog 4) w.heap.size i _ rfl HS4.out (by unfold maxLen; omega) (.string x.f0) (.bool true) (.string x.f0.data.toList) rfl rfl Hkey.out _ [] (plainElem_bool Try.underlying4 true) ?_
              intro w5 hown5 hgrow5
              have HS5:=Az.mk (seen_put hown5)
              have HB5:=Az.mk (HB4.out.grown hgrow5 HB4.out.size (fun k hk=>by injection hk with hk; omega))
              rw [htake.out] at HS5
              clear hown5 hgrow5 hc0 hc1 hlk HS4 HB4 HM
              go_wp2_with fail
              have hk:=Hi.out
              obtain ⟨k1,rfl⟩:∃ k1,gk=k1+1:=⟨gk - 1,by omega⟩
              go_roundg k1
              case measure=>omega
              case rel=>exact ⟨i+1,by go_num,⟨by omega⟩,HS5,HM2,HB5⟩
    · have hie:i=l0.length:=by omega
      have hr:r=decide ((l0.length:Int)≤24):=by
        have e:=H.out
        unfold term_Symbols.f at e
        rw [← HM.out,hie,List.drop_length,symsL,Bool.true_and] at e
        injection e with e
        rw [← e]
        exact decide_eq_decide.2 (by omega)
      clear hie
      subst hr
      go_wp2_with fail
      go_ret
      exact ⟨rfl,HB.out⟩
end Go.Proofs.Ytkgknidogelffaa.I
namespace Go.Proofs.Ytkgknidogelffaa.I
open Go.RowKit Go.Proofs.YtkgknidogelffaaW.PrintWords Go.Proofs.YtkgknidogelffaaW.PrintLast Go.Proofs.YtkgknidogelffaaW.PrintMore
set_option linter.unusedVariables false
set_option maxRecDepth 100000
set_option linter.unusedSimpArgs false
theorem isIn_cons (x:ByteArray) (L:List ByteArray) (s:ByteArray):isIn (x :: L) s=(x.data.toList == s.data.toList || isIn L s):=rfl
theorem sym_inner {l:List S84} {i:Nat} {nm:ByteArray} {rk:Int} {R:Bool} (y:List S84) (hy:y.length≤1000) (hR:Ev (fun k=>virgationref02_Symbols.l0 k l l (l.length:Int) (wrap64 ((i:Int)+1))) R) :
    ∀ (m j:Nat),y.length - j=m→j≤y.length→Ev (fun k=>virgationref02_Symbols.l1 k l l (l.length:Int) (i:Int) y (y.length:Int) (j:Int) nm rk) (if isIn (names59 (y.drop j)) nm=true then false else R):=by
  intro m
  induction m with
  | zero =>
    intro j hn hj
    have hd:y.drop j=[]:=List.drop_eq_nil_of_le (by omega)
    rw [hd,if_neg (by simp [names59,isIn])]
    exact Ev.step (fun k=>by rw [virgationref02_Symbols.l1,if_neg (by omega)]) hR
  | succ m ihm =>
    intro j hn hj
    have hjl:j < y.length:=by omega
    refine Ev.step (fun k=>by rw [virgationref02_Symbols.l1,if_pos (by omega),if_pos (by omega),if_pos (by omega)]) ?_
    rw [rd_T84_drop y j hjl]
    show Ev _ (if isIn ((rd_T84 y (j:Int)).f0 :: names59 (y.drop (j+1))) nm=true then false else R)
    rw [isIn_cons]
    by_cases he:nm.toList=(rd_T84 y (j:Int)).f0.toList
    · have:((rd_T84 y (j:Int)).f0.data.toList == nm.data.toList)=true:=by rw [beq_iff_eq,← Go.ByteArray.toList_eq,← Go.ByteArray.toList_eq]; exact he.symm
      rw [this,Bool.true_or,if_pos rfl]
      exact Ev.ifp he (Ev.now _)
    · have:((rd_T84 y (j:Int)).f0.data.toList == nm.data.toList)=false:=by
        rw [beq_eq_false_iff_ne,← Go.ByteArray.toList_eq,← Go.ByteArray.toList_eq]
        exact fun h=>he h.symm
      rw [this,Bool.false_or]
      refine Ev.ifn he ?_
      rw [w64 _ (by omega)]
      exact ihm (j+1) (by omega) (by omega)
theorem sym_j1 {l:List S84} {i:Nat} {nm:ByteArray} {rk:Int} {R:Bool} (hl:l.length≤24) (hi:i < l.length) (b:Bool) (hR:Ev (fun k=>virgationref02_Symbols.l0 k l l (l.length:Int) (wrap64 ((i:Int)+1))) R) :
    Ev (fun k=>virgationref02_Symbols.j1 k l (i:Int) l (l.length:Int) (i:Int) b nm rk) (if (b || isIn (names59 (l.take i)) nm)=true then false else R):=by
  cases b with
  | true=>exact Ev.step (fun k=>by rw [virgationref02_Symbols.j1,if_pos rfl]; rfl) (Ev.now _)
  | false =>
    rw [Bool.false_or]
    refine Ev.step (fun k=>by rw [virgationref02_Symbols.j1,if_neg (by simp),if_pos (by omega),if_pos (by omega)]) ?_
    simp only [Option.bind_some,Int.toNat_natCast]
    have:=sym_inner (nm:=nm) (rk:=rk) (l.take i) (by rw [List.length_take]; omega) hR (l.take i).length 0 (by omega) (by omega)
    rw [List.drop_zero] at this
    exact this
theorem symbols_ev (l:List S84):Ev (fun k=>virgationref02_Symbols.f k l) (symsL l [] && decide (l.length≤24)):=by
  unfold virgationref02_Symbols.f
  by_cases h:(l.length:Int) > 24
  · rw [decide_eq_false (by omega:¬ l.length≤24),Bool.and_false]
    exact Ev.ifp h (Ev.now _)
  · rw [decide_eq_true (by omega:l.length≤24),Bool.and_true]
    refine Ev.ifn h ?_
    have loop:∀ (m i:Nat),l.length - i=m→i≤l.length→Ev (fun k=>virgationref02_Symbols.l0 k l l (l.length:Int) (i:Int)) (symsL (l.drop i) (names59 (l.take i))):=by
      intro m
      induction m with
      | zero =>
        intro i hn hi
        have hd:l.drop i=[]:=List.drop_eq_nil_of_le (by omega)
        rw [hd]
        change Ev _ true
        exact Ev.step (fun k=>by rw [virgationref02_Symbols.l0,if_neg (by omega)]) (Ev.now _)
      | succ m ihm =>
        intro i hn hi
        have hil:i < l.length:=by omega
        have hR:Ev (fun k=>virgationref02_Symbols.l0 k l l (l.length:Int) (wrap64 ((i:Int)+1))) (symsL (l.drop (i+1)) (names59 (l.take (i+1)))):=by
          rw [w64 _ (by omega)]
          exact ihm (i+1) (by omega) (by omega)
        refine Ev.step (fun k=>by rw [virgationref02_Symbols.l0,if_pos (by omega),if_pos (by omega),if_pos (by omega)]) ?_
        refine Ev.bind (refname_ev _) ?_
        rw [rd_T84_drop l i hil]
        show Ev _ (if symBad (rd_T84 l (i:Int)) (names59 (l.take i))=true then false else symsL (l.drop (i+1)) (names59 (l.take i) ++ [(rd_T84 l (i:Int)).f0]))
        rw [rd_T84_take l i hil]
        unfold symBad
        cases hn1:nameOk (rd_T84 l (i:Int)).f0
        · refine Ev.ifn (by simp) ?_
          have:=sym_j1 (nm:=(rd_T84 l (i:Int)).f0) (rk:=(rd_T84 l (i:Int)).f1) (by omega) hil true hR
          simpa using this
        · refine Ev.ifp rfl ?_
          by_cases h0:(rd_T84 l (i:Int)).f1 < 0
          · refine Ev.ifp h0 ?_
            have:=sym_j1 (nm:=(rd_T84 l (i:Int)).f0) (rk:=(rd_T84 l (i:Int)).f1) (by omega) hil true hR
            simpa [h0] using this
          · refine Ev.ifn h0 ?_
            have:=sym_j1 (nm:=(rd_T84 l (i:Int)).f0) (rk:=(rd_T84 l (i:Int)).f1) (by omega) hil (decide ((rd_T84 l (i:Int)).f1 > 4)) hR
            rw [decide_eq_false h0,Bool.not_true,Bool.false_or,Bool.false_or,Bool.or_comm]
            exact this
    exact loop l.length 0 (by omega) (by omega)
end Go.Proofs.Ytkgknidogelffaa.I
namespace Go.Proofs.Ytkgknidogelffaa.I
open Go.RowKit Go.Proofs.YtkgknidogelffaaW.PrintWords Go.Proofs.YtkgknidogelffaaW.PrintLast Go.Proofs.YtkgknidogelffaaW.PrintMore
attribute [local go_sem] max2_int min2_int max_two min_two max_three min_three max_four min_four
set_option linter.unusedVariables false
set_option maxRecDepth 100000
set_option linter.unusedSimpArgs false
def funOk (f:S41):Bool:=nameOk f.f0 && (isok f.f1.f0 && !big f.f2)
def funsL:List S41→List ByteArray→Bool
  | [],_=>true
  | f :: fs,L=>(funOk f && !isIn L f.f0) && funsL fs (L ++ [f.f0])
def bodiesL (sy:List S84) (fu:List S39):List S41→Bool
  | []=>true
  | f :: fs=>(match ofT sy fu f.f1.f0 f.f2 with
    | none=>false
    | some s=>decide (s.length=0)) && bodiesL sy fu fs
def names46 (l:List S41):List ByteArray:=l.map (fun x=>x.f0)
def schB (sy:List S84) (fs:List S41):Bool:=(symsL sy [] && decide (sy.length≤24)) && ((decide (1≤fs.length) && decide (fs.length≤64)) && (funsL fs [] && (decide ((rd_T41 fs 0).f1.f0.length=0) && bodiesL sy (fs.map (·.f1)) fs)))
theorem rd_T41_drop (l:List S41) (i:Nat) (h:i < l.length):l.drop i=rd_T41 l (i:Int) :: l.drop (i+1):=by
  unfold rd_T41
  rw [Int.toNat_natCast,List.getD_eq_getElem?_getD,List.getElem?_eq_getElem h,List.drop_eq_getElem_cons h]; rfl
theorem rd_T41_take (l:List S41) (i:Nat) (h:i < l.length):names46 (l.take i) ++ [(rd_T41 l (i:Int)).f0]=names46 (l.take (i+1)):=by
  unfold rd_T41 names46
  rw [Int.toNat_natCast,List.getD_eq_getElem?_getD,List.getElem?_eq_getElem h,List.take_add_one,List.getElem?_eq_getElem h,List.map_append]; rfl
theorem syms_calls {l:List S84} {w:World} {A:Option Addr} {c:Nat} (hr:Kd.C k84 w A l.length l) (hc:l.length≤c) :
    Calls Try.prog 21 #[.slice A l.length c] w fun e w'=>e=.returned (.bool (symsL l [] && decide (l.length≤24)))∧Below w.heap.size w w':=by
  obtain ⟨k,hk⟩:=(symbols_ev l).rounds
  exact virgationref02_Symbols.calls k A c l _ w hr hc hk
theorem name_calls (s:ByteArray) (w:World):Calls Try.prog 22 #[.string s] w fun e w'=>e=.returned (.bool (nameOk s))∧Below w.heap.size w w':=by
  obtain ⟨k,hk⟩:=(refname_ev s).rounds
  refine (virgationref02_Name.calls k s _ w hk).mono ?_
  rintro e w' ⟨h1,h2⟩
  exact ⟨h1,drawn_below h2⟩
theorem isok_calls {l:List S39} {w:World} {A:Option Addr} {c:Nat} (hr:Kd.C k39 w A l.length l) (hc:l.length≤c) :
    Calls Try.prog 23 #[.agg #[.slice A l.length c]] w fun e w'=>e=.returned (.bool (isok l))∧Below w.heap.size w w':=by
  obtain ⟨k,hk⟩:=(is_ev l).rounds
  exact virgationref01_Is.calls k A c l _ w hr hc hk
theorem tnodes_calls (a b:Int) {l:List S36} {w:World} {A:Option Addr} {c:Nat} (hr:Kd.C k36 w A l.length l) (hc:l.length≤c) :
    Calls Try.prog 24 #[.agg #[.int .i64 a,.int .i64 b,.slice A l.length c],.int .i64 400] w fun e w'=>e=.returned (.int .i64 (min (1+tcntL l) 401))∧Below w.heap.size w w':=by
  obtain ⟨k,hk⟩:=(tnodes_ev _ a b l 400 (Nat.lt_succ_self _) (by omega) (by omega)).rounds
  exact virgationref02_Nodes.calls k a b A c l 400 _ w hr hc hk
theorem tdepth_calls (a b:Int) {l:List S36} (hl:tcntL l≤1000) {w:World} {A:Option Addr} {c:Nat} (hr:Kd.C k36 w A l.length l) (hc:l.length≤c) :
    Calls Try.prog 25 #[.agg #[.int .i64 a,.int .i64 b,.slice A l.length c]] w fun e w'=>e=.returned (.int .i64 (1+tdepL l))∧Below w.heap.size w w':=by
  obtain ⟨k,hk⟩:=(tdepth_ev _ a b l (Nat.lt_succ_self _) hl).rounds
  exact virgationref02_Depth.calls k a b A c l _ w hr hc hk
theorem symsL_ranks:∀ (l:List S84) (L:List ByteArray),symsL l L=true→∀ x ∈ l,0≤x.f1∧x.f1≤4
  | [],_,_,x,hx=>by cases hx
  | y :: ys,L,h,x,hx=>by
    unfold symsL at h
    split at h
    · cases h
    · rename_i hb
      rcases List.mem_cons.1 hx with e | hx
      · subst e
        unfold symBad at hb
        simp only [Bool.or_eq_true,Bool.not_eq_true',decide_eq_true_eq,not_or] at hb
        omega
      · exact symsL_ranks ys _ h x hx
theorem funsL_all:∀ (l:List S41) (L:List ByteArray),funsL l L=true→∀ x ∈ l,funOk x=true
  | [],_,_,x,hx=>by cases hx
  | y :: ys,L,h,x,hx=>by
    unfold funsL at h
    simp only [Bool.and_eq_true] at h
    rcases List.mem_cons.1 hx with e | hx
    · subst e; exact h.1.1
    · exact funsL_all ys _ h.2 x hx
theorem drop41_small {l:List S39} (h:cntL l≤59):∀ x ∈ l,cntL x.f0≤59:=by
  induction l with
  | nil=>intro x hx; cases hx
  | cons y ys ih =>
    intro x hx
    have h1:=cnt_f0 y
    have h2:=cntL_ge ys
    have h3:=cntL_ge y.f0
    simp only [cntL] at h
    rcases List.mem_cons.1 hx with e | hx
    · subst e; omega
    · exact ih (by omega) x hx
theorem small_of {sy:List S84} {fs:List S41} (h1:symsL sy []=true) (h2:funsL fs []=true) {f:S41} (hf:f ∈ fs):SmallP sy (fs.map (·.f1)) f.f1.f0:=by
  have hk:∀ x ∈ fs,cntL x.f1.f0≤59:=fun x hx=>by
    have:=funsL_all fs [] h2 x hx
    unfold funOk at this
    simp only [Bool.and_eq_true] at this
    exact isok_cnt this.2.1
  refine ⟨fun x hx=>by have:=symsL_ranks sy [] h1 x hx; omega,fun x hx=>?_,drop41_small (by have:=hk f hf; omega)⟩
  obtain ⟨y,hy,rfl⟩:=List.mem_map.1 hx
  have:=hk y hy
  omega
theorem of_calls2 (A0:Option Addr) (c0:Nat) (l0:List S84) (A1:Option Addr) (c1 nf:Nat) (l1:List S39) (A2:Option Addr) (c2:Nat) (l2:List S39) (hnf:l1.length=nf) (hsm:SmallP l0 l1 l2) (t:S36) (A3:Option Addr) (c3:Nat) (w:World)
    (h0:Kd.C k84 w A0 l0.length l0) (h1:Kd.V k39 39 w w.heap.size (fun _=>True) (.slice A1 nf c1) l1) (h2:Kd.V k39 39 w w.heap.size (fun _=>True) (.slice A2 l2.length c2) l2) (h3:Kd.C k36 w A3 t.f2.length t.f2) (hc3:t.f2.length≤c3) :
    Calls Try.prog 26 #[.agg #[.slice A0 l0.length c0,.slice A1 nf c1,.slice A2 l2.length c2],.agg #[.int .i64 t.f0,.int .i64 t.f1,.slice A3 t.f2.length c3]] w fun e w'=>∃ Av cv,e=.returned (.tuple #[.agg #[.slice Av ((ofT l0 l1 l2 t).getD []).length cv],.bool (ofT l0 l1 l2 t).isSome])∧Below w.heap.size w w':=by
  subst hnf
  have e:(⟨t.f0,t.f1,t.f2⟩:S36)=t:=by cases t; rfl
  have h:=of_calls (fun _=>True) A0 c0 l0 A1 c1 l1 A2 c2 l2 hsm _ t.f2 (Nat.lt_succ_self _) t.f0 t.f1 A3 c3 w h0 h1 h2 h3 hc3
  rw [e] at h
  refine h.mono ?_
  rintro e w' ⟨v,rfl,hv,hb⟩
  obtain ⟨A,c,rfl⟩:=Kd.V_slice hv
  exact ⟨A,c,rfl,hb⟩
theorem bodiesL_drop {sy:List S84} {fu:List S39} {l:List S41} {i:Nat} (h:i < l.length):bodiesL sy fu (l.drop i)=((match ofT sy fu (rd_T41 l (i:Int)).f1.f0 (rd_T41 l (i:Int)).f2 with
    | none=>false
    | some s=>decide (s.length=0)) && bodiesL sy fu (l.drop (i+1))):=by rw [rd_T41_drop l i h,bodiesL]
end Go.Proofs.Ytkgknidogelffaa.I
namespace Go.Proofs.Ytkgknidogelffaa.I
open Go.RowKit Go.Proofs.YtkgknidogelffaaW.PrintWords Go.Proofs.YtkgknidogelffaaW.PrintLast Go.Proofs.YtkgknidogelffaaW.PrintMore
attribute [local go_sem] max2_int min2_int max_two min_two max_three min_three max_four min_four
set_option linter.unusedVariables false
set_option maxRecDepth 100000
set_option linter.unusedSimpArgs false
set_option maxHeartbeats 16000000 in
theorem refis_calls (A0:Option Addr) (c0:Nat) (l0:List S84) (A1:Option Addr) (c1:Nat) (l1:List S41) (w:World) (hr0:Kd.C k84 w A0 l0.length l0) (hc0:l0.length≤c0) (hr1:Kd.C k41 w A1 l1.length l1) (hc1:l1.length≤c1) :
    Calls Try.prog 8 #[.agg #[.slice A0 l0.length c0,.slice A1 l1.length c1]] w fun e w'=>e=.returned (.bool (schB l0 l1))∧Below w.heap.size w w':=by
  have hu25:=Try.underlying25
  have hu41:=Try.underlying41
  have hu36:=Try.underlying36
  have hu39:=Try.underlying39
  have hlen:l1.length≤9223372036854775807:=hr1.2.1
  obtain ⟨r,hr⟩:∃ r,r=schB l0 l1:=⟨_,rfl⟩
  rw [← hr]
  have HR0:=Az.mk hr0
  have HC0:=Az.mk hc0
  have HR1:=Az.mk hr1
  have HC1:=Az.mk hc1
  have HE:=Az.mk hr
  clear hr0 hc0 hr1 hc1 hr
  go_enter Try.func8,Try.ntmps8
  go_wp2_with (
      (with_reducible refine gate_dst (N:=1) rfl ?_)
      refine box_event ?hg (N:=1) ?hd (cs:=#[.slice A0 l0.length c0,.slice A1 l1.length c1]) (t:=25) ?hr ?_
      (case hd=>rfl)
      (case hg=>rfl)
      (case hr=>first | (go_simp; done) | (go_simp; rfl))
      intro g1 hg1 w1 hbox hb1
      have S11:=Az.mk hbox
      have HB1:=Az.mk hb1
      have a0:w1.cell? ⟨g1,0,none⟩=some (.slice A0 l0.length c0):=(blk_cell hbox 0).trans rfl
      clear hbox hb1 hg1)
  (with_reducible refine (syms_calls (Kd.C_below HR0.out HB1.out) HC0.out).mono ?_)
  rintro e w2 ⟨rfl,hb2⟩
  have HB2:=Az.mk (bst HB1.out hb2)
  have S12:=Az.mk (bkB S11.out hb2)
  have a1:w2.cell? ⟨g1,1,none⟩=some (.slice A1 l1.length c1):=(blk_cell S12.out 1).trans rfl
  clear hb2 a0 S11 HB1
  have HSB:=Az.mk (show r=((symsL l0 [] && decide (l0.length≤24)) && ((decide (1≤l1.length) && decide (l1.length≤64)) && (funsL l1 [] && (decide ((rd_T41 l1 0).f1.f0.length=0) && bodiesL l0 (l1.map (·.f1)) l1)))) from HE.out)
  have HSY:=Az.mk (show (symsL l0 [] && decide (l0.length≤24))=true→symsL l0 []=true from fun h=>by simp only [Bool.and_eq_true] at h; exact h.1)
  clear HE
  generalize (symsL l0 [] && decide (l0.length≤24))=sb at *
  cases sb with
  | false =>
    have hr:r=false:=HSB.out
    subst hr
    clear HSB HSY
    go_wp2_with fail
    go_ret
    exact ⟨rfl,HB2.out⟩
  | true =>
  have hsy:=HSY.out rfl
  have HSY2:=Az.mk hsy
  clear hsy HSY
  by_cases h1:l1.length < 1
  · have hr:r=false:=by have:=HSB.out; rw [this,decide_eq_false (by omega:¬ 1≤l1.length)]; rfl
    have q0:l1.length=0:=by omega
    subst hr
    clear HSB
    go_wp2_with fail
    go_ret
    exact ⟨rfl,HB2.out⟩
  have q1:((l1.length:Int) < 1)=False:=eq_false (by omega)
  have q2:(l1.length < 1)=False:=eq_false h1
  by_cases h2:64 < l1.length
  · have hr:r=false:=by have:=HSB.out; rw [this,decide_eq_false (by omega:¬ l1.length≤64)]; simp
    have q3:(64 < l1.length)=True:=eq_true h2
    subst hr
    clear HSB
    go_wp2_with fail
    go_ret
    exact ⟨rfl,HB2.out⟩
  have q3:(64 < l1.length)=False:=eq_false h2
  have q3':((64:Int) < (l1.length:Int))=False:=eq_false (by omega)
  have HS2:=Az.mk (show r=(funsL l1 [] && (decide ((rd_T41 l1 0).f1.f0.length=0) && bodiesL l0 (l1.map (·.f1)) l1)) from by rw [HSB.out,decide_eq_true (by omega:1≤l1.length),decide_eq_true (by omega:l1.length≤64)]; rfl)
  clear HSB
  go_wp2_with fail
  clear q1 q2 q3 q3'
  obtain ⟨q,hq⟩:∃ q,q=funsL l1 []:=⟨_,rfl⟩
  rw [← hq] at HS2
  have HQ:=Az.mk (show q=funsL (l1.drop 0) (names46 (l1.take 0)) from hq)
  have HQ0:=Az.mk hq
  have H1:=Az.mk h1
  have H2:=Az.mk h2
  clear hq a1 h1 h2
  go_loopg [30] l1.length (fun kq v30 wr=>∃ i:Nat,v30=.int .i64 (i:Int)∧Az (i+kq=l1.length)∧Az (q=funsL (l1.drop i) (names46 (l1.take i)))∧Az (Below w2.heap.size w2 wr))
  case atStart=>exact ⟨0,rfl,⟨by omega⟩,HQ,⟨Below.refl _ _⟩⟩
  case round =>
    clear HQ
    obtain ⟨i,rfl,Hi,HQ,HB⟩:=hrel
    have h64':l1.length≤64:=by have:=H2.out; omega
    by_cases hlt:i < l1.length
    rotate_left
    · have hie:i=l1.length:=by have:=Hi.out; omega
      have hq:q=true:=by have:=HQ.out; rw [hie,List.drop_length] at this; rw [this,funsL]
      have HS3:=Az.mk (show r=(decide ((rd_T41 l1 0).f1.f0.length=0) && bodiesL l0 (l1.map (·.f1)) l1) from by rw [HS2.out,hq]; rfl)
      have HFL:=Az.mk (show funsL l1 []=true from by rw [← HQ0.out]; exact hq)
      clear hq HQ HS2 HQ0 Hi hlt
      subst hie
      have HB3:=Az.mk (bst HB2.out HB.out)
      have S13:=Az.mk (bkB S12.out HB.out)
      have n1:=H1.out
      have e1:wr.cell? ⟨g1,1,none⟩=some (.slice A1 l1.length c1):=(blk_cell S13.out 1).trans rfl
      obtain ⟨ad,A3,c3,A4,c4,rfl,hx0,hx1,hx2,hx3,hx4,hl3,hC3,hl4,hC4⟩:=at_T41 (Kd.C_below HR1.out HB3.out) 0 (by omega) (by omega)
      clear hx0 hx2 hx3 hx4 hl3 hC3 hl4 hC4
      replace hx1:wr.cell? ⟨ad.block,ad.off+1,none⟩=_:=hx1
      have q1:(0 < l1.length)=True:=eq_true (by omega)
      have q2:((0:Int) < (l1.length:Int))=True:=eq_true (by omega)
      generalize hm:(rd_T41 l1 0).f1.f0.length=m at *
      clear hm n1
      by_cases hm:m=0
      rotate_left
      · have hr:r=false:=by rw [HS3.out,decide_eq_false hm]; rfl
        subst hr
        have q3:(0 < m)=True:=eq_true (by omega)
        clear hm
        go_wp2_with fail
        go_ret
        exact ⟨rfl,HB3.out⟩
      subst hm
      go_wp2_with fail
      clear e1 hx1 q1 q2
      have HBL:=Az.mk (show r=bodiesL l0 (l1.map (·.f1)) (l1.drop 0) from HS3.out)
      clear HS3
      go_loopg [84] l1.length (fun kq v84 wr=>∃ i:Nat,v84=.int .i64 (i:Int)∧Az (i+kq=l1.length)∧Az (r=bodiesL l0 (l1.map (·.f1)) (l1.drop i))∧Az (Below w2.heap.size w2 wr))
      case atStart=>exact ⟨0,rfl,⟨by omega⟩,HBL,HB⟩
      case round =>
        clear HBL HB HB3 S13
        obtain ⟨i,rfl,Hi,HBL,HB⟩:=hrel
        by_cases hlt:i < l1.length
        rotate_left
        · have hie:i=l1.length:=by have:=Hi.out; omega
          have hr:r=true:=by have:=HBL.out; rw [hie,List.drop_length] at this; rw [this,bodiesL]
          subst hr
          subst hie
          clear hlt HBL
          go_wp2_with fail
          go_ret
          exact ⟨rfl,bst HB2.out HB.out⟩
        have HB3:=Az.mk (bst HB2.out HB.out)
        obtain ⟨ad',A3,c3,A4,c4,he,hx0,hx1,hx2,hx3,hx4,hl3,hC3,hl4,hC4⟩:=at_T41 (Kd.C_below HR1.out HB3.out) (i:Int) (by omega) (by omega)
        cases he
        rw [Int.toNat_natCast] at hx0 hx1 hx2 hx3 hx4
        have HC4:=Az.mk hC4
        have Hl4:=Az.mk hl4
        have HLt:=Az.mk hlt
        have HBL2:=Az.mk (HBL.out.trans (bodiesL_drop hlt))
        have hmem:rd_T41 l1 (i:Int) ∈ l1:=by unfold rd_T41; rw [Int.toNat_natCast,List.getD_eq_getElem?_getD,List.getElem?_eq_getElem hlt]; exact List.getElem_mem _
        have HSM:=Az.mk (small_of HSY2.out HFL.out hmem)
        have HPL:=Az.mk (fun (w:World) (h:Kd.C k41 w (some ad) l1.length l1)=>place_calls A0 c0 l0 (some ad) c1 l1 i hlt w h HC1.out h64')
        have q1:(0≤(i:Int))=True:=eq_true (by omega)
        have q2:((i:Int) < (l1.length:Int))=True:=eq_true (by omega)
        have q3:(i < l1.length)=True:=eq_true (by omega)
        clear hC3 hl4 hC4 hl3 HBL hmem
        generalize rd_T41 l1 (i:Int)=x at *
        go_upto_region 20 with (
           (with_reducible refine gate_dst (N:=8) rfl ?_)
           refine box_event ?hg (N:=8) ?hd (cs:=#[.string (⟨#[]⟩:ByteArray),.slice none 0 0,.int .i64 0,.int .i64 0,.slice none 0 0]) (t:=41) ?hr ?_
           (case hd=>rfl)
           (case hg=>rfl)
           (case hr=>first | (go_simp; done) | (go_simp; rfl))
           intro gi hgi w6 hbox hb6
           have hgw:wr.heap.size≤gi:=by omega
           have Hbw:=Az.mk (bset (g:=gi) (j:=4) (v:=.slice A4 x.f2.f2.length c4) (bset (g:=gi) (j:=3) (v:=.int .i64 x.f2.f1) (bset (g:=gi) (j:=2) (v:=.int .i64 x.f2.f0) (bset (g:=gi) (j:=1) (v:=.slice A3 x.f1.f0.length c3) (bset (g:=gi) (j:=0) (v:=.string x.f0) hb6 hgw) hgw) hgw) hgw) hgw)
           have Hgi:=Az.mk (blk_put (cs':=#[.string x.f0,.slice A3 x.f1.f0.length c3,.int .i64 x.f2.f0,.int .i64 x.f2.f1,.slice A4 x.f2.f2.length c4]) (blk_put (cs':=#[.string x.f0,.slice A3 x.f1.f0.length c3,.int .i64 x.f2.f0,.int .i64 x.f2.f1,.slice none 0 0]) (blk_put (cs':=#[.string x.f0,.slice A3 x.f1.f0.length c3,.int .i64 x.f2.f0,.int .i64 0,.slice none 0 0]) (blk_put (cs':=#[.string x.f0,.slice A3 x.f1.f0.length c3,.int .i64 0,.int .i64 0,.slice none 0 0]) (blk_put (cs':=#[.string x.f0,.slice none 0 0,.int .i64 0,.int .i64 0,.slice none 0 0]) hbox 0 (.string x.f0) rfl) 1 (.slice A3 x.f1.f0.length c3) rfl) 2 (.int .i64 x.f2.f0) rfl) 3 (.int .i64 x.f2.f1) rfl) 4 (.slice A4 x.f2.f2.length c4) rfl)
           have hcz0:=(blk_cell hbox 0).trans rfl
           have hfz0:=bkF hbox 0
           have hcz1:=(blk_cell hbox 1).trans rfl
           have hfz1:=bkF hbox 1
           have hcz2:=(blk_cell hbox 2).trans rfl
           have hfz2:=bkF hbox 2
           have hcz3:=(blk_cell hbox 3).trans rfl
           have hfz3:=bkF hbox 3
           have hcz4:=(blk_cell hbox 4).trans rfl
           have hfz4:=bkF hbox 4
           clear hbox hb6 hgi hgw)
        clear hcz0 hcz1 hcz2 hcz3 hcz4 hfz0 hfz1 hfz2 hfz3 hfz4 hx0 hx1 hx2 hx3 hx4
        generalize (((((w6.setCell ⟨gi,0,none⟩ (.string x.f0)).setCell ⟨gi,1,none⟩ (.slice A3 x.f1.f0.length c3)).setCell ⟨gi,2,none⟩ (.int .i64 x.f2.f0)).setCell ⟨gi,3,none⟩ (.int .i64 x.f2.f1)).setCell ⟨gi,4,none⟩ (.slice A4 x.f2.f2.length c4))=wq at *
        have HBq:=Az.mk (bst HB.out Hbw.out)
        have HBQ:=Az.mk (bst HB3.out Hbw.out)
        have S1q:=Az.mk (bkB S12.out HBq.out)
        have e0:wq.cell? ⟨g1,0,none⟩=some (.slice A0 l0.length c0):=(blk_cell S1q.out 0).trans rfl
        have e1:wq.cell? ⟨g1,1,none⟩=some (.slice (some ad) l1.length c1):=(blk_cell S1q.out 1).trans rfl
        have m2:wq.cell? ⟨gi,2,none⟩=some (.int .i64 x.f2.f0):=(blk_cell Hgi.out 2).trans rfl
        have m3:wq.cell? ⟨gi,3,none⟩=some (.int .i64 x.f2.f1):=(blk_cell Hgi.out 3).trans rfl
        have m4:wq.cell? ⟨gi,4,none⟩=some (.slice A4 x.f2.f2.length c4):=(blk_cell Hgi.out 4).trans rfl
        have e0':=cel1 e0
        have e1':=cel1 e1
        have m2':=cel1 m2
        have m3':=cel1 m3
        have m4':=cel1 m4
        try simp only [Act.put,List.setIfInBounds_toArray,List.set_cons_succ,List.set_cons_zero]
        go_cut [9,10] from 90 to 97 (fun v9 v10 wc=>∃ (g9:Nat) (Ay:Option Addr) (cy:Nat),v9=.pointer (some ⟨g9,0,none⟩)∧v10=.bool (ofT l0 (l1.map (·.f1)) x.f1.f0 x.f2).isSome∧Az (wc.heap[g9]?=some (.cells #[.slice Ay ((ofT l0 (l1.map (·.f1)) x.f1.f0 x.f2).getD []).length cy] 39 (0,0)))∧Az (Below w2.heap.size w2 wc))
        case first =>
          go_region_law
            (first
              | (go_simp
                 go_at_call 27
                 first
                 | ((with_reducible refine (HPL.out wq.drew (Kd.C_below HR1.out (below_drew HBQ.out))).mono ?_)
                    rintro e9 wA ⟨vA,A7,c7,rfl,hvA,hvB,hbA⟩
                    obtain ⟨Av,cv,rfl⟩:=Kd.V_slice hvA
                    rw [List.length_map] at hvA ⊢
                    have HVA:=Az.mk (show Kd.V k39 39 wA wA.heap.size (fun _=>True) (.slice Av l1.length cv) (l1.map (·.f1)) from hvA)
                    have HVB:=Az.mk (show Kd.V k39 39 wA wA.heap.size (fun _=>True) (.slice A7 x.f1.f0.length c7) x.f1.f0 from hvB)
                    have HBA:=Az.mk (bst (below_drew HBq.out) hbA)
                    have HbwA:=Az.mk (bst (below_drew Hbw.out) hbA)
                    have a2:=cell_up hbA (show (wq.drew).cell? _=_ from id m2)
                    have a3:=cell_up hbA (show (wq.drew).cell? _=_ from id m3)
                    have a4:=cell_up hbA (show (wq.drew).cell? _=_ from id m4)
                    have a2':=cel1 a2
                    have a3':=cel1 a3
                    have a4':=cel1 a4
                    skip
                    clear hvA hvB hbA)
                 | ((with_reducible refine (HPL.out (wq.alloc (.cells #[.slice none 0 0] 39)).drew (Kd.C_below HR1.out (below_drew (bal HBQ.out _)))).mono ?_)
                    rintro e9 wA ⟨vA,A7,c7,rfl,hvA,hvB,hbA⟩
                    obtain ⟨Av,cv,rfl⟩:=Kd.V_slice hvA
                    rw [List.length_map] at hvA ⊢
                    have HVA:=Az.mk (show Kd.V k39 39 wA wA.heap.size (fun _=>True) (.slice Av l1.length cv) (l1.map (·.f1)) from hvA)
                    have HVB:=Az.mk (show Kd.V k39 39 wA wA.heap.size (fun _=>True) (.slice A7 x.f1.f0.length c7) x.f1.f0 from hvB)
                    have HBA:=Az.mk (bst (below_drew (bal HBq.out _)) hbA)
                    have HbwA:=Az.mk (bst (below_drew (bal Hbw.out _)) hbA)
                    have a2:=cell_up hbA (show ((wq.alloc (.cells #[.slice none 0 0] 39)).drew).cell? _=_ from cel1 m2 _)
                    have a3:=cell_up hbA (show ((wq.alloc (.cells #[.slice none 0 0] 39)).drew).cell? _=_ from cel1 m3 _)
                    have a4:=cell_up hbA (show ((wq.alloc (.cells #[.slice none 0 0] 39)).drew).cell? _=_ from cel1 m4 _)
                    have a2':=cel1 a2
                    have a3':=cel1 a3
                    have a4':=cel1 a4
                    have HG9:=Az.mk (show wA.heap[wq.heap.size]?=some (.cells #[.slice none 0 0] 39 (0,0)) from bkB (blk_drew (blk_new wq (.cells #[.slice none 0 0] 39))) hbA)
                    clear hvA hvB hbA))
              | (go_simp
                 go_at_call 26
                 first
                 | ((with_reducible refine (of_calls2 A0 c0 l0 Av cv l1.length (l1.map (·.f1)) A7 c7 x.f1.f0 (List.length_map _) HSM.out x.f2 A4 c4 wA (Kd.C_below HR0.out (bst HB2.out (HBA.out))) (HVA.out) (HVB.out) (Kd.C_below HC4.out (HbwA.out)) Hl4.out).mono ?_)
                    rintro e9 wB ⟨Ay,cy,rfl,hbB⟩
                    have HBB:=Az.mk (bst HBA.out hbB)
                    try (have G:=bkB HG9.out hbB
                         have k9:=(blk_cell G 0).trans rfl
                         have f9:=bkF G 0
                         have HG9B:=Az.mk G
                         clear G)
                    clear hbB)
                 | ((with_reducible refine (of_calls2 A0 c0 l0 Av cv l1.length (l1.map (·.f1)) A7 c7 x.f1.f0 (List.length_map _) HSM.out x.f2 A4 c4 (wA.alloc (.cells #[.slice none 0 0] 39)) (Kd.C_below HR0.out (bst HB2.out (bal HBA.out _))) (Kd.V_alloc HVA.out _) (Kd.V_alloc HVB.out _) (Kd.C_below HC4.out (bal HbwA.out _)) Hl4.out).mono ?_)
                    rintro e9 wB ⟨Ay,cy,rfl,hbB⟩
                    have HBB:=Az.mk (bst (bal HBA.out _) hbB)
                    have G:=bkB (blk_new wA (.cells #[.slice none 0 0] 39)) hbB
                    have k9:=(blk_cell G 0).trans rfl
                    have f9:=bkF G 0
                    have HG9B:=Az.mk G
                    clear G hbB)))
          all_goals (
            go_wp2_with fail
            go_meet
            first
            | exact ⟨_,Ay,cy,rfl,rfl,⟨blk_new _ _⟩,⟨bal HBB.out _⟩⟩
            | exact ⟨_,Ay,cy,rfl,rfl,⟨blk_put HG9B.out 0 _ rfl⟩,⟨bset HBB.out (by first | exact HBA.out.size | exact HBq.out.size)⟩⟩)
        case rest =>
          obtain ⟨g9,Ay,cy,rfl,rfl,S9,HB9⟩:=hcut
          clear e0 e1 m2 m3 m4 e0' e1' m2' m3' m4' S1q HBQ HBq Hgi HPL HSM HC4 Hl4 Hbw HB HB3
          generalize ofT l0 (l1.map (·.f1)) x.f1.f0 x.f2=o at *
          cases o with
          | none =>
            have hr:r=false:=HBL2.out
            subst hr
            clear HBL2
            go_wp2_with fail
            go_ret
            exact ⟨rfl,bst HB2.out HB9.out⟩
          | some s =>
            have c9:wc.cell? ⟨g9,0,none⟩=some (.slice Ay s.length cy):=(blk_cell S9.out 0).trans rfl
            have HBL3:=Az.mk (show r=(decide (s.length=0) && bodiesL l0 (l1.map (·.f1)) (l1.drop (i+1))) from HBL2.out)
            clear HBL2 S9
            generalize s.length=m at *
            by_cases hm:m=0
            · have HN:=Az.mk (show r=bodiesL l0 (l1.map (·.f1)) (l1.drop (i+1)) from by rw [HBL3.out,decide_eq_true hm]; rfl)
              subst hm
              clear HBL3
              go_wp2_with fail
              have hk:=Hi.out
              obtain ⟨k1,rfl⟩:∃ k1,gk=k1+1:=⟨gk - 1,by omega⟩
              go_roundg k1
              case measure=>omega
              case rel=>exact ⟨i+1,by go_num,⟨by omega⟩,HN,HB9⟩
            · have hr:r=false:=by rw [HBL3.out,decide_eq_false hm]; rfl
              subst hr
              have q4:(0 < m)=True:=eq_true (by omega)
              clear hm HBL3
              go_wp2_with fail
              go_ret
              exact ⟨rfl,bst HB2.out HB9.out⟩
    obtain ⟨ad',A3,c3,A4,c4,rfl,hx0,hx1,hx2,hx3,hx4,hl3,hC3,hl4,hC4⟩:=at_T41 (Kd.C_below HR1.out (bst HB2.out HB.out)) (i:Int) (by omega) (by omega)
    rw [Int.toNat_natCast] at hx0 hx1 hx2 hx3 hx4
    have HC3:=Az.mk hC3
    have HC4:=Az.mk hC4
    have Hl3:=Az.mk hl3
    have Hl4:=Az.mk hl4
    have HF:=Az.mk (show q=((funOk (rd_T41 l1 (i:Int)) && !isIn (names46 (l1.take i)) (rd_T41 l1 (i:Int)).f0) && funsL (l1.drop (i+1)) (names46 (l1.take (i+1)))) from by rw [HQ.out,rd_T41_drop l1 i hlt,funsL,rd_T41_take l1 i hlt])
    have q1:(0≤(i:Int))=True:=eq_true (by omega)
    have q2:((i:Int) < (l1.length:Int))=True:=eq_true (by omega)
    have q3:(i < l1.length)=True:=eq_true (by omega)
    clear hC3 hl4 hC4 hl3 HQ
    generalize rd_T41 l1 (i:Int)=x at *
    go_wp2_with (
           (with_reducible refine gate_dst (N:=4) rfl ?_)
           refine box_event ?hg (N:=4) ?hd (cs:=#[.string (⟨#[]⟩:ByteArray),.slice none 0 0,.int .i64 0,.int .i64 0,.slice none 0 0]) (t:=41) ?hr ?_
           (case hd=>rfl)
           (case hg=>rfl)
           (case hr=>first | (go_simp; done) | (go_simp; rfl))
           intro gi hgi w6 hbox hb6
           have hgw:wr.heap.size≤gi:=by omega
           have Hbw:=Az.mk (bset (g:=gi) (j:=4) (v:=.slice A4 x.f2.f2.length c4) (bset (g:=gi) (j:=3) (v:=.int .i64 x.f2.f1) (bset (g:=gi) (j:=2) (v:=.int .i64 x.f2.f0) (bset (g:=gi) (j:=1) (v:=.slice A3 x.f1.f0.length c3) (bset (g:=gi) (j:=0) (v:=.string x.f0) hb6 hgw) hgw) hgw) hgw) hgw)
           have Hgi:=Az.mk (blk_put (cs':=#[.string x.f0,.slice A3 x.f1.f0.length c3,.int .i64 x.f2.f0,.int .i64 x.f2.f1,.slice A4 x.f2.f2.length c4]) (blk_put (cs':=#[.string x.f0,.slice A3 x.f1.f0.length c3,.int .i64 x.f2.f0,.int .i64 x.f2.f1,.slice none 0 0]) (blk_put (cs':=#[.string x.f0,.slice A3 x.f1.f0.length c3,.int .i64 x.f2.f0,.int .i64 0,.slice none 0 0]) (blk_put (cs':=#[.string x.f0,.slice A3 x.f1.f0.length c3,.int .i64 0,.int .i64 0,.slice none 0 0]) (blk_put (cs':=#[.string x.f0,.slice none 0 0,.int .i64 0,.int .i64 0,.slice none 0 0]) hbox 0 (.string x.f0) rfl) 1 (.slice A3 x.f1.f0.length c3) rfl) 2 (.int .i64 x.f2.f0) rfl) 3 (.int .i64 x.f2.f1) rfl) 4 (.slice A4 x.f2.f2.length c4) rfl)
           have hcz0:=(blk_cell hbox 0).trans rfl
           have hfz0:=bkF hbox 0
           have hcz1:=(blk_cell hbox 1).trans rfl
           have hfz1:=bkF hbox 1
           have hcz2:=(blk_cell hbox 2).trans rfl
           have hfz2:=bkF hbox 2
           have hcz3:=(blk_cell hbox 3).trans rfl
           have hfz3:=bkF hbox 3
           have hcz4:=(blk_cell hbox 4).trans rfl
           have hfz4:=bkF hbox 4
           have m0:=(blk_cell Hgi.out 0).trans rfl
           clear hbox hb6 hgi hgw)
    clear hcz0 hcz1 hcz2 hcz3 hcz4 hfz0 hfz1 hfz2 hfz3 hfz4 m0 hx0 hx1 hx2 hx3 hx4
    generalize (((((w6.setCell ⟨gi,0,none⟩ (.string x.f0)).setCell ⟨gi,1,none⟩ (.slice A3 x.f1.f0.length c3)).setCell ⟨gi,2,none⟩ (.int .i64 x.f2.f0)).setCell ⟨gi,3,none⟩ (.int .i64 x.f2.f1)).setCell ⟨gi,4,none⟩ (.slice A4 x.f2.f2.length c4))=wq at *
    have HF2:=Az.mk (show q=(((nameOk x.f0 && (isok x.f1.f0 && !(decide (400 < tcnt x.f2) || decide (30 < tdep x.f2)))) && !isIn (names46 (l1.take i)) x.f0) && funsL (l1.drop (i+1)) (names46 (l1.take (i+1)))) from HF.out)
    clear HF
    (with_reducible refine (name_calls x.f0 _).mono ?_)
    rintro e w8 ⟨rfl,hb8⟩
    have Hbw8:=Az.mk (bst Hbw.out hb8)
    have Hgi8:=Az.mk (bkB Hgi.out hb8)
    clear hb8 Hbw Hgi
    generalize nameOk x.f0=b at *
    cases b with
    | false =>
      have hr:r=false:=by have:=HF2.out; rw [HS2.out,this]; rfl
      subst hr
      clear HF2 HS2
      go_wp2_with fail
      go_ret
      exact ⟨rfl,bst (bst HB2.out HB.out) Hbw8.out⟩
    | true =>
    have m1:w8.cell? ⟨gi,1,none⟩=some (.slice A3 x.f1.f0.length c3):=(blk_cell Hgi8.out 1).trans rfl
    go_wp2_with fail
    (with_reducible refine (isok_calls (Kd.C_below HC3.out Hbw8.out) Hl3.out).mono ?_)
    rintro e w9 ⟨rfl,hb9⟩
    have Hbw9:=Az.mk (bst Hbw8.out hb9)
    have Hgi9:=Az.mk (bkB Hgi8.out hb9)
    clear hb9 Hbw8 Hgi8 m1
    generalize isok x.f1.f0=b at *
    cases b with
    | false =>
      have hr:r=false:=by have:=HF2.out; rw [HS2.out,this]; rfl
      subst hr
      clear HF2 HS2
      go_wp2_with fail
      go_ret
      exact ⟨rfl,bst (bst HB2.out HB.out) Hbw9.out⟩
    | true =>
    have m2:w9.cell? ⟨gi,2,none⟩=some (.int .i64 x.f2.f0):=(blk_cell Hgi9.out 2).trans rfl
    have m3:w9.cell? ⟨gi,3,none⟩=some (.int .i64 x.f2.f1):=(blk_cell Hgi9.out 3).trans rfl
    have m4:w9.cell? ⟨gi,4,none⟩=some (.slice A4 x.f2.f2.length c4):=(blk_cell Hgi9.out 4).trans rfl
    go_wp2_with fail
    (with_reducible refine (tnodes_calls x.f2.f0 x.f2.f1 (Kd.C_below HC4.out Hbw9.out) Hl4.out).mono ?_)
    rintro e wA ⟨rfl,hbA⟩
    have HbwA:=Az.mk (bst Hbw9.out hbA)
    have HgiA:=Az.mk (bkB Hgi9.out hbA)
    clear hbA Hbw9 Hgi9 m2 m3 m4
    have hcn:=tcnt_f2 x.f2
    by_cases hn:400 < tcnt x.f2
    · have hr:r=false:=by have:=HF2.out; rw [HS2.out,this,decide_eq_true hn]; rfl
      rw [show min (1+tcntL x.f2.f2) 401=401 from by omega]
      subst hr
      clear HF2 HS2 hn hcn
      go_wp2_with fail
      go_ret
      exact ⟨rfl,bst (bst HB2.out HB.out) HbwA.out⟩
    obtain ⟨nn,hnn⟩:∃ nn,nn=min (1+tcntL x.f2.f2) 401:=⟨_,rfl⟩
    rw [← hnn]
    have p400:((400:Int) < nn)=False:=eq_false (by omega)
    have Hcn:=Az.mk (show tcntL x.f2.f2≤1000 from by omega)
    have HF3:=Az.mk (show q=((!(decide (30 < tdep x.f2)) && !isIn (names46 (l1.take i)) x.f0) && funsL (l1.drop (i+1)) (names46 (l1.take (i+1)))) from by rw [HF2.out,decide_eq_false hn]; rfl)
    clear HF2 hn hcn hnn
    have m2:wA.cell? ⟨gi,2,none⟩=some (.int .i64 x.f2.f0):=(blk_cell HgiA.out 2).trans rfl
    have m3:wA.cell? ⟨gi,3,none⟩=some (.int .i64 x.f2.f1):=(blk_cell HgiA.out 3).trans rfl
    have m4:wA.cell? ⟨gi,4,none⟩=some (.slice A4 x.f2.f2.length c4):=(blk_cell HgiA.out 4).trans rfl
    go_wp2_with fail
    (with_reducible refine (tdepth_calls x.f2.f0 x.f2.f1 Hcn.out (Kd.C_below HC4.out HbwA.out) Hl4.out).mono ?_)
    rintro e wB ⟨rfl,hbB⟩
    have HbwB:=Az.mk (bst HbwA.out hbB)
    have HgiB:=Az.mk (bkB HgiA.out hbB)
    clear hbB HbwA HgiA m2 m3 m4 p400
    have hde:=tdep_f2 x.f2
    rw [← hde]
    clear hde
    by_cases hd:30 < tdep x.f2
    · have hr:r=false:=by have:=HF3.out; rw [HS2.out,this,decide_eq_true hd]; rfl
      have p30:((30:Int) < tdep x.f2)=True:=eq_true hd
      subst hr
      clear HF3 HS2 hd
      go_wp2_with fail
      go_ret
      exact ⟨rfl,bst (bst HB2.out HB.out) HbwB.out⟩
    have p30:((30:Int) < tdep x.f2)=False:=eq_false hd
    have HF4:=Az.mk (show q=((!isIn (names46 (l1.take i)) x.f0) && funsL (l1.drop (i+1)) (names46 (l1.take (i+1)))) from by rw [HF3.out,decide_eq_false hd]; rfl)
    clear HF3 hd
    have HB5:=Az.mk (bst HB.out HbwB.out)
    have S15:=Az.mk (bkB S12.out HB5.out)
    have e1:wB.cell? ⟨g1,1,none⟩=some (.slice (some ad') l1.length c1):=(blk_cell S15.out 1).trans rfl
    have pc:(i≤c1)=True:=eq_true (by have:=HC1.out; omega)
    go_wp2_with fail
    clear p30 e1 pc
    have hko:=Hi.out
    obtain ⟨ko,rfl⟩:∃ ko,gk=ko+1:=⟨gk - 1,by omega⟩
    clear hko
    obtain ⟨z,hz⟩:∃ z,z=isIn (names46 (l1.take i)) x.f0:=⟨_,rfl⟩
    rw [← hz] at HF4
    have HZ:=Az.mk (show z=isIn (names46 ((l1.take i).drop 0)) x.f0 from hz)
    clear hz HbwB
    go_loopg [62] i (fun kq v62 wr2=>∃ j:Nat,v62=.int .i64 (j:Int)∧Az (j+kq=i)∧Az (z=isIn (names46 ((l1.take i).drop j)) x.f0)∧Az (Below wB.heap.size wB wr2))
    case atStart=>exact ⟨0,rfl,⟨by omega⟩,HZ,⟨Below.refl _ _⟩⟩
    case round =>
      clear HZ
      obtain ⟨j,rfl,Hj,HZ,HBi⟩:=hrel
      by_cases hjt:j < i
      rotate_left
      · have hje:j=i:=by have:=Hj.out; omega
        have hz:z=false:=by have:=HZ.out; rw [hje,List.drop_of_length_le (by rw [List.length_take]; omega)] at this; exact this
        have HN:=Az.mk (show q=funsL (l1.drop (i+1)) (names46 (l1.take (i+1))) from by rw [HF4.out,hz]; rfl)
        have HB7:=Az.mk (bst HB5.out HBi.out)
        subst hje
        clear hz HZ HF4 HBi
        go_wp2_with fail
        go_roundg ko
        case measure=>omega
        case rel=>exact ⟨j+1,by go_num,⟨by have:=Hi.out; omega⟩,HN,HB7⟩
      have HB6:=Az.mk (bst HB5.out HBi.out)
      obtain ⟨ad2,A5,c5,A6,c6,he,hx0,hx1,hx2,hx3,hx4,hl5,hC5,hl6,hC6⟩:=at_T41 (Kd.C_below HR1.out (bst HB2.out HB6.out)) (j:Int) (by omega) (by omega)
      cases he
      rw [Int.toNat_natCast] at hx0 hx1 hx2 hx3 hx4
      have HZ2:=Az.mk (show z=((rd_T41 l1 (j:Int)).f0.data.toList == x.f0.data.toList || isIn (names46 ((l1.take i).drop (j+1))) x.f0) from by
        rw [HZ.out,rd_T41_drop (l1.take i) j (by rw [List.length_take]; omega)]
        have e:rd_T41 (l1.take i) (j:Int)=rd_T41 l1 (j:Int):=by unfold rd_T41; rw [Int.toNat_natCast,List.getD_eq_getElem?_getD,List.getD_eq_getElem?_getD,List.getElem?_take_of_lt hjt]
        rw [e]
        rfl)
      have q4:(0≤(j:Int))=True:=eq_true (by omega)
      have q5:((j:Int) < (i:Int))=True:=eq_true (by omega)
      have q6:(j < i)=True:=eq_true (by omega)
      clear hl5 hC5 hl6 hC6 HZ
      generalize rd_T41 l1 (j:Int)=y at *
      obtain ⟨bb,hbb⟩:∃ bb,(x.f0.toList == y.f0.toList)=bb:=⟨_,rfl⟩
      have HBB:=Az.mk (show (y.f0.data.toList == x.f0.data.toList)=bb from by
        rw [← hbb,← Go.ByteArray.toList_eq,← Go.ByteArray.toList_eq]
        exact BEq.comm)
      rw [HBB.out] at HZ2
      clear HBB
      go_wp2_with (
           (with_reducible refine gate_dst (N:=6) rfl ?_)
           refine box_event ?hg (N:=6) ?hd (cs:=#[.string (⟨#[]⟩:ByteArray),.slice none 0 0,.int .i64 0,.int .i64 0,.slice none 0 0]) (t:=41) ?hr ?_
           (case hd=>rfl)
           (case hg=>rfl)
           (case hr=>first | (go_simp; done) | (go_simp; rfl))
           intro gy hgy w6 hbox hb6
           have hgw:wr.heap.size≤gy:=by omega
           have Hbw:=Az.mk (bset (g:=gy) (j:=4) (v:=.slice A6 y.f2.f2.length c6) (bset (g:=gy) (j:=3) (v:=.int .i64 y.f2.f1) (bset (g:=gy) (j:=2) (v:=.int .i64 y.f2.f0) (bset (g:=gy) (j:=1) (v:=.slice A5 y.f1.f0.length c5) (bset (g:=gy) (j:=0) (v:=.string y.f0) hb6 hgw) hgw) hgw) hgw) hgw)
           have Hgy:=Az.mk (blk_put (cs':=#[.string y.f0,.slice A5 y.f1.f0.length c5,.int .i64 y.f2.f0,.int .i64 y.f2.f1,.slice A6 y.f2.f2.length c6]) (blk_put (cs':=#[.string y.f0,.slice A5 y.f1.f0.length c5,.int .i64 y.f2.f0,.int .i64 y.f2.f1,.slice none 0 0]) (blk_put (cs':=#[.string y.f0,.slice A5 y.f1.f0.length c5,.int .i64 y.f2.f0,.int .i64 0,.slice none 0 0]) (blk_put (cs':=#[.string y.f0,.slice A5 y.f1.f0.length c5,.int .i64 0,.int .i64 0,.slice none 0 0]) (blk_put (cs':=#[.string y.f0,.slice none 0 0,.int .i64 0,.int .i64 0,.slice none 0 0]) hbox 0 (.string y.f0) rfl) 1 (.slice A5 y.f1.f0.length c5) rfl) 2 (.int .i64 y.f2.f0) rfl) 3 (.int .i64 y.f2.f1) rfl) 4 (.slice A6 y.f2.f2.length c6) rfl)
           have hcz0:=(blk_cell hbox 0).trans rfl
           have hfz0:=bkF hbox 0
           have hcz1:=(blk_cell hbox 1).trans rfl
           have hfz1:=bkF hbox 1
           have hcz2:=(blk_cell hbox 2).trans rfl
           have hfz2:=bkF hbox 2
           have hcz3:=(blk_cell hbox 3).trans rfl
           have hfz3:=bkF hbox 3
           have hcz4:=(blk_cell hbox 4).trans rfl
           have hfz4:=bkF hbox 4
           have m0:=(blk_cell Hgy.out 0).trans rfl
           have m1:=(blk_cell (bkB HgiB.out (bst HBi.out Hbw.out)) 0).trans rfl
           clear hbox hb6 hgy hgw)
      rotate_left
      · have HZ3:=Az.mk (show z=isIn (names46 ((l1.take i).drop (j+1))) x.f0 from HZ2.out.trans (by rw [‹bb=false›]; rfl))
        have HBi2:=Az.mk (bst HBi.out Hbw.out)
        clear hcz0 hcz1 hcz2 hcz3 hcz4 hfz0 hfz1 hfz2 hfz3 hfz4 m0 m1 hx0 hx1 hx2 hx3 hx4 HZ2
        have hk:=Hj.out
        obtain ⟨k1,rfl⟩:∃ k1,gk=k1+1:=⟨gk - 1,by omega⟩
        go_roundg k1
        case measure=>omega
        case rel=>exact ⟨j+1,by go_num,⟨by omega⟩,HZ3,HBi2⟩
      · have hr:r=false:=by rw [HS2.out,HF4.out,HZ2.out,‹bb=true›]; rfl
        subst hr
        go_ret
        exact ⟨rfl,bst (bst HB2.out HB6.out) Hbw.out⟩
end Go.Proofs.Ytkgknidogelffaa.I
