/- Texts of this session's proof, laid together: IX5, IQ1, IQ2, IQ3, IQ4, IQ5, IC1, IC2, IC3. -/
import Derived.Deep.RegionLaw
import Derived.Deep.RegionHeld3
import Derived.Test.YtnfgpepggehegaaL2
namespace Go.Proofs.Ytnfgpepggehegaa.I
open Go.RowKit Go.Proofs.YtnfgpepggehegaaW.PrintWords Go.Proofs.YtnfgpepggehegaaW.PrintLast Go.Proofs.YtnfgpepggehegaaW.PrintMore
attribute [local go_sem] max2_int min2_int max_two min_two max_three min_three max_four min_four
set_option linter.unusedVariables false
set_option maxRecDepth 100000
set_option linter.unusedSimpArgs false
set_option maxHeartbeats 16000000 in
theorem refis_calls (A0 : Option Addr) (c0 : Nat) (l0 : List S87) (A1 : Option Addr) (c1 : Nat) (l1 : List S84) (w : World) (hr0 : Kd.C k87 w A0 l0.length l0) (hc0 : l0.length ≤ c0) (hr1 : Kd.C k84 w A1 l1.length l1) (hc1 : l1.length ≤ c1) :
    Calls Try.prog 31 #[.agg #[.slice A0 l0.length c0, .slice A1 l1.length c1]] w fun e w' => e = .returned (.bool (schB l0 l1)) ∧ Below w.heap.size w w' := by
  have hu25 := Try.underlying25
  have hu84 := Try.underlying84
  have hu28 := Try.underlying28
  have hu53 := Try.underlying53
  have hlen : l1.length ≤ 9223372036854775807 := hr1.2.1
  obtain ⟨r, hr⟩ : ∃ r, r = schB l0 l1 := ⟨_, rfl⟩
  rw [← hr]
  have HR0 := Az.mk hr0
  have HC0 := Az.mk hc0
  have HR1 := Az.mk hr1
  have HC1 := Az.mk hc1
  have HE := Az.mk hr
  clear hr0 hc0 hr1 hc1 hr
  go_enter Try.func31, Try.ntmps31
  go_wp2_with (
      (with_reducible refine gate_dst (N := 1) rfl ?_)
      refine box_event ?hg (N := 1) ?hd (cs := #[.slice A0 l0.length c0, .slice A1 l1.length c1]) (t := 25) ?hr ?_
      (case hd => rfl)
      (case hg => rfl)
      (case hr => first | (go_simp; done) | (go_simp; rfl))
      intro g1 hg1 w1 hbox hb1
      have S11 := Az.mk hbox
      have HB1 := Az.mk hb1
      have a0 : w1.cell? ⟨g1, 0, none⟩ = some (.slice A0 l0.length c0) := (blk_cell hbox 0).trans rfl
      clear hbox hb1 hg1)
  (with_reducible refine (syms_calls (Kd.C_below HR0.out HB1.out) HC0.out).mono ?_)
  rintro e w2 ⟨rfl, hb2⟩
  have HB2 := Az.mk (bst HB1.out hb2)
  have S12 := Az.mk (bkB S11.out hb2)
  have a1 : w2.cell? ⟨g1, 1, none⟩ = some (.slice A1 l1.length c1) := (blk_cell S12.out 1).trans rfl
  clear hb2 a0 S11 HB1
  have HSB := Az.mk (show r = ((symsL l0 [] && decide (l0.length ≤ 24)) && ((decide (1 ≤ l1.length) && decide (l1.length ≤ 64)) && (funsL l1 [] && (decide ((rd_T84 l1 0).f1.f0.length = 0) && bodiesL l0 (l1.map (·.f1)) l1)))) from HE.out)
  have HSY := Az.mk (show (symsL l0 [] && decide (l0.length ≤ 24)) = true → symsL l0 [] = true from fun h => by simp only [Bool.and_eq_true] at h; exact h.1)
  clear HE
  generalize (symsL l0 [] && decide (l0.length ≤ 24)) = sb at *
  cases sb with
  | false =>
    have hr : r = false := HSB.out
    subst hr
    clear HSB HSY
    go_wp2_with fail
    go_ret
    exact ⟨rfl, HB2.out⟩
  | true =>
  have hsy := HSY.out rfl
  have HSY2 := Az.mk hsy
  clear hsy HSY
  by_cases h1 : l1.length < 1
  · have hr : r = false := by have := HSB.out; rw [this, decide_eq_false (by omega : ¬ 1 ≤ l1.length)]; rfl
    have q0 : l1.length = 0 := by omega
    subst hr
    clear HSB
    go_wp2_with fail
    go_ret
    exact ⟨rfl, HB2.out⟩
  have q1 : ((l1.length : Int) < 1) = False := eq_false (by omega)
  have q2 : (l1.length < 1) = False := eq_false h1
  by_cases h2 : 64 < l1.length
  · have hr : r = false := by have := HSB.out; rw [this, decide_eq_false (by omega : ¬ l1.length ≤ 64)]; simp
    have q3 : (64 < l1.length) = True := eq_true h2
    subst hr
    clear HSB
    go_wp2_with fail
    go_ret
    exact ⟨rfl, HB2.out⟩
  have q3 : (64 < l1.length) = False := eq_false h2
  have q3' : ((64 : Int) < (l1.length : Int)) = False := eq_false (by omega)
  have HS2 := Az.mk (show r = (funsL l1 [] && (decide ((rd_T84 l1 0).f1.f0.length = 0) && bodiesL l0 (l1.map (·.f1)) l1)) from by rw [HSB.out, decide_eq_true (by omega : 1 ≤ l1.length), decide_eq_true (by omega : l1.length ≤ 64)]; rfl)
  clear HSB
  go_wp2_with fail
  clear q1 q2 q3 q3'
  obtain ⟨q, hq⟩ : ∃ q, q = funsL l1 [] := ⟨_, rfl⟩
  rw [← hq] at HS2
  have HQ := Az.mk (show q = funsL (l1.drop 0) (names46 (l1.take 0)) from hq)
  have HQ0 := Az.mk hq
  have H1 := Az.mk h1
  have H2 := Az.mk h2
  clear hq a1 h1 h2
  go_loopg [30] l1.length (fun kq v30 wr => ∃ i : Nat, v30 = .int .i64 (i : Int) ∧ Az (i + kq = l1.length) ∧ Az (q = funsL (l1.drop i) (names46 (l1.take i))) ∧ Az (Below w2.heap.size w2 wr))
  case atStart => exact ⟨0, rfl, ⟨by omega⟩, HQ, ⟨Below.refl _ _⟩⟩
  case round =>
    clear HQ
    obtain ⟨i, rfl, Hi, HQ, HB⟩ := hrel
    have h64' : l1.length ≤ 64 := by have := H2.out; omega
    by_cases hlt : i < l1.length
    rotate_left
    · have hie : i = l1.length := by have := Hi.out; omega
      have hq : q = true := by have := HQ.out; rw [hie, List.drop_length] at this; rw [this, funsL]
      have HS3 := Az.mk (show r = (decide ((rd_T84 l1 0).f1.f0.length = 0) && bodiesL l0 (l1.map (·.f1)) l1) from by rw [HS2.out, hq]; rfl)
      have HFL := Az.mk (show funsL l1 [] = true from by rw [← HQ0.out]; exact hq)
      clear hq HQ HS2 HQ0 Hi hlt
      subst hie
      have HB3 := Az.mk (bst HB2.out HB.out)
      have S13 := Az.mk (bkB S12.out HB.out)
      have n1 := H1.out
      have e1 : wr.cell? ⟨g1, 1, none⟩ = some (.slice A1 l1.length c1) := (blk_cell S13.out 1).trans rfl
      obtain ⟨ad, A3, c3, A4, c4, rfl, hx0, hx1, hx2, hx3, hx4, hl3, hC3, hl4, hC4⟩ := at_T84 (Kd.C_below HR1.out HB3.out) 0 (by omega) (by omega)
      clear hx0 hx2 hx3 hx4 hl3 hC3 hl4 hC4
      replace hx1 : wr.cell? ⟨ad.block, ad.off + 1, none⟩ = _ := hx1
      have q1 : (0 < l1.length) = True := eq_true (by omega)
      have q2 : ((0 : Int) < (l1.length : Int)) = True := eq_true (by omega)
      generalize hm : (rd_T84 l1 0).f1.f0.length = m at *
      clear hm n1
      by_cases hm : m = 0
      rotate_left
      · have hr : r = false := by rw [HS3.out, decide_eq_false hm]; rfl
        subst hr
        have q3 : (0 < m) = True := eq_true (by omega)
        clear hm
        go_wp2_with fail
        go_ret
        exact ⟨rfl, HB3.out⟩
      subst hm
      go_wp2_with fail
      clear e1 hx1 q1 q2
      have HBL := Az.mk (show r = bodiesL l0 (l1.map (·.f1)) (l1.drop 0) from HS3.out)
      clear HS3
      go_loopg [84] l1.length (fun kq v84 wr => ∃ i : Nat, v84 = .int .i64 (i : Int) ∧ Az (i + kq = l1.length) ∧ Az (r = bodiesL l0 (l1.map (·.f1)) (l1.drop i)) ∧ Az (Below w2.heap.size w2 wr))
      case atStart => exact ⟨0, rfl, ⟨by omega⟩, HBL, HB⟩
      case round =>
        clear HBL HB HB3 S13
        obtain ⟨i, rfl, Hi, HBL, HB⟩ := hrel
        by_cases hlt : i < l1.length
        rotate_left
        · have hie : i = l1.length := by have := Hi.out; omega
          have hr : r = true := by have := HBL.out; rw [hie, List.drop_length] at this; rw [this, bodiesL]
          subst hr
          subst hie
          clear hlt HBL
          go_wp2_with fail
          go_ret
          exact ⟨rfl, bst HB2.out HB.out⟩
        have HB3 := Az.mk (bst HB2.out HB.out)
        obtain ⟨ad', A3, c3, A4, c4, he, hx0, hx1, hx2, hx3, hx4, hl3, hC3, hl4, hC4⟩ := at_T84 (Kd.C_below HR1.out HB3.out) (i : Int) (by omega) (by omega)
        cases he
        rw [Int.toNat_natCast] at hx0 hx1 hx2 hx3 hx4
        have HC4 := Az.mk hC4
        have Hl4 := Az.mk hl4
        have HLt := Az.mk hlt
        have HBL2 := Az.mk (HBL.out.trans (bodiesL_drop hlt))
        have hmem : rd_T84 l1 (i : Int) ∈ l1 := by unfold rd_T84; rw [Int.toNat_natCast, List.getD_eq_getElem?_getD, List.getElem?_eq_getElem hlt]; exact List.getElem_mem _
        have HSM := Az.mk (small_of HSY2.out HFL.out hmem)
        have HPL := Az.mk (fun (w : World) (h : Kd.C k84 w (some ad) l1.length l1) => place_calls A0 c0 l0 (some ad) c1 l1 i hlt w h HC1.out h64')
        have q1 : (0 ≤ (i : Int)) = True := eq_true (by omega)
        have q2 : ((i : Int) < (l1.length : Int)) = True := eq_true (by omega)
        have q3 : (i < l1.length) = True := eq_true (by omega)
        clear hC3 hl4 hC4 hl3 HBL hmem
        generalize rd_T84 l1 (i : Int) = x at *
        go_upto_region 20 with (
           (with_reducible refine gate_dst (N := 8) rfl ?_)
           refine box_event ?hg (N := 8) ?hd (cs := #[.string (⟨#[]⟩ : ByteArray), .slice none 0 0, .int .i64 0, .int .i64 0, .slice none 0 0]) (t := 84) ?hr ?_
           (case hd => rfl)
           (case hg => rfl)
           (case hr => first | (go_simp; done) | (go_simp; rfl))
           intro gi hgi w6 hbox hb6
           have hgw : wr.heap.size ≤ gi := by omega
           have Hbw := Az.mk (bset (g := gi) (j := 4) (v := .slice A4 x.f2.f2.length c4) (bset (g := gi) (j := 3) (v := .int .i64 x.f2.f1) (bset (g := gi) (j := 2) (v := .int .i64 x.f2.f0) (bset (g := gi) (j := 1) (v := .slice A3 x.f1.f0.length c3) (bset (g := gi) (j := 0) (v := .string x.f0) hb6 hgw) hgw) hgw) hgw) hgw)
           have Hgi := Az.mk (blk_put (cs' := #[.string x.f0, .slice A3 x.f1.f0.length c3, .int .i64 x.f2.f0, .int .i64 x.f2.f1, .slice A4 x.f2.f2.length c4]) (blk_put (cs' := #[.string x.f0, .slice A3 x.f1.f0.length c3, .int .i64 x.f2.f0, .int .i64 x.f2.f1, .slice none 0 0]) (blk_put (cs' := #[.string x.f0, .slice A3 x.f1.f0.length c3, .int .i64 x.f2.f0, .int .i64 0, .slice none 0 0]) (blk_put (cs' := #[.string x.f0, .slice A3 x.f1.f0.length c3, .int .i64 0, .int .i64 0, .slice none 0 0]) (blk_put (cs' := #[.string x.f0, .slice none 0 0, .int .i64 0, .int .i64 0, .slice none 0 0]) hbox 0 (.string x.f0) rfl) 1 (.slice A3 x.f1.f0.length c3) rfl) 2 (.int .i64 x.f2.f0) rfl) 3 (.int .i64 x.f2.f1) rfl) 4 (.slice A4 x.f2.f2.length c4) rfl)
           have hcz0 := (blk_cell hbox 0).trans rfl
           have hfz0 := bkF hbox 0
           have hcz1 := (blk_cell hbox 1).trans rfl
           have hfz1 := bkF hbox 1
           have hcz2 := (blk_cell hbox 2).trans rfl
           have hfz2 := bkF hbox 2
           have hcz3 := (blk_cell hbox 3).trans rfl
           have hfz3 := bkF hbox 3
           have hcz4 := (blk_cell hbox 4).trans rfl
           have hfz4 := bkF hbox 4
           clear hbox hb6 hgi hgw)
        clear hcz0 hcz1 hcz2 hcz3 hcz4 hfz0 hfz1 hfz2 hfz3 hfz4 hx0 hx1 hx2 hx3 hx4
        generalize (((((w6.setCell ⟨gi, 0, none⟩ (.string x.f0)).setCell ⟨gi, 1, none⟩ (.slice A3 x.f1.f0.length c3)).setCell ⟨gi, 2, none⟩ (.int .i64 x.f2.f0)).setCell ⟨gi, 3, none⟩ (.int .i64 x.f2.f1)).setCell ⟨gi, 4, none⟩ (.slice A4 x.f2.f2.length c4)) = wq at *
        have HBq := Az.mk (bst HB.out Hbw.out)
        have HBQ := Az.mk (bst HB3.out Hbw.out)
        have S1q := Az.mk (bkB S12.out HBq.out)
        have e0 : wq.cell? ⟨g1, 0, none⟩ = some (.slice A0 l0.length c0) := (blk_cell S1q.out 0).trans rfl
        have e1 : wq.cell? ⟨g1, 1, none⟩ = some (.slice (some ad) l1.length c1) := (blk_cell S1q.out 1).trans rfl
        have m2 : wq.cell? ⟨gi, 2, none⟩ = some (.int .i64 x.f2.f0) := (blk_cell Hgi.out 2).trans rfl
        have m3 : wq.cell? ⟨gi, 3, none⟩ = some (.int .i64 x.f2.f1) := (blk_cell Hgi.out 3).trans rfl
        have m4 : wq.cell? ⟨gi, 4, none⟩ = some (.slice A4 x.f2.f2.length c4) := (blk_cell Hgi.out 4).trans rfl
        have e0' := cel1 e0
        have e1' := cel1 e1
        have m2' := cel1 m2
        have m3' := cel1 m3
        have m4' := cel1 m4
        try simp only [Act.put, List.setIfInBounds_toArray, List.set_cons_succ, List.set_cons_zero]
        go_cut [9, 10] from 90 to 97 (fun v9 v10 wc => ∃ (g9 : Nat) (Ay : Option Addr) (cy : Nat), v9 = .pointer (some ⟨g9, 0, none⟩) ∧ v10 = .bool (ofT l0 (l1.map (·.f1)) x.f1.f0 x.f2).isSome ∧ Az (wc.heap[g9]? = some (.cells #[.slice Ay ((ofT l0 (l1.map (·.f1)) x.f1.f0 x.f2).getD []).length cy] 53 (0, 0))) ∧ Az (Below w2.heap.size w2 wc))
        case first =>
          go_region_law
            (first
              | (go_simp
                 go_at_call 60
                 first
                 | ((with_reducible refine (HPL.out wq.drew (Kd.C_below HR1.out (below_drew HBQ.out))).mono ?_)
                    rintro e9 wA ⟨vA, A7, c7, rfl, hvA, hvB, hbA⟩
                    obtain ⟨Av, cv, rfl⟩ := Kd.V_slice hvA
                    rw [List.length_map] at hvA ⊢
                    have HVA := Az.mk (show Kd.V k53 53 wA wA.heap.size (fun _ => True) (.slice Av l1.length cv) (l1.map (·.f1)) from hvA)
                    have HVB := Az.mk (show Kd.V k53 53 wA wA.heap.size (fun _ => True) (.slice A7 x.f1.f0.length c7) x.f1.f0 from hvB)
                    have HBA := Az.mk (bst (below_drew HBq.out) hbA)
                    have HbwA := Az.mk (bst (below_drew Hbw.out) hbA)
                    have a2 := cell_up hbA (show (wq.drew).cell? _ = _ from id m2)
                    have a3 := cell_up hbA (show (wq.drew).cell? _ = _ from id m3)
                    have a4 := cell_up hbA (show (wq.drew).cell? _ = _ from id m4)
                    have a2' := cel1 a2
                    have a3' := cel1 a3
                    have a4' := cel1 a4
                    skip
                    clear hvA hvB hbA)
                 | ((with_reducible refine (HPL.out (wq.alloc (.cells #[.slice none 0 0] 53)).drew (Kd.C_below HR1.out (below_drew (bal HBQ.out _)))).mono ?_)
                    rintro e9 wA ⟨vA, A7, c7, rfl, hvA, hvB, hbA⟩
                    obtain ⟨Av, cv, rfl⟩ := Kd.V_slice hvA
                    rw [List.length_map] at hvA ⊢
                    have HVA := Az.mk (show Kd.V k53 53 wA wA.heap.size (fun _ => True) (.slice Av l1.length cv) (l1.map (·.f1)) from hvA)
                    have HVB := Az.mk (show Kd.V k53 53 wA wA.heap.size (fun _ => True) (.slice A7 x.f1.f0.length c7) x.f1.f0 from hvB)
                    have HBA := Az.mk (bst (below_drew (bal HBq.out _)) hbA)
                    have HbwA := Az.mk (bst (below_drew (bal Hbw.out _)) hbA)
                    have a2 := cell_up hbA (show ((wq.alloc (.cells #[.slice none 0 0] 53)).drew).cell? _ = _ from cel1 m2 _)
                    have a3 := cell_up hbA (show ((wq.alloc (.cells #[.slice none 0 0] 53)).drew).cell? _ = _ from cel1 m3 _)
                    have a4 := cell_up hbA (show ((wq.alloc (.cells #[.slice none 0 0] 53)).drew).cell? _ = _ from cel1 m4 _)
                    have a2' := cel1 a2
                    have a3' := cel1 a3
                    have a4' := cel1 a4
                    have HG9 := Az.mk (show wA.heap[wq.heap.size]? = some (.cells #[.slice none 0 0] 53 (0, 0)) from bkB (blk_drew (blk_new wq (.cells #[.slice none 0 0] 53))) hbA)
                    clear hvA hvB hbA))
              | (go_simp
                 go_at_call 59
                 first
                 | ((with_reducible refine (of_calls2 A0 c0 l0 Av cv l1.length (l1.map (·.f1)) A7 c7 x.f1.f0 (List.length_map _) HSM.out x.f2 A4 c4 wA (Kd.C_below HR0.out (bst HB2.out (HBA.out))) (HVA.out) (HVB.out) (Kd.C_below HC4.out (HbwA.out)) Hl4.out).mono ?_)
                    rintro e9 wB ⟨Ay, cy, rfl, hbB⟩
                    have HBB := Az.mk (bst HBA.out hbB)
                    try (have G := bkB HG9.out hbB
                         have k9 := (blk_cell G 0).trans rfl
                         have f9 := bkF G 0
                         have HG9B := Az.mk G
                         clear G)
                    clear hbB)
                 | ((with_reducible refine (of_calls2 A0 c0 l0 Av cv l1.length (l1.map (·.f1)) A7 c7 x.f1.f0 (List.length_map _) HSM.out x.f2 A4 c4 (wA.alloc (.cells #[.slice none 0 0] 53)) (Kd.C_below HR0.out (bst HB2.out (bal HBA.out _))) (Kd.V_alloc HVA.out _) (Kd.V_alloc HVB.out _) (Kd.C_below HC4.out (bal HbwA.out _)) Hl4.out).mono ?_)
                    rintro e9 wB ⟨Ay, cy, rfl, hbB⟩
                    have HBB := Az.mk (bst (bal HBA.out _) hbB)
                    have G := bkB (blk_new wA (.cells #[.slice none 0 0] 53)) hbB
                    have k9 := (blk_cell G 0).trans rfl
                    have f9 := bkF G 0
                    have HG9B := Az.mk G
                    clear G hbB)))
          all_goals (
            go_wp2_with fail
            go_meet
            first
            | exact ⟨_, Ay, cy, rfl, rfl, ⟨blk_new _ _⟩, ⟨bal HBB.out _⟩⟩
            | exact ⟨_, Ay, cy, rfl, rfl, ⟨blk_put HG9B.out 0 _ rfl⟩, ⟨bset HBB.out (by first | exact HBA.out.size | exact HBq.out.size)⟩⟩)
        case rest =>
          obtain ⟨g9, Ay, cy, rfl, rfl, S9, HB9⟩ := hcut
          clear e0 e1 m2 m3 m4 e0' e1' m2' m3' m4' S1q HBQ HBq Hgi HPL HSM HC4 Hl4 Hbw HB HB3
          generalize ofT l0 (l1.map (·.f1)) x.f1.f0 x.f2 = o at *
          cases o with
          | none =>
            have hr : r = false := HBL2.out
            subst hr
            clear HBL2
            go_wp2_with fail
            go_ret
            exact ⟨rfl, bst HB2.out HB9.out⟩
          | some s =>
            have c9 : wc.cell? ⟨g9, 0, none⟩ = some (.slice Ay s.length cy) := (blk_cell S9.out 0).trans rfl
            have HBL3 := Az.mk (show r = (decide (s.length = 0) && bodiesL l0 (l1.map (·.f1)) (l1.drop (i + 1))) from HBL2.out)
            clear HBL2 S9
            generalize s.length = m at *
            by_cases hm : m = 0
            · have HN := Az.mk (show r = bodiesL l0 (l1.map (·.f1)) (l1.drop (i + 1)) from by rw [HBL3.out, decide_eq_true hm]; rfl)
              subst hm
              clear HBL3
              go_wp2_with fail
              have hk := Hi.out
              obtain ⟨k1, rfl⟩ : ∃ k1, gk = k1 + 1 := ⟨gk - 1, by omega⟩
              go_roundg k1
              case measure => omega
              case rel => exact ⟨i + 1, by go_num, ⟨by omega⟩, HN, HB9⟩
            · have hr : r = false := by rw [HBL3.out, decide_eq_false hm]; rfl
              subst hr
              have q4 : (0 < m) = True := eq_true (by omega)
              clear hm HBL3
              go_wp2_with fail
              go_ret
              exact ⟨rfl, bst HB2.out HB9.out⟩
    obtain ⟨ad', A3, c3, A4, c4, rfl, hx0, hx1, hx2, hx3, hx4, hl3, hC3, hl4, hC4⟩ := at_T84 (Kd.C_below HR1.out (bst HB2.out HB.out)) (i : Int) (by omega) (by omega)
    rw [Int.toNat_natCast] at hx0 hx1 hx2 hx3 hx4
    have HC3 := Az.mk hC3
    have HC4 := Az.mk hC4
    have Hl3 := Az.mk hl3
    have Hl4 := Az.mk hl4
    have HF := Az.mk (show q = ((funOk (rd_T84 l1 (i : Int)) && !isIn (names46 (l1.take i)) (rd_T84 l1 (i : Int)).f0) && funsL (l1.drop (i + 1)) (names46 (l1.take (i + 1)))) from by rw [HQ.out, rd_T84_drop l1 i hlt, funsL, rd_T84_take l1 i hlt])
    have q1 : (0 ≤ (i : Int)) = True := eq_true (by omega)
    have q2 : ((i : Int) < (l1.length : Int)) = True := eq_true (by omega)
    have q3 : (i < l1.length) = True := eq_true (by omega)
    clear hC3 hl4 hC4 hl3 HQ
    generalize rd_T84 l1 (i : Int) = x at *
    go_wp2_with (
           (with_reducible refine gate_dst (N := 4) rfl ?_)
           refine box_event ?hg (N := 4) ?hd (cs := #[.string (⟨#[]⟩ : ByteArray), .slice none 0 0, .int .i64 0, .int .i64 0, .slice none 0 0]) (t := 84) ?hr ?_
           (case hd => rfl)
           (case hg => rfl)
           (case hr => first | (go_simp; done) | (go_simp; rfl))
           intro gi hgi w6 hbox hb6
           have hgw : wr.heap.size ≤ gi := by omega
           have Hbw := Az.mk (bset (g := gi) (j := 4) (v := .slice A4 x.f2.f2.length c4) (bset (g := gi) (j := 3) (v := .int .i64 x.f2.f1) (bset (g := gi) (j := 2) (v := .int .i64 x.f2.f0) (bset (g := gi) (j := 1) (v := .slice A3 x.f1.f0.length c3) (bset (g := gi) (j := 0) (v := .string x.f0) hb6 hgw) hgw) hgw) hgw) hgw)
           have Hgi := Az.mk (blk_put (cs' := #[.string x.f0, .slice A3 x.f1.f0.length c3, .int .i64 x.f2.f0, .int .i64 x.f2.f1, .slice A4 x.f2.f2.length c4]) (blk_put (cs' := #[.string x.f0, .slice A3 x.f1.f0.length c3, .int .i64 x.f2.f0, .int .i64 x.f2.f1, .slice none 0 0]) (blk_put (cs' := #[.string x.f0, .slice A3 x.f1.f0.length c3, .int .i64 x.f2.f0, .int .i64 0, .slice none 0 0]) (blk_put (cs' := #[.string x.f0, .slice A3 x.f1.f0.length c3, .int .i64 0, .int .i64 0, .slice none 0 0]) (blk_put (cs' := #[.string x.f0, .slice none 0 0, .int .i64 0, .int .i64 0, .slice none 0 0]) hbox 0 (.string x.f0) rfl) 1 (.slice A3 x.f1.f0.length c3) rfl) 2 (.int .i64 x.f2.f0) rfl) 3 (.int .i64 x.f2.f1) rfl) 4 (.slice A4 x.f2.f2.length c4) rfl)
           have hcz0 := (blk_cell hbox 0).trans rfl
           have hfz0 := bkF hbox 0
           have hcz1 := (blk_cell hbox 1).trans rfl
           have hfz1 := bkF hbox 1
           have hcz2 := (blk_cell hbox 2).trans rfl
           have hfz2 := bkF hbox 2
           have hcz3 := (blk_cell hbox 3).trans rfl
           have hfz3 := bkF hbox 3
           have hcz4 := (blk_cell hbox 4).trans rfl
           have hfz4 := bkF hbox 4
           have m0 := (blk_cell Hgi.out 0).trans rfl
           clear hbox hb6 hgi hgw)
    clear hcz0 hcz1 hcz2 hcz3 hcz4 hfz0 hfz1 hfz2 hfz3 hfz4 m0 hx0 hx1 hx2 hx3 hx4
    generalize (((((w6.setCell ⟨gi, 0, none⟩ (.string x.f0)).setCell ⟨gi, 1, none⟩ (.slice A3 x.f1.f0.length c3)).setCell ⟨gi, 2, none⟩ (.int .i64 x.f2.f0)).setCell ⟨gi, 3, none⟩ (.int .i64 x.f2.f1)).setCell ⟨gi, 4, none⟩ (.slice A4 x.f2.f2.length c4)) = wq at *
    have HF2 := Az.mk (show q = (((nameOk x.f0 && (isok x.f1.f0 && !(decide (400 < tcnt x.f2) || decide (30 < tdep x.f2)))) && !isIn (names46 (l1.take i)) x.f0) && funsL (l1.drop (i + 1)) (names46 (l1.take (i + 1)))) from HF.out)
    clear HF
    (with_reducible refine (name_calls x.f0 _).mono ?_)
    rintro e w8 ⟨rfl, hb8⟩
    have Hbw8 := Az.mk (bst Hbw.out hb8)
    have Hgi8 := Az.mk (bkB Hgi.out hb8)
    clear hb8 Hbw Hgi
    generalize nameOk x.f0 = b at *
    cases b with
    | false =>
      have hr : r = false := by have := HF2.out; rw [HS2.out, this]; rfl
      subst hr
      clear HF2 HS2
      go_wp2_with fail
      go_ret
      exact ⟨rfl, bst (bst HB2.out HB.out) Hbw8.out⟩
    | true =>
    have m1 : w8.cell? ⟨gi, 1, none⟩ = some (.slice A3 x.f1.f0.length c3) := (blk_cell Hgi8.out 1).trans rfl
    go_wp2_with fail
    (with_reducible refine (isok_calls (Kd.C_below HC3.out Hbw8.out) Hl3.out).mono ?_)
    rintro e w9 ⟨rfl, hb9⟩
    have Hbw9 := Az.mk (bst Hbw8.out hb9)
    have Hgi9 := Az.mk (bkB Hgi8.out hb9)
    clear hb9 Hbw8 Hgi8 m1
    generalize isok x.f1.f0 = b at *
    cases b with
    | false =>
      have hr : r = false := by have := HF2.out; rw [HS2.out, this]; rfl
      subst hr
      clear HF2 HS2
      go_wp2_with fail
      go_ret
      exact ⟨rfl, bst (bst HB2.out HB.out) Hbw9.out⟩
    | true =>
    have m2 : w9.cell? ⟨gi, 2, none⟩ = some (.int .i64 x.f2.f0) := (blk_cell Hgi9.out 2).trans rfl
    have m3 : w9.cell? ⟨gi, 3, none⟩ = some (.int .i64 x.f2.f1) := (blk_cell Hgi9.out 3).trans rfl
    have m4 : w9.cell? ⟨gi, 4, none⟩ = some (.slice A4 x.f2.f2.length c4) := (blk_cell Hgi9.out 4).trans rfl
    go_wp2_with fail
    (with_reducible refine (tnodes_calls x.f2.f0 x.f2.f1 (Kd.C_below HC4.out Hbw9.out) Hl4.out).mono ?_)
    rintro e wA ⟨rfl, hbA⟩
    have HbwA := Az.mk (bst Hbw9.out hbA)
    have HgiA := Az.mk (bkB Hgi9.out hbA)
    clear hbA Hbw9 Hgi9 m2 m3 m4
    have hcn := tcnt_f2 x.f2
    by_cases hn : 400 < tcnt x.f2
    · have hr : r = false := by have := HF2.out; rw [HS2.out, this, decide_eq_true hn]; rfl
      rw [show min (1 + tcntL x.f2.f2) 401 = 401 from by omega]
      subst hr
      clear HF2 HS2 hn hcn
      go_wp2_with fail
      go_ret
      exact ⟨rfl, bst (bst HB2.out HB.out) HbwA.out⟩
    obtain ⟨nn, hnn⟩ : ∃ nn, nn = min (1 + tcntL x.f2.f2) 401 := ⟨_, rfl⟩
    rw [← hnn]
    have p400 : ((400 : Int) < nn) = False := eq_false (by omega)
    have Hcn := Az.mk (show tcntL x.f2.f2 ≤ 1000 from by omega)
    have HF3 := Az.mk (show q = ((!(decide (30 < tdep x.f2)) && !isIn (names46 (l1.take i)) x.f0) && funsL (l1.drop (i + 1)) (names46 (l1.take (i + 1)))) from by rw [HF2.out, decide_eq_false hn]; rfl)
    clear HF2 hn hcn hnn
    have m2 : wA.cell? ⟨gi, 2, none⟩ = some (.int .i64 x.f2.f0) := (blk_cell HgiA.out 2).trans rfl
    have m3 : wA.cell? ⟨gi, 3, none⟩ = some (.int .i64 x.f2.f1) := (blk_cell HgiA.out 3).trans rfl
    have m4 : wA.cell? ⟨gi, 4, none⟩ = some (.slice A4 x.f2.f2.length c4) := (blk_cell HgiA.out 4).trans rfl
    go_wp2_with fail
    (with_reducible refine (tdepth_calls x.f2.f0 x.f2.f1 Hcn.out (Kd.C_below HC4.out HbwA.out) Hl4.out).mono ?_)
    rintro e wB ⟨rfl, hbB⟩
    have HbwB := Az.mk (bst HbwA.out hbB)
    have HgiB := Az.mk (bkB HgiA.out hbB)
    clear hbB HbwA HgiA m2 m3 m4 p400
    have hde := tdep_f2 x.f2
    rw [← hde]
    clear hde
    by_cases hd : 30 < tdep x.f2
    · have hr : r = false := by have := HF3.out; rw [HS2.out, this, decide_eq_true hd]; rfl
      have p30 : ((30 : Int) < tdep x.f2) = True := eq_true hd
      subst hr
      clear HF3 HS2 hd
      go_wp2_with fail
      go_ret
      exact ⟨rfl, bst (bst HB2.out HB.out) HbwB.out⟩
    have p30 : ((30 : Int) < tdep x.f2) = False := eq_false hd
    have HF4 := Az.mk (show q = ((!isIn (names46 (l1.take i)) x.f0) && funsL (l1.drop (i + 1)) (names46 (l1.take (i + 1)))) from by rw [HF3.out, decide_eq_false hd]; rfl)
    clear HF3 hd
    have HB5 := Az.mk (bst HB.out HbwB.out)
    have S15 := Az.mk (bkB S12.out HB5.out)
    have e1 : wB.cell? ⟨g1, 1, none⟩ = some (.slice (some ad') l1.length c1) := (blk_cell S15.out 1).trans rfl
    have pc : (i ≤ c1) = True := eq_true (by have := HC1.out; omega)
    go_wp2_with fail
    clear p30 e1 pc
    have hko := Hi.out
    obtain ⟨ko, rfl⟩ : ∃ ko, gk = ko + 1 := ⟨gk - 1, by omega⟩
    clear hko
    obtain ⟨z, hz⟩ : ∃ z, z = isIn (names46 (l1.take i)) x.f0 := ⟨_, rfl⟩
    rw [← hz] at HF4
    have HZ := Az.mk (show z = isIn (names46 ((l1.take i).drop 0)) x.f0 from hz)
    clear hz HbwB
    go_loopg [62] i (fun kq v62 wr2 => ∃ j : Nat, v62 = .int .i64 (j : Int) ∧ Az (j + kq = i) ∧ Az (z = isIn (names46 ((l1.take i).drop j)) x.f0) ∧ Az (Below wB.heap.size wB wr2))
    case atStart => exact ⟨0, rfl, ⟨by omega⟩, HZ, ⟨Below.refl _ _⟩⟩
    case round =>
      clear HZ
      obtain ⟨j, rfl, Hj, HZ, HBi⟩ := hrel
      by_cases hjt : j < i
      rotate_left
      · have hje : j = i := by have := Hj.out; omega
        have hz : z = false := by have := HZ.out; rw [hje, List.drop_of_length_le (by rw [List.length_take]; omega)] at this; exact this
        have HN := Az.mk (show q = funsL (l1.drop (i + 1)) (names46 (l1.take (i + 1))) from by rw [HF4.out, hz]; rfl)
        have HB7 := Az.mk (bst HB5.out HBi.out)
        subst hje
        clear hz HZ HF4 HBi
        go_wp2_with fail
        go_roundg ko
        case measure => omega
        case rel => exact ⟨j + 1, by go_num, ⟨by have := Hi.out; omega⟩, HN, HB7⟩
      have HB6 := Az.mk (bst HB5.out HBi.out)
      obtain ⟨ad2, A5, c5, A6, c6, he, hx0, hx1, hx2, hx3, hx4, hl5, hC5, hl6, hC6⟩ := at_T84 (Kd.C_below HR1.out (bst HB2.out HB6.out)) (j : Int) (by omega) (by omega)
      cases he
      rw [Int.toNat_natCast] at hx0 hx1 hx2 hx3 hx4
      have HZ2 := Az.mk (show z = ((rd_T84 l1 (j : Int)).f0.data.toList == x.f0.data.toList || isIn (names46 ((l1.take i).drop (j + 1))) x.f0) from by
        rw [HZ.out, rd_T84_drop (l1.take i) j (by rw [List.length_take]; omega)]
        have e : rd_T84 (l1.take i) (j : Int) = rd_T84 l1 (j : Int) := by unfold rd_T84; rw [Int.toNat_natCast, List.getD_eq_getElem?_getD, List.getD_eq_getElem?_getD, List.getElem?_take_of_lt hjt]
        rw [e]
        rfl)
      have q4 : (0 ≤ (j : Int)) = True := eq_true (by omega)
      have q5 : ((j : Int) < (i : Int)) = True := eq_true (by omega)
      have q6 : (j < i) = True := eq_true (by omega)
      clear hl5 hC5 hl6 hC6 HZ
      generalize rd_T84 l1 (j : Int) = y at *
      obtain ⟨bb, hbb⟩ : ∃ bb, (x.f0.toList == y.f0.toList) = bb := ⟨_, rfl⟩
      have HBB := Az.mk (show (y.f0.data.toList == x.f0.data.toList) = bb from by
        rw [← hbb, ← Go.ByteArray.toList_eq, ← Go.ByteArray.toList_eq]
        exact BEq.comm)
      rw [HBB.out] at HZ2
      clear HBB
      go_wp2_with (
           (with_reducible refine gate_dst (N := 6) rfl ?_)
           refine box_event ?hg (N := 6) ?hd (cs := #[.string (⟨#[]⟩ : ByteArray), .slice none 0 0, .int .i64 0, .int .i64 0, .slice none 0 0]) (t := 84) ?hr ?_
           (case hd => rfl)
           (case hg => rfl)
           (case hr => first | (go_simp; done) | (go_simp; rfl))
           intro gy hgy w6 hbox hb6
           have hgw : wr.heap.size ≤ gy := by omega
           have Hbw := Az.mk (bset (g := gy) (j := 4) (v := .slice A6 y.f2.f2.length c6) (bset (g := gy) (j := 3) (v := .int .i64 y.f2.f1) (bset (g := gy) (j := 2) (v := .int .i64 y.f2.f0) (bset (g := gy) (j := 1) (v := .slice A5 y.f1.f0.length c5) (bset (g := gy) (j := 0) (v := .string y.f0) hb6 hgw) hgw) hgw) hgw) hgw)
           have Hgy := Az.mk (blk_put (cs' := #[.string y.f0, .slice A5 y.f1.f0.length c5, .int .i64 y.f2.f0, .int .i64 y.f2.f1, .slice A6 y.f2.f2.length c6]) (blk_put (cs' := #[.string y.f0, .slice A5 y.f1.f0.length c5, .int .i64 y.f2.f0, .int .i64 y.f2.f1, .slice none 0 0]) (blk_put (cs' := #[.string y.f0, .slice A5 y.f1.f0.length c5, .int .i64 y.f2.f0, .int .i64 0, .slice none 0 0]) (blk_put (cs' := #[.string y.f0, .slice A5 y.f1.f0.length c5, .int .i64 0, .int .i64 0, .slice none 0 0]) (blk_put (cs' := #[.string y.f0, .slice none 0 0, .int .i64 0, .int .i64 0, .slice none 0 0]) hbox 0 (.string y.f0) rfl) 1 (.slice A5 y.f1.f0.length c5) rfl) 2 (.int .i64 y.f2.f0) rfl) 3 (.int .i64 y.f2.f1) rfl) 4 (.slice A6 y.f2.f2.length c6) rfl)
           have hcz0 := (blk_cell hbox 0).trans rfl
           have hfz0 := bkF hbox 0
           have hcz1 := (blk_cell hbox 1).trans rfl
           have hfz1 := bkF hbox 1
           have hcz2 := (blk_cell hbox 2).trans rfl
           have hfz2 := bkF hbox 2
           have hcz3 := (blk_cell hbox 3).trans rfl
           have hfz3 := bkF hbox 3
           have hcz4 := (blk_cell hbox 4).trans rfl
           have hfz4 := bkF hbox 4
           have m0 := (blk_cell Hgy.out 0).trans rfl
           have m1 := (blk_cell (bkB HgiB.out (bst HBi.out Hbw.out)) 0).trans rfl
           clear hbox hb6 hgy hgw)
      rotate_left
      · have HZ3 := Az.mk (show z = isIn (names46 ((l1.take i).drop (j + 1))) x.f0 from HZ2.out.trans (by rw [‹bb = false›]; rfl))
        have HBi2 := Az.mk (bst HBi.out Hbw.out)
        clear hcz0 hcz1 hcz2 hcz3 hcz4 hfz0 hfz1 hfz2 hfz3 hfz4 m0 m1 hx0 hx1 hx2 hx3 hx4 HZ2
        have hk := Hj.out
        obtain ⟨k1, rfl⟩ : ∃ k1, gk = k1 + 1 := ⟨gk - 1, by omega⟩
        go_roundg k1
        case measure => omega
        case rel => exact ⟨j + 1, by go_num, ⟨by omega⟩, HZ3, HBi2⟩
      · have hr : r = false := by rw [HS2.out, HF4.out, HZ2.out, ‹bb = true›]; rfl
        subst hr
        go_ret
        exact ⟨rfl, bst (bst HB2.out HB6.out) Hbw.out⟩
end Go.Proofs.Ytnfgpepggehegaa.I
namespace Go.Proofs.Ytnfgpepggehegaa.I
open Go.RowKit Go.Proofs.YtnfgpepggehegaaW.PrintWords Go.Proofs.YtnfgpepggehegaaW.PrintLast Go.Proofs.YtnfgpepggehegaaW.PrintMore
attribute [local go_sem] max2_int min2_int max_two min_two max_three min_three max_four min_four
set_option linter.unusedVariables false
set_option maxRecDepth 100000
set_option linter.unusedSimpArgs false
set_option maxHeartbeats 8000000 in
theorem phead_calls (P : Nat → Prop) (A0 : Option Addr) (c0 : Nat) (l0 : List S87) (A1 : Option Addr) (c1 : Nat) (l1 : List S53) (A2 : Option Addr) (c2 : Nat) (l2 : List S53) (k n : Int) (u : Value) (w : World) (hu : u.oneCell' = true)
    (hr0 : Kd.C k87 w A0 l0.length l0) (h1 : Kd.V k53 53 w w.heap.size P (.slice A1 l1.length c1) l1) (h2 : Kd.V k53 53 w w.heap.size P (.slice A2 l2.length c2) l2) (hrk : ∀ x ∈ l0, 0 ≤ x.f1 ∧ x.f1 ≤ 1000000) :
    Calls Try.prog 72 #[.agg #[.slice A0 l0.length c0, .slice A1 l1.length c1, .slice A2 l2.length c2], .agg #[.int .i64 k, .int .i64 n, u]] w fun e w' => ∃ v, e = .returned (.tuple #[.agg #[v], .bool (hdF l0 l1 l2 k n).isSome]) ∧ Kd.V k53 53 w' w.heap.size (fun q => P q ∨ w.heap.size ≤ q) v ((hdF l0 l1 l2 k n).getD []) ∧ Below w.heap.size w w' := by
  have hu56 := Try.underlying56
  have hu28 := Try.underlying28
  have hu53 := Try.underlying53
  have hu87 := Try.underlying87
  have HR0 := Az.mk hr0
  have H1 := Az.mk (Kd.V_bound h1)
  have H2 := Az.mk (Kd.V_bound h2)
  have HK := Az.mk hrk
  clear hr0 h1 h2 hrk
  go_enter Try.func72, Try.ntmps72
  go_wp2_with (first
   | ((with_reducible refine gate_dst (N := 2) rfl ?_)
      refine box_event ?hg (N := 2) ?hd (cs := #[.slice A0 l0.length c0, .slice A1 l1.length c1, .slice A2 l2.length c2]) (t := 56) ?hr ?_
      (case hd => rfl)
      (case hg => rfl)
      (case hr => first | (go_simp; done) | (go_simp; rfl))
      intro g2 hg2 w2 hbox hb2
      have S22 := Az.mk hbox
      have HB2 := Az.mk hb2
      have hw2 : w.heap.size ≤ g2 := by omega
      clear hbox hb2 hg2)
   | ((with_reducible refine gate_dst (N := 3) rfl ?_)
      refine box_event ?hg (N := 3) ?hd (cs := #[.int .i64 k, .int .i64 n, u]) (t := 28) ?hr ?_
      (case hd => rfl)
      (case hg => rfl)
      (case hr => first | (go_simp; done) | (go_simp; rfl))
      intro g3 hg3 w3 hbox hb3
      have hn32 : g3 ≠ g2 := by have := blk_lt S22.out; omega
      have hw3 : w.heap.size ≤ g3 := by have := HB2.out.size; omega
      have S23 := Az.mk (bkB S22.out hb3)
      have S33 := Az.mk hbox
      have HB3 := Az.mk (bst HB2.out hb3)
      clear hbox hb3 hg3 S22 HB2)
   | ((with_reducible refine gate_dst (N := 4) rfl ?_)
      refine box_event ?hg (N := 4) ?hd (cs := #[.slice none 0 0]) (t := 53) ?hr ?_
      (case hd => rfl)
      (case hg => rfl)
      (case hr => first | (go_simp; done) | (go_simp; rfl))
      intro g4 hg4 w4 hbox hb4
      have hn42 : g4 ≠ g2 := by have := blk_lt S23.out; omega
      have hn43 : g4 ≠ g3 := by have := blk_lt S33.out; omega
      have hw4 : w.heap.size ≤ g4 := by have := HB3.out.size; omega
      have S24 := Az.mk (bkB S23.out hb4)
      have S34 := Az.mk (bkB S33.out hb4)
      have S44 := Az.mk hbox
      have HB4 := Az.mk (bst HB3.out hb4)
      have hlt4 : g4 < w4.heap.size := blk_lt hbox
      clear hbox hb4 hg4 S23 S33 HB3
      refine holdX ?_))
  unfold HoldX
  have HR4 := Az.mk (Kd.C_below HR0.out HB4.out)
  have V1 := Az.mk (Kd.V_below H1.out HB4.out)
  have V2 := Az.mk (Kd.V_below H2.out HB4.out)
  have a0 : w4.cell? ⟨g2, 0, none⟩ = some (.slice A0 l0.length c0) := (blk_cell S24.out 0).trans rfl
  have a1 : w4.cell? ⟨g2, 1, none⟩ = some (.slice A1 l1.length c1) := (blk_cell S24.out 1).trans rfl
  have a2 : w4.cell? ⟨g2, 2, none⟩ = some (.slice A2 l2.length c2) := (blk_cell S24.out 2).trans rfl
  have b0 : w4.cell? ⟨g3, 0, none⟩ = some (.int .i64 k) := (blk_cell S34.out 0).trans rfl
  have b1 : w4.cell? ⟨g3, 1, none⟩ = some (.int .i64 n) := (blk_cell S34.out 1).trans rfl
  have d0 : w4.cell? ⟨g4, 0, none⟩ = some (.slice none 0 0) := (blk_cell S44.out 0).trans rfl
  have df := bkF S44.out 0
  have fin : ∀ (v : Value) (l : List S53) (wq : World), Below w.heap.size w wq → wq.heap[g4]? = some (.cells #[.slice none 0 0] 53 (0, 0)) → Kd.V k53 53 wq w.heap.size (fun q => (P q ∨ w.heap.size ≤ q) ∧ q ≠ g4) v l → Kd.V k53 53 (wq.setCell ⟨g4, 0, none⟩ v) w.heap.size (fun q => P q ∨ w.heap.size ≤ q) v l ∧ Below w.heap.size w (wq.setCell ⟨g4, 0, none⟩ v) := fun v l wq hb hc hv => ⟨Kd.V_mono (Kd.V_far (p := ⟨g4, 0, none⟩) hv (fun _ hk => hk.2) v) (fun _ hk => hk.1), bset (g := g4) (j := 0) hb hw4⟩
  have nilV : Kd.V k53 53 w4 w.heap.size (fun q => (P q ∨ w.heap.size ≤ q) ∧ q ≠ g4) (.slice none 0 0) ([] : List S53) := Kd.V_nil _ _ _ _ _
  by_cases q1 : n < 0
  · have b : decide (n < 0) = true := decide_eq_true q1
    have e : hdF l0 l1 l2 k n = none := by unfold hdF; rw [if_pos q1]
    go_wp2_with fail
    refine bodyPost_ret (results_ct rfl _ _ g4 53 #[.slice none 0 0] (0, 0) _ rfl (blk_put (cs' := #[.slice none 0 0]) S44.out 0 _ rfl) Try.underlying53 rfl (by kernel_rfl)) rfl ?_
    try rw [e]
    exact ⟨_, rfl, fin _ _ _ HB4.out S44.out nilV⟩
  have bn : decide (n < 0) = false := decide_eq_false q1
  have pn : (0 ≤ n) = True := eq_true (by omega)
  by_cases q2 : k = 0
  · subst q2
    by_cases q3 : n < (l2.length : Int)
    · have b : decide (n < (l2.length : Int)) = true := decide_eq_true q3
      have p3 := eq_true q3
      have e : hdF l0 l1 l2 0 n = some (rd_T53 l2 n).f0 := by unfold hdF; rw [if_neg q1, if_pos rfl, if_pos q3]
      obtain ⟨ad, A', c', rfl, hx, hv⟩ := V_at41 V2.out (by omega) q3
      have HV := Az.mk hv
      clear hv
      go_wp2_with fail
      refine bodyPost_ret (results_ct rfl _ _ g4 53 #[.slice A' (rd_T53 l2 n).f0.length c'] (0, 0) _ rfl (blk_put (cs' := #[.slice A' (rd_T53 l2 n).f0.length c']) S44.out 0 _ rfl) Try.underlying53 rfl (by kernel_rfl)) rfl ?_
      try rw [e]
      exact ⟨_, rfl, fin _ _ _ HB4.out S44.out (Kd.V_mono HV.out (fun q hq => ⟨.inl hq.1, by omega⟩))⟩
    · have b : decide (n < (l2.length : Int)) = false := decide_eq_false q3
      have e : hdF l0 l1 l2 0 n = none := by unfold hdF; rw [if_neg q1, if_pos rfl, if_neg q3]
      go_wp2_with fail
      refine bodyPost_ret (results_ct rfl _ _ g4 53 #[.slice none 0 0] (0, 0) _ rfl (blk_put (cs' := #[.slice none 0 0]) S44.out 0 _ rfl) Try.underlying53 rfl (by kernel_rfl)) rfl ?_
      try rw [e]
      exact ⟨_, rfl, fin _ _ _ HB4.out S44.out nilV⟩
  have bk : (k == 0) = false := beq_eq_false_iff_ne.2 q2
  by_cases q4 : k = 1
  · subst q4
    clear bk
    by_cases q3 : n < (l1.length : Int)
    · have b : decide (n < (l1.length : Int)) = true := decide_eq_true q3
      have p3 := eq_true q3
      have e : hdF l0 l1 l2 1 n = some (rd_T53 l1 n).f0 := by unfold hdF; rw [if_neg q1, if_neg q2, if_pos rfl, if_pos q3]
      obtain ⟨ad, A', c', rfl, hx, hv⟩ := V_at41 V1.out (by omega) q3
      have HV := Az.mk hv
      clear hv
      go_wp2_with fail
      refine bodyPost_ret (results_ct rfl _ _ g4 53 #[.slice A' (rd_T53 l1 n).f0.length c'] (0, 0) _ rfl (blk_put (cs' := #[.slice A' (rd_T53 l1 n).f0.length c']) S44.out 0 _ rfl) Try.underlying53 rfl (by kernel_rfl)) rfl ?_
      try rw [e]
      exact ⟨_, rfl, fin _ _ _ HB4.out S44.out (Kd.V_mono HV.out (fun q hq => ⟨.inl hq.1, by omega⟩))⟩
    · have b : decide (n < (l1.length : Int)) = false := decide_eq_false q3
      have e : hdF l0 l1 l2 1 n = none := by unfold hdF; rw [if_neg q1, if_neg q2, if_pos rfl, if_neg q3]
      go_wp2_with fail
      refine bodyPost_ret (results_ct rfl _ _ g4 53 #[.slice none 0 0] (0, 0) _ rfl (blk_put (cs' := #[.slice none 0 0]) S44.out 0 _ rfl) Try.underlying53 rfl (by kernel_rfl)) rfl ?_
      try rw [e]
      exact ⟨_, rfl, fin _ _ _ HB4.out S44.out nilV⟩
  have bk1 : (k == 1) = false := beq_eq_false_iff_ne.2 q4
  by_cases q5 : k = 2
  · subst q5
    clear bk bk1
    by_cases q3 : n < (l0.length : Int)
    · have b : decide (n < (l0.length : Int)) = true := decide_eq_true q3
      have p3 := eq_true q3
      have e : hdF l0 l1 l2 2 n = some (List.replicate (rd_T87 l0 n).f1.toNat z53) := by unfold hdF; rw [if_neg q1, if_neg q2, if_neg q4, if_pos rfl, if_pos q3]
      obtain ⟨ad, rfl, hx0, hx1⟩ := at_T87 HR4.out n (by omega) q3
      have hm : rd_T87 l0 n ∈ l0 := by
        unfold rd_T87
        rw [List.getD_eq_getElem?_getD, List.getElem?_eq_getElem (by omega : n.toNat < l0.length)]
        exact List.getElem_mem _
      obtain ⟨r0, r1⟩ := HK.out _ hm
      obtain ⟨m, hm⟩ : ∃ m : Nat, (rd_T87 l0 n).f1 = (m : Int) := ⟨(rd_T87 l0 n).f1.toNat, by omega⟩
      rw [hm] at hx1
      rw [hm, Int.toNat_natCast] at e
      obtain ⟨ob, hrun, hrow⟩ := make_sorts m (by omega)
      have HRow := Az.mk hrow
      clear hrow
      go_wp2_with fail
      obtain ⟨x, hx⟩ : ∃ x : Value, x = .slice (some ⟨w4.heap.size, 0, none⟩) m m := ⟨_, rfl⟩
      have hs : (w4.setCell ⟨g4, 0, none⟩ x).heap.size = w4.heap.size := World.size_setCell _ _ _
      have hrow := HRow.out (w4.setCell ⟨g4, 0, none⟩ x) w.heap.size (by rw [hs]; exact HB4.out.size)
      rw [hs, ← hx] at hrow
      rw [← hx]
      refine bodyPost_ret (results_ct rfl _ _ g4 53 #[x] (0, 0) _ rfl (bkA (blk_put (cs' := #[x]) S44.out 0 _ rfl) _) Try.underlying53 rfl (by kernel_rfl)) rfl ?_
      try rw [e]
      exact ⟨_, rfl, Kd.V_mono (Kd.R_V hrow) (fun q hq => .inr (by have := HB4.out.size; omega)), bal (bset (g := g4) (j := 0) HB4.out hw4) _⟩
    · have b : decide (n < (l0.length : Int)) = false := decide_eq_false q3
      have e : hdF l0 l1 l2 2 n = none := by unfold hdF; rw [if_neg q1, if_neg q2, if_neg q4, if_pos rfl, if_neg q3]
      go_wp2_with fail
      refine bodyPost_ret (results_ct rfl _ _ g4 53 #[.slice none 0 0] (0, 0) _ rfl (blk_put (cs' := #[.slice none 0 0]) S44.out 0 _ rfl) Try.underlying53 rfl (by kernel_rfl)) rfl ?_
      try rw [e]
      exact ⟨_, rfl, fin _ _ _ HB4.out S44.out nilV⟩
  have bk2 : (k == 2) = false := beq_eq_false_iff_ne.2 q5
  have e : hdF l0 l1 l2 k n = none := by unfold hdF; rw [if_neg q1, if_neg q2, if_neg q4, if_neg q5]
  go_wp2_with fail
  refine bodyPost_ret (results_ct rfl _ _ g4 53 #[.slice none 0 0] (0, 0) _ rfl (blk_put (cs' := #[.slice none 0 0]) S44.out 0 _ rfl) Try.underlying53 rfl (by kernel_rfl)) rfl ?_
  try rw [e]
  exact ⟨_, rfl, fin _ _ _ HB4.out S44.out nilV⟩
end Go.Proofs.Ytnfgpepggehegaa.I
namespace Go.Proofs.Ytnfgpepggehegaa.I
open Go.RowKit Go.Proofs.YtnfgpepggehegaaW.PrintWords Go.Proofs.YtnfgpepggehegaaW.PrintLast Go.Proofs.YtnfgpepggehegaaW.PrintMore
attribute [local go_sem] max2_int min2_int max_two min_two max_three min_three max_four min_four
set_option linter.unusedVariables false
set_option maxRecDepth 100000
set_option linter.unusedSimpArgs false
mutual
theorem eqS_eq : ∀ x y : S53, eqS x y = true → x = y
  | ⟨l⟩, ⟨m⟩, h => by
    unfold eqS at h
    rw [eqL_eq l m h]
theorem eqL_eq : ∀ l m : List S53, eqL l m = true → l = m
  | [], [], _ => rfl
  | [], _ :: _, h => by simp [eqL] at h
  | _ :: _, [], h => by simp [eqL] at h
  | x :: xs, y :: ys, h => by
    unfold eqL at h
    rw [Bool.and_eq_true] at h
    rw [eqS_eq x y h.1, eqL_eq xs ys h.2]
end
theorem size_small {l : List S53} (h : cntL l ≤ 59) : ∃ d, sorts_Size.f l = some (1 + cntL l, d) := by
  refine ⟨1 + depL l, ?_⟩
  rw [size_eq, if_pos (by omega)]
theorem size_any (l : List S53) : ∃ n d, sorts_Size.f l = some (n, d) := ⟨_, _, rfl⟩
theorem ssame_calls {l m : List S53} (hl : cntL l ≤ 59) {w : World} {A : Option Addr} {c : Nat} {A' : Option Addr} {c' : Nat} (hr : Kd.C k53 w A l.length l) (hc : l.length ≤ c) (hr' : Kd.C k53 w A' m.length m) (hc' : m.length ≤ c') :
    Calls Try.prog 73 #[.agg #[.slice A l.length c], .agg #[.slice A' m.length c']] w fun e w' => e = .returned (.bool (eqL l m)) ∧ Below w.heap.size w w' := by
  have hu53 := Try.underlying53
  obtain ⟨d1, e1⟩ := size_small hl
  obtain ⟨n2, d2, e2⟩ := size_any m
  obtain ⟨n1, hn1⟩ : ∃ n1, n1 = 1 + cntL l := ⟨_, rfl⟩
  rw [← hn1] at e1
  obtain ⟨r, hr0⟩ : ∃ r, r = eqL l m := ⟨_, rfl⟩
  rw [← hr0]
  have hz : ¬ n1 = n2 → r = false := fun hne => by
    rw [hr0]
    cases h : eqL l m with
    | false => rfl
    | true =>
      have := eqL_eq l m h
      subst this
      rw [e1] at e2
      injection e2 with e2
      injection e2 with e2
      exact absurd e2 hne
  have HR := Az.mk hr
  have HC := Az.mk hc
  have HR' := Az.mk hr'
  have HC' := Az.mk hc'
  have H0 := Az.mk hr0
  have HZ := Az.mk hz
  have E1 := Az.mk e1
  have E2 := Az.mk e2
  have q1 : (n1 ≤ 60) = True := eq_true (by omega)
  clear hr hc hr' hc' hl hr0 hz e1 e2 hn1
  go_enter Try.func73, Try.ntmps73
  go_wp2_with (first
    | ((with_reducible refine gate_dst (N := 2) rfl ?_)
       refine box_event ?hg (N := 2) ?hd (cs := #[.slice A l.length c]) (t := 53) ?hr ?_
       (case hd => rfl)
       (case hg => rfl)
       (case hr => first | (go_simp; done) | (go_simp; rfl))
       intro g2 hg2 w2 hbox hbb
       have S2 := Az.mk hbox
       have HB2 := Az.mk hbb
       clear hbox hbb hg2)
    | ((with_reducible refine gate_dst (N := 3) rfl ?_)
       refine box_event ?hg (N := 3) ?hd (cs := #[.slice A' m.length c']) (t := 53) ?hr ?_
       (case hd => rfl)
       (case hg => rfl)
       (case hr => first | (go_simp; done) | (go_simp; rfl))
       intro g3 hg3 w3 hbox hbb
       have S3 := Az.mk hbox
       have S23 := Az.mk (bkB S2.out hbb)
       have HB3 := Az.mk (bst HB2.out hbb)
       have a0 : w3.cell? ⟨g2, 0, none⟩ = some (.slice A l.length c) := (blk_cell S23.out 0).trans rfl
       clear hbox hbb hg3))
  (with_reducible refine (sorts_Size.calls A c l n1 d1 _ (Kd.C_below HR.out HB3.out) HC.out E1.out).mono ?_)
  rintro e w4 ⟨rfl, hb4⟩
  have HB4 := Az.mk (bst HB3.out hb4)
  have S24 := Az.mk (bkB S23.out hb4)
  have S34 := Az.mk (bkB S3.out hb4)
  have b0 : w4.cell? ⟨g3, 0, none⟩ = some (.slice A' m.length c') := (blk_cell S34.out 0).trans rfl
  clear hb4 a0 S2 S3 S23 HB2 HB3
  go_wp2_with fail
  (with_reducible refine (sorts_Size.calls A' c' m n2 d2 _ (Kd.C_below HR'.out HB4.out) HC'.out E2.out).mono ?_)
  rintro e w5 ⟨rfl, hb5⟩
  have HB5 := Az.mk (bst HB4.out hb5)
  have a1 : w5.cell? ⟨g2, 0, none⟩ = some (.slice A l.length c) := (blk_cell (bkB S24.out hb5) 0).trans rfl
  have b1 : w5.cell? ⟨g3, 0, none⟩ = some (.slice A' m.length c') := (blk_cell (bkB S34.out hb5) 0).trans rfl
  clear hb5 b0 HB4 S24 S34
  by_cases hne : n1 = n2
  rotate_left
  · have hf := HZ.out hne
    have b2 : (n1 == n2) = false := beq_eq_false_iff_ne.2 hne
    have b3 : (n1 = n2) = False := eq_false hne
    subst hf
    clear hne HZ H0
    go_wp2_with fail
    go_ret
    exact ⟨rfl, HB5.out⟩
  subst hne
  go_wp2_with fail
  (with_reducible refine (seq86 _ l m A A' c c' w5 (Nat.lt_succ_self _) (Kd.C_below HR.out HB5.out) HC.out (Kd.C_below HR'.out HB5.out) HC'.out).mono ?_)
  rintro e w6 ⟨rfl, hb6⟩
  have HB6 := Az.mk (bst HB5.out hb6)
  rw [← H0.out]
  clear hb6 a1 b1 H0 HZ
  cases r with
  | false =>
    go_wp2_with fail
    go_ret
    exact ⟨rfl, HB6.out⟩
  | true =>
    go_wp2_with fail
    go_ret
    exact ⟨rfl, HB6.out⟩
set_option maxHeartbeats 16000000 in
theorem psort_calls (P : Nat → Prop) (A0 : Option Addr) (c0 : Nat) (l0 : List S87) (A1 : Option Addr) (c1 : Nat) (l1 : List S53) (A2 : Option Addr) (c2 : Nat) (l2 : List S53) (hsm : SmallP l0 l1 l2) (N : Nat) : ∀ (l : List S28), SizeOf.sizeOf l < N → ∀ (k n : Int) (A3 : Option Addr) (c3 : Nat) (w : World),
    Kd.C k87 w A0 l0.length l0 → Kd.V k53 53 w w.heap.size P (.slice A1 l1.length c1) l1 → Kd.V k53 53 w w.heap.size P (.slice A2 l2.length c2) l2 → Kd.C k28 w A3 l.length l → l.length ≤ c3 →
    Calls Try.prog 53 #[.agg #[.slice A0 l0.length c0, .slice A1 l1.length c1, .slice A2 l2.length c2], .agg #[.int .i64 k, .int .i64 n, .slice A3 l.length c3]] w fun e w' => ∃ v, e = .returned (.tuple #[.agg #[v], .bool (ofT l0 l1 l2 ⟨k, n, l⟩).isSome]) ∧ Kd.V k53 53 w' w.heap.size (fun q => P q ∨ w.heap.size ≤ q) v ((ofT l0 l1 l2 ⟨k, n, l⟩).getD []) ∧ Below w.heap.size w w' := by
  induction N with
  | zero => intro l h; omega
  | succ N ih =>
  intro l hN k n A3 c3 w hr0 h1 h2 hr3 hc3
  have hu56 := Try.underlying56
  have hu28 := Try.underlying28
  have hu53 := Try.underlying53
  have hlen : l.length ≤ 9223372036854775807 := hr3.2.1
  have HSM := Az.mk hsm
  have HR0 := Az.mk hr0
  have H1 := Az.mk h1
  have H2 := Az.mk h2
  have HR3 := Az.mk hr3
  have HC3 := Az.mk hc3
  have IH := Az.mk ih
  have HN := Az.mk hN
  clear hr0 h1 h2 hr3 hc3 ih hN hsm
  obtain ⟨R, hR⟩ : ∃ R, R = hdF l0 l1 l2 k n := ⟨_, rfl⟩
  have HR := Az.mk hR
  clear hR
  go_enter Try.func53, Try.ntmps53
  go_wp2_with (first
   | ((with_reducible refine gate_dst (N := 2) rfl ?_)
      refine box_event ?hg (N := 2) ?hd (cs := #[.slice A0 l0.length c0, .slice A1 l1.length c1, .slice A2 l2.length c2]) (t := 56) ?hr ?_
      (case hd => rfl)
      (case hg => rfl)
      (case hr => first | (go_simp; done) | (go_simp; rfl))
      intro g2 hg2 w2 hbox hb2
      have S22 := Az.mk hbox
      have HB2 := Az.mk hb2
      have hw2 : w.heap.size ≤ g2 := by omega
      clear hbox hb2 hg2)
   | ((with_reducible refine gate_dst (N := 3) rfl ?_)
      refine box_event ?hg (N := 3) ?hd (cs := #[.int .i64 k, .int .i64 n, .slice A3 l.length c3]) (t := 28) ?hr ?_
      (case hd => rfl)
      (case hg => rfl)
      (case hr => first | (go_simp; done) | (go_simp; rfl))
      intro g3 hg3 w3 hbox hb3
      have S23 := Az.mk (bkB S22.out hb3)
      have S33 := Az.mk hbox
      have HB3 := Az.mk (bst HB2.out hb3)
      clear hbox hb3 hg3 S22 HB2)
   | ((with_reducible refine gate_dst (N := 4) rfl ?_)
      refine box_event ?hg (N := 4) ?hd (cs := #[.slice none 0 0]) (t := 53) ?hr ?_
      (case hd => rfl)
      (case hg => rfl)
      (case hr => first | (go_simp; done) | (go_simp; rfl))
      intro g4 hg4 w4 hbox hb4
      have hw4 : w.heap.size ≤ g4 := by have := HB3.out.size; omega
      have S24 := Az.mk (bkB S23.out hb4)
      have S34 := Az.mk (bkB S33.out hb4)
      have S44 := Az.mk hbox
      have HB4 := Az.mk (bst HB3.out hb4)
      have a0 : w4.cell? ⟨g2, 0, none⟩ = some (.slice A0 l0.length c0) := (blk_cell S24.out 0).trans rfl
      have a1 : w4.cell? ⟨g2, 1, none⟩ = some (.slice A1 l1.length c1) := (blk_cell S24.out 1).trans rfl
      have a2 : w4.cell? ⟨g2, 2, none⟩ = some (.slice A2 l2.length c2) := (blk_cell S24.out 2).trans rfl
      have b0 : w4.cell? ⟨g3, 0, none⟩ = some (.int .i64 k) := (blk_cell S34.out 0).trans rfl
      have b1 : w4.cell? ⟨g3, 1, none⟩ = some (.int .i64 n) := (blk_cell S34.out 1).trans rfl
      have b2 : w4.cell? ⟨g3, 2, none⟩ = some (.slice A3 l.length c3) := (blk_cell S34.out 2).trans rfl
      clear hbox hb4 hg4 S23 S33 HB3))
  have hc := phead_calls (fun q => P q ∧ q < w.heap.size) A0 c0 l0 A1 c1 l1 A2 c2 l2 k n (.slice A3 l.length c3) w4 rfl (Kd.C_below HR0.out HB4.out) (Kd.V_below (Kd.V_bound H1.out) HB4.out) (Kd.V_below (Kd.V_bound H2.out) HB4.out) (fun x hx => by have := HSM.out.1 x hx; omega)
  rw [← HR.out] at hc
  (with_reducible refine hc.mono ?_)
  clear hc
  rintro e w5 ⟨v, rfl, hv, hb5⟩
  have hw45 := HB4.out.size
  have hlt4 := blk_lt S44.out
  have HV5 := Az.mk (Kd.V_mono (ok' := fun q => (P q ∨ w.heap.size ≤ q) ∧ q ≠ g4) hv (fun q hq => by
    rcases hq with hq | hq
    · exact ⟨.inl hq.1, by omega⟩
    · exact ⟨.inr (by omega), by omega⟩))
  have S25 := Az.mk (bkB S24.out hb5)
  have S35 := Az.mk (bkB S34.out hb5)
  have S45 := Az.mk (bkB S44.out hb5)
  have HB5 := Az.mk (bst HB4.out hb5)
  clear hv hb5 a0 a1 a2 b0 b1 b2 S24 S34 S44 HB4 hlt4 hw45
  have fin : ∀ (v : Value) (l : List S53) (wq : World), Below w.heap.size w wq → Kd.V k53 53 wq w.heap.size (fun q => (P q ∨ w.heap.size ≤ q) ∧ q ≠ g4) v l → Kd.V k53 53 (wq.setCell ⟨g4, 0, none⟩ v) w.heap.size (fun q => P q ∨ w.heap.size ≤ q) v l ∧ Below w.heap.size w (wq.setCell ⟨g4, 0, none⟩ v) := fun v l wq hb hv => ⟨Kd.V_mono (Kd.V_far (p := ⟨g4, 0, none⟩) hv (fun _ hk => hk.2) v) (fun _ hk => hk.1), bset (g := g4) (j := 0) hb hw4⟩
  have FIN := Az.mk fin
  clear fin
  obtain ⟨As, cs, rfl⟩ := Kd.V_slice HV5.out
  obtain ⟨sl, hsl⟩ : ∃ sl, sl = (R.getD []).length := ⟨_, rfl⟩
  rw [← hsl] at HV5 ⊢
  have HSL := Az.mk hsl
  clear hsl
  have hcase : R = none ∨ (∃ s, R = some s ∧ s.length < l.length) ∨ (∃ s, R = some s ∧ ¬ s.length < l.length) := by
    cases R with
    | none => exact .inl rfl
    | some s =>
      by_cases h : s.length < l.length
      · exact .inr (.inl ⟨s, rfl, h⟩)
      · exact .inr (.inr ⟨s, rfl, h⟩)
  have NE := Az.mk (show R = none → ofT l0 l1 l2 ⟨k, n, l⟩ = none from fun h => by rw [ofT_eq]; show (match hdF l0 l1 l2 k n with | none => none | some s => _) = none; rw [← HR.out, h])
  have SE := Az.mk (show ∀ s, R = some s → ofT l0 l1 l2 ⟨k, n, l⟩ = if s.length < l.length then none else if ofL l0 l1 l2 l s = true then some (s.drop l.length) else none from fun s h => by rw [ofT_eq]; show (match hdF l0 l1 l2 k n with | none => none | some s => _) = _; rw [← HR.out, h])
  rcases hcase with h | ⟨s, h, hl⟩ | ⟨s, h, hl⟩
  all_goals subst h
  case' inl => have HE := Az.mk (NE.out rfl)
  case' inr.inl =>
    have HE := Az.mk ((SE.out s rfl).trans (if_pos hl))
    have b : (sl < l.length) = True := eq_true (by have : sl = s.length := HSL.out; omega)
  case' inr.inr => have b : (sl < l.length) = False := eq_false (by have : sl = s.length := HSL.out; omega)
  all_goals go_wp2_with (
       (with_reducible refine gate_dst (N := 6) rfl ?_)
       refine box_event ?hg (N := 6) ?hd (cs := #[.slice none 0 0]) (t := 53) ?hr ?_
       (case hd => rfl)
       (case hg => rfl)
       (case hr => first | (go_simp; done) | (go_simp; rfl))
       intro g6 hg6 w6 hbox hb6
       have hw6 : w.heap.size ≤ g6 := by have := HB5.out.size; omega
       have S66 := Az.mk (blk_put (cs' := #[.slice As sl cs]) hbox 0 (.slice As sl cs) rfl)
       have hne2 : g2 ≠ g6 := by have := blk_lt S25.out; omega
       have hne3 : g3 ≠ g6 := by have := blk_lt S35.out; omega
       have hne4 : g4 ≠ g6 := by have := blk_lt S45.out; omega
       have S26 := Az.mk (blk_far (p := ⟨g6, 0, none⟩) (bkB S25.out hb6) hne2 (.slice As sl cs))
       have S36 := Az.mk (blk_far (p := ⟨g6, 0, none⟩) (bkB S35.out hb6) hne3 (.slice As sl cs))
       have S46 := Az.mk (blk_far (p := ⟨g6, 0, none⟩) (bkB S45.out hb6) hne4 (.slice As sl cs))
       have HB6 := Az.mk (bset (g := g6) (j := 0) (v := .slice As sl cs) (bst HB5.out hb6) hw6)
       have HV6 := Az.mk (Kd.V_below HV5.out (bset (g := g6) (j := 0) (v := .slice As sl cs) hb6 (by omega)))
       have hcz := (blk_cell hbox 0).trans rfl
       have hfz := bkF hbox 0
       have b2 := (blk_cell S36.out 2).trans rfl
       have d0 := (blk_cell S46.out 0).trans rfl
       have df := bkF S46.out 0
       have e0 := (blk_cell S66.out 0).trans rfl
       clear hbox hb6 hg6 S25 S35 S45 HB5 HV5 hne2 hne3 hne4)
  rotate_left 1
  iterate 2
    refine bodyPost_ret (results_ct rfl _ _ g4 53 #[.slice none 0 0] (0, 0) _ rfl (blk_put (cs' := #[.slice none 0 0]) S46.out 0 _ rfl) Try.underlying53 rfl (by kernel_rfl)) rfl ?_
    rw [HE.out]
    exact ⟨_, rfl, FIN.out _ _ _ HB6.out (Kd.V_nil _ _ _ _ _)⟩
  have hsl : sl = s.length := HSL.out
  subst hsl
  have HV6' := Az.mk (show Kd.V k53 53 (w6.setCell ⟨g6, 0, none⟩ (.slice As s.length cs)) w.heap.size (fun q => (P q ∨ w.heap.size ≤ q) ∧ q ≠ g4) (.slice As s.length cs) s from HV6.out)
  clear HV6
  have HV6 := HV6'
  clear HV6'
  obtain ⟨r, hr⟩ : ∃ r, r = ofL l0 l1 l2 l s := ⟨_, rfl⟩
  have HE := Az.mk (show ofT l0 l1 l2 ⟨k, n, l⟩ = if r = true then some (s.drop l.length) else none from by rw [hr]; exact (SE.out s rfl).trans (if_neg hl))
  have Hr := Az.mk hr
  have Hl := Az.mk hl
  clear hr hl NE SE b b2 d0 df e0 hcz hfz HSL
  generalize w6.setCell ⟨g6, 0, none⟩ (.slice As s.length cs) = w7 at *
  have HR7 := Az.mk (Kd.C_below HR0.out HB6.out)
  have H17 := Az.mk (Kd.V_below (Kd.V_bound H1.out) HB6.out)
  have H27 := Az.mk (Kd.V_below (Kd.V_bound H2.out) HB6.out)
  have HR37 := Az.mk (Kd.C_below HR3.out HB6.out)
  clear HR0 H1 H2 HR3
  go_loopg [33] l.length (fun kq v33 wr => ∃ i : Nat, v33 = .int .i64 (i : Int) ∧ Az (i + kq = l.length) ∧ Az (r = ofL l0 l1 l2 (l.drop i) (s.drop i)) ∧ Az (Below w7.heap.size w7 wr))
  case atStart => exact ⟨0, rfl, ⟨by omega⟩, Hr, ⟨Below.refl _ _⟩⟩
  case round =>
    obtain ⟨i, rfl, Hi, HL, HB⟩ := hrel
    clear Hr
    have HBw := Az.mk (bst HB6.out HB.out)
    have S2 := Az.mk (bkB S26.out HB.out)
    have S3 := Az.mk (bkB S36.out HB.out)
    have S4 := Az.mk (bkB S46.out HB.out)
    have S6 := Az.mk (bkB S66.out HB.out)
    have HV := Az.mk (Kd.V_below HV6.out HB.out)
    by_cases hlt : i < l.length
    rotate_left
    · have hie : i = l.length := by have := Hi.out; omega
      have hr : r = true := by have := HL.out; rw [hie, List.drop_length] at this; exact this.trans (by rw [ofL])
      have he := HE.out
      rw [if_pos hr] at he
      have HE' := Az.mk he
      have b2 : wr.cell? ⟨g3, 2, none⟩ = some (.slice A3 l.length c3) := (blk_cell S3.out 2).trans rfl
      have d0 : wr.cell? ⟨g4, 0, none⟩ = some (.slice none 0 0) := (blk_cell S4.out 0).trans rfl
      have df := bkF S4.out 0
      have e0 : wr.cell? ⟨g6, 0, none⟩ = some (.slice As s.length cs) := (blk_cell S6.out 0).trans rfl
      have b : (s.length < l.length) = False := eq_false Hl.out
      have p1 : (l.length ≤ s.length) = True := eq_true (by have := Hl.out; omega)
      clear he hr
      subst hie
      have hcap := (Kd.V_at HV.out).2.1
      have hcut : ∀ A', (if cs = l.length then As else As.map (·.add (l.length * 1))) = A' → Kd.V k53 53 wr w.heap.size (fun q => (P q ∨ w.heap.size ≤ q) ∧ q ≠ g4) (.slice A' (s.length - l.length) (cs - l.length)) (s.drop l.length) := by
        intro A' h
        have h2 := Kd.V_mk (d := k53) (e := 53) (base := w.heap.size) (c := cs - l.length) (by rw [List.length_drop]; omega) (Kd.F_cut (m := l.length) (c := cs) (Kd.V_F HV.out) (by have := Hl.out; omega) hcap)
        rw [List.length_drop] at h2
        rw [← h]
        exact h2
      have HCut := Az.mk hcut
      clear hcut hcap
      by_cases hcs : cs = l.length
      · go_wp2_with fail
        have hv := HCut.out As (if_pos hcs)
        rw [hcs, Nat.sub_self] at hv
        refine bodyPost_ret (results_ct rfl _ _ g4 53 #[.slice As (s.length - l.length) 0] (0, 0) _ rfl (blk_put (cs' := #[.slice As (s.length - l.length) 0]) S4.out 0 _ rfl) Try.underlying53 rfl (by kernel_rfl)) rfl ?_
        rw [HE'.out]
        exact ⟨_, rfl, FIN.out _ _ _ HBw.out hv⟩
      · go_wp2_with fail
        have hv := HCut.out _ (if_neg hcs)
        rw [Nat.mul_one] at hv
        refine bodyPost_ret (results_ct rfl _ _ g4 53 #[.slice (As.map (·.add l.length)) (s.length - l.length) (cs - l.length)] (0, 0) _ rfl (blk_put (cs' := #[.slice (As.map (·.add l.length)) (s.length - l.length) (cs - l.length)]) S4.out 0 _ rfl) Try.underlying53 rfl (by kernel_rfl)) rfl ?_
        rw [HE'.out]
        exact ⟨_, rfl, FIN.out _ _ _ HBw.out hv⟩
    obtain ⟨ad, A4, c4, rfl, hx1, hx2, hx3, hc4, hA4⟩ := at_T28 (Kd.C_below HR37.out HB.out) (i : Int) (by omega) (by omega)
    rw [Int.toNat_natCast] at hx1 hx2 hx3
    have HA4 := Az.mk hA4
    have Hc4 := Az.mk hc4
    have HNx := Az.mk (show SizeOf.sizeOf (rd_T28 l (i : Int)).f2 < N from by have := rd_T28_mem l i hlt; have := HN.out; omega)
    have HStep := Az.mk (HL.out.trans (ofL_step l0 l1 l2 l s i hlt))
    have p1 : (0 ≤ (i : Int)) = True := eq_true (by omega)
    have p2 : ((i : Int) < (l.length : Int)) = True := eq_true (by omega)
    have p3 : (i < l.length) = True := eq_true (by omega)
    have p4 : (i < s.length) = True := eq_true (by have := Hl.out; omega)
    clear hA4 hc4 HL
    generalize rd_T28 l (i : Int) = x at *
    have HEx := Az.mk (show ofT l0 l1 l2 ⟨x.f0, x.f1, x.f2⟩ = ofT l0 l1 l2 x from by cases x; rfl)
    go_wp2_with (
      (with_reducible refine gate_dst (N := 9) rfl ?_)
      refine box_event ?hg (N := 9) ?hd (cs := #[.int .i64 0, .int .i64 0, .slice none 0 0]) (t := 28) ?hr ?_
      (case hd => rfl)
      (case hg => rfl)
      (case hr => first | (go_simp; done) | (go_simp; rfl))
      intro gx hgx w6 hbox hb6
      have hgw : wr.heap.size ≤ gx := by omega
      have Hbw := Az.mk (bset (g := gx) (j := 2) (v := .slice A4 x.f2.length c4) (bset (g := gx) (j := 1) (v := .int .i64 x.f1) (bset (g := gx) (j := 0) (v := .int .i64 x.f0) hb6 hgw) hgw) hgw)
      have hcz0 := (blk_cell hbox 0).trans rfl
      have hfz0 := bkF hbox 0
      have hcz1 := (blk_cell hbox 1).trans rfl
      have hfz1 := bkF hbox 1
      have hcz2 := (blk_cell hbox 2).trans rfl
      have hfz2 := bkF hbox 2
      have Sx := Az.mk (blk_put (cs' := #[.int .i64 x.f0, .int .i64 x.f1, .slice A4 x.f2.length c4]) (blk_put (cs' := #[.int .i64 x.f0, .int .i64 x.f1, .slice none 0 0]) (blk_put (cs' := #[.int .i64 x.f0, .int .i64 0, .slice none 0 0]) hbox 0 (.int .i64 x.f0) rfl) 1 (.int .i64 x.f1) rfl) 2 (.slice A4 x.f2.length c4) rfl)
      have d0 := (blk_cell (bkB S2.out Hbw.out) 0).trans rfl
      have d1 := (blk_cell (bkB S2.out Hbw.out) 1).trans rfl
      have d2 := (blk_cell (bkB S2.out Hbw.out) 2).trans rfl
      have e0 := (blk_cell Sx.out 0).trans rfl
      have e1 := (blk_cell Sx.out 1).trans rfl
      have e2 := (blk_cell Sx.out 2).trans rfl
      clear hbox hb6 hgx hgw hx1 hx2 hx3 Sx)
    clear hcz0 hcz1 hcz2 hfz0 hfz1 hfz2 d0 d1 d2 e0 e1 e2
    generalize (((w6.setCell ⟨gx, 0, none⟩ (.int .i64 x.f0)).setCell ⟨gx, 1, none⟩ (.int .i64 x.f1)).setCell ⟨gx, 2, none⟩ (.slice A4 x.f2.length c4)) = wq at *
    have HBq := Az.mk (bst HB.out Hbw.out)
    (with_reducible refine (IH.out x.f2 HNx.out x.f0 x.f1 A4 c4 wq (Kd.C_below HR7.out HBq.out) (Kd.V_mono (Kd.V_below H17.out HBq.out) (fun _ h => h.1)) (Kd.V_mono (Kd.V_below H27.out HBq.out) (fun _ h => h.1)) (Kd.C_below HA4.out Hbw.out) Hc4.out).mono ?_)
    rintro e w8 ⟨v, rfl, hv8, hb8⟩
    rw [HEx.out] at hv8 ⊢
    have HB8 := Az.mk (bst HBq.out hb8)
    have HV8 := Az.mk (Kd.V_bound hv8)
    clear hv8 hb8 Hbw HBq S2 S3 S4 S6 HV HBw HA4 Hc4 HNx HEx IH
    obtain ⟨Ay, cy, rfl⟩ := Kd.V_slice HV8.out
    obtain ⟨Y, hY⟩ : ∃ Y, Y = ofT l0 l1 l2 x := ⟨_, rfl⟩
    rw [← hY] at HV8 HStep ⊢
    have HY := Az.mk hY
    clear hY
    obtain ⟨m, hm⟩ : ∃ m, m = (Y.getD []).length := ⟨_, rfl⟩
    rw [← hm] at HV8 ⊢
    have HMm := Az.mk hm
    clear hm
    go_wp2_with (
      (with_reducible refine gate_dst (N := 10) rfl ?_)
      refine box_event ?hg (N := 10) ?hd (cs := #[.slice none 0 0]) (t := 53) ?hr ?_
      (case hd => rfl)
      (case hg => rfl)
      (case hr => first | (go_simp; done) | (go_simp; rfl))
      intro g10 hg10 wA hbox hbA
      have hb9 := bset (g := g10) (j := 0) (v := .slice Ay m cy) hbA (by omega)
      have S10 := Az.mk (blk_put (cs' := #[.slice Ay m cy]) hbox 0 (.slice Ay m cy) rfl)
      have HB9 := Az.mk (bst HB8.out hb9)
      have HV9 := Az.mk (Kd.V_below HV8.out hb9)
      have hcz := (blk_cell hbox 0).trans rfl
      have hfz := bkF hbox 0
      clear hbox hbA hg10 hb9 HB8 HV8)
    clear hcz hfz
    generalize wA.setCell ⟨g10, 0, none⟩ (.slice Ay m cy) = w9 at *
    have HBw := Az.mk (bst HB6.out HB9.out)
    have S4 := Az.mk (bkB S46.out HB9.out)
    have S6 := Az.mk (bkB S66.out HB9.out)
    have HV := Az.mk (Kd.V_below HV6.out HB9.out)
    have d0 : w9.cell? ⟨g4, 0, none⟩ = some (.slice none 0 0) := (blk_cell S4.out 0).trans rfl
    have df := bkF S4.out 0
    have e0 : w9.cell? ⟨g6, 0, none⟩ = some (.slice As s.length cs) := (blk_cell S6.out 0).trans rfl
    have y0 : w9.cell? ⟨g10, 0, none⟩ = some (.slice Ay m cy) := (blk_cell S10.out 0).trans rfl
    cases Y with
    | none =>
      have hr : r = false := by have := HStep.out; simpa using this
      have HE' := Az.mk (show ofT l0 l1 l2 ⟨k, n, l⟩ = none from HE.out.trans (if_neg (by rw [hr]; decide)))
      clear hr
      go_quiet (fail)
      have HBn := Az.mk (pwN HBw.out nq)
      have S4n := Az.mk (bdN S4.out nq)
      clear d0 df e0 y0 S4 S6 HV HBw HB9 S10 HV9
      generalize w9.drewN nq = wn at *
      have d0 : wn.cell? ⟨g4, 0, none⟩ = some (.slice none 0 0) := (blk_cell S4n.out 0).trans rfl
      have df := bkF S4n.out 0
      go_wp2_with fail
      refine bodyPost_ret (results_ct rfl _ _ g4 53 #[.slice none 0 0] (0, 0) _ rfl (blk_put (cs' := #[.slice none 0 0]) S4n.out 0 _ rfl) Try.underlying53 rfl (by kernel_rfl)) rfl ?_
      rw [HE'.out]
      exact ⟨_, rfl, FIN.out _ _ _ HBn.out (Kd.V_nil _ _ _ _ _)⟩
    | some y =>
      have hm : m = y.length := HMm.out
      subst hm
      have hcy := ofT_cnt HSM.out HY.out.symm
      obtain ⟨ads, Ae, ce, rfl, hxe, hve⟩ := V_at41 HV.out (i := (i : Int)) (by omega) (by have := Hl.out; omega)
      rw [Int.toNat_natCast] at hxe
      have p5 : ((i : Int) < (s.length : Int)) = True := eq_true (by have := Hl.out; omega)
      have HY9 := Az.mk (show y.length ≤ cy ∧ k53.C w9 Ay y.length y from (Kd.V_reads' HV9.out).2)
      have HVe := Az.mk (Kd.V_reads' hve).2
      have HCy := Az.mk hcy
      clear hve hcy HV9 HV
      generalize rd_T53 s (i : Int) = ys at *
      go_region_law
        (first
          | (go_simp
             go_at_call 73
             (with_reducible refine (ssame_calls (l := y) (m := ys.f0) HCy.out (w := w9.drew) (Kd.C_below HY9.out.2 (below_drew (Below.refl _ _))) HY9.out.1 (Kd.C_below HVe.out.2 (below_drew (Below.refl _ _))) HVe.out.1).mono ?_)
             rintro e9 wB ⟨rfl, hbB⟩
             have HBB := Az.mk (bst (below_drew HB9.out) hbB)
             clear hbB))
      all_goals (
        have HStep2 := Az.mk (show r = (eqL y ys.f0 && ofL l0 l1 l2 (l.drop (i + 1)) (s.drop (i + 1))) from HStep.out)
        clear HStep HCy HY9 HVe S4 S6 HB9 HBw S10 hxe y0 e0 d0 df
        generalize eqL y ys.f0 = q at *
        cases q with
        | true =>
          have HN2 := Az.mk (show r = ofL l0 l1 l2 (l.drop (i + 1)) (s.drop (i + 1)) from HStep2.out)
          clear HStep2
          go_wp2_with fail
          have hk := Hi.out
          obtain ⟨k1, rfl⟩ : ∃ k1, gk = k1 + 1 := ⟨gk - 1, by omega⟩
          go_roundg k1
          case measure => omega
          case rel => exact ⟨i + 1, by go_num, ⟨by omega⟩, HN2, HBB⟩
        | false =>
          have hr : r = false := HStep2.out
          have HE' := Az.mk (show ofT l0 l1 l2 ⟨k, n, l⟩ = none from HE.out.trans (if_neg (by rw [hr]; decide)))
          clear hr HStep2
          have S4B := Az.mk (bkB S46.out HBB.out)
          have d0B : wB.cell? ⟨g4, 0, none⟩ = some (.slice none 0 0) := (blk_cell S4B.out 0).trans rfl
          have dfB := bkF S4B.out 0
          go_wp2_with fail
          refine bodyPost_ret (results_ct rfl _ _ g4 53 #[.slice none 0 0] (0, 0) _ rfl (blk_put (cs' := #[.slice none 0 0]) S4B.out 0 _ rfl) Try.underlying53 rfl (by kernel_rfl)) rfl ?_
          rw [HE'.out]
          exact ⟨_, rfl, FIN.out _ _ _ (bst HB6.out HBB.out) (Kd.V_nil _ _ _ _ _)⟩)
set_option maxHeartbeats 8000000 in
theorem pof_calls (P : Nat → Prop) (A0 : Option Addr) (c0 : Nat) (l0 : List S87) (A1 : Option Addr) (c1 : Nat) (l1 : List S53) (A2 : Option Addr) (c2 : Nat) (l2 : List S53) (hsm : SmallP l0 l1 l2) (t : S28) (A3 : Option Addr) (c3 : Nat) (w : World) (hr0 : Kd.C k87 w A0 l0.length l0) (h1 : Kd.V k53 53 w w.heap.size P (.slice A1 l1.length c1) l1) (h2 : Kd.V k53 53 w w.heap.size P (.slice A2 l2.length c2) l2) (hr3 : Kd.C k28 w A3 t.f2.length t.f2) (hc3 : t.f2.length ≤ c3) :
    Calls Try.prog 30 #[.agg #[.slice A0 l0.length c0, .slice A1 l1.length c1, .slice A2 l2.length c2], .agg #[.int .i64 t.f0, .int .i64 t.f1, .slice A3 t.f2.length c3]] w fun e w' => ∃ Av cv, e = .returned (.tuple #[.agg #[.slice Av ((ofT l0 l1 l2 t).getD []).length cv], .bool (ofT l0 l1 l2 t).isSome]) ∧ Below w.heap.size w w' := by
  have hu56 := Try.underlying56
  have hu28 := Try.underlying28
  have hu53 := Try.underlying53
  have HSM := Az.mk hsm
  have HR0 := Az.mk hr0
  have H1 := Az.mk (Kd.V_mono h1 (ok' := fun _ => True) (fun _ _ => trivial))
  have H2 := Az.mk (Kd.V_mono h2 (ok' := fun _ => True) (fun _ _ => trivial))
  have HR3 := Az.mk hr3
  have HC3 := Az.mk hc3
  have HT := Az.mk (show ofT l0 l1 l2 ⟨t.f0, t.f1, t.f2⟩ = ofT l0 l1 l2 t from by cases t; rfl)
  clear hr0 h1 h2 hr3 hc3 hsm
  go_enter Try.func30, Try.ntmps30
  go_wp2_with (first
   | ((with_reducible refine gate_dst (N := 2) rfl ?_)
      refine box_event ?hg (N := 2) ?hd (cs := #[.slice A0 l0.length c0, .slice A1 l1.length c1, .slice A2 l2.length c2]) (t := 56) ?hr ?_
      (case hd => rfl)
      (case hg => rfl)
      (case hr => first | (go_simp; done) | (go_simp; rfl))
      intro g2 hg2 w2 hbox hb2
      have S22 := Az.mk hbox
      have HB2 := Az.mk hb2
      clear hbox hb2 hg2)
   | ((with_reducible refine gate_dst (N := 3) rfl ?_)
      refine box_event ?hg (N := 3) ?hd (cs := #[.int .i64 t.f0, .int .i64 t.f1, .slice A3 t.f2.length c3]) (t := 28) ?hr ?_
      (case hd => rfl)
      (case hg => rfl)
      (case hr => first | (go_simp; done) | (go_simp; rfl))
      intro g3 hg3 w3 hbox hb3
      have S23 := Az.mk (bkB S22.out hb3)
      have S33 := Az.mk hbox
      have HB3 := Az.mk (bst HB2.out hb3)
      clear hbox hb3 hg3 S22 HB2)
   | ((with_reducible refine gate_dst (N := 4) rfl ?_)
      refine box_event ?hg (N := 4) ?hd (cs := #[.slice none 0 0]) (t := 53) ?hr ?_
      (case hd => rfl)
      (case hg => rfl)
      (case hr => first | (go_simp; done) | (go_simp; rfl))
      intro g4 hg4 w4 hbox hb4
      have HG4 := Az.mk (show w.heap.size ≤ g4 from by have := HB3.out.size; omega)
      have S24 := Az.mk (bkB S23.out hb4)
      have S34 := Az.mk (bkB S33.out hb4)
      have S44 := Az.mk hbox
      have HB4 := Az.mk (bst HB3.out hb4)
      have a0 : w4.cell? ⟨g2, 0, none⟩ = some (.slice A0 l0.length c0) := (blk_cell S24.out 0).trans rfl
      have a1 : w4.cell? ⟨g2, 1, none⟩ = some (.slice A1 l1.length c1) := (blk_cell S24.out 1).trans rfl
      have a2 : w4.cell? ⟨g2, 2, none⟩ = some (.slice A2 l2.length c2) := (blk_cell S24.out 2).trans rfl
      have b0 : w4.cell? ⟨g3, 0, none⟩ = some (.int .i64 t.f0) := (blk_cell S34.out 0).trans rfl
      have b1 : w4.cell? ⟨g3, 1, none⟩ = some (.int .i64 t.f1) := (blk_cell S34.out 1).trans rfl
      have b2 : w4.cell? ⟨g3, 2, none⟩ = some (.slice A3 t.f2.length c3) := (blk_cell S34.out 2).trans rfl
      clear hbox hb4 hg4 S23 S33 HB3))
  (with_reducible refine (psort_calls (fun _ => True) A0 c0 l0 A1 c1 l1 A2 c2 l2 HSM.out _ t.f2 (Nat.lt_succ_self _) t.f0 t.f1 A3 c3 w4 (Kd.C_below HR0.out HB4.out) (Kd.V_mono (Kd.V_bound (Kd.V_below H1.out HB4.out)) (fun _ _ => trivial)) (Kd.V_mono (Kd.V_bound (Kd.V_below H2.out HB4.out)) (fun _ _ => trivial)) (Kd.C_below HR3.out HB4.out) HC3.out).mono ?_)
  rintro e w5 ⟨v, rfl, hv, hb5⟩
  rw [HT.out] at hv ⊢
  obtain ⟨Av, cv, rfl⟩ := Kd.V_slice hv
  have S45 := Az.mk (bkB S44.out hb5)
  have HB5 := Az.mk (bst HB4.out hb5)
  clear hv hb5 a0 a1 a2 b0 b1 b2 S24 S34 S44 HB4
  have d0 : w5.cell? ⟨g4, 0, none⟩ = some (.slice none 0 0) := (blk_cell S45.out 0).trans rfl
  have df := bkF S45.out 0
  obtain ⟨n, hn⟩ : ∃ n, n = ((ofT l0 l1 l2 t).getD []).length := ⟨_, rfl⟩
  obtain ⟨b, hb⟩ : ∃ b, b = (ofT l0 l1 l2 t).isSome := ⟨_, rfl⟩
  rw [← hn, ← hb]
  have HN := Az.mk hn
  have HB := Az.mk hb
  clear hn hb
  go_wp2_with fail
  refine bodyPost_ret (results_ct rfl _ _ g4 53 #[.slice Av n cv] (0, 0) _ rfl (blk_put (cs' := #[.slice Av n cv]) S45.out 0 _ rfl) Try.underlying53 rfl (by kernel_rfl)) rfl ?_
  exact ⟨Av, cv, by rw [← HN.out, ← HB.out]; rfl, bset HB5.out HG4.out⟩
end Go.Proofs.Ytnfgpepggehegaa.I
namespace Go.Proofs.Ytnfgpepggehegaa.I
open Go.RowKit Go.Proofs.YtnfgpepggehegaaW.PrintWords Go.Proofs.YtnfgpepggehegaaW.PrintLast Go.Proofs.YtnfgpepggehegaaW.PrintMore
attribute [local go_sem] max2_int min2_int max_two min_two max_three min_three max_four min_four
set_option linter.unusedVariables false
set_option maxRecDepth 100000
set_option linter.unusedSimpArgs false
set_option maxHeartbeats 8000000 in
theorem splace_calls (A0 : Option Addr) (c0 n0 : Nat) (A1 : Option Addr) (c1 : Nat) (l1 : List S84) (A2 : Option Addr) (c2 : Nat) (pa : List S53) (w : World) (hr1 : Kd.C k84 w A1 l1.length l1) (h2 : Kd.V k53 53 w w.heap.size (fun _ => True) (.slice A2 pa.length c2) pa) (h64 : l1.length ≤ 64) :
    Calls Try.prog 29 #[.agg #[.slice A0 n0 c0, .slice A1 l1.length c1], .slice A2 pa.length c2] w fun e w' => ∃ v, e = .returned (.agg #[.slice A0 n0 c0, v, .slice A2 pa.length c2]) ∧ Kd.V k53 53 w' w'.heap.size (fun _ => True) v (l1.map (·.f1)) ∧ Kd.V k53 53 w' w'.heap.size (fun _ => True) (.slice A2 pa.length c2) pa ∧ Below w.heap.size w w' := by
  have hu25 := Try.underlying25
  have hu56 := Try.underlying56
  have hu84 := Try.underlying84
  have hu53 := Try.underlying53
  have hlen1 : l1.length ≤ 9223372036854775807 := hr1.2.1
  have HR1 := Az.mk hr1
  have HV2 := Az.mk h2
  have H64 := Az.mk h64
  clear hr1 h2 h64
  go_enter Try.func29, Try.ntmps29
  go_wp2_with (first
    | ((with_reducible refine gate_dst (N := 2) rfl ?_)
       refine box_event ?hg (N := 2) ?hd (cs := #[.slice A0 n0 c0, .slice A1 l1.length c1]) (t := 25) ?hr ?_
       (case hd => rfl)
       (case hg => rfl)
       (case hr => first | (go_simp; done) | (go_simp; rfl))
       intro g2 hg2 w2 hbox hb2
       have S22 := Az.mk hbox
       have HB2 := Az.mk hb2
       clear hbox hb2 hg2)
    | ((with_reducible refine gate_dst (N := 4) rfl ?_)
       refine box_event ?hg (N := 4) ?hd (cs := #[.slice none 0 0, .slice none 0 0, .slice none 0 0]) (t := 56) ?hr ?_
       (case hd => rfl)
       (case hg => rfl)
       (case hr => first | (go_simp; done) | (go_simp; rfl))
       intro g4 hg4 w4 hbox hb4
       have hw4 : w.heap.size ≤ g4 := by have := HB2.out.size; omega
       have S24 := Az.mk (bkB S22.out hb4)
       have S44 := Az.mk hbox
       have HB4 := Az.mk (bst HB2.out hb4)
       have a0 : w4.cell? ⟨g2, 0, none⟩ = some (.slice A0 n0 c0) := (blk_cell S24.out 0).trans rfl
       clear hbox hb4 hg4 S22 HB2)
    | ((with_reducible refine gate_dst (N := 5) rfl ?_)
       refine box_event ?hg (N := 5) ?hd (cs := #[.slice none 0 0, .slice none 0 0, .slice none 0 0]) (t := 56) ?hr ?_
       (case hd => rfl)
       (case hg => rfl)
       (case hr => first | (go_simp; done) | (go_simp; rfl))
       intro g5 hg5 w5 hbox hb5
       have hgw : w4.heap.size ≤ g5 := by omega
       have Hbw := Az.mk (bset (g := g5) (j := 2) (v := .slice A2 pa.length c2) (bset (g := g5) (j := 1) (v := .slice none 0 0) (bset (g := g5) (j := 0) (v := .slice A0 n0 c0) hb5 hgw) hgw) hgw)
       have S5 := Az.mk (blk_put (cs' := #[.slice A0 n0 c0, .slice none 0 0, .slice A2 pa.length c2]) (blk_put (cs' := #[.slice A0 n0 c0, .slice none 0 0, .slice none 0 0]) (blk_put (cs' := #[.slice A0 n0 c0, .slice none 0 0, .slice none 0 0]) hbox 0 (.slice A0 n0 c0) rfl) 1 (.slice none 0 0) rfl) 2 (.slice A2 pa.length c2) rfl)
       have S4 := Az.mk (bkB S44.out Hbw.out)
       have HB5 := Az.mk (bst HB4.out Hbw.out)
       have hw5 : w.heap.size ≤ g5 := by have := HB4.out.size; omega
       have hn45 : g4 ≠ g5 := by have := blk_lt S44.out; omega
       have a1 : (((w5.setCell ⟨g5, 0, none⟩ (.slice A0 n0 c0)).setCell ⟨g5, 1, none⟩ (.slice none 0 0)).setCell ⟨g5, 2, none⟩ (.slice A2 pa.length c2)).cell? ⟨g2, 1, none⟩ = some (.slice A1 l1.length c1) := (blk_cell (bkB S24.out Hbw.out) 1).trans rfl
       have hcz0 := (blk_cell hbox 0).trans rfl
       have hcz1 := (blk_cell hbox 1).trans rfl
       have hcz2 := (blk_cell hbox 2).trans rfl
       have hfz0 := bkF hbox 0
       have hfz1 := bkF hbox 1
       have hfz2 := bkF hbox 2
       clear hbox hb5 hg5 hgw a0))
  clear hcz0 hcz1 hcz2 hfz0 hfz1 hfz2 a1
  generalize (((w5.setCell ⟨g5, 0, none⟩ (.slice A0 n0 c0)).setCell ⟨g5, 1, none⟩ (.slice none 0 0)).setCell ⟨g5, 2, none⟩ (.slice A2 pa.length c2)) = wp at *
  clear Hbw S24 S44 HB4
  go_loopg [15] l1.length (fun kq v15 wr => ∃ (i : Nat) (Af : Option Addr) (cf : Nat), v15 = .int .i64 (i : Int) ∧ Az (i + kq = l1.length) ∧ Az (Kd.N k53 53 wr w.heap.size (fun k => k ≠ g4 ∧ k ≠ g5) (.slice Af i cf) ((l1.take i).map (·.f1))) ∧ Az (wr.heap[g5]? = some (.cells #[.slice A0 n0 c0, .slice Af i cf, .slice A2 pa.length c2] 56 (0, 0))) ∧ Az (wr.heap[g4]? = some (.cells #[.slice none 0 0, .slice none 0 0, .slice none 0 0] 56 (0, 0))) ∧ Az (Below w.heap.size w wr))
  case atStart => exact ⟨0, none, 0, rfl, ⟨by omega⟩, ⟨Kd.N_nil _ _ _ _ _⟩, S5, S4, HB5⟩
  case round =>
    clear S5 S4 HB5
    obtain ⟨i, Af, cf, rfl, Hi, HN, S5, S4, HB⟩ := hrel
    have h64' := H64.out
    by_cases hlt : i < l1.length
    rotate_left
    · have hie : i = l1.length := by have := Hi.out; omega
      subst hie
      have e0 : wr.cell? ⟨g5, 0, none⟩ = some (.slice A0 n0 c0) := (blk_cell S5.out 0).trans rfl
      have e1 : wr.cell? ⟨g5, 1, none⟩ = some (.slice Af l1.length cf) := (blk_cell S5.out 1).trans rfl
      have e2 : wr.cell? ⟨g5, 2, none⟩ = some (.slice A2 pa.length c2) := (blk_cell S5.out 2).trans rfl
      have d0 : wr.cell? ⟨g4, 0, none⟩ = some (.slice none 0 0) := (blk_cell S4.out 0).trans rfl
      have d1 : wr.cell? ⟨g4, 1, none⟩ = some (.slice none 0 0) := (blk_cell S4.out 1).trans rfl
      have d2 : wr.cell? ⟨g4, 2, none⟩ = some (.slice none 0 0) := (blk_cell S4.out 2).trans rfl
      have f0 := bkF S4.out 0
      have f1 := bkF S4.out 1
      have f2 := bkF S4.out 2
      go_wp2_with fail
      have Sz := blk_put (cs' := #[.slice A0 n0 c0, .slice Af l1.length cf, .slice A2 pa.length c2]) (blk_put (cs' := #[.slice A0 n0 c0, .slice Af l1.length cf, .slice none 0 0]) (blk_put (cs' := #[.slice A0 n0 c0, .slice none 0 0, .slice none 0 0]) S4.out 0 (.slice A0 n0 c0) rfl) 1 (.slice Af l1.length cf) rfl) 2 (.slice A2 pa.length c2) rfl
      refine bodyPost_ret (results_cell_row rfl _ _ g4 56 #[.slice A0 n0 c0, .slice Af l1.length cf, .slice A2 pa.length c2] (0, 0) _ rfl Sz Try.underlying56 rfl (by kernel_rfl)) rfl ?_
      have hN := HN.out
      rw [List.take_length] at hN
      have hV := Kd.V_far (p := ⟨g4, 2, none⟩) (Kd.V_far (p := ⟨g4, 1, none⟩) (Kd.V_far (p := ⟨g4, 0, none⟩) (Kd.N_V (base' := w.heap.size) hN) (fun k hk => hk.1) (.slice A0 n0 c0)) (fun k hk => hk.1) (.slice Af l1.length cf)) (fun k hk => hk.1) (.slice A2 pa.length c2)
      have hbz := bset (g := g4) (j := 2) (v := .slice A2 pa.length c2) (bset (g := g4) (j := 1) (v := .slice Af l1.length cf) (bset (g := g4) (j := 0) (v := .slice A0 n0 c0) HB.out hw4) hw4) hw4
      exact ⟨_, rfl, Kd.V_mono hV (fun _ _ => trivial), Kd.V_below HV2.out hbz, hbz⟩
    obtain ⟨ad', A3, c3, A4, c4, he, hx0, hx1, hx2, hx3, hx4, hl3, hC3, hl4, hC4⟩ := at_T84 HR1.out (i : Int) (by omega) (by omega)
    cases he
    replace hx0 := cell_up HB.out hx0
    replace hx1 := cell_up HB.out hx1
    replace hx2 := cell_up HB.out hx2
    replace hx3 := cell_up HB.out hx3
    replace hx4 := cell_up HB.out hx4
    rw [Int.toNat_natCast] at hx0 hx1 hx2 hx3 hx4
    have HSN := Az.mk (take46_snoc hlt)
    have HF3 := Az.mk (Kd.C_F k53_heap hC3)
    have Hl3 := Az.mk hl3
    have q1 : (0 ≤ (i : Int)) = True := eq_true (by omega)
    have q2 : ((i : Int) < (l1.length : Int)) = True := eq_true (by omega)
    have q3 : (i < l1.length) = True := eq_true (by omega)
    clear hC3 hl4 hC4 hl3
    generalize rd_T84 l1 (i : Int) = x at *
    go_wp2_with (first
      | ((with_reducible refine gate_dst (N := 7) rfl ?_)
         refine box_event ?hg (N := 7) ?hd (cs := #[.string (⟨#[]⟩ : ByteArray), .slice none 0 0, .int .i64 0, .int .i64 0, .slice none 0 0]) (t := 84) ?hr ?_
         (case hd => rfl)
         (case hg => rfl)
         (case hr => first | (go_simp; done) | (go_simp; rfl))
         intro gi hgi w6 hbox hbb
         have hgw : wr.heap.size ≤ gi := by omega
         have Hbwgi := Az.mk (bset (g := gi) (j := 4) (v := .slice A4 x.f2.f2.length c4) (bset (g := gi) (j := 3) (v := .int .i64 x.f2.f1) (bset (g := gi) (j := 2) (v := .int .i64 x.f2.f0) (bset (g := gi) (j := 1) (v := .slice A3 x.f1.f0.length c3) (bset (g := gi) (j := 0) (v := .string x.f0) hbb hgw) hgw) hgw) hgw) hgw)
         have Sgi := Az.mk (blk_put (cs' := #[.string x.f0, .slice A3 x.f1.f0.length c3, .int .i64 x.f2.f0, .int .i64 x.f2.f1, .slice A4 x.f2.f2.length c4]) (blk_put (cs' := #[.string x.f0, .slice A3 x.f1.f0.length c3, .int .i64 x.f2.f0, .int .i64 x.f2.f1, .slice none 0 0]) (blk_put (cs' := #[.string x.f0, .slice A3 x.f1.f0.length c3, .int .i64 x.f2.f0, .int .i64 0, .slice none 0 0]) (blk_put (cs' := #[.string x.f0, .slice A3 x.f1.f0.length c3, .int .i64 0, .int .i64 0, .slice none 0 0]) (blk_put (cs' := #[.string x.f0, .slice none 0 0, .int .i64 0, .int .i64 0, .slice none 0 0]) hbox 0 (.string x.f0) rfl) 1 (.slice A3 x.f1.f0.length c3) rfl) 2 (.int .i64 x.f2.f0) rfl) 3 (.int .i64 x.f2.f1) rfl) 4 (.slice A4 x.f2.f2.length c4) rfl)
         have hczgi0 := (blk_cell hbox 0).trans rfl
         have hfzgi0 := bkF hbox 0
         have hczgi1 := (blk_cell hbox 1).trans rfl
         have hfzgi1 := bkF hbox 1
         have hczgi2 := (blk_cell hbox 2).trans rfl
         have hfzgi2 := bkF hbox 2
         have hczgi3 := (blk_cell hbox 3).trans rfl
         have hfzgi3 := bkF hbox 3
         have hczgi4 := (blk_cell hbox 4).trans rfl
         have hfzgi4 := bkF hbox 4
         have m1 := (blk_cell Sgi.out 1).trans rfl
         have m5 := (blk_cell (bkB S5.out Hbwgi.out) 1).trans rfl
         clear hbox hbb hgi hgw)
      | (at_builtin; refine holdX ?_))
    unfold HoldX
    clear hczgi0 hfzgi0 hczgi1 hfzgi1 hczgi2 hfzgi2 hczgi3 hfzgi3 hczgi4 hfzgi4 m1 m5 hx0 hx1 hx2 hx3 hx4
    have hs : (((((w6.setCell ⟨gi, 0, none⟩ (.string x.f0)).setCell ⟨gi, 1, none⟩ (.slice A3 x.f1.f0.length c3)).setCell ⟨gi, 2, none⟩ (.int .i64 x.f2.f0)).setCell ⟨gi, 3, none⟩ (.int .i64 x.f2.f1)).setCell ⟨gi, 4, none⟩ (.slice A4 x.f2.f2.length c4)).heap.size = w6.heap.size := by simp only [World.size_setCell]
    rw [← hs]
    clear hs
    generalize (((((w6.setCell ⟨gi, 0, none⟩ (.string x.f0)).setCell ⟨gi, 1, none⟩ (.slice A3 x.f1.f0.length c3)).setCell ⟨gi, 2, none⟩ (.int .i64 x.f2.f0)).setCell ⟨gi, 3, none⟩ (.int .i64 x.f2.f1)).setCell ⟨gi, 4, none⟩ (.slice A4 x.f2.f2.length c4)) = wq at *
    have HBq := Az.mk (bst HB.out Hbwgi.out)
    have HNq := Az.mk (Kd.N_below HN.out Hbwgi.out)
    have S5q := Az.mk (bkB S5.out Hbwgi.out)
    have S4q := Az.mk (bkB S4.out Hbwgi.out)
    clear Hbwgi HN S5 S4 HB Sgi
    refine Kd.N_append k53 (w0 := w) w.heap.size rfl (.tmp 20) (.tmp 23) 51 53 (.agg #[.slice none 0 0]) 24 rfl Try.underlying51 infoS53 rfl (by decide) (by omega) (.slice Af i cf) ((l1.take i).map (·.f1)) ⟨x.f1.f0⟩ [.slice A3 x.f1.f0.length c3] (fun k => k ≠ g4 ∧ k ≠ g5) (fun k => k < w.heap.size) rfl rfl (k53_mkF _ _ (⟨x.f1.f0⟩ : S53) Hl3.out (Kd.F_below HF3.out HBq.out)) (fun k hk => ⟨⟨by omega, by omega⟩, fun e => by have := Kd.N_base HNq.out k e.symm; omega⟩) (fun k hk => by have := blk_lt S4q.out; have := blk_lt S5q.out; exact ⟨by omega, by omega⟩) HNq.out HBq.out HBq.out.size (by rw [List.length_map, List.length_take]; have := H64.out; omega) ?_
    intro v2 w7 hn7 hb7 hg7 hat
    rw [HSN.out] at hn7
    obtain ⟨A5, c5, e2⟩ := Kd.N_slice hn7
    rw [List.length_map, List.length_take, Nat.min_eq_left (by omega)] at e2
    subst e2
    have HN7 := Az.mk hn7
    have HB7 := Az.mk hb7
    have S57 := Az.mk (blk_grown S5q.out hg7 (Kd.N_away HNq.out (fun k hk => hk.2)))
    have S47 := Az.mk (blk_grown S4q.out hg7 (Kd.N_away HNq.out (fun k hk => hk.1)))
    have m5 : w7.cell? ⟨g5, 1, none⟩ = some (.slice Af i cf) := (blk_cell S57.out 1).trans rfl
    have f5 := bkF S57.out 1
    clear hn7 hb7 hg7 hat HNq S5q S4q HBq HSN HF3 Hl3
    go_wp2_with fail
    have HN8 := Az.mk (Kd.N_far (p := ⟨g5, 1, none⟩) HN7.out (fun k hk => hk.2) (.slice A5 (i + 1) c5))
    have HB8 := Az.mk (bset (g := g5) (j := 1) (v := .slice A5 (i + 1) c5) HB7.out hw5)
    have S58 := Az.mk (blk_put (cs' := #[.slice A0 n0 c0, .slice A5 (i + 1) c5, .slice A2 pa.length c2]) S57.out 1 (.slice A5 (i + 1) c5) rfl)
    have S48 := Az.mk (blk_far (p := ⟨g5, 1, none⟩) S47.out hn45 (.slice A5 (i + 1) c5))
    have hk := Hi.out
    obtain ⟨k1, rfl⟩ : ∃ k1, gk = k1 + 1 := ⟨gk - 1, by omega⟩
    go_roundg k1
    case measure => omega
    case rel => exact ⟨i + 1, A5, c5, by go_num, ⟨by omega⟩, HN8, S58, S48, HB8⟩
end Go.Proofs.Ytnfgpepggehegaa.I
namespace Go.Proofs.Ytnfgpepggehegaa.I
open Go.RowKit Go.Proofs.YtnfgpepggehegaaW.PrintWords Go.Proofs.YtnfgpepggehegaaW.PrintLast Go.Proofs.YtnfgpepggehegaaW.PrintMore
open Go.WideShapes Go.Maps Go.ChangeMaps Go.WideMaps
attribute [local go_sem] max2_int min2_int max_two min_two max_three min_three max_four min_four
set_option linter.unusedVariables false
set_option maxRecDepth 100000
set_option linter.unusedSimpArgs false
def fun1L : List S84 → List ByteArray → Bool
  | [], _ => true
  | f :: fs, L => (nameOk f.f0 && (!isIn L f.f0 && isok f.f1.f0)) && fun1L fs (L ++ [f.f0])
def body2 (sy : List S87) (fu : List S53) (f : S84) : Bool := !big f.f2 && (match ofT sy fu f.f1.f0 f.f2 with
    | none => false
    | some s => decide (s.length = 0))
def body2L (sy : List S87) (fu : List S53) : List S84 → Bool
  | [] => true
  | f :: fs => body2 sy fu f && body2L sy fu fs
theorem split_checks (sy : List S87) (fu : List S53) : ∀ (fs : List S84) (L : List ByteArray), (funsL fs L && bodiesL sy fu fs) = (fun1L fs L && body2L sy fu fs)
  | [], L => rfl
  | f :: fs, L => by
    have ih := split_checks sy fu fs (L ++ [f.f0])
    rw [funsL, bodiesL, fun1L, body2L]
    unfold funOk body2
    revert ih
    cases hO : ofT sy fu f.f1.f0 f.f2 with
    | none => cases nameOk f.f0 <;> cases isok f.f1.f0 <;> cases big f.f2 <;> cases isIn L f.f0 <;> cases funsL fs (L ++ [f.f0]) <;> cases bodiesL sy fu fs <;> cases fun1L fs (L ++ [f.f0]) <;> cases body2L sy fu fs <;> simp
    | some s =>
      show _ → (_ && (decide (s.length = 0) && _)) = (_ && ((_ && decide (s.length = 0)) && _))
      generalize decide (s.length = 0) = m
      cases nameOk f.f0 <;> cases isok f.f1.f0 <;> cases big f.f2 <;> cases isIn L f.f0 <;> cases m <;> cases funsL fs (L ++ [f.f0]) <;> cases bodiesL sy fu fs <;> cases fun1L fs (L ++ [f.f0]) <;> cases body2L sy fu fs <;> simp
theorem schB_eq (sy : List S87) (fs : List S84) : schB sy fs = ((symsL sy [] && decide (sy.length ≤ 24)) && ((decide (1 ≤ fs.length) && decide (fs.length ≤ 64)) && (decide ((rd_T84 fs 0).f1.f0.length = 0) && (fun1L fs [] && body2L sy (fs.map (·.f1)) fs)))) := by
  unfold schB
  rw [← split_checks]
  cases funsL fs [] <;> cases decide ((rd_T84 fs 0).f1.f0.length = 0) <;> simp
theorem fun1L_all : ∀ (l : List S84) (L : List ByteArray), fun1L l L = true → ∀ x ∈ l, isok x.f1.f0 = true
  | [], _, _, x, hx => by cases hx
  | y :: ys, L, h, x, hx => by
    rw [fun1L] at h
    simp only [Bool.and_eq_true] at h
    rcases List.mem_cons.1 hx with e | hx
    · subst e; exact h.1.2.2
    · exact fun1L_all ys _ h.2 x hx
theorem small_of2 {sy : List S87} {fs : List S84} (h1 : symsL sy [] = true) (h2 : fun1L fs [] = true) {f : S84} (hf : f ∈ fs) : SmallP sy (fs.map (·.f1)) f.f1.f0 := by
  have hk : ∀ x ∈ fs, cntL x.f1.f0 ≤ 59 := fun x hx => isok_cnt (fun1L_all fs [] h2 x hx)
  refine ⟨fun x hx => by have := symsL_ranks sy [] h1 x hx; omega, fun x hx => ?_, drop41_small (by have := hk f hf; omega)⟩
  obtain ⟨y, hy, rfl⟩ := List.mem_map.1 hx
  have := hk y hy
  omega
theorem fun1L_drop {l : List S84} {i : Nat} (h : i < l.length) : fun1L (l.drop i) (names46 (l.take i)) = ((nameOk (rd_T84 l (i : Int)).f0 && (!isIn (names46 (l.take i)) (rd_T84 l (i : Int)).f0 && isok (rd_T84 l (i : Int)).f1.f0)) && fun1L (l.drop (i + 1)) (names46 (l.take (i + 1)))) := by
  rw [rd_T84_drop l i h, fun1L, rd_T84_take l i h]
theorem body2L_drop {sy : List S87} {fu : List S53} {l : List S84} {i : Nat} (h : i < l.length) : body2L sy fu (l.drop i) = (body2 sy fu (rd_T84 l (i : Int)) && body2L sy fu (l.drop (i + 1))) := by
  rw [rd_T84_drop l i h, body2L]
theorem pof_calls2 (A0 : Option Addr) (c0 : Nat) (l0 : List S87) (A1 : Option Addr) (c1 nf : Nat) (l1 : List S53) (A2 : Option Addr) (c2 : Nat) (l2 : List S53) (hnf : l1.length = nf) (hsm : SmallP l0 l1 l2) (t : S28) (A3 : Option Addr) (c3 : Nat) (w : World) (hr0 : Kd.C k87 w A0 l0.length l0) (h1 : Kd.V k53 53 w w.heap.size (fun _ => True) (.slice A1 nf c1) l1) (h2 : Kd.V k53 53 w w.heap.size (fun _ => True) (.slice A2 l2.length c2) l2) (hr3 : Kd.C k28 w A3 t.f2.length t.f2) (hc3 : t.f2.length ≤ c3) :
    Calls Try.prog 30 #[.agg #[.slice A0 l0.length c0, .slice A1 nf c1, .slice A2 l2.length c2], .agg #[.int .i64 t.f0, .int .i64 t.f1, .slice A3 t.f2.length c3]] w fun e w' => ∃ Av cv, e = .returned (.tuple #[.agg #[.slice Av ((ofT l0 l1 l2 t).getD []).length cv], .bool (ofT l0 l1 l2 t).isSome]) ∧ Below w.heap.size w w' := by
  subst hnf
  exact pof_calls (fun _ => True) A0 c0 l0 A1 c1 l1 A2 c2 l2 hsm t A3 c3 w hr0 h1 h2 hr3 hc3
theorem pname_calls (s : ByteArray) (w : World) : Calls Try.prog 50 #[.string s] w fun e w' => e = .returned (.bool (nameOk s)) ∧ Below w.heap.size w w' := by
  obtain ⟨k, hk⟩ := (name_ev s).rounds
  refine (term_Name.calls k s _ w hk).mono ?_
  rintro e w' ⟨h1, h2⟩
  exact ⟨h1, drawn_below h2⟩
theorem pcheck_calls {l : List S53} {w : World} {A : Option Addr} {c : Nat} (hr : Kd.C k53 w A l.length l) (hc : l.length ≤ c) :
    Calls Try.prog 51 #[.agg #[.slice A l.length c]] w fun e w' => e = .returned (.int .i64 (if isok l = true then 0 else 6)) ∧ Below w.heap.size w w' := sorts_Check.calls A c l _ w hr hc (check_eq l)
theorem psize_calls (a b : Int) {l : List S28} {w : World} {A : Option Addr} {c : Nat} (hr : Kd.C k28 w A l.length l) (hc : l.length ≤ c) :
    Calls Try.prog 28 #[.agg #[.int .i64 a, .int .i64 b, .slice A l.length c]] w fun e w' => e = .returned (.tuple #[.int .i64 (szT ⟨a, b, l⟩).1, .int .i64 (szT ⟨a, b, l⟩).2]) ∧ Below w.heap.size w w' := term_Size.calls a b A c l _ _ w hr hc (szT_eq a b l)
set_option maxHeartbeats 16000000 in
theorem schk_calls (A0 : Option Addr) (c0 : Nat) (l0 : List S87) (A1 : Option Addr) (c1 : Nat) (l1 : List S84) (w : World) (hr0 : Kd.C k87 w A0 l0.length l0) (hc0 : l0.length ≤ c0) (hr1 : Kd.C k84 w A1 l1.length l1) (hc1 : l1.length ≤ c1) :
    Calls Try.prog 27 #[.agg #[.slice A0 l0.length c0, .slice A1 l1.length c1]] w fun e w' => e = .returned (.int .i64 (if schB l0 l1 = true then 0 else 7)) ∧ Below w.heap.size w w' := by
  have hu25 := Try.underlying25
  have hu84 := Try.underlying84
  have hu53 := Try.underlying53
  have hu28 := Try.underlying28
  have hmm := @run_makeMap Try.prog
  have hlen1 : l1.length ≤ 9223372036854775807 := hr1.2.1
  have hlen0 : l0.length ≤ 9223372036854775807 := hr0.2.1
  have HR0 := Az.mk hr0
  have HC0 := Az.mk hc0
  have HR1 := Az.mk hr1
  have HC1 := Az.mk hc1
  obtain ⟨r, hr⟩ : ∃ r, r = schB l0 l1 := ⟨_, rfl⟩
  rw [← hr]
  have HE := Az.mk (hr.trans (schB_eq l0 l1))
  clear hr0 hc0 hr1 hc1 hr
  go_enter Try.func27, Try.ntmps27
  by_cases h24 : 24 < l0.length
  · have hf : r = false := by rw [HE.out, decide_eq_false (by omega : ¬ l0.length ≤ 24)]; simp
    have q1 : (24 < l0.length) = True := eq_true h24
    have q2 : ((24 : Int) < (l0.length : Int)) = True := eq_true (by omega)
    subst hf
    clear HE h24
    go_wp2_with (
      (with_reducible refine gate_dst (N := 1) rfl ?_)
      refine box_event ?hg (N := 1) ?hd (cs := #[.slice A0 l0.length c0, .slice A1 l1.length c1]) (t := 25) ?hr ?_
      (case hd => rfl)
      (case hg => rfl)
      (case hr => first | (go_simp; done) | (go_simp; rfl))
      intro g1 hg1 w1 hbox hb1
      have HB1 := Az.mk hb1
      have e0 : w1.cell? ⟨g1, 0, none⟩ = some (.slice A0 l0.length c0) := (blk_cell hbox 0).trans rfl
      clear hbox hb1 hg1)
    go_ret
    exact ⟨rfl, HB1.out⟩
  have q1 : (24 < l0.length) = False := eq_false h24
  have q2 : ((24 : Int) < (l0.length : Int)) = False := eq_false (by omega)
  obtain ⟨sb, hsb⟩ : ∃ sb, sb = symsL l0 [] := ⟨_, rfl⟩
  have HE2 := Az.mk (show r = (sb && ((decide (1 ≤ l1.length) && decide (l1.length ≤ 64)) && (decide ((rd_T84 l1 0).f1.f0.length = 0) && (fun1L l1 [] && body2L l0 (l1.map (·.f1)) l1)))) from by rw [HE.out, ← hsb, decide_eq_true (by omega : l0.length ≤ 24), Bool.and_true])
  have hsy : term_Symbols.f l0 = some sb := by unfold term_Symbols.f; rw [decide_eq_true (by omega : l0.length ≤ 24), Bool.and_true, hsb]
  have HSy := Az.mk hsy
  have HSB := Az.mk hsb
  clear HE hsb hsy h24
  go_wp2_with (
    (with_reducible refine gate_dst (N := 1) rfl ?_)
    refine box_event ?hg (N := 1) ?hd (cs := #[.slice A0 l0.length c0, .slice A1 l1.length c1]) (t := 25) ?hr ?_
    (case hd => rfl)
    (case hg => rfl)
    (case hr => first | (go_simp; done) | (go_simp; rfl))
    intro g1 hg1 w1 hbox hb1
    have S11 := Az.mk hbox
    have HB1 := Az.mk hb1
    have e0 : w1.cell? ⟨g1, 0, none⟩ = some (.slice A0 l0.length c0) := (blk_cell hbox 0).trans rfl
    clear hbox hb1 hg1)
  (with_reducible refine (term_Symbols.calls A0 c0 l0 sb _ (Kd.C_below HR0.out HB1.out) HC0.out HSy.out).mono ?_)
  rintro e w2 ⟨rfl, hb2⟩
  have HB2 := Az.mk (bst HB1.out hb2)
  have S12 := Az.mk (bkB S11.out hb2)
  clear hb2 e0 S11 HB1 q1 q2 HSy
  cases sb with
  | false =>
    have hf : r = false := HE2.out
    subst hf
    clear HE2 HSB
    go_wp2_with fail
    go_ret
    exact ⟨rfl, HB2.out⟩
  | true =>
  have e1 : w2.cell? ⟨g1, 1, none⟩ = some (.slice A1 l1.length c1) := (blk_cell S12.out 1).trans rfl
  by_cases h1 : l1.length = 0
  · have hf : r = false := by have := HE2.out; rw [decide_eq_false (by omega : ¬ 1 ≤ l1.length)] at this; exact this
    subst hf
    clear HE2 HSB
    go_wp2_with fail
    go_ret
    exact ⟨rfl, HB2.out⟩
  have q1 : (l1.length = 0) = False := eq_false h1
  have q1' : ((l1.length : Int) = 0) = False := eq_false (by omega)
  have q1b : ((l1.length : Int) == 0) = false := beq_eq_false_iff_ne.2 (by omega)
  have q1c : (l1.length == 0) = false := beq_eq_false_iff_ne.2 h1
  by_cases h2 : 64 < l1.length
  · have hf : r = false := by have := HE2.out; rw [decide_eq_false (by omega : ¬ l1.length ≤ 64), decide_eq_true (by omega : 1 ≤ l1.length)] at this; exact this
    have q3 : (64 < l1.length) = True := eq_true h2
    have q3' : ((64 : Int) < (l1.length : Int)) = True := eq_true (by omega)
    subst hf
    clear HE2 HSB h1 h2
    go_wp2_with fail
    go_ret
    exact ⟨rfl, HB2.out⟩
  have q3 : (64 < l1.length) = False := eq_false h2
  have q3' : ((64 : Int) < (l1.length : Int)) = False := eq_false (by omega)
  have HE3 := Az.mk (show r = (decide ((rd_T84 l1 0).f1.f0.length = 0) && (fun1L l1 [] && body2L l0 (l1.map (·.f1)) l1)) from by have := HE2.out; rw [decide_eq_true (by omega : 1 ≤ l1.length), decide_eq_true (by omega : l1.length ≤ 64)] at this; exact this)
  obtain ⟨ad, A3, c3, A4, c4, rfl, hx0, hx1, hx2, hx3, hx4, hl3, hC3, hl4, hC4⟩ := at_T84 (Kd.C_below HR1.out HB2.out) 0 (by omega) (by omega)
  clear hx0 hx2 hx3 hx4 hl3 hC3 hl4 hC4 HE2
  replace hx1 : w2.cell? ⟨ad.block, ad.off + 1, none⟩ = _ := hx1
  have q4 : (0 < l1.length) = True := eq_true (by omega)
  have q5 : ((0 : Int) < (l1.length : Int)) = True := eq_true (by omega)
  have H2 := Az.mk (show l1.length ≤ 64 by omega)
  clear h1 h2
  generalize (rd_T84 l1 0).f1.f0.length = m at *
  by_cases hm : m = 0
  rotate_left
  · have hf : r = false := by have := HE3.out; rw [decide_eq_false hm] at this; exact this
    have q6 : (0 < m) = True := eq_true (by omega)
    have q7 : ((0 : Int) < (m : Int)) = True := eq_true (by omega)
    subst hf
    clear hm HE3 HSB
    go_wp2_with fail
    go_ret
    exact ⟨rfl, HB2.out⟩
  subst hm
  have HE4 := Az.mk (show r = (fun1L l1 [] && body2L l0 (l1.map (·.f1)) l1) from HE3.out)
  clear HE3
  have e1' := cel1 e1
  go_wp2_with fail
  clear e1' e1 hx1 q1 q1' q1b q1c q3 q3' q4 q5
  obtain ⟨q, hq⟩ : ∃ q, q = fun1L l1 [] := ⟨_, rfl⟩
  rw [← hq] at HE4
  have HQ := Az.mk (show q = fun1L (l1.drop 0) (names46 (l1.take 0)) from hq)
  have HQ0 := Az.mk hq
  clear hq
  go_loopg [48] l1.length (fun kq v48 wr => ∃ i : Nat, v48 = .int .i64 (i : Int) ∧ Az (i + kq = l1.length) ∧ Az (Seen wr w2.heap.size i (names46 (l1.take i))) ∧ Az (q = fun1L (l1.drop i) (names46 (l1.take i))) ∧ Az (Below w2.heap.size w2 wr))
  case atStart => exact ⟨0, rfl, ⟨by omega⟩, ⟨seen_made w2⟩, HQ, ⟨bal (Below.refl _ _) _⟩⟩
  case round =>
    clear HQ
    obtain ⟨i, rfl, Hi, HS, HQ, HB⟩ := hrel
    have h64' := H2.out
    by_cases hlt : i < l1.length
    · obtain ⟨ad', A3, c3, A4, c4, he, hx0, hx1, hx2, hx3, hx4, hl3, hC3, hl4, hC4⟩ := at_T84 (Kd.C_below (Kd.C_below HR1.out HB2.out) HB.out) (i : Int) (by omega) (by omega)
      cases he
      rw [Int.toNat_natCast] at hx0 hx1 hx2 hx3 hx4
      have HC3 := Az.mk hC3
      have Hl3 := Az.mk hl3
      have HF := Az.mk (HQ.out.trans (fun1L_drop hlt))
      have htake := Az.mk (rd_T84_take l1 i hlt)
      have p1 : (0 ≤ (i : Int)) = True := eq_true (by omega)
      have p2 : ((i : Int) < (l1.length : Int)) = True := eq_true (by omega)
      have p3 : (i < l1.length) = True := eq_true (by omega)
      have Hlt := Az.mk hlt
      clear hC3 hl4 hC4 hl3 HQ
      generalize rd_T84 l1 (i : Int) = x at *
      go_wp2_with (
        (with_reducible refine gate_dst (N := 5) rfl ?_)
        refine box_event ?hg (N := 5) ?hd (cs := #[.string (⟨#[]⟩ : ByteArray), .slice none 0 0, .int .i64 0, .int .i64 0, .slice none 0 0]) (t := 84) ?hr ?_
        (case hd => rfl)
        (case hg => rfl)
        (case hr => first | (go_simp; done) | (go_simp; rfl))
        intro gi hgi w6 hbox hbb
        have hgw : wr.heap.size ≤ gi := by omega
        have Hbwgi := Az.mk (bset (g := gi) (j := 4) (v := .slice A4 x.f2.f2.length c4) (bset (g := gi) (j := 3) (v := .int .i64 x.f2.f1) (bset (g := gi) (j := 2) (v := .int .i64 x.f2.f0) (bset (g := gi) (j := 1) (v := .slice A3 x.f1.f0.length c3) (bset (g := gi) (j := 0) (v := .string x.f0) hbb hgw) hgw) hgw) hgw) hgw)
        have Sgi := Az.mk (blk_put (cs' := #[.string x.f0, .slice A3 x.f1.f0.length c3, .int .i64 x.f2.f0, .int .i64 x.f2.f1, .slice A4 x.f2.f2.length c4]) (blk_put (cs' := #[.string x.f0, .slice A3 x.f1.f0.length c3, .int .i64 x.f2.f0, .int .i64 x.f2.f1, .slice none 0 0]) (blk_put (cs' := #[.string x.f0, .slice A3 x.f1.f0.length c3, .int .i64 x.f2.f0, .int .i64 0, .slice none 0 0]) (blk_put (cs' := #[.string x.f0, .slice A3 x.f1.f0.length c3, .int .i64 0, .int .i64 0, .slice none 0 0]) (blk_put (cs' := #[.string x.f0, .slice none 0 0, .int .i64 0, .int .i64 0, .slice none 0 0]) hbox 0 (.string x.f0) rfl) 1 (.slice A3 x.f1.f0.length c3) rfl) 2 (.int .i64 x.f2.f0) rfl) 3 (.int .i64 x.f2.f1) rfl) 4 (.slice A4 x.f2.f2.length c4) rfl)
        have hczgi0 := (blk_cell hbox 0).trans rfl
        have hfzgi0 := bkF hbox 0
        have hczgi1 := (blk_cell hbox 1).trans rfl
        have hfzgi1 := bkF hbox 1
        have hczgi2 := (blk_cell hbox 2).trans rfl
        have hfzgi2 := bkF hbox 2
        have hczgi3 := (blk_cell hbox 3).trans rfl
        have hfzgi3 := bkF hbox 3
        have hczgi4 := (blk_cell hbox 4).trans rfl
        have hfzgi4 := bkF hbox 4
        have m0 := (blk_cell Sgi.out 0).trans rfl
        clear hbox hbb hgi hgw)
      clear hczgi0 hfzgi0 hczgi1 hfzgi1 hczgi2 hfzgi2 hczgi3 hfzgi3 hczgi4 hfzgi4 m0 hx0 hx1 hx2 hx3 hx4
      generalize (((((w6.setCell ⟨gi, 0, none⟩ (.string x.f0)).setCell ⟨gi, 1, none⟩ (.slice A3 x.f1.f0.length c3)).setCell ⟨gi, 2, none⟩ (.int .i64 x.f2.f0)).setCell ⟨gi, 3, none⟩ (.int .i64 x.f2.f1)).setCell ⟨gi, 4, none⟩ (.slice A4 x.f2.f2.length c4)) = wq at *
      (with_reducible refine (pname_calls x.f0 _).mono ?_)
      rintro e w8 ⟨rfl, hb8⟩
      have Hbw8 := Az.mk (bst Hbwgi.out hb8)
      have Hgi8 := Az.mk (bkB Sgi.out hb8)
      have HS8 := Az.mk (Seen.grown HS.out Hbw8.out)
      have HB8 := Az.mk (bst HB.out Hbw8.out)
      clear hb8 Hbwgi Sgi HS HB
      obtain ⟨b, hb⟩ : ∃ b, b = nameOk x.f0 := ⟨_, rfl⟩
      rw [← hb] at HF ⊢
      have HNb := Az.mk hb
      clear hb
      cases b with
      | false =>
        have hf : r = false := by have := HE4.out; rw [HF.out] at this; exact this
        subst hf
        clear HF HE4
        go_wp2_with fail
        go_ret
        exact ⟨rfl, bst HB2.out HB8.out⟩
      | true =>
      have hlk := seen_look HS8.out x.f0 (nameOk_size HNb.out.symm)
      have m0 : w8.cell? ⟨gi, 0, none⟩ = some (.string x.f0) := (blk_cell Hgi8.out 0).trans rfl
      have m1 : w8.cell? ⟨gi, 1, none⟩ = some (.slice A3 x.f1.f0.length c3) := (blk_cell Hgi8.out 1).trans rfl
      generalize isIn (names46 (l1.take i)) x.f0 = b at *
      cases b with
      | true =>
        have hf : r = false := by have := HE4.out; rw [HF.out] at this; exact this
        subst hf
        clear HF HE4
        go_wp2_with fail
        go_ret
        exact ⟨rfl, bst HB2.out HB8.out⟩
      | false =>
      go_wp2_with fail
      (with_reducible refine (pcheck_calls (Kd.C_below HC3.out Hbw8.out) Hl3.out).mono ?_)
      rintro e w9 ⟨rfl, hb9⟩
      have HS9 := Az.mk (Seen.grown HS8.out hb9)
      have HB9 := Az.mk (bst HB8.out hb9)
      have n0 : w9.cell? ⟨gi, 0, none⟩ = some (.string x.f0) := (blk_cell (bkB Hgi8.out hb9) 0).trans rfl
      clear hb9 HS8 HB8 Hgi8 m0 m1 hlk Hbw8
      generalize isok x.f1.f0 = b at *
      cases b with
      | false =>
        have hf : r = false := by have := HE4.out; rw [HF.out] at this; exact this
        subst hf
        clear HF HE4
        go_wp2_with fail
        go_ret
        exact ⟨rfl, bst HB2.out HB9.out⟩
      | true =>
      have HQ2 := Az.mk (show q = fun1L (l1.drop (i + 1)) (names46 (l1.take (i + 1))) from HF.out)
      have hkey := keyOf_string_mk Try.underlying9 (nameOk_size HNb.out.symm)
      have Hkey := Az.mk hkey
      clear hkey HF
      rw [if_pos rfl]
      go_wp2_with (at_mapUpdate; refine holdI ?_)
      unfold HoldI
      refine wpList_mapUpdate_own (H := Unit) _ rfl (.tmp 68) (.tmp 70) (.const (.bool true)) 90 rfl 9 4 law9 Try.underlying90 (plainElem Try.prog 4) w2.heap.size i _ rfl HS9.out (by unfold maxLen; omega) (.string x.f0) (.bool true) (.string x.f0.data.toList) rfl rfl Hkey.out _ [] (plainElem_bool Try.underlying4 true) ?_
      intro w5 hown5 hgrow5
      have HS5 := Az.mk (seen_put hown5)
      have HB5 := Az.mk (HB9.out.grown hgrow5 HB9.out.size (fun k hk => by injection hk with hk; omega))
      rw [htake.out] at HS5
      clear hown5 hgrow5 n0 HS9 HB9
      go_wp2_with fail
      have hk := Hi.out
      have hlt2 := Hlt.out
      obtain ⟨k1, rfl⟩ : ∃ k1, gk = k1 + 1 := ⟨gk - 1, by omega⟩
      go_roundg k1
      case measure => omega
      case rel => exact ⟨i + 1, by go_num, ⟨by omega⟩, HS5, HQ2, HB5⟩
    have hie : i = l1.length := by have := Hi.out; omega
    have hq : q = true := by have := HQ.out; rw [hie, List.drop_of_length_le (Nat.le_refl _)] at this; exact this
    have hFL : fun1L l1 [] = true := by rw [← HQ0.out]; exact hq
    have HFL := Az.mk hFL
    have HQB := Az.mk (show r = body2L l0 (l1.map (·.f1)) (l1.drop 0) from by have := HE4.out; rw [hq] at this; exact this)
    have e1 : wr.cell? ⟨g1, 1, none⟩ = some (.slice (some ad) l1.length c1) := (blk_cell (bkB S12.out HB.out) 1).trans rfl
    clear hq hFL HQ HE4 HS hlt Hi HQ0
    subst hie
    go_wp2_with fail
    clear e1
    go_loopg [75] l1.length (fun kq v75 wr => ∃ i : Nat, v75 = .int .i64 (i : Int) ∧ Az (i + kq = l1.length) ∧ Az (r = body2L l0 (l1.map (·.f1)) (l1.drop i)) ∧ Az (Below w2.heap.size w2 wr))
    case atStart => exact ⟨0, rfl, ⟨by omega⟩, HQB, HB⟩
    case round =>
      clear HQB HB
      obtain ⟨i, rfl, Hi, HQ, HB⟩ := hrel
      by_cases hlt : i < l1.length
      rotate_left
      · have hf : r = true := by have := HQ.out; rw [List.drop_of_length_le (by have := Hi.out; omega)] at this; exact this
        subst hf
        clear HQ
        go_wp2_with fail
        go_ret
        exact ⟨rfl, bst HB2.out HB.out⟩
      obtain ⟨ad', A3, c3, A4, c4, he, hx0, hx1, hx2, hx3, hx4, hl3, hC3, hl4, hC4⟩ := at_T84 (Kd.C_below (Kd.C_below HR1.out HB2.out) HB.out) (i : Int) (by omega) (by omega)
      cases he
      rw [Int.toNat_natCast] at hx0 hx1 hx2 hx3 hx4
      have HC4 := Az.mk hC4
      have Hl4 := Az.mk hl4
      have HF := Az.mk (HQ.out.trans (body2L_drop hlt))
      have hmem : rd_T84 l1 (i : Int) ∈ l1 := by unfold rd_T84; rw [Int.toNat_natCast, List.getD_eq_getElem?_getD, List.getElem?_eq_getElem hlt]; exact List.getElem_mem _
      have HSM := Az.mk (small_of2 HSB.out.symm HFL.out hmem)
      have HV3 := Az.mk (show Kd.V k53 53 wr wr.heap.size (fun _ => True) (.slice A3 (rd_T84 l1 (i : Int)).f1.f0.length c3) (rd_T84 l1 (i : Int)).f1.f0 from Kd.V_mk hl3 (Kd.F_mono (Kd.C_F k53_heap hC3) (fun _ _ => trivial)))
      have p1 : (0 ≤ (i : Int)) = True := eq_true (by omega)
      have p2 : ((i : Int) < (l1.length : Int)) = True := eq_true (by omega)
      have p3 : (i < l1.length) = True := eq_true (by omega)
      have Hlt := Az.mk hlt
      clear hC3 hl4 hC4 hl3 HQ hmem
      generalize rd_T84 l1 (i : Int) = x at *
      go_wp2_with (
        (with_reducible refine gate_dst (N := 7) rfl ?_)
        refine box_event ?hg (N := 7) ?hd (cs := #[.string (⟨#[]⟩ : ByteArray), .slice none 0 0, .int .i64 0, .int .i64 0, .slice none 0 0]) (t := 84) ?hr ?_
        (case hd => rfl)
        (case hg => rfl)
        (case hr => first | (go_simp; done) | (go_simp; rfl))
        intro gi hgi w6 hbox hbb
        have hgw : wr.heap.size ≤ gi := by omega
        have Hbwgi := Az.mk (bset (g := gi) (j := 4) (v := .slice A4 x.f2.f2.length c4) (bset (g := gi) (j := 3) (v := .int .i64 x.f2.f1) (bset (g := gi) (j := 2) (v := .int .i64 x.f2.f0) (bset (g := gi) (j := 1) (v := .slice A3 x.f1.f0.length c3) (bset (g := gi) (j := 0) (v := .string x.f0) hbb hgw) hgw) hgw) hgw) hgw)
        have Sgi := Az.mk (blk_put (cs' := #[.string x.f0, .slice A3 x.f1.f0.length c3, .int .i64 x.f2.f0, .int .i64 x.f2.f1, .slice A4 x.f2.f2.length c4]) (blk_put (cs' := #[.string x.f0, .slice A3 x.f1.f0.length c3, .int .i64 x.f2.f0, .int .i64 x.f2.f1, .slice none 0 0]) (blk_put (cs' := #[.string x.f0, .slice A3 x.f1.f0.length c3, .int .i64 x.f2.f0, .int .i64 0, .slice none 0 0]) (blk_put (cs' := #[.string x.f0, .slice A3 x.f1.f0.length c3, .int .i64 0, .int .i64 0, .slice none 0 0]) (blk_put (cs' := #[.string x.f0, .slice none 0 0, .int .i64 0, .int .i64 0, .slice none 0 0]) hbox 0 (.string x.f0) rfl) 1 (.slice A3 x.f1.f0.length c3) rfl) 2 (.int .i64 x.f2.f0) rfl) 3 (.int .i64 x.f2.f1) rfl) 4 (.slice A4 x.f2.f2.length c4) rfl)
        have hczgi0 := (blk_cell hbox 0).trans rfl
        have hfzgi0 := bkF hbox 0
        have hczgi1 := (blk_cell hbox 1).trans rfl
        have hfzgi1 := bkF hbox 1
        have hczgi2 := (blk_cell hbox 2).trans rfl
        have hfzgi2 := bkF hbox 2
        have hczgi3 := (blk_cell hbox 3).trans rfl
        have hfzgi3 := bkF hbox 3
        have hczgi4 := (blk_cell hbox 4).trans rfl
        have hfzgi4 := bkF hbox 4
        have m2 := (blk_cell Sgi.out 2).trans rfl
        have m3 := (blk_cell Sgi.out 3).trans rfl
        have m4 := (blk_cell Sgi.out 4).trans rfl
        clear hbox hbb hgi hgw)
      clear hczgi0 hfzgi0 hczgi1 hfzgi1 hczgi2 hfzgi2 hczgi3 hfzgi3 hczgi4 hfzgi4 m2 m3 m4 hx0 hx1 hx2 hx3 hx4
      generalize (((((w6.setCell ⟨gi, 0, none⟩ (.string x.f0)).setCell ⟨gi, 1, none⟩ (.slice A3 x.f1.f0.length c3)).setCell ⟨gi, 2, none⟩ (.int .i64 x.f2.f0)).setCell ⟨gi, 3, none⟩ (.int .i64 x.f2.f1)).setCell ⟨gi, 4, none⟩ (.slice A4 x.f2.f2.length c4)) = wq at *
      (with_reducible refine (psize_calls x.f2.f0 x.f2.f1 (Kd.C_below HC4.out Hbwgi.out) Hl4.out).mono ?_)
      rintro e w8 ⟨rfl, hb8⟩
      rw [show (⟨x.f2.f0, x.f2.f1, x.f2.f2⟩ : S28) = x.f2 from by cases x.f2; rfl]
      have HbwQ := Az.mk (bst Hbwgi.out hb8)
      have Sgi8 := Az.mk (bkB Sgi.out hb8)
      have HBq := Az.mk (bst HB.out HbwQ.out)
      clear hb8 Hbwgi Sgi
      have hbig := szT_big x.f2
      have hb2 : body2 l0 (l1.map (·.f1)) x = (!big x.f2 && (match ofT l0 (l1.map (·.f1)) x.f1.f0 x.f2 with | none => false | some s => decide (s.length = 0))) := rfl
      rw [hb2, ← hbig] at HF
      clear hb2 hbig
      generalize (szT x.f2).1 = n at *
      generalize (szT x.f2).2 = d at *
      by_cases hn : 400 < n
      · have hf : r = false := by have := HF.out; rw [decide_eq_true hn] at this; exact this
        have q1 : (400 < n) = True := eq_true hn
        subst hf
        clear HF hn
        go_wp2_with fail
        go_ret
        exact ⟨rfl, bst HB2.out HBq.out⟩
      by_cases hd : 30 < d
      · have hf : r = false := by have := HF.out; rw [decide_eq_true hd, decide_eq_false hn] at this; exact this
        have q1 : (400 < n) = False := eq_false hn
        have q2 : (30 < d) = True := eq_true hd
        subst hf
        clear HF hn hd
        go_wp2_with fail
        go_ret
        exact ⟨rfl, bst HB2.out HBq.out⟩
      have q1 : (400 < n) = False := eq_false hn
      have q2 : (30 < d) = False := eq_false hd
      have HF2 := Az.mk (show r = ((match ofT l0 (l1.map (·.f1)) x.f1.f0 x.f2 with | none => false | some s => decide (s.length = 0)) && body2L l0 (l1.map (·.f1)) (l1.drop (i + 1))) from by have := HF.out; rw [decide_eq_false hn, decide_eq_false hd] at this; exact this)
      clear HF hn hd
      go_upto_region 17 with fail
      clear q1 q2
      have S1q := Az.mk (bkB S12.out HBq.out)
      have e0 : w8.cell? ⟨g1, 0, none⟩ = some (.slice A0 l0.length c0) := (blk_cell S1q.out 0).trans rfl
      have e1 : w8.cell? ⟨g1, 1, none⟩ = some (.slice (some ad) l1.length c1) := (blk_cell S1q.out 1).trans rfl
      have m1 : w8.cell? ⟨gi, 1, none⟩ = some (.slice A3 x.f1.f0.length c3) := (blk_cell Sgi8.out 1).trans rfl
      have m2 : w8.cell? ⟨gi, 2, none⟩ = some (.int .i64 x.f2.f0) := (blk_cell Sgi8.out 2).trans rfl
      have m3 : w8.cell? ⟨gi, 3, none⟩ = some (.int .i64 x.f2.f1) := (blk_cell Sgi8.out 3).trans rfl
      have m4 : w8.cell? ⟨gi, 4, none⟩ = some (.slice A4 x.f2.f2.length c4) := (blk_cell Sgi8.out 4).trans rfl
      have e0' := cel1 e0
      have e1' := cel1 e1
      have m1' := cel1 m1
      have m2' := cel1 m2
      have m3' := cel1 m3
      have m4' := cel1 m4
      have HRq := Az.mk (Kd.C_below HR1.out (bst HB2.out HBq.out))
      have HVq := Az.mk (Kd.V_below HV3.out HbwQ.out)
      try simp only [Act.put, List.setIfInBounds_toArray, List.set_cons_succ, List.set_cons_zero]
      go_cut [10, 11] from 92 to 101 (fun v10 v11 wc => ∃ (g9 : Nat) (Ay : Option Addr) (cy : Nat), v10 = .pointer (some ⟨g9, 0, none⟩) ∧ v11 = .bool (ofT l0 (l1.map (·.f1)) x.f1.f0 x.f2).isSome ∧ Az (wc.heap[g9]? = some (.cells #[.slice Ay ((ofT l0 (l1.map (·.f1)) x.f1.f0 x.f2).getD []).length cy] 53 (0, 0))) ∧ Az (Below w2.heap.size w2 wc))
      case first =>
        go_region_law
            (first
              | (go_simp
                 go_at_call 29
                 first
                 | ((with_reducible refine (splace_calls A0 c0 l0.length (some ad) c1 l1 A3 c3 x.f1.f0 w8.drew (Kd.C_below HRq.out (below_drew (Below.refl _ _))) (Kd.V_mono (Kd.V_below HVq.out (below_drew (Below.refl _ _))) (fun _ _ => trivial)) H2.out).mono ?_)
                    rintro e9 wA ⟨vA, rfl, hvA, hvB, hbA⟩
                    obtain ⟨Av, cv, rfl⟩ := Kd.V_slice hvA
                    rw [List.length_map] at hvA ⊢
                    have HVA := Az.mk (show Kd.V k53 53 wA wA.heap.size (fun _ => True) (.slice Av l1.length cv) (l1.map (·.f1)) from hvA)
                    have HVB := Az.mk (show Kd.V k53 53 wA wA.heap.size (fun _ => True) (.slice A3 x.f1.f0.length c3) x.f1.f0 from hvB)
                    have HBA := Az.mk (bst (below_drew HBq.out) hbA)
                    have HbwA := Az.mk (bst (below_drew (Below.refl _ _)) hbA)
                    have a2 := cell_up hbA (show (w8.drew).cell? _ = _ from id m2)
                    have a3 := cell_up hbA (show (w8.drew).cell? _ = _ from id m3)
                    have a4 := cell_up hbA (show (w8.drew).cell? _ = _ from id m4)
                    have a2' := cel1 a2
                    have a3' := cel1 a3
                    have a4' := cel1 a4
                    skip
                    clear hvA hvB hbA)
                 | ((with_reducible refine (splace_calls A0 c0 l0.length (some ad) c1 l1 A3 c3 x.f1.f0 (w8.alloc (.cells #[.slice none 0 0] 53)).drew (Kd.C_below HRq.out (below_drew (bal (Below.refl _ _) _))) (Kd.V_mono (Kd.V_below HVq.out (below_drew (bal (Below.refl _ _) _))) (fun _ _ => trivial)) H2.out).mono ?_)
                    rintro e9 wA ⟨vA, rfl, hvA, hvB, hbA⟩
                    obtain ⟨Av, cv, rfl⟩ := Kd.V_slice hvA
                    rw [List.length_map] at hvA ⊢
                    have HVA := Az.mk (show Kd.V k53 53 wA wA.heap.size (fun _ => True) (.slice Av l1.length cv) (l1.map (·.f1)) from hvA)
                    have HVB := Az.mk (show Kd.V k53 53 wA wA.heap.size (fun _ => True) (.slice A3 x.f1.f0.length c3) x.f1.f0 from hvB)
                    have HBA := Az.mk (bst (below_drew (bal HBq.out _)) hbA)
                    have HbwA := Az.mk (bst (below_drew (bal (Below.refl _ _) _)) hbA)
                    have a2 := cell_up hbA (show ((w8.alloc (.cells #[.slice none 0 0] 53)).drew).cell? _ = _ from cel1 m2 _)
                    have a3 := cell_up hbA (show ((w8.alloc (.cells #[.slice none 0 0] 53)).drew).cell? _ = _ from cel1 m3 _)
                    have a4 := cell_up hbA (show ((w8.alloc (.cells #[.slice none 0 0] 53)).drew).cell? _ = _ from cel1 m4 _)
                    have a2' := cel1 a2
                    have a3' := cel1 a3
                    have a4' := cel1 a4
                    have HG9 := Az.mk (show wA.heap[w8.heap.size]? = some (.cells #[.slice none 0 0] 53 (0, 0)) from bkB (blk_drew (blk_new w8 (.cells #[.slice none 0 0] 53))) hbA)
                    clear hvA hvB hbA))
              | (go_simp
                 go_at_call 30
                 first
                 | ((with_reducible refine (pof_calls2 A0 c0 l0 Av cv l1.length (l1.map (·.f1)) A3 c3 x.f1.f0 (List.length_map _) HSM.out x.f2 A4 c4 wA (Kd.C_below HR0.out (bst HB2.out HBA.out)) HVA.out HVB.out (Kd.C_below HC4.out (bst HbwQ.out HbwA.out)) Hl4.out).mono ?_)
                    rintro e9 wB ⟨Ay, cy, rfl, hbB⟩
                    have HBB := Az.mk (bst HBA.out hbB)
                    try (have G := bkB HG9.out hbB
                         have k9 := (blk_cell G 0).trans rfl
                         have f9 := bkF G 0
                         have HG9B := Az.mk G
                         clear G)
                    clear hbB)
                 | ((with_reducible refine (pof_calls2 A0 c0 l0 Av cv l1.length (l1.map (·.f1)) A3 c3 x.f1.f0 (List.length_map _) HSM.out x.f2 A4 c4 (wA.alloc (.cells #[.slice none 0 0] 53)) (Kd.C_below HR0.out (bst HB2.out (bal HBA.out _))) (Kd.V_alloc HVA.out _) (Kd.V_alloc HVB.out _) (Kd.C_below HC4.out (bst HbwQ.out (bal HbwA.out _))) Hl4.out).mono ?_)
                    rintro e9 wB ⟨Ay, cy, rfl, hbB⟩
                    have HBB := Az.mk (bst (bal HBA.out _) hbB)
                    have G := bkB (blk_new wA (.cells #[.slice none 0 0] 53)) hbB
                    have k9 := (blk_cell G 0).trans rfl
                    have f9 := bkF G 0
                    have HG9B := Az.mk G
                    clear G hbB)))
        all_goals (
            go_wp2_with fail
            go_meet
            first
            | exact ⟨_, Ay, cy, rfl, rfl, ⟨blk_new _ _⟩, ⟨bal HBB.out _⟩⟩
            | exact ⟨_, Ay, cy, rfl, rfl, ⟨blk_put HG9B.out 0 _ rfl⟩, ⟨bset HBB.out (by first | exact HBA.out.size | exact HBq.out.size)⟩⟩)
      case rest =>
        obtain ⟨g9, Ay, cy, rfl, rfl, S9, HB9⟩ := hcut
        clear e0 e1 m1 m2 m3 m4 e0' e1' m1' m2' m3' m4' S1q HBq Sgi8 HSM HC4 Hl4 HbwQ HB HRq HVq HV3
        generalize ofT l0 (l1.map (·.f1)) x.f1.f0 x.f2 = o at *
        cases o with
        | none =>
          have hf : r = false := HF2.out
          subst hf
          clear HF2
          go_wp2_with fail
          go_ret
          exact ⟨rfl, bst HB2.out HB9.out⟩
        | some s =>
          have c9 : wc.cell? ⟨g9, 0, none⟩ = some (.slice Ay s.length cy) := (blk_cell S9.out 0).trans rfl
          have HF3 := Az.mk (show r = (decide (s.length = 0) && body2L l0 (l1.map (·.f1)) (l1.drop (i + 1))) from HF2.out)
          clear HF2 S9
          generalize s.length = m at *
          by_cases hm : m = 0
          · have HN := Az.mk (show r = body2L l0 (l1.map (·.f1)) (l1.drop (i + 1)) from by rw [HF3.out, decide_eq_true hm]; rfl)
            subst hm
            clear HF3
            go_wp2_with fail
            have hk := Hi.out
            have hlt2 := Hlt.out
            obtain ⟨k1, rfl⟩ : ∃ k1, gk = k1 + 1 := ⟨gk - 1, by omega⟩
            go_roundg k1
            case measure => omega
            case rel => exact ⟨i + 1, by go_num, ⟨by omega⟩, HN, HB9⟩
          · have hf : r = false := by rw [HF3.out, decide_eq_false hm]; rfl
            have q4 : (0 < m) = True := eq_true (by omega)
            subst hf
            clear hm HF3
            go_wp2_with fail
            go_ret
            exact ⟨rfl, bst HB2.out HB9.out⟩
end Go.Proofs.Ytnfgpepggehegaa.I
namespace Go.Proofs.Ytnfgpepggehegaa.I
open Go.RowKit Go.Proofs.YtnfgpepggehegaaW.PrintWords Go.Proofs.YtnfgpepggehegaaW.PrintLast Go.Proofs.YtnfgpepggehegaaW.PrintMore
attribute [local go_sem] max2_int min2_int max_two min_two max_three min_three max_four min_four
set_option linter.unusedVariables false
set_option maxRecDepth 100000
set_option linter.unusedSimpArgs false
def closedB (l0 : List S87) (l1 : List S84) (t : S28) : Bool := match ofT l0 (l1.map (·.f1)) [] t with
  | none => false
  | some s => decide (s.length = 0)
def stB (l0 : List S87) (l1 : List S84) (t : S28) : Int := if schB l0 l1 = true then (if 100000 < tcnt t then 3 else if closedB l0 l1 t = true then 0 else 6) else 7
theorem szT_fst (x : S28) : (100000 < (szT x).1) ↔ (100000 < tcnt x) := by
  have h := tmeas_eq x 100000 (by omega)
  have hg := tcnt_ge x
  unfold szT
  by_cases hc : tcnt x ≤ 100000
  · rw [if_pos hc] at h
    rw [h]
    split <;> simp <;> omega
  · rw [if_neg hc] at h
    rw [if_pos h]
    simp
    omega
theorem sch_parts {l0 : List S87} {l1 : List S84} (h : schB l0 l1 = true) : SmallP l0 (l1.map (·.f1)) [] ∧ 1 ≤ l1.length ∧ l1.length ≤ 64 := by
  rw [schB_eq] at h
  simp only [Bool.and_eq_true, decide_eq_true_eq] at h
  obtain ⟨⟨h1, h2⟩, ⟨h3, h4⟩, h5, h6, h7⟩ := h
  refine ⟨⟨fun x hx => by have := symsL_ranks l0 [] h1 x hx; omega, fun x hx => ?_, fun x hx => by cases hx⟩, h3, h4⟩
  obtain ⟨y, hy, rfl⟩ := List.mem_map.1 hx
  exact isok_cnt (fun1L_all l1 [] h6 y hy)
theorem splace0 (A0 : Option Addr) (c0 n0 : Nat) (A1 : Option Addr) (c1 : Nat) (l1 : List S84) (w : World) (hr1 : Kd.C k84 w A1 l1.length l1) (h64 : l1.length ≤ 64) :
    Calls Try.prog 29 #[.agg #[.slice A0 n0 c0, .slice A1 l1.length c1], .slice none 0 0] w fun e w' => ∃ Av cv, e = .returned (.agg #[.slice A0 n0 c0, .slice Av l1.length cv, .slice none 0 0]) ∧ Kd.V k53 53 w' w'.heap.size (fun _ => True) (.slice Av l1.length cv) (l1.map (·.f1)) ∧ Below w.heap.size w w' := by
  refine (splace_calls A0 c0 n0 A1 c1 l1 none 0 [] w hr1 (Kd.V_nil _ _ _ _ _) h64).mono ?_
  rintro e w' ⟨v, rfl, hv, _, hb⟩
  obtain ⟨Av, cv, rfl⟩ := Kd.V_slice hv
  rw [List.length_map] at hv ⊢
  exact ⟨Av, cv, rfl, hv, hb⟩
theorem pof0 (A0 : Option Addr) (c0 : Nat) (l0 : List S87) (Av : Option Addr) (cv nf : Nat) (fu : List S53) (hnf : fu.length = nf) (hsm : SmallP l0 fu []) (t : S28) (A3 : Option Addr) (c3 : Nat) (w : World) (hr0 : Kd.C k87 w A0 l0.length l0) (h1 : Kd.V k53 53 w w.heap.size (fun _ => True) (.slice Av nf cv) fu) (hr3 : Kd.C k28 w A3 t.f2.length t.f2) (hc3 : t.f2.length ≤ c3) :
    Calls Try.prog 30 #[.agg #[.slice A0 l0.length c0, .slice Av nf cv, .slice none 0 0], .agg #[.int .i64 t.f0, .int .i64 t.f1, .slice A3 t.f2.length c3]] w fun e w' => ∃ Ay cy, e = .returned (.tuple #[.agg #[.slice Ay ((ofT l0 fu [] t).getD []).length cy], .bool (ofT l0 fu [] t).isSome]) ∧ Below w.heap.size w w' :=
  pof_calls2 A0 c0 l0 Av cv nf fu none 0 [] hnf hsm t A3 c3 w hr0 h1 (Kd.V_nil _ _ _ _ _) hr3 hc3
theorem of0 (A0 : Option Addr) (c0 : Nat) (l0 : List S87) (Av : Option Addr) (cv nf : Nat) (fu : List S53) (hnf : fu.length = nf) (hsm : SmallP l0 fu []) (t : S28) (A3 : Option Addr) (c3 : Nat) (w : World) (hr0 : Kd.C k87 w A0 l0.length l0) (h1 : Kd.V k53 53 w w.heap.size (fun _ => True) (.slice Av nf cv) fu) (hr3 : Kd.C k28 w A3 t.f2.length t.f2) (hc3 : t.f2.length ≤ c3) :
    Calls Try.prog 59 #[.agg #[.slice A0 l0.length c0, .slice Av nf cv, .slice none 0 0], .agg #[.int .i64 t.f0, .int .i64 t.f1, .slice A3 t.f2.length c3]] w fun e w' => ∃ Ay cy, e = .returned (.tuple #[.agg #[.slice Ay ((ofT l0 fu [] t).getD []).length cy], .bool (ofT l0 fu [] t).isSome]) ∧ Below w.heap.size w w' :=
  of_calls2 A0 c0 l0 Av cv nf fu none 0 [] hnf hsm t A3 c3 w hr0 h1 (Kd.V_nil _ _ _ _ _) hr3 hc3
theorem place0 (A0 : Option Addr) (c0 : Nat) (l0 : List S87) (A1 : Option Addr) (c1 : Nat) (l1 : List S84) (hj : 0 < l1.length) (w : World) (hr1 : Kd.C k84 w A1 l1.length l1) (hc1 : l1.length ≤ c1) (h64 : l1.length ≤ 64) :
    Calls Try.prog 60 #[.agg #[.slice A0 l0.length c0, .slice A1 l1.length c1], .int .i64 0] w fun e w' => ∃ Av cv A2 n2 c2, e = .returned (.agg #[.slice A0 l0.length c0, .slice Av l1.length cv, .slice A2 n2 c2]) ∧ Kd.V k53 53 w' w'.heap.size (fun _ => True) (.slice Av l1.length cv) (l1.map (·.f1)) ∧ Below w.heap.size w w' := by
  refine (show Calls Try.prog 60 #[.agg #[.slice A0 l0.length c0, .slice A1 l1.length c1], .int .i64 0] w _ from place_calls A0 c0 l0 A1 c1 l1 0 hj w hr1 hc1 h64).mono ?_
  rintro e w' ⟨v, A2, c2, rfl, hv, _, hb⟩
  obtain ⟨Av, cv, rfl⟩ := Kd.V_slice hv
  rw [List.length_map] at hv ⊢
  exact ⟨Av, cv, A2, _, c2, rfl, hv, hb⟩
theorem large_calls (t : S28) {A3 : Option Addr} {c3 : Nat} {w : World} (hr3 : Kd.C k28 w A3 t.f2.length t.f2) (hc3 : t.f2.length ≤ c3) :
    Calls Try.prog 32 #[.agg #[.int .i64 t.f0, .int .i64 t.f1, .slice A3 t.f2.length c3]] w fun e w' => e = .returned (.bool (decide (100000 < tcnt t))) ∧ Below w.heap.size w w' := by
  have he : Ev (fun k => virgationref02_Large.f k t.f0 t.f1 t.f2) (decide (100000 < tcnt t)) := by
    unfold virgationref02_Large.f
    refine Ev.bind (tnodes_ev _ t.f0 t.f1 t.f2 100000 (Nat.lt_succ_self _) (by omega) (by omega)) ?_
    have e : decide (min (1 + tcntL t.f2) (100000 + 1) > 100000) = decide (100000 < tcnt t) := decide_eq_decide.2 (by have := tcnt_f2 t; omega)
    rw [e]
    exact Ev.now _
  obtain ⟨k, hk⟩ := he.rounds
  exact virgationref02_Large.calls k t.f0 t.f1 A3 c3 t.f2 _ w hr3 hc3 hk
set_option maxHeartbeats 8000000 in
theorem stepcheck_calls (A0 : Option Addr) (c0 : Nat) (l0 : List S87) (A1 : Option Addr) (c1 : Nat) (l1 : List S84) (t : S28) (A3 : Option Addr) (c3 : Nat) (w : World) (hr0 : Kd.C k87 w A0 l0.length l0) (hc0 : l0.length ≤ c0) (hr1 : Kd.C k84 w A1 l1.length l1) (hc1 : l1.length ≤ c1) (hr3 : Kd.C k28 w A3 t.f2.length t.f2) (hc3 : t.f2.length ≤ c3) :
    Calls Try.prog 11 #[.agg #[.slice A0 l0.length c0, .slice A1 l1.length c1], .agg #[.int .i64 t.f0, .int .i64 t.f1, .slice A3 t.f2.length c3]] w fun e w' => e = .returned (.int .i64 (stB l0 l1 t)) ∧ Below w.heap.size w w' := by
  obtain ⟨r, hr⟩ : ∃ r, r = stB l0 l1 t := ⟨_, rfl⟩
  rw [← hr]
  have HE := Az.mk hr
  clear hr
  have hu25 := Try.underlying25
  have hu28 := Try.underlying28
  have hu53 := Try.underlying53
  have hu99 := Try.underlying99
  have HR0 := Az.mk hr0
  have HC0 := Az.mk hc0
  have HR1 := Az.mk hr1
  have HC1 := Az.mk hc1
  have HR3 := Az.mk hr3
  have HC3 := Az.mk hc3
  clear hr0 hc0 hr1 hc1 hr3 hc3
  go_enter Try.func11, Try.ntmps11
  go_wp2_with (first
    | ((with_reducible refine gate_dst (N := 2) rfl ?_)
       refine box_event ?hg (N := 2) ?hd (cs := #[.slice A0 l0.length c0, .slice A1 l1.length c1]) (t := 25) ?hr ?_
       (case hd => rfl)
       (case hg => rfl)
       (case hr => first | (go_simp; done) | (go_simp; rfl))
       intro g2 hg2 w2 hbox hbb
       have S2 := Az.mk hbox
       have HB2 := Az.mk hbb
       clear hbox hbb hg2)
    | ((with_reducible refine gate_dst (N := 3) rfl ?_)
       refine box_event ?hg (N := 3) ?hd (cs := #[.int .i64 t.f0, .int .i64 t.f1, .slice A3 t.f2.length c3]) (t := 28) ?hr ?_
       (case hd => rfl)
       (case hg => rfl)
       (case hr => first | (go_simp; done) | (go_simp; rfl))
       intro g3 hg3 w3 hbox hbb
       have S3 := Az.mk hbox
       have S23 := Az.mk (bkB S2.out hbb)
       have HB3 := Az.mk (bst HB2.out hbb)
       have a0 : w3.cell? ⟨g2, 0, none⟩ = some (.slice A0 l0.length c0) := (blk_cell S23.out 0).trans rfl
       have a1 : w3.cell? ⟨g2, 1, none⟩ = some (.slice A1 l1.length c1) := (blk_cell S23.out 1).trans rfl
       clear hbox hbb hg3))
  (with_reducible refine (schk_calls A0 c0 l0 A1 c1 l1 _ (Kd.C_below HR0.out HB3.out) HC0.out (Kd.C_below HR1.out HB3.out) HC1.out).mono ?_)
  rintro e w4 ⟨rfl, hb4⟩
  have HB4 := Az.mk (bst HB3.out hb4)
  have S24 := Az.mk (bkB S23.out hb4)
  have S34 := Az.mk (bkB S3.out hb4)
  clear hb4 a0 a1 S2 S3 S23 HB2 HB3
  obtain ⟨sb, hsb⟩ : ∃ sb, sb = schB l0 l1 := ⟨_, rfl⟩
  rw [← hsb]
  have HSB := Az.mk hsb
  have HE2 := Az.mk (show r = if sb = true then (if 100000 < tcnt t then 3 else if closedB l0 l1 t = true then 0 else 6) else 7 from by rw [HE.out, hsb]; rfl)
  clear hsb HE
  cases sb with
  | false =>
    have hf : r = 7 := HE2.out
    subst hf
    rw [if_neg (by simp)]
    clear HE2 HSB
    go_wp2_with fail
    go_ret
    exact ⟨rfl, HB4.out⟩
  | true =>
  have HE3 := Az.mk (show r = if 100000 < tcnt t then 3 else if closedB l0 l1 t = true then 0 else 6 from HE2.out)
  rw [if_pos rfl]
  clear HE2
  have b0 : w4.cell? ⟨g3, 0, none⟩ = some (.int .i64 t.f0) := (blk_cell S34.out 0).trans rfl
  have b1 : w4.cell? ⟨g3, 1, none⟩ = some (.int .i64 t.f1) := (blk_cell S34.out 1).trans rfl
  have b2 : w4.cell? ⟨g3, 2, none⟩ = some (.slice A3 t.f2.length c3) := (blk_cell S34.out 2).trans rfl
  go_wp2_with fail
  (with_reducible refine (psize_calls t.f0 t.f1 (Kd.C_below HR3.out HB4.out) HC3.out).mono ?_)
  rintro e w8 ⟨rfl, hb8⟩
  rw [show (⟨t.f0, t.f1, t.f2⟩ : S28) = t from by cases t; rfl]
  have HB8 := Az.mk (bst HB4.out hb8)
  have S28' := Az.mk (bkB S24.out hb8)
  have S38 := Az.mk (bkB S34.out hb8)
  clear hb8 b0 b1 b2 S24 S34 HB4
  have hsz := szT_fst t
  generalize (szT t).1 = n at *
  generalize (szT t).2 = d at *
  by_cases hn : 100000 < n
  · have hf : r = 3 := by rw [HE3.out, if_pos (hsz.1 hn)]
    have q1 : (100000 < n) = True := eq_true hn
    subst hf
    clear HE3 hn hsz HSB
    go_wp2_with fail
    go_ret
    exact ⟨rfl, HB8.out⟩
  have q1 : (100000 < n) = False := eq_false hn
  have HE4 := Az.mk (show r = if closedB l0 l1 t = true then 0 else 6 from by rw [HE3.out, if_neg (fun h => hn (hsz.2 h))])
  obtain ⟨hsm, h1, h64⟩ := sch_parts HSB.out.symm
  have HSM := Az.mk hsm
  have H64 := Az.mk h64
  clear HE3 hn hsz HSB hsm h1 h64
  go_upto_region 7 with fail
  clear q1
  have e0 : w8.cell? ⟨g2, 0, none⟩ = some (.slice A0 l0.length c0) := (blk_cell S28'.out 0).trans rfl
  have e1 : w8.cell? ⟨g2, 1, none⟩ = some (.slice A1 l1.length c1) := (blk_cell S28'.out 1).trans rfl
  have m2 : w8.cell? ⟨g3, 0, none⟩ = some (.int .i64 t.f0) := (blk_cell S38.out 0).trans rfl
  have m3 : w8.cell? ⟨g3, 1, none⟩ = some (.int .i64 t.f1) := (blk_cell S38.out 1).trans rfl
  have m4 : w8.cell? ⟨g3, 2, none⟩ = some (.slice A3 t.f2.length c3) := (blk_cell S38.out 2).trans rfl
  have e0' := cel1 e0
  have e1' := cel1 e1
  have m2' := cel1 m2
  have m3' := cel1 m3
  have m4' := cel1 m4
  try simp only [Act.put, List.setIfInBounds_toArray, List.set_cons_succ, List.set_cons_zero]
  go_cut [8, 9] from 23 to 28 (fun v10 v11 wc => ∃ (g9 : Nat) (Ay : Option Addr) (cy : Nat), v10 = .pointer (some ⟨g9, 0, none⟩) ∧ v11 = .bool (ofT l0 (l1.map (·.f1)) [] t).isSome ∧ Az (wc.heap[g9]? = some (.cells #[.slice Ay ((ofT l0 (l1.map (·.f1)) [] t).getD []).length cy] 53 (0, 0))) ∧ Az (Below w.heap.size w wc))
  case first =>
    go_region_law
          (first
            | (go_simp
               go_at_call 29
               first
               | ((with_reducible refine (splace0 A0 c0 l0.length A1 c1 l1 w8.drew (Kd.C_below HR1.out (below_drew HB8.out)) H64.out).mono ?_)
                  rintro e9 wA ⟨Av, cv, rfl, hvA, hbA⟩
                  have HVA := Az.mk hvA
                  have HBA := Az.mk (bst (below_drew HB8.out) hbA)
                  have a2 := cell_up hbA (show (w8.drew).cell? _ = _ from id m2)
                  have a3 := cell_up hbA (show (w8.drew).cell? _ = _ from id m3)
                  have a4 := cell_up hbA (show (w8.drew).cell? _ = _ from id m4)
                  have a2' := cel1 a2
                  have a3' := cel1 a3
                  have a4' := cel1 a4
                  skip
                  clear hvA hbA)
               | ((with_reducible refine (splace0 A0 c0 l0.length A1 c1 l1 (w8.alloc (.cells #[.slice none 0 0] 53)).drew (Kd.C_below HR1.out (below_drew (bal HB8.out _))) H64.out).mono ?_)
                  rintro e9 wA ⟨Av, cv, rfl, hvA, hbA⟩
                  have HVA := Az.mk hvA
                  have HBA := Az.mk (bst (below_drew (bal HB8.out _)) hbA)
                  have a2 := cell_up hbA (show ((w8.alloc (.cells #[.slice none 0 0] 53)).drew).cell? _ = _ from cel1 m2 _)
                  have a3 := cell_up hbA (show ((w8.alloc (.cells #[.slice none 0 0] 53)).drew).cell? _ = _ from cel1 m3 _)
                  have a4 := cell_up hbA (show ((w8.alloc (.cells #[.slice none 0 0] 53)).drew).cell? _ = _ from cel1 m4 _)
                  have a2' := cel1 a2
                  have a3' := cel1 a3
                  have a4' := cel1 a4
                  have HG9 := Az.mk (show wA.heap[w8.heap.size]? = some (.cells #[.slice none 0 0] 53 (0, 0)) from bkB (blk_drew (blk_new w8 (.cells #[.slice none 0 0] 53))) hbA)
                  clear hvA hbA))
            | (go_simp
               go_at_call 30
               first
               | ((with_reducible refine (pof0 A0 c0 l0 Av cv l1.length (l1.map (·.f1)) (List.length_map _) HSM.out t A3 c3 wA (Kd.C_below HR0.out HBA.out) HVA.out (Kd.C_below HR3.out HBA.out) HC3.out).mono ?_)
                  rintro e9 wB ⟨Ay, cy, rfl, hbB⟩
                  have HBB := Az.mk (bst HBA.out hbB)
                  try (have G := bkB HG9.out hbB
                       have k9 := (blk_cell G 0).trans rfl
                       have f9 := bkF G 0
                       have HG9B := Az.mk G
                       clear G)
                  clear hbB)
               | ((with_reducible refine (pof0 A0 c0 l0 Av cv l1.length (l1.map (·.f1)) (List.length_map _) HSM.out t A3 c3 (wA.alloc (.cells #[.slice none 0 0] 53)) (Kd.C_below HR0.out (bal HBA.out _)) (Kd.V_alloc HVA.out _) (Kd.C_below HR3.out (bal HBA.out _)) HC3.out).mono ?_)
                  rintro e9 wB ⟨Ay, cy, rfl, hbB⟩
                  have HBB := Az.mk (bst (bal HBA.out _) hbB)
                  have G := bkB (blk_new wA (.cells #[.slice none 0 0] 53)) hbB
                  have k9 := (blk_cell G 0).trans rfl
                  have f9 := bkF G 0
                  have HG9B := Az.mk G
                  clear G hbB)))
    all_goals (
            go_wp2_with fail
            go_meet
            first
            | exact ⟨_, Ay, cy, rfl, rfl, ⟨blk_new _ _⟩, ⟨bal HBB.out _⟩⟩
            | exact ⟨_, Ay, cy, rfl, rfl, ⟨blk_put HG9B.out 0 _ rfl⟩, ⟨bset HBB.out (by first | exact HBA.out.size | exact HB8.out.size)⟩⟩)
  case rest =>
    obtain ⟨g9, Ay, cy, rfl, rfl, S9, HB9⟩ := hcut
    clear e0 e1 m2 m3 m4 e0' e1' m2' m3' m4' S28' S38 HB8 HSM
    have HE5 := Az.mk (show r = if (match ofT l0 (l1.map (·.f1)) [] t with | none => false | some s => decide (s.length = 0)) = true then 0 else 6 from HE4.out)
    clear HE4
    generalize ofT l0 (l1.map (·.f1)) [] t = o at *
    cases o with
    | none =>
      have hf : r = 6 := HE5.out
      subst hf
      clear HE5
      go_wp2_with fail
      go_ret
      exact ⟨rfl, HB9.out⟩
    | some s =>
      have c9 : wc.cell? ⟨g9, 0, none⟩ = some (.slice Ay s.length cy) := (blk_cell S9.out 0).trans rfl
      have HE6 := Az.mk (show r = if decide (s.length = 0) = true then 0 else 6 from HE5.out)
      clear HE5 S9
      generalize s.length = m at *
      by_cases hm : m = 0
      · have hf : r = 0 := by rw [HE6.out, decide_eq_true hm]; rfl
        subst hm hf
        clear HE6
        go_wp2_with fail
        go_ret
        exact ⟨rfl, HB9.out⟩
      · have hf : r = 6 := by rw [HE6.out, decide_eq_false hm]; rfl
        have q4 : (0 < m) = True := eq_true (by omega)
        subst hf
        clear hm HE6
        go_wp2_with fail
        go_ret
        exact ⟨rfl, HB9.out⟩
set_option maxHeartbeats 8000000 in
theorem closed_calls (A0 : Option Addr) (c0 : Nat) (l0 : List S87) (A1 : Option Addr) (c1 : Nat) (l1 : List S84) (t : S28) (A3 : Option Addr) (c3 : Nat) (w : World) (hr0 : Kd.C k87 w A0 l0.length l0) (hc0 : l0.length ≤ c0) (hr1 : Kd.C k84 w A1 l1.length l1) (hc1 : l1.length ≤ c1) (hr3 : Kd.C k28 w A3 t.f2.length t.f2) (hc3 : t.f2.length ≤ c3) (hs : schB l0 l1 = true) :
    Calls Try.prog 33 #[.agg #[.slice A0 l0.length c0, .slice A1 l1.length c1], .agg #[.int .i64 t.f0, .int .i64 t.f1, .slice A3 t.f2.length c3]] w fun e w' => e = .returned (.bool (closedB l0 l1 t)) ∧ Below w.heap.size w w' := by
  obtain ⟨r, hr⟩ : ∃ r, r = closedB l0 l1 t := ⟨_, rfl⟩
  rw [← hr]
  have HE := Az.mk (show r = match ofT l0 (l1.map (·.f1)) [] t with | none => false | some s => decide (s.length = 0) from hr)
  obtain ⟨hsm, h1, h64⟩ := sch_parts hs
  have HSM := Az.mk hsm
  have H64 := Az.mk h64
  have H1 := Az.mk (show 0 < l1.length by omega)
  clear hr hs hsm h1 h64
  have hu25 := Try.underlying25
  have hu28 := Try.underlying28
  have hu53 := Try.underlying53
  have hu99 := Try.underlying99
  have HR0 := Az.mk hr0
  have HC0 := Az.mk hc0
  have HR1 := Az.mk hr1
  have HC1 := Az.mk hc1
  have HR3 := Az.mk hr3
  have HC3 := Az.mk hc3
  clear hr0 hc0 hr1 hc1 hr3 hc3
  go_enter Try.func33, Try.ntmps33
  go_wp2_with (first
    | ((with_reducible refine gate_dst (N := 2) rfl ?_)
       refine box_event ?hg (N := 2) ?hd (cs := #[.slice A0 l0.length c0, .slice A1 l1.length c1]) (t := 25) ?hr ?_
       (case hd => rfl)
       (case hg => rfl)
       (case hr => first | (go_simp; done) | (go_simp; rfl))
       intro g2 hg2 w2 hbox hbb
       have S2 := Az.mk hbox
       have HB2 := Az.mk hbb
       clear hbox hbb hg2)
    | ((with_reducible refine gate_dst (N := 3) rfl ?_)
       refine box_event ?hg (N := 3) ?hd (cs := #[.int .i64 t.f0, .int .i64 t.f1, .slice A3 t.f2.length c3]) (t := 28) ?hr ?_
       (case hd => rfl)
       (case hg => rfl)
       (case hr => first | (go_simp; done) | (go_simp; rfl))
       intro g3 hg3 w3 hbox hbb
       have S3 := Az.mk hbox
       have S23 := Az.mk (bkB S2.out hbb)
       have HB3 := Az.mk (bst HB2.out hbb)
       have a0 : w3.cell? ⟨g2, 0, none⟩ = some (.slice A0 l0.length c0) := (blk_cell S23.out 0).trans rfl
       have a1 : w3.cell? ⟨g2, 1, none⟩ = some (.slice A1 l1.length c1) := (blk_cell S23.out 1).trans rfl
       clear hbox hbb hg3))
  (with_reducible refine (place0 A0 c0 l0 A1 c1 l1 H1.out _ (Kd.C_below HR1.out HB3.out) HC1.out H64.out).mono ?_)
  rintro e w4 ⟨Av, cv, A2, n2, c2, rfl, hv, hb4⟩
  have HB4 := Az.mk (bst HB3.out hb4)
  have S34 := Az.mk (bkB S3.out hb4)
  have HV := Az.mk hv
  clear hb4 hv a0 a1 S2 S3 S23 HB2 HB3
  have b0 : w4.cell? ⟨g3, 0, none⟩ = some (.int .i64 t.f0) := (blk_cell S34.out 0).trans rfl
  have b1 : w4.cell? ⟨g3, 1, none⟩ = some (.int .i64 t.f1) := (blk_cell S34.out 1).trans rfl
  have b2 : w4.cell? ⟨g3, 2, none⟩ = some (.slice A3 t.f2.length c3) := (blk_cell S34.out 2).trans rfl
  go_wp2_with (
    (with_reducible refine gate_dst (N := 5) rfl ?_)
    refine box_event ?hg (N := 5) ?hd (cs := #[.slice none 0 0, .slice none 0 0, .slice none 0 0]) (t := 99) ?hr ?_
    (case hd => rfl)
    (case hg => rfl)
    (case hr => first | (go_simp; done) | (go_simp; rfl))
    intro g5 hg5 w5 hbox hb5
    have hgw : w4.heap.size ≤ g5 := by omega
    have Hbw := Az.mk (bset (g := g5) (j := 2) (v := .slice none 0 0) (bset (g := g5) (j := 2) (v := .slice A2 n2 c2) (bset (g := g5) (j := 1) (v := .slice Av l1.length cv) (bset (g := g5) (j := 0) (v := .slice A0 l0.length c0) hb5 hgw) hgw) hgw) hgw)
    have S5a := Az.mk (blk_put (cs' := #[.slice A0 l0.length c0, .slice Av l1.length cv, .slice A2 n2 c2]) (blk_put (cs' := #[.slice A0 l0.length c0, .slice Av l1.length cv, .slice none 0 0]) (blk_put (cs' := #[.slice A0 l0.length c0, .slice none 0 0, .slice none 0 0]) hbox 0 (.slice A0 l0.length c0) rfl) 1 (.slice Av l1.length cv) rfl) 2 (.slice A2 n2 c2) rfl)
    have S5 := Az.mk (blk_put (cs' := #[.slice A0 l0.length c0, .slice Av l1.length cv, .slice none 0 0]) S5a.out 2 (.slice none 0 0) rfl)
    have hcz0 := (blk_cell hbox 0).trans rfl
    have hcz1 := (blk_cell hbox 1).trans rfl
    have hcz2 := (blk_cell hbox 2).trans rfl
    have hfz0 := bkF hbox 0
    have hfz1 := bkF hbox 1
    have hfz2 := bkF hbox 2
    have hfa2 := bkF S5a.out 2
    have x2 := (blk_cell S5a.out 2).trans rfl
    have d0 := (blk_cell S5.out 0).trans rfl
    have d1 := (blk_cell S5.out 1).trans rfl
    have d2 := (blk_cell S5.out 2).trans rfl
    have f0 := (blk_cell (bkB S34.out Hbw.out) 0).trans rfl
    have f1 := (blk_cell (bkB S34.out Hbw.out) 1).trans rfl
    have f2 := (blk_cell (bkB S34.out Hbw.out) 2).trans rfl
    clear hbox hb5 hg5 hgw b0 b1 b2)
  clear hcz0 hcz1 hcz2 hfz0 hfz1 hfz2 hfa2 x2 d0 d1 d2 f0 f1 f2
  generalize ((((w5.setCell ⟨g5, 0, none⟩ (.slice A0 l0.length c0)).setCell ⟨g5, 1, none⟩ (.slice Av l1.length cv)).setCell ⟨g5, 2, none⟩ (.slice A2 n2 c2)).setCell ⟨g5, 2, none⟩ (.slice none 0 0)) = w6 at *
  have HB6 := Az.mk (bst HB4.out Hbw.out)
  (with_reducible refine (of0 A0 c0 l0 Av cv l1.length (l1.map (·.f1)) (List.length_map _) HSM.out t A3 c3 w6 (Kd.C_below HR0.out HB6.out) (Kd.V_mono (Kd.V_below HV.out Hbw.out) (fun _ _ => trivial)) (Kd.C_below HR3.out HB6.out) HC3.out).mono ?_)
  rintro e w7 ⟨Ay, cy, rfl, hb7⟩
  have HB7 := Az.mk (bst HB6.out hb7)
  clear hb7 HB6 Hbw S34 S5 S5a HV HSM HB4
  generalize ofT l0 (l1.map (·.f1)) [] t = o at *
  obtain ⟨m, hm⟩ : ∃ m, m = (o.getD []).length := ⟨_, rfl⟩
  obtain ⟨b, hb⟩ : ∃ b, b = o.isSome := ⟨_, rfl⟩
  rw [← hm, ← hb]
  have HE2 := Az.mk (show r = (b && decide (m = 0)) from by rw [HE.out, hb, hm]; cases o <;> rfl)
  clear hm hb HE
  cases b with
  | false =>
    have hf : r = false := HE2.out
    subst hf
    clear HE2
    go_wp2_with (
      (with_reducible refine gate_dst (N := 6) rfl ?_)
      refine box_event ?hg (N := 6) ?hd (cs := #[.slice none 0 0]) (t := 53) ?hr ?_
      (case hd => rfl)
      (case hg => rfl)
      (case hr => first | (go_simp; done) | (go_simp; rfl))
      intro g6 hg6 w8 hbox hb8
      have hgw : w7.heap.size ≤ g6 := by omega
      have HB8 := Az.mk (bst HB7.out (bset (g := g6) (j := 0) (v := .slice Ay m cy) hb8 hgw))
      have S6 := Az.mk (blk_put (cs' := #[.slice Ay m cy]) hbox 0 (.slice Ay m cy) rfl)
      have hcz0 := (blk_cell hbox 0).trans rfl
      have hfz0 := bkF hbox 0
      have d0 := (blk_cell S6.out 0).trans rfl
      clear hbox hb8 hg6 hgw)
    go_ret
    exact ⟨rfl, HB8.out⟩
  | true =>
  by_cases hm : m = 0
  · have hf : r = true := by rw [HE2.out, decide_eq_true hm]; rfl
    have q2 : ((m : Int) = 0) = True := eq_true (by omega)
    subst hf
    clear HE2
    go_wp2_with (
      (with_reducible refine gate_dst (N := 6) rfl ?_)
      refine box_event ?hg (N := 6) ?hd (cs := #[.slice none 0 0]) (t := 53) ?hr ?_
      (case hd => rfl)
      (case hg => rfl)
      (case hr => first | (go_simp; done) | (go_simp; rfl))
      intro g6 hg6 w8 hbox hb8
      have hgw : w7.heap.size ≤ g6 := by omega
      have HB8 := Az.mk (bst HB7.out (bset (g := g6) (j := 0) (v := .slice Ay m cy) hb8 hgw))
      have S6 := Az.mk (blk_put (cs' := #[.slice Ay m cy]) hbox 0 (.slice Ay m cy) rfl)
      have hcz0 := (blk_cell hbox 0).trans rfl
      have hfz0 := bkF hbox 0
      have d0 := (blk_cell S6.out 0).trans rfl
      clear hbox hb8 hg6 hgw)
    go_ret
    have hb9 := HB8.out
    rw [hm] at hb9
    exact ⟨rfl, hb9⟩
  · have hf : r = false := by rw [HE2.out, decide_eq_false hm]; rfl
    have q1 : (m = 0) = False := eq_false hm
    have q2 : ((m : Int) = 0) = False := eq_false (by omega)
    have q3 : ((m : Int) == 0) = false := beq_eq_false_iff_ne.2 (by omega)
    have q4 : (m == 0) = false := beq_eq_false_iff_ne.2 hm
    clear hm
    subst hf
    clear HE2
    go_wp2_with (
      (with_reducible refine gate_dst (N := 6) rfl ?_)
      refine box_event ?hg (N := 6) ?hd (cs := #[.slice none 0 0]) (t := 53) ?hr ?_
      (case hd => rfl)
      (case hg => rfl)
      (case hr => first | (go_simp; done) | (go_simp; rfl))
      intro g6 hg6 w8 hbox hb8
      have hgw : w7.heap.size ≤ g6 := by omega
      have HB8 := Az.mk (bst HB7.out (bset (g := g6) (j := 0) (v := .slice Ay m cy) hb8 hgw))
      have S6 := Az.mk (blk_put (cs' := #[.slice Ay m cy]) hbox 0 (.slice Ay m cy) rfl)
      have hcz0 := (blk_cell hbox 0).trans rfl
      have hfz0 := bkF hbox 0
      have d0 := (blk_cell S6.out 0).trans rfl
      clear hbox hb8 hg6 hgw)
    go_ret
    exact ⟨rfl, HB8.out⟩
set_option maxHeartbeats 8000000 in
theorem refstep_calls (A0 : Option Addr) (c0 : Nat) (l0 : List S87) (A1 : Option Addr) (c1 : Nat) (l1 : List S84) (t : S28) (A3 : Option Addr) (c3 : Nat) (w : World) (hr0 : Kd.C k87 w A0 l0.length l0) (hc0 : l0.length ≤ c0) (hr1 : Kd.C k84 w A1 l1.length l1) (hc1 : l1.length ≤ c1) (hr3 : Kd.C k28 w A3 t.f2.length t.f2) (hc3 : t.f2.length ≤ c3) :
    Calls Try.prog 12 #[.agg #[.slice A0 l0.length c0, .slice A1 l1.length c1], .agg #[.int .i64 t.f0, .int .i64 t.f1, .slice A3 t.f2.length c3]] w fun e w' => e = .returned (.int .i64 (stB l0 l1 t)) ∧ Below w.heap.size w w' := by
  obtain ⟨r, hr⟩ : ∃ r, r = stB l0 l1 t := ⟨_, rfl⟩
  rw [← hr]
  have HE := Az.mk hr
  clear hr
  have hu25 := Try.underlying25
  have hu28 := Try.underlying28
  have hu53 := Try.underlying53
  have hu99 := Try.underlying99
  have HR0 := Az.mk hr0
  have HC0 := Az.mk hc0
  have HR1 := Az.mk hr1
  have HC1 := Az.mk hc1
  have HR3 := Az.mk hr3
  have HC3 := Az.mk hc3
  clear hr0 hc0 hr1 hc1 hr3 hc3
  go_enter Try.func12, Try.ntmps12
  go_wp2_with (first
    | ((with_reducible refine gate_dst (N := 2) rfl ?_)
       refine box_event ?hg (N := 2) ?hd (cs := #[.slice A0 l0.length c0, .slice A1 l1.length c1]) (t := 25) ?hr ?_
       (case hd => rfl)
       (case hg => rfl)
       (case hr => first | (go_simp; done) | (go_simp; rfl))
       intro g2 hg2 w2 hbox hbb
       have S2 := Az.mk hbox
       have HB2 := Az.mk hbb
       clear hbox hbb hg2)
    | ((with_reducible refine gate_dst (N := 3) rfl ?_)
       refine box_event ?hg (N := 3) ?hd (cs := #[.int .i64 t.f0, .int .i64 t.f1, .slice A3 t.f2.length c3]) (t := 28) ?hr ?_
       (case hd => rfl)
       (case hg => rfl)
       (case hr => first | (go_simp; done) | (go_simp; rfl))
       intro g3 hg3 w3 hbox hbb
       have S3 := Az.mk hbox
       have S23 := Az.mk (bkB S2.out hbb)
       have HB3 := Az.mk (bst HB2.out hbb)
       have a0 : w3.cell? ⟨g2, 0, none⟩ = some (.slice A0 l0.length c0) := (blk_cell S23.out 0).trans rfl
       have a1 : w3.cell? ⟨g2, 1, none⟩ = some (.slice A1 l1.length c1) := (blk_cell S23.out 1).trans rfl
       clear hbox hbb hg3))
  (with_reducible refine (refis_calls A0 c0 l0 A1 c1 l1 _ (Kd.C_below HR0.out HB3.out) HC0.out (Kd.C_below HR1.out HB3.out) HC1.out).mono ?_)
  rintro e w4 ⟨rfl, hb4⟩
  have HB4 := Az.mk (bst HB3.out hb4)
  have S24 := Az.mk (bkB S23.out hb4)
  have S34 := Az.mk (bkB S3.out hb4)
  clear hb4 a0 a1 S2 S3 S23 HB2 HB3
  obtain ⟨sb, hsb⟩ : ∃ sb, sb = schB l0 l1 := ⟨_, rfl⟩
  rw [← hsb]
  have HSB := Az.mk hsb
  have HE2 := Az.mk (show r = if sb = true then (if 100000 < tcnt t then 3 else if closedB l0 l1 t = true then 0 else 6) else 7 from by rw [HE.out, hsb]; rfl)
  clear hsb HE
  cases sb with
  | false =>
    have hf : r = 7 := HE2.out
    subst hf
    clear HE2 HSB
    go_wp2_with fail
    go_ret
    exact ⟨rfl, HB4.out⟩
  | true =>
  have HE3 := Az.mk (show r = if 100000 < tcnt t then 3 else if closedB l0 l1 t = true then 0 else 6 from HE2.out)
  clear HE2
  have b0 : w4.cell? ⟨g3, 0, none⟩ = some (.int .i64 t.f0) := (blk_cell S34.out 0).trans rfl
  have b1 : w4.cell? ⟨g3, 1, none⟩ = some (.int .i64 t.f1) := (blk_cell S34.out 1).trans rfl
  have b2 : w4.cell? ⟨g3, 2, none⟩ = some (.slice A3 t.f2.length c3) := (blk_cell S34.out 2).trans rfl
  go_wp2_with fail
  (with_reducible refine (large_calls t (Kd.C_below HR3.out HB4.out) HC3.out).mono ?_)
  rintro e w5 ⟨rfl, hb5⟩
  have HB5 := Az.mk (bst HB4.out hb5)
  have S25 := Az.mk (bkB S24.out hb5)
  have S35 := Az.mk (bkB S34.out hb5)
  clear hb5 b0 b1 b2 S24 S34 HB4
  by_cases hn : 100000 < tcnt t
  · have hf : r = 3 := by rw [HE3.out, if_pos hn]
    rw [decide_eq_true hn]
    subst hf
    clear HE3 hn HSB
    go_wp2_with fail
    go_ret
    exact ⟨rfl, HB5.out⟩
  have HE4 := Az.mk (show r = if closedB l0 l1 t = true then 0 else 6 from by rw [HE3.out, if_neg hn])
  rw [decide_eq_false hn]
  have HCL := Az.mk (fun (w : World) (h0 : Kd.C k87 w A0 l0.length l0) (h1 : Kd.C k84 w A1 l1.length l1) (h3 : Kd.C k28 w A3 t.f2.length t.f2) => closed_calls A0 c0 l0 A1 c1 l1 t A3 c3 w h0 HC0.out h1 HC1.out h3 HC3.out HSB.out.symm)
  clear HE3 hn
  have a0 : w5.cell? ⟨g2, 0, none⟩ = some (.slice A0 l0.length c0) := (blk_cell S25.out 0).trans rfl
  have a1 : w5.cell? ⟨g2, 1, none⟩ = some (.slice A1 l1.length c1) := (blk_cell S25.out 1).trans rfl
  have b0 : w5.cell? ⟨g3, 0, none⟩ = some (.int .i64 t.f0) := (blk_cell S35.out 0).trans rfl
  have b1 : w5.cell? ⟨g3, 1, none⟩ = some (.int .i64 t.f1) := (blk_cell S35.out 1).trans rfl
  have b2 : w5.cell? ⟨g3, 2, none⟩ = some (.slice A3 t.f2.length c3) := (blk_cell S35.out 2).trans rfl
  go_wp2_with fail
  (with_reducible refine (HCL.out _ (Kd.C_below HR0.out HB5.out) (Kd.C_below HR1.out HB5.out) (Kd.C_below HR3.out HB5.out)).mono ?_)
  rintro e w6 ⟨rfl, hb6⟩
  have HB6 := Az.mk (bst HB5.out hb6)
  clear hb6 a0 a1 b0 b1 b2 HCL
  generalize closedB l0 l1 t = b at *
  cases b with
  | false =>
    have hf : r = 6 := HE4.out
    subst hf
    clear HE4
    go_wp2_with fail
    go_ret
    exact ⟨rfl, HB6.out⟩
  | true =>
    have hf : r = 0 := HE4.out
    subst hf
    clear HE4
    go_wp2_with fail
    go_ret
    exact ⟨rfl, HB6.out⟩
end Go.Proofs.Ytnfgpepggehegaa.I
namespace Go.Proofs.Ytnfgpepggehegaa.I
open Go.RowKit Go.Proofs.YtnfgpepggehegaaW.PrintWords Go.Proofs.YtnfgpepggehegaaW.PrintLast Go.Proofs.YtnfgpepggehegaaW.PrintMore
attribute [local go_sem] max2_int min2_int max_two min_two max_three min_three max_four min_four
set_option linter.unusedVariables false
set_option maxRecDepth 100000
set_option linter.unusedSimpArgs false
mutual
/-- Has a term variables? -/
def opn : S28 → Bool
  | ⟨k, _, l⟩ => decide (k = 0) || opnL l
def opnL : List S28 → Bool
  | [] => false
  | x :: xs => opn x || opnL xs
end
def csz (x : S28) : Int := min (tcnt x) 1099511627776
def Row (w : World) (ok : Nat → Prop) (a : Value) (vs : List Value) : Prop := Kd.V (Kd.raw 1) 65 w 0 ok a (vs.map (fun v => [v]))
mutual
/-- A cell in memory, in blocks of ok. -/
def Cl (w : World) (ok : Nat → Prop) : S28 → Value → Prop
  | ⟨k, n, l⟩, v => ∃ (g : Nat) (a : Value) (vs : List Value), v = .pointer (some ⟨g, 0, none⟩) ∧ ok g ∧ w.heap[g]? = some (.cells #[.int .i64 k, .int .i64 n, a, .int .i64 (csz ⟨k, n, l⟩), .bool (opn ⟨k, n, l⟩)] 74 (0, 0)) ∧ Row w ok a vs ∧ ClL w ok l vs
def ClL (w : World) (ok : Nat → Prop) : List S28 → List Value → Prop
  | [], vs => vs = []
  | x :: xs, vs => ∃ v vs', vs = v :: vs' ∧ Cl w ok x v ∧ ClL w ok xs vs'
end
theorem Row_slice {w : World} {ok : Nat → Prop} {a : Value} {vs : List Value} (h : Row w ok a vs) : ∃ A c, a = .slice A vs.length c := by
  obtain ⟨A, c, e⟩ := Kd.V_slice h
  rw [List.length_map] at e
  exact ⟨A, c, e⟩
mutual
theorem Cl_imp {w w1 : World} {ok ok1 : Nat → Prop} (hm : ∀ k, ok k → k < w.heap.size → w1.heap[k]? = w.heap[k]?) (ho : ∀ k, ok k → k < w.heap.size → ok1 k) : ∀ (x : S28) (v : Value), Cl w ok x v → Cl w1 ok1 x v
  | ⟨k, n, l⟩, v, h => by
    unfold Cl at h ⊢
    obtain ⟨g, a, vs, e, h0, hg, hr, hl⟩ := h
    exact ⟨g, a, vs, e, ho g h0 (blk_lt hg), (hm g h0 (blk_lt hg)).trans hg, Kd.V_mono (Kd.V_step (Kd.V_bound hr) (fun k hk hlt => hm k hk.1 hlt)) (fun k hk => ho k hk.1 hk.2), ClL_imp hm ho l vs hl⟩
theorem ClL_imp {w w1 : World} {ok ok1 : Nat → Prop} (hm : ∀ k, ok k → k < w.heap.size → w1.heap[k]? = w.heap[k]?) (ho : ∀ k, ok k → k < w.heap.size → ok1 k) : ∀ (l : List S28) (vs : List Value), ClL w ok l vs → ClL w1 ok1 l vs
  | [], vs, h => by unfold ClL at h ⊢; exact h
  | x :: xs, vs, h => by
    unfold ClL at h ⊢
    obtain ⟨v, vs', e, h1, h2⟩ := h
    exact ⟨v, vs', e, Cl_imp hm ho x v h1, ClL_imp hm ho xs vs' h2⟩
end
theorem Row_below {w w1 : World} {ok : Nat → Prop} {a : Value} {vs : List Value} (hb : Below w.heap.size w w1) (h : Row w ok a vs) : Row w1 ok a vs := Kd.V_below h hb
theorem Cl_below {w w1 : World} {ok : Nat → Prop} (hb : Below w.heap.size w w1) {x : S28} {v : Value} (h : Cl w ok x v) : Cl w1 ok x v := Cl_imp (fun k _ hk => hb.block k hk) (fun _ h _ => h) x v h
theorem ClL_below {w w1 : World} {ok : Nat → Prop} (hb : Below w.heap.size w w1) {l : List S28} {vs : List Value} (h : ClL w ok l vs) : ClL w1 ok l vs := ClL_imp (fun k _ hk => hb.block k hk) (fun _ h _ => h) l vs h
theorem Cl_mono {w : World} {ok ok1 : Nat → Prop} (ho : ∀ k, ok k → k < w.heap.size → ok1 k) {x : S28} {v : Value} (h : Cl w ok x v) : Cl w ok1 x v := Cl_imp (fun _ _ _ => rfl) ho x v h
theorem ClL_mono {w : World} {ok ok1 : Nat → Prop} (ho : ∀ k, ok k → k < w.heap.size → ok1 k) {l : List S28} {vs : List Value} (h : ClL w ok l vs) : ClL w ok1 l vs := ClL_imp (fun _ _ _ => rfl) ho l vs h
theorem ClL_after {w w1 : World} {ok : Nat → Prop} {u u1 : Value} {l : List S28} {vs : List Value} (h : ClL w (fun k => ok k ∧ some k ≠ u.ownBlock) l vs) (hg : w.grownBy w1 u.ownBlock) (hat : u1.ownBlock = u.ownBlock ∨ ∃ b, u1.ownBlock = some b ∧ w.heap.size ≤ b) : ClL w1 (fun k => ok k ∧ some k ≠ u1.ownBlock) l vs :=
  ClL_imp (fun k hk hlt => hg.block k hlt hk.2) (fun k hk hlt => ⟨hk.1, fun he => by
    rcases hat with e | ⟨b, e, hb⟩
    · exact hk.2 (he.trans e)
    · rw [e] at he
      injection he with he
      omega⟩) l vs h
theorem ClL_len {w : World} {ok : Nat → Prop} : ∀ (l : List S28) (vs : List Value), ClL w ok l vs → l.length = vs.length
  | [], vs, h => by unfold ClL at h; rw [h]; rfl
  | x :: xs, vs, h => by
    unfold ClL at h
    obtain ⟨v, vs', e, h1, h2⟩ := h
    rw [e, List.length_cons, List.length_cons, ClL_len xs vs' h2]
theorem ClL_at {w : World} {ok : Nat → Prop} : ∀ (l : List S28) (vs : List Value), ClL w ok l vs → ∀ i (h : i < l.length) (h2 : i < vs.length), Cl w ok l[i] vs[i]
  | [], vs, _, i, h, _ => absurd h (Nat.not_lt_zero _)
  | x :: xs, vs, hl, i, h, h2 => by
    unfold ClL at hl
    obtain ⟨v, vs', e, h1, h3⟩ := hl
    subst e
    cases i with
    | zero => exact h1
    | succ i => exact ClL_at xs vs' h3 i (by simpa using h) (by simpa using h2)
theorem ClL_nil {w : World} {ok : Nat → Prop} : ClL w ok [] [] := by unfold ClL; rfl
theorem ClL_app {w : World} {ok : Nat → Prop} : ∀ (l : List S28) (vs : List Value) (m : List S28) (us : List Value), ClL w ok l vs → ClL w ok m us → ClL w ok (l ++ m) (vs ++ us)
  | [], vs, m, us, h, h2 => by unfold ClL at h; subst h; exact h2
  | x :: xs, vs, m, us, h, h2 => by
    unfold ClL at h
    obtain ⟨v, vs', e, h1, h3⟩ := h
    subst e
    show ClL w ok (x :: (xs ++ m)) (v :: (vs' ++ us))
    unfold ClL
    exact ⟨v, _, rfl, h1, ClL_app xs vs' m us h3 h2⟩
theorem ClL_one {w : World} {ok : Nat → Prop} {x : S28} {v : Value} (h : Cl w ok x v) : ClL w ok [x] [v] := by
  unfold ClL
  exact ⟨v, [], rfl, h, ClL_nil⟩
theorem ClL_snoc {w : World} {ok : Nat → Prop} {l : List S28} {vs : List Value} {x : S28} {v : Value} (h : ClL w ok l vs) (hx : Cl w ok x v) : ClL w ok (l ++ [x]) (vs ++ [v]) := ClL_app l vs [x] [v] h (ClL_one hx)
theorem Row_C {w : World} {ok : Nat → Prop} {A : Option Addr} {n c : Nat} {vs : List Value} (h : Row w ok (.slice A n c) vs) : n = vs.length ∧ n ≤ c ∧ Kd.C (Kd.raw 1) w A vs.length (vs.map (fun v => [v])) := by
  obtain ⟨h1, h2, h3⟩ := Kd.V_reads' h
  rw [List.length_map] at h1 h3
  exact ⟨h1, h2, h3⟩
theorem Row_at {w : World} {ok : Nat → Prop} {A : Option Addr} {n c : Nat} {vs : List Value} (h : Row w ok (.slice A n c) vs) {i : Nat} (hi : i < vs.length) : ∃ ad, A = some ad ∧ w.cell? (ad.add i) = some vs[i] := by
  obtain ⟨_, _, hC⟩ := Row_C h
  obtain ⟨ad, cs, he, _, hK, hcc⟩ := Kd.C_get hC [] (i : Int) (by omega) (by omega)
  refine ⟨ad, he, ?_⟩
  have h1 : cs = [vs[i]] := by
    have e2 : (vs.map (fun v => [v])).getD (i : Int).toNat [] = [vs[i]] := by rw [Int.toNat_natCast, List.getD_eq_getElem?_getD, List.getElem?_map, List.getElem?_eq_getElem hi]; rfl
    rw [e2] at hK
    exact hK.1
  have := hcc 0 vs[i] (by rw [h1]; rfl)
  rw [Int.toNat_natCast] at this
  exact (congrArg (fun j => w.cell? (ad.add j)) (show i = i * (Kd.raw 1).sz + 0 from by show i = i * 1 + 0; omega)).trans this
theorem opnL_snoc (x : S28) : ∀ l : List S28, opnL (l ++ [x]) = (opnL l || opn x)
  | [] => by show opnL [x] = _; rw [opnL, opnL, opnL]; cases opn x <;> rfl
  | y :: ys => by show opnL (y :: (ys ++ [x])) = _; rw [opnL, opnL, opnL_snoc x ys]; cases opn y <;> rfl
theorem tcntL_snoc (x : S28) : ∀ l : List S28, tcntL (l ++ [x]) = tcntL l + tcnt x
  | [] => by show tcntL [x] = _; rw [tcntL, tcntL, tcntL]; omega
  | y :: ys => by show tcntL (y :: (ys ++ [x])) = _; rw [tcntL, tcntL, tcntL_snoc x ys]; omega
theorem take28 {l : List S28} {i : Nat} (h : i < l.length) : l.take (i + 1) = l.take i ++ [l[i]] := by rw [List.take_add_one, List.getElem?_eq_getElem h]; rfl
theorem csz_step {l : List S28} {i : Nat} (h : i < l.length) : min (min (1 + tcntL (l.take i)) 1099511627776 + csz l[i]) 1099511627776 = min (1 + tcntL (l.take (i + 1))) 1099511627776 := by
  rw [take28 h, tcntL_snoc]
  have h1 := tcntL_ge (l.take i)
  have h2 := tcnt_ge l[i]
  unfold csz
  omega
theorem opn_step {k : Int} {l : List S28} {i : Nat} (h : i < l.length) : ((decide (k = 0) || opnL (l.take i)) || opn l[i]) = (decide (k = 0) || opnL (l.take (i + 1))) := by
  rw [take28 h, opnL_snoc, Bool.or_assoc]
theorem csz_bd (x : S28) : 1 ≤ csz x ∧ csz x ≤ 1099511627776 := by have := tcnt_ge x; unfold csz; omega
theorem Row_of {w : World} {ok : Nat → Prop} {base : Nat} {v : Value} {vs : List Value} (h : (Kd.raw 1).R 65 w base ok v (vs.map (fun v => [v]))) : Row w ok v vs := Kd.R_V h
theorem Cl_new {w w' : World} {ok : Nat → Prop} {k n : Int} {l : List S28} {a : Value} {vs : List Value} {g : Nat} (hr : Row w ok a vs) (hl : ClL w ok l vs) (hb : Below w.heap.size w w') (hg : w.heap.size ≤ g) (hc : w'.heap[g]? = some (.cells #[.int .i64 k, .int .i64 n, a, .int .i64 (csz ⟨k, n, l⟩), .bool (opn ⟨k, n, l⟩)] 74 (0, 0))) :
    Cl w' (fun q => ok q ∨ w.heap.size ≤ q) ⟨k, n, l⟩ (.pointer (some ⟨g, 0, none⟩)) := by
  unfold Cl
  exact ⟨g, a, vs, rfl, .inr hg, hc, Kd.V_mono (Kd.V_below hr hb) (fun q h => .inl h), ClL_imp (fun k _ hk => hb.block k hk) (fun _ h _ => .inl h) l vs hl⟩
set_option maxHeartbeats 8000000 in
theorem new_calls (k n : Int) (l : List S28) (a : Value) (vs : List Value) (w : World) (ok : Nat → Prop) (hrow : Row w ok a vs) (hl : ClL w ok l vs) :
    Calls Try.prog 66 #[.int .i64 k, .int .i64 n, a] w fun e w' => ∃ g, e = .returned (.pointer (some ⟨g, 0, none⟩)) ∧ w.heap.size ≤ g ∧ w'.heap[g]? = some (.cells #[.int .i64 k, .int .i64 n, a, .int .i64 (csz ⟨k, n, l⟩), .bool (opn ⟨k, n, l⟩)] 74 (0, 0)) ∧ Below w.heap.size w w' := by
  have hu74 := Try.underlying74
  have hlv := ClL_len l vs hl
  obtain ⟨A, c, rfl⟩ := Row_slice hrow
  have hlen : l.length ≤ 9223372036854775807 := by have := (Row_C hrow).2.2.2.1; omega
  have HRow := Az.mk hrow
  have HL := Az.mk hl
  rw [← hlv] at HRow ⊢
  have HLV := Az.mk hlv
  clear hl hlv hrow
  go_enter Try.func66, Try.ntmps66
  go_wp2_with (
    (with_reducible refine gate_dst (N := 16) rfl ?_)
    refine box_event ?hg (N := 16) ?hd (cs := #[.int .i64 k, .int .i64 n, .slice A l.length c, .int .i64 1, .bool (decide (k = 0))]) (t := 74) ?hr ?_
    (case hd => rfl)
    (case hg => rfl)
    (case hr => first | (go_simp; done) | (go_simp; rfl))
    intro g7 hg7 w1 hbox hb1
    have S7 := Az.mk (show w1.heap[g7]? = some (.cells #[.int .i64 k, .int .i64 n, .slice A l.length c, .int .i64 (min (1 + tcntL (l.take 0)) 1099511627776), .bool (decide (k = 0) || opnL (l.take 0))] 74 (0, 0)) from by
      rw [List.take_zero, opnL, Bool.or_false, tcntL]
      exact hbox)
    have HG := Az.mk (show w.heap.size ≤ g7 from by omega)
    have HB1 := Az.mk hb1
    clear hbox hb1 hg7)
  go_loopg [19] l.length (fun kq v19 wr => ∃ i : Nat, v19 = .int .i64 (i : Int) ∧ Az (i + kq = l.length) ∧ Az (wr.heap[g7]? = some (.cells #[.int .i64 k, .int .i64 n, .slice A l.length c, .int .i64 (min (1 + tcntL (l.take i)) 1099511627776), .bool (decide (k = 0) || opnL (l.take i))] 74 (0, 0))) ∧ Az (Below w.heap.size w wr))
  case atStart => exact ⟨0, rfl, ⟨by omega⟩, S7, HB1⟩
  case round =>
    clear S7 HB1
    obtain ⟨i, rfl, Hi, S7, HB⟩ := hrel
    by_cases hlt : i < l.length
    rotate_left
    · have hie : i = l.length := by have := Hi.out; omega
      subst hie
      have hs := S7.out
      rw [List.take_length] at hs
      have Hs := Az.mk hs
      clear hs
      go_wp2_with fail
      go_ret
      refine ⟨g7, rfl, HG.out, ?_, HB.out⟩
      have := Hs.out
      unfold opn csz
      rw [tcnt]
      exact this
    have hlv : i < vs.length := by have := HLV.out; omega
    obtain ⟨ad, he, hx⟩ := Row_at (Row_below HB.out HRow.out) hlv
    cases he
    have hcl := ClL_at l vs HL.out i hlt hlv
    have HSZ := Az.mk (csz_step hlt)
    have HOP := Az.mk (opn_step (k := k) hlt)
    have hbd := csz_bd l[i]
    have hge := tcntL_ge (l.take i)
    cases hxe : l[i] with
    | mk k1 n1 l1 =>
    rw [hxe] at hcl HSZ HOP hbd
    unfold Cl at hcl
    obtain ⟨g1, a1, vs1, hv, _, hg1w, _, _⟩ := hcl
    rw [hv] at hx
    have hg17 : g1 ≠ g7 := by have := blk_lt hg1w; have := HG.out; omega
    have hg1 := bkB hg1w HB.out
    generalize csz ⟨k1, n1, l1⟩ = cz at *
    generalize opn ⟨k1, n1, l1⟩ = co at *
    generalize hS : min (1 + tcntL (l.take i)) 1099511627776 = sz at *
    generalize hO : (decide (k = 0) || opnL (l.take i)) = op at *
    have z3 : wr.cell? ⟨g7, 3, none⟩ = some (.int .i64 sz) := (blk_cell S7.out 3).trans rfl
    have z4 : wr.cell? ⟨g7, 4, none⟩ = some (.bool op) := (blk_cell S7.out 4).trans rfl
    have y3 : wr.cell? ⟨g1, 3, none⟩ = some (.int .i64 cz) := (blk_cell hg1 3).trans rfl
    have y4 : wr.cell? ⟨g1, 4, none⟩ = some (.bool co) := (blk_cell hg1 4).trans rfl
    have f3 := bkF S7.out 3
    have f4 := bkF S7.out 4
    have q1 : (0 ≤ (i : Int)) = True := eq_true (by omega)
    have q2 : ((i : Int) < (l.length : Int)) = True := eq_true (by omega)
    have q3 : (i < l.length) = True := eq_true (by omega)
    go_upto_region 5 with fail
    have Y := Az.mk hg1
    have HN := Az.mk hg17
    have hw : wrap64 (sz + cz) = sz + cz := by unfold wrap64; omega
    clear hg1 hg1w hg17 hS hO hge
    try simp only [Act.put, List.setIfInBounds_toArray, List.set_cons_succ, List.set_cons_zero]
    go_cut [33] from 23 to 35 (fun v33 wc => Az (wc.heap[g7]? = some (.cells #[.int .i64 k, .int .i64 n, .slice (some ad) l.length c, .int .i64 (min (sz + cz) 1099511627776), .bool op] 74 (0, 0))) ∧ Az (Below w.heap.size w wc) ∧ Az (wc.cell? ⟨g1, 4, none⟩ = some (.bool co)))
    case first =>
      go_region
      go_wp2_with fail
      all_goals (
        go_meet
        refine ⟨⟨?_⟩, ⟨below_drew (bset HB.out HG.out)⟩, ⟨(blk_cell (blk_drew (blk_far (p := ⟨g7, 3, none⟩) Y.out (fun he => HN.out he) _)) 4).trans rfl⟩⟩
        first
        | (rw [show min (sz + cz) 1099511627776 = 1099511627776 from by omega]; exact blk_drew (blk_put S7.out 3 _ rfl))
        | (rw [show min (sz + cz) 1099511627776 = sz + cz from by omega]; exact blk_drew (blk_put S7.out 3 _ rfl)))
    case rest =>
      obtain ⟨S8, HB8, Y8⟩ := hcut
      have y4 := Y8.out
      have z4 : wc.cell? ⟨g7, 4, none⟩ = some (.bool op) := (blk_cell S8.out 4).trans rfl
      have f4 := bkF S8.out 4
      have HB9 := Az.mk (fun b : Bool => bset (j := 4) (v := .bool b) HB8.out HG.out)
      have S9 := Az.mk (fun (b : Bool) (hb : b = (op || co)) => (show (wc.setCell ⟨g7, 4, none⟩ (.bool b)).heap[g7]? = some (.cells #[.int .i64 k, .int .i64 n, .slice (some ad) l.length c, .int .i64 (min (1 + tcntL (l.take (i + 1))) 1099511627776), .bool (decide (k = 0) || opnL (l.take (i + 1)))] 74 (0, 0)) from by
        rw [← HSZ.out, ← HOP.out, ← hb]
        exact blk_put S8.out 4 (.bool b) rfl))
      clear z3 y3 f3 S8 HB8 Y8
      have hk := Hi.out
      obtain ⟨k1, rfl⟩ : ∃ k1, gk = k1 + 1 := ⟨gk - 1, by omega⟩
      cases op with
      | true =>
        go_wp2_with fail
        go_roundg k1
        case measure => omega
        case rel => exact ⟨i + 1, by go_num, ⟨by omega⟩, ⟨S9.out true rfl⟩, ⟨HB9.out true⟩⟩
      | false =>
        go_wp2_with fail
        go_roundg k1
        case measure => omega
        case rel => exact ⟨i + 1, by go_num, ⟨by omega⟩, ⟨S9.out co rfl⟩, ⟨HB9.out co⟩⟩
end Go.Proofs.Ytnfgpepggehegaa.I
namespace Go.Proofs.Ytnfgpepggehegaa.I
open Go.RowKit Go.Proofs.YtnfgpepggehegaaW.PrintWords Go.Proofs.YtnfgpepggehegaaW.PrintLast Go.Proofs.YtnfgpepggehegaaW.PrintMore
attribute [local go_sem] max2_int min2_int max_two min_two max_three min_three max_four min_four
set_option linter.unusedVariables false
set_option maxRecDepth 100000
set_option linter.unusedSimpArgs false
theorem take28_rd {l : List S28} {i : Nat} (h : i < l.length) : l.take (i + 1) = l.take i ++ [rd_T28 l (i : Int)] := by
  have e2 : rd_T28 l (i : Int) = l[i] := by unfold rd_T28; rw [Int.toNat_natCast, List.getD_eq_getElem?_getD, List.getElem?_eq_getElem h]; rfl
  rw [take28 h, e2]
set_option maxHeartbeats 8000000 in
theorem cof_calls (N : Nat) : ∀ (k n : Int) (l : List S28) (A : Option Addr) (c : Nat) (w : World), SizeOf.sizeOf l < N → tcntL l ≤ 1000000 → Kd.C k28 w A l.length l → l.length ≤ c →
    Calls Try.prog 39 #[.agg #[.int .i64 k, .int .i64 n, .slice A l.length c]] w fun e w' => ∃ g, e = .returned (.pointer (some ⟨g, 0, none⟩)) ∧ Cl w' (fun q => w.heap.size ≤ q) ⟨k, n, l⟩ (.pointer (some ⟨g, 0, none⟩)) ∧ Below w.heap.size w w' := by
  have hu28 := Try.underlying28
  induction N with
  | zero => intro k n l A c w hN; omega
  | succ N ih =>
  intro k n l A c w hN ht hr hc
  have hlen : l.length ≤ 9223372036854775807 := hr.2.1
  have HR := Az.mk hr
  have HC := Az.mk hc
  have HN := Az.mk hN
  have HT := Az.mk ht
  have HL := Az.mk (show l.length ≤ 1000000 from by have := tcntL_ge l; omega)
  have IH := Az.mk ih
  clear hr hc hN ht ih
  go_enter Try.func39, Try.ntmps39
  go_wp2_with (
    (with_reducible refine gate_dst (N := 1) rfl ?_)
    refine box_event ?hg (N := 1) ?hd (cs := #[.int .i64 k, .int .i64 n, .slice A l.length c]) (t := 28) ?hr ?_
    (case hd => rfl)
    (case hg => rfl)
    (case hr => first | (go_simp; done) | (go_simp; rfl))
    intro g1 hg1 w1 hbox hb1
    have S1 := Az.mk hbox
    have HB1 := Az.mk hb1
    have e2 : w1.cell? ⟨g1, 2, none⟩ = some (.slice A l.length c) := (blk_cell hbox 2).trans rfl
    clear hbox hb1 hg1)
  clear e2
  go_loopg [3, 9] l.length (fun kq v3 v9 wr => ∃ (i : Nat) (Ax : Option Addr) (cx : Nat) (vs : List Value), v3 = .slice Ax i cx ∧ v9 = .int .i64 (i : Int) ∧ Az (i + kq = l.length) ∧ Az (vs.length = i) ∧ Az ((Kd.raw 1).R 65 wr w1.heap.size (fun q => w.heap.size ≤ q) (.slice Ax i cx) (vs.map (fun v => [v]))) ∧ Az (ClL wr (fun q => w.heap.size ≤ q ∧ some q ≠ (Value.slice Ax i cx).ownBlock) (l.take i) vs) ∧ Az (Below w1.heap.size w1 wr))
  case atStart => exact ⟨0, none, 0, [], rfl, rfl, ⟨by omega⟩, ⟨rfl⟩, ⟨Kd.R_nil _ _ _ _ _⟩, ⟨ClL_nil⟩, ⟨Below.refl _ _⟩⟩
  case round =>
    obtain ⟨i, Ax, cx, vs, rfl, rfl, Hi, HV, HRx, HF, HB0⟩ := hrel
    have HB := Az.mk (bst HB1.out HB0.out)
    by_cases hlt : i < l.length
    rotate_left
    · have hie : i = l.length := by have := Hi.out; omega
      subst hie
      have S2 := Az.mk (bkB S1.out HB0.out)
      have e0 : wr.cell? ⟨g1, 0, none⟩ = some (.int .i64 k) := (blk_cell S2.out 0).trans rfl
      have e1 : wr.cell? ⟨g1, 1, none⟩ = some (.int .i64 n) := (blk_cell S2.out 1).trans rfl
      have hF := HF.out
      rw [List.take_length] at hF
      have HRow := Az.mk (Row_of HRx.out)
      have HCl := Az.mk (ClL_mono (ok1 := fun q => w.heap.size ≤ q) (fun q hq _ => hq.1) hF)
      clear hF hlt HF
      go_wp2_with fail
      (with_reducible refine (new_calls k n l (.slice Ax l.length cx) vs wr _ HRow.out HCl.out).mono ?_)
      rintro e w5 ⟨g, rfl, hg, hcell, hb5⟩
      have HB5 := Az.mk (bst HB.out hb5)
      have HX := Az.mk (Cl_new HRow.out HCl.out hb5 hg hcell)
      have HSZ := Az.mk HB.out.size
      clear hg hcell hb5 e0 e1
      go_wp2_with fail
      go_ret
      exact ⟨_, rfl, Cl_mono (fun q hq _ => by rcases hq with hq | hq; exact hq; have := HSZ.out; omega) HX.out, HB5.out⟩
    cases gk with
    | zero => exact absurd Hi.out (by omega)
    | succ k1 =>
    obtain ⟨ad, A4, c4, he, hx2, hx3, hx4, hl4, hC4⟩ := at_T28 (Kd.C_below HR.out HB.out) (i : Int) (by omega) (by omega)
    cases he
    rw [Int.toNat_natCast] at hx2 hx3 hx4
    have HC4 := Az.mk hC4
    have Hl4 := Az.mk hl4
    have HSN := Az.mk (take28_rd hlt)
    have HSZ := Az.mk (show SizeOf.sizeOf (rd_T28 l (i : Int)).f2 < N from by have := rd_T28_mem l i hlt; have := HN.out; omega)
    have HTC := Az.mk (show tcntL (rd_T28 l (i : Int)).f2 ≤ 1000000 from by have := tcnt_child l i hlt; have := HT.out; omega)
    have Hlt := Az.mk hlt
    have q1 : (0 ≤ (i : Int)) = True := eq_true (by omega)
    have q2 : ((i : Int) < (l.length : Int)) = True := eq_true (by omega)
    have q3 : (i < l.length) = True := eq_true (by omega)
    clear hl4 hC4
    generalize rd_T28 l (i : Int) = x at *
    have HXX := Az.mk (show (⟨x.f0, x.f1, x.f2⟩ : S28) = x from by cases x; rfl)
    go_wp2_with (
      (with_reducible refine gate_dst (N := 5) rfl ?_)
      refine box_event ?hg (N := 5) ?hd (cs := #[.int .i64 0, .int .i64 0, .slice none 0 0]) (t := 28) ?hr ?_
      (case hd => rfl)
      (case hg => rfl)
      (case hr => first | (go_simp; done) | (go_simp; rfl))
      intro gi hgi w6 hbox hbb
      have hgw : wr.heap.size ≤ gi := by omega
      have Hbw := Az.mk (bset (g := gi) (j := 2) (v := .slice A4 x.f2.length c4) (bset (g := gi) (j := 1) (v := .int .i64 x.f1) (bset (g := gi) (j := 0) (v := .int .i64 x.f0) hbb hgw) hgw) hgw)
      have Sgi := Az.mk (blk_put (cs' := #[.int .i64 x.f0, .int .i64 x.f1, .slice A4 x.f2.length c4]) (blk_put (cs' := #[.int .i64 x.f0, .int .i64 x.f1, .slice none 0 0]) (blk_put (cs' := #[.int .i64 x.f0, .int .i64 0, .slice none 0 0]) hbox 0 (.int .i64 x.f0) rfl) 1 (.int .i64 x.f1) rfl) 2 (.slice A4 x.f2.length c4) rfl)
      have hcz0 := (blk_cell hbox 0).trans rfl
      have hfz0 := bkF hbox 0
      have hcz1 := (blk_cell hbox 1).trans rfl
      have hfz1 := bkF hbox 1
      have hcz2 := (blk_cell hbox 2).trans rfl
      have hfz2 := bkF hbox 2
      have n0 := (blk_cell Sgi.out 0).trans rfl
      have n1 := (blk_cell Sgi.out 1).trans rfl
      have n2 := (blk_cell Sgi.out 2).trans rfl
      clear hbox hbb hgi hgw)
    clear hcz0 hcz1 hcz2 hfz0 hfz1 hfz2 hx2 hx3 hx4 n0 n1 n2
    generalize (((w6.setCell ⟨gi, 0, none⟩ (.int .i64 x.f0)).setCell ⟨gi, 1, none⟩ (.int .i64 x.f1)).setCell ⟨gi, 2, none⟩ (.slice A4 x.f2.length c4)) = wq at *
    (with_reducible refine (IH.out x.f0 x.f1 x.f2 A4 c4 wq HSZ.out HTC.out (Kd.C_below HC4.out Hbw.out) Hl4.out).mono ?_)
    rintro e w8 ⟨gv, rfl, hfv, hb8⟩
    rw [HXX.out] at hfv
    have hbq := bst Hbw.out hb8
    have hrx8 := Kd.R_below HRx.out hbq
    have hown := Kd.R_lt HRx.out
    have HX8 := Az.mk (Cl_mono (ok1 := fun q => w.heap.size ≤ q ∧ some q ≠ (Value.slice Ax i cx).ownBlock) (fun q hq _ => ⟨by have := HB.out.size; have := Hbw.out.size; omega, fun he => by have := hown q he.symm; have := Hbw.out.size; omega⟩) hfv)
    have HF8 := Az.mk (ClL_below hbq HF.out)
    have HR8 := Az.mk hrx8
    have HB8 := Az.mk (bst HB.out hbq)
    have HB08 := Az.mk (bst HB0.out hbq)
    clear hfv hbq hrx8 hown HB0 HB HRx HF Hbw Sgi
    go_wp2_with (at_builtin; refine holdX ?_)
    unfold HoldX
    refine Kd.R_append (Kd.raw 1) (w0 := w1) w1.heap.size rfl (.tmp 13) (.tmp 16) 67 65 (.pointer none) 8 rfl Try.underlying67 (by kernel_rfl) rfl (by decide) (by omega) (.slice Ax i cx) (vs.map (fun v => [v])) [.pointer (some ⟨gv, 0, none⟩)] [.pointer (some ⟨gv, 0, none⟩)] (fun q => w.heap.size ≤ q) (fun _ => False) rfl rfl ⟨rfl, rfl, fun u hu => by rw [List.mem_singleton.1 hu]; rfl⟩ (fun _ hk => hk.elim) (fun q hq => by have := HB8.out.size; omega) HR8.out HB08.out HB08.out.size (by rw [List.length_map, HV.out]; have := Hlt.out; have := HL.out; omega) ?_
    intro v2 w7 hrf hb7 hg7 hat
    have hsn : (vs.map (fun v => [v])) ++ [[Value.pointer (some ⟨gv, 0, none⟩)]] = (vs ++ [Value.pointer (some ⟨gv, 0, none⟩)]).map (fun v => [v]) := by rw [List.map_append]; rfl
    rw [hsn] at hrf
    obtain ⟨A5, c5, e5⟩ := Kd.R_slice hrf
    rw [List.length_map, List.length_append, HV.out] at e5
    replace e5 : v2 = .slice A5 (i + 1) c5 := e5
    subst e5
    have hf7 := ClL_after (ClL_snoc HF8.out HX8.out) hg7 hat
    rw [← HSN.out] at hf7
    have HF7 := Az.mk hf7
    have HR7 := Az.mk hrf
    have HB07 := Az.mk hb7
    clear hrf hb7 hg7 hat hsn hf7 HF8 HX8 HR8 HB8 HB08
    go_wp2_with fail
    go_roundg k1
    case measure => omega
    case rel => exact ⟨i + 1, A5, c5, _, rfl, by go_num, ⟨by have := Hi.out; omega⟩, ⟨by rw [List.length_append, HV.out]; rfl⟩, HR7, HF7, HB07⟩
end Go.Proofs.Ytnfgpepggehegaa.I
namespace Go.Proofs.Ytnfgpepggehegaa.I
open Go.RowKit Go.Proofs.YtnfgpepggehegaaW.PrintWords Go.Proofs.YtnfgpepggehegaaW.PrintLast Go.Proofs.YtnfgpepggehegaaW.PrintMore
attribute [local go_sem] max2_int min2_int max_two min_two max_three min_three max_four min_four
set_option linter.unusedVariables false
set_option maxRecDepth 100000
set_option linter.unusedSimpArgs false
set_option maxHeartbeats 8000000 in
theorem cterm_calls (N : Nat) : ∀ (a b : Int) (l : List S28) (v : Value) (w : World) (ok : Nat → Prop), SizeOf.sizeOf l < N → tcntL l ≤ 1000000 → Cl w ok ⟨a, b, l⟩ v →
    Calls Try.prog 40 #[v] w fun e w' => ∃ u, e = .returned (.agg #[.int .i64 a, .int .i64 b, u]) ∧ Kd.R k28 28 w' w.heap.size (fun _ => True) u l ∧ Below w.heap.size w w' := by
  have hu28 := Try.underlying28
  have hu74 := Try.underlying74
  induction N with
  | zero => intro a b l v w ok hN; omega
  | succ N ih =>
  intro a b l v w ok hN ht hv
  unfold Cl at hv
  obtain ⟨gc, av, vs, rfl, _, hgc, hrow, hl⟩ := hv
  have hlv := ClL_len l vs hl
  obtain ⟨A, c, rfl⟩ := Row_slice hrow
  have hlen : l.length ≤ 9223372036854775807 := by have := (Row_C hrow).2.2.2.1; omega
  have HRow := Az.mk hrow
  rw [← hlv] at HRow hgc
  have HL := Az.mk hl
  have HLV := Az.mk hlv
  have HG := Az.mk hgc
  have HN := Az.mk hN
  have HT := Az.mk ht
  have HLen := Az.mk (show l.length ≤ 1000000 from by have := tcntL_ge l; omega)
  have IH := Az.mk ih
  clear hN ht ih hgc hl hlv hrow
  go_enter Try.func40, Try.ntmps40
  go_upto_region 1 with (
    (with_reducible refine gate_dst (N := 2) rfl ?_)
    refine box_event ?hg (N := 2) ?hd (cs := #[.int .i64 0, .int .i64 0, .slice none 0 0]) (t := 28) ?hr ?_
    (case hd => rfl)
    (case hg => rfl)
    (case hr => first | (go_simp; done) | (go_simp; rfl))
    intro g2 hg2 w2 hbox hb2
    have S2 := Az.mk hbox
    have HB2 := Az.mk hb2
    have HG2 := Az.mk (show w.heap.size ≤ g2 from by omega)
    have GC2 := Az.mk (bkB HG.out hb2)
    clear hbox hb2 hg2)
  have e0 : w2.cell? ⟨gc, 0, none⟩ = some (.int .i64 a) := (blk_cell GC2.out 0).trans rfl
  have e1 : w2.cell? ⟨gc, 1, none⟩ = some (.int .i64 b) := (blk_cell GC2.out 1).trans rfl
  have e0' := cel1 e0
  have e1' := cel1 e1
  try simp only [Act.put, List.setIfInBounds_toArray, List.set_cons_succ, List.set_cons_zero]
  go_cut [3] from 6 to 14 (fun v3 wc => v3 = .pointer (some ⟨w2.heap.size, 0, none⟩) ∧ wc = (w2.alloc (.cells #[.int .i64 a, .int .i64 b, .slice none 0 0] 28)).drew)
  case first =>
    go_region
    all_goals (go_wp2_with fail; go_meet; exact ⟨rfl, rfl⟩)
  case rest =>
  obtain ⟨rfl, rfl⟩ := hcut
  clear e0 e1 e0' e1'
  have hb4 : Below w2.heap.size w2 (w2.alloc (.cells #[.int .i64 a, .int .i64 b, .slice none 0 0] 28)).drew := below_drew (bal (Below.refl _ _) _)
  have S3 := Az.mk (show (w2.alloc (.cells #[.int .i64 a, .int .i64 b, .slice none 0 0] 28)).drew.heap[w2.heap.size]? = some (.cells #[.int .i64 a, .int .i64 b, .slice none 0 0] 28 (0, 0)) from blk_drew (blk_new _ _))
  have HB4 := Az.mk (bst HB2.out hb4)
  have S24 := Az.mk (bkB S2.out hb4)
  have GC4 := Az.mk (bkB GC2.out hb4)
  have HG3 := Az.mk (show w.heap.size ≤ w2.heap.size from HB2.out.size)
  have H23 := Az.mk (show g2 ≠ w2.heap.size from by have := blk_lt S2.out; omega)
  clear hb4 S2 GC2 HB2
  generalize (w2.alloc (.cells #[.int .i64 a, .int .i64 b, .slice none 0 0] 28)).drew = w4 at *
  generalize w2.heap.size = g3 at *
  have e2 : w4.cell? ⟨gc, 2, none⟩ = some (.slice A l.length c) := (blk_cell GC4.out 2).trans rfl
  go_wp2_with fail
  clear e2
  go_loopg [20] l.length (fun kq v20 wr => ∃ (i : Nat) (Ax : Option Addr) (cx : Nat), v20 = .int .i64 (i : Int) ∧ Az (i + kq = l.length) ∧ Az (Kd.R k28 28 wr w.heap.size (fun k => k ≠ g2 ∧ k ≠ g3) (.slice Ax i cx) (l.take i)) ∧ Az (wr.heap[g3]? = some (.cells #[.int .i64 a, .int .i64 b, .slice Ax i cx] 28 (0, 0))) ∧ Az (wr.heap[g2]? = some (.cells #[.int .i64 0, .int .i64 0, .slice none 0 0] 28 (0, 0))) ∧ Az (Below w.heap.size w wr))
  case atStart => exact ⟨0, none, 0, rfl, ⟨by omega⟩, ⟨Kd.R_nil _ _ _ _ _⟩, S3, S24, HB4⟩
  case round =>
    clear S3 S24 HB4
    obtain ⟨i, Ax, cx, rfl, Hi, HRx, S3, S2, HB⟩ := hrel
    by_cases hlt : i < l.length
    rotate_left
    · have hie : i = l.length := by have := Hi.out; omega
      subst hie
      have HRx' := HRx.out
      rw [List.take_length] at HRx'
      have HF := Az.mk HRx'
      have d0 : wr.cell? ⟨g3, 0, none⟩ = some (.int .i64 a) := (blk_cell S3.out 0).trans rfl
      have d1 : wr.cell? ⟨g3, 1, none⟩ = some (.int .i64 b) := (blk_cell S3.out 1).trans rfl
      have d2 : wr.cell? ⟨g3, 2, none⟩ = some (.slice Ax l.length cx) := (blk_cell S3.out 2).trans rfl
      have z0 : wr.cell? ⟨g2, 0, none⟩ = some (.int .i64 0) := (blk_cell S2.out 0).trans rfl
      have z1 : wr.cell? ⟨g2, 1, none⟩ = some (.int .i64 0) := (blk_cell S2.out 1).trans rfl
      have z2 : wr.cell? ⟨g2, 2, none⟩ = some (.slice none 0 0) := (blk_cell S2.out 2).trans rfl
      have f0 := bkF S2.out 0
      have f1 := bkF S2.out 1
      have f2 := bkF S2.out 2
      clear HRx' HRx Hi hlt
      go_wp2_with fail
      have Sz := blk_put (cs' := #[.int .i64 a, .int .i64 b, .slice Ax l.length cx]) (blk_put (cs' := #[.int .i64 a, .int .i64 b, .slice none 0 0]) (blk_put (cs' := #[.int .i64 a, .int .i64 0, .slice none 0 0]) S2.out 0 (.int .i64 a) rfl) 1 (.int .i64 b) rfl) 2 (.slice Ax l.length cx) rfl
      refine bodyPost_ret (results_cell_row rfl _ _ g2 28 #[.int .i64 a, .int .i64 b, .slice Ax l.length cx] (0, 0) _ rfl Sz Try.underlying28 rfl (by kernel_rfl)) rfl ?_
      exact ⟨_, rfl, Kd.R_mono (Kd.R_far (p := ⟨g2, 2, none⟩) (Kd.R_far (p := ⟨g2, 1, none⟩) (Kd.R_far (p := ⟨g2, 0, none⟩) HF.out (fun k hk => hk.1) (.int .i64 a)) (fun k hk => hk.1) (.int .i64 b)) (fun k hk => hk.1) (.slice Ax l.length cx)) (fun _ _ => trivial), bset (bset (bset HB.out HG2.out) HG2.out) HG2.out⟩
    cases gk with
    | zero => exact absurd Hi.out (by omega)
    | succ k1 =>
    have hlv : i < vs.length := by have := HLV.out; omega
    obtain ⟨ad, he, hx⟩ := Row_at (Row_below HB.out HRow.out) hlv
    cases he
    have hcl := ClL_at l vs HL.out i hlt hlv
    have hrd : rd_T28 l (i : Int) = l[i] := by unfold rd_T28; rw [Int.toNat_natCast, List.getD_eq_getElem?_getD, List.getElem?_eq_getElem hlt]; rfl
    have hsz := rd_T28_mem l i hlt
    have htc := tcnt_child l i hlt
    have hsn := take28 hlt
    rw [hrd] at hsz htc
    cases hxe : l[i] with
    | mk a1 b1 l1 =>
    rw [hxe] at hcl hsz htc hsn
    have HSN := Az.mk hsn.symm
    have HSZ := Az.mk (show SizeOf.sizeOf l1 < N from by have : SizeOf.sizeOf l1 < SizeOf.sizeOf l := hsz; have := HN.out; omega)
    have HTC := Az.mk (show tcntL l1 ≤ 1000000 from by have : tcntL l1 < tcntL l := htc; have := HT.out; omega)
    have HCL := Az.mk hcl
    have hcl2 := hcl
    unfold Cl at hcl2
    obtain ⟨g1, _, _, hvi, _, _, _, _⟩ := hcl2
    rw [hvi] at hx HCL
    have Hlt := Az.mk hlt
    have q1 : (0 ≤ (i : Int)) = True := eq_true (by omega)
    have q2 : ((i : Int) < (l.length : Int)) = True := eq_true (by omega)
    have q3 : (i < l.length) = True := eq_true (by omega)
    have m1 : wr.cell? ⟨g3, 2, none⟩ = some (.slice Ax i cx) := (blk_cell S3.out 2).trans rfl
    clear hcl hrd hsz htc hsn hvi hlv hxe
    go_upto_region 5 with fail
    clear hx
    go_region_law
      (first
        | (refine Kd.R_append_step k28 (w0 := w) w.heap.size rfl (.tmp 25) (.tmp 28) 26 28 (.agg #[.int .i64 0, .int .i64 0, .slice none 0 0]) 40 rfl Try.underlying26 (by kernel_rfl) rfl (by decide) (by omega) (.slice Ax i cx) (l.take i) ⟨a1, b1, l1⟩ [.int .i64 a1, .int .i64 b1, .slice A6 l1.length c6] (fun k => k ≠ g2 ∧ k ≠ g3) (fun k => wr.heap.size ≤ k) rfl rfl (k28_mkM _ _ _ ⟨a1, b1, l1⟩ HR4.out) (fun k hk => ⟨⟨by have := blk_lt S2.out; omega, by have := blk_lt S3.out; omega⟩, fun e => by have := Kd.R_lt HRx.out k e.symm; omega⟩) (fun k hk => ⟨by have := blk_lt S2A.out; omega, by have := blk_lt S3A.out; omega⟩) HRA.out HBA.out HBA.out.size (by rw [List.length_take]; have := HLen.out; omega) ?_
           intro v2 w7 hrf hb7 hg7 hat
           rw [HSN.out] at hrf
           obtain ⟨A5, c5, e5⟩ := Kd.R_slice hrf
           rw [List.length_take, Nat.min_eq_left (by have := Hlt.out; omega)] at e5
           subst e5
           have HR7 := Az.mk hrf
           have HB7 := Az.mk hb7
           have S37 := Az.mk (blk_grown S3A.out hg7 (Kd.R_away HRA.out (fun k hk => hk.2)))
           have S27 := Az.mk (blk_grown S2A.out hg7 (Kd.R_away HRA.out (fun k hk => hk.1)))
           have m7 : w7.cell? ⟨g3, 2, none⟩ = some (.slice Ax i cx) := (blk_cell S37.out 2).trans rfl
           have f7 := bkF S37.out 2
           clear hrf hb7 hg7 hat a2 a3)
        | (go_simp
           go_at_call 40
           (with_reducible refine (IH.out a1 b1 l1 _ wr.drew ok HSZ.out HTC.out (Cl_below (below_drew HB.out) HCL.out)).mono ?_)
           rintro e9 wA ⟨v4, rfl, hR4, hbA⟩
           obtain ⟨A6, c6, rfl⟩ := Kd.R_slice hR4
           have HR4 := Az.mk (Kd.R_lower (Kd.R_mono (Kd.R_bound hR4) (fun k hk => (show wr.heap.size ≤ k from hk.2.1))) (show w.heap.size ≤ wr.drew.heap.size from HB.out.size))
           have HRA := Az.mk (Kd.R_below (Kd.R_drew HRx.out) hbA)
           have HBA := Az.mk (bst (below_drew HB.out) hbA)
           have S3A := Az.mk (bkB (blk_drew S3.out) hbA)
           have S2A := Az.mk (bkB (blk_drew S2.out) hbA)
           have a2 : wA.cell? ⟨g3, 2, none⟩ = some (.slice Ax i cx) := (blk_cell S3A.out 2).trans rfl
           have a3 := cel1 a2
           clear hR4 hbA))
    all_goals (
      clear m1 m7 f7
      have HR8 := Az.mk (Kd.R_far (p := ⟨g3, 2, none⟩) HR7.out (fun k hk => hk.2) (.slice A5 (i + 1) c5))
      have S38 := Az.mk (blk_put (cs' := #[.int .i64 a, .int .i64 b, .slice A5 (i + 1) c5]) S37.out 2 (.slice A5 (i + 1) c5) rfl)
      have S28 := Az.mk (blk_far (p := ⟨g3, 2, none⟩) S27.out (fun he => H23.out he) (.slice A5 (i + 1) c5))
      have HB8 := Az.mk (bset (j := 2) (v := .slice A5 (i + 1) c5) HB7.out HG3.out)
      go_wp2_with fail
      go_roundg k1
      case measure => omega
      case rel => exact ⟨i + 1, A5, c5, by go_num, ⟨by have := Hi.out; omega⟩, HR8, S38, S28, HB8⟩)
end Go.Proofs.Ytnfgpepggehegaa.I
