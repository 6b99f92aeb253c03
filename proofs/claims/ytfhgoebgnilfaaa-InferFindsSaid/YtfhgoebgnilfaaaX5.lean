/- Texts of this session's proof, laid together: IX5, IX6, IY1, IY2, IY3. -/
import Derived.Deep.RegionLaw
import Derived.Deep.RegionHeld3
import Derived.Test.YtfhgoebgnilfaaaX4
namespace Go.Proofs.Ytfhgoebgnilfaaa.I
open Go.RowKit Go.Proofs.YtfhgoebgnilfaaaW.PrintWords Go.Proofs.YtfhgoebgnilfaaaW.PrintLast Go.Proofs.YtfhgoebgnilfaaaW.PrintMore
attribute [local go_sem] max2_int min2_int max_two min_two max_three min_three max_four min_four
set_option linter.unusedVariables false
set_option maxRecDepth 100000
set_option linter.unusedSimpArgs false
set_option maxHeartbeats 16000000 in
theorem refis_calls (A0 : Option Addr) (c0 : Nat) (l0 : List S59) (A1 : Option Addr) (c1 : Nat) (l1 : List S46) (w : World) (hr0 : Kd.C k59 w A0 l0.length l0) (hc0 : l0.length ≤ c0) (hr1 : Kd.C k46 w A1 l1.length l1) (hc1 : l1.length ≤ c1) :
    Calls Try.prog 16 #[.agg #[.slice A0 l0.length c0, .slice A1 l1.length c1]] w fun e w' => e = .returned (.bool (schB l0 l1)) ∧ Below w.heap.size w w' := by
  have hu38 := Try.underlying38
  have hu46 := Try.underlying46
  have hu44 := Try.underlying44
  have hu41 := Try.underlying41
  have hlen : l1.length ≤ 9223372036854775807 := hr1.2.1
  obtain ⟨r, hr⟩ : ∃ r, r = schB l0 l1 := ⟨_, rfl⟩
  rw [← hr]
  have HR0 := Aside0.mk hr0
  have HC0 := Aside0.mk hc0
  have HR1 := Aside0.mk hr1
  have HC1 := Aside0.mk hc1
  have HE := Aside0.mk hr
  clear hr0 hc0 hr1 hc1 hr
  go_enter Try.func16, Try.ntmps16
  go_wp2_with (
      (with_reducible refine gate_dst (N := 1) rfl ?_)
      refine box_event ?hg (N := 1) ?hd (cs := #[.slice A0 l0.length c0, .slice A1 l1.length c1]) (t := 38) ?hr ?_
      (case hd => rfl)
      (case hg => rfl)
      (case hr => first | (go_simp; done) | (go_simp; rfl))
      intro g1 hg1 w1 hbox hb1
      have S11 := Aside0.mk hbox
      have HB1 := Aside0.mk hb1
      have a0 : w1.cell? ⟨g1, 0, none⟩ = some (.slice A0 l0.length c0) := (blk_cell hbox 0).trans rfl
      clear hbox hb1 hg1)
  (with_reducible refine (syms_calls (Kd.C_below HR0.out HB1.out) HC0.out).mono ?_)
  rintro e w2 ⟨rfl, hb2⟩
  have HB2 := Aside0.mk (below_step HB1.out hb2)
  have S12 := Aside0.mk (blk_below S11.out hb2)
  have a1 : w2.cell? ⟨g1, 1, none⟩ = some (.slice A1 l1.length c1) := (blk_cell S12.out 1).trans rfl
  clear hb2 a0 S11 HB1
  have HSB := Aside0.mk (show r = ((symsL l0 [] && decide (l0.length ≤ 24)) && ((decide (1 ≤ l1.length) && decide (l1.length ≤ 64)) && (funsL l1 [] && (decide ((rd_T46 l1 0).f1.f0.length = 0) && bodiesL l0 (l1.map (·.f1)) l1)))) from HE.out)
  have HSY := Aside0.mk (show (symsL l0 [] && decide (l0.length ≤ 24)) = true → symsL l0 [] = true from fun h => by simp only [Bool.and_eq_true] at h; exact h.1)
  clear HE
  generalize (symsL l0 [] && decide (l0.length ≤ 24)) = sb at *
  cases sb with
  | false =>
    have hr : r = false := HSB.out
    subst hr
    clear HSB HSY
    go_wp2_with fail
    go_ret
    exact ⟨rfl, HB2.out⟩
  | true =>
  have hsy := HSY.out rfl
  have HSY2 := Aside0.mk hsy
  clear hsy HSY
  by_cases h1 : l1.length < 1
  · have hr : r = false := by have := HSB.out; rw [this, decide_eq_false (by omega : ¬ 1 ≤ l1.length)]; rfl
    have q0 : l1.length = 0 := by omega
    subst hr
    clear HSB
    go_wp2_with fail
    go_ret
    exact ⟨rfl, HB2.out⟩
  have q1 : ((l1.length : Int) < 1) = False := eq_false (by omega)
  have q2 : (l1.length < 1) = False := eq_false h1
  by_cases h2 : 64 < l1.length
  · have hr : r = false := by have := HSB.out; rw [this, decide_eq_false (by omega : ¬ l1.length ≤ 64)]; simp
    have q3 : (64 < l1.length) = True := eq_true h2
    subst hr
    clear HSB
    go_wp2_with fail
    go_ret
    exact ⟨rfl, HB2.out⟩
  have q3 : (64 < l1.length) = False := eq_false h2
  have q3' : ((64 : Int) < (l1.length : Int)) = False := eq_false (by omega)
  have HS2 := Aside0.mk (show r = (funsL l1 [] && (decide ((rd_T46 l1 0).f1.f0.length = 0) && bodiesL l0 (l1.map (·.f1)) l1)) from by rw [HSB.out, decide_eq_true (by omega : 1 ≤ l1.length), decide_eq_true (by omega : l1.length ≤ 64)]; rfl)
  clear HSB
  go_wp2_with fail
  clear q1 q2 q3 q3'
  obtain ⟨q, hq⟩ : ∃ q, q = funsL l1 [] := ⟨_, rfl⟩
  rw [← hq] at HS2
  have HQ := Aside0.mk (show q = funsL (l1.drop 0) (names46 (l1.take 0)) from hq)
  have HQ0 := Aside0.mk hq
  have H1 := Aside0.mk h1
  have H2 := Aside0.mk h2
  clear hq a1 h1 h2
  go_loopg [30] l1.length (fun kq v30 wr => ∃ i : Nat, v30 = .int .i64 (i : Int) ∧ Aside0 (i + kq = l1.length) ∧ Aside0 (q = funsL (l1.drop i) (names46 (l1.take i))) ∧ Aside0 (Below w2.heap.size w2 wr))
  case atStart => exact ⟨0, rfl, ⟨by omega⟩, HQ, ⟨Below.refl _ _⟩⟩
  case round =>
    clear HQ
    obtain ⟨i, rfl, Hi, HQ, HB⟩ := hrel
    have h64' : l1.length ≤ 64 := by have := H2.out; omega
    by_cases hlt : i < l1.length
    rotate_left
    · have hie : i = l1.length := by have := Hi.out; omega
      have hq : q = true := by have := HQ.out; rw [hie, List.drop_length] at this; rw [this, funsL]
      have HS3 := Aside0.mk (show r = (decide ((rd_T46 l1 0).f1.f0.length = 0) && bodiesL l0 (l1.map (·.f1)) l1) from by rw [HS2.out, hq]; rfl)
      have HFL := Aside0.mk (show funsL l1 [] = true from by rw [← HQ0.out]; exact hq)
      clear hq HQ HS2 HQ0 Hi hlt
      subst hie
      have HB3 := Aside0.mk (below_step HB2.out HB.out)
      have S13 := Aside0.mk (blk_below S12.out HB.out)
      have n1 := H1.out
      have e1 : wr.cell? ⟨g1, 1, none⟩ = some (.slice A1 l1.length c1) := (blk_cell S13.out 1).trans rfl
      obtain ⟨ad, A3, c3, A4, c4, rfl, hx0, hx1, hx2, hx3, hx4, hl3, hC3, hl4, hC4⟩ := at_T46 (Kd.C_below HR1.out HB3.out) 0 (by omega) (by omega)
      clear hx0 hx2 hx3 hx4 hl3 hC3 hl4 hC4
      replace hx1 : wr.cell? ⟨ad.block, ad.off + 1, none⟩ = _ := hx1
      have q1 : (0 < l1.length) = True := eq_true (by omega)
      have q2 : ((0 : Int) < (l1.length : Int)) = True := eq_true (by omega)
      generalize hm : (rd_T46 l1 0).f1.f0.length = m at *
      clear hm n1
      by_cases hm : m = 0
      rotate_left
      · have hr : r = false := by rw [HS3.out, decide_eq_false hm]; rfl
        subst hr
        have q3 : (0 < m) = True := eq_true (by omega)
        clear hm
        go_wp2_with fail
        go_ret
        exact ⟨rfl, HB3.out⟩
      subst hm
      go_wp2_with fail
      clear e1 hx1 q1 q2
      have HBL := Aside0.mk (show r = bodiesL l0 (l1.map (·.f1)) (l1.drop 0) from HS3.out)
      clear HS3
      go_loopg [84] l1.length (fun kq v84 wr => ∃ i : Nat, v84 = .int .i64 (i : Int) ∧ Aside0 (i + kq = l1.length) ∧ Aside0 (r = bodiesL l0 (l1.map (·.f1)) (l1.drop i)) ∧ Aside0 (Below w2.heap.size w2 wr))
      case atStart => exact ⟨0, rfl, ⟨by omega⟩, HBL, HB⟩
      case round =>
        clear HBL HB HB3 S13
        obtain ⟨i, rfl, Hi, HBL, HB⟩ := hrel
        by_cases hlt : i < l1.length
        rotate_left
        · have hie : i = l1.length := by have := Hi.out; omega
          have hr : r = true := by have := HBL.out; rw [hie, List.drop_length] at this; rw [this, bodiesL]
          subst hr
          subst hie
          clear hlt HBL
          go_wp2_with fail
          go_ret
          exact ⟨rfl, below_step HB2.out HB.out⟩
        have HB3 := Aside0.mk (below_step HB2.out HB.out)
        obtain ⟨ad', A3, c3, A4, c4, he, hx0, hx1, hx2, hx3, hx4, hl3, hC3, hl4, hC4⟩ := at_T46 (Kd.C_below HR1.out HB3.out) (i : Int) (by omega) (by omega)
        cases he
        rw [Int.toNat_natCast] at hx0 hx1 hx2 hx3 hx4
        have HC4 := Aside0.mk hC4
        have Hl4 := Aside0.mk hl4
        have HLt := Aside0.mk hlt
        have HBL2 := Aside0.mk (HBL.out.trans (bodiesL_drop hlt))
        have hmem : rd_T46 l1 (i : Int) ∈ l1 := by unfold rd_T46; rw [Int.toNat_natCast, List.getD_eq_getElem?_getD, List.getElem?_eq_getElem hlt]; exact List.getElem_mem _
        have HSM := Aside0.mk (small_of HSY2.out HFL.out hmem)
        have HPL := Aside0.mk (fun (w : World) (h : Kd.C k46 w (some ad) l1.length l1) => place_calls A0 c0 l0 (some ad) c1 l1 i hlt w h HC1.out h64')
        have q1 : (0 ≤ (i : Int)) = True := eq_true (by omega)
        have q2 : ((i : Int) < (l1.length : Int)) = True := eq_true (by omega)
        have q3 : (i < l1.length) = True := eq_true (by omega)
        clear hC3 hl4 hC4 hl3 HBL hmem
        generalize rd_T46 l1 (i : Int) = x at *
        go_upto_region 20 with (
           (with_reducible refine gate_dst (N := 8) rfl ?_)
           refine box_event ?hg (N := 8) ?hd (cs := #[.string (⟨#[]⟩ : ByteArray), .slice none 0 0, .int .i64 0, .int .i64 0, .slice none 0 0]) (t := 46) ?hr ?_
           (case hd => rfl)
           (case hg => rfl)
           (case hr => first | (go_simp; done) | (go_simp; rfl))
           intro gi hgi w6 hbox hb6
           have hgw : wr.heap.size ≤ gi := by omega
           have Hbw := Aside0.mk (below_set (g := gi) (j := 4) (v := .slice A4 x.f2.f2.length c4) (below_set (g := gi) (j := 3) (v := .int .i64 x.f2.f1) (below_set (g := gi) (j := 2) (v := .int .i64 x.f2.f0) (below_set (g := gi) (j := 1) (v := .slice A3 x.f1.f0.length c3) (below_set (g := gi) (j := 0) (v := .string x.f0) hb6 hgw) hgw) hgw) hgw) hgw)
           have Hgi := Aside0.mk (blk_put (cs' := #[.string x.f0, .slice A3 x.f1.f0.length c3, .int .i64 x.f2.f0, .int .i64 x.f2.f1, .slice A4 x.f2.f2.length c4]) (blk_put (cs' := #[.string x.f0, .slice A3 x.f1.f0.length c3, .int .i64 x.f2.f0, .int .i64 x.f2.f1, .slice none 0 0]) (blk_put (cs' := #[.string x.f0, .slice A3 x.f1.f0.length c3, .int .i64 x.f2.f0, .int .i64 0, .slice none 0 0]) (blk_put (cs' := #[.string x.f0, .slice A3 x.f1.f0.length c3, .int .i64 0, .int .i64 0, .slice none 0 0]) (blk_put (cs' := #[.string x.f0, .slice none 0 0, .int .i64 0, .int .i64 0, .slice none 0 0]) hbox 0 (.string x.f0) rfl) 1 (.slice A3 x.f1.f0.length c3) rfl) 2 (.int .i64 x.f2.f0) rfl) 3 (.int .i64 x.f2.f1) rfl) 4 (.slice A4 x.f2.f2.length c4) rfl)
           have hcz0 := (blk_cell hbox 0).trans rfl
           have hfz0 := blk_frozen hbox 0
           have hcz1 := (blk_cell hbox 1).trans rfl
           have hfz1 := blk_frozen hbox 1
           have hcz2 := (blk_cell hbox 2).trans rfl
           have hfz2 := blk_frozen hbox 2
           have hcz3 := (blk_cell hbox 3).trans rfl
           have hfz3 := blk_frozen hbox 3
           have hcz4 := (blk_cell hbox 4).trans rfl
           have hfz4 := blk_frozen hbox 4
           clear hbox hb6 hgi hgw)
        clear hcz0 hcz1 hcz2 hcz3 hcz4 hfz0 hfz1 hfz2 hfz3 hfz4 hx0 hx1 hx2 hx3 hx4
        generalize (((((w6.setCell ⟨gi, 0, none⟩ (.string x.f0)).setCell ⟨gi, 1, none⟩ (.slice A3 x.f1.f0.length c3)).setCell ⟨gi, 2, none⟩ (.int .i64 x.f2.f0)).setCell ⟨gi, 3, none⟩ (.int .i64 x.f2.f1)).setCell ⟨gi, 4, none⟩ (.slice A4 x.f2.f2.length c4)) = wq at *
        have HBq := Aside0.mk (below_step HB.out Hbw.out)
        have HBQ := Aside0.mk (below_step HB3.out Hbw.out)
        have S1q := Aside0.mk (blk_below S12.out HBq.out)
        have e0 : wq.cell? ⟨g1, 0, none⟩ = some (.slice A0 l0.length c0) := (blk_cell S1q.out 0).trans rfl
        have e1 : wq.cell? ⟨g1, 1, none⟩ = some (.slice (some ad) l1.length c1) := (blk_cell S1q.out 1).trans rfl
        have m2 : wq.cell? ⟨gi, 2, none⟩ = some (.int .i64 x.f2.f0) := (blk_cell Hgi.out 2).trans rfl
        have m3 : wq.cell? ⟨gi, 3, none⟩ = some (.int .i64 x.f2.f1) := (blk_cell Hgi.out 3).trans rfl
        have m4 : wq.cell? ⟨gi, 4, none⟩ = some (.slice A4 x.f2.f2.length c4) := (blk_cell Hgi.out 4).trans rfl
        have e0' := cel1 e0
        have e1' := cel1 e1
        have m2' := cel1 m2
        have m3' := cel1 m3
        have m4' := cel1 m4
        try simp only [Act.put, List.setIfInBounds_toArray, List.set_cons_succ, List.set_cons_zero]
        go_cut [9, 10] from 90 to 97 (fun v9 v10 wc => ∃ (g9 : Nat) (Ay : Option Addr) (cy : Nat), v9 = .pointer (some ⟨g9, 0, none⟩) ∧ v10 = .bool (ofT l0 (l1.map (·.f1)) x.f1.f0 x.f2).isSome ∧ Aside0 (wc.heap[g9]? = some (.cells #[.slice Ay ((ofT l0 (l1.map (·.f1)) x.f1.f0 x.f2).getD []).length cy] 41 (0, 0))) ∧ Aside0 (Below w2.heap.size w2 wc))
        case first =>
          go_region_law
            (first
              | (go_simp
                 go_at_call 51
                 first
                 | ((with_reducible refine (HPL.out wq.drew (Kd.C_below HR1.out (below_drew HBQ.out))).mono ?_)
                    rintro e9 wA ⟨vA, A7, c7, rfl, hvA, hvB, hbA⟩
                    obtain ⟨Av, cv, rfl⟩ := Kd.V_slice hvA
                    rw [List.length_map] at hvA ⊢
                    have HVA := Aside0.mk (show Kd.V k41 41 wA wA.heap.size (fun _ => True) (.slice Av l1.length cv) (l1.map (·.f1)) from hvA)
                    have HVB := Aside0.mk (show Kd.V k41 41 wA wA.heap.size (fun _ => True) (.slice A7 x.f1.f0.length c7) x.f1.f0 from hvB)
                    have HBA := Aside0.mk (below_step (below_drew HBq.out) hbA)
                    have HbwA := Aside0.mk (below_step (below_drew Hbw.out) hbA)
                    have a2 := cell_up hbA (show (wq.drew).cell? _ = _ from id m2)
                    have a3 := cell_up hbA (show (wq.drew).cell? _ = _ from id m3)
                    have a4 := cell_up hbA (show (wq.drew).cell? _ = _ from id m4)
                    have a2' := cel1 a2
                    have a3' := cel1 a3
                    have a4' := cel1 a4
                    skip
                    clear hvA hvB hbA)
                 | ((with_reducible refine (HPL.out (wq.alloc (.cells #[.slice none 0 0] 41)).drew (Kd.C_below HR1.out (below_drew (below_alloc HBQ.out _)))).mono ?_)
                    rintro e9 wA ⟨vA, A7, c7, rfl, hvA, hvB, hbA⟩
                    obtain ⟨Av, cv, rfl⟩ := Kd.V_slice hvA
                    rw [List.length_map] at hvA ⊢
                    have HVA := Aside0.mk (show Kd.V k41 41 wA wA.heap.size (fun _ => True) (.slice Av l1.length cv) (l1.map (·.f1)) from hvA)
                    have HVB := Aside0.mk (show Kd.V k41 41 wA wA.heap.size (fun _ => True) (.slice A7 x.f1.f0.length c7) x.f1.f0 from hvB)
                    have HBA := Aside0.mk (below_step (below_drew (below_alloc HBq.out _)) hbA)
                    have HbwA := Aside0.mk (below_step (below_drew (below_alloc Hbw.out _)) hbA)
                    have a2 := cell_up hbA (show ((wq.alloc (.cells #[.slice none 0 0] 41)).drew).cell? _ = _ from cel1 m2 _)
                    have a3 := cell_up hbA (show ((wq.alloc (.cells #[.slice none 0 0] 41)).drew).cell? _ = _ from cel1 m3 _)
                    have a4 := cell_up hbA (show ((wq.alloc (.cells #[.slice none 0 0] 41)).drew).cell? _ = _ from cel1 m4 _)
                    have a2' := cel1 a2
                    have a3' := cel1 a3
                    have a4' := cel1 a4
                    have HG9 := Aside0.mk (show wA.heap[wq.heap.size]? = some (.cells #[.slice none 0 0] 41 (0, 0)) from blk_below (blk_drew (blk_new wq (.cells #[.slice none 0 0] 41))) hbA)
                    clear hvA hvB hbA))
              | (go_simp
                 go_at_call 50
                 first
                 | ((with_reducible refine (of_calls2 A0 c0 l0 Av cv l1.length (l1.map (·.f1)) A7 c7 x.f1.f0 (List.length_map _) HSM.out x.f2 A4 c4 wA (Kd.C_below HR0.out (below_step HB2.out (HBA.out))) (HVA.out) (HVB.out) (Kd.C_below HC4.out (HbwA.out)) Hl4.out).mono ?_)
                    rintro e9 wB ⟨Ay, cy, rfl, hbB⟩
                    have HBB := Aside0.mk (below_step HBA.out hbB)
                    try (have G := blk_below HG9.out hbB
                         have k9 := (blk_cell G 0).trans rfl
                         have f9 := blk_frozen G 0
                         have HG9B := Aside0.mk G
                         clear G)
                    clear hbB)
                 | ((with_reducible refine (of_calls2 A0 c0 l0 Av cv l1.length (l1.map (·.f1)) A7 c7 x.f1.f0 (List.length_map _) HSM.out x.f2 A4 c4 (wA.alloc (.cells #[.slice none 0 0] 41)) (Kd.C_below HR0.out (below_step HB2.out (below_alloc HBA.out _))) (Kd.V_alloc HVA.out _) (Kd.V_alloc HVB.out _) (Kd.C_below HC4.out (below_alloc HbwA.out _)) Hl4.out).mono ?_)
                    rintro e9 wB ⟨Ay, cy, rfl, hbB⟩
                    have HBB := Aside0.mk (below_step (below_alloc HBA.out _) hbB)
                    have G := blk_below (blk_new wA (.cells #[.slice none 0 0] 41)) hbB
                    have k9 := (blk_cell G 0).trans rfl
                    have f9 := blk_frozen G 0
                    have HG9B := Aside0.mk G
                    clear G hbB)))
          all_goals (
            go_wp2_with fail
            go_meet
            first
            | exact ⟨_, Ay, cy, rfl, rfl, ⟨blk_new _ _⟩, ⟨below_alloc HBB.out _⟩⟩
            | exact ⟨_, Ay, cy, rfl, rfl, ⟨blk_put HG9B.out 0 _ rfl⟩, ⟨below_set HBB.out (by first | exact HBA.out.size | exact HBq.out.size)⟩⟩)
        case rest =>
          obtain ⟨g9, Ay, cy, rfl, rfl, S9, HB9⟩ := hcut
          clear e0 e1 m2 m3 m4 e0' e1' m2' m3' m4' S1q HBQ HBq Hgi HPL HSM HC4 Hl4 Hbw HB HB3
          generalize ofT l0 (l1.map (·.f1)) x.f1.f0 x.f2 = o at *
          cases o with
          | none =>
            have hr : r = false := HBL2.out
            subst hr
            clear HBL2
            go_wp2_with fail
            go_ret
            exact ⟨rfl, below_step HB2.out HB9.out⟩
          | some s =>
            have c9 : wc.cell? ⟨g9, 0, none⟩ = some (.slice Ay s.length cy) := (blk_cell S9.out 0).trans rfl
            have HBL3 := Aside0.mk (show r = (decide (s.length = 0) && bodiesL l0 (l1.map (·.f1)) (l1.drop (i + 1))) from HBL2.out)
            clear HBL2 S9
            generalize s.length = m at *
            by_cases hm : m = 0
            · have HN := Aside0.mk (show r = bodiesL l0 (l1.map (·.f1)) (l1.drop (i + 1)) from by rw [HBL3.out, decide_eq_true hm]; rfl)
              subst hm
              clear HBL3
              go_wp2_with fail
              have hk := Hi.out
              obtain ⟨k1, rfl⟩ : ∃ k1, gk = k1 + 1 := ⟨gk - 1, by omega⟩
              go_roundg k1
              case measure => omega
              case rel => exact ⟨i + 1, by go_num, ⟨by omega⟩, HN, HB9⟩
            · have hr : r = false := by rw [HBL3.out, decide_eq_false hm]; rfl
              subst hr
              have q4 : (0 < m) = True := eq_true (by omega)
              clear hm HBL3
              go_wp2_with fail
              go_ret
              exact ⟨rfl, below_step HB2.out HB9.out⟩
    obtain ⟨ad', A3, c3, A4, c4, rfl, hx0, hx1, hx2, hx3, hx4, hl3, hC3, hl4, hC4⟩ := at_T46 (Kd.C_below HR1.out (below_step HB2.out HB.out)) (i : Int) (by omega) (by omega)
    rw [Int.toNat_natCast] at hx0 hx1 hx2 hx3 hx4
    have HC3 := Aside0.mk hC3
    have HC4 := Aside0.mk hC4
    have Hl3 := Aside0.mk hl3
    have Hl4 := Aside0.mk hl4
    have HF := Aside0.mk (show q = ((funOk (rd_T46 l1 (i : Int)) && !isIn (names46 (l1.take i)) (rd_T46 l1 (i : Int)).f0) && funsL (l1.drop (i + 1)) (names46 (l1.take (i + 1)))) from by rw [HQ.out, rd_T46_drop l1 i hlt, funsL, rd_T46_take l1 i hlt])
    have q1 : (0 ≤ (i : Int)) = True := eq_true (by omega)
    have q2 : ((i : Int) < (l1.length : Int)) = True := eq_true (by omega)
    have q3 : (i < l1.length) = True := eq_true (by omega)
    clear hC3 hl4 hC4 hl3 HQ
    generalize rd_T46 l1 (i : Int) = x at *
    go_wp2_with (
           (with_reducible refine gate_dst (N := 4) rfl ?_)
           refine box_event ?hg (N := 4) ?hd (cs := #[.string (⟨#[]⟩ : ByteArray), .slice none 0 0, .int .i64 0, .int .i64 0, .slice none 0 0]) (t := 46) ?hr ?_
           (case hd => rfl)
           (case hg => rfl)
           (case hr => first | (go_simp; done) | (go_simp; rfl))
           intro gi hgi w6 hbox hb6
           have hgw : wr.heap.size ≤ gi := by omega
           have Hbw := Aside0.mk (below_set (g := gi) (j := 4) (v := .slice A4 x.f2.f2.length c4) (below_set (g := gi) (j := 3) (v := .int .i64 x.f2.f1) (below_set (g := gi) (j := 2) (v := .int .i64 x.f2.f0) (below_set (g := gi) (j := 1) (v := .slice A3 x.f1.f0.length c3) (below_set (g := gi) (j := 0) (v := .string x.f0) hb6 hgw) hgw) hgw) hgw) hgw)
           have Hgi := Aside0.mk (blk_put (cs' := #[.string x.f0, .slice A3 x.f1.f0.length c3, .int .i64 x.f2.f0, .int .i64 x.f2.f1, .slice A4 x.f2.f2.length c4]) (blk_put (cs' := #[.string x.f0, .slice A3 x.f1.f0.length c3, .int .i64 x.f2.f0, .int .i64 x.f2.f1, .slice none 0 0]) (blk_put (cs' := #[.string x.f0, .slice A3 x.f1.f0.length c3, .int .i64 x.f2.f0, .int .i64 0, .slice none 0 0]) (blk_put (cs' := #[.string x.f0, .slice A3 x.f1.f0.length c3, .int .i64 0, .int .i64 0, .slice none 0 0]) (blk_put (cs' := #[.string x.f0, .slice none 0 0, .int .i64 0, .int .i64 0, .slice none 0 0]) hbox 0 (.string x.f0) rfl) 1 (.slice A3 x.f1.f0.length c3) rfl) 2 (.int .i64 x.f2.f0) rfl) 3 (.int .i64 x.f2.f1) rfl) 4 (.slice A4 x.f2.f2.length c4) rfl)
           have hcz0 := (blk_cell hbox 0).trans rfl
           have hfz0 := blk_frozen hbox 0
           have hcz1 := (blk_cell hbox 1).trans rfl
           have hfz1 := blk_frozen hbox 1
           have hcz2 := (blk_cell hbox 2).trans rfl
           have hfz2 := blk_frozen hbox 2
           have hcz3 := (blk_cell hbox 3).trans rfl
           have hfz3 := blk_frozen hbox 3
           have hcz4 := (blk_cell hbox 4).trans rfl
           have hfz4 := blk_frozen hbox 4
           have m0 := (blk_cell Hgi.out 0).trans rfl
           clear hbox hb6 hgi hgw)
    clear hcz0 hcz1 hcz2 hcz3 hcz4 hfz0 hfz1 hfz2 hfz3 hfz4 m0 hx0 hx1 hx2 hx3 hx4
    generalize (((((w6.setCell ⟨gi, 0, none⟩ (.string x.f0)).setCell ⟨gi, 1, none⟩ (.slice A3 x.f1.f0.length c3)).setCell ⟨gi, 2, none⟩ (.int .i64 x.f2.f0)).setCell ⟨gi, 3, none⟩ (.int .i64 x.f2.f1)).setCell ⟨gi, 4, none⟩ (.slice A4 x.f2.f2.length c4)) = wq at *
    have HF2 := Aside0.mk (show q = (((nameOk x.f0 && (isok x.f1.f0 && !(decide (400 < tcnt x.f2) || decide (30 < tdep x.f2)))) && !isIn (names46 (l1.take i)) x.f0) && funsL (l1.drop (i + 1)) (names46 (l1.take (i + 1)))) from HF.out)
    clear HF
    (with_reducible refine (name_calls x.f0 _).mono ?_)
    rintro e w8 ⟨rfl, hb8⟩
    have Hbw8 := Aside0.mk (below_step Hbw.out hb8)
    have Hgi8 := Aside0.mk (blk_below Hgi.out hb8)
    clear hb8 Hbw Hgi
    generalize nameOk x.f0 = b at *
    cases b with
    | false =>
      have hr : r = false := by have := HF2.out; rw [HS2.out, this]; rfl
      subst hr
      clear HF2 HS2
      go_wp2_with fail
      go_ret
      exact ⟨rfl, below_step (below_step HB2.out HB.out) Hbw8.out⟩
    | true =>
    have m1 : w8.cell? ⟨gi, 1, none⟩ = some (.slice A3 x.f1.f0.length c3) := (blk_cell Hgi8.out 1).trans rfl
    go_wp2_with fail
    (with_reducible refine (isok_calls (Kd.C_below HC3.out Hbw8.out) Hl3.out).mono ?_)
    rintro e w9 ⟨rfl, hb9⟩
    have Hbw9 := Aside0.mk (below_step Hbw8.out hb9)
    have Hgi9 := Aside0.mk (blk_below Hgi8.out hb9)
    clear hb9 Hbw8 Hgi8 m1
    generalize isok x.f1.f0 = b at *
    cases b with
    | false =>
      have hr : r = false := by have := HF2.out; rw [HS2.out, this]; rfl
      subst hr
      clear HF2 HS2
      go_wp2_with fail
      go_ret
      exact ⟨rfl, below_step (below_step HB2.out HB.out) Hbw9.out⟩
    | true =>
    have m2 : w9.cell? ⟨gi, 2, none⟩ = some (.int .i64 x.f2.f0) := (blk_cell Hgi9.out 2).trans rfl
    have m3 : w9.cell? ⟨gi, 3, none⟩ = some (.int .i64 x.f2.f1) := (blk_cell Hgi9.out 3).trans rfl
    have m4 : w9.cell? ⟨gi, 4, none⟩ = some (.slice A4 x.f2.f2.length c4) := (blk_cell Hgi9.out 4).trans rfl
    go_wp2_with fail
    (with_reducible refine (tnodes_calls x.f2.f0 x.f2.f1 (Kd.C_below HC4.out Hbw9.out) Hl4.out).mono ?_)
    rintro e wA ⟨rfl, hbA⟩
    have HbwA := Aside0.mk (below_step Hbw9.out hbA)
    have HgiA := Aside0.mk (blk_below Hgi9.out hbA)
    clear hbA Hbw9 Hgi9 m2 m3 m4
    have hcn := tcnt_f2 x.f2
    by_cases hn : 400 < tcnt x.f2
    · have hr : r = false := by have := HF2.out; rw [HS2.out, this, decide_eq_true hn]; rfl
      rw [show min (1 + tcntL x.f2.f2) 401 = 401 from by omega]
      subst hr
      clear HF2 HS2 hn hcn
      go_wp2_with fail
      go_ret
      exact ⟨rfl, below_step (below_step HB2.out HB.out) HbwA.out⟩
    obtain ⟨nn, hnn⟩ : ∃ nn, nn = min (1 + tcntL x.f2.f2) 401 := ⟨_, rfl⟩
    rw [← hnn]
    have p400 : ((400 : Int) < nn) = False := eq_false (by omega)
    have Hcn := Aside0.mk (show tcntL x.f2.f2 ≤ 1000 from by omega)
    have HF3 := Aside0.mk (show q = ((!(decide (30 < tdep x.f2)) && !isIn (names46 (l1.take i)) x.f0) && funsL (l1.drop (i + 1)) (names46 (l1.take (i + 1)))) from by rw [HF2.out, decide_eq_false hn]; rfl)
    clear HF2 hn hcn hnn
    have m2 : wA.cell? ⟨gi, 2, none⟩ = some (.int .i64 x.f2.f0) := (blk_cell HgiA.out 2).trans rfl
    have m3 : wA.cell? ⟨gi, 3, none⟩ = some (.int .i64 x.f2.f1) := (blk_cell HgiA.out 3).trans rfl
    have m4 : wA.cell? ⟨gi, 4, none⟩ = some (.slice A4 x.f2.f2.length c4) := (blk_cell HgiA.out 4).trans rfl
    go_wp2_with fail
    (with_reducible refine (tdepth_calls x.f2.f0 x.f2.f1 Hcn.out (Kd.C_below HC4.out HbwA.out) Hl4.out).mono ?_)
    rintro e wB ⟨rfl, hbB⟩
    have HbwB := Aside0.mk (below_step HbwA.out hbB)
    have HgiB := Aside0.mk (blk_below HgiA.out hbB)
    clear hbB HbwA HgiA m2 m3 m4 p400
    have hde := tdep_f2 x.f2
    rw [← hde]
    clear hde
    by_cases hd : 30 < tdep x.f2
    · have hr : r = false := by have := HF3.out; rw [HS2.out, this, decide_eq_true hd]; rfl
      have p30 : ((30 : Int) < tdep x.f2) = True := eq_true hd
      subst hr
      clear HF3 HS2 hd
      go_wp2_with fail
      go_ret
      exact ⟨rfl, below_step (below_step HB2.out HB.out) HbwB.out⟩
    have p30 : ((30 : Int) < tdep x.f2) = False := eq_false hd
    have HF4 := Aside0.mk (show q = ((!isIn (names46 (l1.take i)) x.f0) && funsL (l1.drop (i + 1)) (names46 (l1.take (i + 1)))) from by rw [HF3.out, decide_eq_false hd]; rfl)
    clear HF3 hd
    have HB5 := Aside0.mk (below_step HB.out HbwB.out)
    have S15 := Aside0.mk (blk_below S12.out HB5.out)
    have e1 : wB.cell? ⟨g1, 1, none⟩ = some (.slice (some ad') l1.length c1) := (blk_cell S15.out 1).trans rfl
    have pc : (i ≤ c1) = True := eq_true (by have := HC1.out; omega)
    go_wp2_with fail
    clear p30 e1 pc
    have hko := Hi.out
    obtain ⟨ko, rfl⟩ : ∃ ko, gk = ko + 1 := ⟨gk - 1, by omega⟩
    clear hko
    obtain ⟨z, hz⟩ : ∃ z, z = isIn (names46 (l1.take i)) x.f0 := ⟨_, rfl⟩
    rw [← hz] at HF4
    have HZ := Aside0.mk (show z = isIn (names46 ((l1.take i).drop 0)) x.f0 from hz)
    clear hz HbwB
    go_loopg [62] i (fun kq v62 wr2 => ∃ j : Nat, v62 = .int .i64 (j : Int) ∧ Aside0 (j + kq = i) ∧ Aside0 (z = isIn (names46 ((l1.take i).drop j)) x.f0) ∧ Aside0 (Below wB.heap.size wB wr2))
    case atStart => exact ⟨0, rfl, ⟨by omega⟩, HZ, ⟨Below.refl _ _⟩⟩
    case round =>
      clear HZ
      obtain ⟨j, rfl, Hj, HZ, HBi⟩ := hrel
      by_cases hjt : j < i
      rotate_left
      · have hje : j = i := by have := Hj.out; omega
        have hz : z = false := by have := HZ.out; rw [hje, List.drop_of_length_le (by rw [List.length_take]; omega)] at this; exact this
        have HN := Aside0.mk (show q = funsL (l1.drop (i + 1)) (names46 (l1.take (i + 1))) from by rw [HF4.out, hz]; rfl)
        have HB7 := Aside0.mk (below_step HB5.out HBi.out)
        subst hje
        clear hz HZ HF4 HBi
        go_wp2_with fail
        go_roundg ko
        case measure => omega
        case rel => exact ⟨j + 1, by go_num, ⟨by have := Hi.out; omega⟩, HN, HB7⟩
      have HB6 := Aside0.mk (below_step HB5.out HBi.out)
      obtain ⟨ad2, A5, c5, A6, c6, he, hx0, hx1, hx2, hx3, hx4, hl5, hC5, hl6, hC6⟩ := at_T46 (Kd.C_below HR1.out (below_step HB2.out HB6.out)) (j : Int) (by omega) (by omega)
      cases he
      rw [Int.toNat_natCast] at hx0 hx1 hx2 hx3 hx4
      have HZ2 := Aside0.mk (show z = ((rd_T46 l1 (j : Int)).f0.data.toList == x.f0.data.toList || isIn (names46 ((l1.take i).drop (j + 1))) x.f0) from by
        rw [HZ.out, rd_T46_drop (l1.take i) j (by rw [List.length_take]; omega)]
        have e : rd_T46 (l1.take i) (j : Int) = rd_T46 l1 (j : Int) := by unfold rd_T46; rw [Int.toNat_natCast, List.getD_eq_getElem?_getD, List.getD_eq_getElem?_getD, List.getElem?_take_of_lt hjt]
        rw [e]
        rfl)
      have q4 : (0 ≤ (j : Int)) = True := eq_true (by omega)
      have q5 : ((j : Int) < (i : Int)) = True := eq_true (by omega)
      have q6 : (j < i) = True := eq_true (by omega)
      clear hl5 hC5 hl6 hC6 HZ
      generalize rd_T46 l1 (j : Int) = y at *
      obtain ⟨bb, hbb⟩ : ∃ bb, (x.f0.toList == y.f0.toList) = bb := ⟨_, rfl⟩
      have HBB := Aside0.mk (show (y.f0.data.toList == x.f0.data.toList) = bb from by
        rw [← hbb, ← Go.ByteArray.toList_eq, ← Go.ByteArray.toList_eq]
        exact BEq.comm)
      rw [HBB.out] at HZ2
      clear HBB
      go_wp2_with (
           (with_reducible refine gate_dst (N := 6) rfl ?_)
           refine box_event ?hg (N := 6) ?hd (cs := #[.string (⟨#[]⟩ : ByteArray), .slice none 0 0, .int .i64 0, .int .i64 0, .slice none 0 0]) (t := 46) ?hr ?_
           (case hd => rfl)
           (case hg => rfl)
           (case hr => first | (go_simp; done) | (go_simp; rfl))
           intro gy hgy w6 hbox hb6
           have hgw : wr.heap.size ≤ gy := by omega
           have Hbw := Aside0.mk (below_set (g := gy) (j := 4) (v := .slice A6 y.f2.f2.length c6) (below_set (g := gy) (j := 3) (v := .int .i64 y.f2.f1) (below_set (g := gy) (j := 2) (v := .int .i64 y.f2.f0) (below_set (g := gy) (j := 1) (v := .slice A5 y.f1.f0.length c5) (below_set (g := gy) (j := 0) (v := .string y.f0) hb6 hgw) hgw) hgw) hgw) hgw)
           have Hgy := Aside0.mk (blk_put (cs' := #[.string y.f0, .slice A5 y.f1.f0.length c5, .int .i64 y.f2.f0, .int .i64 y.f2.f1, .slice A6 y.f2.f2.length c6]) (blk_put (cs' := #[.string y.f0, .slice A5 y.f1.f0.length c5, .int .i64 y.f2.f0, .int .i64 y.f2.f1, .slice none 0 0]) (blk_put (cs' := #[.string y.f0, .slice A5 y.f1.f0.length c5, .int .i64 y.f2.f0, .int .i64 0, .slice none 0 0]) (blk_put (cs' := #[.string y.f0, .slice A5 y.f1.f0.length c5, .int .i64 0, .int .i64 0, .slice none 0 0]) (blk_put (cs' := #[.string y.f0, .slice none 0 0, .int .i64 0, .int .i64 0, .slice none 0 0]) hbox 0 (.string y.f0) rfl) 1 (.slice A5 y.f1.f0.length c5) rfl) 2 (.int .i64 y.f2.f0) rfl) 3 (.int .i64 y.f2.f1) rfl) 4 (.slice A6 y.f2.f2.length c6) rfl)
           have hcz0 := (blk_cell hbox 0).trans rfl
           have hfz0 := blk_frozen hbox 0
           have hcz1 := (blk_cell hbox 1).trans rfl
           have hfz1 := blk_frozen hbox 1
           have hcz2 := (blk_cell hbox 2).trans rfl
           have hfz2 := blk_frozen hbox 2
           have hcz3 := (blk_cell hbox 3).trans rfl
           have hfz3 := blk_frozen hbox 3
           have hcz4 := (blk_cell hbox 4).trans rfl
           have hfz4 := blk_frozen hbox 4
           have m0 := (blk_cell Hgy.out 0).trans rfl
           have m1 := (blk_cell (blk_below HgiB.out (below_step HBi.out Hbw.out)) 0).trans rfl
           clear hbox hb6 hgy hgw)
      rotate_left
      · have HZ3 := Aside0.mk (show z = isIn (names46 ((l1.take i).drop (j + 1))) x.f0 from HZ2.out.trans (by rw [‹bb = false›]; rfl))
        have HBi2 := Aside0.mk (below_step HBi.out Hbw.out)
        clear hcz0 hcz1 hcz2 hcz3 hcz4 hfz0 hfz1 hfz2 hfz3 hfz4 m0 m1 hx0 hx1 hx2 hx3 hx4 HZ2
        have hk := Hj.out
        obtain ⟨k1, rfl⟩ : ∃ k1, gk = k1 + 1 := ⟨gk - 1, by omega⟩
        go_roundg k1
        case measure => omega
        case rel => exact ⟨j + 1, by go_num, ⟨by omega⟩, HZ3, HBi2⟩
      · have hr : r = false := by rw [HS2.out, HF4.out, HZ2.out, ‹bb = true›]; rfl
        subst hr
        go_ret
        exact ⟨rfl, below_step (below_step HB2.out HB6.out) Hbw.out⟩
end Go.Proofs.Ytfhgoebgnilfaaa.I
namespace Go.Proofs.Ytfhgoebgnilfaaa.I
open Go.RowKit
set_option linter.unusedVariables false
set_option linter.unusedSimpArgs false
/-- A sort. -/
def sS (t : KT) : S41 := ⟨toS t⟩
theorem toS_ars : ∀ vs : List KT, toS (ars vs .o) = vs.map sS
  | [] => rfl
  | v :: vs => by rw [ars, toS, toS_ars vs]; rfl
theorem toS_rep (n : Nat) : toS (ars (List.replicate n .o) .o) = List.replicate n z41 := by
  rw [toS_ars, List.map_replicate]; rfl
end Go.Proofs.Ytfhgoebgnilfaaa.I
namespace Go.Proofs.Ytfhgoebgnilfaaa.I
open Go.RowKit
set_option linter.unusedVariables false
set_option linter.unusedSimpArgs false
mutual
/-- The theory's sort of a sort. -/
def bS : S41 → KT
  | ⟨l⟩ => bL l
def bL : List S41 → KT
  | [] => .o
  | x :: xs => .ar (bS x) (bL xs)
end
theorem bS_f0 (x : S41) : bS x = bL x.f0 := by cases x; rw [bS]
mutual
theorem toS_bS : ∀ x : S41, toS (bS x) = x.f0
  | ⟨l⟩ => by rw [bS]; exact toS_bL l
theorem toS_bL : ∀ l : List S41, toS (bL l) = l
  | [] => by rw [bL, toS]
  | ⟨l⟩ :: xs => by rw [bL, toS, toS_bS ⟨l⟩, toS_bL xs]
end
theorem bL_toS : ∀ t : KT, bL (toS t) = t
  | .o => by rw [toS, bL]
  | .ar a b => by rw [toS, bL, bS, bL_toS a, bL_toS b]
theorem sS_bS (x : S41) : sS (bS x) = x := by unfold sS; rw [toS_bS]; cases x; rfl
theorem sS_bL (x : S41) : sS (bL x.f0) = x := by unfold sS; rw [toS_bL]; cases x; rfl
theorem map_bS (l : List S41) : (l.map bS).map sS = l := by
  rw [List.map_map]
  have : sS ∘ bS = id := by funext x; exact sS_bS x
  rw [this, List.map_id]
theorem bL_ars : ∀ l : List S41, ars (l.map bS) .o = bL l
  | [] => by rw [bL, List.map_nil, ars]
  | x :: xs => by rw [bL, List.map_cons, ars, bL_ars xs]
mutual
theorem eqS_eq : ∀ x y : S41, eqS x y = true → x = y
  | ⟨l⟩, ⟨m⟩, h => by
    unfold eqS at h
    rw [eqL_eq l m h]
theorem eqL_eq : ∀ l m : List S41, eqL l m = true → l = m
  | [], [], _ => rfl
  | [], _ :: _, h => by simp [eqL] at h
  | _ :: _, [], h => by simp [eqL] at h
  | x :: xs, y :: ys, h => by
    unfold eqL at h
    rw [Bool.and_eq_true] at h
    rw [eqS_eq x y h.1, eqL_eq xs ys h.2]
end
theorem get_map {l : List KT} {n : Int} (h0 : 0 ≤ n) (h : n < ((l.map sS).length : Int)) : l[n.toNat]? = some (bL (rd_T41 (l.map sS) n).f0) := by
  rw [List.length_map] at h
  have hl : n.toNat < l.length := by omega
  unfold rd_T41
  rw [List.getD_eq_getElem?_getD, List.getElem?_map, List.getElem?_eq_getElem hl]
  show some l[n.toNat] = some (bL (toS l[n.toNat]))
  rw [bL_toS]
theorem hd_back {sy : List S59} {G vs : List KT} {k n : Int} {s : List S41} (h : hdF sy (G.map sS) (vs.map sS) k n = some s) : hdG sy G vs k n = some (bL s) ∧ (isK k && (decide (0 ≤ n) && decide (n < manyK k (vs.length : Int) (G.length : Int) (sy.length : Int)))) = true := by
  unfold hdF at h
  unfold hdG isK manyK
  split at h
  · cases h
  · rename_i hn
    rw [if_neg hn]
    split at h
    · rename_i h0
      subst h0
      split at h
      · rename_i h1
        injection h with h
        subst h
        rw [if_pos rfl]
        refine ⟨get_map (by omega) h1, ?_⟩
        rw [List.length_map] at h1
        simp
        omega
      · cases h
    · rename_i h0
      rw [if_neg h0]
      split at h
      · rename_i h1
        subst h1
        rw [if_pos rfl]
        split at h
        · rename_i h1
          injection h with h
          subst h
          refine ⟨get_map (by omega) h1, ?_⟩
          rw [List.length_map] at h1
          simp
          omega
        · cases h
      · rename_i h1
        rw [if_neg h1]
        split at h
        · rename_i h2
          subst h2
          split at h
          · rename_i h3
            injection h with h
            subst h
            have hl : n.toNat < sy.length := by omega
            refine ⟨?_, ?_⟩
            · have : rd_T59 sy n = sy[n.toNat] := by unfold rd_T59; rw [List.getD_eq_getElem?_getD, List.getElem?_eq_getElem hl]; rfl
              rw [List.getElem?_eq_getElem hl, this, ← toS_rep, bL_toS]
              rfl
            · simp
              omega
          · cases h
        · cases h
mutual
theorem ofT_back {sy : List S59} {G vs : List KT} : ∀ (x : S44) (s : List S41), ofT sy (G.map sS) (vs.map sS) x = some s → Ty (hdG sy G vs) x (bL s) ∧ knownS x (vs.length : Int) (G.length : Int) (sy.length : Int) = true
  | ⟨k, n, l⟩, s, h => by
    rw [ofT] at h
    cases e : hdF sy (G.map sS) (vs.map sS) k n with
    | none => rw [e] at h; cases h
    | some s0 =>
      rw [e] at h
      replace h : (if s0.length < l.length then none else if ofL sy (G.map sS) (vs.map sS) l s0 = true then some (s0.drop l.length) else none) = some s := h
      split at h
      · cases h
      · split at h
        · rename_i h1 h2
          injection h with h
          subst h
          obtain ⟨a, b⟩ := ofL_back l s0 h2 (by omega)
          obtain ⟨c, d⟩ := hd_back e
          refine ⟨?_, ?_⟩
          · unfold Ty; exact ⟨bL s0, c, a⟩
          · unfold knownS; rw [d, b]; rfl
        · cases h
theorem ofL_back {sy : List S59} {G vs : List KT} : ∀ (l : List S44) (s : List S41), ofL sy (G.map sS) (vs.map sS) l s = true → l.length ≤ s.length → TyL (hdG sy G vs) (bL s) l (bL (s.drop l.length)) ∧ knownL l (vs.length : Int) (G.length : Int) (sy.length : Int) = true
  | [], s, _, _ => ⟨by unfold TyL; rfl, by unfold knownL; rfl⟩
  | x :: xs, [], _, h => absurd h (by simp)
  | x :: xs, y :: ys, h, hl => by
    rw [ofL] at h
    simp only [Bool.and_eq_true] at h
    cases e : ofT sy (G.map sS) (vs.map sS) x with
    | none => rw [e] at h; exact absurd h.1 (by simp)
    | some r =>
      rw [e] at h
      have h1 : eqL r y.f0 = true := h.1
      have h2 : ofL sy (G.map sS) (vs.map sS) xs ys = true := h.2
      obtain ⟨a, b⟩ := ofT_back x r e
      obtain ⟨c, d⟩ := ofL_back xs ys h2 (by simpa using hl)
      have hr := eqL_eq _ _ h1
      subst hr
      rw [← bS_f0] at a
      refine ⟨?_, ?_⟩
      · unfold TyL; exact ⟨bS y, bL ys, by rw [bL], a, c⟩
      · unfold knownL; rw [b, d]; rfl
end
/-- A function without its sort. -/
def lo (f : S46) : S48 := ⟨f.f0, (f.f1.f0.length : Int), f.f2⟩
def sortsOf (fs : List S46) : List (List KT) := fs.map (fun f => f.f1.f0.map bS)
theorem gam_of (fs : List S46) : gam (sortsOf fs) = fs.map (fun f => bL f.f1.f0) := by
  unfold gam sortsOf
  rw [List.map_map]
  exact List.map_congr_left (fun f _ => bL_ars f.f1.f0)
theorem bodies_back {sy : List S59} {G : List KT} : ∀ fs : List S46, bodiesL sy (G.map sS) fs = true → AllT sy G (sortsOf fs) (fs.map lo) ∧ ∀ f ∈ fs, knownS f.f2 (f.f1.f0.length : Int) (G.length : Int) (sy.length : Int) = true
  | [], _ => ⟨trivial, fun f hf => by cases hf⟩
  | f :: fs, h => by
    rw [bodiesL, Bool.and_eq_true] at h
    obtain ⟨h1, h2⟩ := h
    obtain ⟨a, b⟩ := bodies_back fs h2
    cases e : ofT sy (G.map sS) f.f1.f0 f.f2 with
    | none => rw [e] at h1; cases h1
    | some s =>
      rw [e] at h1
      have hs : s = [] := List.eq_nil_of_length_eq_zero (of_decide_eq_true h1)
      subst hs
      rw [← map_bS f.f1.f0] at e
      obtain ⟨c, d⟩ := ofT_back f.f2 [] e
      rw [List.length_map] at d
      refine ⟨⟨?_, a⟩, fun g hg => ?_⟩
      · rw [bL] at c; exact c
      · rcases List.mem_cons.1 hg with e | hg
        · subst e; exact d
        · exact b g hg
theorem typed_back {sy : List S59} {fs : List S46} (h : bodiesL sy (fs.map (·.f1)) fs = true) : Typed sy (fs.map lo) (sortsOf fs) ∧ ∀ f ∈ fs, knownS f.f2 (f.f1.f0.length : Int) (fs.length : Int) (sy.length : Int) = true := by
  have e : fs.map (·.f1) = (fs.map (fun f => bL f.f1.f0)).map sS := by
    rw [List.map_map]
    exact List.map_congr_left (fun f _ => (sS_bL f.f1).symm)
  rw [e] at h
  obtain ⟨a, b⟩ := bodies_back fs h
  rw [List.length_map] at b
  refine ⟨⟨?_, ?_⟩, b⟩
  · unfold sortsOf
    rw [List.map_map, List.map_map]
    exact List.map_congr_left (fun f _ => by show (f.f1.f0.map bS).length = ((f.f1.f0.length : Int)).toNat; rw [List.length_map, Int.toNat_natCast])
  · rw [gam_of]; exact a
theorem few_len {l : List S41} (h : isok l = true) : l.length ≤ 8 := by
  unfold isok at h
  simp only [Bool.and_eq_true, fewS_f0, decide_eq_true_eq] at h
  exact h.2.2.2
theorem loose_back {nf ns : Int} : ∀ (fs : List S46) (L : List ByteArray), funsL fs L = true → (∀ f ∈ fs, knownS f.f2 (f.f1.f0.length : Int) nf ns = true) → looseL (fs.map lo) nf ns L = true
  | [], _, _, _ => rfl
  | f :: fs, L, h, hk => by
    rw [funsL] at h
    simp only [Bool.and_eq_true] at h
    obtain ⟨⟨h1, h2⟩, h3⟩ := h
    unfold funOk at h1
    simp only [Bool.and_eq_true] at h1
    obtain ⟨n1, n2, n3⟩ := h1
    have h8 := few_len n2
    have e := loose_back fs (L ++ [f.f0]) h3 (fun g hg => hk g (List.mem_cons_of_mem _ hg))
    have hb : looseBad (lo f) nf ns L = false := by
      rw [loose_eq]
      show ((!nameOk f.f0 || (decide ((f.f1.f0.length : Int) < 0) || (decide (8 < (f.f1.f0.length : Int)) || (big f.f2 || !knownS f.f2 (f.f1.f0.length : Int) nf ns)))) || isIn L f.f0) = false
      rw [n1, hk f List.mem_cons_self, decide_eq_false (by omega : ¬ (f.f1.f0.length : Int) < 0), decide_eq_false (by omega : ¬ (8 : Int) < (f.f1.f0.length : Int))]
      have n4 : big f.f2 = false := by simpa using n3
      have n5 : isIn L f.f0 = false := by simpa using h2
      rw [n4, n5]
      rfl
    rw [List.map_cons, looseL, hb]
    exact e
theorem chk_back {sy : List S59} {fs : List S46} (h : schB sy fs = true) : chkF sy (fs.map lo) = some 0 ∧ Typed sy (fs.map lo) (sortsOf fs) ∧ ∀ f ∈ fs, isok f.f1.f0 = true := by
  unfold schB at h
  simp only [Bool.and_eq_true, decide_eq_true_eq] at h
  obtain ⟨⟨h1, h2⟩, ⟨h3, h4⟩, h5, h6, h7⟩ := h
  obtain ⟨t1, t2⟩ := typed_back h7
  refine ⟨?_, t1, fun f hf => ?_⟩
  · unfold chkF
    have e := loose_back fs [] h5 t2
    have hz : (rd_T48 (fs.map lo) 0).f1 = 0 := by
      cases fs with
      | nil => rfl
      | cons f fs =>
        show ((f.f1.f0.length : Nat) : Int) = 0
        have : f.f1.f0.length = 0 := h6
        omega
    have e2 : ¬ (fs.length = 0 ∨ 64 < fs.length ∨ (rd_T48 (fs.map lo) 0).f1 ≠ 0) := fun hh => by rcases hh with a | a | a; omega; omega; exact a hz
    rw [if_neg (by rw [h1]; simp; omega), List.length_map, if_neg e2, if_pos e]
  · have := funsL_all fs [] h5 f hf
    unfold funOk at this
    simp only [Bool.and_eq_true] at this
    exact this.2.1
theorem depL_ge : ∀ l : List S41, 0 ≤ depL l
  | [] => by simp [depL]
  | x :: xs => by have := depL_ge xs; unfold depL; omega
theorem le_mono : ∀ s t : KT, s.le t → cntL (toS s) ≤ cntL (toS t) ∧ depL (toS s) ≤ depL (toS t) ∧ rnkL (toS s) ≤ rnkL (toS t) ∧ (toS s).length ≤ (toS t).length ∧ (fewL (toS t) = true → fewL (toS s) = true)
  | .o, t, _ => by
    have h1 := cntL_ge (toS t)
    have h2 := depL_ge (toS t)
    have h3 := rnkL_bd (toS t)
    rw [toS, cntL, depL, rnkL, fewL]
    refine ⟨by omega, h2, h3.1, Nat.zero_le _, fun _ => rfl⟩
  | .ar a b, .o, h => h.elim
  | .ar a b, .ar c d, h => by
    obtain ⟨a1, a2, a3, a4, a5⟩ := le_mono a c h.1
    obtain ⟨b1, b2, b3, b4, b5⟩ := le_mono b d h.2
    rw [toS, toS, cntL, cntL, depL, depL, rnkL, rnkL, fewL, fewL, cnt, cnt, dep, dep, rnk, rnk, fewS, fewS]
    refine ⟨by omega, by omega, by omega, by rw [List.length_cons, List.length_cons]; omega, fun h => ?_⟩
    simp only [Bool.and_eq_true, decide_eq_true_eq] at h ⊢
    exact ⟨⟨a5 h.1.1, by omega⟩, b5 h.2⟩
theorem isok_mono {s t : KT} (h : s.le t) (ht : isok (toS t) = true) : isok (toS s) = true := by
  obtain ⟨a1, a2, a3, a4, a5⟩ := le_mono s t h
  unfold isok at ht ⊢
  rw [fewS] at ht ⊢
  simp only [Bool.and_eq_true, decide_eq_true_eq] at ht ⊢
  exact ⟨by omega, by omega, a5 ht.2.2.1, by omega⟩
theorem nS_cnt : ∀ t : KT, nS t = 1 + cntL (toS t)
  | .o => by rw [nS, toS, cntL]; rfl
  | .ar a b => by rw [nS, toS, cntL, cnt, nS_cnt a, nS_cnt b]; omega
theorem good_of {t : KT} (h : isok (toS t) = true) : goodB t = true := by
  have := isok_cnt h
  unfold goodB
  rw [nS_cnt, check_eq, h]
  simp
  omega
theorem lesL_get : ∀ (l m : List KT), lesL l m → l.length = m.length ∧ ∀ i (h1 : i < l.length) (h2 : i < m.length), l[i].le m[i]
  | [], [], _ => ⟨rfl, fun i h1 => absurd h1 (Nat.not_lt_zero _)⟩
  | [], _ :: _, h => h.elim
  | _ :: _, [], h => h.elim
  | a :: l, b :: m, h => by
    obtain ⟨e, f⟩ := lesL_get l m h.2
    refine ⟨by rw [List.length_cons, List.length_cons, e], fun i h1 h2 => ?_⟩
    cases i with
    | zero => exact h.1
    | succ i => exact f i (by simpa using h1) (by simpa using h2)
/-- What is found of a valid scheme without its sorts. -/
theorem finds_ok {sy : List S59} {fs : List S46} (h : schB sy fs = true) : chkF sy (fs.map lo) = some 0 ∧ ∃ out : List S41, (∃ f, fsorts f sy (fs.map lo) = some (out, 0)) ∧ out.length = fs.length ∧ ∀ i (h1 : i < out.length) (h2 : i < fs.length), isok out[i].f0 = true ∧ out[i].f0.length = fs[i].f1.f0.length ∧ rnkL out[i].f0 ≤ rnkL fs[i].f1.f0 ∧ cntL out[i].f0 ≤ cntL fs[i].f1.f0 ∧ cntL fs[i].f1.f0 ≤ 59 := by
  obtain ⟨hc, ht, hi⟩ := chk_back h
  refine ⟨hc, ?_⟩
  rcases sorts_main sy (fs.map lo) hc with ⟨As, hA, hL, f, hf⟩ | ⟨hN, _⟩
  · obtain ⟨el, hle⟩ := lesL_get _ _ (hL _ ht)
    rw [gam_of] at el hle
    rw [List.length_map] at el
    have hok : ∀ i (h1 : i < (gam As).length) (h2 : i < fs.length), (gam As)[i].le (bL fs[i].f1.f0) := fun i h1 h2 => by
      have := hle i h1 (by rw [List.length_map]; exact h2)
      rw [List.getElem_map] at this
      exact this
    have hg : (gam As).all goodB = true := by
      rw [List.all_eq_true]
      intro t htm
      obtain ⟨i, h1, e⟩ := List.getElem_of_mem htm
      subst e
      refine good_of (isok_mono (hok i h1 (by omega)) ?_)
      rw [toS_bL]
      exact hi _ (List.getElem_mem _)
    rw [if_pos hg] at hf
    refine ⟨_, ⟨f, hf⟩, by rw [List.length_map, el], fun i h1 h2 => ?_⟩
    rw [List.length_map] at h1
    have hli := hok i h1 h2
    obtain ⟨m1, m2, m3, m4, m5⟩ := le_mono _ _ hli
    rw [toS_bL] at m1 m2 m3 m4 m5
    have hif := hi _ (List.getElem_mem h2)
    rw [List.getElem_map]
    refine ⟨isok_mono hli (by rw [toS_bL]; exact hif), ?_, m3, m1, isok_cnt hif⟩
    have hla : i < As.length := by unfold gam at h1; rw [List.length_map] at h1; exact h1
    have e1 : (gam As)[i] = ars As[i] .o := List.getElem_map _
    show (toS (gam As)[i]).length = _
    rw [e1, toS_ars, List.length_map]
    have e2 := congrArg (fun l => l[i]?) hA.1
    simp only [List.getElem?_map, List.getElem?_eq_getElem hla, List.getElem?_eq_getElem h2, Option.map_some] at e2
    injection e2 with e2
  · exact absurd ht (hN _)
end Go.Proofs.Ytfhgoebgnilfaaa.I
namespace Go.Proofs.Ytfhgoebgnilfaaa.I
open Go.RowKit Go.Proofs.YtfhgoebgnilfaaaW.PrintWords Go.Proofs.YtfhgoebgnilfaaaW.PrintLast Go.Proofs.YtfhgoebgnilfaaaW.PrintMore
attribute [local go_sem] max2_int min2_int max_two min_two max_three min_three max_four min_four
set_option linter.unusedVariables false
set_option maxRecDepth 100000
set_option linter.unusedSimpArgs false
theorem rank_calls {l : List S41} (hl : cntL l ≤ 1000) {w : World} {A : Option Addr} {c : Nat} (hr : Kd.C k41 w A l.length l) (hc : l.length ≤ c) :
    Calls Try.prog 18 #[.agg #[.slice A l.length c]] w fun e w' => e = .returned (.int .i64 (rnkL l)) ∧ Below w.heap.size w w' := by
  obtain ⟨k, hk⟩ := (rank_ev _ l (Nat.lt_succ_self _) hl).rounds
  exact virgationref01_Rank.calls k A c l _ w hr hc hk
theorem snodes_calls {l : List S41} {w : World} {A : Option Addr} {c : Nat} (hr : Kd.C k41 w A l.length l) (hc : l.length ≤ c) :
    Calls Try.prog 19 #[.agg #[.slice A l.length c], .int .i64 60] w fun e w' => e = .returned (.int .i64 (min (1 + cntL l) 61)) ∧ Below w.heap.size w w' := by
  obtain ⟨k, hk⟩ := (nodes60 l).rounds
  exact virgationref01_Nodes.calls k A c l 60 _ w hr hc hk
theorem takelo_snoc {l : List S46} {i : Nat} (h : i < l.length) : (l.take i).map lo ++ [lo (rd_T46 l (i : Int))] = (l.take (i + 1)).map lo := by
  have e1 : l.take (i + 1) = l.take i ++ [l[i]] := by rw [List.take_add_one, List.getElem?_eq_getElem h]; rfl
  have e2 : rd_T46 l (i : Int) = l[i] := by unfold rd_T46; rw [Int.toNat_natCast, List.getD_eq_getElem?_getD, List.getElem?_eq_getElem h]; rfl
  rw [e1, e2, List.map_append]
  rfl
mutual
theorem twf_known : ∀ (x : S44) (p f s : Int), knownS x p f s = true → twf x
  | ⟨k, n, l⟩, p, f, s, h => by
    unfold knownS at h
    simp only [Bool.and_eq_true] at h
    refine ⟨?_, twfL_known l p f s h.2⟩
    have := h.1.1
    unfold isK at this
    rcases of_decide_eq_true this with rfl | rfl | rfl <;> rfl
theorem twfL_known : ∀ (l : List S44) (p f s : Int), knownL l p f s = true → twfL l
  | [], _, _, _, _ => trivial
  | x :: xs, p, f, s, h => by
    unfold knownL at h
    simp only [Bool.and_eq_true] at h
    exact ⟨twf_known x p f s h.1, twfL_known xs p f s h.2⟩
end
/-- What the sorts that are found have to do with the given ones. -/
def FitS (out : List S41) (fs : List S46) : Prop := out.length = fs.length ∧ ∀ i : Nat, i < fs.length → isok (rd_T41 out (i : Int)).f0 = true ∧ (rd_T41 out (i : Int)).f0.length = (rd_T46 fs (i : Int)).f1.f0.length ∧ rnkL (rd_T41 out (i : Int)).f0 ≤ rnkL (rd_T46 fs (i : Int)).f1.f0 ∧ cntL (rd_T41 out (i : Int)).f0 ≤ cntL (rd_T46 fs (i : Int)).f1.f0 ∧ cntL (rd_T46 fs (i : Int)).f1.f0 ≤ 59
theorem fits_ok {sy : List S59} {fs : List S46} (h : schB sy fs = true) : (∀ x ∈ fs.map lo, twf x.f2) ∧ fs.length ≤ 64 ∧ ∃ (out : List S41) (f : Nat), fsorts f sy (fs.map lo) = some (out, 0) ∧ FitS out fs := by
  obtain ⟨hc, out, ⟨f, hf⟩, hl, hi⟩ := finds_ok h
  have h64 := (fCheck_ok hc).2.2.2.1
  rw [List.length_map] at h64
  refine ⟨?_, h64, out, f, hf, hl, fun i hlt => ?_⟩
  · intro x hx
    exact twf_known _ _ _ _ (chkF_known hc x hx)
  · have h1 : i < out.length := by omega
    have e1 : rd_T41 out (i : Int) = out[i] := by unfold rd_T41; rw [Int.toNat_natCast, List.getD_eq_getElem?_getD, List.getElem?_eq_getElem h1]; rfl
    have e2 : rd_T46 fs (i : Int) = fs[i] := by unfold rd_T46; rw [Int.toNat_natCast, List.getD_eq_getElem?_getD, List.getElem?_eq_getElem hlt]; rfl
    rw [e1, e2]
    exact hi i h1 hlt
set_option maxHeartbeats 16000000 in
theorem finds_calls (A0 : Option Addr) (c0 : Nat) (l0 : List S59) (A1 : Option Addr) (c1 : Nat) (l1 : List S46) (w : World) (hr0 : Kd.C k59 w A0 l0.length l0) (hc0 : l0.length ≤ c0) (hr1 : Kd.C k46 w A1 l1.length l1) (hc1 : l1.length ≤ c1) :
    Calls Try.prog 5 #[.agg #[.slice A0 l0.length c0, .slice A1 l1.length c1]] w fun e w' => e = .returned (.bool true) ∧ Below w.heap.size w w' := by
  have hu48 := Try.underlying48
  have hu44 := Try.underlying44
  have hu59 := Try.underlying59
  have hu46 := Try.underlying46
  have hu38 := Try.underlying38
  have hu41 := Try.underlying41
  have hlen1 : l1.length ≤ 9223372036854775807 := hr1.2.1
  have hlen0 : l0.length ≤ 9223372036854775807 := hr0.2.1
  have HR0 := Aside0.mk hr0
  have HC0 := Aside0.mk hc0
  have HR1 := Aside0.mk hr1
  have HC1 := Aside0.mk hc1
  obtain ⟨r, hr⟩ : ∃ r, r = schB l0 l1 := ⟨_, rfl⟩
  have HSB := Aside0.mk hr
  have HIS := Aside0.mk (fun (w : World) (h0 : Kd.C k59 w A0 l0.length l0) (h1 : Kd.C k46 w A1 l1.length l1) => by have := refis_calls A0 c0 l0 A1 c1 l1 w h0 hc0 h1 hc1; rw [← hr] at this; exact this)
  clear hr0 hc0 hr1 hc1 hr
  go_enter Try.func5, Try.ntmps5
  go_wp2_with (
    (with_reducible refine gate_dst (N := 1) rfl ?_)
    refine box_event ?hg (N := 1) ?hd (cs := #[.slice A0 l0.length c0, .slice A1 l1.length c1]) (t := 38) ?hr ?_
    (case hd => rfl)
    (case hg => rfl)
    (case hr => first | (go_simp; done) | (go_simp; rfl))
    intro g1 hg1 w1 hbox hb1
    have S11 := Aside0.mk hbox
    have HB1 := Aside0.mk hb1
    have a0 : w1.cell? ⟨g1, 0, none⟩ = some (.slice A0 l0.length c0) := (blk_cell hbox 0).trans rfl
    have a1 : w1.cell? ⟨g1, 1, none⟩ = some (.slice A1 l1.length c1) := (blk_cell hbox 1).trans rfl
    have HG1 := Aside0.mk (show w.heap.size ≤ g1 from by omega)
    clear hbox hb1 hg1)
  (with_reducible refine (HIS.out _ (Kd.C_below HR0.out HB1.out) (Kd.C_below HR1.out HB1.out)).mono ?_)
  rintro e w2 ⟨rfl, hb2⟩
  have HB2 := Aside0.mk (below_step HB1.out hb2)
  have S12 := Aside0.mk (blk_below S11.out hb2)
  clear hb2 a0 a1 S11 HB1 HIS
  cases r with
  | false =>
    clear HSB
    go_wp2_with fail
    (with_reducible refine (alive_calls _).mono ?_)
    rintro e w4 ⟨rfl, hb4⟩
    have HB4 := Aside0.mk (below_step HB2.out hb4)
    clear hb4
    go_wp2_with fail
    go_ret
    exact ⟨rfl, HB4.out⟩
  | true =>
  obtain ⟨hwf, h64, out, f, hf, hfit⟩ := fits_ok HSB.out.symm
  have HWF := Aside0.mk hwf
  have H64 := Aside0.mk h64
  have HF := Aside0.mk hf
  have HFit := Aside0.mk hfit
  have e1 : w2.cell? ⟨g1, 1, none⟩ = some (.slice A1 l1.length c1) := (blk_cell S12.out 1).trans rfl
  clear HSB hwf h64 hf hfit
  go_wp2_with fail
  clear e1
  go_loopg [3, 18] l1.length (fun kq v3 v18 wr => ∃ (i : Nat) (Af : Option Addr) (cf : Nat), v3 = .slice Af i cf ∧ v18 = .int .i64 (i : Int) ∧ Aside0 (i + kq = l1.length) ∧ Aside0 (Kd.N k48 48 wr w.heap.size (fun k => k ≠ g1) (.slice Af i cf) ((l1.take i).map lo)) ∧ Aside0 (wr.heap[g1]? = some (.cells #[.slice A0 l0.length c0, .slice A1 l1.length c1] 38 (0, 0))) ∧ Aside0 (Below w.heap.size w wr))
  case atStart => exact ⟨0, none, 0, rfl, rfl, ⟨by omega⟩, ⟨Kd.N_nil _ _ _ _ _⟩, S12, HB2⟩
  case round =>
    clear S12 HB2
    obtain ⟨i, Af, cf, rfl, rfl, Hi, HN, S1, HB⟩ := hrel
    by_cases hlt : i < l1.length
    · obtain ⟨af, A3, c3, A4, c4, he, hx0, hx1, hx2, hx3, hx4, hl3, hC3, hl4, hC4⟩ := at_T46 HR1.out (i : Int) (by omega) (by omega)
      cases he
      replace hx0 := cell_up HB.out hx0
      replace hx1 := cell_up HB.out hx1
      replace hx2 := cell_up HB.out hx2
      replace hx3 := cell_up HB.out hx3
      replace hx4 := cell_up HB.out hx4
      rw [Int.toNat_natCast] at hx0 hx1 hx2 hx3 hx4
      have HSN := Aside0.mk (takelo_snoc hlt)
      have HF4 := Aside0.mk (Kd.C_F k44_heap hC4)
      have Hl4 := Aside0.mk hl4
      have Hlt := Aside0.mk hlt
      have q1 : (0 ≤ (i : Int)) = True := eq_true (by omega)
      have q2 : ((i : Int) < (l1.length : Int)) = True := eq_true (by omega)
      have q3 : (i < l1.length) = True := eq_true (by omega)
      clear hC3 hl4 hC4 hl3
      generalize rd_T46 l1 (i : Int) = x at *
      go_wp2_with (first
        | ((with_reducible refine gate_dst (N := 5) rfl ?_)
           refine box_event ?hg (N := 5) ?hd (cs := #[.string (⟨#[]⟩ : ByteArray), .slice none 0 0, .int .i64 0, .int .i64 0, .slice none 0 0]) (t := 46) ?hr ?_
           (case hd => rfl)
           (case hg => rfl)
           (case hr => first | (go_simp; done) | (go_simp; rfl))
           intro gi hgi w6 hbox hbb
           have hgw : wr.heap.size ≤ gi := by omega
           have Hbwgi := Aside0.mk (below_set (g := gi) (j := 4) (v := .slice A4 x.f2.f2.length c4) (below_set (g := gi) (j := 3) (v := .int .i64 x.f2.f1) (below_set (g := gi) (j := 2) (v := .int .i64 x.f2.f0) (below_set (g := gi) (j := 1) (v := .slice A3 x.f1.f0.length c3) (below_set (g := gi) (j := 0) (v := .string x.f0) hbb hgw) hgw) hgw) hgw) hgw)
           have Sgi := Aside0.mk (blk_put (cs' := #[.string x.f0, .slice A3 x.f1.f0.length c3, .int .i64 x.f2.f0, .int .i64 x.f2.f1, .slice A4 x.f2.f2.length c4]) (blk_put (cs' := #[.string x.f0, .slice A3 x.f1.f0.length c3, .int .i64 x.f2.f0, .int .i64 x.f2.f1, .slice none 0 0]) (blk_put (cs' := #[.string x.f0, .slice A3 x.f1.f0.length c3, .int .i64 x.f2.f0, .int .i64 0, .slice none 0 0]) (blk_put (cs' := #[.string x.f0, .slice A3 x.f1.f0.length c3, .int .i64 0, .int .i64 0, .slice none 0 0]) (blk_put (cs' := #[.string x.f0, .slice none 0 0, .int .i64 0, .int .i64 0, .slice none 0 0]) hbox 0 (.string x.f0) rfl) 1 (.slice A3 x.f1.f0.length c3) rfl) 2 (.int .i64 x.f2.f0) rfl) 3 (.int .i64 x.f2.f1) rfl) 4 (.slice A4 x.f2.f2.length c4) rfl)
           have hczgi0 := (blk_cell hbox 0).trans rfl
           have hfzgi0 := blk_frozen hbox 0
           have hczgi1 := (blk_cell hbox 1).trans rfl
           have hfzgi1 := blk_frozen hbox 1
           have hczgi2 := (blk_cell hbox 2).trans rfl
           have hfzgi2 := blk_frozen hbox 2
           have hczgi3 := (blk_cell hbox 3).trans rfl
           have hfzgi3 := blk_frozen hbox 3
           have hczgi4 := (blk_cell hbox 4).trans rfl
           have hfzgi4 := blk_frozen hbox 4
           have m0 := (blk_cell Sgi.out 0).trans rfl
           have m1 := (blk_cell Sgi.out 1).trans rfl
           have m2 := (blk_cell Sgi.out 2).trans rfl
           have m3 := (blk_cell Sgi.out 3).trans rfl
           have m4 := (blk_cell Sgi.out 4).trans rfl
           clear hbox hbb hgi hgw)
        | (at_builtin; refine holdX ?_))
      unfold HoldX
      clear hczgi0 hfzgi0 hczgi1 hfzgi1 hczgi2 hfzgi2 hczgi3 hfzgi3 hczgi4 hfzgi4 m0 m1 m2 m3 m4 hx0 hx1 hx2 hx3 hx4
      have hs : (((((w6.setCell ⟨gi, 0, none⟩ (.string x.f0)).setCell ⟨gi, 1, none⟩ (.slice A3 x.f1.f0.length c3)).setCell ⟨gi, 2, none⟩ (.int .i64 x.f2.f0)).setCell ⟨gi, 3, none⟩ (.int .i64 x.f2.f1)).setCell ⟨gi, 4, none⟩ (.slice A4 x.f2.f2.length c4)).heap.size = w6.heap.size := by simp only [World.size_setCell]
      rw [← hs]
      clear hs
      generalize (((((w6.setCell ⟨gi, 0, none⟩ (.string x.f0)).setCell ⟨gi, 1, none⟩ (.slice A3 x.f1.f0.length c3)).setCell ⟨gi, 2, none⟩ (.int .i64 x.f2.f0)).setCell ⟨gi, 3, none⟩ (.int .i64 x.f2.f1)).setCell ⟨gi, 4, none⟩ (.slice A4 x.f2.f2.length c4)) = wq at *
      have HBq := Aside0.mk (below_step HB.out Hbwgi.out)
      have HNq := Aside0.mk (Kd.N_below HN.out Hbwgi.out)
      have S1q := Aside0.mk (blk_below S1.out Hbwgi.out)
      clear Hbwgi HN S1 HB Sgi
      refine Kd.N_append k48 (w0 := w) w.heap.size rfl (.tmp 22) (.tmp 32) 27 48 (.agg #[.string ⟨#[]⟩, .int .i64 0, .int .i64 0, .int .i64 0, .slice none 0 0]) 64 rfl Try.underlying27 (by kernel_rfl) rfl (by decide) (by omega) (.slice Af i cf) ((l1.take i).map lo) (lo x) [.string x.f0, .int .i64 (x.f1.f0.length : Int), .int .i64 x.f2.f0, .int .i64 x.f2.f1, .slice A4 x.f2.f2.length c4] (fun k => k ≠ g1) (fun k => k < w.heap.size) rfl rfl (k48_mkF _ _ (lo x) Hl4.out (Kd.F_below HF4.out HBq.out)) (fun k hk => ⟨by have := HG1.out; omega, fun e => by have := Kd.N_base HNq.out k e.symm; omega⟩) (fun k hk => by have := blk_lt S1q.out; omega) HNq.out HBq.out HBq.out.size (by rw [List.length_map, List.length_take]; have := H64.out; omega) ?_
      intro v2 w7 hn7 hb7 hg7 hat
      rw [HSN.out] at hn7
      obtain ⟨A5, c5, e2⟩ := Kd.N_slice hn7
      rw [List.length_map, List.length_take, Nat.min_eq_left (by have := Hlt.out; omega)] at e2
      subst e2
      have HN7 := Aside0.mk hn7
      have HB7 := Aside0.mk hb7
      have S17 := Aside0.mk (blk_grown S1q.out hg7 (Kd.N_away HNq.out (fun k hk => hk)))
      clear hn7 hb7 hg7 hat HNq S1q HBq HSN HF4 Hl4
      go_wp2_with fail
      have hk := Hi.out
      have hlt2 := Hlt.out
      obtain ⟨k1, rfl⟩ : ∃ k1, gk = k1 + 1 := ⟨gk - 1, by omega⟩
      go_roundg k1
      case measure => omega
      case rel => exact ⟨i + 1, A5, c5, rfl, by go_num, ⟨by omega⟩, HN7, S17, HB7⟩
    · have hie : i = l1.length := by have := Hi.out; omega
      subst hie
      have hn := HN.out
      rw [List.take_length] at hn
      obtain ⟨-, hcf, hCf⟩ := Kd.N_reads' hn
      have HCf := Aside0.mk hCf
      have Hcf := Aside0.mk hcf
      have e0 : wr.cell? ⟨g1, 0, none⟩ = some (.slice A0 l0.length c0) := (blk_cell S1.out 0).trans rfl
      clear hn hcf hCf HN Hi hlt
      go_wp2_with fail
      have hs := infer_Sorts_calls f A0 c0 l0 Af cf (l1.map lo) out 0 wr (Kd.C_below HR0.out HB.out) HC0.out HCf.out (by rw [List.length_map]; exact Hcf.out) HWF.out HF.out
      rw [List.length_map] at hs
      (with_reducible refine hs.mono ?_)
      clear hs
      rintro e w5 ⟨v5, rfl, hR5, hb5⟩
      have hol := HFit.out.1
      obtain ⟨Ao, co, rfl⟩ := Kd.R_slice hR5
      have HRo := Aside0.mk (Kd.R_reads' hR5).2.2
      rw [hol] at HRo ⊢
      have S15 := Aside0.mk (blk_below S1.out hb5)
      have HB5 := Aside0.mk (below_step HB.out hb5)
      have e1 : w5.cell? ⟨g1, 1, none⟩ = some (.slice A1 l1.length c1) := (blk_cell S15.out 1).trans rfl
      clear hb5 hR5 e0 S1 HB HCf Hcf HF HWF hol
      go_wp2_with fail
      clear e1
      go_loopg [54] l1.length (fun kq v54 wr => ∃ i : Nat, v54 = .int .i64 (i : Int) ∧ Aside0 (i + kq = l1.length) ∧ Aside0 (Below w5.heap.size w5 wr))
      case atStart => exact ⟨0, rfl, ⟨by omega⟩, ⟨Below.refl _ _⟩⟩
      case round =>
        obtain ⟨i, rfl, Hi, HB⟩ := hrel
        by_cases hlt : i < l1.length
        rotate_left
        · go_wp2_with fail
          (with_reducible refine (alive_calls _).mono ?_)
          rintro e w7 ⟨rfl, hb7⟩
          have HB7 := Aside0.mk (below_step HB5.out (below_step HB.out hb7))
          clear hb7
          go_wp2_with fail
          go_ret
          exact ⟨rfl, HB7.out⟩
        obtain ⟨h1, h2, h3, h4, h5⟩ := HFit.out.2 i hlt
        obtain ⟨af, A3, c3, A4, c4, he, hy0, hy1, hy2, hy3, hy4, hl3, hC3, _, _⟩ := at_T46 HR1.out (i : Int) (by omega) (by omega)
        cases he
        obtain ⟨ao, A6, c6, he, hz0, hl6, hC6⟩ := at_T41 HRo.out (i : Int) (by omega) (by omega)
        cases he
        clear hy0 hy2 hy3 hy4
        replace hy1 := cell_up HB.out (cell_up HB5.out hy1)
        replace hz0 := cell_up HB.out hz0
        rw [Int.toNat_natCast] at hy1 hz0
        have HK6 := Aside0.mk (Kd.C_below hC6 HB.out)
        have HK3 := Aside0.mk (Kd.C_below (Kd.C_below hC3 HB5.out) HB.out)
        rw [h2] at hz0 hl6
        generalize hX : (rd_T41 out (i : Int)).f0 = X at *
        generalize hY : (rd_T46 l1 (i : Int)).f1.f0 = Y at *
        have HIs := Aside0.mk (fun (w : World) (h : Kd.C k41 w A6 X.length X) => by have := isok_calls h (show X.length ≤ c6 by rw [h2]; exact hl6); rw [h1, h2] at this; exact this)
        have HRx := Aside0.mk (fun (w : World) (h : Kd.C k41 w A6 X.length X) => by have := rank_calls (by omega) h (show X.length ≤ c6 by rw [h2]; exact hl6); rw [h2] at this; exact this)
        have HRy := Aside0.mk (fun (w : World) (h : Kd.C k41 w A3 Y.length Y) => rank_calls (by omega) h hl3)
        have HNx := Aside0.mk (fun (w : World) (h : Kd.C k41 w A6 X.length X) => by have := snodes_calls h (show X.length ≤ c6 by rw [h2]; exact hl6); rw [h2] at this; exact this)
        have HNy := Aside0.mk (fun (w : World) (h : Kd.C k41 w A3 Y.length Y) => snodes_calls h hl3)
        have g1' : (rnkL Y < rnkL X) = False := eq_false (by omega)
        have g2' : (min (1 + cntL Y) 61 < min (1 + cntL X) 61) = False := eq_false (by omega)
        clear h1 h2 h3 h4 h5 hl3 hl6 hC3 hC6 hX hY
        generalize rnkL Y = ry at *
        generalize rnkL X = rx at *
        generalize min (1 + cntL Y) 61 = ny at *
        generalize min (1 + cntL X) 61 = nx at *
        generalize Y.length = m at *
        have q1 : (0 ≤ (i : Int)) = True := eq_true (by omega)
        have q2 : ((i : Int) < (l1.length : Int)) = True := eq_true (by omega)
        have q3 : (i < l1.length) = True := eq_true (by omega)
        have S1r := Aside0.mk (blk_below S15.out HB.out)
        go_upto_region 16 with (first
          | ((with_reducible refine gate_dst (N := 9) rfl ?_)
             refine box_event ?hg (N := 9) ?hd (cs := #[.slice none 0 0]) (t := 41) ?hr ?_
             (case hd => rfl)
             (case hg => rfl)
             (case hr => first | (go_simp; done) | (go_simp; rfl))
             intro g9 hg9 w6 hbox hbb
             have hgw : wr.heap.size ≤ g9 := by omega
             have Hbwg9 := Aside0.mk (below_set (g := g9) (j := 0) (v := .slice A6 m c6) hbb hgw)
             have Sg9 := Aside0.mk (blk_put (cs' := #[.slice A6 m c6]) hbox 0 (.slice A6 m c6) rfl)
             have hczg90 := (blk_cell hbox 0).trans rfl
             have hfzg90 := blk_frozen hbox 0
             have e1 : (w6.setCell ⟨g9, 0, none⟩ (.slice A6 m c6)).cell? ⟨g1, 1, none⟩ = some (.slice (some af) l1.length c1) := cell_up Hbwg9.out ((blk_cell S1r.out 1).trans rfl)
             have y1 := cell_up Hbwg9.out hy1
             clear hbox hbb hg9 hgw)
          | ((with_reducible refine gate_dst (N := 10) rfl ?_)
             refine box_event ?hg (N := 10) ?hd (cs := #[.slice none 0 0]) (t := 41) ?hr ?_
             (case hd => rfl)
             (case hg => rfl)
             (case hr => first | (go_simp; done) | (go_simp; rfl))
             intro g10 hg10 w7 hbox hbb
             have hgw : (w6.setCell ⟨g9, 0, none⟩ (.slice A6 m c6)).heap.size ≤ g10 := by omega
             have Hbwg10 := Aside0.mk (below_set (g := g10) (j := 0) (v := .slice A3 m c3) hbb hgw)
             have Sg10 := Aside0.mk (blk_put (cs' := #[.slice A3 m c3]) hbox 0 (.slice A3 m c3) rfl)
             have hczg100 := (blk_cell hbox 0).trans rfl
             have hfzg100 := blk_frozen hbox 0
             clear hbox hbb hg10 hgw))
        clear hczg90 hfzg90 hczg100 hfzg100 e1 y1 hy1 hz0 q1 q2 q3
        have c9 := cell_up Hbwg10.out ((blk_cell Sg9.out 0).trans rfl)
        have c10 := (blk_cell Sg10.out 0).trans rfl
        have HB8 := Aside0.mk (below_step (below_step HB.out Hbwg9.out) Hbwg10.out)
        have KX6 := Aside0.mk (Kd.C_below (Kd.C_below HK6.out Hbwg9.out) Hbwg10.out)
        have KX3 := Aside0.mk (Kd.C_below (Kd.C_below HK3.out Hbwg9.out) Hbwg10.out)
        clear Hbwg9 Hbwg10 Sg9 Sg10 HK6 HK3 HB S1r
        generalize w7.setCell ⟨g10, 0, none⟩ (.slice A3 m c3) = w8 at *
        replace c9 : w8.cell? ⟨g9, 0, none⟩ = some (.slice A6 m c6) := c9
        replace c10 : w8.cell? ⟨g10, 0, none⟩ = some (.slice A3 m c3) := c10
        have HX := Aside0.mk (Below.refl w8.heap.size w8)
        try simp only [Act.put, List.setIfInBounds_toArray, List.set_cons_succ, List.set_cons_zero]
        go_cut [90] from 65 to 90 (fun v90 wc => v90 = .bool false ∧ Aside0 (Below w5.heap.size w5 wc))
        case first =>
          go_region_held3 (fun w' => w'.cell? ⟨g9, 0, none⟩ = some (.slice A6 m c6) ∧ w'.cell? ⟨g10, 0, none⟩ = some (.slice A3 m c3)) (go_keep)
            (first
              | (go_at_call 17
                 (with_reducible refine (HIs.out _ (Kd.C_below KX6.out (by repeat (first | (with_reducible first | exact HX.out | apply below_alloc | apply pw_below_drewN | apply below_drew1) | exact HX.out)))).mono ?_)
                 rintro e wA ⟨rfl, hbA⟩
                 have n9 : wA.cell? ⟨g9, 0, none⟩ = some (.slice A6 m c6) := cell_up hbA (by go_keep)
                 have n10 : wA.cell? ⟨g10, 0, none⟩ = some (.slice A3 m c3) := cell_up hbA (by go_keep)
                 have nb := Aside0.mk (below_step (by repeat (first | (with_reducible first | exact HX.out | apply below_alloc | apply pw_below_drewN | apply below_drew1) | exact HX.out)) hbA)
                 clear hbA HX c9 c10
                 have HX := nb
                 have c9 := n9
                 have c10 := n10
                 clear nb n9 n10)
              | (go_at_call 18
                 (with_reducible refine (HRx.out _ (Kd.C_below KX6.out (by repeat (first | (with_reducible first | exact HX.out | apply below_alloc | apply pw_below_drewN | apply below_drew1) | exact HX.out)))).mono ?_)
                 rintro e wB ⟨rfl, hbA⟩
                 have n9 : wB.cell? ⟨g9, 0, none⟩ = some (.slice A6 m c6) := cell_up hbA (by go_keep)
                 have n10 : wB.cell? ⟨g10, 0, none⟩ = some (.slice A3 m c3) := cell_up hbA (by go_keep)
                 have nb := Aside0.mk (below_step (by repeat (first | (with_reducible first | exact HX.out | apply below_alloc | apply pw_below_drewN | apply below_drew1) | exact HX.out)) hbA)
                 clear hbA HX c9 c10
                 have HX := nb
                 have c9 := n9
                 have c10 := n10
                 clear nb n9 n10)
              | (go_at_call 18
                 (with_reducible refine (HRy.out _ (Kd.C_below KX3.out (by repeat (first | (with_reducible first | exact HX.out | apply below_alloc | apply pw_below_drewN | apply below_drew1) | exact HX.out)))).mono ?_)
                 rintro e wC ⟨rfl, hbA⟩
                 have n9 : wC.cell? ⟨g9, 0, none⟩ = some (.slice A6 m c6) := cell_up hbA (by go_keep)
                 have n10 : wC.cell? ⟨g10, 0, none⟩ = some (.slice A3 m c3) := cell_up hbA (by go_keep)
                 have nb := Aside0.mk (below_step (by repeat (first | (with_reducible first | exact HX.out | apply below_alloc | apply pw_below_drewN | apply below_drew1) | exact HX.out)) hbA)
                 clear hbA HX c9 c10
                 have HX := nb
                 have c9 := n9
                 have c10 := n10
                 clear nb n9 n10)
              | (go_at_call 19
                 (with_reducible refine (HNx.out _ (Kd.C_below KX6.out (by repeat (first | (with_reducible first | exact HX.out | apply below_alloc | apply pw_below_drewN | apply below_drew1) | exact HX.out)))).mono ?_)
                 rintro e wD ⟨rfl, hbA⟩
                 have n9 : wD.cell? ⟨g9, 0, none⟩ = some (.slice A6 m c6) := cell_up hbA (by go_keep)
                 have n10 : wD.cell? ⟨g10, 0, none⟩ = some (.slice A3 m c3) := cell_up hbA (by go_keep)
                 have nb := Aside0.mk (below_step (by repeat (first | (with_reducible first | exact HX.out | apply below_alloc | apply pw_below_drewN | apply below_drew1) | exact HX.out)) hbA)
                 clear hbA HX c9 c10
                 have HX := nb
                 have c9 := n9
                 have c10 := n10
                 clear nb n9 n10)
              | (go_at_call 19
                 (with_reducible refine (HNy.out _ (Kd.C_below KX3.out (by repeat (first | (with_reducible first | exact HX.out | apply below_alloc | apply pw_below_drewN | apply below_drew1) | exact HX.out)))).mono ?_)
                 rintro e wE ⟨rfl, hbA⟩
                 have n9 : wE.cell? ⟨g9, 0, none⟩ = some (.slice A6 m c6) := cell_up hbA (by go_keep)
                 have n10 : wE.cell? ⟨g10, 0, none⟩ = some (.slice A3 m c3) := cell_up hbA (by go_keep)
                 have nb := Aside0.mk (below_step (by repeat (first | (with_reducible first | exact HX.out | apply below_alloc | apply pw_below_drewN | apply below_drew1) | exact HX.out)) hbA)
                 clear hbA HX c9 c10
                 have HX := nb
                 have c9 := n9
                 have c10 := n10
                 clear nb n9 n10))
          all_goals (go_wp2_with fail; go_meet; exact ⟨rfl, ⟨below_step HB8.out (by repeat (first | (with_reducible first | exact HX.out | apply below_alloc | apply pw_below_drewN | apply below_drew1) | exact HX.out))⟩⟩)
        case rest =>
          obtain ⟨rfl, HBc⟩ := hcut
          clear c9 c10
          go_wp2_with fail
          have hk := Hi.out
          obtain ⟨k1, rfl⟩ : ∃ k1, gk = k1 + 1 := ⟨gk - 1, by omega⟩
          go_roundg k1
          case measure => omega
          case rel => exact ⟨i + 1, by go_num, ⟨by omega⟩, HBc⟩
end Go.Proofs.Ytfhgoebgnilfaaa.I
namespace Go.Proofs.Ytfhgoebgnilfaaa.I
open Go.RowKit Go.Proofs.YtfhgoebgnilfaaaW.PrintWords
set_option linter.unusedVariables false
def virgationlaw04_InferFinds.f (k : Nat) (l0 : List S59) (l1 : List S46) : Option Bool := some true
theorem virgationlaw04_InferFinds.calls (k : Nat) (A0 : Option Addr) (c0 : Nat) (l0 : List S59) (A1 : Option Addr) (c1 : Nat) (l1 : List S46) (r : Bool) (w : World) (hr0 : Kd.C k59 w A0 l0.length l0) (hc0 : l0.length ≤ c0) (hr1 : Kd.C k46 w A1 l1.length l1) (hc1 : l1.length ≤ c1) (h : virgationlaw04_InferFinds.f k l0 l1 = some r) :
    Calls Try.prog 5 #[.agg #[.slice A0 l0.length c0, .slice A1 l1.length c1]] w fun e w' => e = .returned (.bool r) ∧ Below w.heap.size w w' := by
  unfold virgationlaw04_InferFinds.f at h
  injection h with h
  subst h
  exact finds_calls A0 c0 l0 A1 c1 l1 w hr0 hc0 hr1 hc1
theorem pure_InferFinds : ∀ (x0 : S38), (wf38 x0) → ∃ k, virgationlaw04_InferFinds.f k x0.f0 x0.f1 = some true := fun x0 _ => ⟨0, rfl⟩
end Go.Proofs.Ytfhgoebgnilfaaa.I
