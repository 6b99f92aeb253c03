/- Texts of this session's proof, laid together: IE4, IE4F. -/
import Derived.Test.YtnfgpepggehegaaC8
namespace Go.Proofs.Ytnfgpepggehegaa.I
open Go.RowKit Go.Proofs.YtnfgpepggehegaaW.PrintWords Go.Proofs.YtnfgpepggehegaaW.PrintLast Go.Proofs.YtnfgpepggehegaaW.PrintMore
attribute [local go_sem] max2_int min2_int max_two min_two max_three min_three max_four min_four
set_option linter.unusedVariables false
set_option maxRecDepth 100000
set_option linter.unusedSimpArgs false
theorem runF_ok {l0 : List S87} {l1 : List S84} {t X : S28} {fuel n e : Int} (h : stB l0 l1 t = 0) (h0 : 0 ≤ fuel) (h1 : fuel ≤ 1048576) (hF : runF l0 l1 t fuel = (X, n, e)) {R : S28 × Int × Int} (hR : runT l1 fuel.toNat t 0 = R) : (R.2.2 = 0 → (X, n, e) = R) ∧ (R.2.2 ≠ 0 → (X, n, e) = (⟨0, 0, []⟩, 0, R.2.2)) := by
  unfold runF runG at hF
  rw [if_pos h, if_neg (by omega), hR] at hF
  rw [← hF]
  exact ⟨fun h => if_pos h, fun h => if_neg h⟩
theorem runT_done {l1 : List S84} {u : S28} (h : u.f0 ≠ 1) : ∀ (k : Nat) (n : Int), runT l1 k u n = (u, n, 0)
  | 0, n => by unfold runT; rw [if_neg h]
  | k + 1, n => by unfold runT; rw [if_neg h]
set_option maxHeartbeats 16000000 in
theorem lawruns_calls (A0 : Option Addr) (c0 : Nat) (l0 : List S87) (A1 : Option Addr) (c1 : Nat) (l1 : List S84) (t : S28) (A3 : Option Addr) (c3 : Nat) (fuel : Int) (w : World) (hr0 : Kd.C k87 w A0 l0.length l0) (hc0 : l0.length ≤ c0) (hr1 : Kd.C k84 w A1 l1.length l1) (hc1 : l1.length ≤ c1) (hr3 : Kd.C k28 w A3 t.f2.length t.f2) (hc3 : t.f2.length ≤ c3) :
    Calls Try.prog 7 #[.agg #[.slice A0 l0.length c0, .slice A1 l1.length c1], .agg #[.int .i64 t.f0, .int .i64 t.f1, .slice A3 t.f2.length c3], .int .i64 fuel] w fun e w' => e = .returned (.bool true) ∧ Below w.heap.size w w' := by
  have hu25 := Try.underlying25
  have hu28 := Try.underlying28
  have HS := Aside0.mk (show Sch w A0 c0 l0 A1 c1 l1 from ⟨hr0, hc0, hr1, hc1⟩)
  have HT := Aside0.mk (Tm.of hr3 hc3)
  clear hr0 hc0 hr1 hc1 hr3 hc3
  obtain ⟨z, hz⟩ : ∃ z, stB l0 l1 t = z := ⟨_, rfl⟩
  have HZZ := Aside0.mk hz
  clear hz
  go_enter Try.func7, Try.ntmps7
  go_upto_region 1 with (first
    | ((with_reducible refine gate_dst (N := 3) rfl ?_)
       refine box_event ?hg (N := 3) ?hd (cs := #[.slice A0 l0.length c0, .slice A1 l1.length c1]) (t := 25) ?hr ?_
       (case hd => rfl)
       (case hg => rfl)
       (case hr => first | (go_simp; done) | (go_simp; rfl))
       intro g3 hg_g3 w2 hbox hbb
       have S2 := Aside0.mk hbox
       have HB2 := Aside0.mk hbb
       clear hbox hbb hg_g3)
    | ((with_reducible refine gate_dst (N := 4) rfl ?_)
       refine box_event ?hg (N := 4) ?hd (cs := #[.int .i64 t.f0, .int .i64 t.f1, .slice A3 t.f2.length c3]) (t := 28) ?hr ?_
       (case hd => rfl)
       (case hg => rfl)
       (case hr => first | (go_simp; done) | (go_simp; rfl))
       intro g4 hg_g4 w3 hbox hbb
       have S23 := Aside0.mk (blk_below S2.out hbb)
       have HB3 := Aside0.mk (below_step HB2.out hbb)
       have S3 := Aside0.mk hbox
       have HG4 := Aside0.mk (show w.heap.size ≤ g4 from by have := HB2.out.size; omega)
       have HN34 := Aside0.mk (show g3 ≠ g4 from by have := blk_lt S2.out; omega)
       have e0 := (blk_cell S23.out 0).trans rfl
       have e1 := (blk_cell S23.out 1).trans rfl
       have m0 := (blk_cell S3.out 0).trans rfl
       have m1 := (blk_cell S3.out 1).trans rfl
       have m2 := (blk_cell S3.out 2).trans rfl
       clear hbox hbb hg_g4))
  have HC11 := Aside0.mk (check_at (HS.out.below HB3.out) (HT.out.below HB3.out) z HZZ.out)
  by_cases hz : z = 0
  rotate_left
  · have q1 : (z != 0) = true := bne_iff_ne.2 hz
    have q2 : (z == 0) = false := beq_eq_false_iff_ne.2 hz
    clear hz
    go_upto_region 2 with (first
    | (go_at_call 11
       (with_reducible refine (HC11.out).mono ?_)
       rintro e9 w4 ⟨rfl, hb4⟩
       have HB4 := Aside0.mk (below_step HB3.out hb4)
       have S24 := Aside0.mk (blk_below S23.out hb4)
       have S34 := Aside0.mk (blk_below S3.out hb4)
       clear hb4
       skip))
    go_wp2_with fail
    (with_reducible refine (alive_calls _).mono ?_)
    rintro e9 wZ ⟨rfl, hbZ⟩
    have HZ := Aside0.mk (below_step HB4.out hbZ)
    clear hbZ
    go_wp2_with fail
    go_ret
    exact ⟨rfl, HZ.out⟩
  subst hz
  by_cases hf0 : fuel < 0
  · have q1 : (fuel < 0) = True := eq_true hf0
    go_upto_region 2 with (first
    | (go_at_call 11
       (with_reducible refine (HC11.out).mono ?_)
       rintro e9 w4 ⟨rfl, hb4⟩
       have HB4 := Aside0.mk (below_step HB3.out hb4)
       have S24 := Aside0.mk (blk_below S23.out hb4)
       have S34 := Aside0.mk (blk_below S3.out hb4)
       clear hb4
       skip))
    go_wp2_with fail
    (with_reducible refine (alive_calls _).mono ?_)
    rintro e9 wZ ⟨rfl, hbZ⟩
    have HZ := Aside0.mk (below_step HB4.out hbZ)
    clear hbZ
    go_wp2_with fail
    go_ret
    exact ⟨rfl, HZ.out⟩
  have q1 : (fuel < 0) = False := eq_false hf0
  by_cases hf1 : 200 < fuel
  · have q2 : (200 < fuel) = True := eq_true hf1
    go_upto_region 2 with (first
    | (go_at_call 11
       (with_reducible refine (HC11.out).mono ?_)
       rintro e9 w4 ⟨rfl, hb4⟩
       have HB4 := Aside0.mk (below_step HB3.out hb4)
       have S24 := Aside0.mk (blk_below S23.out hb4)
       have S34 := Aside0.mk (blk_below S3.out hb4)
       clear hb4
       skip))
    go_wp2_with fail
    (with_reducible refine (alive_calls _).mono ?_)
    rintro e9 wZ ⟨rfl, hbZ⟩
    have HZ := Aside0.mk (below_step HB4.out hbZ)
    clear hbZ
    go_wp2_with fail
    go_ret
    exact ⟨rfl, HZ.out⟩
  have q2 : (200 < fuel) = False := eq_false hf1
  obtain ⟨⟨X, n, er⟩, hF⟩ : ∃ F, runF l0 l1 t fuel = F := ⟨_, rfl⟩
  obtain ⟨R, hR⟩ : ∃ R, runT l1 fuel.toNat t 0 = R := ⟨_, rfl⟩
  have HFR := Aside0.mk (runF_ok HZZ.out (by omega) (by omega) hF hR)
  have HF := Aside0.mk hF
  have HRR := Aside0.mk hR
  clear hF hR
  go_upto_region 3 with (first
    | (go_at_call 11
       (with_reducible refine (HC11.out).mono ?_)
       rintro e9 w4 ⟨rfl, hb4⟩
       have HB4 := Aside0.mk (below_step HB3.out hb4)
       have S24 := Aside0.mk (blk_below S23.out hb4)
       have S34 := Aside0.mk (blk_below S3.out hb4)
       clear hb4
       skip))
  clear e0 e1 m0 m1 m2
  have e0 : w4.cell? ⟨g3, 0, none⟩ = some (.slice A0 l0.length c0) := (blk_cell S24.out 0).trans rfl
  have e1 : w4.cell? ⟨g3, 1, none⟩ = some (.slice A1 l1.length c1) := (blk_cell S24.out 1).trans rfl
  have m0 : w4.cell? ⟨g4, 0, none⟩ = some (.int .i64 t.f0) := (blk_cell S34.out 0).trans rfl
  have m1 : w4.cell? ⟨g4, 1, none⟩ = some (.int .i64 t.f1) := (blk_cell S34.out 1).trans rfl
  have m2 : w4.cell? ⟨g4, 2, none⟩ = some (.slice A3 t.f2.length c3) := (blk_cell S34.out 2).trans rfl
  go_upto_region 4 with (first
    | (go_at_call 17
       (with_reducible refine (run_at (HS.out.below HB4.out) (HT.out.below HB4.out) fuel _ _ _ HF.out).mono ?_)
       rintro e9 w5 ⟨Ax, cx, rfl, hv, hb5⟩
       have HB5 := Aside0.mk (below_step HB4.out hb5)
       have S25 := Aside0.mk (blk_below S24.out hb5)
       have S35 := Aside0.mk (blk_below S34.out hb5)
       have HX := Aside0.mk hv
       clear hv hb5
       skip)
    | ((with_reducible refine gate_dst (N := 7) rfl ?_)
       refine box_event ?hg (N := 7) ?hd (cs := #[.int .i64 0, .int .i64 0, .slice none 0 0]) (t := 28) ?hr ?_
       (case hd => rfl)
       (case hg => rfl)
       (case hr => first | (go_simp; done) | (go_simp; rfl))
       intro g7 hg_g7 w6 hbox hbb
       have hgw_ := HB5.out.size
       have Hg7g := Aside0.mk (Nat.le_of_eq hg_g7.symm)
       have Hg7b := Aside0.mk (below_set3 (below_step HB5.out hbb) (show w.heap.size ≤ g7 from by omega) (.int .i64 X.f0) (.int .i64 X.f1) (.slice Ax X.f2.length cx))
       have Hg7w := Aside0.mk (below_set3 hbb (Nat.le_of_eq hg_g7.symm) (.int .i64 X.f0) (.int .i64 X.f1) (.slice Ax X.f2.length cx))
       have Hg7s := Aside0.mk (blk_set3 hbox (.int .i64 X.f0) (.int .i64 X.f1) (.slice Ax X.f2.length cx))
       have hcz0 := (blk_cell hbox 0).trans rfl
       have hcz1 := (blk_cell hbox 1).trans rfl
       have hcz2 := (blk_cell hbox 2).trans rfl
       have hfz0 := blk_frozen hbox 0
       have hfz1 := blk_frozen hbox 1
       have hfz2 := blk_frozen hbox 2
       clear hgw_
       clear hbox hbb hg_g7))
  clear hcz0 hcz1 hcz2 hfz0 hfz1 hfz2 e0 e1 m0 m1 m2
  generalize (((w6.setCell ⟨g7, 0, none⟩ (.int .i64 X.f0)).setCell ⟨g7, 1, none⟩ (.int .i64 X.f1)).setCell ⟨g7, 2, none⟩ (.slice Ax X.f2.length cx)) = wq at *
  have S2q := Aside0.mk (blk_below S25.out Hg7w.out)
  have S3q := Aside0.mk (blk_below S35.out Hg7w.out)
  have HXq := Aside0.mk (show Tm wq (fun k => k ≠ g4) X Ax cx from (HX.out.below Hg7w.out).mono (fun k hk => by have h1 := blk_lt S34.out; have h2 : w4.heap.size ≤ k := hk; omega))
  have HTq := Aside0.mk (show Tm wq (fun k => k ≠ g4) t A3 c3 from (HT.out.below Hg7b.out).mono (fun k hk => by have := HG4.out; omega))
  have HN47 := Aside0.mk (show g7 ≠ g4 from fun he => by have h1 := blk_lt S35.out; have h2 := Hg7g.out; omega)
  clear S2 S3 S23 S24 S34 S25 S35 HB2 HB3 HB4 HB5 HX HT HC11
  go_wp2_with fail
  obtain ⟨M, hM⟩ : ∃ M : Nat, M = fuel.toNat := ⟨_, rfl⟩
  rw [← hM] at HRR
  have HM := Aside0.mk (show (M : Int) = fuel from by omega)
  clear hM
  go_loopg [10] M (fun kq v10 wr => ∃ (k : Int) (u : S28) (Au : Option Addr) (cu : Nat), v10 = .int .i64 k ∧ Aside0 (0 ≤ k ∧ k + kq = M) ∧ Aside0 (stB l0 l1 u = 0) ∧ Aside0 (runT l1 kq u k = R) ∧ Aside0 (Tm wr (fun k => k ≠ g4) u Au cu) ∧ Aside0 (Tm wr (fun k => k ≠ g4) X Ax cx) ∧ Aside0 (wr.heap[g7]? = some (.cells #[.int .i64 X.f0, .int .i64 X.f1, .slice Ax X.f2.length cx] 28 (0, 0))) ∧ Aside0 (wr.heap[g4]? = some (.cells #[.int .i64 u.f0, .int .i64 u.f1, .slice Au u.f2.length cu] 28 (0, 0))) ∧ Aside0 (wr.heap[g3]? = some (.cells #[.slice A0 l0.length c0, .slice A1 l1.length c1] 25 (0, 0))) ∧ Aside0 (Below w.heap.size w wr))
  case atStart => exact ⟨0, t, A3, c3, rfl, ⟨by omega, by omega⟩, HZZ, HRR, HTq, HXq, Hg7s, S3q, S2q, Hg7b⟩
  case round =>
    clear HZZ HRR HTq HXq Hg7s S3q S2q Hg7b Hg7w
    obtain ⟨k, u, Au, cu, rfl, Hk, HU, HR, HTu, HX, S7, S4, S3, HB⟩ := hrel
    have hk0 := Hk.out.1
    have HSr := Aside0.mk (HS.out.below HB.out)
    have HTC := Aside0.mk (show tcnt u ≤ 100000 from (stB_zero HU.out).2.1)
    have HL4 := Aside0.mk (blk_lt S4.out)
    have e0 : wr.cell? ⟨g3, 0, none⟩ = some (.slice A0 l0.length c0) := (blk_cell S3.out 0).trans rfl
    have e1 : wr.cell? ⟨g3, 1, none⟩ = some (.slice A1 l1.length c1) := (blk_cell S3.out 1).trans rfl
    have m0 : wr.cell? ⟨g4, 0, none⟩ = some (.int .i64 u.f0) := (blk_cell S4.out 0).trans rfl
    have m1 : wr.cell? ⟨g4, 1, none⟩ = some (.int .i64 u.f1) := (blk_cell S4.out 1).trans rfl
    have m2 : wr.cell? ⟨g4, 2, none⟩ = some (.slice Au u.f2.length cu) := (blk_cell S4.out 2).trans rfl
    by_cases hm : u.f0 = 1
    rotate_left
    · have hn := nextT_done (l1 := l1) hm
      have HF2 := Aside0.mk (show stepF l0 l1 u = (u, false, 0) from by rw [stepF_next HU.out (by rw [hn]; have := HTC.out; omega), hn, decide_eq_false hm])
      have hRR := HR.out
      rw [runT_done hm] at hRR
      have hX := HFR.out.1 (by rw [← hRR])
      rw [← hRR] at hX
      injection hX with hX1 hX2
      injection hX2 with hX2 hX3
      subst hX1 hX2 hX3
      clear hRR hm hn HFR HF
      go_upto_region 8 with (first
        | (go_at_call 14
           (with_reducible refine (step_at HSr.out HTu.out _ _ _ HF2.out).mono ?_)
           rintro e9 w5 ⟨Av, cv, rfl, hv, hb5⟩
           have HB5 := Aside0.mk (below_step HB.out hb5)
           have HB5r := Aside0.mk hb5
           have HTy := Aside0.mk hv
           clear hv hb5
           skip)
        | ((with_reducible refine gate_dst (N := 11) rfl ?_)
           refine box_event ?hg (N := 11) ?hd (cs := #[.int .i64 0, .int .i64 0, .slice none 0 0]) (t := 28) ?hr ?_
           (case hd => rfl)
           (case hg => rfl)
           (case hr => first | (go_simp; done) | (go_simp; rfl))
           intro g5 hg_g5 w6 hbox hbb
           have hgw_ := HB5.out.size
           have Hg5g := Aside0.mk (Nat.le_of_eq hg_g5.symm)
           have Hg5b := Aside0.mk (below_set3 (below_step HB5.out hbb) (show w.heap.size ≤ g5 from by omega) (.int .i64 X.f0) (.int .i64 X.f1) (.slice Av X.f2.length cv))
           have Hg5w := Aside0.mk (below_set3 hbb (Nat.le_of_eq hg_g5.symm) (.int .i64 X.f0) (.int .i64 X.f1) (.slice Av X.f2.length cv))
           have Hg5s := Aside0.mk (blk_set3 hbox (.int .i64 X.f0) (.int .i64 X.f1) (.slice Av X.f2.length cv))
           have hcz0 := (blk_cell hbox 0).trans rfl
           have hcz1 := (blk_cell hbox 1).trans rfl
           have hcz2 := (blk_cell hbox 2).trans rfl
           have hfz0 := blk_frozen hbox 0
           have hfz1 := blk_frozen hbox 1
           have hfz2 := blk_frozen hbox 2
           clear hgw_
           clear hbox hbb hg_g5))
      clear hcz0 hcz1 hcz2 hfz0 hfz1 hfz2 e0 e1 m0 m1 m2
      generalize (((w6.setCell ⟨g5, 0, none⟩ (.int .i64 X.f0)).setCell ⟨g5, 1, none⟩ (.int .i64 X.f1)).setCell ⟨g5, 2, none⟩ (.slice Av X.f2.length cv)) = wq at *
      have HBq := Aside0.mk (below_step HB5r.out Hg5w.out)
      have S7q := Aside0.mk (blk_below S7.out HBq.out)
      have S4q := Aside0.mk (blk_below S4.out HBq.out)
      have S3q := Aside0.mk (blk_below S3.out HBq.out)
      have HXq := Aside0.mk (HX.out.below HBq.out)
      have HTuq := Aside0.mk (HTu.out.below HBq.out)
      have x0 : wq.cell? ⟨g7, 0, none⟩ = some (.int .i64 X.f0) := (blk_cell S7q.out 0).trans rfl
      have x1 : wq.cell? ⟨g7, 1, none⟩ = some (.int .i64 X.f1) := (blk_cell S7q.out 1).trans rfl
      have x2 : wq.cell? ⟨g7, 2, none⟩ = some (.slice Ax X.f2.length cx) := (blk_cell S7q.out 2).trans rfl
      have y0 : wq.cell? ⟨g4, 0, none⟩ = some (.int .i64 X.f0) := (blk_cell S4q.out 0).trans rfl
      have y1 : wq.cell? ⟨g4, 1, none⟩ = some (.int .i64 X.f1) := (blk_cell S4q.out 1).trans rfl
      have y2 : wq.cell? ⟨g4, 2, none⟩ = some (.slice Au X.f2.length cu) := (blk_cell S4q.out 2).trans rfl
      go_wp2_with (first
      | (go_at_call 16
         (with_reducible refine (same_at HXq.out HTuq.out HTC.out).mono ?_)
         rintro e9 w8 ⟨rfl, hb8⟩
         have HB8 := Aside0.mk (below_step Hg5b.out hb8)
         clear hb8
         skip)
      | (at_builtin; fail))
      go_wp2_with fail
      (with_reducible refine (alive_calls _).mono ?_)
      rintro e9 wZ ⟨rfl, hbZ⟩
      have HZ := Aside0.mk (below_step HB8.out hbZ)
      clear hbZ
      go_wp2_with fail
      go_ret
      exact ⟨rfl, HZ.out⟩
    by_cases hbig : 100000 < tcnt (nextT l1 u)
    · have HF2 := Aside0.mk (stepF_large HU.out hbig)
      cases gk with
      | zero =>
        have hRR := HR.out
        unfold runT at hRR
        rw [if_pos hm] at hRR
        have hX := HFR.out.2 (by rw [← hRR]; show (8 : Int) ≠ 0; decide)
        rw [← hRR] at hX
        injection hX with hX1 hX2
        injection hX2 with hX2 hX3
        have hX3 : er = 8 := hX3
        subst hX2 hX3
        have hkf : k = fuel := by have := Hk.out; have := HM.out; omega
        subst hkf
        clear hRR hm hX1 hbig
        go_upto_region 7 with (first
          | (go_at_call 14
             (with_reducible refine (step_at HSr.out HTu.out _ _ _ HF2.out).mono ?_)
             rintro e9 w5 ⟨Av, cv, rfl, hv, hb5⟩
             have HB5 := Aside0.mk (below_step HB.out hb5)
             have HB5r := Aside0.mk hb5
             have HTy := Aside0.mk hv
             clear hv hb5
             skip)
          | ((with_reducible refine gate_dst (N := 11) rfl ?_)
             refine box_event ?hg (N := 11) ?hd (cs := #[.int .i64 0, .int .i64 0, .slice none 0 0]) (t := 28) ?hr ?_
             (case hd => rfl)
             (case hg => rfl)
             (case hr => first | (go_simp; done) | (go_simp; rfl))
             intro g5 hg_g5 w6 hbox hbb
             have hgw_ := HB5.out.size
             have Hg5g := Aside0.mk (Nat.le_of_eq hg_g5.symm)
             have Hg5b := Aside0.mk (below_set3 (below_step HB5.out hbb) (show w.heap.size ≤ g5 from by omega) (.int .i64 0) (.int .i64 0) (.slice Av 0 cv))
             have Hg5w := Aside0.mk (below_set3 hbb (Nat.le_of_eq hg_g5.symm) (.int .i64 0) (.int .i64 0) (.slice Av 0 cv))
             have Hg5s := Aside0.mk (blk_set3 hbox (.int .i64 0) (.int .i64 0) (.slice Av 0 cv))
             have hcz0 := (blk_cell hbox 0).trans rfl
             have hcz1 := (blk_cell hbox 1).trans rfl
             have hcz2 := (blk_cell hbox 2).trans rfl
             have hfz0 := blk_frozen hbox 0
             have hfz1 := blk_frozen hbox 1
             have hfz2 := blk_frozen hbox 2
             clear hgw_
             clear hbox hbb hg_g5))
        clear hcz0 hcz1 hcz2 hfz0 hfz1 hfz2 e0 e1 m0 m1 m2
        generalize (((w6.setCell ⟨g5, 0, none⟩ (.int .i64 0)).setCell ⟨g5, 1, none⟩ (.int .i64 0)).setCell ⟨g5, 2, none⟩ (.slice Av 0 cv)) = wq at *
        have HBq := Aside0.mk (below_step HB5r.out Hg5w.out)
        have S7q := Aside0.mk (blk_below S7.out HBq.out)
        have S4q := Aside0.mk (blk_below S4.out HBq.out)
        have S3q := Aside0.mk (blk_below S3.out HBq.out)
        have HXq := Aside0.mk (HX.out.below HBq.out)
        have HTuq := Aside0.mk (HTu.out.below HBq.out)
        go_upto_region 10 with fail
        go_wp2_with fail
        (with_reducible refine (alive_calls _).mono ?_)
        rintro e9 wZ ⟨rfl, hbZ⟩
        have HZ := Aside0.mk (below_step Hg5b.out hbZ)
        clear hbZ
        go_wp2_with fail
        go_ret
        exact ⟨rfl, HZ.out⟩
      | succ j =>
        have hRR := HR.out
        unfold runT at hRR
        rw [if_pos hm, if_pos hbig] at hRR
        have hX := HFR.out.2 (by rw [← hRR]; show (3 : Int) ≠ 0; decide)
        rw [← hRR] at hX
        injection hX with hX1 hX2
        injection hX2 with hX2 hX3
        have hX3 : er = 3 := hX3
        subst hX2 hX3
        have hkf : k ≠ fuel := by have := Hk.out; have := HM.out; omega
        have k1 : (k == fuel) = false := beq_eq_false_iff_ne.2 hkf
        have k2 : (k = fuel) = False := eq_false hkf
        clear hRR hm hX1 hbig hkf
        go_upto_region 7 with (first
          | (go_at_call 14
             (with_reducible refine (step_at HSr.out HTu.out _ _ _ HF2.out).mono ?_)
             rintro e9 w5 ⟨Av, cv, rfl, hv, hb5⟩
             have HB5 := Aside0.mk (below_step HB.out hb5)
             have HB5r := Aside0.mk hb5
             have HTy := Aside0.mk hv
             clear hv hb5
             skip)
          | ((with_reducible refine gate_dst (N := 11) rfl ?_)
             refine box_event ?hg (N := 11) ?hd (cs := #[.int .i64 0, .int .i64 0, .slice none 0 0]) (t := 28) ?hr ?_
             (case hd => rfl)
             (case hg => rfl)
             (case hr => first | (go_simp; done) | (go_simp; rfl))
             intro g5 hg_g5 w6 hbox hbb
             have hgw_ := HB5.out.size
             have Hg5g := Aside0.mk (Nat.le_of_eq hg_g5.symm)
             have Hg5b := Aside0.mk (below_set3 (below_step HB5.out hbb) (show w.heap.size ≤ g5 from by omega) (.int .i64 0) (.int .i64 0) (.slice Av 0 cv))
             have Hg5w := Aside0.mk (below_set3 hbb (Nat.le_of_eq hg_g5.symm) (.int .i64 0) (.int .i64 0) (.slice Av 0 cv))
             have Hg5s := Aside0.mk (blk_set3 hbox (.int .i64 0) (.int .i64 0) (.slice Av 0 cv))
             have hcz0 := (blk_cell hbox 0).trans rfl
             have hcz1 := (blk_cell hbox 1).trans rfl
             have hcz2 := (blk_cell hbox 2).trans rfl
             have hfz0 := blk_frozen hbox 0
             have hfz1 := blk_frozen hbox 1
             have hfz2 := blk_frozen hbox 2
             clear hgw_
             clear hbox hbb hg_g5))
        clear hcz0 hcz1 hcz2 hfz0 hfz1 hfz2 e0 e1 m0 m1 m2
        generalize (((w6.setCell ⟨g5, 0, none⟩ (.int .i64 0)).setCell ⟨g5, 1, none⟩ (.int .i64 0)).setCell ⟨g5, 2, none⟩ (.slice Av 0 cv)) = wq at *
        have HBq := Aside0.mk (below_step HB5r.out Hg5w.out)
        have S7q := Aside0.mk (blk_below S7.out HBq.out)
        have S4q := Aside0.mk (blk_below S4.out HBq.out)
        have S3q := Aside0.mk (blk_below S3.out HBq.out)
        have HXq := Aside0.mk (HX.out.below HBq.out)
        have HTuq := Aside0.mk (HTu.out.below HBq.out)
        go_upto_region 12 with fail
        go_wp2_with fail
        (with_reducible refine (alive_calls _).mono ?_)
        rintro e9 wZ ⟨rfl, hbZ⟩
        have HZ := Aside0.mk (below_step Hg5b.out hbZ)
        clear hbZ
        go_wp2_with fail
        go_ret
        exact ⟨rfl, HZ.out⟩
    have HU2 := Aside0.mk (stB_next HU.out hbig)
    have HF2 := Aside0.mk (show stepF l0 l1 u = (nextT l1 u, true, 0) from by rw [stepF_next HU.out hbig, decide_eq_true hm])
    cases gk with
    | zero =>
      have hRR := HR.out
      unfold runT at hRR
      rw [if_pos hm] at hRR
      have hX := HFR.out.2 (by rw [← hRR]; show (8 : Int) ≠ 0; decide)
      rw [← hRR] at hX
      injection hX with hX1 hX2
      injection hX2 with hX2 hX3
      have hX3 : er = 8 := hX3
      subst hX2 hX3
      have hkf : k = fuel := by have := Hk.out; have := HM.out; omega
      subst hkf
      clear hRR hm hX1 hbig
      generalize nextT l1 u = y at *
      go_upto_region 7 with (first
        | (go_at_call 14
           (with_reducible refine (step_at HSr.out HTu.out _ _ _ HF2.out).mono ?_)
           rintro e9 w5 ⟨Av, cv, rfl, hv, hb5⟩
           have HB5 := Aside0.mk (below_step HB.out hb5)
           have HB5r := Aside0.mk hb5
           have HTy := Aside0.mk hv
           clear hv hb5
           skip)
        | ((with_reducible refine gate_dst (N := 11) rfl ?_)
           refine box_event ?hg (N := 11) ?hd (cs := #[.int .i64 0, .int .i64 0, .slice none 0 0]) (t := 28) ?hr ?_
           (case hd => rfl)
           (case hg => rfl)
           (case hr => first | (go_simp; done) | (go_simp; rfl))
           intro g5 hg_g5 w6 hbox hbb
           have hgw_ := HB5.out.size
           have Hg5g := Aside0.mk (Nat.le_of_eq hg_g5.symm)
           have Hg5b := Aside0.mk (below_set3 (below_step HB5.out hbb) (show w.heap.size ≤ g5 from by omega) (.int .i64 y.f0) (.int .i64 y.f1) (.slice Av y.f2.length cv))
           have Hg5w := Aside0.mk (below_set3 hbb (Nat.le_of_eq hg_g5.symm) (.int .i64 y.f0) (.int .i64 y.f1) (.slice Av y.f2.length cv))
           have Hg5s := Aside0.mk (blk_set3 hbox (.int .i64 y.f0) (.int .i64 y.f1) (.slice Av y.f2.length cv))
           have hcz0 := (blk_cell hbox 0).trans rfl
           have hcz1 := (blk_cell hbox 1).trans rfl
           have hcz2 := (blk_cell hbox 2).trans rfl
           have hfz0 := blk_frozen hbox 0
           have hfz1 := blk_frozen hbox 1
           have hfz2 := blk_frozen hbox 2
           clear hgw_
           clear hbox hbb hg_g5))
      clear hcz0 hcz1 hcz2 hfz0 hfz1 hfz2 e0 e1 m0 m1 m2
      generalize (((w6.setCell ⟨g5, 0, none⟩ (.int .i64 y.f0)).setCell ⟨g5, 1, none⟩ (.int .i64 y.f1)).setCell ⟨g5, 2, none⟩ (.slice Av y.f2.length cv)) = wq at *
      have HBq := Aside0.mk (below_step HB5r.out Hg5w.out)
      have S7q := Aside0.mk (blk_below S7.out HBq.out)
      have S4q := Aside0.mk (blk_below S4.out HBq.out)
      have S3q := Aside0.mk (blk_below S3.out HBq.out)
      have HXq := Aside0.mk (HX.out.below HBq.out)
      have HTuq := Aside0.mk (HTu.out.below HBq.out)
      go_upto_region 10 with fail
      go_wp2_with fail
      (with_reducible refine (alive_calls _).mono ?_)
      rintro e9 wZ ⟨rfl, hbZ⟩
      have HZ := Aside0.mk (below_step Hg5b.out hbZ)
      clear hbZ
      go_wp2_with fail
      go_ret
      exact ⟨rfl, HZ.out⟩
    | succ j =>
      have hRR := HR.out
      unfold runT at hRR
      rw [if_pos hm, if_neg hbig] at hRR
      have HR2 := Aside0.mk hRR
      have hkf : k < fuel := by have := Hk.out; have := HM.out; omega
      have k1 : (k == fuel) = false := beq_eq_false_iff_ne.2 (by omega)
      have k2 : (k = fuel) = False := eq_false (by omega)
      clear hRR hm hbig
      generalize nextT l1 u = y at *
      go_upto_region 7 with (first
        | (go_at_call 14
           (with_reducible refine (step_at HSr.out HTu.out _ _ _ HF2.out).mono ?_)
           rintro e9 w5 ⟨Av, cv, rfl, hv, hb5⟩
           have HB5 := Aside0.mk (below_step HB.out hb5)
           have HB5r := Aside0.mk hb5
           have HTy := Aside0.mk hv
           clear hv hb5
           skip)
        | ((with_reducible refine gate_dst (N := 11) rfl ?_)
           refine box_event ?hg (N := 11) ?hd (cs := #[.int .i64 0, .int .i64 0, .slice none 0 0]) (t := 28) ?hr ?_
           (case hd => rfl)
           (case hg => rfl)
           (case hr => first | (go_simp; done) | (go_simp; rfl))
           intro g5 hg_g5 w6 hbox hbb
           have hgw_ := HB5.out.size
           have Hg5g := Aside0.mk (Nat.le_of_eq hg_g5.symm)
           have Hg5b := Aside0.mk (below_set3 (below_step HB5.out hbb) (show w.heap.size ≤ g5 from by omega) (.int .i64 y.f0) (.int .i64 y.f1) (.slice Av y.f2.length cv))
           have Hg5w := Aside0.mk (below_set3 hbb (Nat.le_of_eq hg_g5.symm) (.int .i64 y.f0) (.int .i64 y.f1) (.slice Av y.f2.length cv))
           have Hg5s := Aside0.mk (blk_set3 hbox (.int .i64 y.f0) (.int .i64 y.f1) (.slice Av y.f2.length cv))
           have hcz0 := (blk_cell hbox 0).trans rfl
           have hcz1 := (blk_cell hbox 1).trans rfl
           have hcz2 := (blk_cell hbox 2).trans rfl
           have hfz0 := blk_frozen hbox 0
           have hfz1 := blk_frozen hbox 1
           have hfz2 := blk_frozen hbox 2
           clear hgw_
           clear hbox hbb hg_g5))
      clear hcz0 hcz1 hcz2 hfz0 hfz1 hfz2 e0 e1 m0 m1 m2
      generalize (((w6.setCell ⟨g5, 0, none⟩ (.int .i64 y.f0)).setCell ⟨g5, 1, none⟩ (.int .i64 y.f1)).setCell ⟨g5, 2, none⟩ (.slice Av y.f2.length cv)) = wq at *
      have HBq := Aside0.mk (below_step HB5r.out Hg5w.out)
      have S7q := Aside0.mk (blk_below S7.out HBq.out)
      have S4q := Aside0.mk (blk_below S4.out HBq.out)
      have S3q := Aside0.mk (blk_below S3.out HBq.out)
      have HXq := Aside0.mk (HX.out.below HBq.out)
      have HTuq := Aside0.mk (HTu.out.below HBq.out)
      have y0 : wq.cell? ⟨g5, 0, none⟩ = some (.int .i64 y.f0) := (blk_cell Hg5s.out 0).trans rfl
      have y1 : wq.cell? ⟨g5, 1, none⟩ = some (.int .i64 y.f1) := (blk_cell Hg5s.out 1).trans rfl
      have y2 : wq.cell? ⟨g5, 2, none⟩ = some (.slice Av y.f2.length cv) := (blk_cell Hg5s.out 2).trans rfl
      have z0 : wq.cell? ⟨g4, 0, none⟩ = some (.int .i64 u.f0) := (blk_cell S4q.out 0).trans rfl
      have z1 : wq.cell? ⟨g4, 1, none⟩ = some (.int .i64 u.f1) := (blk_cell S4q.out 1).trans rfl
      have z2 : wq.cell? ⟨g4, 2, none⟩ = some (.slice Au u.f2.length cu) := (blk_cell S4q.out 2).trans rfl
      have f0 := blk_frozen S4q.out 0
      have f1 := blk_frozen S4q.out 1
      have f2 := blk_frozen S4q.out 2
      go_wp2_with fail
      go_roundg j
      case measure => omega
      case rel => exact ⟨k + 1, y, Av, cv, by first | rfl | (refine congrArg _ ?_; unfold wrap64; omega), ⟨by omega, by have := Hk.out; omega⟩, HU2, HR2, ⟨Tm.far3 ((HTy.out.below Hg5w.out).mono (fun k hk => by have := HL4.out; have : wr.heap.size ≤ k := hk; omega)) (fun _ hk => hk) _ _ _⟩, ⟨Tm.far3 HXq.out (fun _ hk => hk) _ _ _⟩, ⟨blk_far3 S7q.out (fun he => HN47.out he) _ _ _⟩, ⟨blk_set3 S4q.out _ _ _⟩, ⟨blk_far3 S3q.out (fun he => HN34.out he) _ _ _⟩, ⟨below_set3 Hg5b.out HG4.out _ _ _⟩⟩
end Go.Proofs.Ytnfgpepggehegaa.I
namespace Go.Proofs.Ytnfgpepggehegaa.I
open Go.RowKit Go.Proofs.YtnfgpepggehegaaW.PrintWords Go.Proofs.Ytnfgpepggehegaa.VOpen
set_option linter.unusedVariables false
def virgationlaw05_StepRuns.f (k : Nat) (l0 : List S87) (l1 : List S84) (a b : Int) (l : List S28) (i0 : Int) : Option Bool := some true
theorem virgationlaw05_StepRuns.calls (k : Nat) (A0 : Option Addr) (c0 : Nat) (l0 : List S87) (A1 : Option Addr) (c1 : Nat) (l1 : List S84) (a b : Int) (A3 : Option Addr) (c3 : Nat) (l : List S28) (i0 : Int) (r : Bool) (w : World) (hr0 : Kd.C k87 w A0 l0.length l0) (hc0 : l0.length ≤ c0) (hr1 : Kd.C k84 w A1 l1.length l1) (hc1 : l1.length ≤ c1) (hr3 : Kd.C k28 w A3 l.length l) (hc3 : l.length ≤ c3) (h : virgationlaw05_StepRuns.f k l0 l1 a b l i0 = some r) :
    Calls Try.prog 7 #[.agg #[.slice A0 l0.length c0, .slice A1 l1.length c1], .agg #[.int .i64 a, .int .i64 b, .slice A3 l.length c3], .int .i64 i0] w fun e w' => e = .returned (.bool r) ∧ Below w.heap.size w w' := by
  injection h with h
  subst h
  exact lawruns_calls A0 c0 l0 A1 c1 l1 ⟨a, b, l⟩ A3 c3 i0 w hr0 hc0 hr1 hc1 hr3 hc3
theorem pure_StepRuns : ∀ (x0 : S25) (x1 : S28) (x2 : Int), (wf25 x0) → (wf28 x1) → ((Lit.int .i64 x2).wf = true) → ∃ k, virgationlaw05_StepRuns.f k x0.f0 x0.f1 x1.f0 x1.f1 x1.f2 x2 = some true := by
  intros
  exact ⟨0, rfl⟩
end Go.Proofs.Ytnfgpepggehegaa.I
