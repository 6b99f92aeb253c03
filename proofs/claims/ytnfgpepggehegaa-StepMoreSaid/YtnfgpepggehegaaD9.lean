/- Texts of this session's proof, laid together: IE5, IE5F. -/
import Derived.Test.YtnfgpepggehegaaD8
namespace Go.Proofs.Ytnfgpepggehegaa.I
open Go.RowKit Go.Proofs.YtnfgpepggehegaaW.PrintWords Go.Proofs.YtnfgpepggehegaaW.PrintLast Go.Proofs.YtnfgpepggehegaaW.PrintMore
attribute [local go_sem] max2_int min2_int max_two min_two max_three min_three max_four min_four
set_option linter.unusedVariables false
set_option maxRecDepth 100000
set_option linter.unusedSimpArgs false
theorem runT_shift (l1 : List S84) : ∀ (k : Nat) (t : S28) (n d : Int), runT l1 k t (n + d) = ((runT l1 k t n).1, (runT l1 k t n).2.1 + d, (runT l1 k t n).2.2)
  | 0, t, n, d => by unfold runT; split <;> rfl
  | k + 1, t, n, d => by
    unfold runT
    split
    · split
      · rw [show n + d + 1 = n + 1 + d from by omega]
      · rw [show n + d + 1 = n + 1 + d from by omega]; exact runT_shift l1 k _ _ _
    · rfl
theorem runT_succ (l1 : List S84) : ∀ (k : Nat) (t : S28) (n : Int), (runT l1 k t n).2.2 = 0 → runT l1 (k + 1) t n = runT l1 k t n
  | 0, t, n, h => by
    unfold runT at h ⊢
    by_cases hm : t.f0 = 1
    · rw [if_pos hm] at h; exact absurd h (by show ¬ ((8 : Int) = 0); decide)
    · rw [if_neg hm, if_neg hm]
  | k + 1, t, n, h => by
    unfold runT at h
    rw [runT]
    conv => rhs; unfold runT
    by_cases hm : t.f0 = 1
    · rw [if_pos hm] at h ⊢
      rw [if_pos hm]
      by_cases hb : 100000 < tcnt (nextT l1 t)
      · rw [if_pos hb] at h; exact absurd h (by show ¬ ((3 : Int) = 0); decide)
      · rw [if_neg hb] at h ⊢
        rw [if_neg hb]
        exact runT_succ l1 k _ _ h
    · rw [if_neg hm, if_neg hm]
theorem runT_more (l1 : List S84) (k : Nat) (t : S28) (n : Int) (h : (runT l1 k t n).2.2 = 0) : ∀ j : Nat, runT l1 (k + j) t n = runT l1 k t n
  | 0 => rfl
  | j + 1 => by
    have ih := runT_more l1 k t n h j
    rw [← Nat.add_assoc, runT_succ l1 (k + j) t n (by rw [ih]; exact h), ih]
theorem runT_ge (l1 : List S84) : ∀ (k : Nat) (t : S28) (n : Int), (runT l1 k t n).2.2 = 0 → n ≤ (runT l1 k t n).2.1 ∧ (runT l1 k t n).2.1 ≤ n + k
  | 0, t, n, h => by
    unfold runT
    split <;> exact ⟨Int.le_refl _, by show n ≤ n + ((0 : Nat) : Int); omega⟩
  | k + 1, t, n, h => by
    unfold runT at h ⊢
    by_cases hm : t.f0 = 1
    · rw [if_pos hm] at h ⊢
      by_cases hb : 100000 < tcnt (nextT l1 t)
      · rw [if_pos hb] at h; exact absurd h (by show ¬ ((3 : Int) = 0); decide)
      · rw [if_neg hb] at h ⊢
        have := runT_ge l1 k _ _ h
        omega
    · rw [if_neg hm]; exact ⟨Int.le_refl _, by show n ≤ n + ((k + 1 : Nat) : Int); omega⟩
theorem runF_cases {l0 : List S87} {l1 : List S84} {t X : S28} {fuel n e : Int} (h0 : 0 ≤ fuel) (h1 : fuel ≤ 1048576) (hF : runF l0 l1 t fuel = (X, n, e)) : (e ≠ 0 → n = 0) ∧ (e = 0 → stB l0 l1 t = 0 ∧ runT l1 fuel.toNat t 0 = (X, n, 0) ∧ tcnt X ≤ 100000) := by
  by_cases hz : stB l0 l1 t = 0
  · obtain ⟨h2, h3⟩ := runF_ok hz h0 h1 hF rfl
    by_cases hr : (runT l1 fuel.toNat t 0).2.2 = 0
    · have h4 := h2 hr
      have he : e = 0 := by rw [← h4] at hr; exact hr
      have hs := runT_small l1 fuel.toNat t 0 (stB_zero hz).2.1 hr
      rw [← h4] at hs
      refine ⟨fun h => absurd he h, fun _ => ⟨hz, by rw [← h4, he], hs⟩⟩
    · have h4 := h3 hr
      injection h4 with h4 h5
      injection h5 with h5 h6
      exact ⟨fun _ => h5, fun h => absurd (h6.symm.trans h) hr⟩
  · unfold runF at hF
    rw [if_neg hz] at hF
    injection hF with h4 h5
    injection h5 with h5 h6
    exact ⟨fun _ => h5.symm, fun h => absurd (h6.trans h) hz⟩
theorem runF_of {l0 : List S87} {l1 : List S84} {t X : S28} {fuel n : Int} (hz : stB l0 l1 t = 0) (h0 : 0 ≤ fuel) (h1 : fuel ≤ 1048576) (hR : runT l1 fuel.toNat t 0 = (X, n, 0)) : runF l0 l1 t fuel = (X, n, 0) := by
  unfold runF runG
  rw [if_pos hz, if_neg (by omega), hR]
  rfl
theorem runT_round {l1 : List S84} {j : Nat} {u X : S28} {i n : Int} (h : runT l1 j u i = (X, n, 0)) (hn : i < n) : u.f0 = 1 ∧ ¬ 100000 < tcnt (nextT l1 u) ∧ ∃ j', j = j' + 1 ∧ runT l1 j' (nextT l1 u) (i + 1) = (X, n, 0) := by
  by_cases hm : u.f0 = 1
  · cases j with
    | zero =>
      unfold runT at h
      rw [if_pos hm] at h
      injection h with _ h
      injection h with _ h
      exact absurd h (by decide)
    | succ j =>
      unfold runT at h
      rw [if_pos hm] at h
      by_cases hb : 100000 < tcnt (nextT l1 u)
      · rw [if_pos hb] at h
        injection h with _ h
        injection h with _ h
        exact absurd h (by decide)
      · rw [if_neg hb] at h
        exact ⟨hm, hb, j, rfl, h⟩
  · rw [runT_done hm] at h
    injection h with _ h
    injection h with h _
    omega
set_option maxHeartbeats 16000000 in
theorem lawmore_calls (A0 : Option Addr) (c0 : Nat) (l0 : List S87) (A1 : Option Addr) (c1 : Nat) (l1 : List S84) (t : S28) (A3 : Option Addr) (c3 : Nat) (fuel : Int) (more : Int) (k : Int) (w : World) (hr0 : Kd.C k87 w A0 l0.length l0) (hc0 : l0.length ≤ c0) (hr1 : Kd.C k84 w A1 l1.length l1) (hc1 : l1.length ≤ c1) (hr3 : Kd.C k28 w A3 t.f2.length t.f2) (hc3 : t.f2.length ≤ c3) :
    Calls Try.prog 8 #[.agg #[.slice A0 l0.length c0, .slice A1 l1.length c1], .agg #[.int .i64 t.f0, .int .i64 t.f1, .slice A3 t.f2.length c3], .int .i64 fuel, .int .i64 more, .int .i64 k] w fun e w' => e = .returned (.bool true) ∧ Below w.heap.size w w' := by
  have hu25 := Try.underlying25
  have hu28 := Try.underlying28
  have HS := Aside0.mk (show Sch w A0 c0 l0 A1 c1 l1 from ⟨hr0, hc0, hr1, hc1⟩)
  have HT := Aside0.mk (Tm.of hr3 hc3)
  clear hr0 hc0 hr1 hc1 hr3 hc3
  go_enter Try.func8, Try.ntmps8
  go_upto_region 1 with (first
    | ((with_reducible refine gate_dst (N := 5) rfl ?_)
       refine box_event ?hg (N := 5) ?hd (cs := #[.slice A0 l0.length c0, .slice A1 l1.length c1]) (t := 25) ?hr ?_
       (case hd => rfl)
       (case hg => rfl)
       (case hr => first | (go_simp; done) | (go_simp; rfl))
       intro g5 hg_g5 w2 hbox hbb
       have S2 := Aside0.mk hbox
       have HB2 := Aside0.mk hbb
       clear hbox hbb hg_g5)
    | ((with_reducible refine gate_dst (N := 6) rfl ?_)
       refine box_event ?hg (N := 6) ?hd (cs := #[.int .i64 t.f0, .int .i64 t.f1, .slice A3 t.f2.length c3]) (t := 28) ?hr ?_
       (case hd => rfl)
       (case hg => rfl)
       (case hr => first | (go_simp; done) | (go_simp; rfl))
       intro g6 hg_g6 w3 hbox hbb
       have S5 := Aside0.mk (blk_below S2.out hbb)
       have HB3 := Aside0.mk (below_step HB2.out hbb)
       have S6 := Aside0.mk hbox
       have HG6 := Aside0.mk (show w.heap.size ≤ g6 from by have := HB2.out.size; omega)
       have HN56 := Aside0.mk (show g5 ≠ g6 from by have := blk_lt S2.out; omega)
       clear S2 HB2
       clear hbox hbb hg_g6))
  have HT3 := Aside0.mk (show Tm w3 (fun k => k ≠ g6) t A3 c3 from (HT.out.below HB3.out).mono (fun k hk => by have := HG6.out; omega))
  clear HT
  by_cases hf0 : fuel < 0
  · have q0 : (fuel < 0) = True := eq_true hf0
    go_upto_region 2 with fail
    go_wp2_with fail
    (with_reducible refine (alive_calls _).mono ?_)
    rintro e9 wZ ⟨rfl, hbZ⟩
    have HZ := Aside0.mk (below_step HB3.out hbZ)
    clear hbZ
    go_wp2_with fail
    go_ret
    exact ⟨rfl, HZ.out⟩
  have q0 : (fuel < 0) = False := eq_false hf0
  by_cases hf1 : 300 < fuel
  · have q1 : (300 < fuel) = True := eq_true hf1
    go_upto_region 2 with fail
    go_wp2_with fail
    (with_reducible refine (alive_calls _).mono ?_)
    rintro e9 wZ ⟨rfl, hbZ⟩
    have HZ := Aside0.mk (below_step HB3.out hbZ)
    clear hbZ
    go_wp2_with fail
    go_ret
    exact ⟨rfl, HZ.out⟩
  have q1 : (300 < fuel) = False := eq_false hf1
  by_cases hf2 : more < fuel
  · have q2 : (more < fuel) = True := eq_true hf2
    go_upto_region 2 with fail
    go_wp2_with fail
    (with_reducible refine (alive_calls _).mono ?_)
    rintro e9 wZ ⟨rfl, hbZ⟩
    have HZ := Aside0.mk (below_step HB3.out hbZ)
    clear hbZ
    go_wp2_with fail
    go_ret
    exact ⟨rfl, HZ.out⟩
  have q2 : (more < fuel) = False := eq_false hf2
  by_cases hf3 : 1048576 < more
  · have q3 : (1048576 < more) = True := eq_true hf3
    go_upto_region 2 with fail
    go_wp2_with fail
    (with_reducible refine (alive_calls _).mono ?_)
    rintro e9 wZ ⟨rfl, hbZ⟩
    have HZ := Aside0.mk (below_step HB3.out hbZ)
    clear hbZ
    go_wp2_with fail
    go_ret
    exact ⟨rfl, HZ.out⟩
  have q3 : (1048576 < more) = False := eq_false hf3
  obtain ⟨⟨X, n, er⟩, hF⟩ : ∃ F, runF l0 l1 t fuel = F := ⟨_, rfl⟩
  have HC := Aside0.mk (runF_cases (by omega) (by omega) hF)
  have HF := Aside0.mk hF
  clear hF
  go_upto_region 3 with fail
  clear q0 q1 q2 q3
  have e0 : w3.cell? ⟨g5, 0, none⟩ = some (.slice A0 l0.length c0) := (blk_cell S5.out 0).trans rfl
  have e1 : w3.cell? ⟨g5, 1, none⟩ = some (.slice A1 l1.length c1) := (blk_cell S5.out 1).trans rfl
  have m0 : w3.cell? ⟨g6, 0, none⟩ = some (.int .i64 t.f0) := (blk_cell S6.out 0).trans rfl
  have m1 : w3.cell? ⟨g6, 1, none⟩ = some (.int .i64 t.f1) := (blk_cell S6.out 1).trans rfl
  have m2 : w3.cell? ⟨g6, 2, none⟩ = some (.slice A3 t.f2.length c3) := (blk_cell S6.out 2).trans rfl
  go_upto_region 4 with (first
    | (go_at_call 17
       (with_reducible refine (run_at (HS.out.below HB3.out) HT3.out fuel _ _ _ HF.out).mono ?_)
       rintro e9 w5 ⟨Ax, cx, rfl, hv, hb5⟩
       have HB5 := Aside0.mk (below_step HB3.out hb5)
       have HB5r := Aside0.mk hb5
       have HX := Aside0.mk hv
       clear hv hb5
       skip)
    | ((with_reducible refine gate_dst (N := 11) rfl ?_)
       refine box_event ?hg (N := 11) ?hd (cs := #[.int .i64 0, .int .i64 0, .slice none 0 0]) (t := 28) ?hr ?_
       (case hd => rfl)
       (case hg => rfl)
       (case hr => first | (go_simp; done) | (go_simp; rfl))
       intro gx hg_gx w6 hbox hbb
       have hgw_ := HB5.out.size
       have Hgxg := Aside0.mk (Nat.le_of_eq hg_gx.symm)
       have Hgxb := Aside0.mk (below_set3 (below_step HB5.out hbb) (show w.heap.size ≤ gx from by omega) (.int .i64 X.f0) (.int .i64 X.f1) (.slice Ax X.f2.length cx))
       have Hgxw := Aside0.mk (below_set3 hbb (Nat.le_of_eq hg_gx.symm) (.int .i64 X.f0) (.int .i64 X.f1) (.slice Ax X.f2.length cx))
       have Hgxs := Aside0.mk (blk_set3 hbox (.int .i64 X.f0) (.int .i64 X.f1) (.slice Ax X.f2.length cx))
       have hcz0 := (blk_cell hbox 0).trans rfl
       have hcz1 := (blk_cell hbox 1).trans rfl
       have hcz2 := (blk_cell hbox 2).trans rfl
       have hfz0 := blk_frozen hbox 0
       have hfz1 := blk_frozen hbox 1
       have hfz2 := blk_frozen hbox 2
       clear hgw_
       clear hbox hbb hg_gx))
  clear hcz0 hcz1 hcz2 hfz0 hfz1 hfz2 e0 e1 m0 m1 m2
  generalize (((w6.setCell ⟨gx, 0, none⟩ (.int .i64 X.f0)).setCell ⟨gx, 1, none⟩ (.int .i64 X.f1)).setCell ⟨gx, 2, none⟩ (.slice Ax X.f2.length cx)) = wq at *
  have HBq := Aside0.mk (below_step HB5r.out Hgxw.out)
  have S5q := Aside0.mk (blk_below S5.out HBq.out)
  have S6q := Aside0.mk (blk_below S6.out HBq.out)
  have HTq := Aside0.mk (HT3.out.below HBq.out)
  have HL6 := Aside0.mk (blk_lt S6.out)
  have HXq := Aside0.mk (show Tm wq (fun k => k ≠ g6) X Ax cx from (HX.out.below Hgxw.out).mono (fun k hk => by have h1 := HL6.out; have h2 : w3.heap.size ≤ k := hk; omega))
  have HN6x := Aside0.mk (show gx ≠ g6 from fun he => by have h1 := HL6.out; have h2 := Hgxg.out; have h3 := HB5r.out.size; omega)
  clear S5 S6 HT3 HX HB3 HB5 HB5r HBq
  by_cases hz : er = 0
  rotate_left
  · have hn := HC.out.1 hz
    subst hn
    have q1 : (er != 0) = true := bne_iff_ne.2 hz
    have q2 : (er == 0) = false := beq_eq_false_iff_ne.2 hz
    clear hz
    go_upto_region 5 with fail
    go_wp2_with fail
    (with_reducible refine (alive_calls _).mono ?_)
    rintro e9 wZ ⟨rfl, hbZ⟩
    have HZ := Aside0.mk (below_step Hgxb.out hbZ)
    clear hbZ
    go_wp2_with fail
    go_ret
    exact ⟨rfl, HZ.out⟩
  subst hz
  obtain ⟨hz, hR, hXs⟩ := HC.out.2 rfl
  have HF2 := Aside0.mk (show runF l0 l1 t more = (X, n, 0) from runF_of hz (by omega) (by omega) (by
    have h := runT_more l1 fuel.toNat t 0 (by rw [hR]) (more.toNat - fuel.toNat)
    rw [show fuel.toNat + (more.toNat - fuel.toNat) = more.toNat from by omega] at h
    rw [h, hR]))
  have HNB := Aside0.mk (show 0 ≤ n ∧ n ≤ fuel from by
    have h := runT_ge l1 fuel.toNat t 0 (by rw [hR])
    rw [hR] at h
    have h1 : 0 ≤ n ∧ n ≤ 0 + (fuel.toNat : Int) := h
    omega)
  have HZ0 := Aside0.mk hz
  have HR0 := Aside0.mk hR
  have HXS := Aside0.mk hXs
  clear hz hR hXs HC
  have e0 : wq.cell? ⟨g5, 0, none⟩ = some (.slice A0 l0.length c0) := (blk_cell S5q.out 0).trans rfl
  have e1 : wq.cell? ⟨g5, 1, none⟩ = some (.slice A1 l1.length c1) := (blk_cell S5q.out 1).trans rfl
  have m0 : wq.cell? ⟨g6, 0, none⟩ = some (.int .i64 t.f0) := (blk_cell S6q.out 0).trans rfl
  have m1 : wq.cell? ⟨g6, 1, none⟩ = some (.int .i64 t.f1) := (blk_cell S6q.out 1).trans rfl
  have m2 : wq.cell? ⟨g6, 2, none⟩ = some (.slice A3 t.f2.length c3) := (blk_cell S6q.out 2).trans rfl
  go_upto_region 7 with (first
    | (go_at_call 17
       (with_reducible refine (run_at (HS.out.below Hgxb.out) HTq.out more _ _ _ HF2.out).mono ?_)
       rintro e9 w7 ⟨Ay, cy, rfl, hv, hb7⟩
       have HB7 := Aside0.mk (below_step Hgxb.out hb7)
       have HB7r := Aside0.mk hb7
       have HY := Aside0.mk hv
       clear hv hb7
       skip)
    | ((with_reducible refine gate_dst (N := 14) rfl ?_)
       refine box_event ?hg (N := 14) ?hd (cs := #[.int .i64 0, .int .i64 0, .slice none 0 0]) (t := 28) ?hr ?_
       (case hd => rfl)
       (case hg => rfl)
       (case hr => first | (go_simp; done) | (go_simp; rfl))
       intro gy hg_gy w8 hbox hbb
       have hgw_ := HB7.out.size
       have Hgyg := Aside0.mk (Nat.le_of_eq hg_gy.symm)
       have Hgyb := Aside0.mk (below_set3 (below_step HB7.out hbb) (show w.heap.size ≤ gy from by omega) (.int .i64 X.f0) (.int .i64 X.f1) (.slice Ay X.f2.length cy))
       have Hgyw := Aside0.mk (below_set3 hbb (Nat.le_of_eq hg_gy.symm) (.int .i64 X.f0) (.int .i64 X.f1) (.slice Ay X.f2.length cy))
       have Hgys := Aside0.mk (blk_set3 hbox (.int .i64 X.f0) (.int .i64 X.f1) (.slice Ay X.f2.length cy))
       have hcz0 := (blk_cell hbox 0).trans rfl
       have hcz1 := (blk_cell hbox 1).trans rfl
       have hcz2 := (blk_cell hbox 2).trans rfl
       have hfz0 := blk_frozen hbox 0
       have hfz1 := blk_frozen hbox 1
       have hfz2 := blk_frozen hbox 2
       clear hgw_
       clear hbox hbb hg_gy))
  clear hcz0 hcz1 hcz2 hfz0 hfz1 hfz2 e0 e1 m0 m1 m2
  generalize (((w8.setCell ⟨gy, 0, none⟩ (.int .i64 X.f0)).setCell ⟨gy, 1, none⟩ (.int .i64 X.f1)).setCell ⟨gy, 2, none⟩ (.slice Ay X.f2.length cy)) = wp at *
  have HBp := Aside0.mk (below_step HB7r.out Hgyw.out)
  have S5p := Aside0.mk (blk_below S5q.out HBp.out)
  have S6p := Aside0.mk (blk_below S6q.out HBp.out)
  have Sxp := Aside0.mk (blk_below Hgxs.out HBp.out)
  have HTp := Aside0.mk (HTq.out.below HBp.out)
  have HXp := Aside0.mk (HXq.out.below HBp.out)
  have HYp := Aside0.mk (HY.out.below Hgyw.out)
  clear S5q S6q Hgxs HTq HXq HY HB7 HB7r HBp Hgxb
  have x0 : wp.cell? ⟨gx, 0, none⟩ = some (.int .i64 X.f0) := (blk_cell Sxp.out 0).trans rfl
  have x1 : wp.cell? ⟨gx, 1, none⟩ = some (.int .i64 X.f1) := (blk_cell Sxp.out 1).trans rfl
  have x2 : wp.cell? ⟨gx, 2, none⟩ = some (.slice Ax X.f2.length cx) := (blk_cell Sxp.out 2).trans rfl
  have y0 : wp.cell? ⟨gy, 0, none⟩ = some (.int .i64 X.f0) := (blk_cell Hgys.out 0).trans rfl
  have y1 : wp.cell? ⟨gy, 1, none⟩ = some (.int .i64 X.f1) := (blk_cell Hgys.out 1).trans rfl
  have y2 : wp.cell? ⟨gy, 2, none⟩ = some (.slice Ay X.f2.length cy) := (blk_cell Hgys.out 2).trans rfl
  go_upto_region 9 with (first
    | (go_at_call 16
       (with_reducible refine (same_at HXp.out HYp.out HXS.out).mono ?_)
       rintro e9 w9 ⟨rfl, hb9⟩
       have HB9 := Aside0.mk (below_step Hgyb.out hb9)
       have S59 := Aside0.mk (blk_below S5p.out hb9)
       have S69 := Aside0.mk (blk_below S6p.out hb9)
       have Sx9 := Aside0.mk (blk_below Sxp.out hb9)
       have HT9 := Aside0.mk (HTp.out.below hb9)
       have HX9 := Aside0.mk (HXp.out.below hb9)
       clear hb9
       skip))
  clear x0 x1 x2 y0 y1 y2 S5p S6p Sxp HTp HXp HYp Hgyb Hgys Hgyw
  by_cases hk0 : k < 0
  · have q0 : (k < 0) = True := eq_true hk0
    go_upto_region 10 with fail
    go_wp2_with fail
    (with_reducible refine (alive_calls _).mono ?_)
    rintro e9 wZ ⟨rfl, hbZ⟩
    have HZ := Aside0.mk (below_step HB9.out hbZ)
    clear hbZ
    go_wp2_with fail
    go_ret
    exact ⟨rfl, HZ.out⟩
  have q0 : (k < 0) = False := eq_false hk0
  by_cases hk1 : n < k
  · have q1 : (n < k) = True := eq_true hk1
    go_upto_region 10 with fail
    go_wp2_with fail
    (with_reducible refine (alive_calls _).mono ?_)
    rintro e9 wZ ⟨rfl, hbZ⟩
    have HZ := Aside0.mk (below_step HB9.out hbZ)
    clear hbZ
    go_wp2_with fail
    go_ret
    exact ⟨rfl, HZ.out⟩
  have q1 : (n < k) = False := eq_false hk1
  go_upto_region 11 with fail
  clear q0 q1
  go_wp2_with fail
  obtain ⟨M, hM⟩ : ∃ M : Nat, M = k.toNat := ⟨_, rfl⟩
  have HM := Aside0.mk (show (M : Int) = k from by omega)
  clear hM
  go_loopg [84] M (fun kq v84 wr => ∃ (i : Int) (u : S28) (Au : Option Addr) (cu : Nat), v84 = .int .i64 i ∧ Aside0 (0 ≤ i ∧ i + kq = M) ∧ Aside0 (stB l0 l1 u = 0) ∧ Aside0 (∃ j : Nat, (j : Int) + i = fuel ∧ runT l1 j u i = (X, n, 0)) ∧ Aside0 (Tm wr (fun k => k ≠ g6) u Au cu) ∧ Aside0 (Tm wr (fun k => k ≠ g6) X Ax cx) ∧ Aside0 (wr.heap[gx]? = some (.cells #[.int .i64 X.f0, .int .i64 X.f1, .slice Ax X.f2.length cx] 28 (0, 0))) ∧ Aside0 (wr.heap[g6]? = some (.cells #[.int .i64 u.f0, .int .i64 u.f1, .slice Au u.f2.length cu] 28 (0, 0))) ∧ Aside0 (wr.heap[g5]? = some (.cells #[.slice A0 l0.length c0, .slice A1 l1.length c1] 25 (0, 0))) ∧ Aside0 (Below w.heap.size w wr))
  case atStart => exact ⟨0, t, A3, c3, rfl, ⟨by omega, by omega⟩, HZ0, ⟨fuel.toNat, by omega, HR0.out⟩, HT9, HX9, Sx9, S69, S59, HB9⟩
  case round =>
    clear HZ0 HR0 HT9 HX9 Sx9 S69 S59 HB9
    obtain ⟨i, u, Au, cu, rfl, Hi, HU, HJ, HTu, HX, Sx, S6, S5, HB⟩ := hrel
    have hi0 := Hi.out.1
    have HSr := Aside0.mk (HS.out.below HB.out)
    have HL := Aside0.mk (blk_lt S6.out)
    have e0 : wr.cell? ⟨g5, 0, none⟩ = some (.slice A0 l0.length c0) := (blk_cell S5.out 0).trans rfl
    have e1 : wr.cell? ⟨g5, 1, none⟩ = some (.slice A1 l1.length c1) := (blk_cell S5.out 1).trans rfl
    have m0 : wr.cell? ⟨g6, 0, none⟩ = some (.int .i64 u.f0) := (blk_cell S6.out 0).trans rfl
    have m1 : wr.cell? ⟨g6, 1, none⟩ = some (.int .i64 u.f1) := (blk_cell S6.out 1).trans rfl
    have m2 : wr.cell? ⟨g6, 2, none⟩ = some (.slice Au u.f2.length cu) := (blk_cell S6.out 2).trans rfl
    by_cases hlt : i < k
    · have q0 : (i < k) = True := eq_true hlt
      obtain ⟨j, hj, hR⟩ := HJ.out
      obtain ⟨hm, hb, j', hj', hR'⟩ := runT_round hR (by omega)
      have HF3 := Aside0.mk (show stepF l0 l1 u = (nextT l1 u, true, 0) from by rw [stepF_next HU.out hb, decide_eq_true hm])
      have HU2 := Aside0.mk (stB_next HU.out hb)
      have HJ2 := Aside0.mk (show ∃ j : Nat, (j : Int) + (i + 1) = fuel ∧ runT l1 j (nextT l1 u) (i + 1) = (X, n, 0) from ⟨j', by omega, hR'⟩)
      clear hR hm hb hR' HJ hj hj'
      generalize nextT l1 u = y at *
      go_upto_region 13 with fail
      go_upto_region 14 with (first
        | (go_at_call 14
           (with_reducible refine (step_at HSr.out HTu.out _ _ _ HF3.out).mono ?_)
           rintro e9 w5 ⟨Av, cv, rfl, hv, hb5⟩
           have HB5 := Aside0.mk (below_step HB.out hb5)
           have HB5r := Aside0.mk hb5
           have HTy := Aside0.mk hv
           clear hv hb5
           skip)
        | ((with_reducible refine gate_dst (N := 17) rfl ?_)
           refine box_event ?hg (N := 17) ?hd (cs := #[.int .i64 0, .int .i64 0, .slice none 0 0]) (t := 28) ?hr ?_
           (case hd => rfl)
           (case hg => rfl)
           (case hr => first | (go_simp; done) | (go_simp; rfl))
           intro gv hg_gv w6 hbox hbb
           have hgw_ := HB5.out.size
           have Hgvg := Aside0.mk (Nat.le_of_eq hg_gv.symm)
           have Hgvb := Aside0.mk (below_set3 (below_step HB5.out hbb) (show w.heap.size ≤ gv from by omega) (.int .i64 y.f0) (.int .i64 y.f1) (.slice Av y.f2.length cv))
           have Hgvw := Aside0.mk (below_set3 hbb (Nat.le_of_eq hg_gv.symm) (.int .i64 y.f0) (.int .i64 y.f1) (.slice Av y.f2.length cv))
           have Hgvs := Aside0.mk (blk_set3 hbox (.int .i64 y.f0) (.int .i64 y.f1) (.slice Av y.f2.length cv))
           have hcz0 := (blk_cell hbox 0).trans rfl
           have hcz1 := (blk_cell hbox 1).trans rfl
           have hcz2 := (blk_cell hbox 2).trans rfl
           have hfz0 := blk_frozen hbox 0
           have hfz1 := blk_frozen hbox 1
           have hfz2 := blk_frozen hbox 2
           clear hgw_
           clear hbox hbb hg_gv))
      clear hcz0 hcz1 hcz2 hfz0 hfz1 hfz2 e0 e1 m0 m1 m2
      generalize (((w6.setCell ⟨gv, 0, none⟩ (.int .i64 y.f0)).setCell ⟨gv, 1, none⟩ (.int .i64 y.f1)).setCell ⟨gv, 2, none⟩ (.slice Av y.f2.length cv)) = wq at *
      have HBq := Aside0.mk (below_step HB5r.out Hgvw.out)
      have Sxq := Aside0.mk (blk_below Sx.out HBq.out)
      have S6q := Aside0.mk (blk_below S6.out HBq.out)
      have S5q := Aside0.mk (blk_below S5.out HBq.out)
      have HXq := Aside0.mk (HX.out.below HBq.out)
      have y0 : wq.cell? ⟨gv, 0, none⟩ = some (.int .i64 y.f0) := (blk_cell Hgvs.out 0).trans rfl
      have y1 : wq.cell? ⟨gv, 1, none⟩ = some (.int .i64 y.f1) := (blk_cell Hgvs.out 1).trans rfl
      have y2 : wq.cell? ⟨gv, 2, none⟩ = some (.slice Av y.f2.length cv) := (blk_cell Hgvs.out 2).trans rfl
      have z0 : wq.cell? ⟨g6, 0, none⟩ = some (.int .i64 u.f0) := (blk_cell S6q.out 0).trans rfl
      have z1 : wq.cell? ⟨g6, 1, none⟩ = some (.int .i64 u.f1) := (blk_cell S6q.out 1).trans rfl
      have z2 : wq.cell? ⟨g6, 2, none⟩ = some (.slice Au u.f2.length cu) := (blk_cell S6q.out 2).trans rfl
      have f0 := blk_frozen S6q.out 0
      have f1 := blk_frozen S6q.out 1
      have f2 := blk_frozen S6q.out 2
      go_wp2_with fail
      have hko := Hi.out
      obtain ⟨k1, rfl⟩ : ∃ k1, gk = k1 + 1 := ⟨gk - 1, by have := HM.out; omega⟩
      go_roundg k1
      case measure => omega
      case rel => exact ⟨i + 1, y, Av, cv, by first | rfl | (refine congrArg _ ?_; unfold wrap64; have := HNB.out; omega), ⟨by omega, by omega⟩, HU2, HJ2, ⟨Tm.far3 ((HTy.out.below Hgvw.out).mono (fun k hk => by have := HL.out; have : wr.heap.size ≤ k := hk; omega)) (fun _ hk => hk) _ _ _⟩, ⟨Tm.far3 HXq.out (fun _ hk => hk) _ _ _⟩, ⟨blk_far3 Sxq.out (fun he => HN6x.out he) _ _ _⟩, ⟨blk_set3 S6q.out _ _ _⟩, ⟨blk_far3 S5q.out (fun he => HN56.out he) _ _ _⟩, ⟨below_set3 Hgvb.out HG6.out _ _ _⟩⟩
    have q0 : (i < k) = False := eq_false hlt
    have hik : i = k := by have := Hi.out; have := HM.out; omega
    subst hik
    obtain ⟨j, hj, hR⟩ := HJ.out
    have HF4 := Aside0.mk (show runF l0 l1 u fuel = (X, n - i, 0) from runF_of HU.out (by omega) (by omega) (by
      have h := runT_shift l1 j u 0 i
      rw [Int.zero_add, hR] at h
      injection h with h1 h2
      injection h2 with h2 h3
      have h0 := runT_more l1 j u 0 h3.symm (fuel.toNat - j)
      rw [show j + (fuel.toNat - j) = fuel.toNat from by omega] at h0
      rw [h0]
      generalize runT l1 j u 0 = Q at *
      obtain ⟨q1, q2, q3⟩ := Q
      have h1 : X = q1 := h1
      have h2 : n = q2 + i := h2
      have h3 : 0 = q3 := h3
      rw [← h1, ← h3, show q2 = n - i from by omega]))
    clear hR hj HJ
    go_upto_region 19 with (first
      | (go_at_call 17
         (with_reducible refine (run_at HSr.out HTu.out fuel _ _ _ HF4.out).mono ?_)
         rintro e9 w5 ⟨Av, cv, rfl, hv, hb5⟩
         have HB5 := Aside0.mk (below_step HB.out hb5)
         have HB5r := Aside0.mk hb5
         have HTy := Aside0.mk hv
         clear hv hb5
         skip)
      | ((with_reducible refine gate_dst (N := 20) rfl ?_)
         refine box_event ?hg (N := 20) ?hd (cs := #[.int .i64 0, .int .i64 0, .slice none 0 0]) (t := 28) ?hr ?_
         (case hd => rfl)
         (case hg => rfl)
         (case hr => first | (go_simp; done) | (go_simp; rfl))
         intro gv hg_gv w6 hbox hbb
         have hgw_ := HB5.out.size
         have Hgvg := Aside0.mk (Nat.le_of_eq hg_gv.symm)
         have Hgvb := Aside0.mk (below_set3 (below_step HB5.out hbb) (show w.heap.size ≤ gv from by omega) (.int .i64 X.f0) (.int .i64 X.f1) (.slice Av X.f2.length cv))
         have Hgvw := Aside0.mk (below_set3 hbb (Nat.le_of_eq hg_gv.symm) (.int .i64 X.f0) (.int .i64 X.f1) (.slice Av X.f2.length cv))
         have Hgvs := Aside0.mk (blk_set3 hbox (.int .i64 X.f0) (.int .i64 X.f1) (.slice Av X.f2.length cv))
         have hcz0 := (blk_cell hbox 0).trans rfl
         have hcz1 := (blk_cell hbox 1).trans rfl
         have hcz2 := (blk_cell hbox 2).trans rfl
         have hfz0 := blk_frozen hbox 0
         have hfz1 := blk_frozen hbox 1
         have hfz2 := blk_frozen hbox 2
         clear hgw_
         clear hbox hbb hg_gv))
    clear hcz0 hcz1 hcz2 hfz0 hfz1 hfz2 e0 e1 m0 m1 m2
    generalize (((w6.setCell ⟨gv, 0, none⟩ (.int .i64 X.f0)).setCell ⟨gv, 1, none⟩ (.int .i64 X.f1)).setCell ⟨gv, 2, none⟩ (.slice Av X.f2.length cv)) = wq at *
    have HBq := Aside0.mk (below_step HB5r.out Hgvw.out)
    have Sxq := Aside0.mk (blk_below Sx.out HBq.out)
    have HXq := Aside0.mk (HX.out.below HBq.out)
    have HTyq := Aside0.mk (HTy.out.below Hgvw.out)
    have hnb := HNB.out
    have hw1 : IntKind.i64.wrap (n - i) = n - i := (i64_w _).trans (by unfold wrap64; omega)
    have hw2 : wrap64 (n - i) = n - i := by unfold wrap64; omega
    have x0 : wq.cell? ⟨gx, 0, none⟩ = some (.int .i64 X.f0) := (blk_cell Sxq.out 0).trans rfl
    have x1 : wq.cell? ⟨gx, 1, none⟩ = some (.int .i64 X.f1) := (blk_cell Sxq.out 1).trans rfl
    have x2 : wq.cell? ⟨gx, 2, none⟩ = some (.slice Ax X.f2.length cx) := (blk_cell Sxq.out 2).trans rfl
    have y0 : wq.cell? ⟨gv, 0, none⟩ = some (.int .i64 X.f0) := (blk_cell Hgvs.out 0).trans rfl
    have y1 : wq.cell? ⟨gv, 1, none⟩ = some (.int .i64 X.f1) := (blk_cell Hgvs.out 1).trans rfl
    have y2 : wq.cell? ⟨gv, 2, none⟩ = some (.slice Av X.f2.length cv) := (blk_cell Hgvs.out 2).trans rfl
    go_wp2_with (first
      | (go_at_call 16
         (with_reducible refine (same_at HXq.out HTyq.out HXS.out).mono ?_)
         rintro e9 w8 ⟨rfl, hb8⟩
         have HB8 := Aside0.mk (below_step Hgvb.out hb8)
         clear hb8
         skip)
      | (at_builtin; fail))
    (with_reducible refine (alive_calls _).mono ?_)
    rintro e9 wZ ⟨rfl, hbZ⟩
    have HZ := Aside0.mk (below_step HB8.out hbZ)
    clear hbZ
    go_wp2_with fail
    go_ret
    exact ⟨rfl, HZ.out⟩
end Go.Proofs.Ytnfgpepggehegaa.I
namespace Go.Proofs.Ytnfgpepggehegaa.I
open Go.RowKit Go.Proofs.YtnfgpepggehegaaW.PrintWords Go.Proofs.Ytnfgpepggehegaa.VOpen
set_option linter.unusedVariables false
def virgationlaw05_StepMore.f (k : Nat) (l0 : List S87) (l1 : List S84) (a b : Int) (l : List S28) (i0 : Int) (i1 : Int) (i2 : Int) : Option Bool := some true
theorem virgationlaw05_StepMore.calls (k : Nat) (A0 : Option Addr) (c0 : Nat) (l0 : List S87) (A1 : Option Addr) (c1 : Nat) (l1 : List S84) (a b : Int) (A3 : Option Addr) (c3 : Nat) (l : List S28) (i0 : Int) (i1 : Int) (i2 : Int) (r : Bool) (w : World) (hr0 : Kd.C k87 w A0 l0.length l0) (hc0 : l0.length ≤ c0) (hr1 : Kd.C k84 w A1 l1.length l1) (hc1 : l1.length ≤ c1) (hr3 : Kd.C k28 w A3 l.length l) (hc3 : l.length ≤ c3) (h : virgationlaw05_StepMore.f k l0 l1 a b l i0 i1 i2 = some r) :
    Calls Try.prog 8 #[.agg #[.slice A0 l0.length c0, .slice A1 l1.length c1], .agg #[.int .i64 a, .int .i64 b, .slice A3 l.length c3], .int .i64 i0, .int .i64 i1, .int .i64 i2] w fun e w' => e = .returned (.bool r) ∧ Below w.heap.size w w' := by
  injection h with h
  subst h
  exact lawmore_calls A0 c0 l0 A1 c1 l1 ⟨a, b, l⟩ A3 c3 i0 i1 i2 w hr0 hc0 hr1 hc1 hr3 hc3
theorem pure_StepMore : ∀ (x0 : S25) (x1 : S28) (x2 : Int) (x3 : Int) (x4 : Int), (wf25 x0) → (wf28 x1) → ((Lit.int .i64 x2).wf = true) → ((Lit.int .i64 x3).wf = true) → ((Lit.int .i64 x4).wf = true) → ∃ k, virgationlaw05_StepMore.f k x0.f0 x0.f1 x1.f0 x1.f1 x1.f2 x2 x3 x4 = some true := by
  intros
  exact ⟨0, rfl⟩
end Go.Proofs.Ytnfgpepggehegaa.I
