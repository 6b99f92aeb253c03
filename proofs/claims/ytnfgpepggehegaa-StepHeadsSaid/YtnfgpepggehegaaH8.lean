/- Texts of this session's proof, laid together: ID6, ID7, IR1, IR2, IR3, IR5, IR4, IR6, IR6F. -/
import Derived.RangeFuncNested
import Derived.RangeFuncLeaves
import Derived.TacticsInMore
import Derived.OwnWalkIn
import Derived.Maps.AppendAt
import Derived.Shelf.Abstract
import Derived.Test.YtnfgpepggehegaaH7
namespace Go.Proofs.Ytnfgpepggehegaa.I
open Go.RowKit Go.Proofs.YtnfgpepggehegaaW.PrintWords Go.Proofs.YtnfgpepggehegaaW.PrintLast Go.Proofs.YtnfgpepggehegaaW.PrintMore
attribute [local go_sem] max2_int min2_int max_two min_two max_three min_three max_four min_four
set_option linter.unusedVariables false
set_option maxRecDepth 100000
set_option linter.unusedSimpArgs false
def goT (l1 : List S84) : Nat → S28 → List Int → S28 × List Int × Int
  | 0, t, acc => if t.f0 = 1 then (⟨0, 0, []⟩, acc, 8) else (t, acc, 0)
  | k + 1, t, acc => if t.f0 = 1 then (if 100000 < tcnt (nextT l1 t) then (⟨0, 0, []⟩, [], 3) else goT l1 k (nextT l1 t) (acc ++ [t.f1])) else (t, acc, 0)
def chkF (l0 : List S87) (l1 : List S84) (t : S28) (fuel : Int) : Int := if stB l0 l1 t = 0 then (if fuel < 0 ∨ 1048576 < fuel then 2 else 0) else stB l0 l1 t
set_option maxHeartbeats 16000000 in
theorem checked_at {w : World} {A0 : Option Addr} {c0 : Nat} {l0 : List S87} {A1 : Option Addr} {c1 : Nat} {l1 : List S84} {ok : Nat → Prop} {x : S28} {A : Option Addr} {c : Nat} (hs : Sch w A0 c0 l0 A1 c1 l1) (ht : Tm w ok x A c) (fuel z : Int) (hz : chkF l0 l1 x fuel = z) :
    Calls Try.prog 44 #[.agg #[.slice A0 l0.length c0, .slice A1 l1.length c1], .agg #[.int .i64 x.f0, .int .i64 x.f1, .slice A x.f2.length c], .int .i64 fuel] w fun e w' => e = .returned (.int .i64 z) ∧ Below w.heap.size w w' := by
  have hu25 := Try.underlying25
  have hu28 := Try.underlying28
  have HS := Az.mk hs
  have HT := Az.mk ht
  have HZ := Az.mk hz
  clear hs ht hz
  go_enter Try.func44, Try.ntmps44
  go_upto_region 1 with (first
    | ((with_reducible refine gate_dst (N := 3) rfl ?_)
       refine box_event ?hg (N := 3) ?hd (cs := #[.slice A0 l0.length c0, .slice A1 l1.length c1]) (t := 25) ?hr ?_
       (case hd => rfl)
       (case hg => rfl)
       (case hr => first | (go_simp; done) | (go_simp; rfl))
       intro g2 hg_g2 w2 hbox hbb
       have S22 := Az.mk hbox
       have HB2 := Az.mk hbb
       clear hbox hbb hg_g2)
    | ((with_reducible refine gate_dst (N := 4) rfl ?_)
       refine box_event ?hg (N := 4) ?hd (cs := #[.int .i64 x.f0, .int .i64 x.f1, .slice A x.f2.length c]) (t := 28) ?hr ?_
       (case hd => rfl)
       (case hg => rfl)
       (case hr => first | (go_simp; done) | (go_simp; rfl))
       intro g3 hg_g3 w3 hbox hbb
       have S2 := Az.mk (bkB S22.out hbb)
       have S3 := Az.mk hbox
       have HB3 := Az.mk (bst HB2.out hbb)
       clear S22 HB2
       clear hbox hbb hg_g3))
  have e0 : w3.cell? ⟨g2, 0, none⟩ = some (.slice A0 l0.length c0) := (blk_cell S2.out 0).trans rfl
  have e1 : w3.cell? ⟨g2, 1, none⟩ = some (.slice A1 l1.length c1) := (blk_cell S2.out 1).trans rfl
  have m0 : w3.cell? ⟨g3, 0, none⟩ = some (.int .i64 x.f0) := (blk_cell S3.out 0).trans rfl
  have m1 : w3.cell? ⟨g3, 1, none⟩ = some (.int .i64 x.f1) := (blk_cell S3.out 1).trans rfl
  have m2 : w3.cell? ⟨g3, 2, none⟩ = some (.slice A x.f2.length c) := (blk_cell S3.out 2).trans rfl
  obtain ⟨er, her⟩ : ∃ er, stB l0 l1 x = er := ⟨_, rfl⟩
  have HER := Az.mk her
  have hch := HZ.out
  unfold chkF at hch
  rw [her] at hch
  clear her HZ
  go_upto_region 2 with (
    go_at_call 12
    (with_reducible refine (refcheck_at (HS.out.below HB3.out) (HT.out.below HB3.out) er HER.out).mono ?_)
    rintro e9 w4 ⟨rfl, hb4⟩
    have HB4 := Az.mk (bst HB3.out hb4)
    clear hb4
    skip)
  clear e0 e1 m0 m1 m2
  by_cases hr : er = 0
  rotate_left
  · rw [if_neg hr] at hch
    subst hch
    have q1 : (er != 0) = true := bne_iff_ne.2 hr
    have q2 : (er == 0) = false := beq_eq_false_iff_ne.2 hr
    go_wp2_with fail
    go_ret
    exact ⟨rfl, HB4.out⟩
  subst hr
  rw [if_pos rfl] at hch
  by_cases hf0 : fuel < 0
  · rw [if_pos (.inl hf0)] at hch
    subst hch
    have q1 : (fuel < 0) = True := eq_true hf0
    go_wp2_with fail
    go_ret
    exact ⟨rfl, HB4.out⟩
  by_cases hf1 : 1048576 < fuel
  · rw [if_pos (.inr hf1)] at hch
    subst hch
    have q1 : (fuel < 0) = False := eq_false hf0
    have q2 : (1048576 < fuel) = True := eq_true hf1
    go_wp2_with fail
    go_ret
    exact ⟨rfl, HB4.out⟩
  rw [if_neg (by omega)] at hch
  subst hch
  have q1 : (fuel < 0) = False := eq_false hf0
  have q2 : (1048576 < fuel) = False := eq_false hf1
  go_wp2_with fail
  go_ret
  exact ⟨rfl, HB4.out⟩
set_option maxHeartbeats 16000000 in
theorem go_at {w : World} {A0 : Option Addr} {c0 : Nat} {l0 : List S87} {A1 : Option Addr} {c1 : Nat} {l1 : List S84} {ok : Nat → Prop} {x : S28} {A : Option Addr} {c : Nat} (hs : Sch w A0 c0 l0 A1 c1 l1) (ht : Tm w ok x A c) (h0 : stB l0 l1 x = 0) (fuel : Int) (hf0 : 0 ≤ fuel) (hf1 : fuel ≤ 1048576) (X : S28) (L : List Int) (er : Int) (hF : goT l1 fuel.toNat x [] = (X, L, er)) :
    Calls Try.prog 45 #[.agg #[.slice A0 l0.length c0, .slice A1 l1.length c1], .agg #[.int .i64 x.f0, .int .i64 x.f1, .slice A x.f2.length c], .int .i64 fuel] w fun e w' => ∃ Av cv Al cl, e = .returned (.tuple #[.agg #[.int .i64 X.f0, .int .i64 X.f1, .slice Av X.f2.length cv], .slice Al L.length cl, .int .i64 er]) ∧ Tm w' (fun k => w.heap.size ≤ k) X Av cv ∧ Ns w' L Al cl ∧ Below w.heap.size w w' := by
  have hu25 := Try.underlying25
  have hu28 := Try.underlying28
  have HS := Az.mk hs
  have HT := Az.mk ht
  have H0 := Az.mk h0
  have HF := Az.mk hF
  clear hs ht h0 hF
  go_enter Try.func45, Try.ntmps45
  go_wp2_with (first
    | ((with_reducible refine gate_dst (N := 3) rfl ?_)
       refine box_event ?hg (N := 3) ?hd (cs := #[.slice A0 l0.length c0, .slice A1 l1.length c1]) (t := 25) ?hr ?_
       (case hd => rfl)
       (case hg => rfl)
       (case hr => first | (go_simp; done) | (go_simp; rfl))
       intro g3 hg_g3 w2 hbox hbb
       have S32 := Az.mk hbox
       have HB2 := Az.mk hbb
       clear hbox hbb hg_g3)
    | ((with_reducible refine gate_dst (N := 4) rfl ?_)
       refine box_event ?hg (N := 4) ?hd (cs := #[.int .i64 x.f0, .int .i64 x.f1, .slice A x.f2.length c]) (t := 28) ?hr ?_
       (case hd => rfl)
       (case hg => rfl)
       (case hr => first | (go_simp; done) | (go_simp; rfl))
       intro g4 hg_g4 w3 hbox hbb
       have S33 := Az.mk (bkB S32.out hbb)
       have S43 := Az.mk hbox
       have HB3 := Az.mk (bst HB2.out hbb)
       have HG4 := Az.mk (show w.heap.size ≤ g4 from by have := HB2.out.size; omega)
       clear S32 HB2
       clear hbox hbb hg_g4)
    | ((with_reducible refine gate_dst (N := 6) rfl ?_)
       refine box_event ?hg (N := 6) ?hd (cs := #[.int .i64 0, .int .i64 0, .slice none 0 0]) (t := 28) ?hr ?_
       (case hd => rfl)
       (case hg => rfl)
       (case hr => first | (go_simp; done) | (go_simp; rfl))
       intro g6 hg_g6 w4 hbox hbb
       have S3 := Az.mk (bkB S33.out hbb)
       have S4 := Az.mk (bkB S43.out hbb)
       have S6 := Az.mk hbox
       have HB4 := Az.mk (bst HB3.out hbb)
       have HG6 := Az.mk (show w.heap.size ≤ g6 from by have := HB3.out.size; omega)
       have HN46 := Az.mk (show g4 ≠ g6 from by have := blk_lt S43.out; omega)
       have HN34 := Az.mk (show g3 ≠ g4 from blk_ne S33.out S43.out (by decide))
       clear S33 S43 HB3
       clear hbox hbb hg_g6))
  have HT4 := Az.mk (show Tm w4 (fun k => k ≠ g4 ∧ some k ≠ (Value.slice none 0 0).ownBlock) x A c from (HT.out.bound.below HB4.out).mono (fun k hk => ⟨by have h1 := HG4.out; have h2 := hk.2; omega, by simp [Value.ownBlock]⟩))
  obtain ⟨M, hM⟩ : ∃ M : Nat, M = fuel.toNat := ⟨_, rfl⟩
  rw [← hM] at HF
  have HM := Az.mk (show (M : Int) = fuel from by omega)
  clear hM HT
  go_loopg [9] M (fun kq v9 wr => ∃ (u : S28) (Au : Option Addr) (cu : Nat) (dn : List Int) (Ah : Option Addr) (ch : Nat), v9 = .slice Ah dn.length ch ∧ Az ((dn.length : Int) + kq = fuel) ∧ Az (stB l0 l1 u = 0) ∧ Az (goT l1 kq u dn = (X, L, er)) ∧ Az (Tm wr (fun k => k ≠ g4 ∧ some k ≠ (Value.slice Ah dn.length ch).ownBlock) u Au cu) ∧ Az (Kd.R (Kd.int .i64) 3 wr w.heap.size (fun _ => True) (.slice Ah dn.length ch) dn) ∧ Az (wr.heap[g3]? = some (.cells #[.slice A0 l0.length c0, .slice A1 l1.length c1] 25 (0, 0))) ∧ Az (wr.heap[g4]? = some (.cells #[.int .i64 u.f0, .int .i64 u.f1, .slice Au u.f2.length cu] 28 (0, 0))) ∧ Az (wr.heap[g6]? = some (.cells #[.int .i64 0, .int .i64 0, .slice none 0 0] 28 (0, 0))) ∧ Az (Below w.heap.size w wr))
  case atStart => exact ⟨x, A, c, [], none, 0, rfl, ⟨by have := HM.out; simp; omega⟩, H0, HF, HT4, ⟨Kd.R_nil _ _ _ _ _⟩, S3, S4, S6, HB4⟩
  case round =>
    clear H0 HF HT4 S3 S4 S6 HB4
    obtain ⟨u, Au, cu, dn, Ah, ch, rfl, HL, HU, HF, HTu, HH, S3, S4, S6, HB⟩ := hrel
    have HSr := Az.mk (HS.out.below HB.out)
    have HL4 := Az.mk (blk_lt S4.out)
    have e0 : wr.cell? ⟨g3, 0, none⟩ = some (.slice A0 l0.length c0) := (blk_cell S3.out 0).trans rfl
    have e1 : wr.cell? ⟨g3, 1, none⟩ = some (.slice A1 l1.length c1) := (blk_cell S3.out 1).trans rfl
    have m0 : wr.cell? ⟨g4, 0, none⟩ = some (.int .i64 u.f0) := (blk_cell S4.out 0).trans rfl
    have m1 : wr.cell? ⟨g4, 1, none⟩ = some (.int .i64 u.f1) := (blk_cell S4.out 1).trans rfl
    have m2 : wr.cell? ⟨g4, 2, none⟩ = some (.slice Au u.f2.length cu) := (blk_cell S4.out 2).trans rfl
    by_cases hm : u.f0 = 1
    rotate_left
    · have q1 : (u.f0 == 1) = false := beq_eq_false_iff_ne.2 hm
      have hF : goT l1 gk u dn = (u, dn, 0) := by
        cases gk <;> (unfold goT; rw [if_neg hm])
      have h2 := HF.out
      rw [hF] at h2
      injection h2 with h2 h3
      injection h3 with h3 h4
      subst h2 h3 h4
      have HTL := Az.mk (show tcntL u.f2 ≤ 1000000 from by have h1 := (stB_zero HU.out).2.1; have := tcnt_f2 u; omega)
      clear hm hF HF
      go_wp2_with fail
      (with_reducible refine (tcopy_calls _ u.f0 u.f1 u.f2 Au cu wr (Nat.lt_succ_self _) HTL.out HTu.out.c HTu.out.le).mono ?_)
      rintro e w9 ⟨v, rfl, hRv, hb9⟩
      obtain ⟨Av, cv, rfl, hV⟩ := V_new hRv
      have HTV := Az.mk (show Tm w9 (fun k => wr.heap.size ≤ k) u Av cv from hV)
      have S69 := Az.mk (bkB S6.out hb9)
      have HB9 := Az.mk (bst HB.out hb9)
      have HH9 := Az.mk (Kd.R_below HH.out hb9)
      have HL6 := Az.mk (blk_lt S6.out)
      clear hRv hV hb9 e0 e1 m0 m1 m2
      have z0 : w9.cell? ⟨g6, 0, none⟩ = some (.int .i64 0) := (blk_cell S69.out 0).trans rfl
      have z1 : w9.cell? ⟨g6, 1, none⟩ = some (.int .i64 0) := (blk_cell S69.out 1).trans rfl
      have z2 : w9.cell? ⟨g6, 2, none⟩ = some (.slice none 0 0) := (blk_cell S69.out 2).trans rfl
      have f0 := bkF S69.out 0
      have f1 := bkF S69.out 1
      have f2 := bkF S69.out 2
      go_wp2_with fail
      refine bodyPost_ret (results_ctt rfl _ _ g6 28 #[.int .i64 u.f0, .int .i64 u.f1, .slice Av u.f2.length cv] (0, 0) _ rfl (blk_set3 S69.out _ _ _) Try.underlying28 rfl (by kernel_rfl)) rfl ?_
      have sA := blk_put (cs' := #[.int .i64 u.f0, .int .i64 0, .slice none 0 0]) S69.out 0 (.int .i64 u.f0) rfl
      have sB := blk_put (cs' := #[.int .i64 u.f0, .int .i64 u.f1, .slice none 0 0]) sA 1 (.int .i64 u.f1) rfl
      exact ⟨Av, cv, Ah, ch, rfl, Tm.mono (Tm.far3 HTV.out (fun k hk => by have := HL6.out; have : wr.heap.size ≤ k := hk; omega) _ _ _) (fun k hk => by have := HB.out.size; have : wr.heap.size ≤ k := hk; omega), Kd.V_mono (Kd.R_V (base' := 0) (Kd.R_set (Kd.R_set (Kd.R_set HH9.out S69.out (by decide) 0 _) sA (by decide) 1 _) sB (by decide) 2 _)) (fun _ _ => trivial), below_set3 HB9.out HG6.out _ _ _⟩
    have q1 : (u.f0 == 1) = true := beq_iff_eq.2 hm
    cases gk with
    | zero =>
      have h2 := HF.out
      unfold goT at h2
      rw [if_pos hm] at h2
      injection h2 with h2 h3
      injection h3 with h3 h4
      subst h2 h3 h4
      have hlf : (dn.length : Int) = fuel := by have := HL.out; omega
      have q2 : ((dn.length : Int) == fuel) = true := beq_iff_eq.2 hlf
      have q3 : ((dn.length : Int) = fuel) = True := eq_true hlf
      clear hm HF hlf e0 e1
      have z0 : wr.cell? ⟨g6, 0, none⟩ = some (.int .i64 0) := (blk_cell S6.out 0).trans rfl
      have z1 : wr.cell? ⟨g6, 1, none⟩ = some (.int .i64 0) := (blk_cell S6.out 1).trans rfl
      have z2 : wr.cell? ⟨g6, 2, none⟩ = some (.slice none 0 0) := (blk_cell S6.out 2).trans rfl
      have f0 := bkF S6.out 0
      have f1 := bkF S6.out 1
      have f2 := bkF S6.out 2
      go_wp2_with fail
      refine bodyPost_ret (results_ctt rfl _ _ g6 28 #[.int .i64 0, .int .i64 0, .slice none 0 0] (0, 0) _ rfl (blk_set3 S6.out _ _ _) Try.underlying28 rfl (by kernel_rfl)) rfl ?_
      exact ⟨none, 0, Ah, ch, rfl, Kd.V_nil _ _ _ _ _, Kd.V_mono (Kd.R_V (base' := 0) (Kd.R_set (Kd.R_set (Kd.R_set HH.out S6.out (by decide) 0 _) (blk_put (cs' := #[.int .i64 0, .int .i64 0, .slice none 0 0]) S6.out 0 _ rfl) (by decide) 1 _) (blk_put (cs' := #[.int .i64 0, .int .i64 0, .slice none 0 0]) (blk_put (cs' := #[.int .i64 0, .int .i64 0, .slice none 0 0]) S6.out 0 _ rfl) 1 _ rfl) (by decide) 2 _)) (fun _ _ => trivial), below_set3 HB.out HG6.out _ _ _⟩
    | succ j =>
      have hlf : (dn.length : Int) ≠ fuel := by have := HL.out; omega
      have hlg : dn.length ≤ 1048576 := by have := HL.out; omega
      have q2 : ((dn.length : Int) == fuel) = false := beq_eq_false_iff_ne.2 hlf
      have q3 : ((dn.length : Int) = fuel) = False := eq_false hlf
      by_cases hbig : 100000 < tcnt (nextT l1 u)
      · have h2 := HF.out
        unfold goT at h2
        rw [if_pos hm, if_pos hbig] at h2
        injection h2 with h2 h3
        injection h3 with h3 h4
        subst h2 h3 h4
        have HN := Az.mk (stepF_large HU.out hbig)
        clear hm HF hlf hbig
        go_upto_region 6 with (first
          | (go_at_call 41
             (with_reducible refine (next_at HSr.out HTu.out HU.out _ _ _ HN.out).mono ?_)
             rintro e9 w5 ⟨Av, cv, rfl, hv, hb5⟩
             have HB5 := Az.mk (bst HB.out hb5)
             have HB5r := Az.mk hb5
             clear hv hb5
             skip)
          | ((with_reducible refine gate_dst (N := 10) rfl ?_)
             refine box_event ?hg (N := 10) ?hd (cs := #[.int .i64 0, .int .i64 0, .slice none 0 0]) (t := 28) ?hr ?_
             (case hd => rfl)
             (case hg => rfl)
             (case hr => first | (go_simp; done) | (go_simp; rfl))
             intro g5 hg_g5 w6 hbox hbb
             have hgw_ := HB5.out.size
             have Hg5g := Az.mk (Nat.le_of_eq hg_g5.symm)
             have Hg5b := Az.mk (below_set3 (bst HB5.out hbb) (show w.heap.size ≤ g5 from by omega) (.int .i64 0) (.int .i64 0) (.slice Av 0 cv))
             have Hg5w := Az.mk (below_set3 hbb (Nat.le_of_eq hg_g5.symm) (.int .i64 0) (.int .i64 0) (.slice Av 0 cv))
             have Hg5s := Az.mk (blk_set3 hbox (.int .i64 0) (.int .i64 0) (.slice Av 0 cv))
             have hcz0 := (blk_cell hbox 0).trans rfl
             have hcz1 := (blk_cell hbox 1).trans rfl
             have hcz2 := (blk_cell hbox 2).trans rfl
             have hfz0 := bkF hbox 0
             have hfz1 := bkF hbox 1
             have hfz2 := bkF hbox 2
             clear hgw_
             clear hbox hbb hg_g5))
        clear hcz0 hcz1 hcz2 hfz0 hfz1 hfz2 e0 e1 m0 m1 m2
        generalize (((w6.setCell ⟨g5, 0, none⟩ (.int .i64 0)).setCell ⟨g5, 1, none⟩ (.int .i64 0)).setCell ⟨g5, 2, none⟩ (.slice Av 0 cv)) = wq at *
        have S6q := Az.mk (bkB (bkB S6.out HB5r.out) Hg5w.out)
        have z0 : wq.cell? ⟨g6, 0, none⟩ = some (.int .i64 0) := (blk_cell S6q.out 0).trans rfl
        have z1 : wq.cell? ⟨g6, 1, none⟩ = some (.int .i64 0) := (blk_cell S6q.out 1).trans rfl
        have z2 : wq.cell? ⟨g6, 2, none⟩ = some (.slice none 0 0) := (blk_cell S6q.out 2).trans rfl
        have f0 := bkF S6q.out 0
        have f1 := bkF S6q.out 1
        have f2 := bkF S6q.out 2
        go_wp2_with fail
        refine bodyPost_ret (results_ctt rfl _ _ g6 28 #[.int .i64 0, .int .i64 0, .slice none 0 0] (0, 0) _ rfl (blk_set3 S6q.out _ _ _) Try.underlying28 rfl (by kernel_rfl)) rfl ?_
        exact ⟨none, 0, none, 0, rfl, Kd.V_nil _ _ _ _ _, Ns.nil _, below_set3 Hg5b.out HG6.out _ _ _⟩
      have h2 := HF.out
      unfold goT at h2
      rw [if_pos hm, if_neg hbig] at h2
      have HF2 := Az.mk h2
      have HU2 := Az.mk (stB_next HU.out hbig)
      have HN := Az.mk (show stepF l0 l1 u = (nextT l1 u, true, 0) from by rw [stepF_next HU.out hbig, decide_eq_true hm])
      clear h2 hm HF hlf hbig
      generalize nextT l1 u = y at *
      go_upto_region 6 with (first
        | (go_at_call 41
           (with_reducible refine (next_at HSr.out HTu.out HU.out _ _ _ HN.out).mono ?_)
           rintro e9 w5 ⟨Av, cv, rfl, hv, hb5⟩
           have HB5 := Az.mk (bst HB.out hb5)
           have HB5r := Az.mk hb5
           have HTy := Az.mk hv
           clear hv hb5
           skip)
        | ((with_reducible refine gate_dst (N := 10) rfl ?_)
           refine box_event ?hg (N := 10) ?hd (cs := #[.int .i64 0, .int .i64 0, .slice none 0 0]) (t := 28) ?hr ?_
           (case hd => rfl)
           (case hg => rfl)
           (case hr => first | (go_simp; done) | (go_simp; rfl))
           intro g5 hg_g5 w6 hbox hbb
           have hgw_ := HB5.out.size
           have Hg5g := Az.mk (Nat.le_of_eq hg_g5.symm)
           have Hg5b := Az.mk (below_set3 (bst HB5.out hbb) (show w.heap.size ≤ g5 from by omega) (.int .i64 y.f0) (.int .i64 y.f1) (.slice Av y.f2.length cv))
           have Hg5w := Az.mk (below_set3 hbb (Nat.le_of_eq hg_g5.symm) (.int .i64 y.f0) (.int .i64 y.f1) (.slice Av y.f2.length cv))
           have Hg5s := Az.mk (blk_set3 hbox (.int .i64 y.f0) (.int .i64 y.f1) (.slice Av y.f2.length cv))
           have hcz0 := (blk_cell hbox 0).trans rfl
           have hcz1 := (blk_cell hbox 1).trans rfl
           have hcz2 := (blk_cell hbox 2).trans rfl
           have hfz0 := bkF hbox 0
           have hfz1 := bkF hbox 1
           have hfz2 := bkF hbox 2
           clear hgw_
           clear hbox hbb hg_g5))
      clear hcz0 hcz1 hcz2 hfz0 hfz1 hfz2 e0 e1 m0 m1 m2
      generalize (((w6.setCell ⟨g5, 0, none⟩ (.int .i64 y.f0)).setCell ⟨g5, 1, none⟩ (.int .i64 y.f1)).setCell ⟨g5, 2, none⟩ (.slice Av y.f2.length cv)) = wq at *
      have HBq := Az.mk (bst HB5r.out Hg5w.out)
      have S3q := Az.mk (bkB S3.out HBq.out)
      have S4q := Az.mk (bkB S4.out HBq.out)
      have S6q := Az.mk (bkB S6.out HBq.out)
      have HHq := Az.mk (Kd.R_below HH.out HBq.out)
      have HTyq := Az.mk (show Tm wq (fun k => k ≠ g4 ∧ some k ≠ (Value.slice Ah dn.length ch).ownBlock) y Av cv from (HTy.out.below Hg5w.out).mono (fun k hk => ⟨by have := HL4.out; have : wr.heap.size ≤ k := hk; omega, fun he => by have := Kd.R_lt HH.out k he.symm; have : wr.heap.size ≤ k := hk; omega⟩))
      have m0 : wq.cell? ⟨g4, 0, none⟩ = some (.int .i64 u.f0) := (blk_cell S4q.out 0).trans rfl
      have m1 : wq.cell? ⟨g4, 1, none⟩ = some (.int .i64 u.f1) := (blk_cell S4q.out 1).trans rfl
      have m2 : wq.cell? ⟨g4, 2, none⟩ = some (.slice Au u.f2.length cu) := (blk_cell S4q.out 2).trans rfl
      go_wp2_with (at_builtin; refine holdX ?_)
      unfold HoldX
      have hh := HHq.out
      refine Kd.R_append (Kd.int .i64) (w0 := w) w.heap.size rfl (.tmp 33) (.tmp 36) 40 3 (.int .i64 0) 8 rfl Try.underlying40 info3 rfl (by decide) (by omega) (.slice Ah dn.length ch) dn u.f1 [.int .i64 u.f1] (fun _ => True) (fun _ => False) rfl rfl rfl (fun _ hk => hk.elim) (fun _ _ => trivial) hh Hg5b.out Hg5b.out.size (by omega) ?_
      intro v2 w9 hrf hb9 hg9 hat9
      obtain ⟨A5, c5, e5⟩ := Kd.R_slice hrf
      have hdl : (dn ++ [u.f1]).length = dn.length + 1 := by rw [List.length_append]; rfl
      subst e5
      have tf := Kd.R_typed hh
      have S39 := Az.mk (grownT S3q.out hg9 (fun k hk => by obtain ⟨c, hc⟩ := tf k hk; exact ⟨3, c, by decide, hc⟩))
      have S49 := Az.mk (grownT S4q.out hg9 (fun k hk => by obtain ⟨c, hc⟩ := tf k hk; exact ⟨3, c, by decide, hc⟩))
      have S69 := Az.mk (grownT S6q.out hg9 (fun k hk => by obtain ⟨c, hc⟩ := tf k hk; exact ⟨3, c, by decide, hc⟩))
      have S59 := Az.mk (grownT Hg5s.out hg9 (fun k hk => by obtain ⟨c, hc⟩ := tf k hk; exact ⟨3, c, by decide, hc⟩))
      have HTy9 := Az.mk (show Tm w9 (fun k => k ≠ g4 ∧ some k ≠ (Value.slice A5 (dn ++ [u.f1]).length c5).ownBlock) y Av cv from Kd.V_after HTyq.out hg9 hat9)
      have HH9 := Az.mk hrf
      have HB9 := Az.mk hb9
      clear hh hrf hb9 hg9 hat9 tf HHq HTyq S3q S4q S6q m0 m1 m2 HBq
      have y0 : w9.cell? ⟨g5, 0, none⟩ = some (.int .i64 y.f0) := (blk_cell S59.out 0).trans rfl
      have y1 : w9.cell? ⟨g5, 1, none⟩ = some (.int .i64 y.f1) := (blk_cell S59.out 1).trans rfl
      have y2 : w9.cell? ⟨g5, 2, none⟩ = some (.slice Av y.f2.length cv) := (blk_cell S59.out 2).trans rfl
      have z0 : w9.cell? ⟨g4, 0, none⟩ = some (.int .i64 u.f0) := (blk_cell S49.out 0).trans rfl
      have z1 : w9.cell? ⟨g4, 1, none⟩ = some (.int .i64 u.f1) := (blk_cell S49.out 1).trans rfl
      have z2 : w9.cell? ⟨g4, 2, none⟩ = some (.slice Au u.f2.length cu) := (blk_cell S49.out 2).trans rfl
      have f0 := bkF S49.out 0
      have f1 := bkF S49.out 1
      have f2 := bkF S49.out 2
      go_wp2_with fail
      have sA := blk_put (cs' := #[.int .i64 y.f0, .int .i64 u.f1, .slice Au u.f2.length cu]) S49.out 0 (.int .i64 y.f0) rfl
      have sB := blk_put (cs' := #[.int .i64 y.f0, .int .i64 y.f1, .slice Au u.f2.length cu]) sA 1 (.int .i64 y.f1) rfl
      go_roundg j
      case measure => omega
      case rel => exact ⟨y, Av, cv, dn ++ [u.f1], A5, c5, by first | rfl | rw [hdl], ⟨by have := HL.out; rw [hdl]; omega⟩, HU2, HF2, ⟨Tm.far3 HTy9.out (fun k hk => hk.1) _ _ _⟩, ⟨Kd.R_set (Kd.R_set (Kd.R_set HH9.out S49.out (by decide) 0 _) sA (by decide) 1 _) sB (by decide) 2 _⟩, ⟨blk_far3 S39.out (fun he => HN34.out he) _ _ _⟩, ⟨blk_set3 S49.out _ _ _⟩, ⟨blk_far3 S69.out (fun he => HN46.out he.symm) _ _ _⟩, ⟨below_set3 HB9.out HG4.out _ _ _⟩⟩
end Go.Proofs.Ytnfgpepggehegaa.I
namespace Go.Proofs.Ytnfgpepggehegaa.I
open Go.RowKit Go.Proofs.YtnfgpepggehegaaW.PrintWords Go.Proofs.YtnfgpepggehegaaW.PrintLast Go.Proofs.YtnfgpepggehegaaW.PrintMore
attribute [local go_sem] max2_int min2_int max_two min_two max_three min_three max_four min_four
set_option linter.unusedVariables false
set_option maxRecDepth 100000
set_option linter.unusedSimpArgs false
theorem chkF_zero {l0 : List S87} {l1 : List S84} {t : S28} {fuel : Int} (h : chkF l0 l1 t fuel = 0) : stB l0 l1 t = 0 ∧ 0 ≤ fuel ∧ fuel ≤ 1048576 := by
  unfold chkF at h
  split at h
  · rename_i h0
    split at h
    · cases h
    · exact ⟨h0, by omega, by omega⟩
  · rename_i h0
    exact absurd h h0
end Go.Proofs.Ytnfgpepggehegaa.I
namespace Go.Proofs.Ytnfgpepggehegaa.I
open Go.RowKit Go.Proofs.YtnfgpepggehegaaW.PrintWords Go.Proofs.YtnfgpepggehegaaW.PrintLast Go.Proofs.YtnfgpepggehegaaW.PrintMore
attribute [local go_sem] max2_int min2_int max_two min_two max_three min_three max_four min_four
set_option linter.unusedVariables false
set_option maxRecDepth 100000
set_option linter.unusedSimpArgs false
set_option maxHeartbeats 8000000 in
theorem heads_calls (Ab : Option Addr) (nb cb : Nat) (Ap : Option Addr) (np cp : Nat) (g : Nat) (w : World) :
    Calls Try.prog 46 #[.agg #[.slice Ab nb cb, .slice Ap np cp], .pointer (some ⟨g, 0, none⟩)] w fun e w' => ∃ gs gc, e = .returned (.func (.func 68) #[] #[.pointer (some ⟨gc, 0, none⟩), .pointer (some ⟨gs, 0, none⟩)]) ∧ w'.heap[gs]? = some (.cells #[.slice Ab nb cb, .slice Ap np cp] 69 (0, 0)) ∧ w'.heap[gc]? = some (.cells #[.pointer (some ⟨g, 0, none⟩)] 65 (0, 0)) ∧ w.heap.size ≤ gs ∧ w.heap.size ≤ gc ∧ gs ≠ gc ∧ Below w.heap.size w w' := by
  have hu69 := Try.underlying69
  go_enter Try.func46, Try.ntmps46
  go_wp2_with (first
    | ((with_reducible refine gate_dst (N := 2) rfl ?_)
       refine box_event ?hg (N := 2) ?hd (cs := #[.slice Ab nb cb, .slice Ap np cp]) (t := 69) ?hr ?_
       (case hd => rfl)
       (case hg => rfl)
       (case hr => first | (go_simp; done) | (go_simp; rfl))
       intro gs hg_gs w2 hbox hbb
       have S2 := Az.mk hbox
       have HB2 := Az.mk hbb
       have HG2 := Az.mk (show w.heap.size ≤ gs from by omega)
       clear hbox hbb hg_gs)
    | ((with_reducible refine gate_dst (N := 3) rfl ?_)
       refine box_event ?hg (N := 3) ?hd (cs := #[.pointer (some ⟨g, 0, none⟩)]) (t := 65) ?hr ?_
       (case hd => rfl)
       (case hg => rfl)
       (case hr => first | (go_simp; done) | (go_simp; rfl))
       intro gc hg_gc w3 hbox hbb
       have S23 := Az.mk (bkB S2.out hbb)
       have S3 := Az.mk hbox
       have HB3 := Az.mk (bst HB2.out hbb)
       have HG3 := Az.mk (show w.heap.size ≤ gc from by have := HB2.out.size; omega)
       have HN := Az.mk (show gs ≠ gc from by have := blk_lt S2.out; omega)
       clear hbox hbb hg_gc))
  go_ret
  exact ⟨gs, gc, rfl, S23.out, S3.out, HG2.out, HG3.out, HN.out, HB3.out⟩
end Go.Proofs.Ytnfgpepggehegaa.I
namespace Go.Proofs.Ytnfgpepggehegaa.I
open Go.RowKit Go.Proofs.YtnfgpepggehegaaW.PrintWords Go.Proofs.YtnfgpepggehegaaW.PrintLast Go.Proofs.YtnfgpepggehegaaW.PrintMore
attribute [local go_sem] max2_int min2_int max_two min_two max_three min_three max_four min_four
set_option linter.unusedVariables false
set_option maxRecDepth 100000
set_option linter.unusedSimpArgs false
structure HP where
  w0 : World
  gs : Nat
  gc : Nat
  g5 : Nat
  g6 : Nat
  g7 : Nat
  gO : Nat
  gD : Nat
  gL : Nat
  nB : Nat
  Ab : Option Addr
  cb : Nat
  Ap : Option Addr
  np : Nat
  cp : Nat
  bs : List Value
  l1 : List S84
  fuel : Int
def HP.ok (p : HP) (own : Option Nat) (q : Nat) : Prop := (q ≠ p.gO ∧ q ≠ p.gc ∧ q ≠ p.g6 ∧ q ≠ p.g7 ∧ q ≠ p.gL ∧ q ≠ p.gD) ∧ some q ≠ own
structure HJ (p : HP) (lo : Obj) (dn : List Int) (u : S28) (Ah : Option Addr) (ch g : Nat) (W : World) : Prop where
  s : W.heap[p.gs]? = some (.cells #[.slice p.Ab p.l1.length p.cb, .slice p.Ap p.np p.cp] 69 (0, 0))
  c : W.heap[p.gc]? = some (.cells #[.pointer (some ⟨g, 0, none⟩)] 65 (0, 0))
  o : W.heap[p.gO]? = some (.cells #[.slice Ah dn.length ch] 40 (0, 0))
  f : W.heap[p.g5]? = some (.cells #[.int .i64 p.fuel] 3 (0, 0))
  r1 : W.heap[p.g6]? = some (.cells #[.slice none 0 0] 40 (0, 0))
  r2 : W.heap[p.g7]? = some (.cells #[.int .i64 0] 29 (0, 0))
  l : W.heap[p.gL]? = some lo
  d : W.heap[p.gD]? = some (.deferred (some []))
  row : Row W (p.ok (Value.slice Ah dn.length ch).ownBlock) (.slice p.Ab p.l1.length p.cb) p.bs
  bod : ClL W (p.ok (Value.slice Ah dn.length ch).ownBlock) (p.l1.map (·.f2)) p.bs
  cel : Cl W (p.ok (Value.slice Ah dn.length ch).ownBlock) u (.pointer (some ⟨g, 0, none⟩))
  out : W.ownsRow p.nB 3 1 (.slice Ah dn.length ch) dn.length (dn.map (Value.int .i64))
  bel : Below p.w0.heap.size p.w0 W
  noc : lo.isCells = false
theorem HJ.below {p : HP} {lo : Obj} {dn : List Int} {u : S28} {Ah : Option Addr} {ch g : Nat} {W W' : World} (h : HJ p lo dn u Ah ch g W) (hb : Below W.heap.size W W') : HJ p lo dn u Ah ch g W' :=
  ⟨bkB h.s hb, bkB h.c hb, bkB h.o hb, bkB h.f hb, bkB h.r1 hb, bkB h.r2 hb, bkB h.l hb, bkB h.d hb, Row_below hb h.row, ClL_below hb h.bod, Cl_below hb h.cel, pw_own_below h.out hb, bst h.bel hb, h.noc⟩
theorem obj_ne {w : World} {g g' : Nat} {lo : Obj} {cs : Array Value} {t : TypeId} (h : w.heap[g]? = some lo) (h' : w.heap[g']? = some (.cells cs t (0, 0))) (hn : lo.isCells = false) : g ≠ g' := fun he => by
  subst he
  rw [h] at h'
  injection h' with h'
  subst h'
  cases hn
theorem HJ.step {p : HP} {lo : Obj} {dn : List Int} {u y : S28} {Ah : Option Addr} {ch g g' : Nat} {W : World} (h : HJ p lo dn u Ah ch g W) (hy : Cl W (p.ok (Value.slice Ah dn.length ch).ownBlock) y (.pointer (some ⟨g', 0, none⟩))) (hg : p.w0.heap.size ≤ p.gc) : HJ p lo dn y Ah ch g' (W.setCell ⟨p.gc, 0, none⟩ (.pointer (some ⟨g', 0, none⟩))) := by
  have hk : ∀ k, p.ok (Value.slice Ah dn.length ch).ownBlock k → k < W.heap.size → (W.setCell ⟨p.gc, 0, none⟩ (.pointer (some ⟨g', 0, none⟩))).heap[k]? = W.heap[k]? := fun k hk _ => Below.heap_setCell W ⟨p.gc, 0, none⟩ _ k hk.1.2.1
  exact ⟨blk_far (p := ⟨p.gc, 0, none⟩) h.s (blk_ne h.s h.c (by decide)) _, blk_put h.c 0 _ rfl, blk_far (p := ⟨p.gc, 0, none⟩) h.o (blk_ne h.o h.c (by decide)) _, blk_far (p := ⟨p.gc, 0, none⟩) h.f (blk_ne h.f h.c (by decide)) _, blk_far (p := ⟨p.gc, 0, none⟩) h.r1 (blk_ne h.r1 h.c (by decide)) _, blk_far (p := ⟨p.gc, 0, none⟩) h.r2 (blk_ne h.r2 h.c (by decide)) _, (Below.heap_setCell W ⟨p.gc, 0, none⟩ _ p.gL (obj_ne h.l h.c h.noc)).trans h.l, (Below.heap_setCell W ⟨p.gc, 0, none⟩ _ p.gD (obj_ne h.d h.c rfl)).trans h.d,
    Kd.V_step h.row (fun k hk' hl => hk k hk' hl), ClL_imp hk (fun _ h _ => h) _ _ h.bod, Cl_imp hk (fun _ h _ => h) _ _ hy, own_setCell h.out (own_ne h.out h.c (by decide)) _, bset h.bel hg, h.noc⟩
set_option maxHeartbeats 16000000 in
theorem iter_calls (p : HP) (l0 : List S87) (n l : Nat) (lo : Obj) (JX : World → Prop) (X : S28) (L : List Int) (er : Int) (hs : schB l0 p.l1 = true) (hbg : ∀ x ∈ p.l1, tcnt x.f2 ≤ 1000000) (hgc : p.w0.heap.size ≤ p.gc)
    (hY : ∀ (dn : List Int) (u : S28) (k : Nat) (Ah : Option Addr) (ch g : Nat) (W : World), HJ p lo dn (nextT p.l1 u) Ah ch g W → u.f0 = 1 → (dn.length : Int) + k = p.fuel → goT p.l1 k u dn = (X, L, er) → YieldAt Fence.wide (n - 1) Try.prog l #[.int .i64 u.f1, .pointer (some ⟨g, 0, none⟩)] W fun e W' =>
      (e = .returned (.bool true) ∧ ¬ 100000 < tcnt (nextT p.l1 u) ∧ (∃ k', k = k' + 1 ∧ goT p.l1 k' (nextT p.l1 u) (dn ++ [u.f1]) = (X, L, er)) ∧ ∃ Ah' ch', HJ p lo (dn ++ [u.f1]) (nextT p.l1 u) Ah' ch' g W') ∨ (e = .returned (.bool false) ∧ JX W'))
    (u : S28) (g : Nat) (k : Nat) (W : World) (h0 : HJ p lo [] u none 0 g W) (hi : closedB l0 p.l1 u = true ∧ tcnt u ≤ 100000) (hk : (k : Int) = p.fuel) (hgo : goT p.l1 k u [] = (X, L, er)) :
    Calls Try.prog 68 #[.func (.yield l) #[] #[], .pointer (some ⟨p.gc, 0, none⟩), .pointer (some ⟨p.gs, 0, none⟩)] W fun e W' => (∃ v, e = .returned v) ∧ ((er = 0 ∧ ∃ u' Ah ch g', HJ p lo L u' Ah ch g' W') ∨ JX W') := by
  have hu69 := Try.underlying69
  have hu74 := Try.underlying74
  have HS := Az.mk hs
  have HBG := Az.mk hbg
  have HGC := Az.mk hgc
  have HY := Az.mk hY
  have H0 := Az.mk h0
  have HI := Az.mk hi
  have HK := Az.mk hk
  have HGO := Az.mk hgo
  clear hs hbg hgc hY h0 hi hk hgo
  go_enter Try.func68, Try.ntmps68
  go_wp2_with fail
  go_loopg [4] k (fun kq v4 wr => ∃ (dn : List Int) (u : S28) (Ah : Option Addr) (ch g : Nat), Az ((dn.length : Int) + kq = p.fuel) ∧ Az (closedB l0 p.l1 u = true ∧ tcnt u ≤ 100000) ∧ Az (goT p.l1 kq u dn = (X, L, er)) ∧ Az (HJ p lo dn u Ah ch g wr))
  case atStart => exact ⟨[], u, none, 0, g, ⟨by have := HK.out; simp; omega⟩, HI, HGO, H0⟩
  case round =>
    clear H0 HI HK HGO
    obtain ⟨dn, u, Ah, ch, g, HK, HI, HGO, HJ0⟩ := hrel
    have hrdy := ready_of HS.out HI.out.1
    have htl : ∀ x ∈ u.f2, tcnt x ≤ 1000000 := fun x hx => by have h1 := tcnt_mem hx; have h2 := tcnt_f2 u; have h3 := HI.out.2; omega
    have HRD := Az.mk hrdy
    have HTL := Az.mk htl
    clear hrdy htl
    have hcel := HJ0.out.cel
    have HCL := Az.mk hcel
    cases u with
    | mk k0 n0 l =>
    unfold Cl at hcel
    obtain ⟨g', a, vs, he, hok, hg, _, _⟩ := hcel
    injection he with he
    injection he with he
    injection he with he _ _
    subst he
    have c0 : wr.cell? ⟨p.gc, 0, none⟩ = some (.pointer (some ⟨g, 0, none⟩)) := (blk_cell HJ0.out.c 0).trans rfl
    have k0' : wr.cell? ⟨g, 0, none⟩ = some (.int .i64 k0) := (blk_cell hg 0).trans rfl
    have k1' : wr.cell? ⟨g, 1, none⟩ = some (.int .i64 n0) := (blk_cell hg 1).trans rfl
    clear hok hg
    by_cases hm : k0 = 1
    rotate_left
    · have q1 : (k0 == 1) = false := beq_eq_false_iff_ne.2 hm
      have h2 := HGO.out
      have hF : goT p.l1 gk ⟨k0, n0, l⟩ dn = (⟨k0, n0, l⟩, dn, 0) := by
        cases gk <;> (unfold goT; rw [if_neg (show ¬ (⟨k0, n0, l⟩ : S28).f0 = 1 from hm)])
      rw [hF] at h2
      injection h2 with h2 h3
      injection h3 with h3 h4
      subst h3 h4
      clear hm hF h2
      go_wp2_with fail
      go_end0
      exact ⟨⟨_, rfl⟩, .inl (by first | exact ⟨rfl, _, Ah, ch, g, HJ0.out⟩ | exact ⟨_, Ah, ch, g, HJ0.out⟩)⟩
    have hm' := hm
    subst hm'
    have HST := Az.mk (fun (w' : World) (hb : Below wr.heap.size wr w') => cstep_calls p.l1 p.Ab p.cb p.Ap p.np p.cp p.bs ⟨1, n0, l⟩ (.pointer (some ⟨g, 0, none⟩)) (fun q => p.ok (Value.slice Ah dn.length ch).ownBlock q ∧ q < w'.heap.size) w' (Kd.V_bound (Row_below hb HJ0.out.row)) (ClL_mono (fun q h1 h2 => ⟨h1, h2⟩) (ClL_below hb HJ0.out.bod)) (Cl_mono (fun q h1 h2 => ⟨h1, h2⟩) (Cl_below hb HCL.out)) (fun q h => h.2) HRD.out HBG.out HTL.out)
    have s0 : wr.cell? ⟨p.gs, 0, none⟩ = some (.slice p.Ab p.l1.length p.cb) := (blk_cell HJ0.out.s 0).trans rfl
    have s1 : wr.cell? ⟨p.gs, 1, none⟩ = some (.slice p.Ap p.np p.cp) := (blk_cell HJ0.out.s 1).trans rfl
    clear HCL
    go_upto_region 3 with (
      go_at_call 38
      (with_reducible refine (HST.out _ (Below.refl _ _)).mono ?_)
      rintro e9 wA ⟨g2, rfl, hcn, hbA⟩
      have HJA := Az.mk (HJ0.out.below hbA)
      have hlt : ∀ k, (Value.slice Ah dn.length ch).ownBlock = some k → k < wr.heap.size := fun k hk => own_lt HJ0.out.out k hk
      have HCN := Az.mk (Cl_mono (ok1 := p.ok (Value.slice Ah dn.length ch).ownBlock) (fun q h1 _ => by
        rcases h1 with h1 | h1
        · exact h1.1
        · refine ⟨⟨?_, ?_, ?_, ?_, ?_, ?_⟩, fun he => ?_⟩
          · have := blk_lt HJ0.out.o; omega
          · have := blk_lt HJ0.out.c; omega
          · have := blk_lt HJ0.out.r1; omega
          · have := blk_lt HJ0.out.r2; omega
          · have := blk_lt HJ0.out.l; omega
          · have := blk_lt HJ0.out.d; omega
          · have := hlt q he.symm; omega) hcn)
      have c1 : wA.cell? ⟨p.gc, 0, none⟩ = some (.pointer (some ⟨g, 0, none⟩)) := (blk_cell HJA.out.c 0).trans rfl
      have f1 := bkF HJA.out.c 0
      clear hcn hbA hlt)
    have HJS := Az.mk (HJA.out.step HCN.out HGC.out)
    clear c0 c1 f1 k0' k1' s0 s1 HJA HCN HST HJ0
    generalize wA.setCell ⟨p.gc, 0, none⟩ (.pointer (some ⟨g2, 0, none⟩)) = wB at *
    have c2 : wB.cell? ⟨p.gc, 0, none⟩ = some (.pointer (some ⟨g2, 0, none⟩)) := (blk_cell HJS.out.c 0).trans rfl
    obtain ⟨fn_, tmps_, assign_, body_, hy, hR⟩ := HY.out dn ⟨1, n0, l⟩ gk Ah ch g2 wB HJS.out rfl HK.out HGO.out
    have HRR := Az.mk hR
    clear hR
    refine (wpIn_wide (n := n)).1 ?_
    gi_wp2
    refine ⟨fun h => (by cases h), HRR.out.mono ?_⟩
    rintro e W' (⟨rfl, hb, ⟨k', hk', hgo'⟩, Ah', ch', hj⟩ | ⟨rfl, hj⟩)
    · have HJn := Az.mk hj
      have HGn := Az.mk hgo'
      have HIn := Az.mk (show closedB l0 p.l1 (nextT p.l1 ⟨1, n0, l⟩) = true ∧ tcnt (nextT p.l1 ⟨1, n0, l⟩) ≤ 100000 from ⟨closed_next HS.out HI.out.1, by omega⟩)
      have HKn := Az.mk (show ((dn ++ [n0]).length : Int) + k' = p.fuel from by have := HK.out; rw [List.length_append, List.length_singleton]; omega)
      clear hj hgo' hb
      gi_wp2
      go_wp2_with fail
      subst hk'
      go_roundg k'
      case measure => omega
      case rel => exact ⟨dn ++ [n0], _, Ah', ch', g2, HKn, HIn, HGn, HJn⟩
    · have HX := Az.mk hj
      clear hj
      gi_wp2
      go_wp2_with fail
      refine bodyPost_ret (results_none rfl _ _ _) rfl ?_
      exact ⟨⟨_, rfl⟩, .inr HX.out⟩
end Go.Proofs.Ytnfgpepggehegaa.I
namespace Go.Proofs.Ytnfgpepggehegaa.I
open Go.RowKit Go.Proofs.YtnfgpepggehegaaW.PrintWords Go.Proofs.YtnfgpepggehegaaW.PrintLast Go.Proofs.YtnfgpepggehegaaW.PrintMore
attribute [local go_sem] max2_int min2_int max_two min_two max_three min_three max_four min_four
set_option linter.unusedVariables false
set_option maxRecDepth 100000
set_option linter.unusedSimpArgs false
theorem results19 (tmps : Array Value) (w : World) (g g' : Nat) (v v' : Value) (h6 : tmps.getD 6 undef = .pointer (some ⟨g, 0, none⟩)) (h7 : tmps.getD 7 undef = .pointer (some ⟨g', 0, none⟩)) (hg : w.heap[g]? = some (.cells #[v] 40 (0, 0))) (hg' : w.heap[g']? = some (.cells #[v'] 29 (0, 0))) :
    (results Try.f19 tmps).run Try.prog w = .ok (.tuple #[v, v']) w := by
  have hc : w.cell? ⟨g, 0, none⟩ = some v := (blk_cell hg 0).trans rfl
  have hc' : w.cell? ⟨g', 0, none⟩ = some v' := (blk_cell hg' 0).trans rfl
  have h1 : tmps[6]?.getD undef = .pointer (some ⟨g, 0, none⟩) := by simpa using h6
  have h2 : tmps[7]?.getD undef = .pointer (some ⟨g', 0, none⟩) := by simpa using h7
  have hr : Try.f19.results = #[.cell 6 40, .cell 7 29] := rfl
  unfold results
  rw [hr]
  simp [go_sem, h1, h2, asAddr, loadVar, hc, hc']
theorem appendIn {F : Fence} {n : Nat} {W : World} {ops : Array Oper} {rest : List Oper} {o : Oper} {a : Act} {Q : Exit → Act → World → Prop} (hgd : o.guard = none) (s x : Operand)
    (ho : o.op = .call { callee := .builtin .append, args := #[s, x], argTypes := #[40, 40] }) (base : Nat) (v : Value) (dn : List Int) (y : Int) (hs : a.eval s = v) (hx : a.eval x = .slice (some ⟨W.heap.size, 0, none⟩) 1 1)
    (HO : W.ownsRow base 3 1 v dn.length (dn.map (Value.int .i64))) (hbase : base ≤ W.heap.size) (hl : dn.length ≤ 1048576)
    (h : ∀ v1 w1, w1.ownsRow base 3 1 v1 (dn ++ [y]).length ((dn ++ [y]).map (Value.int .i64)) → W.grownBy w1 v.ownBlock → (v1.ownBlock = v.ownBlock ∨ ∃ b, v1.ownBlock = some b ∧ W.heap.size ≤ b) → wpListIn F n Try.prog ops Q rest (a.put o.dst v1) w1) :
    wpListIn F n Try.prog ops Q (o :: rest) a (W.alloc (.cells #[.int .i64 y] 3)) := by
  obtain ⟨i0, hi, hzz⟩ := Option.map_eq_some_iff.1 (info3 : (Try.prog.info? 3).map (fun i => (i.zero, i.size, i.bytes)) = some (some (.int .i64 0), 1, 8))
  simp only [Prod.mk.injEq] at hzz
  obtain ⟨hz0, hz1, hz2⟩ := hzz
  obtain ⟨v1, w1, hrun, hown, hg, _, hat⟩ := run_append_own_at (P := Try.prog) (w := W.alloc (.cells #[.int .i64 y] 3)) base 40 o.type 3 i0 (.int .i64 0) 1 8 Try.underlying40 hi hz0 hz1 hz2 rfl (by omega) v dn.length (dn.map (Value.int .i64)) (HO.alloc _) ⟨W.heap.size, 0, none⟩ 1 1 [.int .i64 y] rfl
    (World.news_of_block (cs := #[.int .i64 y]) (t := 3) (fr := (0, 0)) (heap_alloc_new W _)) (by simp [Value.oneCell']) (by simp only [maxLen]; omega) (by omega) (by simp; omega)
  refine wpListIn_plain hgd fun K hK => ⟨?_, ?_⟩
  · simp [Oper.about, ho, resolve, Target.leads, Sem.run_pure]
  · rw [Oper.semAt_plain F _ _ (by rw [ho]; intro c hc'; cases hc')]
    simp [execOp, ho, resolve, invoke, builtin, hs, hx, hrun, Result.andThen]
    refine hK _ _ (h v1 w1 (by simpa using hown) (World.grownBy.trans (World.grownBy_alloc W _ _) hg) ?_)
    rcases hat with hat | hat
    · exact .inl hat
    · exact .inr ⟨_, hat, by simp⟩
theorem own_Ns {w : World} {B c : Nat} {A : Option Addr} {L : List Int} (h : w.ownsRow B 3 1 (.slice A L.length c) L.length (L.map (Value.int .i64))) : Ns w L A c := by
  refine Kd.V_mono (Kd.R_V (base' := 0) (d := Kd.int .i64) (e := 3) (base := B) (ok := fun _ => True) ⟨fun _ _ => trivial, L.map (Value.int .i64), h, by simp [show (Kd.int .i64).sz = 1 from rfl], fun j p hj => ?_⟩) (fun _ _ => trivial)
  have hl := (List.getElem?_eq_some_iff.1 hj).1
  have e : ((L.map (Value.int .i64)).drop (j * (Kd.int .i64).sz)).take (Kd.int .i64).sz = [.int .i64 p] := by
    rw [show (Kd.int .i64).sz = 1 from rfl, Nat.mul_one, List.drop_eq_getElem_cons (by simpa using hl), List.getElem_map]
    rw [(List.getElem?_eq_some_iff.1 hj).2]
    rfl
  rw [e]
  rfl
theorem HJ.put {p : HP} {lo lo' : Obj} {dn : List Int} {u : S28} {Ah : Option Addr} {ch g : Nat} {W : World} (h : HJ p lo dn u Ah ch g W) (hn : lo'.isCells = false) (hlt : p.w0.heap.size ≤ p.gL) (hld : p.gD ≠ p.gL) : HJ p lo' dn u Ah ch g (W.putObj p.gL lo') := by
  have ho : ∀ {k : Nat}, k ≠ p.gL → (W.putObj p.gL lo').heap[k]? = W.heap[k]? := fun hk => World.putObj_heap_other hk
  have hk : ∀ k, p.ok (Value.slice Ah dn.length ch).ownBlock k → k < W.heap.size → (W.putObj p.gL lo').heap[k]? = W.heap[k]? := fun k hk _ => ho hk.1.2.2.2.2.1
  have hc : ∀ {k : Nat} {cs : Array Value} {t : TypeId}, W.heap[k]? = some (.cells cs t (0, 0)) → (W.putObj p.gL lo').heap[k]? = some (.cells cs t (0, 0)) := fun hb => (ho (fun he => obj_ne h.l hb h.noc he.symm)).trans hb
  have hrow : some p.gL ≠ (Value.slice Ah dn.length ch).ownBlock := fun he => by
    rcases h.out.2 with ⟨hv, _⟩ | ⟨g', cap', cur, hv, _, hg, _⟩
    · have e : (Value.slice Ah dn.length ch).ownBlock = none := by rw [hv]; rfl
      rw [e] at he
      cases he
    · have e : (Value.slice Ah dn.length ch).ownBlock = some g' := by rw [hv]; rfl
      rw [e] at he
      injection he with he
      rw [← he, h.l] at hg
      injection hg with hg
      have hno := h.noc
      rw [hg] at hno
      cases hno
  exact ⟨hc h.s, hc h.c, hc h.o, hc h.f, hc h.r1, hc h.r2, World.putObj_heap_same (blk_lt h.l), (ho hld).trans h.d, Kd.V_step h.row (fun k hk' hl => hk k hk' hl), ClL_imp hk (fun _ h _ => h) _ _ h.bod, Cl_imp hk (fun _ h _ => h) _ _ h.cel,
    own_other h.out (grownBy_putObj' W p.gL lo') (.inr (fun he => hrow he.symm)), belowK_t h.bel ((Below.refl p.w0.heap.size W).grown (grownBy_putObj' W p.gL lo') h.bel.size (fun k e => by cases e; exact hlt)), hn⟩
end Go.Proofs.Ytnfgpepggehegaa.I
namespace Go.Proofs.Ytnfgpepggehegaa.I
open Go.RowKit Go.Proofs.YtnfgpepggehegaaW.PrintWords Go.Proofs.YtnfgpepggehegaaW.PrintLast Go.Proofs.YtnfgpepggehegaaW.PrintMore
attribute [local go_sem] max2_int min2_int max_two min_two max_three min_three max_four min_four
set_option linter.unusedVariables false
set_option maxRecDepth 100000
set_option linter.unusedSimpArgs false
def mkRec (fn : FuncId) (tmps : Array Value) (ps : Array Tmp) (assign body : Code) (D : Nat) (st : LoopState) (pe : Option Code) : Loop := { state := st, pending := pe, fn, tmps, params := ps, assign, body, defers := D }
theorem range_outer {F : Fence} {P : Program} {n : Nat} (hro : F.round = none) (hF : ∀ f, F.fn f) {g : Operand} {ps : Array Tmp} {assign body : Code} {Q : Exit → Act → World → Prop} {tmps : Array Value} {w : World} (h1 : 1 ≤ n) {gf : Nat} {lb : Array Value} (hg : ({ tmps := tmps, defers := [] } : Act).eval g = .func (.func gf) #[] lb)
    (eg : ∀ args w, (callFunc gf args).run P w = .ok (.enter gf args) w)
    (h : ∀ (fn : FuncId) (rc : LoopState → Option Code → Loop) (a' : Act), rc = mkRec fn tmps ps assign body w.heap.size → a' = { tmps := tmps, defers := [{ target := .collected w.heap.size, args := #[] }] } → CallsIn F (n - 1) P gf (#[.func (.yield (w.heap.size + 1)) #[] #[]] ++ lb) ((w.alloc (.deferred (some []))).alloc (.loop (rc .ready none))) (rangePost F n P (w.heap.size + 1) Q a')) :
    (Code.rangeFunc g ps assign body).wpIn F n P Q { tmps := tmps, defers := [] } w := by
  refine wpIn_rangeFunc ?_
  intro fn hfn
  rw [hro]
  obtain ⟨rc, hrc⟩ : ∃ rc, rc = mkRec fn tmps ps assign body w.heap.size := ⟨_, rfl⟩
  obtain ⟨W1, hW1⟩ : ∃ W1, (w.alloc (.deferred (some []))).alloc (.loop (rc .ready none)) = W1 := ⟨_, rfl⟩
  have h2 := h fn rc _ hrc rfl
  rw [hW1] at h2
  refine ⟨w.heap.size + 1, [{ target := .collected w.heap.size, args := #[] }], W1, { target := .fn (.func gf) lb, args := #[.func (.yield (w.heap.size + 1)) #[] #[]] }, W1, gf,
    #[.func (.yield (w.heap.size + 1)) #[] #[]] ++ lb, W1, ?_, ?_, ?_, ?_, fun _ => h1, ?_⟩
  · rw [← hW1, hrc]; exact run_enterLoop_outer _ _ _ _ _
  · simp only [resolve, hg]
    simp [go_sem]
  · intro f' hf'; exact hF f'
  · simp [invoke, go_sem, eg]
  · exact h2
theorem yield_round {n l : Nat} {fn : FuncId} {tmps : Array Value} {ps : Array Tmp} {assign body : Code} {D : Nat} {rc : LoopState → Option Code → Loop} {args : Array Value} {W : World} {R : Ending → World → Prop} (hrc : rc = mkRec fn tmps ps assign body D) (hl : W.heap[l]? = some (.loop (rc .ready none))) (hs : args.size = ps.size)
    (h : assign.wpIn (Fence.wide.inRound l) n Try.prog (Exit.then (fun a₁ w₁ => w₁ = W ∧ body.wpIn (Fence.wide.inRound l) n Try.prog (roundPost Try.prog l R) a₁ (W.putObj l (.loop (rc .busy none)))) (fun _ _ _ => False)) { tmps := (ps.zip args).foldl (fun t (p, v) => t.setIfInBounds p v) tmps, defers := [] } W) :
    YieldAt Fence.wide n Try.prog l args W R := by
  subst hrc
  refine ⟨fn, _, assign, body, run_yield hl hs, roundIn_of_wpIn trivial (wpIn_mono h ?_)⟩
  rintro e a₁ w₁ hq
  cases e with
  | normal =>
    obtain ⟨rfl, hq⟩ := hq
    exact ⟨_, run_beginRound hl rfl, hq⟩
  | _ => exact hq
section
variable {w : World} {l D : Nat} {fn : FuncId} {tmps : Array Value} {ps : Array Tmp} {assign body : Code} {rc : LoopState → Option Code → Loop}
theorem round_back (hrc : rc = mkRec fn tmps ps assign body D) (hl : w.heap[l]? = some (.loop (rc .busy none))) : (Instr.endRound l none).run Try.prog w = .ok (.bool true) (w.putObj l (.loop (rc .ready none))) := by
  subst hrc
  exact run_endRound none hl
theorem round_ret (hrc : rc = mkRec fn tmps ps assign body D) (hl : w.heap[l]? = some (.loop (rc .busy none))) : (Instr.endRound l (some .ret)).run Try.prog w = .ok (.bool false) (w.putObj l (.loop (rc .done (some .ret)))) := by
  subst hrc
  exact run_endRound (some .ret) hl
theorem loop_ready (hrc : rc = mkRec fn tmps ps assign body D) (hl : w.heap[l]? = some (.loop (rc .ready none))) : (Instr.endLoop l).run Try.prog w = .ok none (w.putObj l (.loop (rc .exhausted none))) := by
  subst hrc
  exact run_endLoop hl (by intro h; cases h)
theorem loop_done (hrc : rc = mkRec fn tmps ps assign body D) (hl : w.heap[l]? = some (.loop (rc .done (some .ret)))) : (Instr.endLoop l).run Try.prog w = .ok (some .ret) (w.putObj l (.loop (rc .exhausted (some .ret)))) := by
  subst hrc
  exact run_endLoop hl (by intro h; cases h)
end
theorem own_ne_obj {w : World} {base : Nat} {e : TypeId} {size n g : Nat} {v : Value} {xs : List Value} {lo : Obj} (h : w.ownsRow base e size v n xs) (hg : w.heap[g]? = some lo) (hn : lo.isCells = false) : some g ≠ v.ownBlock := fun he => by
  rcases h.2 with ⟨hv, _⟩ | ⟨g', cap', cur, hv, _, hg', _⟩
  · have e : v.ownBlock = none := by rw [hv]; rfl
    rw [e] at he
    cases he
  · have e : v.ownBlock = some g' := by rw [hv]; rfl
    rw [e] at he
    injection he with he
    rw [← he, hg] at hg'
    injection hg' with hg'
    rw [hg'] at hn
    cases hn
theorem own_base {w : World} {base : Nat} {e : TypeId} {size n : Nat} {v : Value} {xs : List Value} (h : w.ownsRow base e size v n xs) (k : Nat) (hk : v.ownBlock = some k) : base ≤ k := by
  rcases h.2 with ⟨hv, _⟩ | ⟨g', cap', cur, hv, hb, hg', _⟩
  · have e : v.ownBlock = none := by rw [hv]; rfl
    rw [e] at hk
    cases hk
  · have e : v.ownBlock = some g' := by rw [hv]; rfl
    rw [e] at hk
    injection hk with hk
    omega
theorem own_slice {w : World} {base : Nat} {e : TypeId} {size n : Nat} {v : Value} {xs : List Value} (h : w.ownsRow base e size v n xs) : ∃ A c, v = .slice A n c := by
  rcases h.2 with ⟨hv, hn⟩ | ⟨g', cap', cur, hv, _⟩
  · exact ⟨none, 0, by rw [hv, hn]⟩
  · exact ⟨_, _, hv⟩
theorem own_putObj {w : World} {base : Nat} {e : TypeId} {size n g : Nat} {v : Value} {xs : List Value} {lo : Obj} (h : w.ownsRow base e size v n xs) (hg : w.heap[g]? = some lo) (hn : lo.isCells = false) (o : Obj) : (w.putObj g o).ownsRow base e size v n xs :=
  own_other h (grownBy_putObj' w g o) (.inr (fun he => own_ne_obj h hg hn he.symm))
theorem HJ.push {p : HP} {lo : Obj} {dn : List Int} {u : S28} {Ah Ah' : Option Addr} {ch ch' g : Nat} {W w1 : World} {y : Int} (h : HJ p lo dn u Ah ch g W) (hown : w1.ownsRow p.nB 3 1 (.slice Ah' (dn ++ [y]).length ch') (dn ++ [y]).length ((dn ++ [y]).map (Value.int .i64)))
    (hg : W.grownBy w1 (Value.slice Ah dn.length ch).ownBlock) (hat : (Value.slice Ah' (dn ++ [y]).length ch').ownBlock = (Value.slice Ah dn.length ch).ownBlock ∨ ∃ b, (Value.slice Ah' (dn ++ [y]).length ch').ownBlock = some b ∧ W.heap.size ≤ b) (h5 : p.g5 < p.nB) (h0 : p.w0.heap.size ≤ p.nB) (hO : p.w0.heap.size ≤ p.gO) (h6 : p.g6 ≠ p.gO) :
    HJ p lo (dn ++ [y]) u Ah' ch' g (w1.setCell ⟨p.gO, 0, none⟩ (.slice Ah' (dn ++ [y]).length ch')) := by
  have hk : ∀ k, p.ok (Value.slice Ah dn.length ch).ownBlock k → k < W.heap.size → (w1.setCell ⟨p.gO, 0, none⟩ (.slice Ah' (dn ++ [y]).length ch')).heap[k]? = W.heap[k]? := fun k hk hl => (Below.heap_setCell w1 ⟨p.gO, 0, none⟩ _ k hk.1.1).trans (hg.block k hl hk.2)
  have hm : ∀ k, p.ok (Value.slice Ah dn.length ch).ownBlock k → k < W.heap.size → p.ok (Value.slice Ah' (dn ++ [y]).length ch').ownBlock k := fun k hk hl => ⟨hk.1, fun he => by
    rcases hat with e | ⟨b, e, hb⟩
    · exact hk.2 (he.trans e)
    · rw [e] at he
      injection he with he
      omega⟩
  have ho1 := blk_grown h.o hg (own_ne h.out h.o (by decide))
  have hbel : Below p.w0.heap.size p.w0 w1 := belowK_t h.bel ((Below.refl p.w0.heap.size W).grown hg h.bel.size (fun k e => Nat.le_trans h0 (own_base h.out k e)))
  exact ⟨blk_far (p := ⟨p.gO, 0, none⟩) (blk_grown h.s hg (own_ne h.out h.s (by decide))) (blk_ne h.s h.o (by decide)) _, blk_far (p := ⟨p.gO, 0, none⟩) (blk_grown h.c hg (own_ne h.out h.c (by decide))) (blk_ne h.c h.o (by decide)) _, blk_put ho1 0 _ rfl,
    blk_far (p := ⟨p.gO, 0, none⟩) (blk_grown h.f hg (fun he => by have := own_base h.out _ he.symm; omega)) (blk_ne h.f h.o (by decide)) _, blk_far (p := ⟨p.gO, 0, none⟩) (blk_grown h.r1 hg (own_ne h.out h.r1 (by decide))) h6 _, blk_far (p := ⟨p.gO, 0, none⟩) (blk_grown h.r2 hg (own_ne h.out h.r2 (by decide))) (blk_ne h.r2 h.o (by decide)) _,
    (Below.heap_setCell w1 ⟨p.gO, 0, none⟩ _ p.gL (obj_ne h.l h.o h.noc)).trans (blk_grown h.l hg (own_ne_obj h.out h.l h.noc)), (Below.heap_setCell w1 ⟨p.gO, 0, none⟩ _ p.gD (obj_ne h.d h.o rfl)).trans (blk_grown h.d hg (own_ne_obj h.out h.d rfl)),
    Kd.V_mono (Kd.V_step (Kd.V_bound h.row) (fun k hk' hl => hk k hk'.1 hl)) (fun k hk' => hm k hk'.1 hk'.2), ClL_imp hk hm _ _ h.bod, Cl_imp hk hm _ _ h.cel, own_setCell hown (own_ne hown ho1 (by decide)) _, bset hbel hO, h.noc⟩
structure HE (p : HP) (lo : Obj) (L : List Int) (Al : Option Addr) (cl : Nat) (er : Int) (W : World) : Prop where
  l : W.heap[p.gL]? = some lo
  d : W.heap[p.gD]? = some (.deferred (some []))
  r1 : W.heap[p.g6]? = some (.cells #[.slice Al L.length cl] 40 (0, 0))
  r2 : W.heap[p.g7]? = some (.cells #[.int .i64 er] 29 (0, 0))
  out : W.ownsRow p.nB 3 1 (.slice Al L.length cl) L.length (L.map (Value.int .i64))
  bel : Below p.w0.heap.size p.w0 W
  noc : lo.isCells = false
theorem HJ.fin {p : HP} {lo : Obj} {dn : List Int} {u : S28} {Ah : Option Addr} {ch g : Nat} {W : World} (h : HJ p lo dn u Ah ch g W) (L : List Int) (Al : Option Addr) (cl : Nat) (er : Int) (hown : W.ownsRow p.nB 3 1 (.slice Al L.length cl) L.length (L.map (Value.int .i64))) (h6 : p.w0.heap.size ≤ p.g6) (h7 : p.w0.heap.size ≤ p.g7) :
    HE p lo L Al cl er ((W.setCell ⟨p.g6, 0, none⟩ (.slice Al L.length cl)).setCell ⟨p.g7, 0, none⟩ (.int .i64 er)) := by
  have hn := blk_ne h.r1 h.r2 (by decide)
  have ho6 := own_setCell (p := ⟨p.g6, 0, none⟩) hown (own_ne hown h.r1 (by decide)) (.slice Al L.length cl)
  exact ⟨(Below.heap_setCell _ ⟨p.g7, 0, none⟩ _ p.gL (obj_ne h.l h.r2 h.noc)).trans ((Below.heap_setCell _ ⟨p.g6, 0, none⟩ _ p.gL (obj_ne h.l h.r1 h.noc)).trans h.l), (Below.heap_setCell _ ⟨p.g7, 0, none⟩ _ p.gD (obj_ne h.d h.r2 rfl)).trans ((Below.heap_setCell _ ⟨p.g6, 0, none⟩ _ p.gD (obj_ne h.d h.r1 rfl)).trans h.d),
    blk_far (p := ⟨p.g7, 0, none⟩) (blk_put (cs' := #[.slice Al L.length cl]) h.r1 0 _ rfl) hn _, blk_put (cs' := #[.int .i64 er]) (blk_far (p := ⟨p.g6, 0, none⟩) h.r2 hn.symm _) 0 _ rfl,
    own_setCell (p := ⟨p.g7, 0, none⟩) ho6 (own_ne hown h.r2 (by decide)) _, bset (bset h.bel h6) h7, h.noc⟩
theorem below_putObj {b : Nat} {w W : World} {g : Nat} (h : Below b w W) (hw : b = w.heap.size) (hg : b ≤ g) (o : Obj) : Below b w (W.putObj g o) := by
  subst hw
  exact belowK_t h ((Below.refl w.heap.size W).grown (grownBy_putObj' W g o) h.size (fun k e => by cases e; exact hg))
theorem HE.put {p : HP} {lo lo' : Obj} {L : List Int} {Al : Option Addr} {cl : Nat} {er : Int} {W : World} (h : HE p lo L Al cl er W) (hn : lo'.isCells = false) (hlt : p.w0.heap.size ≤ p.gL) (hld : p.gD ≠ p.gL) : HE p lo' L Al cl er (W.putObj p.gL lo') := by
  have hc : ∀ {k : Nat} {cs : Array Value} {t : TypeId}, W.heap[k]? = some (.cells cs t (0, 0)) → (W.putObj p.gL lo').heap[k]? = some (.cells cs t (0, 0)) := fun hb => (World.putObj_heap_other (fun he => obj_ne h.l hb h.noc he.symm)).trans hb
  exact ⟨World.putObj_heap_same (blk_lt h.l), (World.putObj_heap_other hld).trans h.d, hc h.r1, hc h.r2, own_putObj h.out h.l h.noc _, below_putObj h.bel rfl hlt _, hn⟩
theorem HE.shut {p : HP} {lo : Obj} {L : List Int} {Al : Option Addr} {cl : Nat} {er : Int} {W : World} (h : HE p lo L Al cl er W) (hD : p.w0.heap.size ≤ p.gD) : Ns (W.putObj p.gD (.deferred none)) L Al cl ∧ Below p.w0.heap.size p.w0 (W.putObj p.gD (.deferred none)) :=
  ⟨own_Ns (own_putObj h.out h.d rfl _), below_putObj h.bel rfl hD _⟩
end Go.Proofs.Ytnfgpepggehegaa.I
namespace Go.Proofs.Ytnfgpepggehegaa.I
open Go.RowKit Go.Proofs.YtnfgpepggehegaaW.PrintWords Go.Proofs.YtnfgpepggehegaaW.PrintLast Go.Proofs.YtnfgpepggehegaaW.PrintMore
attribute [local go_sem] max2_int min2_int max_two min_two max_three min_three max_four min_four
set_option linter.unusedVariables false
set_option maxRecDepth 100000
set_option linter.unusedSimpArgs false
def headsF (l0 : List S87) (l1 : List S84) (t : S28) (fuel : Int) : List Int × Int := if chkF l0 l1 t fuel = 0 then (goT l1 fuel.toNat t []).2 else ([], chkF l0 l1 t fuel)
theorem headsF_neg {l0 : List S87} {l1 : List S84} {t : S28} {z : Int} (h : stB l0 l1 t = z) (hz : z ≠ 0) (fuel : Int) : headsF l0 l1 t fuel = ([], z) := by
  unfold headsF chkF
  rw [h, if_neg hz, if_neg hz]
theorem headsF_fuel {l0 : List S87} {l1 : List S84} {t : S28} (h : stB l0 l1 t = 0) {fuel : Int} (hf : fuel < 0 ∨ 1048576 < fuel) : headsF l0 l1 t fuel = ([], 2) := by
  unfold headsF chkF
  rw [h]
  simp only [if_pos rfl, if_pos hf]
  rfl
theorem headsF_ok {l0 : List S87} {l1 : List S84} {t : S28} (h : stB l0 l1 t = 0) {fuel : Int} (hf : ¬ (fuel < 0 ∨ 1048576 < fuel)) : headsF l0 l1 t fuel = (goT l1 fuel.toNat t []).2 := by
  unfold headsF chkF
  have e : (if fuel < 0 ∨ 1048576 < fuel then (2 : Int) else 0) = 0 := if_neg hf
  rw [h, e]
  rfl
theorem ret19 {n : Nat} {tmps : Array Value} {w : World} {R : Ending → World → Prop} (g g' : Nat) (v v' : Value) (h6 : tmps.getD 6 undef = .pointer (some ⟨g, 0, none⟩)) (h7 : tmps.getD 7 undef = .pointer (some ⟨g', 0, none⟩)) (hg : w.heap[g]? = some (.cells #[v] 40 (0, 0))) (hg' : w.heap[g']? = some (.cells #[v'] 29 (0, 0))) (hR : R (.returned (.tuple #[v, v'])) w) :
    bodyPostM Fence.wide n Try.prog Try.f19 R .ret { tmps := tmps, defers := [] } w :=
  ⟨_, results19 _ _ g g' v v' h6 h7 hg hg', hR⟩
theorem ret19m {n : Nat} {tmps : Array Value} {w : World} {R : Ending → World → Prop} (D g g' : Nat) (v v' : Value) (h6 : tmps.getD 6 undef = .pointer (some ⟨g, 0, none⟩)) (h7 : tmps.getD 7 undef = .pointer (some ⟨g', 0, none⟩)) (hD : w.heap[D]? = some (.deferred (some []))) (hg : w.heap[g]? = some (.cells #[v] 40 (0, 0))) (hg' : w.heap[g']? = some (.cells #[v'] 29 (0, 0))) (hR : R (.returned (.tuple #[v, v'])) (w.putObj D (.deferred none))) :
    bodyPostM Fence.wide n Try.prog Try.f19 R .ret { tmps := tmps, defers := [{ target := .collected D, args := #[] }] } w :=
  ⟨by simp, .inl ⟨_, _, rfl, run_takeDeferred hD, ret19 (n := n) g g' v v' h6 h7 ((World.putObj_heap_other (obj_ne hD hg rfl).symm).trans hg) ((World.putObj_heap_other (obj_ne hD hg' rfl).symm).trans hg') hR⟩⟩
attribute [local go_sem] Oper.semAt_some
set_option maxHeartbeats 16000000 in
theorem pheads_at {w : World} {A0 : Option Addr} {c0 : Nat} {l0 : List S87} {A1 : Option Addr} {c1 : Nat} {l1 : List S84} {ok : Nat → Prop} {x : S28} {A : Option Addr} {c : Nat} (hs : Sch w A0 c0 l0 A1 c1 l1) (ht : Tm w ok x A c) (fuel : Int) (L : List Int) (er : Int) (hF : headsF l0 l1 x fuel = (L, er)) :
    Calls Try.prog 19 #[.agg #[.slice A0 l0.length c0, .slice A1 l1.length c1], .agg #[.int .i64 x.f0, .int .i64 x.f1, .slice A x.f2.length c], .int .i64 fuel] w fun e w' => ∃ Al cl, e = .returned (.tuple #[.slice Al L.length cl, .int .i64 er]) ∧ Ns w' L Al cl ∧ Below w.heap.size w w' := by
  have hu25 := Try.underlying25
  have hu28 := Try.underlying28
  have hu69 := Try.underlying69
  have hu74 := Try.underlying74
  have HS := Az.mk hs
  have HT := Az.mk ht
  have HF := Az.mk hF
  clear hs ht hF
  refine callsIn_wide.1 (callsIn_of_wp_marks (n := 6) Try.func19 rfl trivial ?_)
  refine wpIn_wide.2 ?_
  simp only [Try.ntmps19, List.size_toArray, List.length_cons, List.length_nil, Nat.reduceAdd, Nat.reduceSub, Array.replicate_succ, Array.replicate_zero, List.push_toArray, List.append_toArray, List.nil_append, List.cons_append]
  go_upto_region 1 with (first
    | ((with_reducible refine gate_dst (N := 3) rfl ?_)
       refine box_event ?hg (N := 3) ?hd (cs := #[.slice A0 l0.length c0, .slice A1 l1.length c1]) (t := 25) ?hr ?_
       (case hd => rfl)
       (case hg => rfl)
       (case hr => first | (go_simp; done) | (go_simp; rfl))
       intro g3 hg_g3 w2 hbox hbb
       have S32 := Az.mk hbox
       have HB2 := Az.mk hbb
       have HL3 := Az.mk (show w.heap.size ≤ g3 from by omega)
       clear hbox hbb hg_g3)
    | ((with_reducible refine gate_dst (N := 4) rfl ?_)
       refine box_event ?hg (N := 4) ?hd (cs := #[.int .i64 x.f0, .int .i64 x.f1, .slice A x.f2.length c]) (t := 28) ?hr ?_
       (case hd => rfl)
       (case hg => rfl)
       (case hr => first | (go_simp; done) | (go_simp; rfl))
       intro g4 hg_g4 w3 hbox hbb
       have S33 := Az.mk (bkB S32.out hbb)
       have S43 := Az.mk hbox
       have HB3 := Az.mk (bst HB2.out hbb)
       clear S32 HB2
       clear hbox hbb hg_g4)
    | ((with_reducible refine gate_dst (N := 5) rfl ?_)
       refine box_event ?hg (N := 5) ?hd (cs := #[.int .i64 fuel]) (t := 3) ?hr ?_
       (case hd => rfl)
       (case hg => rfl)
       (case hr => first | (go_simp; done) | (go_simp; rfl))
       intro g5 hg_g5 w4 hbox hbb
       have S34 := Az.mk (bkB S33.out hbb)
       have S44 := Az.mk (bkB S43.out hbb)
       have S54 := Az.mk hbox
       have HB4 := Az.mk (bst HB3.out hbb)
       clear S33 S43 HB3
       clear hbox hbb hg_g5)
    | ((with_reducible refine gate_dst (N := 6) rfl ?_)
       refine box_event ?hg (N := 6) ?hd (cs := #[.slice none 0 0]) (t := 40) ?hr ?_
       (case hd => rfl)
       (case hg => rfl)
       (case hr => first | (go_simp; done) | (go_simp; rfl))
       intro g6 hg_g6 w5 hbox hbb
       have S35 := Az.mk (bkB S34.out hbb)
       have S45 := Az.mk (bkB S44.out hbb)
       have S55 := Az.mk (bkB S54.out hbb)
       have S65 := Az.mk hbox
       have HG6 := Az.mk (show w.heap.size ≤ g6 from by have := HB4.out.size; omega)
       have HB5 := Az.mk (bst HB4.out hbb)
       clear S34 S44 S54 HB4
       clear hbox hbb hg_g6)
    | ((with_reducible refine gate_dst (N := 7) rfl ?_)
       refine box_event ?hg (N := 7) ?hd (cs := #[.int .i64 0]) (t := 29) ?hr ?_
       (case hd => rfl)
       (case hg => rfl)
       (case hr => first | (go_simp; done) | (go_simp; rfl))
       intro g7 hg_g7 w6 hbox hbb
       have S3 := Az.mk (bkB S35.out hbb)
       have S4 := Az.mk (bkB S45.out hbb)
       have S5 := Az.mk (bkB S55.out hbb)
       have S6 := Az.mk (bkB S65.out hbb)
       have S7 := Az.mk hbox
       have HG7 := Az.mk (show w.heap.size ≤ g7 from by have := HB5.out.size; omega)
       have HB6 := Az.mk (bst HB5.out hbb)
       clear S35 S45 S55 S65 HB5
       clear hbox hbb hg_g7))
  have e0 : w6.cell? ⟨g3, 0, none⟩ = some (.slice A0 l0.length c0) := (blk_cell S3.out 0).trans rfl
  have e1 : w6.cell? ⟨g3, 1, none⟩ = some (.slice A1 l1.length c1) := (blk_cell S3.out 1).trans rfl
  have m0 : w6.cell? ⟨g4, 0, none⟩ = some (.int .i64 x.f0) := (blk_cell S4.out 0).trans rfl
  have m1 : w6.cell? ⟨g4, 1, none⟩ = some (.int .i64 x.f1) := (blk_cell S4.out 1).trans rfl
  have m2 : w6.cell? ⟨g4, 2, none⟩ = some (.slice A x.f2.length c) := (blk_cell S4.out 2).trans rfl
  obtain ⟨z, hz⟩ : ∃ z, stB l0 l1 x = z := ⟨_, rfl⟩
  have HZ := Az.mk hz
  clear hz
  go_upto_region 2 with (
    go_at_call 11
    (with_reducible refine (check_at (HS.out.below HB6.out) (HT.out.below HB6.out) z HZ.out).mono ?_)
    rintro e9 w7 ⟨rfl, hb7⟩
    have HB7 := Az.mk (bst HB6.out hb7)
    have S37 := Az.mk (bkB S3.out hb7)
    have S47 := Az.mk (bkB S4.out hb7)
    have S57 := Az.mk (bkB S5.out hb7)
    have S67 := Az.mk (bkB S6.out hb7)
    have S77 := Az.mk (bkB S7.out hb7)
    clear hb7
    skip)
  clear e0 e1 m0 m1 m2 S3 S4 S5 S6 S7 HB6
  by_cases hz : z = 0
  rotate_left
  · have hf := HF.out
    rw [headsF_neg HZ.out hz] at hf
    injection hf with h1 h2
    subst h1 h2
    have q1 : (z != 0) = true := bne_iff_ne.2 hz
    have q2 : (z == 0) = false := beq_eq_false_iff_ne.2 hz
    clear hz HF
    have z6 : w7.cell? ⟨g6, 0, none⟩ = some (.slice none 0 0) := (blk_cell S67.out 0).trans rfl
    have z7 : w7.cell? ⟨g7, 0, none⟩ = some (.int .i64 0) := (blk_cell S77.out 0).trans rfl
    have f6 := bkF S67.out 0
    have f7 := bkF S77.out 0
    have hn := blk_ne S67.out S77.out (by decide)
    have hn' := hn.symm
    go_wp2_with fail
    exact ret19 g6 g7 (.slice none 0 0) (.int .i64 z) rfl rfl (blk_far (p := ⟨g7, 0, none⟩) (blk_put (cs' := #[.slice none 0 0]) S67.out 0 _ rfl) hn _) (blk_put (cs' := #[.int .i64 z]) (blk_far (p := ⟨g6, 0, none⟩) S77.out hn' _) 0 _ rfl) ⟨none, 0, rfl, Ns.nil _, bset (bset HB7.out HG6.out) HG7.out⟩
  subst hz
  have b5 : w7.cell? ⟨g5, 0, none⟩ = some (.int .i64 fuel) := (blk_cell S57.out 0).trans rfl
  by_cases hfu : fuel < 0 ∨ 1048576 < fuel
  · have hf := HF.out
    rw [headsF_fuel HZ.out hfu] at hf
    injection hf with h1 h2
    subst h1 h2
    have HFu := Az.mk (fuelled_no hfu)
    clear hfu HF
    go_wp2_with fail
    (with_reducible refine (step_fuelled.calls fuel 2 _ HFu.out).mono ?_)
    rintro e w8 ⟨rfl, hd8⟩
    have hb8 := Drawn0.below hd8
    have HB8 := Az.mk (bst HB7.out hb8)
    have S68 := Az.mk (bkB S67.out hb8)
    have S78 := Az.mk (bkB S77.out hb8)
    have z6 : w8.cell? ⟨g6, 0, none⟩ = some (.slice none 0 0) := (blk_cell S68.out 0).trans rfl
    have z7 : w8.cell? ⟨g7, 0, none⟩ = some (.int .i64 0) := (blk_cell S78.out 0).trans rfl
    have f6 := bkF S68.out 0
    have f7 := bkF S78.out 0
    have hn := blk_ne S68.out S78.out (by decide)
    have hn' := hn.symm
    clear hd8 hb8
    go_wp2_with fail
    exact ret19 g6 g7 (.slice none 0 0) (.int .i64 2) rfl rfl (blk_far (p := ⟨g7, 0, none⟩) (blk_put (cs' := #[.slice none 0 0]) S68.out 0 _ rfl) hn _) (blk_put (cs' := #[.int .i64 2]) (blk_far (p := ⟨g6, 0, none⟩) S78.out hn' _) 0 _ rfl) ⟨none, 0, rfl, Ns.nil _, bset (bset HB8.out HG6.out) HG7.out⟩
  obtain ⟨fu, rfl⟩ : ∃ k : Nat, fuel = (k : Int) := ⟨fuel.toNat, by omega⟩
  have hfu2 : fu ≤ 1048576 := by omega
  have HFu := Az.mk (fuelled_ok hfu)
  have HGO := Az.mk (show (goT l1 fu x []).2 = (L, er) from by have h := HF.out; rw [headsF_ok HZ.out hfu, Int.toNat_natCast] at h; exact h)
  obtain ⟨hs, htc, hcl⟩ := stB_zero HZ.out
  obtain ⟨hsm, h1, h64⟩ := sch_parts hs
  have HSB := Az.mk hs
  have HCL := Az.mk hcl
  have HTC := Az.mk htc
  have HF2 := Az.mk hfu2
  have H64 := Az.mk h64
  have HBG := Az.mk (show ∀ x ∈ l1, tcnt x.f2 ≤ 1000000 from fun x hx => by have := (sch_bodies hs).2 x hx; omega)
  have HBG2 := Az.mk (show ∀ x ∈ l1, tcntL x.f2.f2 ≤ 1000000 from fun x hx => by have := (sch_bodies hs).2 x hx; have := tcnt_f2 x.f2; omega)
  have HTL := Az.mk (show tcntL x.f2 ≤ 1000000 from by have := tcnt_f2 x; omega)
  have HTT := Az.mk (show (⟨x.f0, x.f1, x.f2⟩ : S28) = x from by cases x; rfl)
  clear hs htc hcl hsm h1 h64 HF hfu hfu2
  go_upto_region 8 with (first
    | (go_at_call 42
       (with_reducible refine (step_fuelled.calls (fu : Int) 0 _ HFu.out).mono ?_)
       rintro e w8 ⟨rfl, hd8⟩
       have hb8 := Drawn0.below hd8
       have HB8 := Az.mk (bst HB7.out hb8)
       have S38 := Az.mk (bkB S37.out hb8)
       have S48 := Az.mk (bkB S47.out hb8)
       have S58 := Az.mk (bkB S57.out hb8)
       have S68 := Az.mk (bkB S67.out hb8)
       have S78 := Az.mk (bkB S77.out hb8)
       clear hd8 hb8 b5 S37 S47 S57 S67 S77 HB7)
    | ((with_reducible refine gate_dst (N := 10) rfl ?_)
       refine box_event ?hg (N := 10) ?hd (cs := #[.slice none 0 0]) (t := 40) ?hr ?_
       (case hd => rfl)
       (case hg => rfl)
       (case hr => first | (go_simp; done) | (go_simp; rfl))
       intro gO hg_gO w9 hbox hbb
       have S39 := Az.mk (bkB S38.out hbb)
       have S49 := Az.mk (bkB S48.out hbb)
       have S59 := Az.mk (bkB S58.out hbb)
       have S69 := Az.mk (bkB S68.out hbb)
       have S79 := Az.mk (bkB S78.out hbb)
       have SO9 := Az.mk hbox
       have HG6O := Az.mk (show g6 ≠ gO from by have := blk_lt S68.out; omega)
       have HGO_ := Az.mk (show w.heap.size ≤ gO from by have := HB8.out.size; omega)
       have HB9 := Az.mk (bst HB8.out hbb)
       clear S38 S48 S58 S68 S78 HB8
       clear hbox hbb hg_gO))
  have e0 : w9.cell? ⟨g3, 0, none⟩ = some (.slice A0 l0.length c0) := (blk_cell S39.out 0).trans rfl
  have e1 : w9.cell? ⟨g3, 1, none⟩ = some (.slice A1 l1.length c1) := (blk_cell S39.out 1).trans rfl
  have m0 : w9.cell? ⟨g4, 0, none⟩ = some (.int .i64 x.f0) := (blk_cell S49.out 0).trans rfl
  have m1 : w9.cell? ⟨g4, 1, none⟩ = some (.int .i64 x.f1) := (blk_cell S49.out 1).trans rfl
  have m2 : w9.cell? ⟨g4, 2, none⟩ = some (.slice A x.f2.length c) := (blk_cell S49.out 2).trans rfl
  try simp only [Act.put, List.setIfInBounds_toArray, List.set_cons_succ, List.set_cons_zero]
  go_cut [28] from 24 to 28 (fun v28 wc => ∃ (gs gc gv : Nat) (Ab : Option Addr) (cb : Nat) (Ap : Option Addr) (cp : Nat) (bs : List Value), v28 = .func (.func 68) #[] #[.pointer (some ⟨gc, 0, none⟩), .pointer (some ⟨gs, 0, none⟩)] ∧ Az (wc.heap[gs]? = some (.cells #[.slice Ab l1.length cb, .slice Ap l1.length cp] 69 (0, 0))) ∧ Az (wc.heap[gc]? = some (.cells #[.pointer (some ⟨gv, 0, none⟩)] 65 (0, 0))) ∧ Az (w9.heap.size ≤ gs ∧ w9.heap.size ≤ gc) ∧ Az (Row wc (fun q => w9.heap.size ≤ q ∧ q ≠ gc) (.slice Ab l1.length cb) bs) ∧ Az (ClL wc (fun q => w9.heap.size ≤ q ∧ q ≠ gc) (l1.map (·.f2)) bs) ∧ Az (Cl wc (fun q => w9.heap.size ≤ q ∧ q ≠ gc) x (.pointer (some ⟨gv, 0, none⟩))) ∧ Az (Below w9.heap.size w9 wc))
  case first =>
    go_region_held3 (fun w' => w'.cell? ⟨g3, 0, none⟩ = some (.slice A0 l0.length c0) ∧ w'.cell? ⟨g3, 1, none⟩ = some (.slice A1 l1.length c1) ∧ w'.cell? ⟨g4, 0, none⟩ = some (.int .i64 x.f0) ∧ w'.cell? ⟨g4, 1, none⟩ = some (.int .i64 x.f1) ∧ w'.cell? ⟨g4, 2, none⟩ = some (.slice A x.f2.length c)) (go_keep)
      (first
        | (go_at_call 37
           (with_reducible refine (cscheme_calls A0 c0 l0.length A1 c1 l1 w9.drew (Kd.C_below HS.out.r1 (below_drew HB9.out)) H64.out HBG2.out).mono ?_)
           rintro e9 wA ⟨Ab, cb, Ap, cp, bs, rfl, hrow, hcll, hbA⟩
           have HRowA := Az.mk hrow
           have HClA := Az.mk hcll
           have HbA := Az.mk (bst (below_drew (Below.refl w9.heap.size w9)) hbA)
           have p0 := cell_up hbA (show w9.drew.cell? _ = _ from e0)
           have p1 := cell_up hbA (show w9.drew.cell? _ = _ from e1)
           have p2 := cell_up hbA (show w9.drew.cell? _ = _ from m0)
           have p3 := cell_up hbA (show w9.drew.cell? _ = _ from m1)
           have p4 := cell_up hbA (show w9.drew.cell? _ = _ from m2)
           clear hrow hcll hbA)
        | (go_at_call 39
           (with_reducible refine (cof_calls _ x.f0 x.f1 x.f2 A c wA (Nat.lt_succ_self _) HTL.out (HT.out.below (bst HB9.out HbA.out)).c HT.out.le).mono ?_)
           rintro e9 wB ⟨gv, rfl, hcv, hbB⟩
           rw [HTT.out] at hcv
           have HRowB := Az.mk (Row_below hbB HRowA.out)
           have HClB := Az.mk (ClL_below hbB HClA.out)
           have HCvB := Az.mk hcv
           have HbB := Az.mk (bst HbA.out hbB)
           have r0 := cell_up hbB p0
           have r1 := cell_up hbB p1
           have r2 := cell_up hbB p2
           have r3 := cell_up hbB p3
           have r4 := cell_up hbB p4
           clear hcv hbB)
        | (go_at_call 46
           (with_reducible refine (heads_calls Ab l1.length cb Ap l1.length cp gv wB).mono ?_)
           rintro e9 wC ⟨gs, gc, rfl, hgs, hgc, hls, hlc, hne, hbC⟩
           have HGs := Az.mk hgs
           have HGc := Az.mk hgc
           have HLs := Az.mk hls
           have HLc := Az.mk hlc
           have HbC0 := Az.mk hbC
           have HbC := Az.mk (bst HbB.out hbC)
           have s0 := cell_up hbC r0
           have s1 := cell_up hbC r1
           have s2 := cell_up hbC r2
           have s3 := cell_up hbC r3
           have s4 := cell_up hbC r4
           clear hgs hgc hls hlc hne hbC))
    all_goals (go_wp2_with fail; go_meet; exact ⟨gs, gc, gv, Ab, cb, Ap, cp, bs, rfl, HGs, HGc, ⟨by have := HbB.out.size; have := HLs.out; have := HLc.out; omega⟩, ⟨Row_below HbC0.out (Kd.V_mono (Kd.V_bound (show Kd.V (Kd.raw 1) 65 _ 0 _ (.slice Ab l1.length cb) (bs.map (fun v => [v])) from HRowB.out)) (fun q h => ⟨h.1, fun he => by have := h.2; have := HLc.out; omega⟩))⟩, ⟨ClL_below HbC0.out (ClL_mono (fun q h hl => ⟨h, fun he => by have := HLc.out; omega⟩) HClB.out)⟩, ⟨Cl_below HbC0.out (Cl_mono (fun q h hl => ⟨Nat.le_trans HbA.out.size h, fun he => by have := HLc.out; omega⟩) HCvB.out)⟩, HbC⟩)
  case rest =>
    obtain ⟨gs, gc, gv, Ab, cb, Ap, cp, bs, rfl, HGs, HGc, HLe, HRow, HClL, HClv, HBc⟩ := hcut
    clear e0 e1 m0 m1 m2 HTL HBG2 H64 HTT
    have HB10 := Az.mk (bst HB9.out HBc.out)
    have S5 := Az.mk (bkB S59.out HBc.out)
    have S6 := Az.mk (bkB S69.out HBc.out)
    have S7 := Az.mk (bkB S79.out HBc.out)
    have SO := Az.mk (bkB SO9.out HBc.out)
    have HL5 := Az.mk (blk_lt S59.out)
    have HL6 := Az.mk (blk_lt S69.out)
    have HL7 := Az.mk (blk_lt S79.out)
    have HLO := Az.mk (blk_lt SO9.out)
    clear S59 S69 S79 SO9 S39 S49
    go_wp2_with fail
    refine (wpIn_wide (n := 6)).1 ?_
    refine range_outer rfl (fun _ => trivial) (by decide) (gf := 68) (lb := #[.pointer (some ⟨gc, 0, none⟩), .pointer (some ⟨gs, 0, none⟩)]) rfl (Go.Proofs.enters_of Try.func68 (by kernel_rfl) rfl) ?_
    intro fn rc a' hrc ha
    have HRC := Az.mk hrc
    have HA := Az.mk ha
    clear hrc ha
    obtain ⟨W1, hW1⟩ : ∃ W1, (wc.alloc (.deferred (some []))).alloc (.loop (rc .ready none)) = W1 := ⟨_, rfl⟩
    rw [hW1]
    have hb1 : Below wc.heap.size wc W1 := by rw [← hW1]; exact ((Below.refl _ wc).alloc (Nat.le_refl _) _).alloc (by simp) _
    have hL1 : W1.heap[wc.heap.size + 1]? = some (.loop (rc .ready none)) := by rw [← hW1]; have := World.alloc_heap_new (wc.alloc (.deferred (some []))) (.loop (rc .ready none)); rwa [World.size_alloc] at this
    have hD1 : W1.heap[wc.heap.size]? = some (.deferred (some [])) := by rw [← hW1]; exact (Below.heap_alloc _ _ _ (by simp)).trans (World.alloc_heap_new wc _)
    clear hW1
    have hsz := HBc.out.size
    have hsz2 := HB10.out.size
    have HSZ := Az.mk hsz
    have HSZ2 := Az.mk hsz2
    have hok : ∀ q, (w9.heap.size ≤ q ∧ q ≠ gc) → q < wc.heap.size → HP.ok ⟨w, gs, gc, g5, g6, g7, gO, wc.heap.size, wc.heap.size + 1, wc.heap.size, Ab, cb, Ap, l1.length, cp, bs, l1, fu⟩ (Value.slice none 0 0).ownBlock q := fun q h hl =>
      ⟨⟨show q ≠ gO from by have := HLO.out; omega, show q ≠ gc from h.2, show q ≠ g6 from by have := HL6.out; omega, show q ≠ g7 from by have := HL7.out; omega, show q ≠ wc.heap.size + 1 from by omega, show q ≠ wc.heap.size from by omega⟩, fun he => by cases he⟩
    have H0 := Az.mk (show HJ ⟨w, gs, gc, g5, g6, g7, gO, wc.heap.size, wc.heap.size + 1, wc.heap.size, Ab, cb, Ap, l1.length, cp, bs, l1, fu⟩ (.loop (rc .ready none)) [] x none 0 gv W1 from
      ⟨bkB HGs.out hb1, bkB HGc.out hb1, bkB SO.out hb1, bkB S5.out hb1, bkB S6.out hb1, bkB S7.out hb1, hL1, hD1,
       Row_below hb1 (Kd.V_mono (Kd.V_bound HRow.out) (fun q h => hok q h.1 h.2)), ClL_below hb1 (ClL_mono (fun q h hl => hok q h hl) HClL.out), Cl_below hb1 (Cl_mono (fun q h hl => hok q h hl) HClv.out), World.ownsRow_nil .., bst HB10.out hb1, rfl⟩)
    have HG5B := Az.mk (show g5 < wc.heap.size from by have := HL5.out; omega)
    have HW0 := Az.mk (show w.heap.size ≤ wc.heap.size from hsz2)
    clear hok hb1 hL1 hD1 hsz hsz2
    refine callsIn_wide.2 ?_
    show Calls Try.prog 68 #[.func (.yield (wc.heap.size + 1)) #[] #[], .pointer (some ⟨gc, 0, none⟩), .pointer (some ⟨gs, 0, none⟩)] W1 _
    refine (iter_calls _ l0 6 (wc.heap.size + 1) (.loop (rc .ready none)) (fun W' => ∃ Al cl, HE ⟨w, gs, gc, g5, g6, g7, gO, wc.heap.size, wc.heap.size + 1, wc.heap.size, Ab, cb, Ap, l1.length, cp, bs, l1, fu⟩ (.loop (rc .done (some .ret))) L Al cl er W') (goT l1 fu x []).1 L er HSB.out HBG.out ?hgc ?hY x gv fu W1 H0.out ⟨HCL.out, HTC.out⟩ rfl (Prod.ext rfl HGO.out)).mono ?_
    case hgc => exact Nat.le_trans (bst HB9.out (Below.refl _ _)).size HLe.out.2
    case hY =>
      clear H0
      intro dn u k Ah ch g W hj hm hk hgo
      have HJ0 := Az.mk hj
      refine yield_round HRC.out hj.l rfl ?_
      clear hj
      have HJ2 := Az.mk (HJ0.out.put (lo' := .loop (rc .busy none)) rfl (show w.heap.size ≤ wc.heap.size + 1 from by have := HW0.out; omega) (show wc.heap.size ≠ wc.heap.size + 1 from by omega))
      clear HJ0
      generalize W.putObj (wc.heap.size + 1) (.loop (rc .busy none)) = W2 at *
      have HPL := Az.mk (show w.heap.size ≤ wc.heap.size + 1 from by have := HW0.out; omega)
      have HPN := Az.mk (show wc.heap.size ≠ wc.heap.size + 1 from by omega)
      have co : W2.cell? ⟨gO, 0, none⟩ = some (.slice Ah dn.length ch) := (blk_cell HJ2.out.o 0).trans rfl
      have c5 : W2.cell? ⟨g5, 0, none⟩ = some (.int .i64 fu) := (blk_cell HJ2.out.f 0).trans rfl
      have z6 : W2.cell? ⟨g6, 0, none⟩ = some (.slice none 0 0) := (blk_cell HJ2.out.r1 0).trans rfl
      have z7 : W2.cell? ⟨g7, 0, none⟩ = some (.int .i64 0) := (blk_cell HJ2.out.r2 0).trans rfl
      have f6 : W2.frozen? ⟨g6, 0, none⟩ = false := bkF HJ2.out.r1 0
      have f7 : W2.frozen? ⟨g7, 0, none⟩ = false := bkF HJ2.out.r2 0
      have hn : g6 ≠ g7 := blk_ne HJ2.out.r1 HJ2.out.r2 (by decide)
      have hn' := hn.symm
      have hgo2 : goT l1 k u dn = ((goT l1 fu x []).1, L, er) := hgo
      have hk2 : (dn.length : Int) + k = fu := hk
      clear hgo hk
      by_cases hkz : k = 0
      · subst hkz
        have hlf : (dn.length : Int) = (fu : Int) := by omega
        have hg2 : L = dn ∧ er = 8 := by
          unfold goT at hgo2
          rw [if_pos hm] at hgo2
          injection hgo2 with h1 h2
          injection h2 with h2 h3
          exact ⟨h2.symm, h3.symm⟩
        obtain ⟨hLd, her⟩ := hg2
        have HEE := Az.mk (HJ2.out.fin dn Ah ch 8 HJ2.out.out (show w.heap.size ≤ g6 from HG6.out) (show w.heap.size ≤ g7 from HG7.out))
        have q1 : ((dn.length : Int) == (fu : Int)) = true := beq_iff_eq.2 hlf
        clear hgo2 hk2 hm HJ2
        have HLd := Az.mk hLd
        have HEr := Az.mk her
        clear hLd her hlf
        gi_wp2
        rw [HLd.out, HEr.out]
        first
          | exact ⟨_, _, round_ret HRC.out HEE.out.l, .inr ⟨rfl, Ah, ch, HEE.out.put rfl HPL.out HPN.out⟩⟩
          | exact ⟨_, _, round_ret HRC.out HEE.out.l, ⟨rfl, Ah, ch, HEE.out.put rfl HPL.out HPN.out⟩⟩
      obtain ⟨k', rfl⟩ : ∃ k', k = k' + 1 := ⟨k - 1, by omega⟩
      have q1 : ((dn.length : Int) == (fu : Int)) = false := beq_eq_false_iff_ne.2 (by omega)
      have hcel := HJ2.out.cel
      obtain ⟨y, hy⟩ : ∃ y, nextT l1 u = y := ⟨_, rfl⟩
      have HY := Az.mk hy
      have hcel2 : Cl W2 (HP.ok ⟨w, gs, gc, g5, g6, g7, gO, wc.heap.size, wc.heap.size + 1, wc.heap.size, Ab, cb, Ap, l1.length, cp, bs, l1, fu⟩ (Value.slice Ah dn.length ch).ownBlock) y (.pointer (some ⟨g, 0, none⟩)) := by rw [← hy]; exact hcel
      have hgo3 : (if 100000 < tcnt y then ((⟨0, 0, []⟩ : S28), ([] : List Int), (3 : Int)) else goT l1 k' y (dn ++ [u.f1])) = ((goT l1 fu x []).1, L, er) := by
        rw [← hgo2, ← hy]
        conv => rhs; unfold goT
        rw [if_pos hm]
      clear hcel hgo2
      obtain ⟨cz, hcz⟩ : ∃ cz, csz y = cz := ⟨_, rfl⟩
      have hgt := csz_gt y
      rw [hcz] at hgt
      have HCZ := Az.mk hcz
      have n3 : W2.cell? ⟨g, 3, none⟩ = some (.int .i64 cz) := by
        cases y with
        | mk ky ny ly =>
        unfold Cl at hcel2
        obtain ⟨g', a, vs, he, hok, hg, _, _⟩ := hcel2
        injection he with he
        injection he with he
        injection he with he _ _
        subst he
        rw [← hcz]
        exact (blk_cell hg 3).trans rfl
      clear hcel2 hcz hy
      by_cases hbig : 100000 < cz
      · have p1 : (100000 < cz) = True := eq_true hbig
        rw [if_pos (hgt.1 hbig)] at hgo3
        injection hgo3 with h1 h2
        injection h2 with h2 h3
        have HL0 := Az.mk h2
        have HEr := Az.mk h3
        have HEE := Az.mk (HJ2.out.fin [] none 0 3 (World.ownsRow_nil ..) (show w.heap.size ≤ g6 from HG6.out) (show w.heap.size ≤ g7 from HG7.out))
        clear h1 h2 h3 hbig hgt hk2 hm HJ2
        gi_wp2
        rw [← HL0.out, ← HEr.out]
        first
          | exact ⟨_, _, round_ret HRC.out HEE.out.l, .inr ⟨rfl, none, 0, HEE.out.put rfl HPL.out HPN.out⟩⟩
          | exact ⟨_, _, round_ret HRC.out HEE.out.l, ⟨rfl, none, 0, HEE.out.put rfl HPL.out HPN.out⟩⟩
      have p1 : (100000 < cz) = False := eq_false hbig
      have hnb : ¬ 100000 < tcnt y := fun h => hbig (hgt.2 h)
      rw [if_neg hnb] at hgo3
      have HGN := Az.mk hgo3
      have HNB := Az.mk hnb
      have HBW := Az.mk (show wc.heap.size ≤ W2.heap.size from by have := blk_lt HJ2.out.d; exact Nat.le_of_lt this)
      have HDL := Az.mk (show dn.length ≤ 1048576 from by have := HF2.out; omega)
      clear hgo3 hnb hbig hgt hk2 hm
      gi_wp2_with (
        gi_at_builtin
        refine appendIn rfl (.tmp 41) (.tmp 43) rfl wc.heap.size _ dn u.f1 rfl rfl HJ2.out.out HBW.out HDL.out ?_
        intro v1 w1 hown hgr hat
        obtain ⟨Ah', ch', rfl⟩ := own_slice hown
        have hj3 := HJ2.out.push hown hgr hat HG5B.out HW0.out HGO_.out HG6O.out
        simp only [List.length_append, List.length_singleton] at hj3
        have HJ3 := Az.mk hj3
        have ho1 := blk_grown HJ2.out.o hgr (own_ne HJ2.out.out HJ2.out.o (by decide))
        have co1 : w1.cell? ⟨gO, 0, none⟩ = some (.slice Ah dn.length ch) := (blk_cell ho1 0).trans rfl
        have fo1 : w1.frozen? ⟨gO, 0, none⟩ = false := bkF ho1 0
        clear hown hgr hat ho1 hj3)
      first
        | exact ⟨_, _, round_back HRC.out HJ3.out.l, .inl ⟨rfl, by rw [HY.out]; exact HNB.out, ⟨k', rfl, by rw [HY.out]; exact HGN.out⟩, Ah', ch', HJ3.out.put rfl HPL.out HPN.out⟩⟩
        | (refine ⟨_, _, round_back HRC.out HJ3.out.l, ?_⟩; exact .inl ⟨rfl, by rw [HY.out]; exact HNB.out, by rw [HY.out]; exact HGN.out, Ah', ch', HJ3.out.put rfl HPL.out HPN.out⟩)
    rintro e W' ⟨⟨v, rfl⟩, (⟨hz, u', Ah, ch, g', hj⟩ | ⟨Al, cl, he⟩)⟩
    · subst hz
      have HJ4 := Az.mk (hj.put (lo' := .loop (rc .exhausted none)) rfl (show w.heap.size ≤ wc.heap.size + 1 from by have := HW0.out; omega) (show wc.heap.size ≠ wc.heap.size + 1 from by omega))
      refine ⟨none, _, loop_ready HRC.out hj.l, ?_⟩
      clear hj H0
      generalize W'.putObj (wc.heap.size + 1) (.loop (rc .exhausted none)) = W4 at *
      have HEE := Az.mk (HJ4.out.fin L Ah ch 0 HJ4.out.out (show w.heap.size ≤ g6 from HG6.out) (show w.heap.size ≤ g7 from HG7.out))
      have co : W4.cell? ⟨gO, 0, none⟩ = some (.slice Ah L.length ch) := (blk_cell HJ4.out.o 0).trans rfl
      have z6 : W4.cell? ⟨g6, 0, none⟩ = some (.slice none 0 0) := (blk_cell HJ4.out.r1 0).trans rfl
      have z7 : W4.cell? ⟨g7, 0, none⟩ = some (.int .i64 0) := (blk_cell HJ4.out.r2 0).trans rfl
      have f6 : W4.frozen? ⟨g6, 0, none⟩ = false := bkF HJ4.out.r1 0
      have f7 : W4.frozen? ⟨g7, 0, none⟩ = false := bkF HJ4.out.r2 0
      have hn : g6 ≠ g7 := blk_ne HJ4.out.r1 HJ4.out.r2 (by decide)
      have hn' := hn.symm
      have ha := HA.out
      clear HA HRC
      subst ha
      go_wp2_with fail
      exact ret19m wc.heap.size g6 g7 (.slice Ah L.length ch) (.int .i64 0) rfl rfl HEE.out.d HEE.out.r1 HEE.out.r2 ⟨Ah, ch, rfl, HEE.out.shut HW0.out⟩
    · have HE4 := Az.mk (he.put (lo' := .loop (rc .exhausted (some .ret))) rfl (show w.heap.size ≤ wc.heap.size + 1 from by have := HW0.out; omega) (show wc.heap.size ≠ wc.heap.size + 1 from by omega))
      refine ⟨some .ret, _, loop_done HRC.out he.l, ?_⟩
      have ha := HA.out
      clear HA HRC H0
      subst ha
      refine wpIn_wide.2 ?_
      clear he
      generalize W'.putObj (wc.heap.size + 1) (.loop (rc .exhausted (some .ret))) = W4 at *
      go_wp2_with fail
      exact ret19m wc.heap.size g6 g7 (.slice Al L.length cl) (.int .i64 er) rfl rfl HE4.out.d HE4.out.r1 HE4.out.r2 ⟨Al, cl, rfl, HE4.out.shut HW0.out⟩
end Go.Proofs.Ytnfgpepggehegaa.I
namespace Go.Proofs.Ytnfgpepggehegaa.I
open Go.RowKit Go.Proofs.YtnfgpepggehegaaW.PrintWords Go.Proofs.YtnfgpepggehegaaW.PrintLast Go.Proofs.YtnfgpepggehegaaW.PrintMore
attribute [local go_sem] max2_int min2_int max_two min_two max_three min_three max_four min_four
set_option linter.unusedVariables false
set_option maxRecDepth 100000
set_option linter.unusedSimpArgs false
theorem goT_len (l1 : List S84) : ∀ (k : Nat) (t : S28) (acc : List Int), (goT l1 k t acc).2.1.length ≤ acc.length + k
  | 0, t, acc => by
    unfold goT
    by_cases h : t.f0 = 1
    · rw [if_pos h]; exact Nat.le_refl _
    · rw [if_neg h]; exact Nat.le_refl _
  | k + 1, t, acc => by
    unfold goT
    by_cases h : t.f0 = 1
    · rw [if_pos h]
      by_cases hb : 100000 < tcnt (nextT l1 t)
      · rw [if_pos hb]; exact Nat.zero_le _
      · rw [if_neg hb]
        have ih := goT_len l1 k (nextT l1 t) (acc ++ [t.f1])
        rw [List.length_append, List.length_singleton] at ih
        omega
    · rw [if_neg h]; exact Nat.le_add_right _ _
theorem headsF_err {l0 : List S87} {l1 : List S84} {t : S28} {fuel : Int} (h : chkF l0 l1 t fuel ≠ 0) : headsF l0 l1 t fuel = ([], chkF l0 l1 t fuel) := by unfold headsF; rw [if_neg h]
theorem headsF_go {l0 : List S87} {l1 : List S84} {t : S28} {fuel : Int} (h : chkF l0 l1 t fuel = 0) : headsF l0 l1 t fuel = (goT l1 fuel.toNat t []).2 := by unfold headsF; rw [if_pos h]
theorem headsF_len {l0 : List S87} {l1 : List S84} {t : S28} {fuel : Int} {L : List Int} {er : Int} (h : headsF l0 l1 t fuel = (L, er)) : L.length ≤ 1048576 := by
  by_cases hc : chkF l0 l1 t fuel = 0
  · rw [headsF_go hc] at h
    have h1 := goT_len l1 fuel.toNat t []
    rw [h] at h1
    have h2 := chkF_zero hc
    have h1 : L.length ≤ 0 + fuel.toNat := h1
    omega
  · rw [headsF_err hc] at h
    injection h with h1 h2
    rw [← h1]
    exact Nat.zero_le _
theorem ints_loop (L : List Int) (hL : L.length ≤ 1048576) : ∀ (k : Nat) (i : Int), 0 ≤ i → i ≤ L.length → (L.length : Int) - i < k → virgationlaw05_ints.l0 k L L (L.length : Int) i = some true
  | 0, i, h0, h1, h2 => by omega
  | k + 1, i, h0, h1, h2 => by
    unfold virgationlaw05_ints.l0
    by_cases h : i < (L.length : Int)
    · rw [if_pos h, if_pos h0, if_pos h, if_pos h, if_pos rfl, show wrap64 (i + 1) = i + 1 from by unfold wrap64; omega]
      exact ints_loop L hL k (i + 1) (by omega) (by omega) (by omega)
    · rw [if_neg h]
theorem ints_calls (L : List Int) (hL : L.length ≤ 1048576) (A B : Option Addr) (c d : Nat) (w : World) (h : Ns w L A c) (h' : Ns w L B d) :
    Calls Try.prog 21 #[.slice A L.length c, .slice B L.length d] w fun e w' => e = .returned (.bool true) ∧ Below w.heap.size w w' := by
  refine (virgationlaw05_ints.calls (L.length + 1) A c L B d L true w (Kd.V_reads' h).2.2 (Kd.V_reads' h).2.1 (Kd.V_reads' h').2.2 (Kd.V_reads' h').2.1 (by unfold virgationlaw05_ints.f; rw [if_pos rfl]; exact ints_loop L hL _ 0 (by omega) (by omega) (by omega))).mono ?_
  exact fun e w' h => ⟨h.1, Drawn0.below h.2⟩
set_option maxHeartbeats 16000000 in
theorem refheads_at {w : World} {A0 : Option Addr} {c0 : Nat} {l0 : List S87} {A1 : Option Addr} {c1 : Nat} {l1 : List S84} {ok : Nat → Prop} {x : S28} {A : Option Addr} {c : Nat} (hs : Sch w A0 c0 l0 A1 c1 l1) (ht : Tm w ok x A c) (fuel : Int) (L : List Int) (z : Int) (hz : headsF l0 l1 x fuel = (L, z)) :
    Calls Try.prog 20 #[.agg #[.slice A0 l0.length c0, .slice A1 l1.length c1], .agg #[.int .i64 x.f0, .int .i64 x.f1, .slice A x.f2.length c], .int .i64 fuel] w fun e w' => ∃ Al cl, e = .returned (.tuple #[.slice Al L.length cl, .int .i64 z]) ∧ Ns w' L Al cl ∧ Below w.heap.size w w' := by
  have hu25 := Try.underlying25
  have hu28 := Try.underlying28
  have HS := Az.mk hs
  have HT := Az.mk ht
  have HZ := Az.mk hz
  clear hs ht hz
  obtain ⟨er, her⟩ : ∃ er, chkF l0 l1 x fuel = er := ⟨_, rfl⟩
  have HER := Az.mk her
  clear her
  go_enter Try.func20, Try.ntmps20
  go_upto_region 1 with (first
    | ((with_reducible refine gate_dst (N := 3) rfl ?_)
       refine box_event ?hg (N := 3) ?hd (cs := #[.slice A0 l0.length c0, .slice A1 l1.length c1]) (t := 25) ?hr ?_
       (case hd => rfl)
       (case hg => rfl)
       (case hr => first | (go_simp; done) | (go_simp; rfl))
       intro g2 hg_g2 w2 hbox hbb
       have S22 := Az.mk hbox
       have HB2 := Az.mk hbb
       clear hbox hbb hg_g2)
    | ((with_reducible refine gate_dst (N := 4) rfl ?_)
       refine box_event ?hg (N := 4) ?hd (cs := #[.int .i64 x.f0, .int .i64 x.f1, .slice A x.f2.length c]) (t := 28) ?hr ?_
       (case hd => rfl)
       (case hg => rfl)
       (case hr => first | (go_simp; done) | (go_simp; rfl))
       intro g3 hg_g3 w4 hbox hbb
       have S2 := Az.mk (bkB S22.out hbb)
       have S3 := Az.mk hbox
       have HB4 := Az.mk (bst HB2.out hbb)
       clear S22 HB2
       clear hbox hbb hg_g3))
  have e0 : w4.cell? ⟨g2, 0, none⟩ = some (.slice A0 l0.length c0) := (blk_cell S2.out 0).trans rfl
  have e1 : w4.cell? ⟨g2, 1, none⟩ = some (.slice A1 l1.length c1) := (blk_cell S2.out 1).trans rfl
  have m0 : w4.cell? ⟨g3, 0, none⟩ = some (.int .i64 x.f0) := (blk_cell S3.out 0).trans rfl
  have m1 : w4.cell? ⟨g3, 1, none⟩ = some (.int .i64 x.f1) := (blk_cell S3.out 1).trans rfl
  have m2 : w4.cell? ⟨g3, 2, none⟩ = some (.slice A x.f2.length c) := (blk_cell S3.out 2).trans rfl
  go_upto_region 2 with (
    go_at_call 44
    (with_reducible refine (checked_at (HS.out.below HB4.out) (HT.out.below HB4.out) fuel er HER.out).mono ?_)
    rintro e9 w5 ⟨rfl, hb5⟩
    have S25 := Az.mk (bkB S2.out hb5)
    have S35 := Az.mk (bkB S3.out hb5)
    have HB5 := Az.mk (bst HB4.out hb5)
    clear hb5
    skip)
  clear e0 e1 m0 m1 m2 S2 S3
  by_cases hr : er = 0
  rotate_left
  · have hf := HZ.out
    rw [headsF_err (by rw [HER.out]; exact hr), HER.out] at hf
    injection hf with h1 h2
    subst h1 h2
    have q1 : (er != 0) = true := bne_iff_ne.2 hr
    have q2 : (er == 0) = false := beq_eq_false_iff_ne.2 hr
    clear hr HZ
    go_wp2_with fail
    refine bodyPost_ret (results_tmp2 rfl _ _ _) rfl ?_
    exact ⟨none, 0, rfl, Ns.nil _, HB5.out⟩
  subst hr
  obtain ⟨h0, h1, h2⟩ := chkF_zero HER.out
  obtain ⟨⟨X, L', eg⟩, hG⟩ : ∃ F, goT l1 fuel.toNat x [] = F := ⟨_, rfl⟩
  have hf := HZ.out
  rw [headsF_go HER.out, hG] at hf
  have HGO := Az.mk (fun (w' : World) (hb : Below w.heap.size w w') => go_at (HS.out.below hb) (HT.out.below hb) h0 fuel h1 h2 X L' eg hG)
  clear h0 h1 h2 hG HZ
  injection hf with h1 h2
  subst h1 h2
  have e0 : w5.cell? ⟨g2, 0, none⟩ = some (.slice A0 l0.length c0) := (blk_cell S25.out 0).trans rfl
  have e1 : w5.cell? ⟨g2, 1, none⟩ = some (.slice A1 l1.length c1) := (blk_cell S25.out 1).trans rfl
  have m0 : w5.cell? ⟨g3, 0, none⟩ = some (.int .i64 x.f0) := (blk_cell S35.out 0).trans rfl
  have m1 : w5.cell? ⟨g3, 1, none⟩ = some (.int .i64 x.f1) := (blk_cell S35.out 1).trans rfl
  have m2 : w5.cell? ⟨g3, 2, none⟩ = some (.slice A x.f2.length c) := (blk_cell S35.out 2).trans rfl
  go_upto_region 5 with (first
    | (go_at_call 45
       (with_reducible refine (HGO.out w5 HB5.out).mono ?_)
       rintro e9 w6 ⟨Av, cv, Al, cl, rfl, hT, hL, hb6⟩
       have HB6 := Az.mk (bst HB5.out hb6)
       have HLL := Az.mk hL
       clear hT hL hb6
       skip)
    | ((with_reducible refine gate_dst (N := 9) rfl ?_)
       refine box_event ?hg (N := 9) ?hd (cs := #[.int .i64 0, .int .i64 0, .slice none 0 0]) (t := 28) ?hr ?_
       (case hd => rfl)
       (case hg => rfl)
       (case hr => first | (go_simp; done) | (go_simp; rfl))
       intro g5 hg_g5 w7 hbox hbb
       have hgw_ := HB6.out.size
       have Hg5g := Az.mk (Nat.le_of_eq hg_g5.symm)
       have Hg5b := Az.mk (below_set3 (bst HB6.out hbb) (show w.heap.size ≤ g5 from by omega) (.int .i64 X.f0) (.int .i64 X.f1) (.slice Av X.f2.length cv))
       have Hg5w := Az.mk (below_set3 hbb (Nat.le_of_eq hg_g5.symm) (.int .i64 X.f0) (.int .i64 X.f1) (.slice Av X.f2.length cv))
       have Hg5s := Az.mk (blk_set3 hbox (.int .i64 X.f0) (.int .i64 X.f1) (.slice Av X.f2.length cv))
       have hcz0 := (blk_cell hbox 0).trans rfl
       have hcz1 := (blk_cell hbox 1).trans rfl
       have hcz2 := (blk_cell hbox 2).trans rfl
       have hfz0 := bkF hbox 0
       have hfz1 := bkF hbox 1
       have hfz2 := bkF hbox 2
       clear hgw_
       clear hbox hbb hg_g5))
  clear hcz0 hcz1 hcz2 hfz0 hfz1 hfz2 e0 e1 m0 m1 m2
  generalize (((w7.setCell ⟨g5, 0, none⟩ (.int .i64 X.f0)).setCell ⟨g5, 1, none⟩ (.int .i64 X.f1)).setCell ⟨g5, 2, none⟩ (.slice Av X.f2.length cv)) = wq at *
  go_wp2_with fail
  refine bodyPost_ret (results_tmp2 rfl _ _ _) rfl ?_
  exact ⟨Al, cl, rfl, Ns.below HLL.out Hg5w.out, Hg5b.out⟩
set_option maxHeartbeats 16000000 in
theorem lawheads_calls (A0 : Option Addr) (c0 : Nat) (l0 : List S87) (A1 : Option Addr) (c1 : Nat) (l1 : List S84) (t : S28) (A3 : Option Addr) (c3 : Nat) (fuel : Int) (w : World) (hr0 : Kd.C k87 w A0 l0.length l0) (hc0 : l0.length ≤ c0) (hr1 : Kd.C k84 w A1 l1.length l1) (hc1 : l1.length ≤ c1) (hr3 : Kd.C k28 w A3 t.f2.length t.f2) (hc3 : t.f2.length ≤ c3) :
    Calls Try.prog 9 #[.agg #[.slice A0 l0.length c0, .slice A1 l1.length c1], .agg #[.int .i64 t.f0, .int .i64 t.f1, .slice A3 t.f2.length c3], .int .i64 fuel] w fun e w' => e = .returned (.bool true) ∧ Below w.heap.size w w' := by
  have hu25 := Try.underlying25
  have hu28 := Try.underlying28
  have HS := Az.mk (show Sch w A0 c0 l0 A1 c1 l1 from ⟨hr0, hc0, hr1, hc1⟩)
  have HT := Az.mk (Tm.of hr3 hc3)
  clear hr0 hc0 hr1 hc1 hr3 hc3
  obtain ⟨⟨L, z⟩, hF⟩ : ∃ F, headsF l0 l1 t fuel = F := ⟨_, rfl⟩
  have HF := Az.mk hF
  have HLN := Az.mk (headsF_len hF)
  clear hF
  go_enter Try.func9, Try.ntmps9
  go_upto_region 1 with (first
    | ((with_reducible refine gate_dst (N := 3) rfl ?_)
       refine box_event ?hg (N := 3) ?hd (cs := #[.slice A0 l0.length c0, .slice A1 l1.length c1]) (t := 25) ?hr ?_
       (case hd => rfl)
       (case hg => rfl)
       (case hr => first | (go_simp; done) | (go_simp; rfl))
       intro g2 hg_g2 w2 hbox hbb
       have S22 := Az.mk hbox
       have HB2 := Az.mk hbb
       clear hbox hbb hg_g2)
    | ((with_reducible refine gate_dst (N := 4) rfl ?_)
       refine box_event ?hg (N := 4) ?hd (cs := #[.int .i64 t.f0, .int .i64 t.f1, .slice A3 t.f2.length c3]) (t := 28) ?hr ?_
       (case hd => rfl)
       (case hg => rfl)
       (case hr => first | (go_simp; done) | (go_simp; rfl))
       intro g3 hg_g3 w3 hbox hbb
       have S2 := Az.mk (bkB S22.out hbb)
       have HB3 := Az.mk (bst HB2.out hbb)
       have S3 := Az.mk hbox
       clear S22 HB2
       clear hbox hbb hg_g3))
  by_cases h300 : 300 < fuel ∧ fuel ≤ 1048576
  · have q1 : (300 < fuel) = True := eq_true h300.1
    have q2 : (fuel ≤ 1048576) = True := eq_true h300.2
    go_upto_region 2 with fail
    go_wp2_with fail
    (with_reducible refine (alive_calls _).mono ?_)
    rintro e9 wZ ⟨rfl, hbZ⟩
    have HZ := Az.mk (bst HB3.out hbZ)
    clear hbZ
    go_wp2_with fail
    go_ret
    exact ⟨rfl, HZ.out⟩
  by_cases h3 : 300 < fuel
  · have q1 : (300 < fuel) = True := eq_true h3
    have q2 : (fuel ≤ 1048576) = False := eq_false (by omega)
    clear h300 h3
    go_upto_region 3 with fail
    have e0 : w3.cell? ⟨g2, 0, none⟩ = some (.slice A0 l0.length c0) := (blk_cell S2.out 0).trans rfl
    have e1 : w3.cell? ⟨g2, 1, none⟩ = some (.slice A1 l1.length c1) := (blk_cell S2.out 1).trans rfl
    have m0 : w3.cell? ⟨g3, 0, none⟩ = some (.int .i64 t.f0) := (blk_cell S3.out 0).trans rfl
    have m1 : w3.cell? ⟨g3, 1, none⟩ = some (.int .i64 t.f1) := (blk_cell S3.out 1).trans rfl
    have m2 : w3.cell? ⟨g3, 2, none⟩ = some (.slice A3 t.f2.length c3) := (blk_cell S3.out 2).trans rfl
    go_upto_region 5 with (first
      | (go_at_call 19
         (with_reducible refine (pheads_at (HS.out.below HB3.out) (HT.out.below HB3.out) fuel L z HF.out).mono ?_)
         rintro e9 w4 ⟨Ax, cx, rfl, hv, hb4⟩
         have HB4 := Az.mk (bst HB3.out hb4)
         have S24 := Az.mk (bkB S2.out hb4)
         have S34 := Az.mk (bkB S3.out hb4)
         have HX := Az.mk hv
         clear hv hb4 e0 e1 m0 m1 m2 S2 S3
         have e0 := (blk_cell S24.out 0).trans rfl
         have e1 := (blk_cell S24.out 1).trans rfl
         have m0 := (blk_cell S34.out 0).trans rfl
         have m1 := (blk_cell S34.out 1).trans rfl
         have m2 := (blk_cell S34.out 2).trans rfl
         skip)
      | (go_at_call 20
         (with_reducible refine (refheads_at (HS.out.below HB4.out) (HT.out.below HB4.out) fuel L z HF.out).mono ?_)
         rintro e9 w6 ⟨Ay, cy, rfl, hv, hb6⟩
         have HB6 := Az.mk (bst HB4.out hb6)
         have HX6 := Az.mk (HX.out.below hb6)
         have HY6 := Az.mk hv
         clear hv hb6 e0 e1 m0 m1 m2
         skip))
    go_wp2_with (first
      | (go_at_call 21
         (with_reducible refine (ints_calls L HLN.out Ax Ay cx cy w6 HX6.out HY6.out).mono ?_)
         rintro e9 w8 ⟨rfl, hb8⟩
         have HB8 := Az.mk (bst HB6.out hb8)
         clear hb8
         skip)
      | (at_builtin; fail))
    (with_reducible refine (alive_calls _).mono ?_)
    rintro e9 wZ ⟨rfl, hbZ⟩
    have HZ := Az.mk (bst HB8.out hbZ)
    clear hbZ
    go_wp2_with fail
    go_ret
    exact ⟨rfl, HZ.out⟩
  · have q1 : (300 < fuel) = False := eq_false h3
    clear h300 h3
    go_upto_region 3 with fail
    have e0 : w3.cell? ⟨g2, 0, none⟩ = some (.slice A0 l0.length c0) := (blk_cell S2.out 0).trans rfl
    have e1 : w3.cell? ⟨g2, 1, none⟩ = some (.slice A1 l1.length c1) := (blk_cell S2.out 1).trans rfl
    have m0 : w3.cell? ⟨g3, 0, none⟩ = some (.int .i64 t.f0) := (blk_cell S3.out 0).trans rfl
    have m1 : w3.cell? ⟨g3, 1, none⟩ = some (.int .i64 t.f1) := (blk_cell S3.out 1).trans rfl
    have m2 : w3.cell? ⟨g3, 2, none⟩ = some (.slice A3 t.f2.length c3) := (blk_cell S3.out 2).trans rfl
    go_upto_region 5 with (first
      | (go_at_call 19
         (with_reducible refine (pheads_at (HS.out.below HB3.out) (HT.out.below HB3.out) fuel L z HF.out).mono ?_)
         rintro e9 w4 ⟨Ax, cx, rfl, hv, hb4⟩
         have HB4 := Az.mk (bst HB3.out hb4)
         have S24 := Az.mk (bkB S2.out hb4)
         have S34 := Az.mk (bkB S3.out hb4)
         have HX := Az.mk hv
         clear hv hb4 e0 e1 m0 m1 m2 S2 S3
         have e0 := (blk_cell S24.out 0).trans rfl
         have e1 := (blk_cell S24.out 1).trans rfl
         have m0 := (blk_cell S34.out 0).trans rfl
         have m1 := (blk_cell S34.out 1).trans rfl
         have m2 := (blk_cell S34.out 2).trans rfl
         skip)
      | (go_at_call 20
         (with_reducible refine (refheads_at (HS.out.below HB4.out) (HT.out.below HB4.out) fuel L z HF.out).mono ?_)
         rintro e9 w6 ⟨Ay, cy, rfl, hv, hb6⟩
         have HB6 := Az.mk (bst HB4.out hb6)
         have HX6 := Az.mk (HX.out.below hb6)
         have HY6 := Az.mk hv
         clear hv hb6 e0 e1 m0 m1 m2
         skip))
    go_wp2_with (first
      | (go_at_call 21
         (with_reducible refine (ints_calls L HLN.out Ax Ay cx cy w6 HX6.out HY6.out).mono ?_)
         rintro e9 w8 ⟨rfl, hb8⟩
         have HB8 := Az.mk (bst HB6.out hb8)
         clear hb8
         skip)
      | (at_builtin; fail))
    (with_reducible refine (alive_calls _).mono ?_)
    rintro e9 wZ ⟨rfl, hbZ⟩
    have HZ := Az.mk (bst HB8.out hbZ)
    clear hbZ
    go_wp2_with fail
    go_ret
    exact ⟨rfl, HZ.out⟩
end Go.Proofs.Ytnfgpepggehegaa.I
namespace Go.Proofs.Ytnfgpepggehegaa.I
open Go.RowKit Go.Proofs.YtnfgpepggehegaaW.PrintWords Go.Proofs.Ytnfgpepggehegaa.VOpen
set_option linter.unusedVariables false
def virgationlaw05_StepHeads.f (k : Nat) (l0 : List S87) (l1 : List S84) (a b : Int) (l : List S28) (i0 : Int) : Option Bool := some true
theorem virgationlaw05_StepHeads.calls (k : Nat) (A0 : Option Addr) (c0 : Nat) (l0 : List S87) (A1 : Option Addr) (c1 : Nat) (l1 : List S84) (a b : Int) (A3 : Option Addr) (c3 : Nat) (l : List S28) (i0 : Int) (r : Bool) (w : World) (hr0 : Kd.C k87 w A0 l0.length l0) (hc0 : l0.length ≤ c0) (hr1 : Kd.C k84 w A1 l1.length l1) (hc1 : l1.length ≤ c1) (hr3 : Kd.C k28 w A3 l.length l) (hc3 : l.length ≤ c3) (h : virgationlaw05_StepHeads.f k l0 l1 a b l i0 = some r) :
    Calls Try.prog 9 #[.agg #[.slice A0 l0.length c0, .slice A1 l1.length c1], .agg #[.int .i64 a, .int .i64 b, .slice A3 l.length c3], .int .i64 i0] w fun e w' => e = .returned (.bool r) ∧ Below w.heap.size w w' := by
  injection h with h
  subst h
  exact lawheads_calls A0 c0 l0 A1 c1 l1 ⟨a, b, l⟩ A3 c3 i0 w hr0 hc0 hr1 hc1 hr3 hc3
theorem pure_StepHeads : ∀ (x0 : S25) (x1 : S28) (x2 : Int), (wf25 x0) → (wf28 x1) → ((Lit.int .i64 x2).wf = true) → ∃ k, virgationlaw05_StepHeads.f k x0.f0 x0.f1 x1.f0 x1.f1 x1.f2 x2 = some true := by
  intros
  exact ⟨0, rfl⟩
end Go.Proofs.Ytnfgpepggehegaa.I
