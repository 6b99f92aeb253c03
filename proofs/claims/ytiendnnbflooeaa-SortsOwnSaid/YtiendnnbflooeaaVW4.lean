/- The law SortsOwn, walked by hand: it returns true at every input. -/
import Derived.Test.YtiendnnbflooeaaVW3
import Derived.Test.YtiendnnbflooeaaVQC
namespace Go.Proofs.Ytiendnnbflooeaa.V
open Go.RowKit Go.Proofs.YtiendnnbflooeaaW.PrintWords Go.Proofs.YtiendnnbflooeaaW.PrintLast Go.Proofs.YtiendnnbflooeaaW.PrintMore
attribute [local go_sem] max2_int min2_int max_two min_two max_three min_three max_four min_four
set_option linter.unusedVariables false
set_option linter.unusedSimpArgs false
def virgationlaw01_SortsOwn.f (k : Nat) (l : List S24) (a : Int) : Option Bool := some true
theorem pure_SortsOwn : ∀ (x0 : S24) (x1 : Int), (wf24 x0) → ((Lit.int .i64 x1).wf = true) → ∃ k, virgationlaw01_SortsOwn.f k x0.f0 x1 = some true := fun _ _ _ _ => ⟨0, rfl⟩
set_option maxHeartbeats 4000000 in
theorem virgationlaw01_SortsOwn.calls (k : Nat) (A : Option Addr) (c : Nat) (l : List S24) (a : Int) (r : Bool) (w : World) (hr : Kd.C k24 w A l.length l) (hc : l.length ≤ c) (h : virgationlaw01_SortsOwn.f k l a = some r) :
    Calls Try.prog 9 #[.agg #[.slice A l.length c], .int .i64 a] w fun e w' => e = .returned (.bool r) ∧ Below w.heap.size w w' := by
  have hu24 := Try.underlying24
  obtain rfl : r = true := by injection h with h; exact h.symm
  obtain ⟨kI, hI⟩ := (is_ev l).rounds
  obtain ⟨kA, hA⟩ := alive_ev.rounds
  have HR := Aside0.mk hr
  have HC := Aside0.mk hc
  have HI := Aside0.mk hI
  have HA := Aside0.mk hA
  clear hr hc h hI hA
  go_enter Try.func9, Try.ntmps9
  go_wp2_with (
      (with_reducible refine gate_dst (N := 2) rfl ?_)
      refine box_event ?hg (N := 2) ?hd (cs := #[.slice A l.length c]) (t := 24) ?hr ?_
      (case hd => rfl)
      (case hg => rfl)
      (case hr => first | (go_simp; done) | (go_simp; rfl))
      intro g2 hg2 w2 hbox hb2
      have S2 := Aside0.mk hbox
      have HB2 := Aside0.mk hb2
      have hcz : w2.cell? ⟨g2, 0, none⟩ = some (.slice A l.length c) := (blk_cell hbox 0).trans rfl
      clear hbox hb2 hg2)
  (with_reducible refine (virgationref01_Is.calls kI A c l (isok l) _ (Kd.C_below HR.out HB2.out) HC.out HI.out).mono ?_)
  rintro e w3 ⟨rfl, hB3⟩
  have S3 := Aside0.mk (blk_below S2.out hB3)
  have HB3 := Aside0.mk (below_step HB2.out hB3)
  clear hB3 S2 HB2 hcz
  cases hok : isok l with
  | false =>
    go_wp2_with fail
    (with_reducible refine (virgationlaw01_alive.calls kA true _ HA.out).mono ?_)
    rintro e w4 ⟨rfl, hB4⟩
    have HB4 := Aside0.mk (below_step HB3.out hB4)
    clear hB4
    go_wp2_with fail
    go_ret
    exact ⟨rfl, HB4.out⟩
  | true =>
    have hcn := isok_cnt hok
    have HOK := Aside0.mk hok
    have HCN := Aside0.mk hcn
    obtain ⟨kC, hC⟩ := (refcopy_ev _ l (Nat.lt_succ_self _) (by omega)).rounds
    obtain ⟨kS, hS⟩ := (same_ev' l l).rounds
    obtain ⟨kO, hO⟩ := (order_ok hok).rounds
    obtain ⟨kE, hE⟩ := (equal_ev _ l l (Nat.lt_succ_self _) (by omega)).rounds
    rw [eqL_refl] at hE
    have HFC := Aside0.mk hC
    have HFS := Aside0.mk hS
    have HFO := Aside0.mk hO
    have HFE := Aside0.mk hE
    have HFK := Aside0.mk (show sorts_Check.f l = some 0 from by rw [check_eq, hok]; rfl)
    have HFZ := Aside0.mk (show sorts_Size.f l = some (1 + cntL l, 1 + depL l) from by rw [size_eq, if_pos (by omega)])
    have HFP := Aside0.mk (show sorts_Put.f l = some (⟨(txt ⟨l⟩).toArray⟩, 0) from by unfold sorts_Put.f; rw [check_eq, hok]; rfl)
    clear hC hS hO hE hok hcn
    have hcz : w3.cell? ⟨g2, 0, none⟩ = some (.slice A l.length c) := (blk_cell S3.out 0).trans rfl
    go_wp2_with fail
    (with_reducible refine (virgationref01_Copy.calls kC A c l l _ (Kd.C_below HR.out HB3.out) HC.out HFC.out).mono ?_)
    rintro e w4 ⟨v0, rfl, ho4, hB4⟩
    obtain ⟨A4, c4, rfl, hc4, hC4⟩ := Kd.R_reads ho4
    have HW4 := Aside0.mk hC4
    have HV4 := Aside0.mk hc4
    have S4 := Aside0.mk (blk_below S3.out hB4)
    have HB4 := Aside0.mk (below_step HB3.out hB4)
    clear ho4 hc4 hC4 hB4 hcz S3 HB3
    go_wp2_with (
      (with_reducible refine gate_dst (N := 5) rfl ?_)
      refine box_event ?hg (N := 5) ?hd (cs := #[.slice none 0 0]) (t := 24) ?hr ?_
      (case hd => rfl)
      (case hg => rfl)
      (case hr => first | (go_simp; done) | (go_simp; rfl))
      intro g5 hg5 w5 hbox hb5
      have hBw := below_set (j := 0) (v := .slice A4 l.length c4) hb5 (show w4.heap.size ≤ g5 by omega)
      have S5 := Aside0.mk (blk_below S4.out hBw)
      have T5 := Aside0.mk (blk_put (cs' := #[.slice A4 l.length c4]) hbox 0 (.slice A4 l.length c4) rfl)
      have HW5 := Aside0.mk (Kd.C_below HW4.out hBw)
      have HB5 := Aside0.mk (below_step HB4.out hBw)
      have hcz := (blk_cell hbox 0).trans rfl
      have hfz := blk_frozen hbox 0
      have hca : (w5.setCell ⟨g5, 0, none⟩ (.slice A4 l.length c4)).cell? ⟨g2, 0, none⟩ = some (.slice A l.length c) := (blk_cell S5.out 0).trans rfl
      clear hbox hb5 hg5 hBw S4 HW4 HB4)
    (with_reducible refine (sorts_Check.calls A c l 0 _ (Kd.C_below HR.out HB5.out) HC.out HFK.out).mono ?_)
    rintro e w6 ⟨rfl, hB6⟩
    have S6 := Aside0.mk (blk_below S5.out hB6)
    have T6 := Aside0.mk (blk_below T5.out hB6)
    have HW6 := Aside0.mk (Kd.C_below HW5.out hB6)
    have HB6 := Aside0.mk (below_step HB5.out hB6)
    have hcz6 : w6.cell? ⟨g2, 0, none⟩ = some (.slice A l.length c) := (blk_cell S6.out 0).trans rfl
    clear hB6 S5 T5 HW5 HB5 hca hcz hfz
    go_wp2_with fail
    (with_reducible refine (sorts_Size.calls A c l (1 + cntL l) (1 + depL l) _ (Kd.C_below HR.out HB6.out) HC.out HFZ.out).mono ?_)
    rintro e w7 ⟨rfl, hB7⟩
    have S7 := Aside0.mk (blk_below S6.out hB7)
    have T7 := Aside0.mk (blk_below T6.out hB7)
    have HW7 := Aside0.mk (Kd.C_below HW6.out hB7)
    have HB7 := Aside0.mk (below_step HB6.out hB7)
    have hcz7 : w7.cell? ⟨g2, 0, none⟩ = some (.slice A l.length c) := (blk_cell S7.out 0).trans rfl
    clear hB7 S6 T6 HW6 HB6 hcz6
    go_wp2_with fail
    (with_reducible refine (sorts_Same.calls kS A c l A c l _ _ (Kd.C_below HR.out HB7.out) HC.out (Kd.C_below HR.out HB7.out) HC.out HFS.out).mono ?_)
    rintro e w8 ⟨rfl, hB8⟩
    have S8 := Aside0.mk (blk_below S7.out hB8)
    have T8 := Aside0.mk (blk_below T7.out hB8)
    have HW8 := Aside0.mk (Kd.C_below HW7.out hB8)
    have HB8 := Aside0.mk (below_step HB7.out hB8)
    have hcz8 : w8.cell? ⟨g2, 0, none⟩ = some (.slice A l.length c) := (blk_cell S8.out 0).trans rfl
    clear hB8 S7 T7 HW7 HB7 hcz7
    go_wp2_with fail
    (with_reducible refine (sorts_Order.calls kO A c l (rnkL l) 0 _ (Kd.C_below HR.out HB8.out) HC.out HFO.out).mono ?_)
    rintro e w9 ⟨rfl, hB9⟩
    have S9 := Aside0.mk (blk_below S8.out hB9)
    have T9 := Aside0.mk (blk_below T8.out hB9)
    have HW9 := Aside0.mk (Kd.C_below HW8.out hB9)
    have HB9 := Aside0.mk (below_step HB8.out hB9)
    have hcz9 : w9.cell? ⟨g2, 0, none⟩ = some (.slice A l.length c) := (blk_cell S9.out 0).trans rfl
    clear hB9 S8 T8 HW8 HB8 hcz8
    go_wp2_with fail
    (with_reducible refine (sorts_Put.calls A c l ⟨(txt ⟨l⟩).toArray⟩ 0 _ (Kd.C_below HR.out HB9.out) HC.out HFP.out).mono ?_)
    rintro e w10 ⟨rfl, hB10⟩
    have S10 := Aside0.mk (blk_below S9.out hB10)
    have T10 := Aside0.mk (blk_below T9.out hB10)
    have HW10 := Aside0.mk (Kd.C_below HW9.out hB10)
    have HB10 := Aside0.mk (below_step HB9.out hB10)
    have hcz10 : w10.cell? ⟨g2, 0, none⟩ = some (.slice A l.length c) := (blk_cell S10.out 0).trans rfl
    clear hB10 S9 T9 HW9 HB9 hcz9
    go_wp2_with fail
    (with_reducible refine (behind_sep A c l a _ (Kd.C_below HR.out HB10.out) HC.out HOK.out).mono ?_)
    rintro e w11 ⟨v, rb, N, m, rfl, ho, hB11⟩
    obtain ⟨A11, c11, e11⟩ := Kd.S_slice ho
    subst e11
    have HO11 := Aside0.mk ho
    have HQ11 := Aside0.mk hB11
    clear ho hB11
    go_wp2_with (
      (with_reducible refine gate_dst (N := 6) rfl ?_)
      refine box_event ?hg (N := 6) ?hd (cs := #[.slice none 0 0]) (t := 24) ?hr ?_
      (case hd => rfl)
      (case hg => rfl)
      (case hr => first | (go_simp; done) | (go_simp; rfl))
      intro g6 hg6 w12 hbox hb12
      have hsz := HQ11.out.size
      have HQ12 := Aside0.mk (below_set (j := 0) (v := .slice A11 m.length c11) (below_step HQ11.out hb12) (show w10.heap.size ≤ g6 by omega))
      have HO12 := Aside0.mk (Kd.S_far (p := ⟨g6, 0, none⟩) (Kd.S_below (Kd.S_elderB HO11.out g6 (Nat.le_of_eq hg6.symm)) hb12) (fun k hk => hk.2) (.slice A11 m.length c11))
      have hcx := (blk_cell hbox 0).trans rfl
      have hfx := blk_frozen hbox 0
      have hcy : (w12.setCell ⟨g6, 0, none⟩ (.slice A11 m.length c11)).cell? ⟨g6, 0, none⟩ = some (.slice A11 m.length c11) := (blk_cell (blk_set hbox 0 (.slice A11 m.length c11)) 0).trans rfl
      clear hbox hb12 hg6 hsz HQ11 HO11)
    (with_reducible refine (turn_calls N m _ _ _ _ (Kd.S_bound HO12.out)).mono ?_)
    rintro e w13 ⟨rfl, hT⟩
    have HQ13 := Aside0.mk (Turned.below hT HQ12.out HQ12.out.size (fun k hk => hk.2.1))
    have S13 := Aside0.mk (blk_below S10.out HQ13.out)
    have T13 := Aside0.mk (blk_below T10.out HQ13.out)
    have HW13 := Aside0.mk (Kd.C_below HW10.out HQ13.out)
    have HB13 := Aside0.mk (below_step HB10.out HQ13.out)
    have hcp : w13.cell? ⟨g2, 0, none⟩ = some (.slice A l.length c) := (blk_cell S13.out 0).trans rfl
    have hcq : w13.cell? ⟨g5, 0, none⟩ = some (.slice A4 l.length c4) := (blk_cell T13.out 0).trans rfl
    clear hT S10 T10 HW10 HB10 HQ12 HO12 hcx hfx hcy hcz10 HQ13
    go_wp2_with fail
    (with_reducible refine (virgationref01_Equal.calls kE A c l A4 c4 l true _ (Kd.C_below HR.out HB13.out) HC.out HW13.out HV4.out HFE.out).mono ?_)
    rintro e w14 ⟨rfl, hB14⟩
    have HB14 := Aside0.mk (below_step HB13.out hB14)
    clear hB14
    go_wp2_with fail
    (with_reducible refine (virgationlaw01_alive.calls kA true _ HA.out).mono ?_)
    rintro e w15 ⟨rfl, hB15⟩
    have HB15 := Aside0.mk (below_step HB14.out hB15)
    clear hB15
    go_wp2_with fail
    go_ret
    exact ⟨rfl, HB15.out⟩
end Go.Proofs.Ytiendnnbflooeaa.V
