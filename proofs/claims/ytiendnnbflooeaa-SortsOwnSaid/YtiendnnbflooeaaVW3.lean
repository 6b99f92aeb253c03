/- Contract of sorts.Behind at a sort that the package takes, by hand: the parts of what it returns lie apart. -/
import Derived.Test.YtiendnnbflooeaaVW2
namespace Go.Proofs.Ytiendnnbflooeaa.V
open Go.RowKit Go.Proofs.YtiendnnbflooeaaW.PrintWords Go.Proofs.YtiendnnbflooeaaW.PrintLast Go.Proofs.YtiendnnbflooeaaW.PrintMore
attribute [local go_sem] max2_int min2_int max_two min_two max_three min_three max_four min_four
set_option linter.unusedVariables false
set_option linter.unusedSimpArgs false
set_option maxHeartbeats 4000000 in
theorem behind_sep (A : Option Addr) (c : Nat) (l : List S24) (a : Int) (w : World) (hr : Kd.C k24 w A l.length l) (hc : l.length ≤ c) (hok : isok l = true) :
    Calls Try.prog 20 #[.agg #[.slice A l.length c], .int .i64 a] w fun e w' => ∃ (v : Value) (r : Int) (N : Nat) (m : List S24), e = .returned (.tuple #[.agg #[v], .int .i64 r]) ∧ Kd.S (u24 N) 24 w' w.heap.size (fun _ => True) v m ∧ Below w.heap.size w w' := by
  have hu24 := Try.underlying24
  have hcn := isok_cnt hok
  have hln := cntL_ge l
  have HR := Aside0.mk hr
  have HC := Aside0.mk hc
  have HCN := Aside0.mk hcn
  have hck := Aside0.mk (show sorts_Check.f l = some 0 from by rw [check_eq, hok]; rfl)
  clear hr hc hok
  have t0 : decide (a < 0) = true ∨ decide (a < 0) = false := by cases decide (a < 0) <;> simp
  go_enter Try.func20, Try.ntmps20
  go_wp2_with (first
   | ((with_reducible refine gate_dst (N := 2) rfl ?_)
      refine box_event ?hg (N := 2) ?hd (cs := #[.slice A l.length c]) (t := 24) ?hr ?_
      (case hd => rfl)
      (case hg => rfl)
      (case hr => first | (go_simp; done) | (go_simp; rfl))
      intro g2 hg2 w2 hbox hb2
      have S2 := Aside0.mk hbox
      have HB2 := Aside0.mk hb2
      have hw2 : w.heap.size ≤ g2 := by omega
      clear hbox hb2 hg2)
   | ((with_reducible refine gate_dst (N := 4) rfl ?_)
      refine box_event ?hg (N := 4) ?hd (cs := #[.slice none 0 0]) (t := 24) ?hr ?_
      (case hd => rfl)
      (case hg => rfl)
      (case hr => first | (go_simp; done) | (go_simp; rfl))
      intro g4 hg4 w4 hbox hb4
      have S4 := Aside0.mk (blk_below S2.out hb4)
      have T4 := Aside0.mk hbox
      have HB4 := Aside0.mk (below_step HB2.out hb4)
      have hl2 := blk_lt S2.out
      have hne : g2 ≠ g4 := by omega
      have hsz := HB2.out.size
      have hw4 : w.heap.size ≤ g4 := by omega
      have hcz : w4.cell? ⟨g2, 0, none⟩ = some (.slice A l.length c) := (blk_cell S4.out 0).trans rfl
      clear hbox hb4 hg4 S2 HB2 hl2 hsz))
  (with_reducible refine (sorts_Check.calls A c l 0 _ (Kd.C_below HR.out HB4.out) HC.out hck.out).mono ?_)
  rintro e w5 ⟨rfl, hB5⟩
  have S5 := Aside0.mk (blk_below S4.out hB5)
  have T5 := Aside0.mk (blk_below T4.out hB5)
  have HB5 := Aside0.mk (below_step HB4.out hB5)
  have hcz5 : w5.cell? ⟨g2, 0, none⟩ = some (.slice A l.length c) := (blk_cell S5.out 0).trans rfl
  have hct5 : w5.cell? ⟨g4, 0, none⟩ = some (.slice none 0 0) := (blk_cell T5.out 0).trans rfl
  have hft5 := blk_frozen T5.out 0
  clear hB5 S4 T4 HB4 hcz
  by_cases h1 : a < 0
  · have h1b : decide (a < 0) = true := decide_eq_true h1
    clear h1 t0
    go_wp2_with fail
    refine bodyPost_ret (results_ct rfl _ _ g4 24 #[.slice none 0 0] (0, 0) _ rfl (blk_put (cs' := #[.slice none 0 0]) T5.out 0 (.slice none 0 0) rfl) Try.underlying24 rfl (by kernel_rfl)) rfl ?_
    exact ⟨_, _, 0, [], rfl, Kd.S_nil _ _ _ _ _, below_set (g := g4) (j := 0) HB5.out hw4⟩
  · have h1b : decide (a < 0) = false := decide_eq_false h1
    by_cases h2 : (l.length : Int) < a
    · have h2b : decide ((l.length : Int) < a) = true := decide_eq_true h2
      clear h1 h2 t0
      go_wp2_with fail
      refine bodyPost_ret (results_ct rfl _ _ g4 24 #[.slice none 0 0] (0, 0) _ rfl (blk_put (cs' := #[.slice none 0 0]) T5.out 0 (.slice none 0 0) rfl) Try.underlying24 rfl (by kernel_rfl)) rfl ?_
      exact ⟨_, _, 0, [], rfl, Kd.S_nil _ _ _ _ _, below_set (g := g4) (j := 0) HB5.out hw4⟩
    · have h2b : decide ((l.length : Int) < a) = false := decide_eq_false h2
      have p1 : (0 ≤ a) = True := eq_true (by omega)
      have p2 : (a ≤ (l.length : Int)) = True := eq_true (by omega)
      have hra : a.toNat ≤ l.length := by omega
      obtain ⟨i29, hi29, _, hsz29, _⟩ := info_parts info24
      have hcut := cut_from (P := Try.prog) 22 24 .i64 Try.underlying22 hi29 1 hsz29 A l.length c a (by omega) (by omega)
      have hrd := Kd.C_drop (m := a.toNat) (c := c) HR.out hra HC.out
      obtain ⟨A2, hA2⟩ : ∃ A2, A2 = (if c = a.toNat then A else (A : Option Addr).map (·.add (a.toNat * 1))) := ⟨_, rfl⟩
      obtain ⟨c2, hc2⟩ : ∃ c2, c2 = c - a.toNat := ⟨_, rfl⟩
      obtain ⟨m, hm⟩ : ∃ m, m = l.drop a.toNat := ⟨_, rfl⟩
      have hml : m.length = l.length - a.toNat := by rw [hm, List.length_drop]
      rw [← hm] at hrd
      replace hrd : Kd.C k24 w A2 m.length m := by rw [hA2]; exact hrd
      rw [← hml, ← hA2, ← hc2] at hcut
      have hcnm : cntL m ≤ 1000 := by have := drop_cnt_le l a.toNat; have := HCN.out; rw [hm]; omega
      have HRD := Aside0.mk hrd
      have HCM := Aside0.mk hcnm
      have HC2 := Aside0.mk (show m.length ≤ c2 from by have := HC.out; omega)
      clear hrd hcnm hA2 hc2 hm hml hra h1 h2 t0 hi29 hsz29
      go_wp2_with fail
      (with_reducible refine (copied_sep (SizeOf.sizeOf m + 1) m A2 c2 _ (Nat.lt_succ_self _) HCM.out (Kd.C_below HRD.out HB5.out) HC2.out).mono ?_)
      rintro e w6 ⟨v, rfl, ho6, hb6⟩
      have T6 := Aside0.mk (blk_below T5.out hb6)
      have HB6 := Aside0.mk (below_step HB5.out hb6)
      have hsz5 := HB5.out.size
      have HO6 := Aside0.mk (Kd.S_mono (Kd.S_lower (Kd.S_bound ho6) hsz5) (ok' := fun k => True ∧ k ≠ g4) (fun k hk => ⟨trivial, by have := hk.2.1; have := blk_lt T5.out; omega⟩))
      obtain ⟨A6, c6, e6⟩ := Kd.S_slice HO6.out
      subst e6
      have hct6 : w6.cell? ⟨g4, 0, none⟩ = some (.slice none 0 0) := (blk_cell T6.out 0).trans rfl
      have hft6 := blk_frozen T6.out 0
      clear ho6 hb6 hsz5 S5 T5 HB5 hcz5 hct5 hft5
      go_wp2_with fail
      refine bodyPost_ret (results_ct rfl _ _ g4 24 #[.slice A6 m.length c6] (0, 0) _ rfl (blk_put (cs' := #[.slice A6 m.length c6]) T6.out 0 (.slice A6 m.length c6) rfl) Try.underlying24 rfl (by kernel_rfl)) rfl ?_
      exact ⟨_, _, _, m, rfl, Kd.S_mono (Kd.S_far (p := ⟨g4, 0, none⟩) HO6.out (fun k hk => hk.2) (.slice A6 m.length c6)) (fun _ _ => trivial), below_set (g := g4) (j := 0) HB6.out hw4⟩
end Go.Proofs.Ytiendnnbflooeaa.V
