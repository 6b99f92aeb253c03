/- Contract of sorts.Get, by hand: its deferred function takes up the reader's panic. -/
import Derived.Test.YtiendnnbflooeaaVH7
import Derived.Test.YtiendnnbflooeaaVH2
import Derived.Defers
import Derived.Recover
import Derived.KernelRfl
import Derived.Laws.Pointers
import Derived.WalkSmall
namespace Go.Proofs.Ytiendnnbflooeaa.V
open Go.RowKit Go.Proofs.YtiendnnbflooeaaW.PrintWords Go.Proofs.YtiendnnbflooeaaW.PrintLast Go.Proofs.YtiendnnbflooeaaW.PrintMore Go.Proofs.Ytiendnnbflooeaa.T
set_option linter.unusedVariables false
set_option linter.unusedSimpArgs false
theorem hta (w : World) : Sem.run Try.prog (Instr.typeAssert (Value.iface 59 (Value.agg #[])) 20 59 true) w = .ok (.tuple #[.agg #[], .bool true]) w := by kernel_rfl
attribute [local go_sem] hta
theorem get1_panicking (g2 g3 : Nat) (x y : Value) (older : List PanicEntry) (w : World) (hne : g2 ≠ g3) (h2 : w.heap[g2]? = some (.cells #[x] 24 (0, 0))) (h3 : w.heap[g3]? = some (.cells #[y] 27 (0, 0))) :
    CallsD Try.prog 46 #[.pointer (some ⟨g2, 0, none⟩), .pointer (some ⟨g3, 0, none⟩)] (.panicking ({ v := .iface 59 (.agg #[]), recovered := false } :: older)) w fun e u' w' =>
      e = .returned (.tuple #[]) ∧ u' = .panicking ({ v := .iface 59 (.agg #[]), recovered := true } :: older) ∧ w' = (((w.alloc (.cells #[] 59 (0, 0))).setCell ⟨g2, 0, none⟩ (.slice none 0 0)).setCell ⟨g3, 0, none⟩ (.int .i64 4)) := by
  have hu59 := Try.underlying59
  have hu24 := Try.underlying24
  have H2 := blk_alloc h2 (.cells #[] 59 (0, 0))
  have H3 := blk_far (p := ⟨g2, 0, none⟩) (blk_alloc h3 (.cells #[] 59 (0, 0))) (Ne.symm hne) (.slice none 0 0)
  have hc2 : (w.alloc (.cells #[] 59 (0, 0))).cell? ⟨g2, 0, none⟩ = some x := (blk_cell H2 0).trans rfl
  have hc3 : ((w.alloc (.cells #[] 59 (0, 0))).setCell ⟨g2, 0, none⟩ (.slice none 0 0)).cell? ⟨g3, 0, none⟩ = some y := (blk_cell H3 0).trans rfl
  have hf2 := blk_frozen H2 0
  have hf3 := blk_frozen H3 0
  clear H2 H3 h2 h3
  refine callsD_of_wpS Try.func46 rfl fun c₀ cs hu => ?_
  apply wpS_seq
  apply wpS_region
  simp [wpOpsS, go_sem, recoverD, hu, Try.ntmps46, Exit.thenS]
  refine wpS_of_wp ?_
  simp only [Array.replicate, List.replicate, List.setIfInBounds_toArray, List.set_cons_zero, List.set_cons_succ, List.append_toArray, List.cons_append, List.nil_append]
  go_wp2_with fail
  simp [bodyPostS, results, Try.results46]
theorem get1_idle (g2 g3 : Nat) (w : World) :
    CallsD Try.prog 46 #[.pointer (some ⟨g2, 0, none⟩), .pointer (some ⟨g3, 0, none⟩)] .returning w fun e u' w' => e = .returned (.tuple #[]) ∧ u' = .returning ∧ w' = w := by
  refine callsD_of_wpS Try.func46 rfl fun c₀ cs hu => ?_
  apply wpS_seq
  apply wpS_region
  simp [wpOpsS, go_sem, recoverD, hu, Try.ntmps46, Exit.thenS]
  refine wpS_of_wp ?_
  simp only [Array.replicate, List.replicate, List.setIfInBounds_toArray, List.set_cons_zero, List.set_cons_succ, List.append_toArray, List.cons_append, List.nil_append]
  go_wp2_with fail
  cases c₀
  simp_all [bodyPostS, results, Try.results46]

/-- What Get makes of the reader's answer. -/
def getEnd (s : ByteArray) : Option (List S24) × Nat → Option (List S24 × Int)
  | (none, _) => some ([], 4)
  | (some l, j) => if j = s.size then (if sorts_Check.f l = some 0 then some (l, 0) else some ([], 6)) else some ([], 4)
def sorts_Get.f (k : Nat) (a0 : ByteArray) : Option (List S24 × Int) := if a0.size > 65536 then some ([], 3) else (rs a0 k 0 []).bind (getEnd a0)
theorem rs_mono (s : ByteArray) : ∀ (k i : Nat) (acc : List S24), LeO (rs s k i acc) (rs s (k + 1) i acc)
  | 0, i, acc, r, h => by simp [rs] at h
  | k + 1, i, acc, r, h => by
    rw [rs] at h ⊢
    by_cases h1 : pre s i [40] = true
    · rw [if_pos h1] at h ⊢
      cases hr : rs s k (i + 1) [] with
      | none => rw [hr] at h; cases h
      | some q =>
        rw [rs_mono s k (i + 1) [] _ hr]
        rw [hr] at h
        obtain ⟨o, j⟩ := q
        cases o with
        | none => exact h
        | some l =>
          simp only at h ⊢
          by_cases hl : l.length = 0
          · rw [if_pos hl] at h ⊢; exact h
          · rw [if_neg hl] at h ⊢
            by_cases h2 : pre s j [41, 32, 62, 32] = true
            · rw [if_pos h2] at h ⊢
              by_cases h3 : acc.length < 5864062014805
              · rw [if_pos h3] at h ⊢; exact rs_mono s k _ _ _ h
              · rw [if_neg h3] at h; cases h
            · rw [if_neg h2] at h ⊢; exact h
    · rw [if_neg h1] at h ⊢
      by_cases h2 : pre s i [111] = true
      · rw [if_pos h2] at h ⊢
        by_cases h3 : pre s (i + 1) [32, 62, 32] = true
        · rw [if_pos h3] at h ⊢
          by_cases h4 : acc.length < 5864062014805
          · rw [if_pos h4] at h ⊢; exact rs_mono s k _ _ _ h
          · rw [if_neg h4] at h; cases h
        · rw [if_neg h3] at h ⊢; exact h
      · rw [if_neg h2] at h ⊢; exact h
theorem sorts_Get.mono : ∀ a0 k, LeO (sorts_Get.f k a0) (sorts_Get.f (k + 1) a0) := by
  intro a0 k
  unfold sorts_Get.f
  exact LeO.ite (LeO.refl _) (LeO.bind (rs_mono a0 k 0 []) (fun _ => LeO.refl _))
theorem get_results (tmps : Array Value) (w : World) (g2 g3 : Nat) (v2 : Value) (e3 : Int) (h1 : tmps.getD 2 undef = .pointer (some ⟨g2, 0, none⟩)) (h2 : tmps.getD 3 undef = .pointer (some ⟨g3, 0, none⟩))
    (b2 : w.heap[g2]? = some (.cells #[v2] 24 (0, 0))) (b3 : w.heap[g3]? = some (.cells #[.int .i64 e3] 27 (0, 0))) :
    (results Try.f30 tmps).run Try.prog w = .ok (.tuple #[.agg #[v2], .int .i64 e3]) w := by
  have h1' : tmps[2]?.getD undef = .pointer (some ⟨g2, 0, none⟩) := by simpa using h1
  have h2' : tmps[3]?.getD undef = .pointer (some ⟨g3, 0, none⟩) := by simpa using h2
  have hc : w.cell? ⟨g3, 0, none⟩ = some (.int .i64 e3) := (blk_cell b3 0).trans rfl
  have hu := Try.underlying27
  have hl := run_loadVar_row (P := Try.prog) w g2 24 24 #[v2] (0, 0) _ b2 Try.underlying24 rfl (by kernel_rfl)
  have hl2 : (loadVar 27 ⟨g3, 0, none⟩).run Try.prog w = .ok (.int .i64 e3) w := by
    simp [loadVar, go_sem, hu, hc]
  simp [results, Try.results30, h1', h2', asAddr, hl, hl2]
theorem get_end (tmps : Array Value) (w : World) (R : Ending → World → Prop) (g2 g3 : Nat) (v2 : Value) (e3 : Int) (h1 : tmps.getD 2 undef = .pointer (some ⟨g2, 0, none⟩)) (h2 : tmps.getD 3 undef = .pointer (some ⟨g3, 0, none⟩))
    (b2 : w.heap[g2]? = some (.cells #[v2] 24 (0, 0))) (b3 : w.heap[g3]? = some (.cells #[.int .i64 e3] 27 (0, 0))) (hR : R (.returned (.tuple #[.agg #[v2], .int .i64 e3])) w) :
    Leaves Try.prog Try.f30 tmps R [] .returning w := ⟨_, get_results tmps w g2 g3 v2 e3 h1 h2 b2 b3, hR⟩
/-- The deferred function is called, and there is no panic. -/
theorem get_idle (tmps : Array Value) (w : World) (R : Ending → World → Prop) (g2 g3 : Nat) (v2 : Value) (e3 : Int) (h1 : tmps.getD 2 undef = .pointer (some ⟨g2, 0, none⟩)) (h2 : tmps.getD 3 undef = .pointer (some ⟨g3, 0, none⟩))
    (b2 : w.heap[g2]? = some (.cells #[v2] 24 (0, 0))) (b3 : w.heap[g3]? = some (.cells #[.int .i64 e3] 27 (0, 0))) (hR : R (.returned (.tuple #[.agg #[v2], .int .i64 e3])) w) :
    Leaves Try.prog Try.f30 tmps R [{ target := .fn (.func 46) #[.pointer (some ⟨g2, 0, none⟩), .pointer (some ⟨g3, 0, none⟩)], args := #[] }] .returning w := by
  refine leaves_cons (f := 46) (args := #[.pointer (some ⟨g2, 0, none⟩), .pointer (some ⟨g3, 0, none⟩)]) (by simp) (by simp [go_sem]) ?_
  refine (get1_idle g2 g3 w).mono ?_
  rintro e u' w'' ⟨rfl, rfl, rfl⟩
  exact get_end tmps _ R g2 g3 v2 e3 h1 h2 b2 b3 hR
/-- The deferred function takes up the reader's panic. -/
theorem get_caught (tmps : Array Value) (w : World) (R : Ending → World → Prop) (g2 g3 : Nat) (x y : Value) (hne : g2 ≠ g3) (h1 : tmps.getD 2 undef = .pointer (some ⟨g2, 0, none⟩)) (h2 : tmps.getD 3 undef = .pointer (some ⟨g3, 0, none⟩))
    (b2 : w.heap[g2]? = some (.cells #[x] 24 (0, 0))) (b3 : w.heap[g3]? = some (.cells #[y] 27 (0, 0)))
    (hR : R (.returned (.tuple #[.agg #[.slice none 0 0], .int .i64 4])) (((w.alloc (.cells #[] 59 (0, 0))).setCell ⟨g2, 0, none⟩ (.slice none 0 0)).setCell ⟨g3, 0, none⟩ (.int .i64 4))) :
    Leaves Try.prog Try.f30 tmps R [{ target := .fn (.func 46) #[.pointer (some ⟨g2, 0, none⟩), .pointer (some ⟨g3, 0, none⟩)], args := #[] }] (.panicking [{ v := .iface 59 (.agg #[]), recovered := false }]) w := by
  refine leaves_cons (f := 46) (args := #[.pointer (some ⟨g2, 0, none⟩), .pointer (some ⟨g3, 0, none⟩)]) (by simp) (by simp [go_sem]) ?_
  refine (get1_panicking g2 g3 x y [] w hne b2 b3).mono ?_
  rintro e u' w'' ⟨rfl, rfl, rfl⟩
  refine get_end tmps _ R g2 g3 _ 4 h1 h2 ?_ ?_ hR
  · exact blk_far (p := ⟨g3, 0, none⟩) (blk_put (cs' := #[.slice none 0 0]) (blk_alloc b2 _) 0 (.slice none 0 0) rfl) hne _
  · exact blk_put (cs' := #[.int .i64 4]) (blk_far (p := ⟨g2, 0, none⟩) (blk_alloc b3 _) (Ne.symm hne) _) 0 (.int .i64 4) rfl
set_option maxHeartbeats 4000000 in
theorem sorts_Get.calls (k : Nat) (a0 : ByteArray) (r1 : List S24) (r2 : Int) (w : World) (h : sorts_Get.f k a0 = some (r1, r2)) :
    Calls Try.prog 30 #[.string a0] w fun e w' => ∃ v0_ : Value, e = .returned (.tuple #[.agg #[v0_], .int .i64 r2]) ∧ Kd.R k24 24 w' w.heap.size (fun _ => True) v0_ r1 ∧ Below w.heap.size w w' := by
  have hu24 := Try.underlying24
  have hu27 := Try.underlying27
  have hu63 := Try.underlying63
  have hmf : ∀ (fn : Fn) (first cap : Array Value) (w : World), (Instr.makeFunc fn first cap).run Try.prog w = .ok (.func fn first cap) w := fun _ _ _ _ => rfl
  unfold sorts_Get.f at h
  by_cases hz : a0.size > 65536
  · rw [if_pos hz] at h
    injection h with h
    injection h with e1 e2
    subst e1 e2
    have hzi : decide ((a0.size : Int) > 65536) = true := decide_eq_true (by omega)
    have Hz := Aside0.mk hz
    clear hz
    go_enter_defers Try.func30, Try.ntmps30
    go_wp2_with fail
    have B2 : ((w.alloc (.cells #[.slice none 0 0] 24 (0, 0))).alloc (.cells #[.int .i64 3] 27 (0, 0))).heap[w.heap.size]? = some (.cells #[.slice none 0 0] 24 (0, 0)) := blk_alloc (blk_new w _) _
    have B3 : ((w.alloc (.cells #[.slice none 0 0] 24 (0, 0))).alloc (.cells #[.int .i64 3] 27 (0, 0))).heap[w.heap.size + 1]? = some (.cells #[.int .i64 3] 27 (0, 0)) := by
      have := blk_new (w.alloc (.cells #[.slice none 0 0] 24 (0, 0))) (.cells #[.int .i64 3] 27 (0, 0))
      simpa using this
    simp only [bodyPostD]
    refine get_end _ _ _ _ _ _ 3 ?_ ?_ B2 B3 ?_
    · rfl
    · rfl
    · exact ⟨_, rfl, Kd.R_nil _ _ _ _ _, below_alloc (below_alloc (Below.refl _ _) _) _⟩
  · rw [if_neg hz] at h
    have hzi : decide ((a0.size : Int) > 65536) = false := decide_eq_false (by omega)
    have hs : a0.size ≤ 1000000000 := by omega
    have Hs := Aside0.mk hs
    have H := Aside0.mk h
    clear hz hs h
    go_enter_defers Try.func30, Try.ntmps30
    go_wp2_with (first
     | ((with_reducible refine gate_dst (N := 2) rfl ?_)
        refine box_event ?hg (N := 2) ?hd (cs := #[.slice none 0 0]) (t := 24) ?hr ?_
        (case hd => rfl)
        (case hg => rfl)
        (case hr => first | (go_simp; done) | (go_simp; rfl))
        intro g2 hg2 w2 hbox hb2
        have St2 := Aside0.mk hbox
        have HB2 := Aside0.mk hb2
        have hw2 : w.heap.size ≤ g2 := by omega
        clear hbox hb2 hg2)
     | ((with_reducible refine gate_dst (N := 3) rfl ?_)
        refine box_event ?hg (N := 3) ?hd (cs := #[.int .i64 0]) (t := 27) ?hr ?_
        (case hd => rfl)
        (case hg => rfl)
        (case hr => first | (go_simp; done) | (go_simp; rfl))
        intro g3 hg3 w3 hbox hb3
        have Sa3 := Aside0.mk (blk_below St2.out hb3)
        have Sb3 := Aside0.mk hbox
        have HB3 := Aside0.mk (below_step HB2.out hb3)
        have hl2 := blk_lt St2.out
        have hne : g2 ≠ g3 := by omega
        have hsz3 := HB2.out.size
        have hw3 : w.heap.size ≤ g3 := by omega
        clear hbox hb3 hl2 St2 HB2 hg3 hsz3)
     | ((with_reducible refine gate_dst (N := 13) rfl ?_)
        refine box_event ?hg (N := 13) ?hd (cs := #[.string a0, .int .i64 0]) (t := 63) ?hr ?_
        (case hd => rfl)
        (case hg => rfl)
        (case hr => first | (go_simp; done) | (go_simp; rfl))
        intro g hg w4 hbox hb4
        have Sa4 := Aside0.mk (blk_below Sa3.out hb4)
        have Sb4 := Aside0.mk (blk_below Sb3.out hb4)
        have Sc4 := Aside0.mk hbox
        have HB4 := Aside0.mk (below_step HB3.out hb4)
        have hla := blk_lt Sa3.out
        have hlb := blk_lt Sb3.out
        have hnea : g2 ≠ g := by omega
        have hneb : g3 ≠ g := by omega
        have hsz4 := HB3.out.size
        have hw4 : w.heap.size ≤ g := by omega
        clear hbox hb4 hla hlb Sa3 Sb3 HB3 hg hsz4))
    have h := H.out
    obtain ⟨⟨o, j⟩, hrs, hend⟩ := Option.bind_eq_some_iff.mp h
    clear h H
    have HE := Aside0.mk hend
    clear hend
    (with_reducible refine (rs_calls a0 Hs.out k 0 g (o, j) w _ (Nat.zero_le _) hrs hw4 Sc4.out HB4.out).mono ?_)
    clear hrs
    intro e w5 hpost
    obtain ⟨hb5, hB5, hk5, hcase⟩ := hpost
    have Sc5 := Aside0.mk hb5
    have HB5 := Aside0.mk hB5
    have Sa5 := Aside0.mk (KeepBut.blk hk5 Sa4.out hnea (by simp))
    have Sb5 := Aside0.mk (KeepBut.blk hk5 Sb4.out hneb (by simp))
    have hl2 := blk_lt Sa4.out
    have hl3 := blk_lt Sb4.out
    have hsz := HB4.out.size
    clear hb5 hB5 hk5 Sa4 Sb4 Sc4 HB4
    cases o with
    | none =>
      simp only at hcase
      subst hcase
      have he := HE.out
      simp only [getEnd] at he
      injection he with he
      injection he with e1 e2
      subst e1 e2
      refine get_caught _ _ _ g2 g3 _ _ hne ?_ ?_ Sa5.out Sb5.out ?_
      · rfl
      · rfl
      · exact ⟨_, rfl, Kd.R_nil _ _ _ _ _, below_set (g := g3) (j := 0) (below_set (g := g2) (j := 0) (below_alloc HB5.out _) hw2) hw3⟩
    | some l =>
    simp only at hcase
    obtain ⟨v1, rfl, ho1⟩ := hcase
    have HO5 := Aside0.mk (Kd.R_mono (Kd.R_lower (Kd.R_bound ho1) hsz) (ok' := fun k => k ≠ g2 ∧ k ≠ g3) (fun k hk => by have h1 := hk.2.1; exact ⟨by omega, by omega⟩))
    obtain ⟨A1, c1, he1⟩ := Kd.R_slice HO5.out
    subst he1
    clear ho1 hsz hl2 hl3
    have hca : w5.cell? ⟨g2, 0, none⟩ = some (.slice none 0 0) := (blk_cell Sa5.out 0).trans rfl
    have hfa := blk_frozen Sa5.out 0
    have Sa6 := Aside0.mk (blk_put (cs' := #[.slice A1 l.length c1]) Sa5.out 0 (.slice A1 l.length c1) rfl)
    have Sb6 := Aside0.mk (blk_far (p := ⟨g2, 0, none⟩) Sb5.out (Ne.symm hne) (.slice A1 l.length c1))
    have Sc6 := Aside0.mk (blk_far (p := ⟨g2, 0, none⟩) Sc5.out (Ne.symm hnea) (.slice A1 l.length c1))
    have hcb : (w5.setCell ⟨g2, 0, none⟩ (.slice A1 l.length c1)).cell? ⟨g, 1, none⟩ = some (.int .i64 (j : Int)) := (blk_cell Sc6.out 1).trans rfl
    have hcd : (w5.setCell ⟨g2, 0, none⟩ (.slice A1 l.length c1)).cell? ⟨g2, 0, none⟩ = some (.slice A1 l.length c1) := (blk_cell Sa6.out 0).trans rfl
    have hfd := blk_frozen Sa6.out 0
    have HB6 := Aside0.mk (below_set (g := g2) (j := 0) (v := .slice A1 l.length c1) HB5.out hw2)
    have HO6 := Aside0.mk (Kd.R_far (p := ⟨g2, 0, none⟩) HO5.out (fun k hk => hk.1) (.slice A1 l.length c1))
    have he := HE.out
    simp only [getEnd] at he
    clear HE Sc5 Sa5 Sb5 HO5 HB5
    by_cases hj : j = a0.size
    · rw [if_pos hj] at he
      have hj1 : ((j : Int) != (a0.size : Int)) = false := bne_eq_false_iff_eq.2 (by omega)
      have hj2 : ((j : Int) == (a0.size : Int)) = true := beq_iff_eq.2 (by omega)
      have Hj := Aside0.mk hj
      have HE := Aside0.mk he
      clear hj he
      go_wp2_with fail
      obtain ⟨hn_, hc1, hC⟩ := Kd.R_reads' HO6.out
      by_cases hk : sorts_Check.f l = some 0
      · have he := HE.out
        rw [if_pos hk] at he
        injection he with he
        injection he with e1 e2
        subst e1 e2
        (with_reducible refine (sorts_Check.calls A1 c1 l 0 _ hC hc1 hk).mono ?_)
        rintro e w7 ⟨rfl, hB7⟩
        have Sa7 := Aside0.mk (blk_below Sa6.out hB7)
        have Sb7 := Aside0.mk (blk_below Sb6.out hB7)
        have HO7 := Aside0.mk (Kd.R_below HO6.out hB7)
        have HB7 := Aside0.mk (below_step HB6.out hB7)
        have hcx : w7.cell? ⟨g2, 0, none⟩ = some (.slice A1 l.length c1) := (blk_cell Sa7.out 0).trans rfl
        have hfx := blk_frozen Sa7.out 0
        have Sb8 := Aside0.mk (blk_far (p := ⟨g2, 0, none⟩) Sb7.out (Ne.symm hne) (.slice A1 l.length c1))
        have Sa8 := Aside0.mk (blk_put (cs' := #[.slice A1 l.length c1]) Sa7.out 0 (.slice A1 l.length c1) rfl)
        have hcy : (w7.setCell ⟨g2, 0, none⟩ (.slice A1 l.length c1)).cell? ⟨g3, 0, none⟩ = some (.int .i64 0) := (blk_cell Sb8.out 0).trans rfl
        have hfy := blk_frozen Sb8.out 0
        clear hB7 hC hc1 hk hn_
        go_wp2_with fail
        refine get_idle _ _ _ g2 g3 _ 0 ?_ ?_ (blk_far (p := ⟨g3, 0, none⟩) Sa8.out hne _) (blk_put (cs' := #[.int .i64 0]) Sb8.out 0 (.int .i64 0) rfl) ?_
        · rfl
        · rfl
        · exact ⟨_, rfl, Kd.R_mono (Kd.R_far (p := ⟨g3, 0, none⟩) (Kd.R_far (p := ⟨g2, 0, none⟩) HO7.out (fun k hk => hk.1) (.slice A1 l.length c1)) (fun k hk => hk.2) (.int .i64 0)) (fun _ _ => trivial), below_set (g := g3) (j := 0) (below_set (g := g2) (j := 0) HB7.out hw2) hw3⟩
      · have he := HE.out
        rw [if_neg hk] at he
        injection he with he
        injection he with e1 e2
        subst e1 e2
        have hk6 : sorts_Check.f l = some 6 := by
          unfold sorts_Check.f at hk ⊢
          split
          · rfl
          · rename_i h_
            rw [if_neg h_] at hk
            exact absurd rfl hk
        (with_reducible refine (sorts_Check.calls A1 c1 l 6 _ hC hc1 hk6).mono ?_)
        rintro e w7 ⟨rfl, hB7⟩
        have Sa7 := Aside0.mk (blk_below Sa6.out hB7)
        have Sb7 := Aside0.mk (blk_below Sb6.out hB7)
        have HB7 := Aside0.mk (below_step HB6.out hB7)
        have hcx : w7.cell? ⟨g2, 0, none⟩ = some (.slice A1 l.length c1) := (blk_cell Sa7.out 0).trans rfl
        have hfx := blk_frozen Sa7.out 0
        have Sb8 := Aside0.mk (blk_far (p := ⟨g2, 0, none⟩) Sb7.out (Ne.symm hne) (.slice none 0 0))
        have Sa8 := Aside0.mk (blk_put (cs' := #[.slice none 0 0]) Sa7.out 0 (.slice none 0 0) rfl)
        have hcy : (w7.setCell ⟨g2, 0, none⟩ (.slice none 0 0)).cell? ⟨g3, 0, none⟩ = some (.int .i64 0) := (blk_cell Sb8.out 0).trans rfl
        have hfy := blk_frozen Sb8.out 0
        clear hB7 hC hc1 hk hn_ hk6
        go_wp2_with fail
        refine get_idle _ _ _ g2 g3 _ 6 ?_ ?_ (blk_far (p := ⟨g3, 0, none⟩) Sa8.out hne _) (blk_put (cs' := #[.int .i64 6]) Sb8.out 0 (.int .i64 6) rfl) ?_
        · rfl
        · rfl
        · exact ⟨_, rfl, Kd.R_nil _ _ _ _ _, below_set (g := g3) (j := 0) (below_set (g := g2) (j := 0) HB7.out hw2) hw3⟩
    · rw [if_neg hj] at he
      injection he with he
      injection he with e1 e2
      subst e1 e2
      have hj1 : ((j : Int) != (a0.size : Int)) = true := bne_iff_ne.2 (by omega)
      have hj2 : ((j : Int) == (a0.size : Int)) = false := beq_eq_false_iff_ne.2 (by omega)
      clear hj
      have Sa7 := Aside0.mk (blk_put (cs' := #[.slice none 0 0]) Sa6.out 0 (.slice none 0 0) rfl)
      have Sb7 := Aside0.mk (blk_far (p := ⟨g2, 0, none⟩) Sb6.out (Ne.symm hne) (.slice none 0 0))
      have hce : ((w5.setCell ⟨g2, 0, none⟩ (.slice A1 l.length c1)).setCell ⟨g2, 0, none⟩ (.slice none 0 0)).cell? ⟨g3, 0, none⟩ = some (.int .i64 0) := (blk_cell Sb7.out 0).trans rfl
      have hfe := blk_frozen Sb7.out 0
      go_wp2_with fail
      refine get_idle _ _ _ g2 g3 _ 4 ?_ ?_ (blk_far (p := ⟨g3, 0, none⟩) Sa7.out hne _) (blk_put (cs' := #[.int .i64 4]) Sb7.out 0 (.int .i64 4) rfl) ?_
      · rfl
      · rfl
      · exact ⟨_, rfl, Kd.R_nil _ _ _ _ _, below_set (g := g3) (j := 0) (below_set (g := g2) (j := 0) HB6.out hw2) hw3⟩
end Go.Proofs.Ytiendnnbflooeaa.V
