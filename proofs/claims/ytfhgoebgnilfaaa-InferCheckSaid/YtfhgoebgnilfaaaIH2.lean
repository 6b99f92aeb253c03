/- Contracts of sorts.all and sorts.Check by hand. -/
import Derived.Test.YtfhgoebgnilfaaaIH1
namespace Go.Proofs.Ytfhgoebgnilfaaa.I
open Go.RowKit Go.Proofs.YtfhgoebgnilfaaaW.PrintWords Go.Proofs.YtfhgoebgnilfaaaW.PrintLast Go.Proofs.YtfhgoebgnilfaaaW.PrintMore
attribute [local go_sem] max2_int min2_int max_two min_two max_three min_three max_four min_four
set_option linter.unusedVariables false
set_option maxRecDepth 100000
set_option linter.unusedSimpArgs false

mutual
/-- Has it, and each sort in it, at most 8 arguments? -/
def fewS : S41 → Bool
  | ⟨l⟩ => fewL l && decide (l.length ≤ 8)
def fewL : List S41 → Bool
  | [] => true
  | x :: xs => fewS x && fewL xs
end
theorem few1_calls (l : List S41) (A : Option Addr) (c : Nat) (w : World) (hr : Kd.C k41 w A l.length l) (hc : l.length ≤ c) :
    Calls Try.prog 62 #[.agg #[.slice A l.length c]] w fun e w' => e = .returned (.bool (decide (l.length ≤ 8))) ∧ Below w.heap.size w w' := by
  have hu41 := Try.underlying41
  have hlen : l.length ≤ 9223372036854775807 := hr.2.1
  have HR := Aside0.mk hr
  clear hr
  go_enter Try.func62, Try.ntmps62
  have HB := Aside0.mk (below_alloc (Below.refl w.heap.size w) (.cells #[.slice A l.length c] 41))
  by_cases h8 : l.length ≤ 8
  · have h8' : decide ((l.length : Int) ≤ 8) = true := decide_eq_true (by omega)
    have h9 : decide (l.length ≤ 8) = true := decide_eq_true h8
    go_wp2_with fail
    go_ret
    exact ⟨by rw [h9]; rfl, HB.out⟩
  · have h8' : decide ((l.length : Int) ≤ 8) = false := decide_eq_false (by omega)
    have h9 : decide (l.length ≤ 8) = false := decide_eq_false h8
    go_wp2_with fail
    go_ret
    exact ⟨by rw [h9]; rfl, HB.out⟩
theorem all_calls (N : Nat) : ∀ (l : List S41) (A : Option Addr) (c : Nat) (w : World) (hN : SizeOf.sizeOf l < N) (hr : Kd.C k41 w A l.length l) (hc : l.length ≤ c),
    Calls Try.prog 61 #[.agg #[.slice A l.length c], .func (.func 62) #[] #[]] w fun e w' => e = .returned (.bool (fewS ⟨l⟩)) ∧ Below w.heap.size w w' := by
  induction N with
  | zero => intro l A c w hN; omega
  | succ N ih =>
  intro l A c w hN hr hc
  have hu41 := Try.underlying41
  have hlen : l.length ≤ 9223372036854775807 := hr.2.1
  have HR := Aside0.mk hr
  have HC := Aside0.mk hc
  have HN := Aside0.mk hN
  have IH := Aside0.mk ih
  clear hr hc hN ih
  go_enter Try.func61, Try.ntmps61
  go_wp2_with (
    (with_reducible refine gate_dst (N := 2) rfl ?_)
    refine box_event ?hg (N := 2) ?hd (cs := #[.slice A l.length c]) (t := 41) ?hr ?_
    (case hd => rfl)
    (case hg => rfl)
    (case hr => first | (go_simp; done) | (go_simp; rfl))
    intro gb hgb w2 hbox hb2
    have HB2 := Aside0.mk hb2
    have hcz2 : w2.cell? ⟨gb, 0, none⟩ = some (.slice A l.length c) := (blk_cell hbox 0).trans rfl
    have Hbox := Aside0.mk hbox
    clear hbox hb2 hgb)
  clear hcz2
  go_loopg [10] l.length (fun kq v10 wr => ∃ (i : Nat), v10 = .int .i64 (i : Int) ∧ Aside0 (kq + i = l.length) ∧ Aside0 (fewL (l.drop i) = fewL l) ∧ Aside0 (wr.heap[gb]? = some (.cells #[.slice A l.length c] 41 (0, 0))) ∧ Aside0 (Below w.heap.size w wr))
  case atStart => exact ⟨0, rfl, ⟨by omega⟩, ⟨by rw [List.drop_zero]⟩, Hbox, HB2⟩
  case round =>
    clear Hbox HB2
    obtain ⟨i, rfl, Hi, Hm, Hbox, HB⟩ := hrel
    have hi : i ≤ l.length := by have := Hi.out; omega
    by_cases hlt : i < l.length
    · have hdrop := Aside0.mk (rd_T41_drop l i hlt)
      have hmem := Aside0.mk (rd_T41_mem l i hlt)
      obtain ⟨ad, A1, c1, he, hx1, hl1, hi1⟩ := at_T41 HR.out (i : Int) (by omega) (by omega)
      cases he
      replace hx1 := (HB.out.cell (World.block_lt_of_cell? w _ hx1)).trans hx1
      rw [Int.toNat_natCast] at hx1
      have Hl1 := Aside0.mk hl1
      have Hi1 := Aside0.mk hi1
      clear hl1 hi1
      have p1 : (0 ≤ (i : Int)) = True := eq_true (by omega)
      have p2 : ((i : Int) < (l.length : Int)) = True := eq_true (by omega)
      have p3 : (i < l.length) = True := eq_true (by omega)
      generalize hx : rd_T41 l (i : Int) = x at *
      have Hx := Aside0.mk hx
      clear hx
      go_wp2_with (
        (with_reducible refine gate_dst (N := 6) rfl ?_)
        refine box_event ?hg (N := 6) ?hd (cs := #[.slice none 0 0]) (t := 41) ?hr ?_
        (case hd => rfl)
        (case hg => rfl)
        (case hr => first | (go_simp; done) | (go_simp; rfl))
        intro gi hgi w3 hbox3 hb3
        have hsz := below_size HB.out
        have HB3 := Aside0.mk (below_set (j := 0) (v := .slice A1 x.f0.length c1) (below_step HB.out hb3) (show w.heap.size ≤ gi by omega))
        have hne4 : gb ≠ gi := by have := blk_lt Hbox.out; omega
        have Hbox3 := Aside0.mk (blk_far (p := ⟨gi, 0, none⟩) (blk_below Hbox.out hb3) hne4 (.slice A1 x.f0.length c1))
        have hci : (w3.setCell ⟨gi, 0, none⟩ (.slice A1 x.f0.length c1)).cell? ⟨gi, 0, none⟩ = some (.slice A1 x.f0.length c1) := (blk_cell (blk_set hbox3 0 (.slice A1 x.f0.length c1)) 0).trans rfl
        have hcz := (blk_cell hbox3 0).trans rfl
        have hfz := blk_frozen hbox3 0
        clear hbox3 hb3 hsz hgi HB Hbox)
      (with_reducible refine (IH.out x.f0 A1 c1 _ ?_ (Kd.C_below Hi1.out HB3.out) Hl1.out).mono ?_)
      · have := hmem.out; have := HN.out; omega
      rintro e w4 ⟨rfl, hB4⟩
      have HB := Aside0.mk (below_step HB3.out hB4)
      have Hbox := Aside0.mk (blk_below Hbox3.out hB4)
      clear hB4 HB3 Hbox3 hci hcz hfz
      have hxe : fewS ⟨x.f0⟩ = fewS x := by cases x; rfl
      have HM : Aside0 (fewL l = (fewS ⟨x.f0⟩ && fewL (l.drop (i + 1)))) := ⟨by rw [← Hm.out, hdrop.out, fewL, hxe]⟩
      clear hxe
      cases hf : fewS ⟨x.f0⟩ with
      | false =>
        rw [hf] at HM
        have HM2 : Aside0 (fewS ⟨l⟩ = false) := ⟨by rw [fewS, HM.out]; simp⟩
        clear hf HM
        go_wp2_with fail
        go_ret
        exact ⟨by rw [HM2.out]; rfl, HB.out⟩
      | true =>
        rw [hf] at HM
        clear hf
        go_wp2_with fail
        have hk := Hi.out
        obtain ⟨k1, rfl⟩ : ∃ k1, gk = k1 + 1 := ⟨gk - 1, by omega⟩
        go_roundg k1
        case measure => omega
        case rel => exact ⟨i + 1, by go_num, ⟨by omega⟩, ⟨by rw [HM.out]; simp⟩, Hbox, HB⟩
    · have hie : i = l.length := by omega
      have Hfew : Aside0 (fewS ⟨l⟩ = decide (l.length ≤ 8)) := ⟨by rw [fewS, ← Hm.out, hie, List.drop_length, fewL]; simp⟩
      have Hie := Aside0.mk hie
      clear hie
      have hcz2 : wr.cell? ⟨gb, 0, none⟩ = some (.slice A l.length c) := (blk_cell Hbox.out 0).trans rfl
      go_wp2_with fail
      (with_reducible refine (few1_calls l A c _ (Kd.C_below HR.out HB.out) HC.out).mono ?_)
      rintro e w4 ⟨rfl, hB4⟩
      have HB4 := Aside0.mk (below_step HB.out hB4)
      clear hB4
      go_wp2_with fail
      go_ret
      exact ⟨by rw [Hfew.out]; rfl, HB4.out⟩

/-! ### sorts_Check: function 15 -/
def sorts_Check.f (l0_0 : List S41) : Option Int := some (if (meas ⟨l0_0⟩ 60).2 < 0 ∨ (meas ⟨l0_0⟩ 60).1 > 30 ∨ fewS ⟨l0_0⟩ = false then 6 else 0)
theorem sorts_Check.calls (A0_0 : Option Addr) (c0_0 : Nat) (l0_0 : List S41) (r : Int) (w : World) (hr0_0 : Kd.C k41 w A0_0 l0_0.length l0_0) (hc0_0 : l0_0.length ≤ c0_0) (h : sorts_Check.f l0_0 = some r) :
    Calls Try.prog 41 #[.agg #[.slice A0_0 l0_0.length c0_0]] w fun e w' => e = .returned (.int .i64 r) ∧ Below w.heap.size w w' := by
  have hu41 := Try.underlying41
  have HR := Aside0.mk hr0_0
  have HC := Aside0.mk hc0_0
  have HBD := Aside0.mk (meas_bd ⟨l0_0⟩ 60 (by omega))
  obtain ⟨n1, n2, hS⟩ : ∃ n1 n2, sorts_Size.f l0_0 = some (n1, n2) := ⟨_, _, rfl⟩
  have HS := Aside0.mk hS
  have HSC : Aside0 ((n1 > 60 ∨ n2 > 30 ∨ fewS ⟨l0_0⟩ = false) ↔ ((meas ⟨l0_0⟩ 60).2 < 0 ∨ (meas ⟨l0_0⟩ 60).1 > 30 ∨ fewS ⟨l0_0⟩ = false)) := ⟨by
    have hb := HBD.out
    unfold sorts_Size.f at hS
    by_cases hneg : (meas ⟨l0_0⟩ 60).2 < 0
    · simp only [if_pos hneg, Option.some.injEq, Prod.mk.injEq] at hS
      obtain ⟨rfl, rfl⟩ := hS
      exact ⟨fun _ => .inl hneg, fun _ => .inl (by omega)⟩
    · simp only [if_neg hneg, Option.some.injEq, Prod.mk.injEq] at hS
      obtain ⟨rfl, rfl⟩ := hS
      exact ⟨fun h => h.elim (fun h => by omega) .inr, fun h => h.elim (fun h => absurd h hneg) .inr⟩⟩
  have HF := Aside0.mk h
  clear h hr0_0 hc0_0 hS
  go_enter Try.func41, Try.ntmps41
  go_wp2_with (
      (with_reducible refine gate_dst (N := 1) rfl ?_)
      refine box_event ?hg (N := 1) ?hd (cs := #[.slice A0_0 l0_0.length c0_0]) (t := 41) ?hr ?_
      (case hd => rfl)
      (case hg => rfl)
      (case hr => first | (go_simp; done) | (go_simp; rfl))
      intro gb hgb w2 hbox hb2
      have HB2 := Aside0.mk hb2
      have Hbox := Aside0.mk hbox
      have hcz2 : w2.cell? ⟨gb, 0, none⟩ = some (.slice A0_0 l0_0.length c0_0) := (blk_cell hbox 0).trans rfl
      clear hbox hb2 hgb)
  (with_reducible refine (sorts_Size.calls A0_0 c0_0 l0_0 n1 n2 _ (Kd.C_below HR.out HB2.out) HC.out HS.out).mono ?_)
  rintro e w3 ⟨rfl, hB3⟩
  have HB3 := Aside0.mk (below_step HB2.out hB3)
  have Hbox3 := Aside0.mk (blk_below Hbox.out hB3)
  clear hB3 hcz2
  have hcz3 : w3.cell? ⟨gb, 0, none⟩ = some (.slice A0_0 l0_0.length c0_0) := (blk_cell Hbox3.out 0).trans rfl
  by_cases h1 : n1 > 60
  · have HR6 : Aside0 (r = 6) := ⟨by have e := HF.out; rw [sorts_Check.f, if_pos (HSC.out.1 (.inl h1))] at e; injection e with e; exact e.symm⟩
    have h1b : decide (60 < n1) = true := decide_eq_true h1
    go_wp2_with fail
    go_ret
    exact ⟨by rw [HR6.out]; rfl, HB3.out⟩
  · have h1b : decide (60 < n1) = false := decide_eq_false h1
    by_cases h2 : n2 > 30
    · have HR6 : Aside0 (r = 6) := ⟨by have e := HF.out; rw [sorts_Check.f, if_pos (HSC.out.1 (.inr (.inl h2)))] at e; injection e with e; exact e.symm⟩
      have h2b : decide (30 < n2) = true := decide_eq_true h2
      go_wp2_with fail
      go_ret
      exact ⟨by rw [HR6.out]; rfl, HB3.out⟩
    · have h2b : decide (30 < n2) = false := decide_eq_false h2
      go_wp2_with fail
      (with_reducible refine (all_calls (SizeOf.sizeOf l0_0 + 1) l0_0 A0_0 c0_0 _ (by omega) (Kd.C_below HR.out HB3.out) HC.out).mono ?_)
      rintro e w4 ⟨rfl, hB4⟩
      have HB4 := Aside0.mk (below_step HB3.out hB4)
      clear hB4
      cases hf : fewS ⟨l0_0⟩ with
      | false =>
        have HR6 : Aside0 (r = 6) := ⟨by have e := HF.out; rw [sorts_Check.f, if_pos (HSC.out.1 (.inr (.inr hf)))] at e; injection e with e; exact e.symm⟩
        clear hf
        go_wp2_with fail
        go_ret
        exact ⟨by rw [HR6.out]; rfl, HB4.out⟩
      | true =>
        have HR6 : Aside0 (r = 0) := ⟨by have e := HF.out; rw [sorts_Check.f, if_neg (fun h => by rcases HSC.out.2 h with h | h | h; omega; omega; rw [hf] at h; cases h)] at e; injection e with e; exact e.symm⟩
        clear hf
        go_wp2_with fail
        go_ret
        exact ⟨by rw [HR6.out]; rfl, HB4.out⟩
end Go.Proofs.Ytfhgoebgnilfaaa.I
