/- Contract of sorts.Put by hand. -/
import Derived.Test.YtiendnnbflooeaaVH3
namespace Go.Proofs.Ytiendnnbflooeaa.V
open Go.RowKit Go.Proofs.YtiendnnbflooeaaW.PrintWords Go.Proofs.YtiendnnbflooeaaW.PrintLast Go.Proofs.YtiendnnbflooeaaW.PrintMore
attribute [local go_sem] max2_int min2_int max_two min_two max_three min_three max_four min_four
set_option linter.unusedVariables false
set_option linter.unusedSimpArgs false

mutual
theorem txt_len : ∀ (x : S24) (left : Int), 0 ≤ left → 0 ≤ (meas x left).2 → ((txt x).length : Int) + 5 ≤ 6 * (left - (meas x left).2)
  | ⟨l⟩, left, h, h2 => by
    unfold meas at h2 ⊢
    have := txtL_len l (left - 1) 0 (by omega) (by omega) h2
    rw [txt, List.length_append, List.length_singleton]
    omega
theorem txtL_len : ∀ (l : List S24) (left d : Int), -1 ≤ left → 0 ≤ d → 0 ≤ (measL l left d).2 → ((txtL l).length : Int) ≤ 6 * (left - (measL l left d).2)
  | [], left, d, h, hd, h2 => by unfold measL; rw [txtL, List.length_nil]; simp
  | x :: xs, left, d, h, hd, h2 => by
    unfold measL at h2 ⊢
    by_cases hn : left < 0
    · rw [if_pos hn] at h2; simp only at h2; omega
    · rw [if_neg hn] at h2 ⊢
      have h1 := meas_bd x left (by omega)
      have hm := mx_ge d (meas x left).1
      have h3 := measL_bd xs (meas x left).2 (mx d (meas x left).1) (by omega) (by omega)
      have h4 := txt_len x left (by omega) (by omega)
      have h5 := txtL_len xs (meas x left).2 (mx d (meas x left).1) (by omega) (by omega) h2
      rw [txtL]
      split <;> simp only [List.length_append, List.length_cons, List.length_nil] <;> omega
end
/-! ### sorts_Put: function 23 -/
def sorts_Put.f (l0_0 : List S24) : Option (ByteArray × Int) := some (if sorts_Check.f l0_0 = some 0 then (⟨(txt ⟨l0_0⟩).toArray⟩, 0) else (⟨#[]⟩, 6))
theorem sorts_Check.cases (l : List S24) : sorts_Check.f l = some 0 ∧ 0 ≤ (meas ⟨l⟩ 60).2 ∨ sorts_Check.f l = some 6 := by
  unfold sorts_Check.f
  split
  · exact .inr rfl
  · rename_i h
    exact .inl ⟨rfl, by omega⟩
set_option maxHeartbeats 1000000 in
theorem sorts_Put.calls (A0_0 : Option Addr) (c0_0 : Nat) (l0_0 : List S24) (r1 : ByteArray) (r2 : Int) (w : World) (hr0_0 : Kd.C k24 w A0_0 l0_0.length l0_0) (hc0_0 : l0_0.length ≤ c0_0) (h : sorts_Put.f l0_0 = some (r1, r2)) :
    Calls Try.prog 23 #[.agg #[.slice A0_0 l0_0.length c0_0]] w fun e w' => e = .returned (.tuple #[.string r1, .int .i64 r2]) ∧ Below w.heap.size w w' := by
  have hu24 := Try.underlying24
  have hu54 := Try.underlying54
  have HR := Aside0.mk hr0_0
  have HC := Aside0.mk hc0_0
  have HF := Aside0.mk h
  clear h hr0_0 hc0_0
  have hc := sorts_Check.cases l0_0
  have HCK : Aside0 (sorts_Check.f l0_0 = some 0 ∧ 0 ≤ (meas ⟨l0_0⟩ 60).2 ∨ sorts_Check.f l0_0 = some 6) := ⟨hc⟩
  clear hc
  go_enter Try.func23, Try.ntmps23
  go_wp2_with (
      (with_reducible refine gate_dst (N := 1) rfl ?_)
      refine box_event ?hg (N := 1) ?hd (cs := #[.slice A0_0 l0_0.length c0_0]) (t := 24) ?hr ?_
      (case hd => rfl)
      (case hg => rfl)
      (case hr => first | (go_simp; done) | (go_simp; rfl))
      intro gb hgb w2 hbox hb2
      have HB2 := Aside0.mk hb2
      have Hbox := Aside0.mk hbox
      have hcz2 : w2.cell? ⟨gb, 0, none⟩ = some (.slice A0_0 l0_0.length c0_0) := (blk_cell hbox 0).trans rfl
      clear hbox hb2 hgb)
  rcases HCK.out with ⟨hk, hm⟩ | hk
  · have Hk := Aside0.mk hk
    have Hm := Aside0.mk hm
    have HF2 : Aside0 (r1 = ⟨(txt ⟨l0_0⟩).toArray⟩ ∧ r2 = 0) := ⟨by have e := HF.out; rw [sorts_Put.f, if_pos hk] at e; injection e with e; injection e with e1 e2; exact ⟨e1.symm, e2.symm⟩⟩
    clear hk hm
    (with_reducible refine (sorts_Check.calls A0_0 c0_0 l0_0 0 _ (Kd.C_below HR.out HB2.out) HC.out Hk.out).mono ?_)
    rintro e w3 ⟨rfl, hB3⟩
    have HB3 := Aside0.mk (below_step HB2.out hB3)
    have Hbox3 := Aside0.mk (blk_below Hbox.out hB3)
    clear hB3 hcz2
    go_wp2_with (
      (with_reducible refine gate_dst (N := 5) rfl ?_)
      refine box_event ?hg (N := 5) ?hd (cs := #[.pointer none, .slice none 0 0]) (t := 54) ?hr ?_
      (case hd => rfl)
      (case hg => rfl)
      (case hr => first | (go_simp; done) | (go_simp; rfl))
      intro b hbg w4 hbox4 hb4
      have HB4 := Aside0.mk (below_step HB3.out hb4)
      have Hbx4 := Aside0.mk (blk_below Hbox3.out hb4)
      have hsz := HB3.out.size
      have Hge := Aside0.mk (show w.heap.size ≤ b by omega)
      have Hb4 : Aside0 (Lib.IsBuilderF 54 5 w.heap.size b (Lib.byteCells []) w4) := ⟨.inl ⟨Hge.out, .slice none 0 0, hbox4, ⟨rfl, .inl ⟨rfl, rfl⟩⟩, by simp [Value.ownBlock]⟩⟩
      have hcz4 : w4.cell? ⟨gb, 0, none⟩ = some (.slice A0_0 l0_0.length c0_0) := (blk_cell Hbx4.out 0).trans rfl
      clear hbox4 hb4 hbg hsz)
    (with_reducible refine (write_calls (SizeOf.sizeOf l0_0 + 1) l0_0 A0_0 c0_0 b [] w _ (by omega) HR.out HC.out HB4.out Hb4.out ?_).mono ?_)
    · have h1 := txt_len ⟨l0_0⟩ 60 (by omega) Hm.out
      have h2 := Hm.out
      simp only [List.length_nil]
      omega
    rintro e w5 ⟨rfl, hb5, hB5, hK5⟩
    rw [List.nil_append] at hb5
    have HB5 := Aside0.mk hB5
    have Hb5 := Aside0.mk hb5
    clear hb5 hB5 hK5 hcz4
    go_wp2_with fail
    (with_reducible refine (Try.Builder_String_any_k w.heap.size b (txt ⟨l0_0⟩) _ Hb5.out HB5.out.size).mono ?_)
    rintro e w6 ⟨rfl, _, hB6, _⟩
    have HB6 := Aside0.mk (HB5.out.trans hB6)
    clear hB6
    go_wp2_with fail
    go_ret2
    exact ⟨by rw [HF2.out.1, HF2.out.2]; rfl, HB6.out⟩
  · have Hk := Aside0.mk hk
    have HF2 : Aside0 (r1 = ⟨#[]⟩ ∧ r2 = 6) := ⟨by have e := HF.out; rw [sorts_Put.f, if_neg (by rw [hk]; simp)] at e; injection e with e; injection e with e1 e2; exact ⟨e1.symm, e2.symm⟩⟩
    clear hk
    (with_reducible refine (sorts_Check.calls A0_0 c0_0 l0_0 6 _ (Kd.C_below HR.out HB2.out) HC.out Hk.out).mono ?_)
    rintro e w3 ⟨rfl, hB3⟩
    have HB3 := Aside0.mk (below_step HB2.out hB3)
    clear hB3 hcz2
    go_wp2_with fail
    go_ret2
    exact ⟨by rw [HF2.out.1, HF2.out.2]; rfl, HB3.out⟩
end Go.Proofs.Ytiendnnbflooeaa.V
