/- The laws' parameters laid open, by this session's program vrow.py. -/
import Derived.Test.YtiendnnbflooeaaV0
import Derived.Test.YtiendnnbflooeaaVOpen
namespace Go.Proofs.Ytiendnnbflooeaa.V
open Go.RowKit Go.Proofs.YtiendnnbflooeaaW.PrintWords Go.Proofs.Ytiendnnbflooeaa.VOpen
set_option linter.unusedVariables false
set_option linter.unusedSimpArgs false
mutual
def wf24 : S24 → Prop
  | ⟨f0⟩ => f0.length ≤ 9223372036854775807 ∧ wf24L f0
def wf24L : List S24 → Prop
  | [] => True
  | x :: xs => wf24 x ∧ wf24L xs
end
theorem wf24L_of : ∀ {l : List S24}, (∀ y, y ∈ l → wf24 y) → wf24L l
  | [], _ => trivial
  | x :: xs, h => ⟨h x (by simp), wf24L_of (fun y hy => h y (by simp [hy]))⟩
theorem wf24L_mem : ∀ {l : List S24}, wf24L l → ∀ y, y ∈ l → wf24 y
  | x :: xs, h, y, hy => by
    rcases List.mem_cons.1 hy with rfl | hy
    · exact h.1
    · exact wf24L_mem h.2 y hy
def Opened24 (w : World) (cs : List Value) (y : S24) : Prop := ∃ A0 c0, cs = [.slice A0 y.f0.length c0] ∧ y.f0.length ≤ c0 ∧ Kd.C k24 w A0 y.f0.length y.f0
theorem K24 {w : World} {cs : List Value} (h : ∃ y, Opened24 w cs y ∧ wf24 y) : ∃ y, k24.K w y cs ∧ wf24 y := by
  obtain ⟨y, h, hw⟩ := h
  obtain ⟨A0, c0, rfl, l0, g0⟩ := h
  exact ⟨y, k24_mk w y l0 g0, hw⟩
set_option maxRecDepth 10000 in
theorem open24 {H : Type} {enc : TypeId × Value → H} {w : World} {base : Nat} {sp : Nat → Bool} {held : Bool} (n : Nat) : ∀ (cs : List Value) (x : DataW H × List MemPlace), DataW.trod enc Try.prog w base sp held n 24 cs = some x → ∃ y : S24, Opened24 w cs y ∧ wf24 y := by
  induction n using Nat.strongRecOn with
  | _ n ih =>
    intro cs x h
    obtain ⟨m, rfl, hl, hf⟩ := field_open Try.underlying24 h
    have hl2 : cs.length = 1 := hl.trans (by kernel_rfl)
    obtain ⟨z0, rfl⟩ : ∃ z0, cs = [z0] := by
      match cs, hl2 with
      | [z0], _ => exact ⟨z0, rfl⟩
    clear hl hl2 h
    obtain ⟨y0, h0⟩ := hf 0 _ rfl
    have h0' : DataW.trod enc Try.prog w base sp held m 22 [z0] = some y0 := h0
    obtain ⟨A0_, c0_, a0, e0, lc0, g0, hl0, hw0⟩ := slice_open k24 (fun y_ => wf24 y_) Try.underlying22 (by kernel_rfl) (fun m_ hm_ cs_ x_ h_ => K24 (ih m_ (by omega) cs_ x_ h_)) h0'
    injection e0 with e0 _; subst e0
    exact ⟨⟨a0⟩, ⟨A0_, c0_, rfl, lc0, g0⟩, ⟨hl0, wf24L_of hw0⟩⟩
end Go.Proofs.Ytiendnnbflooeaa.V
