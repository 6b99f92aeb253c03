/- The laws' parameters laid open, by this session's program vrow.py. -/
import Derived.Test.YtfhgoebgnilfaaaI0
import Derived.Test.YtfhgoebgnilfaaaVOpen
namespace Go.Proofs.Ytfhgoebgnilfaaa.I
open Go.RowKit Go.Proofs.YtfhgoebgnilfaaaW.PrintWords Go.Proofs.Ytfhgoebgnilfaaa.VOpen
set_option linter.unusedVariables false
set_option linter.unusedSimpArgs false
def wf59 (x : S59) : Prop := x.f0.size ≤ 9223372036854775807 ∧ (Lit.int .i64 x.f1).wf = true
def Opened59 (w : World) (cs : List Value) (y : S59) : Prop := cs = [.string y.f0, .int .i64 y.f1]
theorem K59 {w : World} {cs : List Value} (h : ∃ y, Opened59 w cs y ∧ wf59 y) : ∃ y, k59.K w y cs ∧ wf59 y := by
  obtain ⟨y, h, hw⟩ := h
  obtain rfl := h
  exact ⟨y, k59_mk w y , hw⟩
set_option maxRecDepth 10000 in
theorem open59 {H : Type} {enc : TypeId × Value → H} {w : World} {base : Nat} {sp : Nat → Bool} {held : Bool} (n : Nat) : ∀ (cs : List Value) (x : DataW H × List MemPlace), DataW.trod enc Try.prog w base sp held n 59 cs = some x → ∃ y : S59, Opened59 w cs y ∧ wf59 y := by
  intro cs x h
  obtain ⟨m, rfl, hl, hf⟩ := field_open Try.underlying59 h
  have hl2 : cs.length = 2 := hl.trans (by kernel_rfl)
  obtain ⟨z0, z1, rfl⟩ : ∃ z0 z1, cs = [z0, z1] := by
    match cs, hl2 with
    | [z0, z1], _ => exact ⟨z0, z1, rfl⟩
  clear hl hl2 h
  obtain ⟨y0, h0⟩ := hf 0 _ rfl
  have h0' : DataW.trod enc Try.prog w base sp held m 9 [z0] = some y0 := h0
  obtain ⟨a0, e0, w0⟩ := str_open Try.underlying9 h0'
  injection e0 with e0 _; subst e0
  obtain ⟨y1, h1⟩ := hf 1 _ rfl
  have h1' : DataW.trod enc Try.prog w base sp held m 3 [z1] = some y1 := h1
  obtain ⟨a1, e1, w1⟩ := int_open Try.underlying3 h1'
  injection e1 with e1 _; subst e1
  exact ⟨⟨a0, a1⟩, rfl, ⟨w0, w1⟩⟩
mutual
def wf44 : S44 → Prop
  | ⟨f0, f1, f2⟩ => (Lit.int .i64 f0).wf = true ∧ (Lit.int .i64 f1).wf = true ∧ f2.length ≤ 9223372036854775807 ∧ wf44L f2
def wf44L : List S44 → Prop
  | [] => True
  | x :: xs => wf44 x ∧ wf44L xs
end
theorem wf44L_of : ∀ {l : List S44}, (∀ y, y ∈ l → wf44 y) → wf44L l
  | [], _ => trivial
  | x :: xs, h => ⟨h x (by simp), wf44L_of (fun y hy => h y (by simp [hy]))⟩
theorem wf44L_mem : ∀ {l : List S44}, wf44L l → ∀ y, y ∈ l → wf44 y
  | x :: xs, h, y, hy => by
    rcases List.mem_cons.1 hy with rfl | hy
    · exact h.1
    · exact wf44L_mem h.2 y hy
def Opened44 (w : World) (cs : List Value) (y : S44) : Prop := ∃ A2 c2, cs = [.int .i64 y.f0, .int .i64 y.f1, .slice A2 y.f2.length c2] ∧ y.f2.length ≤ c2 ∧ Kd.C k44 w A2 y.f2.length y.f2
theorem K44 {w : World} {cs : List Value} (h : ∃ y, Opened44 w cs y ∧ wf44 y) : ∃ y, k44.K w y cs ∧ wf44 y := by
  obtain ⟨y, h, hw⟩ := h
  obtain ⟨A2, c2, rfl, l2, g2⟩ := h
  exact ⟨y, k44_mk w y l2 g2, hw⟩
set_option maxRecDepth 10000 in
theorem open44 {H : Type} {enc : TypeId × Value → H} {w : World} {base : Nat} {sp : Nat → Bool} {held : Bool} (n : Nat) : ∀ (cs : List Value) (x : DataW H × List MemPlace), DataW.trod enc Try.prog w base sp held n 44 cs = some x → ∃ y : S44, Opened44 w cs y ∧ wf44 y := by
  induction n using Nat.strongRecOn with
  | _ n ih =>
    intro cs x h
    obtain ⟨m, rfl, hl, hf⟩ := field_open Try.underlying44 h
    have hl2 : cs.length = 3 := hl.trans (by kernel_rfl)
    obtain ⟨z0, z1, z2, rfl⟩ : ∃ z0 z1 z2, cs = [z0, z1, z2] := by
      match cs, hl2 with
      | [z0, z1, z2], _ => exact ⟨z0, z1, z2, rfl⟩
    clear hl hl2 h
    obtain ⟨y0, h0⟩ := hf 0 _ rfl
    have h0' : DataW.trod enc Try.prog w base sp held m 3 [z0] = some y0 := h0
    obtain ⟨a0, e0, w0⟩ := int_open Try.underlying3 h0'
    injection e0 with e0 _; subst e0
    obtain ⟨y1, h1⟩ := hf 1 _ rfl
    have h1' : DataW.trod enc Try.prog w base sp held m 3 [z1] = some y1 := h1
    obtain ⟨a1, e1, w1⟩ := int_open Try.underlying3 h1'
    injection e1 with e1 _; subst e1
    obtain ⟨y2, h2⟩ := hf 2 _ rfl
    have h2' : DataW.trod enc Try.prog w base sp held m 42 [z2] = some y2 := h2
    obtain ⟨A2_, c2_, a2, e2, lc2, g2, hl2, hw2⟩ := slice_open k44 (fun y_ => wf44 y_) Try.underlying42 (by kernel_rfl) (fun m_ hm_ cs_ x_ h_ => K44 (ih m_ (by omega) cs_ x_ h_)) h2'
    injection e2 with e2 _; subst e2
    exact ⟨⟨a0, a1, a2⟩, ⟨A2_, c2_, rfl, lc2, g2⟩, ⟨w0, w1, hl2, wf44L_of hw2⟩⟩
def wf56 (x : S56) : Prop := x.f0.size ≤ 9223372036854775807 ∧ (Lit.int .i64 x.f1).wf = true ∧ wf44 x.f2
def Opened56 (w : World) (cs : List Value) (y : S56) : Prop := ∃ A4 c4, cs = [.string y.f0, .int .i64 y.f1, .int .i64 y.f2.f0, .int .i64 y.f2.f1, .slice A4 y.f2.f2.length c4] ∧ y.f2.f2.length ≤ c4 ∧ Kd.C k44 w A4 y.f2.f2.length y.f2.f2
theorem K56 {w : World} {cs : List Value} (h : ∃ y, Opened56 w cs y ∧ wf56 y) : ∃ y, k56.K w y cs ∧ wf56 y := by
  obtain ⟨y, h, hw⟩ := h
  obtain ⟨A4, c4, rfl, l4, g4⟩ := h
  exact ⟨y, k56_mk w y l4 g4, hw⟩
set_option maxRecDepth 10000 in
theorem open56 {H : Type} {enc : TypeId × Value → H} {w : World} {base : Nat} {sp : Nat → Bool} {held : Bool} (n : Nat) : ∀ (cs : List Value) (x : DataW H × List MemPlace), DataW.trod enc Try.prog w base sp held n 56 cs = some x → ∃ y : S56, Opened56 w cs y ∧ wf56 y := by
  intro cs x h
  obtain ⟨m, rfl, hl, hf⟩ := field_open Try.underlying56 h
  have hl2 : cs.length = 5 := hl.trans (by kernel_rfl)
  obtain ⟨z0, z1, z2, z3, z4, rfl⟩ : ∃ z0 z1 z2 z3 z4, cs = [z0, z1, z2, z3, z4] := by
    match cs, hl2 with
    | [z0, z1, z2, z3, z4], _ => exact ⟨z0, z1, z2, z3, z4, rfl⟩
  clear hl hl2 h
  obtain ⟨y0, h0⟩ := hf 0 _ rfl
  have h0' : DataW.trod enc Try.prog w base sp held m 9 [z0] = some y0 := h0
  obtain ⟨a0, e0, w0⟩ := str_open Try.underlying9 h0'
  injection e0 with e0 _; subst e0
  obtain ⟨y1, h1⟩ := hf 1 _ rfl
  have h1' : DataW.trod enc Try.prog w base sp held m 3 [z1] = some y1 := h1
  obtain ⟨a1, e1, w1⟩ := int_open Try.underlying3 h1'
  injection e1 with e1 _; subst e1
  obtain ⟨y2, h2⟩ := hf 2 _ rfl
  have h2' : DataW.trod enc Try.prog w base sp held m 44 [z2, z3, z4] = some y2 := h2
  obtain ⟨a2, o2, w2⟩ := open44 m _ _ h2'
  obtain ⟨A2_2, c2_2, e2, lc2_2, g2_2⟩ := o2
  obtain ⟨rfl, rfl, rfl⟩ := (by simpa using e2 : z2 = .int .i64 a2.f0 ∧ z3 = .int .i64 a2.f1 ∧ z4 = .slice A2_2 a2.f2.length c2_2)
  exact ⟨⟨a0, a1, a2⟩, ⟨A2_2, c2_2, rfl, lc2_2, g2_2⟩, ⟨w0, w1, w2⟩⟩
end Go.Proofs.Ytfhgoebgnilfaaa.I
