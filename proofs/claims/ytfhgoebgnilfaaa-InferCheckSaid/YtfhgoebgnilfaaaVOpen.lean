/- How data that came in is laid open: for kinds of any program. -/
import Derived.Test.YtfhgoebgnilfaaaWWords
import Derived.ProofKit
import Derived.OpenShut
import Derived.ChangeOld
import Derived.WalkKit
namespace Go.Proofs.Ytfhgoebgnilfaaa.VOpen
open Go.RowKit Go.Proofs.YtfhgoebgnilfaaaW.PrintWords
set_option linter.unusedVariables false
set_option linter.unusedSimpArgs false
section
variable {H : Type} {enc : TypeId × Value → H} {P : Program} {w : World} {base : Nat} {sp : Nat → Bool} {held : Bool} {n : Nat} {t : TypeId} {cs : List Value} {x : DataW H × List MemPlace} {α : Type}

theorem list_of (len : Nat) (Q : Nat → α → Prop) (h : ∀ i, i < len → ∃ y, Q i y) : ∃ l : List α, l.length = len ∧ ∀ i y, l[i]? = some y → Q i y := by
  induction len with
  | zero => exact ⟨[], rfl, fun i y hy => by simp at hy⟩
  | succ k ih =>
    obtain ⟨l, hl, hq⟩ := ih (fun i hi => h i (by omega))
    obtain ⟨y, hy⟩ := h k (by omega)
    refine ⟨l ++ [y], by simp [hl], fun i z hz => ?_⟩
    rcases Nat.lt_or_ge i l.length with hi | hi
    · rw [List.getElem?_append_left hi] at hz
      exact hq i z hz
    · have he : i = l.length := by
        have := (List.getElem?_eq_some_iff.1 hz).1
        simp at this
        omega
      subst he
      have : y = z := by simpa using hz
      subst this
      rw [hl]
      exact hy

/-- A slice of elements of kind d. -/
theorem slice_open (d : Kd α) (Wf : α → Prop) {e : TypeId} (ht : P.underlying t = some (.slice e)) (hc : P.cellsOf e = d.sz)
    (ih : ∀ m, m < n → ∀ cs x, DataW.trod enc P w base sp held m e cs = some x → ∃ y, d.K w y cs ∧ Wf y)
    (h : DataW.trod enc P w base sp held n t cs = some x) :
    ∃ A c l, cs = [.slice A l.length c] ∧ l.length ≤ c ∧ d.C w A l.length l ∧ l.length ≤ 9223372036854775807 ∧ ∀ y ∈ l, Wf y := by
  rcases DataW.trod_slice ht h with ⟨rfl, _⟩ | ⟨a, len, cap, elems, rest, m, rfl, rfl, _, hb, hl, hm, hel, hat, _⟩
  · exact ⟨none, 0, [], rfl, Nat.le_refl _, Kd.C_nil d w, by simp, fun y hy => by simp at hy⟩
  · obtain ⟨l, hll, hq⟩ := list_of len (fun i y => Wf y ∧ ∃ csi, csi.length = d.sz ∧ d.K w y csi ∧ ∀ j u, csi[j]? = some u → w.cell? (a.add (i * d.sz + j)) = some u) (fun i hi => by
      have h1 := hat i hi
      rw [List.getElem?_eq_getElem (by omega : i < elems.length), Option.bind_eq_some_iff] at h1
      obtain ⟨csi, h2, h3⟩ := h1
      obtain ⟨y, hk, hw⟩ := ih m (by omega) csi _ h3
      refine ⟨y, hw, csi, d.K_len hk, hk, fun j u hu => ?_⟩
      have hlen := d.K_len hk
      have hj : j < csi.length := (List.getElem?_eq_some_iff.1 hu).1
      unfold World.cells? at h2
      split at h2
      · have h4 := mapM_some_get h2 j j (by rw [hc, ← hlen]; simp [hj])
        rw [hu] at h4
        rw [← Addr.add_add, ← hc]
        exact h4
      · cases h2)
    refine ⟨some a, cap, l, by rw [hll], by omega, ⟨rfl, by simp only [maxLen] at hm; omega, fun _ => ⟨a, rfl, fun j p hj => ?_⟩⟩, by simp only [maxLen] at hm; omega, fun y hy => ?_⟩
    · obtain ⟨_, csi, h1, h2, h3⟩ := hq j p hj
      exact ⟨csi, h1, h2, h3⟩
    · obtain ⟨i, hi, rfl⟩ := List.getElem_of_mem hy
      exact (hq i _ (List.getElem?_eq_getElem hi)).1

theorem int_open {k : IntKind} (ht : P.underlying t = some (.int k)) (h : DataW.trod enc P w base sp held n t cs = some x) : ∃ a, cs = [.int k a] ∧ (Lit.int k a).wf = true := by
  obtain ⟨a, h1, _, h2⟩ := DataW.trod_int ht h
  exact ⟨a, h1, h2⟩
theorem bool_open (ht : P.underlying t = some .bool) (h : DataW.trod enc P w base sp held n t cs = some x) : ∃ a, cs = [.bool a] := by
  obtain ⟨a, h1, _⟩ := DataW.trod_bool ht h
  exact ⟨a, h1⟩
theorem str_open (ht : P.underlying t = some .string) (h : DataW.trod enc P w base sp held n t cs = some x) : ∃ a : ByteArray, cs = [.string a] ∧ a.size ≤ 9223372036854775807 := by
  obtain ⟨a, h1, _, h2⟩ := DataW.trod_string ht h
  exact ⟨a, h1, by simpa [maxLen] using h2⟩
/-- A field's part of a struct. -/
theorem field_open {fs : Array Field} (ht : P.underlying t = some (.struct fs)) (h : DataW.trod enc P w base sp held n t cs = some x) :
    ∃ m, n = m + 1 ∧ cs.length = P.cellsOf t ∧ ∀ (i : Nat) (f : Field), fs[i]? = some f → ∃ y, DataW.trod enc P w base sp held m f.type ((cs.drop f.offset).take (P.cellsOf f.type)) = some y := by
  obtain ⟨xs, m, h1, _, h3, h4, h5⟩ := DataW.trod_struct ht h
  refine ⟨m, h1, h3, fun i f hf => ?_⟩
  have h6 := h5 i f hf
  have hi : i < xs.length := by rw [h4]; exact (Array.getElem?_eq_some_iff.1 hf).1
  rw [List.getElem?_eq_getElem hi] at h6
  exact ⟨_, h6⟩
end
end Go.Proofs.Ytfhgoebgnilfaaa.VOpen
