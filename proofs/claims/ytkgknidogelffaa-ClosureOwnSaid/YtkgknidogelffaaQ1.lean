/- Texts of this session's proof, laid together: I0, VOpen, IOT, IJ, IP5, IZ0, IMj, IMq, IMr, IMs, IO2, I9, IO3. -/
import Derived.Test.YtkgknidogelffaaProg
import Derived.Below
import Derived.Deep.Draws
import Derived.Deep.AppendLies
import Derived.Maps.AppendAt
import Derived.OwnWalk
import Derived.Laws.BytesArg
import Derived.Laws.MakeOwn
import Derived.Laws.OwnMore
import Derived.Deep.OwnRows
import Derived.Tactics
import Derived.Lib.ConvBytes
import Derived.Laws.Slices
import Derived.WalkKit
import Derived.KernelRfl
import Derived.RowKit3
import Derived.Deep.LoopGhost
import Derived.Deep.QuietTactic
import Derived.BigQuiet
import Derived.WideLaws
import Derived.Deep.DeepCutAuto
import Derived.Deep.CutBlock
import Derived.Deep.RegionHeld3
import Derived.Laws.Rows
import Derived.Lib.AppendStr
import Derived.ArgAppend
import Derived.Laws.IdiomCopy
import Derived.OrdersHeld
import Derived.Laws.BitsLemmas
import Derived.RowKit
import Derived.ProofKit
import Derived.OpenShut
import Derived.ChangeOld
import Derived.Deep.RegionLaw
import Derived.Test.YtkgknidogelffaaQ0
namespace Go.Proofs.Ytkgknidogelffaa.I
open Go.RowKit Go.Proofs.YtkgknidogelffaaW.PrintWords Go.Proofs.YtkgknidogelffaaW.PrintLast Go.Proofs.YtkgknidogelffaaW.PrintMore
attribute [local go_sem] max2_int min2_int max_two min_two max_three min_three max_four min_four   -- for this text's walks alone
set_option linter.unusedVariables false
set_option linter.unusedSimpArgs false
theorem info41 : (Try.prog.info? 41).map (fun i => (i.zero, i.size, i.bytes)) = some (some (.agg #[(.string ⟨#[]⟩), (.slice none 0 0), (.int .i64 0), (.int .i64 0), (.slice none 0 0)]), 5, 80) := by kernel_rfl
theorem k84_mk (w : World) (x : S84)  : k84.K w x [.string x.f0, .int .i64 x.f1] := ⟨[.string x.f0], [.int .i64 x.f1], rfl, rfl, rfl⟩
end Go.Proofs.Ytkgknidogelffaa.I
namespace Go.Proofs.Ytkgknidogelffaa.VOpen
open Go.RowKit Go.Proofs.YtkgknidogelffaaW.PrintWords
set_option linter.unusedVariables false
set_option linter.unusedSimpArgs false
section
variable {H : Type} {enc : TypeId × Value → H} {P : Program} {w : World} {base : Nat} {sp : Nat → Bool} {held : Bool} {n : Nat} {t : TypeId} {cs : List Value} {x : DataW H × List MemPlace} {α : Type}
theorem list_of (len : Nat) (Q : Nat → α → Prop) (h : ∀ i, i < len → ∃ y, Q i y) : ∃ l : List α, l.length = len ∧ ∀ i y, l[i]? = some y → Q i y := by
  induction len with
  | zero => exact ⟨[], rfl, fun i y hy => by simp at hy⟩
  | succ k ih =>
    obtain ⟨l, hl, hq⟩ := ih (fun i hi => h i (by omega))
    obtain ⟨y, hy⟩ := h k (by omega)
    refine ⟨l ++ [y], by simp [hl], fun i z hz => ?_⟩
    rcases Nat.lt_or_ge i l.length with hi | hi
    · rw [List.getElem?_append_left hi] at hz
      exact hq i z hz
    · have he : i = l.length := by
        have := (List.getElem?_eq_some_iff.1 hz).1
        simp at this
        omega
      subst he
      have : y = z := by simpa using hz
      subst this
      rw [hl]
      exact hy
theorem slice_open (d : Kd α) (Wf : α → Prop) {e : TypeId} (ht : P.underlying t = some (.slice e)) (hc : P.cellsOf e = d.sz)
    (ih : ∀ m, m < n → ∀ cs x, DataW.trod enc P w base sp held m e cs = some x → ∃ y, d.K w y cs ∧ Wf y)
    (h : DataW.trod enc P w base sp held n t cs = some x) :
    ∃ A c l, cs = [.slice A l.length c] ∧ l.length ≤ c ∧ d.C w A l.length l ∧ l.length ≤ 9223372036854775807 ∧ ∀ y ∈ l, Wf y := by
  rcases DataW.trod_slice ht h with ⟨rfl, _⟩ | ⟨a, len, cap, elems, rest, m, rfl, rfl, _, hb, hl, hm, hel, hat, _⟩
  · exact ⟨none, 0, [], rfl, Nat.le_refl _, Kd.C_nil d w, by simp, fun y hy => by simp at hy⟩
  · obtain ⟨l, hll, hq⟩ := list_of len (fun i y => Wf y ∧ ∃ csi, csi.length = d.sz ∧ d.K w y csi ∧ ∀ j u, csi[j]? = some u → w.cell? (a.add (i * d.sz + j)) = some u) (fun i hi => by
      have h1 := hat i hi
      rw [List.getElem?_eq_getElem (by omega : i < elems.length), Option.bind_eq_some_iff] at h1
      obtain ⟨csi, h2, h3⟩ := h1
      obtain ⟨y, hk, hw⟩ := ih m (by omega) csi _ h3
      refine ⟨y, hw, csi, d.K_len hk, hk, fun j u hu => ?_⟩
      have hlen := d.K_len hk
      have hj : j < csi.length := (List.getElem?_eq_some_iff.1 hu).1
      unfold World.cells? at h2
      split at h2
      · have h4 := mapM_some_get h2 j j (by rw [hc, ← hlen]; simp [hj])
        rw [hu] at h4
        rw [← Addr.add_add, ← hc]
        exact h4
      · cases h2)
    refine ⟨some a, cap, l, by rw [hll], by omega, ⟨rfl, by simp only [maxLen] at hm; omega, fun _ => ⟨a, rfl, fun j p hj => ?_⟩⟩, by simp only [maxLen] at hm; omega, fun y hy => ?_⟩
    · obtain ⟨_, csi, h1, h2, h3⟩ := hq j p hj
      exact ⟨csi, h1, h2, h3⟩
    · obtain ⟨i, hi, rfl⟩ := List.getElem_of_mem hy
      exact (hq i _ (List.getElem?_eq_getElem hi)).1
theorem int_open {k : IntKind} (ht : P.underlying t = some (.int k)) (h : DataW.trod enc P w base sp held n t cs = some x) : ∃ a, cs = [.int k a] ∧ (Lit.int k a).wf = true := by
  obtain ⟨a, h1, _, h2⟩ := DataW.trod_int ht h
  exact ⟨a, h1, h2⟩
theorem str_open (ht : P.underlying t = some .string) (h : DataW.trod enc P w base sp held n t cs = some x) : ∃ a : ByteArray, cs = [.string a] ∧ a.size ≤ 9223372036854775807 := by
  obtain ⟨a, h1, _, h2⟩ := DataW.trod_string ht h
  exact ⟨a, h1, by simpa [maxLen] using h2⟩
theorem field_open {fs : Array Field} (ht : P.underlying t = some (.struct fs)) (h : DataW.trod enc P w base sp held n t cs = some x) :
    ∃ m, n = m + 1 ∧ cs.length = P.cellsOf t ∧ ∀ (i : Nat) (f : Field), fs[i]? = some f → ∃ y, DataW.trod enc P w base sp held m f.type ((cs.drop f.offset).take (P.cellsOf f.type)) = some y := by
  obtain ⟨xs, m, h1, _, h3, h4, h5⟩ := DataW.trod_struct ht h
  refine ⟨m, h1, h3, fun i f hf => ?_⟩
  have h6 := h5 i f hf
  have hi : i < xs.length := by rw [h4]; exact (Array.getElem?_eq_some_iff.1 hf).1
  rw [List.getElem?_eq_getElem hi] at h6
  exact ⟨_, h6⟩
end
end Go.Proofs.Ytkgknidogelffaa.VOpen
namespace Go.Proofs.Ytkgknidogelffaa.I
open Go.RowKit Go.Proofs.YtkgknidogelffaaW.PrintWords Go.Proofs.Ytkgknidogelffaa.VOpen
set_option linter.unusedVariables false
set_option linter.unusedSimpArgs false
def wf84 (x : S84) : Prop := x.f0.size ≤ 9223372036854775807 ∧ (Lit.int .i64 x.f1).wf = true
def Opened84 (w : World) (cs : List Value) (y : S84) : Prop := cs = [.string y.f0, .int .i64 y.f1]
theorem K84 {w : World} {cs : List Value} (h : ∃ y, Opened84 w cs y ∧ wf84 y) : ∃ y, k84.K w y cs ∧ wf84 y := by
  obtain ⟨y, h, hw⟩ := h
  obtain rfl := h
  exact ⟨y, k84_mk w y , hw⟩
set_option maxRecDepth 10000 in
theorem open84 {H : Type} {enc : TypeId × Value → H} {w : World} {base : Nat} {sp : Nat → Bool} {held : Bool} (n : Nat) : ∀ (cs : List Value) (x : DataW H × List MemPlace), DataW.trod enc Try.prog w base sp held n 84 cs = some x → ∃ y : S84, Opened84 w cs y ∧ wf84 y := by
  intro cs x h
  obtain ⟨m, rfl, hl, hf⟩ := field_open Try.underlying84 h
  have hl2 : cs.length = 2 := hl.trans (by kernel_rfl)
  obtain ⟨z0, z1, rfl⟩ : ∃ z0 z1, cs = [z0, z1] := by
    match cs, hl2 with
    | [z0, z1], _ => exact ⟨z0, z1, rfl⟩
  clear hl hl2 h
  obtain ⟨y0, h0⟩ := hf 0 _ rfl
  have h0' : DataW.trod enc Try.prog w base sp held m 9 [z0] = some y0 := h0
  obtain ⟨a0, e0, w0⟩ := str_open Try.underlying9 h0'
  injection e0 with e0 _; subst e0
  obtain ⟨y1, h1⟩ := hf 1 _ rfl
  have h1' : DataW.trod enc Try.prog w base sp held m 3 [z1] = some y1 := h1
  obtain ⟨a1, e1, w1⟩ := int_open Try.underlying3 h1'
  injection e1 with e1 _; subst e1
  exact ⟨⟨a0, a1⟩, rfl, ⟨w0, w1⟩⟩
mutual
def wf39 : S39 → Prop
  | ⟨f0⟩ => f0.length ≤ 9223372036854775807 ∧ wf39L f0
def wf39L : List S39 → Prop
  | [] => True
  | x :: xs => wf39 x ∧ wf39L xs
end
theorem wf39L_of : ∀ {l : List S39}, (∀ y, y ∈ l → wf39 y) → wf39L l
  | [], _ => trivial
  | x :: xs, h => ⟨h x (by simp), wf39L_of (fun y hy => h y (by simp [hy]))⟩
def Opened39 (w : World) (cs : List Value) (y : S39) : Prop := ∃ A0 c0, cs = [.slice A0 y.f0.length c0] ∧ y.f0.length ≤ c0 ∧ Kd.C k39 w A0 y.f0.length y.f0
theorem K39 {w : World} {cs : List Value} (h : ∃ y, Opened39 w cs y ∧ wf39 y) : ∃ y, k39.K w y cs ∧ wf39 y := by
  obtain ⟨y, h, hw⟩ := h
  obtain ⟨A0, c0, rfl, l0, g0⟩ := h
  exact ⟨y, k39_mk w y l0 g0, hw⟩
set_option maxRecDepth 10000 in
theorem open39 {H : Type} {enc : TypeId × Value → H} {w : World} {base : Nat} {sp : Nat → Bool} {held : Bool} (n : Nat) : ∀ (cs : List Value) (x : DataW H × List MemPlace), DataW.trod enc Try.prog w base sp held n 39 cs = some x → ∃ y : S39, Opened39 w cs y ∧ wf39 y := by
  induction n using Nat.strongRecOn with
  | _ n ih =>
    intro cs x h
    obtain ⟨m, rfl, hl, hf⟩ := field_open Try.underlying39 h
    have hl2 : cs.length = 1 := hl.trans (by kernel_rfl)
    obtain ⟨z0, rfl⟩ : ∃ z0, cs = [z0] := by
      match cs, hl2 with
      | [z0], _ => exact ⟨z0, rfl⟩
    clear hl hl2 h
    obtain ⟨y0, h0⟩ := hf 0 _ rfl
    have h0' : DataW.trod enc Try.prog w base sp held m 37 [z0] = some y0 := h0
    obtain ⟨A0_, c0_, a0, e0, lc0, g0, hl0, hw0⟩ := slice_open k39 (fun y_ => wf39 y_) Try.underlying37 (by kernel_rfl) (fun m_ hm_ cs_ x_ h_ => K39 (ih m_ (by omega) cs_ x_ h_)) h0'
    injection e0 with e0 _; subst e0
    exact ⟨⟨a0⟩, ⟨A0_, c0_, rfl, lc0, g0⟩, ⟨hl0, wf39L_of hw0⟩⟩
mutual
def wf36 : S36 → Prop
  | ⟨f0, f1, f2⟩ => (Lit.int .i64 f0).wf = true ∧ (Lit.int .i64 f1).wf = true ∧ f2.length ≤ 9223372036854775807 ∧ wf36L f2
def wf36L : List S36 → Prop
  | [] => True
  | x :: xs => wf36 x ∧ wf36L xs
end
theorem wf36L_of : ∀ {l : List S36}, (∀ y, y ∈ l → wf36 y) → wf36L l
  | [], _ => trivial
  | x :: xs, h => ⟨h x (by simp), wf36L_of (fun y hy => h y (by simp [hy]))⟩
def Opened36 (w : World) (cs : List Value) (y : S36) : Prop := ∃ A2 c2, cs = [.int .i64 y.f0, .int .i64 y.f1, .slice A2 y.f2.length c2] ∧ y.f2.length ≤ c2 ∧ Kd.C k36 w A2 y.f2.length y.f2
theorem K36 {w : World} {cs : List Value} (h : ∃ y, Opened36 w cs y ∧ wf36 y) : ∃ y, k36.K w y cs ∧ wf36 y := by
  obtain ⟨y, h, hw⟩ := h
  obtain ⟨A2, c2, rfl, l2, g2⟩ := h
  exact ⟨y, k36_mk w y l2 g2, hw⟩
set_option maxRecDepth 10000 in
theorem open36 {H : Type} {enc : TypeId × Value → H} {w : World} {base : Nat} {sp : Nat → Bool} {held : Bool} (n : Nat) : ∀ (cs : List Value) (x : DataW H × List MemPlace), DataW.trod enc Try.prog w base sp held n 36 cs = some x → ∃ y : S36, Opened36 w cs y ∧ wf36 y := by
  induction n using Nat.strongRecOn with
  | _ n ih =>
    intro cs x h
    obtain ⟨m, rfl, hl, hf⟩ := field_open Try.underlying36 h
    have hl2 : cs.length = 3 := hl.trans (by kernel_rfl)
    obtain ⟨z0, z1, z2, rfl⟩ : ∃ z0 z1 z2, cs = [z0, z1, z2] := by
      match cs, hl2 with
      | [z0, z1, z2], _ => exact ⟨z0, z1, z2, rfl⟩
    clear hl hl2 h
    obtain ⟨y0, h0⟩ := hf 0 _ rfl
    have h0' : DataW.trod enc Try.prog w base sp held m 3 [z0] = some y0 := h0
    obtain ⟨a0, e0, w0⟩ := int_open Try.underlying3 h0'
    injection e0 with e0 _; subst e0
    obtain ⟨y1, h1⟩ := hf 1 _ rfl
    have h1' : DataW.trod enc Try.prog w base sp held m 3 [z1] = some y1 := h1
    obtain ⟨a1, e1, w1⟩ := int_open Try.underlying3 h1'
    injection e1 with e1 _; subst e1
    obtain ⟨y2, h2⟩ := hf 2 _ rfl
    have h2' : DataW.trod enc Try.prog w base sp held m 34 [z2] = some y2 := h2
    obtain ⟨A2_, c2_, a2, e2, lc2, g2, hl2, hw2⟩ := slice_open k36 (fun y_ => wf36 y_) Try.underlying34 (by kernel_rfl) (fun m_ hm_ cs_ x_ h_ => K36 (ih m_ (by omega) cs_ x_ h_)) h2'
    injection e2 with e2 _; subst e2
    exact ⟨⟨a0, a1, a2⟩, ⟨A2_, c2_, rfl, lc2, g2⟩, ⟨w0, w1, hl2, wf36L_of hw2⟩⟩
def wf41 (x : S41) : Prop := x.f0.size ≤ 9223372036854775807 ∧ wf39 x.f1 ∧ wf36 x.f2
def Opened41 (w : World) (cs : List Value) (y : S41) : Prop := ∃ A1 c1 A4 c4, cs = [.string y.f0, .slice A1 y.f1.f0.length c1, .int .i64 y.f2.f0, .int .i64 y.f2.f1, .slice A4 y.f2.f2.length c4] ∧ y.f1.f0.length ≤ c1 ∧ Kd.C k39 w A1 y.f1.f0.length y.f1.f0 ∧ y.f2.f2.length ≤ c4 ∧ Kd.C k36 w A4 y.f2.f2.length y.f2.f2
theorem K41 {w : World} {cs : List Value} (h : ∃ y, Opened41 w cs y ∧ wf41 y) : ∃ y, k41.K w y cs ∧ wf41 y := by
  obtain ⟨y, h, hw⟩ := h
  obtain ⟨A1, c1, A4, c4, rfl, l1, g1, l4, g4⟩ := h
  exact ⟨y, k41_mk w y l1 g1 l4 g4, hw⟩
set_option maxRecDepth 10000 in
theorem open41 {H : Type} {enc : TypeId × Value → H} {w : World} {base : Nat} {sp : Nat → Bool} {held : Bool} (n : Nat) : ∀ (cs : List Value) (x : DataW H × List MemPlace), DataW.trod enc Try.prog w base sp held n 41 cs = some x → ∃ y : S41, Opened41 w cs y ∧ wf41 y := by
  intro cs x h
  obtain ⟨m, rfl, hl, hf⟩ := field_open Try.underlying41 h
  have hl2 : cs.length = 5 := hl.trans (by kernel_rfl)
  obtain ⟨z0, z1, z2, z3, z4, rfl⟩ : ∃ z0 z1 z2 z3 z4, cs = [z0, z1, z2, z3, z4] := by
    match cs, hl2 with
    | [z0, z1, z2, z3, z4], _ => exact ⟨z0, z1, z2, z3, z4, rfl⟩
  clear hl hl2 h
  obtain ⟨y0, h0⟩ := hf 0 _ rfl
  have h0' : DataW.trod enc Try.prog w base sp held m 9 [z0] = some y0 := h0
  obtain ⟨a0, e0, w0⟩ := str_open Try.underlying9 h0'
  injection e0 with e0 _; subst e0
  obtain ⟨y1, h1⟩ := hf 1 _ rfl
  have h1' : DataW.trod enc Try.prog w base sp held m 39 [z1] = some y1 := h1
  obtain ⟨a1, o1, w1⟩ := open39 m _ _ h1'
  obtain ⟨A1_0, c1_0, e1, lc1_0, g1_0⟩ := o1
  obtain rfl := (by simpa using e1 : z1 = .slice A1_0 a1.f0.length c1_0)
  obtain ⟨y2, h2⟩ := hf 2 _ rfl
  have h2' : DataW.trod enc Try.prog w base sp held m 36 [z2, z3, z4] = some y2 := h2
  obtain ⟨a2, o2, w2⟩ := open36 m _ _ h2'
  obtain ⟨A2_2, c2_2, e2, lc2_2, g2_2⟩ := o2
  obtain ⟨rfl, rfl, rfl⟩ := (by simpa using e2 : z2 = .int .i64 a2.f0 ∧ z3 = .int .i64 a2.f1 ∧ z4 = .slice A2_2 a2.f2.length c2_2)
  exact ⟨⟨a0, a1, a2⟩, ⟨A1_0, c1_0, A2_2, c2_2, rfl, lc1_0, g1_0, lc2_2, g2_2⟩, ⟨w0, w1, w2⟩⟩
def wf25 (x : S25) : Prop := x.f0.length ≤ 9223372036854775807 ∧ (∀ y_, y_ ∈ x.f0 → wf84 y_) ∧ x.f1.length ≤ 9223372036854775807 ∧ (∀ y_, y_ ∈ x.f1 → wf41 y_)
def Opened25 (w : World) (cs : List Value) (y : S25) : Prop := ∃ A0 c0 A1 c1, cs = [.slice A0 y.f0.length c0, .slice A1 y.f1.length c1] ∧ y.f0.length ≤ c0 ∧ Kd.C k84 w A0 y.f0.length y.f0 ∧ y.f1.length ≤ c1 ∧ Kd.C k41 w A1 y.f1.length y.f1
set_option maxRecDepth 10000 in
theorem open25 {H : Type} {enc : TypeId × Value → H} {w : World} {base : Nat} {sp : Nat → Bool} {held : Bool} (n : Nat) : ∀ (cs : List Value) (x : DataW H × List MemPlace), DataW.trod enc Try.prog w base sp held n 25 cs = some x → ∃ y : S25, Opened25 w cs y ∧ wf25 y := by
  intro cs x h
  obtain ⟨m, rfl, hl, hf⟩ := field_open Try.underlying25 h
  have hl2 : cs.length = 2 := hl.trans (by kernel_rfl)
  obtain ⟨z0, z1, rfl⟩ : ∃ z0 z1, cs = [z0, z1] := by
    match cs, hl2 with
    | [z0, z1], _ => exact ⟨z0, z1, rfl⟩
  clear hl hl2 h
  obtain ⟨y0, h0⟩ := hf 0 _ rfl
  have h0' : DataW.trod enc Try.prog w base sp held m 22 [z0] = some y0 := h0
  obtain ⟨A0_, c0_, a0, e0, lc0, g0, hl0, hw0⟩ := slice_open k84 (fun y_ => wf84 y_) Try.underlying22 (by kernel_rfl) (fun m_ hm_ cs_ x_ h_ => K84 (open84 m_ cs_ x_ h_)) h0'
  injection e0 with e0 _; subst e0
  obtain ⟨y1, h1⟩ := hf 1 _ rfl
  have h1' : DataW.trod enc Try.prog w base sp held m 23 [z1] = some y1 := h1
  obtain ⟨A1_, c1_, a1, e1, lc1, g1, hl1, hw1⟩ := slice_open k41 (fun y_ => wf41 y_) Try.underlying23 (by kernel_rfl) (fun m_ hm_ cs_ x_ h_ => K41 (open41 m_ cs_ x_ h_)) h1'
  injection e1 with e1 _; subst e1
  exact ⟨⟨a0, a1⟩, ⟨A0_, c0_, A1_, c1_, rfl, lc0, g0, lc1, g1⟩, ⟨hl0, hw0, hl1, hw1⟩⟩
end Go.Proofs.Ytkgknidogelffaa.I
namespace Go.Proofs.Ytkgknidogelffaa.I
open Go.RowKit Go.Proofs.YtkgknidogelffaaW.PrintWords Go.Proofs.YtkgknidogelffaaW.PrintLast Go.Proofs.YtkgknidogelffaaW.PrintMore
theorem k36_heap : Kd.Heap k36 := Kd.heap_fix (fun _ h_ => Kd.heap_iso _ (Kd.heap_pair (Kd.heap_int .i64) (Kd.heap_pair (Kd.heap_int .i64) (Kd.heap_slice 36 h_))))
theorem k84_heap : Kd.Heap k84 := Kd.heap_iso _ (Kd.heap_pair Kd.heap_string (Kd.heap_int .i64))
theorem k41_heap : Kd.Heap k41 := Kd.heap_iso _ (Kd.heap_pair Kd.heap_string (Kd.heap_pair k39_heap k36_heap))
end Go.Proofs.Ytkgknidogelffaa.I
namespace Go.Proofs.Ytkgknidogelffaa.I
open Go.RowKit Go.Proofs.YtkgknidogelffaaW.PrintWords Go.Proofs.YtkgknidogelffaaW.PrintLast Go.Proofs.YtkgknidogelffaaW.PrintMore
set_option linter.unusedVariables false
set_option maxRecDepth 100000
set_option linter.unusedSimpArgs false
instance : Inhabited Clo := ⟨.mk ⟨0, 0, []⟩ []⟩
theorem goM_total {l0 : List S84} {l1 : List S41} (hs : schB l0 l1 = true) (fuel : Int) : ∀ (F : Nat) (S : Nat) (n used : Int) (c : Clo) (st : List Clo), Snd l0 l1 c st → n ≤ fuel → fuel - n ≤ F → SizeOf.sizeOf c ≤ S → ∃ k r, goM l1 fuel k n used c st = some r := by
  intro F
  induction F with
  | zero =>
    intro S
    induction S with
    | zero => intro n used c st h hn hF hS; cases c; simp at hS
    | succ S ih =>
      intro n used c st h hn hF hS
      by_cases hu : 1048576 < used
      · exact ⟨1, _, by rw [goM, if_pos hu]⟩
      by_cases h0 : c.t.f0 = 0
      · obtain ⟨_, _, h1, _, h2⟩ := snd_var h h0
        obtain ⟨k, r, hk⟩ := ih n (used + newC c.t.f2) _ _ h1 hn hF (by omega)
        exact ⟨k + 1, r, by rw [goM, if_neg hu, if_pos h0]; exact hk⟩
      by_cases h1 : c.t.f0 = 1
      · exact ⟨1, _, by rw [goM, if_neg hu, if_neg h0, if_pos h1, if_pos (by omega)]⟩
      · exact ⟨1, _, by rw [goM, if_neg hu, if_neg h0, if_neg h1]⟩
  | succ F ihF =>
    intro S
    induction S with
    | zero => intro n used c st h hn hF hS; cases c; simp at hS
    | succ S ih =>
      intro n used c st h hn hF hS
      by_cases hu : 1048576 < used
      · exact ⟨1, _, by rw [goM, if_pos hu]⟩
      by_cases h0 : c.t.f0 = 0
      · obtain ⟨_, _, h1, _, h2⟩ := snd_var h h0
        obtain ⟨k, r, hk⟩ := ih n (used + newC c.t.f2) _ _ h1 hn hF (by omega)
        exact ⟨k + 1, r, by rw [goM, if_neg hu, if_pos h0]; exact hk⟩
      by_cases h1 : c.t.f0 = 1
      · by_cases hf : n = fuel
        · exact ⟨1, _, by rw [goM, if_neg hu, if_neg h0, if_pos h1, if_pos hf]⟩
        · obtain ⟨_, _, hl, hsn, _⟩ := snd_fun hs h h1
          obtain ⟨k, r, hk⟩ := ihF _ (n + 1) (used + newC c.t.f2 + 1) _ _ hsn (by omega) (by omega) (Nat.le_refl _)
          refine ⟨k + 1, r, ?_⟩
          rw [goM, if_neg hu, if_neg h0, if_pos h1, if_neg hf, List.take_of_length_le (by omega), List.drop_eq_nil_of_le (by omega)]
          exact hk
      · exact ⟨1, _, by rw [goM, if_neg hu, if_neg h0, if_neg h1]⟩
end Go.Proofs.Ytkgknidogelffaa.I
namespace Go.Proofs.Ytkgknidogelffaa.I
open Go.RowKit Go.Proofs.YtkgknidogelffaaW.PrintWords Go.Proofs.YtkgknidogelffaaW.PrintLast Go.Proofs.YtkgknidogelffaaW.PrintMore
attribute [local go_sem] max2_int min2_int max_two min_two max_three min_three max_four min_four
set_option linter.unusedVariables false
set_option maxRecDepth 100000
set_option linter.unusedSimpArgs false
set_option maxHeartbeats 8000000 in
theorem tcopy_calls (N : Nat) : ∀ (a b : Int) (l : List S36) (A : Option Addr) (c : Nat) (w : World), SizeOf.sizeOf l < N → tcntL l ≤ 1000000 → Kd.C k36 w A l.length l → l.length ≤ c →
    Calls Try.prog 30 #[.agg #[.int .i64 a, .int .i64 b, .slice A l.length c]] w fun e w' => ∃ v, e = .returned (.agg #[.int .i64 a, .int .i64 b, v]) ∧ Kd.R k36 36 w' w.heap.size (fun _ => True) v l ∧ Below w.heap.size w w' := by
  have hu36 := Try.underlying36
  have hu34 := Try.underlying34
  induction N with
  | zero => intro a b l A c w hN; omega
  | succ N ih =>
  intro a b l A c w hN ht hr hc
  have hlen : l.length ≤ 9223372036854775807 := hr.2.1
  have HR := Az.mk hr
  have HC := Az.mk hc
  have HN := Az.mk hN
  have HT := Az.mk ht
  have HL := Az.mk (show l.length ≤ 1000000 from by have := tcntL_ge l; omega)
  have IH := Az.mk ih
  clear hr hc hN ht ih
  go_enter Try.func30, Try.ntmps30
  go_wp2_with (first
    | ((with_reducible refine gate_dst (N := 1) rfl ?_)
       refine box_event ?hg (N := 1) ?hd (cs := #[.int .i64 a, .int .i64 b, .slice A l.length c]) (t := 36) ?hr ?_
       (case hd => rfl)
       (case hg => rfl)
       (case hr => first | (go_simp; done) | (go_simp; rfl))
       intro g1 hg1 w1 hbox hb1
       have S1 := Az.mk hbox
       have HB1 := Az.mk hb1
       clear hbox hb1 hg1)
    | ((with_reducible refine gate_dst (N := 2) rfl ?_)
       refine box_event ?hg (N := 2) ?hd (cs := #[.int .i64 0, .int .i64 0, .slice none 0 0]) (t := 36) ?hr ?_
       (case hd => rfl)
       (case hg => rfl)
       (case hr => first | (go_simp; done) | (go_simp; rfl))
       intro g2 hg2 w2 hbox hb2
       have S2 := Az.mk hbox
       have S12 := Az.mk (bkB S1.out hb2)
       have HB2 := Az.mk (bst HB1.out hb2)
       have HG2 := Az.mk (show w.heap.size ≤ g2 from by have := HB1.out.size; omega)
       have e0 : w2.cell? ⟨g1, 0, none⟩ = some (.int .i64 a) := (blk_cell S12.out 0).trans rfl
       have e1 : w2.cell? ⟨g1, 1, none⟩ = some (.int .i64 b) := (blk_cell S12.out 1).trans rfl
       clear hbox hb2 hg2 S1)
    | ((with_reducible refine gate_dst (N := 3) rfl ?_)
       refine box_event ?hg (N := 3) ?hd (cs := #[.int .i64 0, .int .i64 0, .slice none 0 0]) (t := 36) ?hr ?_
       (case hd => rfl)
       (case hg => rfl)
       (case hr => first | (go_simp; done) | (go_simp; rfl))
       intro g3 hg3 w3 hbox hb3
       have hgw : w2.heap.size ≤ g3 := by omega
       have Hbw := Az.mk (bset (g := g3) (j := 2) (v := .slice none 0 0) (bset (g := g3) (j := 1) (v := .int .i64 b) (bset (g := g3) (j := 0) (v := .int .i64 a) hb3 hgw) hgw) hgw)
       have S3 := Az.mk (blk_put (cs' := #[.int .i64 a, .int .i64 b, .slice none 0 0]) (blk_put (cs' := #[.int .i64 a, .int .i64 b, .slice none 0 0]) (blk_put (cs' := #[.int .i64 a, .int .i64 0, .slice none 0 0]) hbox 0 (.int .i64 a) rfl) 1 (.int .i64 b) rfl) 2 (.slice none 0 0) rfl)
       have HG3 := Az.mk (show w.heap.size ≤ g3 from by have := HB2.out.size; omega)
       have H23 := Az.mk (show g2 ≠ g3 from by have := blk_lt S2.out; omega)
       have e2 : (((w3.setCell ⟨g3, 0, none⟩ (.int .i64 a)).setCell ⟨g3, 1, none⟩ (.int .i64 b)).setCell ⟨g3, 2, none⟩ (.slice none 0 0)).cell? ⟨g1, 2, none⟩ = some (.slice A l.length c) := (blk_cell (bkB S12.out Hbw.out) 2).trans rfl
       have hcz0 := (blk_cell hbox 0).trans rfl
       have hfz0 := bkF hbox 0
       have hcz1 := (blk_cell hbox 1).trans rfl
       have hfz1 := bkF hbox 1
       have hcz2 := (blk_cell hbox 2).trans rfl
       have hfz2 := bkF hbox 2
       clear hbox hb3 hg3 hgw e0 e1))
  clear hcz0 hcz1 hcz2 hfz0 hfz1 hfz2 e2
  generalize (((w3.setCell ⟨g3, 0, none⟩ (.int .i64 a)).setCell ⟨g3, 1, none⟩ (.int .i64 b)).setCell ⟨g3, 2, none⟩ (.slice none 0 0)) = w4 at *
  have HB4 := Az.mk (bst HB2.out Hbw.out)
  have S24 := Az.mk (bkB S2.out Hbw.out)
  clear S12 S2 HB1 HB2 Hbw
  go_loopg [14] l.length (fun kq v14 wr => ∃ (i : Nat) (Ax : Option Addr) (cx : Nat), v14 = .int .i64 (i : Int) ∧ Az (i + kq = l.length) ∧ Az (Kd.R k36 36 wr w.heap.size (fun k => k ≠ g2 ∧ k ≠ g3) (.slice Ax i cx) (l.take i)) ∧ Az (wr.heap[g3]? = some (.cells #[.int .i64 a, .int .i64 b, .slice Ax i cx] 36 (0, 0))) ∧ Az (wr.heap[g2]? = some (.cells #[.int .i64 0, .int .i64 0, .slice none 0 0] 36 (0, 0))) ∧ Az (Below w.heap.size w wr))
  case atStart => exact ⟨0, none, 0, rfl, ⟨by omega⟩, ⟨Kd.R_nil _ _ _ _ _⟩, S3, S24, HB4⟩
  case round =>
    clear S3 S24 HB4
    obtain ⟨i, Ax, cx, rfl, Hi, HRx, S3, S2, HB⟩ := hrel
    by_cases hlt : i < l.length
    rotate_left
    · have hie : i = l.length := by have := Hi.out; omega
      subst hie
      have HRx' := HRx.out
      rw [List.take_length] at HRx'
      have HF := Az.mk HRx'
      have d0 : wr.cell? ⟨g3, 0, none⟩ = some (.int .i64 a) := (blk_cell S3.out 0).trans rfl
      have d1 : wr.cell? ⟨g3, 1, none⟩ = some (.int .i64 b) := (blk_cell S3.out 1).trans rfl
      have d2 : wr.cell? ⟨g3, 2, none⟩ = some (.slice Ax l.length cx) := (blk_cell S3.out 2).trans rfl
      have z0 : wr.cell? ⟨g2, 0, none⟩ = some (.int .i64 0) := (blk_cell S2.out 0).trans rfl
      have z1 : wr.cell? ⟨g2, 1, none⟩ = some (.int .i64 0) := (blk_cell S2.out 1).trans rfl
      have z2 : wr.cell? ⟨g2, 2, none⟩ = some (.slice none 0 0) := (blk_cell S2.out 2).trans rfl
      have f0 := bkF S2.out 0
      have f1 := bkF S2.out 1
      have f2 := bkF S2.out 2
      clear HRx' HRx Hi hlt
      go_wp2_with fail
      have Sz := blk_put (cs' := #[.int .i64 a, .int .i64 b, .slice Ax l.length cx]) (blk_put (cs' := #[.int .i64 a, .int .i64 b, .slice none 0 0]) (blk_put (cs' := #[.int .i64 a, .int .i64 0, .slice none 0 0]) S2.out 0 (.int .i64 a) rfl) 1 (.int .i64 b) rfl) 2 (.slice Ax l.length cx) rfl
      refine bodyPost_ret (results_cell_row rfl _ _ g2 36 #[.int .i64 a, .int .i64 b, .slice Ax l.length cx] (0, 0) _ rfl Sz Try.underlying36 rfl (by kernel_rfl)) rfl ?_
      exact ⟨_, rfl, Kd.R_mono (Kd.R_far (p := ⟨g2, 2, none⟩) (Kd.R_far (p := ⟨g2, 1, none⟩) (Kd.R_far (p := ⟨g2, 0, none⟩) HF.out (fun k hk => hk.1) (.int .i64 a)) (fun k hk => hk.1) (.int .i64 b)) (fun k hk => hk.1) (.slice Ax l.length cx)) (fun _ _ => trivial), bset (bset (bset HB.out HG2.out) HG2.out) HG2.out⟩
    cases gk with
    | zero => exact absurd Hi.out (by omega)
    | succ k1 =>
    obtain ⟨ad, A4, c4, he, hx2, hx3, hx4, hl4, hC4⟩ := at_T36 HR.out (i : Int) (by omega) (by omega)
    cases he
    replace hx2 := cell_up HB.out hx2
    replace hx3 := cell_up HB.out hx3
    replace hx4 := cell_up HB.out hx4
    rw [Int.toNat_natCast] at hx2 hx3 hx4
    have HC4 := Az.mk (Kd.C_below hC4 HB.out)
    have Hl4 := Az.mk hl4
    have HSN := Az.mk (take28_snoc hlt)
    have HSZ := Az.mk (show SizeOf.sizeOf (rd_T36 l (i : Int)).f2 < N from by have := rd_T36_mem l i hlt; have := HN.out; omega)
    have HTC := Az.mk (show tcntL (rd_T36 l (i : Int)).f2 ≤ 1000000 from by have := tcnt_child l i hlt; have := HT.out; omega)
    have Hlt := Az.mk hlt
    have q1 : (0 ≤ (i : Int)) = True := eq_true (by omega)
    have q2 : ((i : Int) < (l.length : Int)) = True := eq_true (by omega)
    have q3 : (i < l.length) = True := eq_true (by omega)
    clear hl4 hC4
    generalize rd_T36 l (i : Int) = x at *
    go_upto_region 5 with (
      (with_reducible refine gate_dst (N := 5) rfl ?_)
      refine box_event ?hg (N := 5) ?hd (cs := #[.int .i64 0, .int .i64 0, .slice none 0 0]) (t := 36) ?hr ?_
      (case hd => rfl)
      (case hg => rfl)
      (case hr => first | (go_simp; done) | (go_simp; rfl))
      intro gi hgi w6 hbox hbb
      have hgw : wr.heap.size ≤ gi := by omega
      have Hbw := Az.mk (bset (g := gi) (j := 2) (v := .slice A4 x.f2.length c4) (bset (g := gi) (j := 1) (v := .int .i64 x.f1) (bset (g := gi) (j := 0) (v := .int .i64 x.f0) hbb hgw) hgw) hgw)
      have Sgi := Az.mk (blk_put (cs' := #[.int .i64 x.f0, .int .i64 x.f1, .slice A4 x.f2.length c4]) (blk_put (cs' := #[.int .i64 x.f0, .int .i64 x.f1, .slice none 0 0]) (blk_put (cs' := #[.int .i64 x.f0, .int .i64 0, .slice none 0 0]) hbox 0 (.int .i64 x.f0) rfl) 1 (.int .i64 x.f1) rfl) 2 (.slice A4 x.f2.length c4) rfl)
      have hcz0 := (blk_cell hbox 0).trans rfl
      have hfz0 := bkF hbox 0
      have hcz1 := (blk_cell hbox 1).trans rfl
      have hfz1 := bkF hbox 1
      have hcz2 := (blk_cell hbox 2).trans rfl
      have hfz2 := bkF hbox 2
      clear hbox hbb hgi hgw)
    clear hcz0 hcz1 hcz2 hfz0 hfz1 hfz2 hx2 hx3 hx4
    generalize (((w6.setCell ⟨gi, 0, none⟩ (.int .i64 x.f0)).setCell ⟨gi, 1, none⟩ (.int .i64 x.f1)).setCell ⟨gi, 2, none⟩ (.slice A4 x.f2.length c4)) = wq at *
    have HBq := Az.mk (bst HB.out Hbw.out)
    have HRq := Az.mk (Kd.R_below HRx.out Hbw.out)
    have S3q := Az.mk (bkB S3.out Hbw.out)
    have S2q := Az.mk (bkB S2.out Hbw.out)
    have HCq := Az.mk (Kd.C_below HC4.out Hbw.out)
    have n0 : wq.cell? ⟨gi, 0, none⟩ = some (.int .i64 x.f0) := (blk_cell Sgi.out 0).trans rfl
    have n1 : wq.cell? ⟨gi, 1, none⟩ = some (.int .i64 x.f1) := (blk_cell Sgi.out 1).trans rfl
    have n2 : wq.cell? ⟨gi, 2, none⟩ = some (.slice A4 x.f2.length c4) := (blk_cell Sgi.out 2).trans rfl
    have m1 : wq.cell? ⟨g3, 2, none⟩ = some (.slice Ax i cx) := (blk_cell S3q.out 2).trans rfl
    clear HB HRx S3 S2 HC4 Hbw Sgi
    go_region_law
      (first
        | (refine Kd.R_append_step k36 (w0 := w) w.heap.size rfl (.tmp 19) (.tmp 22) 34 36 (.agg #[.int .i64 0, .int .i64 0, .slice none 0 0]) 40 rfl Try.underlying34 (by kernel_rfl) rfl (by decide) (by omega) (.slice Ax i cx) (l.take i) x [.int .i64 x.f0, .int .i64 x.f1, .slice A6 x.f2.length c6] (fun k => k ≠ g2 ∧ k ≠ g3) (fun k => wq.heap.size ≤ k) rfl rfl (k36_mkM _ _ _ x HR4.out) (fun k hk => ⟨⟨by have := blk_lt S2q.out; omega, by have := blk_lt S3q.out; omega⟩, fun e => by have := Kd.R_lt HRq.out k e.symm; omega⟩) (fun k hk => ⟨by have := blk_lt S2A.out; omega, by have := blk_lt S3A.out; omega⟩) HRA.out HBA.out HBA.out.size (by rw [List.length_take]; have := HL.out; omega) ?_
           intro v2 w7 hrf hb7 hg7 hat
           rw [HSN.out] at hrf
           obtain ⟨A5, c5, e5⟩ := Kd.R_slice hrf
           rw [List.length_take, Nat.min_eq_left (by have := Hlt.out; omega)] at e5
           subst e5
           have HR7 := Az.mk hrf
           have HB7 := Az.mk hb7
           have S37 := Az.mk (blk_grown S3A.out hg7 (Kd.R_away HRA.out (fun k hk => hk.2)))
           have S27 := Az.mk (blk_grown S2A.out hg7 (Kd.R_away HRA.out (fun k hk => hk.1)))
           have m7 : w7.cell? ⟨g3, 2, none⟩ = some (.slice Ax i cx) := (blk_cell S37.out 2).trans rfl
           have f7 := bkF S37.out 2
           clear hrf hb7 hg7 hat a1)
        | (go_simp
           go_at_call 30
           (with_reducible refine (IH.out x.f0 x.f1 x.f2 A4 c4 wq.drew HSZ.out HTC.out (Kd.C_below HCq.out (below_drew (Below.refl _ _))) Hl4.out).mono ?_)
           rintro e9 wA ⟨v4, rfl, hR4, hbA⟩
           obtain ⟨A6, c6, rfl⟩ := Kd.R_slice hR4
           have HR4 := Az.mk (Kd.R_lower (Kd.R_mono (Kd.R_bound hR4) (fun k hk => (show wq.heap.size ≤ k from hk.2.1))) (show w.heap.size ≤ wq.drew.heap.size from HBq.out.size))
           have HRA := Az.mk (Kd.R_below (Kd.R_drew HRq.out) hbA)
           have HBA := Az.mk (bst (below_drew HBq.out) hbA)
           have S3A := Az.mk (bkB (blk_drew S3q.out) hbA)
           have S2A := Az.mk (bkB (blk_drew S2q.out) hbA)
           have a1 : wA.cell? ⟨g3, 2, none⟩ = some (.slice Ax i cx) := (blk_cell S3A.out 2).trans rfl
           have a2 := cel1 a1
           clear hR4 hbA))
    all_goals (
      clear n0 n1 n2 m1 m7 f7 a2
      have HR8 := Az.mk (Kd.R_far (p := ⟨g3, 2, none⟩) HR7.out (fun k hk => hk.2) (.slice A5 (i + 1) c5))
      have S38 := Az.mk (blk_put (cs' := #[.int .i64 a, .int .i64 b, .slice A5 (i + 1) c5]) S37.out 2 (.slice A5 (i + 1) c5) rfl)
      have S28 := Az.mk (blk_far (p := ⟨g3, 2, none⟩) S27.out (fun he => H23.out he) (.slice A5 (i + 1) c5))
      have HB8 := Az.mk (bset (j := 2) (v := .slice A5 (i + 1) c5) HB7.out HG3.out)
      go_wp2_with fail
      go_roundg k1
      case measure => omega
      case rel => exact ⟨i + 1, A5, c5, by go_num, ⟨by have := Hi.out; omega⟩, HR8, S38, S28, HB8⟩)
set_option maxHeartbeats 8000000 in
theorem tequal_calls (N : Nat) : ∀ (a b : Int) (l : List S36) (A A' : Option Addr) (c c' : Nat) (w : World), SizeOf.sizeOf l < N → Kd.C k36 w A l.length l → l.length ≤ c → Kd.C k36 w A' l.length l → l.length ≤ c' →
    Calls Try.prog 38 #[.agg #[.int .i64 a, .int .i64 b, .slice A l.length c], .agg #[.int .i64 a, .int .i64 b, .slice A' l.length c']] w fun e w' => e = .returned (.bool true) ∧ Below w.heap.size w w' := by
  have hu36 := Try.underlying36
  have hu34 := Try.underlying34
  induction N with
  | zero => intro a b l A A' c c' w hN; omega
  | succ N ih =>
  intro a b l A A' c c' w hN hr hc hr' hc'
  have hlen : l.length ≤ 9223372036854775807 := hr.2.1
  have HR := Az.mk hr
  have HC := Az.mk hc
  have HR' := Az.mk hr'
  have HC' := Az.mk hc'
  have HN := Az.mk hN
  have IH := Az.mk ih
  clear hr hc hr' hc' hN ih
  go_enter Try.func38, Try.ntmps38
  go_wp2_with (first
    | ((with_reducible refine gate_dst (N := 2) rfl ?_)
       refine box_event ?hg (N := 2) ?hd (cs := #[.int .i64 a, .int .i64 b, .slice A l.length c]) (t := 36) ?hr ?_
       (case hd => rfl)
       (case hg => rfl)
       (case hr => first | (go_simp; done) | (go_simp; rfl))
       intro g2 hg2 w2 hbox hbb
       have S2 := Az.mk hbox
       have HB2 := Az.mk hbb
       clear hbox hbb hg2)
    | ((with_reducible refine gate_dst (N := 3) rfl ?_)
       refine box_event ?hg (N := 3) ?hd (cs := #[.int .i64 a, .int .i64 b, .slice A' l.length c']) (t := 36) ?hr ?_
       (case hd => rfl)
       (case hg => rfl)
       (case hr => first | (go_simp; done) | (go_simp; rfl))
       intro g3 hg3 w3 hbox hbb
       have S3 := Az.mk hbox
       have S23 := Az.mk (bkB S2.out hbb)
       have HB3 := Az.mk (bst HB2.out hbb)
       have a0 : w3.cell? ⟨g2, 0, none⟩ = some (.int .i64 a) := (blk_cell S23.out 0).trans rfl
       have a1 : w3.cell? ⟨g2, 1, none⟩ = some (.int .i64 b) := (blk_cell S23.out 1).trans rfl
       have a2 : w3.cell? ⟨g2, 2, none⟩ = some (.slice A l.length c) := (blk_cell S23.out 2).trans rfl
       have b0 : w3.cell? ⟨g3, 0, none⟩ = some (.int .i64 a) := (blk_cell hbox 0).trans rfl
       have b1 : w3.cell? ⟨g3, 1, none⟩ = some (.int .i64 b) := (blk_cell hbox 1).trans rfl
       have b2 : w3.cell? ⟨g3, 2, none⟩ = some (.slice A' l.length c') := (blk_cell hbox 2).trans rfl
       clear hbox hbb hg3))
  clear a0 a1 a2 b0 b1 b2 S2 HB2
  go_loopg [30] l.length (fun kq v30 wr => ∃ i : Nat, v30 = .int .i64 (i : Int) ∧ Az (i + kq = l.length) ∧ Az (Below w3.heap.size w3 wr))
  case atStart => exact ⟨0, rfl, ⟨by omega⟩, ⟨Below.refl _ _⟩⟩
  case round =>
    obtain ⟨i, rfl, Hi, HB⟩ := hrel
    by_cases hlt : i < l.length
    rotate_left
    · go_wp2_with fail
      go_ret
      exact ⟨rfl, bst HB3.out HB.out⟩
    have HBw := Az.mk (bst HB3.out HB.out)
    obtain ⟨ad, A4, c4, he, hx2, hx3, hx4, hl4, hC4⟩ := at_T36 (Kd.C_below HR.out HBw.out) (i : Int) (by omega) (by omega)
    cases he
    obtain ⟨ad', A5, c5, he, hy2, hy3, hy4, hl5, hC5⟩ := at_T36 (Kd.C_below HR'.out HBw.out) (i : Int) (by omega) (by omega)
    cases he
    rw [Int.toNat_natCast] at hx2 hx3 hx4 hy2 hy3 hy4
    have HC4 := Az.mk hC4
    have Hl4 := Az.mk hl4
    have HC5 := Az.mk hC5
    have Hl5 := Az.mk hl5
    have HSZ := Az.mk (show SizeOf.sizeOf (rd_T36 l (i : Int)).f2 < N from by have := rd_T36_mem l i hlt; have := HN.out; omega)
    have q1 : (0 ≤ (i : Int)) = True := eq_true (by omega)
    have q2 : ((i : Int) < (l.length : Int)) = True := eq_true (by omega)
    have q3 : (i < l.length) = True := eq_true (by omega)
    clear hl4 hC4 hl5 hC5
    generalize rd_T36 l (i : Int) = x at *
    have a2 : wr.cell? ⟨g2, 2, none⟩ = some (.slice (some ad) l.length c) := (blk_cell (bkB S23.out HB.out) 2).trans rfl
    have b2 : wr.cell? ⟨g3, 2, none⟩ = some (.slice (some ad') l.length c') := (blk_cell (bkB S3.out HB.out) 2).trans rfl
    go_upto_region 6 with fail
    try simp only [Act.put, List.setIfInBounds_toArray, List.set_cons_succ, List.set_cons_zero]
    go_cut [44] from 33 to 44 (fun v44 wc => v44 = .bool false ∧ Az (Below w3.heap.size w3 wc))
    case first =>
      go_region_held3 (fun w' => w'.cell? ⟨g2, 2, none⟩ = some (.slice (some ad) l.length c) ∧ w'.cell? ⟨g3, 2, none⟩ = some (.slice (some ad') l.length c') ∧ w'.cell? (ad.add (i * 3)) = some (.int .i64 x.f0) ∧ w'.cell? ⟨(ad.add (i * 3)).block, (ad.add (i * 3)).off + 1, none⟩ = some (.int .i64 x.f1) ∧ w'.cell? ⟨(ad.add (i * 3)).block, (ad.add (i * 3)).off + 2, none⟩ = some (.slice A4 x.f2.length c4) ∧ w'.cell? (ad'.add (i * 3)) = some (.int .i64 x.f0) ∧ w'.cell? ⟨(ad'.add (i * 3)).block, (ad'.add (i * 3)).off + 1, none⟩ = some (.int .i64 x.f1) ∧ w'.cell? ⟨(ad'.add (i * 3)).block, (ad'.add (i * 3)).off + 2, none⟩ = some (.slice A5 x.f2.length c5)) (go_keep)
        (first
          | (go_at_call 38
             (with_reducible refine (IH.out x.f0 x.f1 x.f2 A4 A5 c4 c5 _ HSZ.out (Kd.C_below HC4.out (below_drew (Below.refl _ _))) Hl4.out (Kd.C_below HC5.out (below_drew (Below.refl _ _))) Hl5.out).mono ?_)
             rintro e9 wA ⟨rfl, hbA⟩
             have HBA := Az.mk (bst (below_drew HB.out) hbA)
             have z0 := cell_up hbA (show wr.drew.cell? _ = _ from a2)
             have z1 := cell_up hbA (show wr.drew.cell? _ = _ from b2)
             have z2 := cell_up hbA (show wr.drew.cell? _ = _ from hx2)
             have z3 := cell_up hbA (show wr.drew.cell? _ = _ from hx3)
             have z4 := cell_up hbA (show wr.drew.cell? _ = _ from hx4)
             have z5 := cell_up hbA (show wr.drew.cell? _ = _ from hy2)
             have z6 := cell_up hbA (show wr.drew.cell? _ = _ from hy3)
             have z7 := cell_up hbA (show wr.drew.cell? _ = _ from hy4)
             clear hbA))
      all_goals (go_wp2_with fail; go_meet; exact ⟨rfl, HBA⟩)
    case rest =>
      obtain ⟨rfl, HBc⟩ := hcut
      clear a2 b2 hx2 hx3 hx4 hy2 hy3 hy4
      go_wp2_with fail
      have hk := Hi.out
      obtain ⟨k1, rfl⟩ : ∃ k1, gk = k1 + 1 := ⟨gk - 1, by omega⟩
      go_roundg k1
      case measure => omega
      case rel => exact ⟨i + 1, by go_num, ⟨by omega⟩, HBc⟩
def virgationref02_Copy.f (a b : Int) (l : List S36) : Option (Int × Int × List S36) := if tcntL l ≤ 1000000 then some (a, b, l) else none
theorem virgationref02_Copy.calls (a b : Int) (A : Option Addr) (c : Nat) (l : List S36) (r1 r2 : Int) (r3 : List S36) (w : World) (hr : Kd.C k36 w A l.length l) (hc : l.length ≤ c) (h : virgationref02_Copy.f a b l = some (r1, r2, r3)) :
    Calls Try.prog 30 #[.agg #[.int .i64 a, .int .i64 b, .slice A l.length c]] w fun e w' => ∃ v : Value, e = .returned (.agg #[.int .i64 r1, .int .i64 r2, v]) ∧ Kd.R k36 36 w' w.heap.size (fun _ => True) v r3 ∧ Below w.heap.size w w' := by
  unfold virgationref02_Copy.f at h
  split at h
  · rename_i ht
    injection h with h
    injection h with h1 h
    injection h with h2 h3
    subst h1 h2 h3
    exact tcopy_calls _ a b l A c w (Nat.lt_succ_self _) ht hr hc
  · cases h
end Go.Proofs.Ytkgknidogelffaa.I
namespace Go.Proofs.Ytkgknidogelffaa.I
open Go.RowKit Go.Proofs.YtkgknidogelffaaW.PrintWords Go.Proofs.YtkgknidogelffaaW.PrintLast Go.Proofs.YtkgknidogelffaaW.PrintMore
set_option linter.unusedVariables false
set_option maxRecDepth 100000
set_option linter.unusedSimpArgs false
theorem goS_total {l0 : List S84} {l1 : List S41} (hs : schB l0 l1 = true) {s : MS} (h : Good l0 l1 s) (fuel : Int) : ∃ k a n e s', goS l1 fuel k s = some (a, n, e, s') := by
  by_cases h1 : fuel < 0 ∨ 1048576 < fuel
  · exact ⟨0, _, _, _, _, by unfold goS; rw [if_pos h1]⟩
  by_cases h2 : s.full = true
  · exact ⟨0, _, _, _, _, by unfold goS; rw [if_neg h1, if_pos h2]⟩
  by_cases h3 : s.known = true
  · exact ⟨0, _, _, _, _, by unfold goS; rw [if_neg h1, if_neg h2, if_pos h3]⟩
  obtain ⟨k, r, hr⟩ := goM_total hs fuel fuel.toNat _ 0 s.used s.c s.st (h.open_ (by simpa using h3)) (by omega) (by omega) (Nat.le_refl _)
  exact ⟨k, _, _, _, _, by unfold goS; rw [if_neg h1, if_neg h2, if_neg h3, hr]; rfl⟩
variable {w : World} {lo : Nat} {ok : Nat → Prop} {l0 : List S84} {lq l1 : List S41} {s : MS} {p : MP}
end Go.Proofs.Ytkgknidogelffaa.I
namespace Go.Proofs.Ytkgknidogelffaa.I
open Go.RowKit Go.Proofs.YtkgknidogelffaaW.PrintWords Go.Proofs.YtkgknidogelffaaW.PrintLast Go.Proofs.YtkgknidogelffaaW.PrintMore
attribute [local go_sem] max2_int min2_int max_two min_two max_three min_three max_four min_four
set_option linter.unusedVariables false
set_option linter.unusedSimpArgs false
def virgationlaw08_ints.l0 : Nat → List Int → List Int → Int → Int → Option (Bool)
  | 0, _, _, _, _ => none
  | k + 1, x0, x1, x12, x13 => if x13 < x12 then (if 0 ≤ x13 then (if x13 < (x0.length : Int) then (if x13 < (x1.length : Int) then (if (rd x0 x13) = (rd x1 x13) then (virgationlaw08_ints.l0 k x0 x1 x12 (wrap64 (x13 + 1))) else (some false)) else (none)) else (none)) else (none)) else (some true)
def virgationlaw08_ints.f (k : Nat) (l0 : List Int) (l1 : List Int) : Option (Bool) := if (l0.length : Int) = (l1.length : Int) then (virgationlaw08_ints.l0 k l0 l1 (l0.length : Int) 0) else (some false)
set_option maxHeartbeats 8000000 in
set_option maxRecDepth 100000 in
theorem virgationlaw08_ints.calls (k : Nat) (A0 : Option Addr) (c0 : Nat) (l0 : List Int) (A1 : Option Addr) (c1 : Nat) (l1 : List Int) (r : Bool) (w : World) (hr0 : Kd.C (Kd.int .i64) w A0 l0.length l0) (hc0 : l0.length ≤ c0) (hr1 : Kd.C (Kd.int .i64) w A1 l1.length l1) (hc1 : l1.length ≤ c1) (h : virgationlaw08_ints.f k l0 l1 = some r) :
    Calls Try.prog 15 #[.slice A0 l0.length c0, .slice A1 l1.length c1] w fun e w' => e = .returned (.bool r) ∧ Drawn0 w w' := by
  have HR0 := Az.mk hr0
  have HC0 := Az.mk hc0
  clear hr0 hc0
  have HR1 := Az.mk hr1
  have HC1 := Az.mk hc1
  clear hr1 hc1
  have H : (if (l0.length : Int) = (l1.length : Int) then (virgationlaw08_ints.l0 k l0 l1 (l0.length : Int) 0) else (some false)) = some r := h
  clear h
  by_cases c3 : (l0.length : Int) = (l1.length : Int)
  · rw [if_pos c3] at H
    have c3b0 : ((l0.length : Int) == (l1.length : Int)) = true := beq_iff_eq.mpr c3
    have c3b1 : ((l0.length : Int) != (l1.length : Int)) = false := bne_eq_false_iff_eq.mpr c3
    have c3b2 : (l0.length == l1.length) = true := by first | simpa using c3 | (simp at c3 ⊢; omega)
    clear c3
    have H' := Az.mk H
    clear H
    go_enter Try.func15, Try.ntmps15
    go_wp2
    repeat (go_quiet (fail); try go_wp2)
    go_loopg [13] k (fun kq v13 w' => ∃ (x13_1 : Int), v13 = .int .i64 x13_1 ∧ Az (virgationlaw08_ints.l0 kq l0 l1 (l0.length : Int) x13_1 = some r) ∧ Az (kq ≤ k) ∧ Drawn0 w w')
    case atStart => exact ⟨(0), (by first | rfl | (simp; done) | (simp [*]; done)), H', ⟨Nat.le_refl _⟩, by repeat (first | exact Drawn0.refl _ | apply Drawn0.step)⟩
    case round =>
      clear H'
      try clear c1
      try clear p2
      try clear c3
      try clear c3b0
      try clear c3b1
      try clear c3b2
      obtain ⟨x13_1, rfl, HA, HK1, ⟨m1, rfl⟩⟩ := hrel
      cases gk with
      | zero => exact absurd HA.out (by simp [virgationlaw08_ints.l0])
      | succ k1 =>
        have H := HA.out
        clear HA
        simp only [virgationlaw08_ints.l0] at H
        by_cases c4 : x13_1 < (l0.length : Int)
        · rw [if_pos c4] at H
          have c4b0 : decide (x13_1 < (l0.length : Int)) = true := decide_eq_true c4
          clear c4
          by_cases c5 : 0 ≤ x13_1
          · rw [if_pos c5] at H
            have c5b0 : decide (0 ≤ x13_1) = true := decide_eq_true c5
            clear c5
            by_cases c6 : x13_1 < (l0.length : Int)
            · rw [if_pos c6] at H
              have c6b0 : decide (x13_1 < (l0.length : Int)) = true := decide_eq_true c6
              clear c6
              by_cases c7 : x13_1 < (l1.length : Int)
              · rw [if_pos c7] at H
                have c7b0 : decide (x13_1 < (l1.length : Int)) = true := decide_eq_true c7
                clear c7
                by_cases c8 : (rd l0 x13_1) = (rd l1 x13_1)
                · rw [if_pos c8] at H
                  have c8b0 : ((rd l0 x13_1) == (rd l1 x13_1)) = true := beq_iff_eq.mpr c8
                  have c8b1 : ((rd l0 x13_1) != (rd l1 x13_1)) = false := bne_eq_false_iff_eq.mpr c8
                  clear c8
                  have H' := Az.mk H
                  clear H
                  have p291 : 0 ≤ (x13_1 : Int) := of_decide_eq_true (by first | (with_reducible assumption) | assumption)
                  have q291 : x13_1 < (l0.length : Int) := of_decide_eq_true (by first | (with_reducible assumption) | assumption)
                  obtain ⟨ad291, e291, hx291_0⟩ := Kd.at_int HR0.out x13_1 p291 q291
                  cases e291
                  replace p291 := eq_true p291
                  replace q291 := eq_true q291
                  have p292 : 0 ≤ (x13_1 : Int) := of_decide_eq_true (by first | (with_reducible assumption) | assumption)
                  have q292 : x13_1 < (l1.length : Int) := of_decide_eq_true (by first | (with_reducible assumption) | assumption)
                  obtain ⟨ad292, e292, hx292_0⟩ := Kd.at_int HR1.out x13_1 p292 q292
                  cases e292
                  replace p292 := eq_true p292
                  replace q292 := eq_true q292
                  go_wp2
                  repeat (go_quiet (fail); try go_wp2)
                  go_roundg k1
                  case measure => have := HK1.out; omega
                  case rel => exact ⟨(wrap64 (x13_1 + 1)), (by first | rfl | (simp; done) | (simp [*]; done)), H', ⟨by have := HK1.out; omega⟩, by repeat (first | exact Drawn0.refl _ | apply Drawn0.step)⟩
                · rw [if_neg c8] at H
                  have c8b0 : ((rd l0 x13_1) == (rd l1 x13_1)) = false := beq_eq_false_iff_ne.mpr c8
                  have c8b1 : ((rd l0 x13_1) != (rd l1 x13_1)) = true := bne_iff_ne.mpr c8
                  obtain rfl := Option.some.inj H
                  have p291 : 0 ≤ (x13_1 : Int) := of_decide_eq_true (by first | (with_reducible assumption) | assumption)
                  have q291 : x13_1 < (l0.length : Int) := of_decide_eq_true (by first | (with_reducible assumption) | assumption)
                  obtain ⟨ad291, e291, hx291_0⟩ := Kd.at_int HR0.out x13_1 p291 q291
                  cases e291
                  replace p291 := eq_true p291
                  replace q291 := eq_true q291
                  have p292 : 0 ≤ (x13_1 : Int) := of_decide_eq_true (by first | (with_reducible assumption) | assumption)
                  have q292 : x13_1 < (l1.length : Int) := of_decide_eq_true (by first | (with_reducible assumption) | assumption)
                  obtain ⟨ad292, e292, hx292_0⟩ := Kd.at_int HR1.out x13_1 p292 q292
                  cases e292
                  replace p292 := eq_true p292
                  replace q292 := eq_true q292
                  go_wp2
                  repeat (go_quiet (fail); try go_wp2)
                  go_ret
                  exact ⟨by first | rfl | (simp; done) | (simp [*]; done), by repeat (first | exact Drawn0.refl _ | apply Drawn0.step)⟩
              · rw [if_neg c7] at H
                exact absurd H (by simp)
            · rw [if_neg c6] at H
              exact absurd H (by simp)
          · rw [if_neg c5] at H
            exact absurd H (by simp)
        · rw [if_neg c4] at H
          have c4b0 : decide (x13_1 < (l0.length : Int)) = false := decide_eq_false c4
          clear c4
          obtain rfl := Option.some.inj H
          go_wp2
          repeat (go_quiet (fail); try go_wp2)
          go_ret
          exact ⟨by first | rfl | (simp; done) | (simp [*]; done), by repeat (first | exact Drawn0.refl _ | apply Drawn0.step)⟩
  · rw [if_neg c3] at H
    have c3b0 : ((l0.length : Int) == (l1.length : Int)) = false := beq_eq_false_iff_ne.mpr c3
    have c3b1 : ((l0.length : Int) != (l1.length : Int)) = true := bne_iff_ne.mpr c3
    have c3b2 : (l0.length == l1.length) = false := by first | simpa using c3 | (simp at c3 ⊢; omega)
    obtain rfl := Option.some.inj H
    go_enter Try.func15, Try.ntmps15
    go_wp2
    repeat (go_quiet (fail); try go_wp2)
    go_ret
    exact ⟨by first | rfl | (simp; done) | (simp [*]; done), by repeat (first | exact Drawn0.refl _ | apply Drawn0.step)⟩
theorem ints_l0 (l : List Int) (hl : l.length ≤ 1000000) : ∀ (m i : Nat), i + m = l.length → virgationlaw08_ints.l0 (m + 1) l l (l.length : Int) (i : Int) = some true
  | 0, i, h => by
    unfold virgationlaw08_ints.l0
    rw [if_neg (by omega)]
  | m + 1, i, h => by
    unfold virgationlaw08_ints.l0
    rw [if_pos (by omega), if_pos (by omega), if_pos (by omega), if_pos (by omega), if_pos rfl]
    have e : wrap64 ((i : Int) + 1) = ((i + 1 : Nat) : Int) := by unfold wrap64; omega
    rw [e]
    exact ints_l0 l hl m (i + 1) (by omega)
theorem ints_true {l : List Int} (hl : l.length ≤ 1000000) : virgationlaw08_ints.f (l.length + 1) l l = some true := by
  unfold virgationlaw08_ints.f
  rw [if_pos rfl]
  exact ints_l0 l hl l.length 0 (by omega)
theorem ints_at {l : List Int} (hl : l.length ≤ 1000000) {w : World} {A A' : Option Addr} {c c' : Nat} (h : Kd.C (Kd.int .i64) w A l.length l) (hc : l.length ≤ c) (h' : Kd.C (Kd.int .i64) w A' l.length l) (hc' : l.length ≤ c') :
    Calls Try.prog 15 #[.slice A l.length c, .slice A' l.length c'] w fun e w' => e = .returned (.bool true) ∧ Below w.heap.size w w' := by
  refine (virgationlaw08_ints.calls (l.length + 1) A c l A' c' l true w h hc h' hc' (ints_true hl)).mono ?_
  rintro e w' ⟨rfl, m, rfl⟩
  exact ⟨rfl, pwN (Below.refl _ _) m⟩
end Go.Proofs.Ytkgknidogelffaa.I
namespace Go.Proofs.Ytkgknidogelffaa.I
open Go.RowKit Go.Proofs.YtkgknidogelffaaW.PrintWords Go.Proofs.YtkgknidogelffaaW.PrintLast Go.Proofs.YtkgknidogelffaaW.PrintMore
attribute [local go_sem] max2_int min2_int max_two min_two max_three min_three max_four min_four
set_option linter.unusedVariables false
set_option maxRecDepth 100000
set_option linter.unusedSimpArgs false
variable {w : World} {lo gm gu : Nat} {l0 : List S84} {l1 : List S41} {s s' u : MS} {a n e fuel : Int} {k : Nat}
theorem two_go0 (hs : schB l0 l1 = true) (hM : Ms w lo (l1.map ownF) [(gm, s), (gu, u)]) (hg : Good l0 l1 s) (hr : goS l1 fuel k s = some (a, n, e, s')) :
    Calls Try.prog 12 #[.pointer (some ⟨gm, 0, none⟩), .int .i64 fuel] w fun x w' => x = .returned (.tuple #[.int .i64 a, .int .i64 n, .int .i64 e]) ∧ Ms w' lo (l1.map ownF) [(gm, s'), (gu, u)] ∧ Below lo w w' :=
  ms_go (L := [(gm, s), (gu, u)]) (i := 0) hs (sameF_own l1) hM (show _ < 2 from by decide) hg fuel k a n e s' hr
theorem two_go1 (hs : schB l0 l1 = true) (hM : Ms w lo (l1.map ownF) [(gm, s), (gu, u)]) (hg : Good l0 l1 u) (hr : goS l1 fuel k u = some (a, n, e, s')) :
    Calls Try.prog 12 #[.pointer (some ⟨gu, 0, none⟩), .int .i64 fuel] w fun x w' => x = .returned (.tuple #[.int .i64 a, .int .i64 n, .int .i64 e]) ∧ Ms w' lo (l1.map ownF) [(gm, s), (gu, s')] ∧ Below lo w w' :=
  ms_go (L := [(gm, s), (gu, u)]) (i := 1) hs (sameF_own l1) hM (show _ < 2 from by decide) hg fuel k a n e s' hr
theorem two_path0 (hM : Ms w lo (l1.map ownF) [(gm, s), (gu, u)]) (hg : Good l0 l1 s) :
    Calls Try.prog 13 #[.pointer (some ⟨gm, 0, none⟩)] w fun x w' => ∃ A c, x = .returned (.slice A s.path.length c) ∧ Kd.R (Kd.int .i64) 3 w' w.heap.size (fun _ => True) (.slice A s.path.length c) s.path ∧ Ms w' lo (l1.map ownF) [(gm, s), (gu, u)] ∧ Below w.heap.size w w' :=
  ms_path (l0 := l0) (l1 := l1) (L := [(gm, s), (gu, u)]) (i := 0) hM (show _ < 2 from by decide) hg
theorem two_path1 (hM : Ms w lo (l1.map ownF) [(gm, s), (gu, u)]) (hg : Good l0 l1 u) :
    Calls Try.prog 13 #[.pointer (some ⟨gu, 0, none⟩)] w fun x w' => ∃ A c, x = .returned (.slice A u.path.length c) ∧ Kd.R (Kd.int .i64) 3 w' w.heap.size (fun _ => True) (.slice A u.path.length c) u.path ∧ Ms w' lo (l1.map ownF) [(gm, s), (gu, u)] ∧ Below w.heap.size w w' :=
  ms_path (l0 := l0) (l1 := l1) (L := [(gm, s), (gu, u)]) (i := 1) hM (show _ < 2 from by decide) hg
theorem one_new (A0 : Option Addr) (c0 : Nat) (A1 : Option Addr) (c1 : Nat) (hr0 : Kd.C k84 w A0 l0.length l0) (hc0 : l0.length ≤ c0) (hr1 : Kd.C k41 w A1 l1.length l1) (hc1 : l1.length ≤ c1) (hs : schB l0 l1 = true) :
    Calls Try.prog 11 #[.agg #[.slice A0 l0.length c0, .slice A1 l1.length c1]] w fun x w' => ∃ gm, x = .returned (.tuple #[.pointer (some ⟨gm, 0, none⟩), .int .i64 0]) ∧ Ms w' w.heap.size (l1.map ownF) [(gm, ms0)] ∧ Below w.heap.size w w' :=
  ms_new (l0 := l0) (l1 := l1) (L := []) (Ms.nil (Nat.le_refl _)) A0 c0 A1 c1 hr0 hc0 hr1 hc1 hs
end Go.Proofs.Ytkgknidogelffaa.I
namespace Go.Proofs.Ytkgknidogelffaa.I
open Go.RowKit Go.Proofs.YtkgknidogelffaaW.PrintWords Go.Proofs.YtkgknidogelffaaW.PrintLast Go.Proofs.YtkgknidogelffaaW.PrintMore
attribute [local go_sem] max2_int min2_int max_two min_two max_three min_three max_four min_four
set_option linter.unusedVariables false
set_option maxRecDepth 100000
set_option linter.unusedSimpArgs false
theorem bneF {a b : Int} (h : a = b) : (a != b) = false := bne_eq_false_iff_eq.2 h
end Go.Proofs.Ytkgknidogelffaa.I
namespace Go.Proofs.Ytkgknidogelffaa.I
open Go.RowKit Go.Proofs.YtkgknidogelffaaW.PrintWords Go.Proofs.YtkgknidogelffaaW.PrintLast Go.Proofs.YtkgknidogelffaaW.PrintMore
attribute [local go_sem] max2_int min2_int max_two min_two max_three min_three max_four min_four
set_option linter.unusedVariables false
set_option maxRecDepth 100000
set_option linter.unusedSimpArgs false
theorem sequal_calls {l : List S39} (hl : cntL l ≤ 1000) {w : World} {A A' : Option Addr} {c c' : Nat} (hr : Kd.C k39 w A l.length l) (hc : l.length ≤ c) (hr' : Kd.C k39 w A' l.length l) (hc' : l.length ≤ c') :
    Calls Try.prog 37 #[.agg #[.slice A l.length c], .agg #[.slice A' l.length c']] w fun e w' => e = .returned (.bool true) ∧ Below w.heap.size w w' := by
  have h := seq48 _ l l A A' c c' w (Nat.lt_succ_self _) hr hc hr' hc'
  rw [eqL_refl] at h
  exact h
set_option maxHeartbeats 8000000 in
theorem equal_calls (A0 : Option Addr) (c0 : Nat) (l0 : List S84) (A1 : Option Addr) (c1 : Nat) (l1 : List S41) (B0 : Option Addr) (d0 : Nat) (B1 : Option Addr) (d1 : Nat) (w : World) (hr0 : Kd.C k84 w A0 l0.length l0) (hr1 : Kd.C k41 w A1 l1.length l1) (ht0 : Kd.C k84 w B0 l0.length l0) (ht1 : Kd.C k41 w B1 l1.length l1) (hs : ∀ x ∈ l1, cntL x.f1.f0 ≤ 1000) :
    Calls Try.prog 16 #[.agg #[.slice A0 l0.length c0, .slice A1 l1.length c1], .agg #[.slice B0 l0.length d0, .slice B1 l1.length d1]] w fun e w' => e = .returned (.bool true) ∧ Below w.heap.size w w' := by
  have hu36 := Try.underlying36
  have hu84 := Try.underlying84
  have hu41 := Try.underlying41
  have hu25 := Try.underlying25
  have hu39 := Try.underlying39
  have hlen1 : l1.length ≤ 9223372036854775807 := hr1.2.1
  have hlen0 : l0.length ≤ 9223372036854775807 := hr0.2.1
  have HR0 := Az.mk hr0
  have HR1 := Az.mk hr1
  have HT0 := Az.mk ht0
  have HT1 := Az.mk ht1
  have HS := Az.mk hs
  clear hr0 hr1 ht0 ht1 hs
  go_enter Try.func16, Try.ntmps16
  go_wp2_with (first
    | ((with_reducible refine gate_dst (N := 2) rfl ?_)
       refine box_event ?hg (N := 2) ?hd (cs := #[.slice A0 l0.length c0, .slice A1 l1.length c1]) (t := 25) ?hr ?_
       (case hd => rfl)
       (case hg => rfl)
       (case hr => first | (go_simp; done) | (go_simp; rfl))
       intro g2 hg2 w2 hbox hbb
       have S2 := Az.mk hbox
       have HB2 := Az.mk hbb
       clear hbox hbb hg2)
    | ((with_reducible refine gate_dst (N := 3) rfl ?_)
       refine box_event ?hg (N := 3) ?hd (cs := #[.slice B0 l0.length d0, .slice B1 l1.length d1]) (t := 25) ?hr ?_
       (case hd => rfl)
       (case hg => rfl)
       (case hr => first | (go_simp; done) | (go_simp; rfl))
       intro g3 hg3 w3 hbox hbb
       have S3 := Az.mk hbox
       have S23 := Az.mk (bkB S2.out hbb)
       have HB3 := Az.mk (bst HB2.out hbb)
       have a0 : w3.cell? ⟨g2, 0, none⟩ = some (.slice A0 l0.length c0) := (blk_cell S23.out 0).trans rfl
       have a1 : w3.cell? ⟨g2, 1, none⟩ = some (.slice A1 l1.length c1) := (blk_cell S23.out 1).trans rfl
       have b0 : w3.cell? ⟨g3, 0, none⟩ = some (.slice B0 l0.length d0) := (blk_cell hbox 0).trans rfl
       have b1 : w3.cell? ⟨g3, 1, none⟩ = some (.slice B1 l1.length d1) := (blk_cell hbox 1).trans rfl
       clear hbox hbb hg3))
  clear a0 a1 b0 b1 S2 HB2
  go_loopg [26] l0.length (fun kq v26 wr => ∃ i : Nat, v26 = .int .i64 (i : Int) ∧ Az (i + kq = l0.length) ∧ Az (Below w3.heap.size w3 wr))
  case atStart => exact ⟨0, rfl, ⟨by omega⟩, ⟨Below.refl _ _⟩⟩
  case round =>
    obtain ⟨i, rfl, Hi, HB⟩ := hrel
    by_cases hlt : i < l0.length
    · obtain ⟨ad0, he, hx1, hx2⟩ := at_T84 HR0.out (i : Int) (by omega) (by omega)
      cases he
      obtain ⟨ad1, he, hy1, hy2⟩ := at_T84 HT0.out (i : Int) (by omega) (by omega)
      cases he
      replace hx1 := cell_up HB.out (cell_up HB3.out hx1)
      replace hx2 := cell_up HB.out (cell_up HB3.out hx2)
      replace hy1 := cell_up HB.out (cell_up HB3.out hy1)
      replace hy2 := cell_up HB.out (cell_up HB3.out hy2)
      rw [Int.toNat_natCast] at hx1 hx2 hy1 hy2
      have a0 : wr.cell? ⟨g2, 0, none⟩ = some (.slice (some ad0) l0.length c0) := (blk_cell (bkB S23.out HB.out) 0).trans rfl
      have b0 : wr.cell? ⟨g3, 0, none⟩ = some (.slice (some ad1) l0.length d0) := (blk_cell (bkB S3.out HB.out) 0).trans rfl
      have p1 : (0 ≤ (i : Int)) = True := eq_true (by omega)
      have p2 : ((i : Int) < (l0.length : Int)) = True := eq_true (by omega)
      have p3 : (i < l0.length) = True := eq_true (by omega)
      generalize (rd_T84 l0 (i : Int)) = x at *
      go_wp2_with fail
      go_quiet (fail)
      go_wp2_with fail
      have hk := Hi.out
      obtain ⟨k1, rfl⟩ : ∃ k1, gk = k1 + 1 := ⟨gk - 1, by omega⟩
      go_roundg k1
      case measure => omega
      case rel => exact ⟨i + 1, by go_num, ⟨by omega⟩, ⟨pwN HB.out _⟩⟩
    have hie : i = l0.length := by have := Hi.out; omega
    clear hlt Hi
    subst hie
    have a1 : wr.cell? ⟨g2, 1, none⟩ = some (.slice A1 l1.length c1) := (blk_cell (bkB S23.out HB.out) 1).trans rfl
    go_wp2_with fail
    clear a1
    go_loopg [44] l1.length (fun kq v44 wr => ∃ i : Nat, v44 = .int .i64 (i : Int) ∧ Az (i + kq = l1.length) ∧ Az (Below w3.heap.size w3 wr))
    case atStart => exact ⟨0, rfl, ⟨by omega⟩, HB⟩
    case round =>
      clear HB
      obtain ⟨i, rfl, Hi, HB⟩ := hrel
      by_cases hlt : i < l1.length
      rotate_left
      · go_wp2_with fail
        go_ret
        exact ⟨rfl, bst HB3.out HB.out⟩
      have HBw := Az.mk (bst HB3.out HB.out)
      obtain ⟨af, A3, c3, A4, c4, he, hx0, hx1, hx2, hx3, hx4, hl3, hC3, hl4, hC4⟩ := at_T41 (Kd.C_below HR1.out HBw.out) (i : Int) (by omega) (by omega)
      cases he
      obtain ⟨ag, B3, d3, B4, d4, he, hy0, hy1, hy2, hy3, hy4, hk3, hD3, hk4, hD4⟩ := at_T41 (Kd.C_below HT1.out HBw.out) (i : Int) (by omega) (by omega)
      cases he
      rw [Int.toNat_natCast] at hx0 hx1 hx2 hx3 hx4 hy0 hy1 hy2 hy3 hy4
      have HC3 := Az.mk hC3
      have Hl3 := Az.mk hl3
      have HC4 := Az.mk hC4
      have Hl4 := Az.mk hl4
      have HD3 := Az.mk hD3
      have Hk3 := Az.mk hk3
      have HD4 := Az.mk hD4
      have Hk4 := Az.mk hk4
      have HSi := Az.mk (HS.out (rd_T41 l1 (i : Int)) (by unfold rd_T41; rw [Int.toNat_natCast, List.getD_eq_getElem?_getD, List.getElem?_eq_getElem hlt]; exact List.getElem_mem _))
      have q1 : (0 ≤ (i : Int)) = True := eq_true (by omega)
      have q2 : ((i : Int) < (l1.length : Int)) = True := eq_true (by omega)
      have q3 : (i < l1.length) = True := eq_true (by omega)
      clear hl3 hC3 hl4 hC4 hk3 hD3 hk4 hD4
      generalize rd_T41 l1 (i : Int) = x at *
      replace hx3 : wr.cell? ⟨(af.add (i * 5)).block, (af.add (i * 5)).off + 2 + 1, none⟩ = _ := hx3
      replace hx4 : wr.cell? ⟨(af.add (i * 5)).block, (af.add (i * 5)).off + 2 + 2, none⟩ = _ := hx4
      replace hy3 : wr.cell? ⟨(ag.add (i * 5)).block, (ag.add (i * 5)).off + 2 + 1, none⟩ = _ := hy3
      replace hy4 : wr.cell? ⟨(ag.add (i * 5)).block, (ag.add (i * 5)).off + 2 + 2, none⟩ = _ := hy4
      have a1 : wr.cell? ⟨g2, 1, none⟩ = some (.slice (some af) l1.length c1) := (blk_cell (bkB S23.out HB.out) 1).trans rfl
      have b1 : wr.cell? ⟨g3, 1, none⟩ = some (.slice (some ag) l1.length d1) := (blk_cell (bkB S3.out HB.out) 1).trans rfl
      have HX := Az.mk (Below.refl wr.heap.size wr)
      go_upto_region 12 with fail
      try simp only [Act.put, List.setIfInBounds_toArray, List.set_cons_succ, List.set_cons_zero]
      go_cut [91] from 47 to 91 (fun v91 wc => v91 = .bool false ∧ Az (Below w3.heap.size w3 wc))
      case first =>
        go_region_held3 (fun w' => w'.cell? ⟨g2, 1, none⟩ = some (.slice (some af) l1.length c1) ∧ w'.cell? ⟨g3, 1, none⟩ = some (.slice (some ag) l1.length d1) ∧ w'.cell? (af.add (i * 5)) = some (.string x.f0) ∧ w'.cell? ⟨(af.add (i * 5)).block, (af.add (i * 5)).off + 1, none⟩ = some (.slice A3 x.f1.f0.length c3) ∧ w'.cell? ⟨(af.add (i * 5)).block, (af.add (i * 5)).off + 2, none⟩ = some (.int .i64 x.f2.f0) ∧ w'.cell? ⟨(af.add (i * 5)).block, (af.add (i * 5)).off + 2 + 1, none⟩ = some (.int .i64 x.f2.f1) ∧ w'.cell? ⟨(af.add (i * 5)).block, (af.add (i * 5)).off + 2 + 2, none⟩ = some (.slice A4 x.f2.f2.length c4) ∧ w'.cell? (ag.add (i * 5)) = some (.string x.f0) ∧ w'.cell? ⟨(ag.add (i * 5)).block, (ag.add (i * 5)).off + 1, none⟩ = some (.slice B3 x.f1.f0.length d3) ∧ w'.cell? ⟨(ag.add (i * 5)).block, (ag.add (i * 5)).off + 2, none⟩ = some (.int .i64 x.f2.f0) ∧ w'.cell? ⟨(ag.add (i * 5)).block, (ag.add (i * 5)).off + 2 + 1, none⟩ = some (.int .i64 x.f2.f1) ∧ w'.cell? ⟨(ag.add (i * 5)).block, (ag.add (i * 5)).off + 2 + 2, none⟩ = some (.slice B4 x.f2.f2.length d4)) (go_keep)
          (first
            | (go_at_call 37
               (with_reducible refine (sequal_calls HSi.out (w := wr.drew) (Kd.C_below HC3.out (below_drew (Below.refl _ _))) Hl3.out (Kd.C_below HD3.out (below_drew (Below.refl _ _))) Hk3.out).mono ?_)
               rintro e9 wA ⟨rfl, hbA⟩
               have HX2 := Az.mk (bst (below_drew HX.out) hbA)
               have y0 := cell_up hbA (show wr.drew.cell? _ = _ from a1)
               have y1 := cell_up hbA (show wr.drew.cell? _ = _ from b1)
               have y2 := cell_up hbA (show wr.drew.cell? _ = _ from hx0)
               have y3 := cell_up hbA (show wr.drew.cell? _ = _ from hx1)
               have y4 := cell_up hbA (show wr.drew.cell? _ = _ from hx2)
               have y5 := cell_up hbA (show wr.drew.cell? _ = _ from hx3)
               have y6 := cell_up hbA (show wr.drew.cell? _ = _ from hx4)
               have y7 := cell_up hbA (show wr.drew.cell? _ = _ from hy0)
               have y8 := cell_up hbA (show wr.drew.cell? _ = _ from hy1)
               have y9 := cell_up hbA (show wr.drew.cell? _ = _ from hy2)
               have y10 := cell_up hbA (show wr.drew.cell? _ = _ from hy3)
               have y11 := cell_up hbA (show wr.drew.cell? _ = _ from hy4)
               clear hbA)
            | (go_at_call 38
               (with_reducible refine (tequal_calls _ x.f2.f0 x.f2.f1 x.f2.f2 A4 B4 c4 d4 wA (Nat.lt_succ_self _) (Kd.C_below HC4.out HX2.out) Hl4.out (Kd.C_below HD4.out HX2.out) Hk4.out).mono ?_)
               rintro e9 wB ⟨rfl, hbB⟩
               have HX3 := Az.mk (bst HX2.out hbB)
               have z0 := cell_up hbB y0
               have z1 := cell_up hbB y1
               have z2 := cell_up hbB y2
               have z3 := cell_up hbB y3
               have z4 := cell_up hbB y4
               have z5 := cell_up hbB y5
               have z6 := cell_up hbB y6
               have z7 := cell_up hbB y7
               have z8 := cell_up hbB y8
               have z9 := cell_up hbB y9
               have z10 := cell_up hbB y10
               have z11 := cell_up hbB y11
               clear hbB))
        all_goals (go_wp2_with fail; go_meet; exact ⟨rfl, ⟨bst HB.out HX3.out⟩⟩)
      case rest =>
        obtain ⟨rfl, HBc⟩ := hcut
        clear a1 b1 hx0 hx1 hx2 hx3 hx4 hy0 hy1 hy2 hy3 hy4
        go_wp2_with fail
        have hk := Hi.out
        obtain ⟨k1, rfl⟩ : ∃ k1, gk = k1 + 1 := ⟨gk - 1, by omega⟩
        go_roundg k1
        case measure => omega
        case rel => exact ⟨i + 1, by go_num, ⟨by omega⟩, HBc⟩
end Go.Proofs.Ytkgknidogelffaa.I
namespace Go.Proofs.Ytkgknidogelffaa.I
open Go.RowKit Go.Proofs.YtkgknidogelffaaW.PrintWords Go.Proofs.YtkgknidogelffaaW.PrintLast Go.Proofs.YtkgknidogelffaaW.PrintMore
attribute [local go_sem] max2_int min2_int max_two min_two max_three min_three max_four min_four   -- for this text's walks alone
set_option linter.unusedVariables false
set_option linter.unusedSimpArgs false
mutual
def virgationref01_Copy.l0 : Nat → List (S39) → Int → Int → List (S39) → Option ((List (S39)))
  | 0, _, _, _, _ => none
  | k + 1, x7, x8, x9, x297000 => if x9 < x8 then (if 0 ≤ x9 then (if x9 < (x7.length : Int) then ((virgationref01_Copy.f k ((rd_T39 x7 x9).f0)).bind fun t299 => (if x297000.length < 5864062014805 then (virgationref01_Copy.l0 k x7 x8 (wrap64 (x9 + 1)) (x297000 ++ [(⟨t299⟩ : S39)])) else (none))) else (none)) else (none)) else (some x297000)
def virgationref01_Copy.f : Nat → List (S39) → Option ((List (S39)))
  | 0, _ => none
  | k + 1, l0_0 => virgationref01_Copy.l0 k l0_0 (l0_0.length : Int) 0 ([] : List (S39))
end
def virgationref01_Copy.T5 : Bool × List (List Nat × List Nat) := (true, [([], []), ([0], [0]), ([], []), ([2], [2]), ([3], [3]), ([1, 4, 3], [1, 4]), ([0, 1, 2, 3, 4, 5], []), ([6, 5, 5, 0, 1, 2, 3, 4, 5], [5, 6])])
def virgationref01_Copy.B5 : List Nat := [0, 1, 0, 4, 12, 31, 63, 127]
theorem virgationref01_Copy.tab5 : rtab .any (opsOf Try.f29 5) = virgationref01_Copy.T5 := by kernel_rfl
theorem virgationref01_Copy.bits5 : waitsOk virgationref01_Copy.T5.2 virgationref01_Copy.B5 = true := by kernel_rfl
set_option maxHeartbeats 8000000 in
set_option maxRecDepth 100000 in
theorem virgationref01_Copy.calls (k : Nat) : ∀ (A0_0 : Option Addr) (c0_0 : Nat) (l0_0 : List (S39)) (r : List (S39)) (w : World) (hr0_0 : Kd.C k39 w A0_0 l0_0.length l0_0) (hc0_0 : l0_0.length ≤ c0_0) (h : virgationref01_Copy.f k l0_0 = some r),
    Calls Try.prog 29 #[.agg #[.slice A0_0 l0_0.length c0_0]] w fun e w' => ∃ v0_ : Value, e = .returned (.agg #[v0_]) ∧ Kd.R k39 39 w' w.heap.size (fun _ => True) v0_ r ∧ Below w.heap.size w w' := by
  induction k using Nat.strongRecOn with
  | _ k ih =>
  intro A0_0 c0_0 l0_0 r w hr0_0 hc0_0 h
  cases k with
  | zero => exact absurd h (by simp [virgationref01_Copy.f])
  | succ k =>
  simp only [virgationref01_Copy.f] at h
  have hu39 := Try.underlying39
  have HR0_0 := Az.mk hr0_0
  have HC0_0 := Az.mk hc0_0
  clear hr0_0 hc0_0
  have HB := Az.mk (Below.refl w.heap.size w)
  have H : (virgationref01_Copy.l0 k l0_0 (l0_0.length : Int) 0 ([] : List (S39))) = some r := h
  clear h
  have H' := Az.mk H
  clear H
  go_enter Try.func29, Try.ntmps29
  go_wp2_with (first | ((with_reducible refine gate_dst (N := 1) rfl ?_); refine box_event ?hg (N := 1) ?hd (cs := #[.slice A0_0 l0_0.length c0_0]) (t := 39) ?hr ?_; (case hd => rfl); (case hg => rfl); (case hr => first | (go_simp; done) | (go_simp; rfl)); intro gb294 hg w2 hbox hb; have n0_ := Az.mk (bst (by repeat (first | (with_reducible first | exact HB.out | apply bal | apply pwN | apply bd1) | exact HB.out)) hb); have n1_ := Az.mk (hbox); have n2_ := Az.mk ((by rw [hg]; exact (below_size (by repeat (first | (with_reducible first | exact HB.out | apply bal | apply pwN | apply bd1) | exact HB.out))) : w.heap.size ≤ gb294)); have n3_ := Az.mk ((by rw [hg]; exact (below_size (by repeat (first | (with_reducible first | exact HB.out | apply bal | apply pwN | apply bd1) | exact HB.out))) : w.heap.size ≤ gb294)); clear HB; have HB := n0_; have BK294 := n1_; have GW294 := n2_; have GE294 := n3_; clear n0_ n1_ n2_ n3_; clear hb hbox hg) | ((with_reducible refine gate_dst (N := 2) rfl ?_); refine box_event ?hg (N := 2) ?hd (cs := #[.slice none 0 0]) (t := 39) ?hr ?_; (case hd => rfl); (case hg => rfl); (case hr => first | (go_simp; done) | (go_simp; rfl)); intro gb295 hg w3 hbox hb; have n0_ := Az.mk (bkB (g := gb294) (o := .cells #[.slice A0_0 l0_0.length c0_0] 39 (0, 0)) (by (with_reducible repeat (first | refine bdN ?_ _ | refine blk_drew ?_ | refine bkA ?_ _)); exact BK294.out) hb); have n1_ := Az.mk (bst (by repeat (first | (with_reducible first | exact HB.out | apply bal | apply pwN | apply bd1 | refine bset ?_ GE294.out) | exact HB.out)) hb); have n2_ := Az.mk (hbox); have n3_ := Az.mk ((by rw [hg]; exact (below_size (by repeat (first | (with_reducible first | exact HB.out | apply bal | apply pwN | apply bd1 | refine bset ?_ GE294.out) | exact HB.out))) : w.heap.size ≤ gb295)); have n4_ := Az.mk ((by rw [hg]; exact (below_size (by repeat (first | (with_reducible first | exact HB.out | apply bal | apply pwN | apply bd1 | refine bset ?_ GE294.out) | exact HB.out))) : w.heap.size ≤ gb295)); have n5_ := Az.mk ((by rw [hg]; exact Nat.ne_of_lt (blk_lt (g := gb294) (o := .cells #[.slice A0_0 l0_0.length c0_0] 39 (0, 0)) (by (with_reducible repeat (first | refine bdN ?_ _ | refine blk_drew ?_ | refine bkA ?_ _)); exact BK294.out)) : gb294 ≠ gb295)); have n6_ := Az.mk ((by rw [hg]; exact Nat.ne_of_gt (blk_lt (g := gb294) (o := .cells #[.slice A0_0 l0_0.length c0_0] 39 (0, 0)) (by (with_reducible repeat (first | refine bdN ?_ _ | refine blk_drew ?_ | refine bkA ?_ _)); exact BK294.out)) : gb295 ≠ gb294)); clear BK294; clear HB; have BK294 := n0_; have HB := n1_; have BK295 := n2_; have GW295 := n3_; have GE295 := n4_; have NB294_295 := n5_; have NB295_294 := n6_; clear n0_ n1_ n2_ n3_ n4_ n5_ n6_; clear hb hbox hg) | ((with_reducible refine gate_dst (N := 3) rfl ?_); refine box_event ?hg (N := 3) ?hd (cs := #[.slice none 0 0]) (t := 39) ?hr ?_; (case hd => rfl); (case hg => rfl); (case hr => first | (go_simp; done) | (go_simp; rfl)); intro gb296 hg w4 hbox hb; have n0_ := Az.mk (bkB (g := gb294) (o := .cells #[.slice A0_0 l0_0.length c0_0] 39 (0, 0)) (by (with_reducible repeat (first | refine bdN ?_ _ | refine blk_drew ?_ | refine bkA ?_ _)); exact BK294.out) hb); have n1_ := Az.mk (bkB (g := gb295) (o := .cells #[.slice none 0 0] 39 (0, 0)) (by (with_reducible repeat (first | refine bdN ?_ _ | refine blk_drew ?_ | refine bkA ?_ _)); exact BK295.out) hb); have n2_ := Az.mk (bst (by repeat (first | (with_reducible first | exact HB.out | apply bal | apply pwN | apply bd1 | refine bset ?_ GE294.out | refine bset ?_ GE295.out) | exact HB.out)) hb); have n3_ := Az.mk (hbox); have n4_ := Az.mk ((by rw [hg]; exact (below_size (by repeat (first | (with_reducible first | exact HB.out | apply bal | apply pwN | apply bd1 | refine bset ?_ GE294.out | refine bset ?_ GE295.out) | exact HB.out))) : w.heap.size ≤ gb296)); have n5_ := Az.mk ((by rw [hg]; exact (below_size (by repeat (first | (with_reducible first | exact HB.out | apply bal | apply pwN | apply bd1 | refine bset ?_ GE294.out | refine bset ?_ GE295.out) | exact HB.out))) : w.heap.size ≤ gb296)); have n6_ := Az.mk ((by rw [hg]; exact Nat.ne_of_lt (blk_lt (g := gb294) (o := .cells #[.slice A0_0 l0_0.length c0_0] 39 (0, 0)) (by (with_reducible repeat (first | refine bdN ?_ _ | refine blk_drew ?_ | refine bkA ?_ _)); exact BK294.out)) : gb294 ≠ gb296)); have n7_ := Az.mk ((by rw [hg]; exact Nat.ne_of_gt (blk_lt (g := gb294) (o := .cells #[.slice A0_0 l0_0.length c0_0] 39 (0, 0)) (by (with_reducible repeat (first | refine bdN ?_ _ | refine blk_drew ?_ | refine bkA ?_ _)); exact BK294.out)) : gb296 ≠ gb294)); have n8_ := Az.mk ((by rw [hg]; exact Nat.ne_of_lt (blk_lt (g := gb295) (o := .cells #[.slice none 0 0] 39 (0, 0)) (by (with_reducible repeat (first | refine bdN ?_ _ | refine blk_drew ?_ | refine bkA ?_ _)); exact BK295.out)) : gb295 ≠ gb296)); have n9_ := Az.mk ((by rw [hg]; exact Nat.ne_of_gt (blk_lt (g := gb295) (o := .cells #[.slice none 0 0] 39 (0, 0)) (by (with_reducible repeat (first | refine bdN ?_ _ | refine blk_drew ?_ | refine bkA ?_ _)); exact BK295.out)) : gb296 ≠ gb295)); clear BK294; clear BK295; clear HB; have BK294 := n0_; have BK295 := n1_; have HB := n2_; have BK296 := n3_; have GW296 := n4_; have GE296 := n5_; have NB294_296 := n6_; have NB296_294 := n7_; have NB295_296 := n8_; have NB296_295 := n9_; clear n0_ n1_ n2_ n3_ n4_ n5_ n6_ n7_ n8_ n9_; clear hb hbox hg; have hnb5 := NB294_295.out; have hnc5 := NB295_294.out; have hnb6 := NB294_296.out; have hnc6 := NB296_294.out; have hcz7_0 : w4.cell? ⟨gb294, 0, none⟩ = some (.slice A0_0 l0_0.length c0_0) := (blk_cell BK294.out 0).trans rfl; have hfz7_0 := bkF BK294.out 0))
  go_loopg [9] k (fun kq v9 w' => ∃ (x9_1 : Int) (x297000_1 : List (S39)) (u297000 : Value), v9 = .int .i64 x9_1 ∧ Az (virgationref01_Copy.l0 kq l0_0 (l0_0.length : Int) x9_1 x297000_1 = some r) ∧ Az (kq ≤ k) ∧ Az (Kd.R k39 39 w' w.heap.size (fun k_ => k_ ≠ gb294 ∧ k_ ≠ gb295 ∧ k_ ≠ gb296) u297000 x297000_1) ∧ Az (w'.heap[gb294]? = some (.cells #[(.slice A0_0 l0_0.length c0_0)] 39 (0, 0))) ∧ Az (w'.heap[gb295]? = some (.cells #[(.slice none 0 0)] 39 (0, 0))) ∧ Az (w'.heap[gb296]? = some (.cells #[u297000] 39 (0, 0))) ∧ Az (Below w.heap.size w w'))
  case atStart => exact ⟨(0), (([] : List (S39))), (.slice none 0 0), (by first | rfl | (simp; done) | (simp [*]; done)), H', ⟨Nat.le_refl _⟩, ⟨by first | exact Kd.R_nil _ _ _ _ _ | exact Kd.N_nil _ _ _ _ _ | exact Kd.V_nil _ _ _ _ _ | exact Kd.Q_nil _ _ _ _ _ | exact Kd.S_nil _ _ _ _ _⟩, ⟨by (with_reducible repeat (first | refine bdN ?_ _ | refine blk_drew ?_ | refine bkA ?_ _)); exact BK294.out⟩, ⟨by (with_reducible repeat (first | refine bdN ?_ _ | refine blk_drew ?_ | refine bkA ?_ _)); exact BK295.out⟩, ⟨by (with_reducible repeat (first | refine bdN ?_ _ | refine blk_drew ?_ | refine bkA ?_ _)); exact BK296.out⟩, ⟨by repeat (first | (with_reducible first | exact HB.out | apply bal | apply pwN | apply bd1 | refine bset ?_ GE294.out | refine bset ?_ GE295.out | refine bset ?_ GE296.out) | exact HB.out)⟩⟩
  case round =>
    clear H'
    try clear c2
    try clear p2
    try clear c5
    try clear c6
    try clear hcz7_0
    try clear hfz7_0
    obtain ⟨x9_1, x297000_1, u297000, rfl, HA, HK1, HO_297000, BK294, BK295, BK296, HB⟩ := hrel
    cases gk with
    | zero => exact absurd HA.out (by simp [virgationref01_Copy.l0])
    | succ k1 =>
      have H := HA.out
      clear HA
      simp only [virgationref01_Copy.l0] at H
      by_cases c8 : x9_1 < (l0_0.length : Int)
      · rw [if_pos c8] at H
        have c8b0 : decide (x9_1 < (l0_0.length : Int)) = true := decide_eq_true c8
        clear c8
        by_cases c9 : 0 ≤ x9_1
        · rw [if_pos c9] at H
          have c9b0 : decide (0 ≤ x9_1) = true := decide_eq_true c9
          clear c9
          by_cases c10 : x9_1 < (l0_0.length : Int)
          · rw [if_pos c10] at H
            have c10b0 : decide (x9_1 < (l0_0.length : Int)) = true := decide_eq_true c10
            clear c10
            replace H := Option.bind_eq_some_iff.mp H
            obtain ⟨t299, A110, H⟩ := H
            replace H : (if x297000_1.length < 5864062014805 then (virgationref01_Copy.l0 k1 l0_0 (l0_0.length : Int) (wrap64 (x9_1 + 1)) (x297000_1 ++ [(⟨t299⟩ : S39)])) else (none)) = some r := H
            have A11 := Az.mk A110
            clear A110
            by_cases c12 : x297000_1.length < 5864062014805
            · rw [if_pos c12] at H
              have LMc12 := Az.mk c12
              clear c12
              obtain ⟨y302, hy302⟩ : ∃ y_ : List (S39), y_ = (x297000_1 ++ [(⟨t299⟩ : S39)]) := ⟨_, rfl⟩
              replace H : (virgationref01_Copy.l0 k1 l0_0 (l0_0.length : Int) (wrap64 (x9_1 + 1)) y302) = some r := by first | (rw [hy302]; with_reducible exact H) | (have H2_ := (Option.bind_some _ _).symm.trans H; rw [hy302]; with_reducible exact H2_) | (have H2_ := (Option.bind_some _ _).symm.trans H; with_reducible exact H2_) | with_reducible exact H | (rw [hy302]; exact H) | exact H
              have Ny302 := Az.mk hy302
              clear hy302
              have H' := Az.mk H
              clear H
              have p297 : 0 ≤ (x9_1 : Int) := of_decide_eq_true (by first | (with_reducible assumption) | assumption)
              have q297 : x9_1 < (l0_0.length : Int) := of_decide_eq_true (by first | (with_reducible assumption) | assumption)
              obtain ⟨ad297, A297_0, c297_0, e297, hx297_0, hl297_0, hi297_0⟩ := at_T39 HR0_0.out x9_1 p297 q297
              cases e297
              replace hx297_0 := (HB.out.cell (World.block_lt_of_cell? w _ hx297_0)).trans hx297_0
              have HR297_0 := Az.mk hi297_0
              have HC297_0 := Az.mk hl297_0
              clear hi297_0 hl297_0
              replace p297 := eq_true p297
              replace q297 := eq_true q297
              try go_wp2_with (first | ((with_reducible refine gate_dst (N := 5) rfl ?_); refine box_event ?hg (N := 5) ?hd (cs := #[.slice none 0 0]) (t := 39) ?hr ?_; (case hd => rfl); (case hg => rfl); (case hr => first | (go_simp; done) | (go_simp; rfl)); intro gb298 hg w13 hbox hb; have n0_ := Az.mk (Kd.R_below (Kd.R_elderB (by (with_reducible repeat (first | apply Kd.R_alloc | apply Kd.R_drewN | apply Kd.R_drew)); exact HO_297000.out) gb298 (Nat.le_of_eq hg.symm)) hb); have n1_ := Az.mk (bkB (g := gb294) (o := .cells #[.slice (some ad297) l0_0.length c0_0] 39 (0, 0)) (by (with_reducible repeat (first | refine bdN ?_ _ | refine blk_drew ?_ | refine bkA ?_ _)); exact BK294.out) hb); have n2_ := Az.mk (bkB (g := gb295) (o := .cells #[.slice none 0 0] 39 (0, 0)) (by (with_reducible repeat (first | refine bdN ?_ _ | refine blk_drew ?_ | refine bkA ?_ _)); exact BK295.out) hb); have n3_ := Az.mk (bkB (g := gb296) (o := .cells #[u297000] 39 (0, 0)) (by (with_reducible repeat (first | refine bdN ?_ _ | refine blk_drew ?_ | refine bkA ?_ _)); exact BK296.out) hb); have n4_ := Az.mk (bst (by repeat (first | (with_reducible first | exact HB.out | apply bal | apply pwN | apply bd1 | refine bset ?_ GE294.out | refine bset ?_ GE295.out | refine bset ?_ GE296.out) | exact HB.out)) hb); have n5_ := Az.mk (hbox); have n6_ := Az.mk ((by rw [hg]; exact (below_size (by repeat (first | (with_reducible first | exact HB.out | apply bal | apply pwN | apply bd1 | refine bset ?_ GE294.out | refine bset ?_ GE295.out | refine bset ?_ GE296.out) | exact HB.out))) : w.heap.size ≤ gb298)); have n7_ := Az.mk ((by rw [hg]; exact (below_size (by repeat (first | (with_reducible first | exact HB.out | apply bal | apply pwN | apply bd1 | refine bset ?_ GE294.out | refine bset ?_ GE295.out | refine bset ?_ GE296.out) | exact HB.out))) : w.heap.size ≤ gb298)); have n8_ := Az.mk ((by rw [hg]; exact Nat.ne_of_lt (blk_lt (g := gb294) (o := .cells #[.slice (some ad297) l0_0.length c0_0] 39 (0, 0)) (by (with_reducible repeat (first | refine bdN ?_ _ | refine blk_drew ?_ | refine bkA ?_ _)); exact BK294.out)) : gb294 ≠ gb298)); have n9_ := Az.mk ((by rw [hg]; exact Nat.ne_of_gt (blk_lt (g := gb294) (o := .cells #[.slice (some ad297) l0_0.length c0_0] 39 (0, 0)) (by (with_reducible repeat (first | refine bdN ?_ _ | refine blk_drew ?_ | refine bkA ?_ _)); exact BK294.out)) : gb298 ≠ gb294)); have n10_ := Az.mk ((by rw [hg]; exact Nat.ne_of_lt (blk_lt (g := gb295) (o := .cells #[.slice none 0 0] 39 (0, 0)) (by (with_reducible repeat (first | refine bdN ?_ _ | refine blk_drew ?_ | refine bkA ?_ _)); exact BK295.out)) : gb295 ≠ gb298)); have n11_ := Az.mk ((by rw [hg]; exact Nat.ne_of_gt (blk_lt (g := gb295) (o := .cells #[.slice none 0 0] 39 (0, 0)) (by (with_reducible repeat (first | refine bdN ?_ _ | refine blk_drew ?_ | refine bkA ?_ _)); exact BK295.out)) : gb298 ≠ gb295)); have n12_ := Az.mk ((by rw [hg]; exact Nat.ne_of_lt (blk_lt (g := gb296) (o := .cells #[u297000] 39 (0, 0)) (by (with_reducible repeat (first | refine bdN ?_ _ | refine blk_drew ?_ | refine bkA ?_ _)); exact BK296.out)) : gb296 ≠ gb298)); have n13_ := Az.mk ((by rw [hg]; exact Nat.ne_of_gt (blk_lt (g := gb296) (o := .cells #[u297000] 39 (0, 0)) (by (with_reducible repeat (first | refine bdN ?_ _ | refine blk_drew ?_ | refine bkA ?_ _)); exact BK296.out)) : gb298 ≠ gb296)); clear HO_297000; clear BK294; clear BK295; clear BK296; clear HB; have HO_297000 := n0_; have BK294 := n1_; have BK295 := n2_; have BK296 := n3_; have HB := n4_; have BK298 := n5_; have GW298 := n6_; have GE298 := n7_; have NB294_298 := n8_; have NB298_294 := n9_; have NB295_298 := n10_; have NB298_295 := n11_; have NB296_298 := n12_; have NB298_296 := n13_; clear n0_ n1_ n2_ n3_ n4_ n5_ n6_ n7_ n8_ n9_ n10_ n11_ n12_ n13_; clear hb hbox hg; have hnb14 := NB298_294.out; have hnc14 := NB294_298.out; have hnb15 := NB298_295.out; have hnc15 := NB295_298.out; have hnb16 := NB298_296.out; have hnc16 := NB296_298.out; have hcz17_0 : w13.cell? ⟨gb298, 0, none⟩ = some (.slice none 0 0) := (blk_cell BK298.out 0).trans rfl; have hfz17_0 := bkF BK298.out 0))
              have n0_ : Az (Kd.R k39 39 (w13.setCell ⟨gb298, 0, none⟩ (.slice A297_0 ((rd_T39 l0_0 x9_1).f0).length c297_0)) w.heap.size (fun k_ => k_ ≠ gb294 ∧ k_ ≠ gb295 ∧ k_ ≠ gb296 ∧ k_ ≠ gb298) u297000 x297000_1) := ⟨by (with_reducible repeat (first | apply Kd.R_alloc | apply Kd.R_drewN | apply Kd.R_drew)); exact Kd.R_mono (Kd.R_far (p := ⟨gb298, 0, none⟩) (Kd.R_mono HO_297000.out (fun k_ hk => (⟨hk, hk.2⟩ : _ ∧ k_ ≠ gb298))) (fun _ hk => hk.2) (.slice A297_0 ((rd_T39 l0_0 x9_1).f0).length c297_0)) (fun _ hk => ⟨hk.1.1.1, ⟨hk.1.1.2.1, ⟨hk.1.1.2.2, hk.1.2⟩⟩⟩)⟩
              have n1_ : Az ((w13.setCell ⟨gb298, 0, none⟩ (.slice A297_0 ((rd_T39 l0_0 x9_1).f0).length c297_0)).heap[gb294]? = some (.cells #[.slice (some ad297) l0_0.length c0_0] 39 (0, 0))) := ⟨by (with_reducible repeat (first | refine bdN ?_ _ | refine blk_drew ?_ | refine bkA ?_ _)); refine blk_far ?_ NB294_298.out _; (with_reducible repeat (first | refine bdN ?_ _ | refine blk_drew ?_ | refine bkA ?_ _)); exact BK294.out⟩
              have n2_ : Az ((w13.setCell ⟨gb298, 0, none⟩ (.slice A297_0 ((rd_T39 l0_0 x9_1).f0).length c297_0)).heap[gb295]? = some (.cells #[.slice none 0 0] 39 (0, 0))) := ⟨by (with_reducible repeat (first | refine bdN ?_ _ | refine blk_drew ?_ | refine bkA ?_ _)); refine blk_far ?_ NB295_298.out _; (with_reducible repeat (first | refine bdN ?_ _ | refine blk_drew ?_ | refine bkA ?_ _)); exact BK295.out⟩
              have n3_ : Az ((w13.setCell ⟨gb298, 0, none⟩ (.slice A297_0 ((rd_T39 l0_0 x9_1).f0).length c297_0)).heap[gb296]? = some (.cells #[u297000] 39 (0, 0))) := ⟨by (with_reducible repeat (first | refine bdN ?_ _ | refine blk_drew ?_ | refine bkA ?_ _)); refine blk_far ?_ NB296_298.out _; (with_reducible repeat (first | refine bdN ?_ _ | refine blk_drew ?_ | refine bkA ?_ _)); exact BK296.out⟩
              have n4_ : Az ((w13.setCell ⟨gb298, 0, none⟩ (.slice A297_0 ((rd_T39 l0_0 x9_1).f0).length c297_0)).heap[gb298]? = some (.cells #[.slice A297_0 ((rd_T39 l0_0 x9_1).f0).length c297_0] 39 (0, 0))) := ⟨by (with_reducible repeat (first | refine bdN ?_ _ | refine blk_drew ?_ | refine bkA ?_ _)); refine blk_put (cs := #[.slice none 0 0]) ?_ 0 _ rfl; (with_reducible repeat (first | refine bdN ?_ _ | refine blk_drew ?_ | refine bkA ?_ _)); exact BK298.out⟩
              have n5_ : Az (Below w.heap.size w (w13.setCell ⟨gb298, 0, none⟩ (.slice A297_0 ((rd_T39 l0_0 x9_1).f0).length c297_0))) := ⟨by repeat (first | (with_reducible first | exact HB.out | apply bal | apply pwN | apply bd1 | refine bset ?_ GE294.out | refine bset ?_ GE295.out | refine bset ?_ GE296.out | refine bset ?_ GE298.out) | exact HB.out)⟩
              (try clear HO_297000)
              (try clear BK294)
              (try clear BK295)
              (try clear BK296)
              (try clear BK298)
              (try clear HB)
              generalize (w13.setCell ⟨gb298, 0, none⟩ (.slice A297_0 ((rd_T39 l0_0 x9_1).f0).length c297_0)) = w18 at n0_ n1_ n2_ n3_ n4_ n5_ ⊢
              have HO_297000 := n0_
              have BK294 := n1_
              have BK295 := n2_
              have BK296 := n3_
              have BK298 := n4_
              have HB := n5_
              clear n0_ n1_ n2_ n3_ n4_ n5_
              have n0_ := Az.mk (Kd.R_drew HO_297000.out)
              have n1_ := Az.mk (blk_drew BK294.out)
              have n2_ := Az.mk (blk_drew BK295.out)
              have n3_ := Az.mk (blk_drew BK296.out)
              have n4_ := Az.mk (blk_drew BK298.out)
              have n5_ := Az.mk (bd1 HB.out)
              clear HO_297000
              clear BK294
              clear BK295
              clear BK296
              clear BK298
              clear HB
              have HO_297000 := n0_
              have BK294 := n1_
              have BK295 := n2_
              have BK296 := n3_
              have BK298 := n4_
              have HB := n5_
              clear n0_ n1_ n2_ n3_ n4_ n5_
              refine start_ (n := 8) (S := fun w' => w'.cell? ⟨gb296, 0, none⟩ = some (u297000) ∧ w'.cell? ⟨gb298, 0, none⟩ = some (.slice A297_0 ((rd_T39 l0_0 x9_1).f0).length c297_0)) (ds := [7]) #[false, false, false, false, false, false, false, false] (by kernel_rfl) rfl rfl ⟨(blk_cell BK296.out 0).trans rfl, (blk_cell BK298.out 0).trans rfl⟩ (fun hHeld => ?_); refine with_tabW virgationref01_Copy.tab5 virgationref01_Copy.bits5 (fun HT_ HW_ => ?_)
              generalize w18.drew = w19 at HO_297000 BK294 BK295 BK296 BK298 HB hHeld ⊢
              refine pure_ (i := 0) (N := some 13) (v := ?_) (a' := ?_) #[true, false, false, false, false, false, false, false] rfl rfl (any_of HT_.out (by kernel_rfl)) (fun _ _ _ h => h) (Or.inl ⟨by rfl, ?_⟩) ?_ ?_
              rotate_left
              · intro w'
                go_simp
                with_reducible rfl
              rotate_left
              · simp only [Act.put, List.setIfInBounds_toArray, List.set_cons_zero, List.set_cons_succ, i64_w, i32_w]
                rfl
              refine take_ (i := 1) (N := some 14) (v := ?_) (a' := ?_) #[true, true, false, false, false, false, false, false] rfl rfl (take_ofW HT_.out HW_.out (by kernel_rfl)) (fun _ _ _ h => h) (Or.inl ⟨by rfl, ?_⟩) hHeld ?_ ?_
              rotate_left
              · rintro w' ⟨s0, s1⟩
                go_simp
                with_reducible rfl
              rotate_left
              · simp only [Act.put, List.setIfInBounds_toArray, List.set_cons_zero, List.set_cons_succ, i64_w, i32_w]
                rfl
              refine take_ (i := 2) (N := some 15) (v := ?_) (a' := ?_) #[true, true, true, false, false, false, false, false] rfl rfl (take_ofW HT_.out HW_.out (by kernel_rfl)) (fun _ _ _ h => h) (Or.inl ⟨by rfl, ?_⟩) hHeld ?_ ?_
              rotate_left
              · rintro w' ⟨s0, s1⟩
                go_simp
                with_reducible rfl
              rotate_left
              · simp only [Act.put, List.setIfInBounds_toArray, List.set_cons_zero, List.set_cons_succ, i64_w, i32_w]
                rfl
              refine one_ (i := 3) (N := some 16) #[true, true, true, true, false, false, false, false] rfl rfl (one_of HT_.out (by kernel_rfl)) (by decide) (fun K hK => ?_)
              refine goes_ Try.func29 (by kernel_rfl) rfl #[.agg #[.slice A297_0 ((rd_T39 l0_0 x9_1).f0).length c297_0]] (by rfl) rfl rfl (by (try simp only [List.map_toArray, List.map_cons, List.map_nil]); first | done | rfl | (simp only [List.length_drop, List.length_take]; rfl)) ?_
              with_reducible refine (ih k1 (by have := HK1.out; omega) _ _ ((rd_T39 l0_0 x9_1).f0) t299 _ ?side1 ?side2 A11.out).mono ?_
              (case side1 => repeat (first | exact (Kd.C_below HR297_0.out HB.out) | (with_reducible refine Kd.C_alloc ?_ _) | (with_reducible refine Kd.C_drewN ?_ _) | (with_reducible refine Kd.C_drew ?_)))
              (case side2 => exact HC297_0.out)
              rintro e w20 ⟨v300, rfl, ho0, hb⟩
              refine ⟨_, rfl, ?_⟩
              have n0_ := Az.mk (Kd.R_elder' (by (with_reducible repeat (first | apply Kd.R_alloc | apply Kd.R_drewN | apply Kd.R_drew)); exact HO_297000.out) (Kd.R_base ho0) hb)
              have n1_ := Az.mk (Kd.R_lower (Kd.R_newB (Kd.R_newB (Kd.R_newB (Kd.R_newB (Kd.R_new' ho0 (Kd.R_lt (by (with_reducible repeat (first | apply Kd.R_alloc | apply Kd.R_drewN | apply Kd.R_drew)); exact HO_297000.out))) (g := gb294) (o := .cells #[.slice (some ad297) l0_0.length c0_0] 39 (0, 0)) (by (with_reducible repeat (first | refine bdN ?_ _ | refine blk_drew ?_ | refine bkA ?_ _)); exact BK294.out)) (g := gb295) (o := .cells #[.slice none 0 0] 39 (0, 0)) (by (with_reducible repeat (first | refine bdN ?_ _ | refine blk_drew ?_ | refine bkA ?_ _)); exact BK295.out)) (g := gb296) (o := .cells #[u297000] 39 (0, 0)) (by (with_reducible repeat (first | refine bdN ?_ _ | refine blk_drew ?_ | refine bkA ?_ _)); exact BK296.out)) (g := gb298) (o := .cells #[.slice A297_0 ((rd_T39 l0_0 x9_1).f0).length c297_0] 39 (0, 0)) (by (with_reducible repeat (first | refine bdN ?_ _ | refine blk_drew ?_ | refine bkA ?_ _)); exact BK298.out)) (below_size (by repeat (first | (with_reducible first | exact HB.out | apply bal | apply pwN | apply bd1 | refine bset ?_ GE294.out | refine bset ?_ GE295.out | refine bset ?_ GE296.out | refine bset ?_ GE298.out) | exact HB.out))))
              have n2_ := Az.mk (bkB (g := gb294) (o := .cells #[.slice (some ad297) l0_0.length c0_0] 39 (0, 0)) (by (with_reducible repeat (first | refine bdN ?_ _ | refine blk_drew ?_ | refine bkA ?_ _)); exact BK294.out) hb)
              have n3_ := Az.mk (bkB (g := gb295) (o := .cells #[.slice none 0 0] 39 (0, 0)) (by (with_reducible repeat (first | refine bdN ?_ _ | refine blk_drew ?_ | refine bkA ?_ _)); exact BK295.out) hb)
              have n4_ := Az.mk (bkB (g := gb296) (o := .cells #[u297000] 39 (0, 0)) (by (with_reducible repeat (first | refine bdN ?_ _ | refine blk_drew ?_ | refine bkA ?_ _)); exact BK296.out) hb)
              have n5_ := Az.mk (bkB (g := gb298) (o := .cells #[.slice A297_0 ((rd_T39 l0_0 x9_1).f0).length c297_0] 39 (0, 0)) (by (with_reducible repeat (first | refine bdN ?_ _ | refine blk_drew ?_ | refine bkA ?_ _)); exact BK298.out) hb)
              have n6_ := Az.mk (bst (by repeat (first | (with_reducible first | exact HB.out | apply bal | apply pwN | apply bd1 | refine bset ?_ GE294.out | refine bset ?_ GE295.out | refine bset ?_ GE296.out | refine bset ?_ GE298.out) | exact HB.out)) hb)
              clear HO_297000
              clear BK294
              clear BK295
              clear BK296
              clear BK298
              clear HB
              have HO_297000 := n0_
              have HO301 := n1_
              have BK294 := n2_
              have BK295 := n3_
              have BK296 := n4_
              have BK298 := n5_
              have HB := n6_
              clear n0_ n1_ n2_ n3_ n4_ n5_ n6_
              (try clear hb)
              (try clear hb2)
              (try clear hk)
              (try clear hi)
              (try clear ho0)
              obtain ⟨Ao22, co22, eo22⟩ := Kd.R_slice HO301.out
              (first | subst eo22 | (injection eo22 with f1_ f2_ f3_; have f4_ := f1_.symm; have f5_ := f3_.symm; clear f1_ f2_ f3_; subst f4_; subst f5_))
              refine hK.out _ _ ⟨(blk_cell BK296.out 0).trans rfl, (blk_cell BK298.out 0).trans rfl⟩ (fun hHeld => ?_)
              clear hK K
              refine norm_ (a' := ?_) ?_ ?_
              rotate_left
              · show Act.put _ (some 16) _ = _
                simp only [Act.put, List.setIfInBounds_toArray, List.set_cons_zero, List.set_cons_succ, i64_w, i32_w]
                rfl
              refine one_ (i := 4) (N := some 17) #[true, true, true, true, true, false, false, false] rfl rfl (one_of HT_.out (by kernel_rfl)) (by decide) (fun K hK => ?_)
              refine value_ (w1 := ?_) (v := ?_) (by rfl) rfl ?_ ?_
              rotate_left 2
              · go_simp
                constructor
                · rfl
                · rfl
              refine hK.out _ _ ⟨(blk_cell (bkA BK296.out _) 0).trans rfl, (blk_cell (bkA BK298.out _) 0).trans rfl⟩ (fun hHeld => ?_)
              clear hK K
              refine norm_ (a' := ?_) ?_ ?_
              rotate_left
              · show Act.put _ (some 17) _ = _
                simp only [Act.put, List.setIfInBounds_toArray, List.set_cons_zero, List.set_cons_succ, i64_w, i32_w]
                rfl
              refine one_ (i := 5) (N := some 18) #[true, true, true, true, true, true, false, false] rfl rfl (one_of HT_.out (by kernel_rfl)) (by decide) (fun K hK => ?_)
              refine Kd.R_append_step k39 (w0 := w) w.heap.size (by rfl) (.tmp 14) (.tmp 17) 37 39 (.agg #[(.slice none 0 0)]) 24 rfl Try.underlying37 info39 rfl (by decide) (by omega) u297000 x297000_1 (⟨t299⟩ : S39) [.slice Ao22 t299.length co22] (fun k_ => k_ ≠ gb294 ∧ k_ ≠ gb295 ∧ k_ ≠ gb296 ∧ k_ ≠ gb298) (fun k_ => ((fun k_ => k_ ≠ gb294 ∧ k_ ≠ gb295 ∧ k_ ≠ gb296 ∧ k_ ≠ gb298)) k_ ∧ some k_ ≠ (u297000 : Value).ownBlock) rfl rfl ?aP (fun _ hk => hk) ?aF ?aO ?aB ?aS ?aL ?_
              (case aP => exact k39_mkM _ _ _ (⟨t299⟩ : S39) (Kd.R_mono (HO301.out) (fun k_ hk => ⟨⟨hk.1.1.1.2, ⟨hk.1.1.2, ⟨hk.1.2, hk.2⟩⟩⟩, hk.1.1.1.1.2⟩)))
              (case aB => exact (by repeat (first | (with_reducible first | exact HB.out | apply bal | apply pwN | apply bd1 | refine bset ?_ GE294.out | refine bset ?_ GE295.out | refine bset ?_ GE296.out | refine bset ?_ GE298.out) | exact HB.out)))
              (case aF => exact (fun k_ hk => ⟨Kd.freshB (g := gb294) (o := .cells #[.slice (some ad297) l0_0.length c0_0] 39 (0, 0)) (by (with_reducible repeat (first | refine bdN ?_ _ | refine blk_drew ?_ | refine bkA ?_ _)); exact BK294.out) k_ hk, Kd.freshB (g := gb295) (o := .cells #[.slice none 0 0] 39 (0, 0)) (by (with_reducible repeat (first | refine bdN ?_ _ | refine blk_drew ?_ | refine bkA ?_ _)); exact BK295.out) k_ hk, Kd.freshB (g := gb296) (o := .cells #[u297000] 39 (0, 0)) (by (with_reducible repeat (first | refine bdN ?_ _ | refine blk_drew ?_ | refine bkA ?_ _)); exact BK296.out) k_ hk, Kd.freshB (g := gb298) (o := .cells #[.slice A297_0 ((rd_T39 l0_0 x9_1).f0).length c297_0] 39 (0, 0)) (by (with_reducible repeat (first | refine bdN ?_ _ | refine blk_drew ?_ | refine bkA ?_ _)); exact BK298.out) k_ hk⟩))
              (case aO => exact (by (with_reducible repeat (first | apply Kd.R_alloc | apply Kd.R_drewN | apply Kd.R_drew)); exact Kd.R_mono HO_297000.out (fun _ hk => ⟨hk.1.1, ⟨hk.1.2.1, ⟨hk.1.2.2.1, hk.1.2.2.2⟩⟩⟩)))
              (case aS => exact (below_size (by repeat (first | (with_reducible first | exact HB.out | apply bal | apply pwN | apply bd1 | refine bset ?_ GE294.out | refine bset ?_ GE295.out | refine bset ?_ GE296.out | refine bset ?_ GE298.out) | exact HB.out))))
              (case aL => have := LMc12.out; omega)
              intro v303 w21 ho hb hg hat
              rw [← Ny302.out] at ho
              have n0_ := Az.mk (blk_grown (g := gb294) (o := .cells #[.slice (some ad297) l0_0.length c0_0] 39 (0, 0)) (by (with_reducible repeat (first | refine bdN ?_ _ | refine blk_drew ?_ | refine bkA ?_ _)); exact BK294.out) hg (Kd.R_away HO_297000.out (fun _ hk => hk.1.1)))
              have n1_ := Az.mk (blk_grown (g := gb295) (o := .cells #[.slice none 0 0] 39 (0, 0)) (by (with_reducible repeat (first | refine bdN ?_ _ | refine blk_drew ?_ | refine bkA ?_ _)); exact BK295.out) hg (Kd.R_away HO_297000.out (fun _ hk => hk.1.2.1)))
              have n2_ := Az.mk (blk_grown (g := gb296) (o := .cells #[u297000] 39 (0, 0)) (by (with_reducible repeat (first | refine bdN ?_ _ | refine blk_drew ?_ | refine bkA ?_ _)); exact BK296.out) hg (Kd.R_away HO_297000.out (fun _ hk => hk.1.2.2.1)))
              have n3_ := Az.mk (blk_grown (g := gb298) (o := .cells #[.slice A297_0 ((rd_T39 l0_0 x9_1).f0).length c297_0] 39 (0, 0)) (by (with_reducible repeat (first | refine bdN ?_ _ | refine blk_drew ?_ | refine bkA ?_ _)); exact BK298.out) hg (Kd.R_away HO_297000.out (fun _ hk => hk.1.2.2.2)))
              have n4_ := Az.mk (hb)
              have n5_ := Az.mk (ho)
              clear BK294
              clear BK295
              clear BK296
              clear BK298
              clear HB
              clear HO_297000
              clear HO301
              have BK294 := n0_
              have BK295 := n1_
              have BK296 := n2_
              have BK298 := n3_
              have HB := n4_
              have HO304 := n5_
              clear n0_ n1_ n2_ n3_ n4_ n5_
              clear ho hb hg hat
              obtain ⟨Ao23, co23, eo23⟩ := Kd.R_slice HO304.out
              (first | subst eo23 | (injection eo23 with f1_ f2_ f3_; have f4_ := f1_.symm; have f5_ := f3_.symm; clear f1_ f2_ f3_; subst f4_; subst f5_))
              refine hK.out _ _ ⟨(blk_cell BK296.out 0).trans rfl, (blk_cell BK298.out 0).trans rfl⟩ (fun hHeld => ?_)
              clear hK K
              refine norm_ (a' := ?_) ?_ ?_
              rotate_left
              · show Act.put _ (some 18) _ = _
                simp only [Act.put, List.setIfInBounds_toArray, List.set_cons_zero, List.set_cons_succ, i64_w, i32_w]
                rfl
              refine pure_ (i := 6) (N := some 19) (v := ?_) (a' := ?_) #[true, true, true, true, true, true, true, false] rfl rfl (any_of HT_.out (by kernel_rfl)) (fun _ _ _ h => h) (Or.inl ⟨by rfl, ?_⟩) ?_ ?_
              rotate_left
              · intro w'
                go_simp
                with_reducible rfl
              rotate_left
              · simp only [Act.put, List.setIfInBounds_toArray, List.set_cons_zero, List.set_cons_succ, i64_w, i32_w]
                rfl
              refine last_ (i := 7) (N := none) #[true, true, true, true, true, true, true, true] rfl rfl (one_of HT_.out (by kernel_rfl)) (by decide) (fun K hK => ?_)
              have hs24 : w21.cell? ⟨gb296, 0, none⟩ = some (u297000) := (blk_cell BK296.out 0).trans rfl
              have hfs24 := bkF BK296.out 0
              have hns24_0 := NB294_296.out
              have hns24_1 := NB295_296.out
              have hns24_3 := NB298_296.out
              have hms24_0 := NB296_294.out
              have hms24_1 := NB296_295.out
              have hms24_3 := NB296_298.out
              refine skip_ (w1 := ?_) (by rfl) rfl ?_ ?_
              rotate_left
              · go_simp
                rfl
              refine hK.out _ _ ?_
              clear hK K
              refine done_ (done_of HT_.out (by kernel_rfl)) ?_
              try go_wp2
              go_roundg k1
              case measure => have := HK1.out; omega
              case rel => exact ⟨(wrap64 (x9_1 + 1)), (y302), (.slice Ao23 y302.length co23), (by first | rfl | (simp; done) | (simp [*]; done)), H', ⟨by have := HK1.out; omega⟩, ⟨by (with_reducible repeat (first | apply Kd.R_alloc | apply Kd.R_drewN | apply Kd.R_drew)); exact Kd.R_mono (Kd.R_far (p := ⟨gb296, 0, none⟩) (Kd.R_mono HO304.out (fun k_ hk => (⟨hk, hk.2.2.1⟩ : _ ∧ k_ ≠ gb296))) (fun _ hk => hk.2) (.slice Ao23 y302.length co23)) (fun _ hk => ⟨hk.1.1, ⟨hk.1.2.1, hk.1.2.2.1⟩⟩)⟩, ⟨by (with_reducible repeat (first | refine bdN ?_ _ | refine blk_drew ?_ | refine bkA ?_ _)); refine blk_far ?_ NB294_296.out _; (with_reducible repeat (first | refine bdN ?_ _ | refine blk_drew ?_ | refine bkA ?_ _)); exact BK294.out⟩, ⟨by (with_reducible repeat (first | refine bdN ?_ _ | refine blk_drew ?_ | refine bkA ?_ _)); refine blk_far ?_ NB295_296.out _; (with_reducible repeat (first | refine bdN ?_ _ | refine blk_drew ?_ | refine bkA ?_ _)); exact BK295.out⟩, ⟨by (with_reducible repeat (first | refine bdN ?_ _ | refine blk_drew ?_ | refine bkA ?_ _)); refine blk_put (cs := #[u297000]) ?_ 0 _ rfl; (with_reducible repeat (first | refine bdN ?_ _ | refine blk_drew ?_ | refine bkA ?_ _)); exact BK296.out⟩, ⟨by repeat (first | (with_reducible first | exact HB.out | apply bal | apply pwN | apply bd1 | refine bset ?_ GE294.out | refine bset ?_ GE295.out | refine bset ?_ GE296.out | refine bset ?_ GE298.out) | exact HB.out)⟩⟩
            · rw [if_neg c12] at H
              exact absurd H (by simp)
          · rw [if_neg c10] at H
            exact absurd H (by simp)
        · rw [if_neg c9] at H
          exact absurd H (by simp)
      · rw [if_neg c8] at H
        have c8b0 : decide (x9_1 < (l0_0.length : Int)) = false := decide_eq_false c8
        clear c8
        obtain rfl := Option.some.inj H
        have hnb25 := NB296_294.out
        have hnc25 := NB294_296.out
        have hnb26 := NB296_295.out
        have hnc26 := NB295_296.out
        have hcz27_0 : wr.cell? ⟨gb296, 0, none⟩ = some (u297000) := (blk_cell BK296.out 0).trans rfl
        have hfz27_0 := bkF BK296.out 0
        obtain ⟨Ao28, co28, eo28⟩ := Kd.R_slice HO_297000.out
        subst eo28
        have hnb29 := NB295_294.out
        have hnc29 := NB294_295.out
        have hcz30_0 : wr.cell? ⟨gb295, 0, none⟩ = some (.slice none 0 0) := (blk_cell BK295.out 0).trans rfl
        have hfz30_0 := bkF BK295.out 0
        go_wp2
        refine bodyPost_ret (results_cell_row rfl _ _ gb295 39 #[.slice Ao28 x297000_1.length co28] (0, 0) _ rfl (by (with_reducible repeat (first | refine bdN ?_ _ | refine blk_drew ?_ | refine bkA ?_ _)); refine blk_put (cs := #[.slice none 0 0]) ?_ 0 _ rfl; (with_reducible repeat (first | refine bdN ?_ _ | refine blk_drew ?_ | refine bkA ?_ _)); exact BK295.out) Try.underlying39 rfl (by kernel_rfl)) rfl ?_
        exact ⟨_, by first | rfl | (simp [errW_none, errW_some] <;> rfl) | (simp [*, errW_none, errW_some] <;> rfl), by (with_reducible repeat (first | apply Kd.R_alloc | apply Kd.R_drewN | apply Kd.R_drew)); exact Kd.R_mono (Kd.R_far (p := ⟨gb295, 0, none⟩) (Kd.R_mono HO_297000.out (fun k_ hk => (⟨hk, hk.2.1⟩ : _ ∧ k_ ≠ gb295))) (fun _ hk => hk.2) (.slice Ao28 x297000_1.length co28)) (fun _ hk => trivial), by repeat (first | (with_reducible first | exact HB.out | apply bal | apply pwN | apply bd1 | refine bset ?_ GE294.out | refine bset ?_ GE295.out | refine bset ?_ GE296.out) | exact HB.out)⟩
def virgationref03_Copy.l0 : Nat → List (S41) → Int → Int → List (S84) → List (S41) → Option ((List (S84)) × (List (S41)))
  | 0, _, _, _, _, _ => none
  | k + 1, x13, x14, x15, x308000, x308001 => if x15 < x14 then (if 0 ≤ x15 then (if x15 < (x13.length : Int) then ((virgationref01_Copy.f k ((rd_T41 x13 x15).f1.f0)).bind fun t313 => ((virgationref02_Copy.f ((rd_T41 x13 x15).f2.f0) ((rd_T41 x13 x15).f2.f1) ((rd_T41 x13 x15).f2.f2)).bind fun bt316 => (if x308001.length < 1759218604441 then (virgationref03_Copy.l0 k x13 x14 (wrap64 (x15 + 1)) x308000 (x308001 ++ [(⟨(rd_T41 x13 x15).f0, (⟨t313⟩ : S39), (⟨bt316.1, bt316.2.1, bt316.2.2⟩ : S36)⟩ : S41)])) else (none)))) else (none)) else (none)) else (some (x308000, x308001))
def virgationref03_Copy.f (k : Nat) (l0_0 : List (S84)) (l0_1 : List (S41)) : Option ((List (S84)) × (List (S41))) := if ([] : List (S84)).length + l0_0.length < 5864062014805 then (virgationref03_Copy.l0 k l0_1 (l0_1.length : Int) 0 (([] : List (S84)) ++ l0_0) ([] : List (S41))) else (none)
def virgationref03_Copy.T6 : Bool × List (List Nat × List Nat) := (true, [([], []), ([0], [0]), ([], []), ([2], [2]), ([], []), ([4], [4]), ([5], [5]), ([], []), ([7], [7]), ([8, 6], [8]), ([3, 6, 9], [3, 6, 9]), ([10], [10]), ([1, 11, 9], [1, 11]), ([0, 1, 2, 3, 4, 5, 6, 7, 8, 9, 10, 11, 12], []), ([13, 12, 12, 0, 1, 2, 3, 4, 5, 6, 7, 8, 9, 10, 11, 12], [12, 13])])
def virgationref03_Copy.B6 : List Nat := [0, 1, 0, 4, 0, 16, 48, 0, 128, 496, 1020, 2044, 4095, 8191, 16383]
theorem virgationref03_Copy.tab6 : rtab .any (opsOf Try.f10 6) = virgationref03_Copy.T6 := by kernel_rfl
theorem virgationref03_Copy.bits6 : waitsOk virgationref03_Copy.T6.2 virgationref03_Copy.B6 = true := by kernel_rfl
set_option maxHeartbeats 8000000 in
set_option maxRecDepth 100000 in
theorem virgationref03_Copy.calls (k : Nat) (A0_0 : Option Addr) (c0_0 : Nat) (l0_0 : List (S84)) (A0_1 : Option Addr) (c0_1 : Nat) (l0_1 : List (S41)) (r1 : List (S84)) (r2 : List (S41)) (w : World) (hr0_0 : Kd.C k84 w A0_0 l0_0.length l0_0) (hc0_0 : l0_0.length ≤ c0_0) (hr0_1 : Kd.C k41 w A0_1 l0_1.length l0_1) (hc0_1 : l0_1.length ≤ c0_1) (h : virgationref03_Copy.f k l0_0 l0_1 = some (r1, r2)) :
    Calls Try.prog 10 #[.agg #[.slice A0_0 l0_0.length c0_0, .slice A0_1 l0_1.length c0_1]] w fun e w' => ∃ v0_ v1_ : Value, e = .returned (.agg #[v0_, v1_]) ∧ Kd.R k84 84 w' w.heap.size (fun _ => True) v0_ r1 ∧ Kd.R k41 41 w' w.heap.size (fun _ => True) v1_ r2 ∧ Below w.heap.size w w' := by
  have hu25 := Try.underlying25
  have hu41 := Try.underlying41
  have hu39 := Try.underlying39
  have hu36 := Try.underlying36
  have HR0_0 := Az.mk hr0_0
  have HC0_0 := Az.mk hc0_0
  clear hr0_0 hc0_0
  have HR0_1 := Az.mk hr0_1
  have HC0_1 := Az.mk hc0_1
  clear hr0_1 hc0_1
  have HB := Az.mk (Below.refl w.heap.size w)
  have H : (if ([] : List (S84)).length + l0_0.length < 5864062014805 then (virgationref03_Copy.l0 k l0_1 (l0_1.length : Int) 0 (([] : List (S84)) ++ l0_0) ([] : List (S41))) else (none)) = some (r1, r2) := h
  clear h
  by_cases c2 : ([] : List (S84)).length + l0_0.length < 5864062014805
  · rw [if_pos c2] at H
    have LMc2 := Az.mk c2
    clear c2
    obtain ⟨y308, hy308⟩ : ∃ y_ : List (S84), y_ = (([] : List (S84)) ++ l0_0) := ⟨_, rfl⟩
    replace H : (virgationref03_Copy.l0 k l0_1 (l0_1.length : Int) 0 y308 ([] : List (S41))) = some (r1, r2) := by first | (rw [hy308]; with_reducible exact H) | (have H2_ := (Option.bind_some _ _).symm.trans H; rw [hy308]; with_reducible exact H2_) | (have H2_ := (Option.bind_some _ _).symm.trans H; with_reducible exact H2_) | with_reducible exact H | (rw [hy308]; exact H) | exact H
    have Ny308 := Az.mk hy308
    clear hy308
    have H' := Az.mk H
    clear H
    go_enter Try.func10, Try.ntmps10
    go_wp2_with (first | ((with_reducible refine gate_dst (N := 1) rfl ?_); refine box_event ?hg (N := 1) ?hd (cs := #[.slice A0_0 l0_0.length c0_0, .slice A0_1 l0_1.length c0_1]) (t := 25) ?hr ?_; (case hd => rfl); (case hg => rfl); (case hr => first | (go_simp; done) | (go_simp; rfl)); intro gb305 hg w3 hbox hb; have n0_ := Az.mk (bst (by repeat (first | (with_reducible first | exact HB.out | apply bal | apply pwN | apply bd1) | exact HB.out)) hb); have n1_ := Az.mk (hbox); have n2_ := Az.mk ((by rw [hg]; exact (below_size (by repeat (first | (with_reducible first | exact HB.out | apply bal | apply pwN | apply bd1) | exact HB.out))) : w.heap.size ≤ gb305)); have n3_ := Az.mk ((by rw [hg]; exact (below_size (by repeat (first | (with_reducible first | exact HB.out | apply bal | apply pwN | apply bd1) | exact HB.out))) : w.heap.size ≤ gb305)); clear HB; have HB := n0_; have BK305 := n1_; have GW305 := n2_; have GE305 := n3_; clear n0_ n1_ n2_ n3_; clear hb hbox hg) | ((with_reducible refine gate_dst (N := 2) rfl ?_); refine box_event ?hg (N := 2) ?hd (cs := #[.slice none 0 0, .slice none 0 0]) (t := 25) ?hr ?_; (case hd => rfl); (case hg => rfl); (case hr => first | (go_simp; done) | (go_simp; rfl)); intro gb306 hg w4 hbox hb; have n0_ := Az.mk (bkB (g := gb305) (o := .cells #[.slice A0_0 l0_0.length c0_0, .slice A0_1 l0_1.length c0_1] 25 (0, 0)) (by (with_reducible repeat (first | refine bdN ?_ _ | refine blk_drew ?_ | refine bkA ?_ _)); exact BK305.out) hb); have n1_ := Az.mk (bst (by repeat (first | (with_reducible first | exact HB.out | apply bal | apply pwN | apply bd1 | refine bset ?_ GE305.out) | exact HB.out)) hb); have n2_ := Az.mk (hbox); have n3_ := Az.mk ((by rw [hg]; exact (below_size (by repeat (first | (with_reducible first | exact HB.out | apply bal | apply pwN | apply bd1 | refine bset ?_ GE305.out) | exact HB.out))) : w.heap.size ≤ gb306)); have n4_ := Az.mk ((by rw [hg]; exact (below_size (by repeat (first | (with_reducible first | exact HB.out | apply bal | apply pwN | apply bd1 | refine bset ?_ GE305.out) | exact HB.out))) : w.heap.size ≤ gb306)); have n5_ := Az.mk ((by rw [hg]; exact Nat.ne_of_lt (blk_lt (g := gb305) (o := .cells #[.slice A0_0 l0_0.length c0_0, .slice A0_1 l0_1.length c0_1] 25 (0, 0)) (by (with_reducible repeat (first | refine bdN ?_ _ | refine blk_drew ?_ | refine bkA ?_ _)); exact BK305.out)) : gb305 ≠ gb306)); have n6_ := Az.mk ((by rw [hg]; exact Nat.ne_of_gt (blk_lt (g := gb305) (o := .cells #[.slice A0_0 l0_0.length c0_0, .slice A0_1 l0_1.length c0_1] 25 (0, 0)) (by (with_reducible repeat (first | refine bdN ?_ _ | refine blk_drew ?_ | refine bkA ?_ _)); exact BK305.out)) : gb306 ≠ gb305)); clear BK305; clear HB; have BK305 := n0_; have HB := n1_; have BK306 := n2_; have GW306 := n3_; have GE306 := n4_; have NB305_306 := n5_; have NB306_305 := n6_; clear n0_ n1_ n2_ n3_ n4_ n5_ n6_; clear hb hbox hg) | ((with_reducible refine gate_dst (N := 3) rfl ?_); refine box_event ?hg (N := 3) ?hd (cs := #[.slice none 0 0, .slice none 0 0]) (t := 25) ?hr ?_; (case hd => rfl); (case hg => rfl); (case hr => first | (go_simp; done) | (go_simp; rfl)); intro gb307 hg w5 hbox hb; have n0_ := Az.mk (bkB (g := gb305) (o := .cells #[.slice A0_0 l0_0.length c0_0, .slice A0_1 l0_1.length c0_1] 25 (0, 0)) (by (with_reducible repeat (first | refine bdN ?_ _ | refine blk_drew ?_ | refine bkA ?_ _)); exact BK305.out) hb); have n1_ := Az.mk (bkB (g := gb306) (o := .cells #[.slice none 0 0, .slice none 0 0] 25 (0, 0)) (by (with_reducible repeat (first | refine bdN ?_ _ | refine blk_drew ?_ | refine bkA ?_ _)); exact BK306.out) hb); have n2_ := Az.mk (bst (by repeat (first | (with_reducible first | exact HB.out | apply bal | apply pwN | apply bd1 | refine bset ?_ GE305.out | refine bset ?_ GE306.out) | exact HB.out)) hb); have n3_ := Az.mk (hbox); have n4_ := Az.mk ((by rw [hg]; exact (below_size (by repeat (first | (with_reducible first | exact HB.out | apply bal | apply pwN | apply bd1 | refine bset ?_ GE305.out | refine bset ?_ GE306.out) | exact HB.out))) : w.heap.size ≤ gb307)); have n5_ := Az.mk ((by rw [hg]; exact (below_size (by repeat (first | (with_reducible first | exact HB.out | apply bal | apply pwN | apply bd1 | refine bset ?_ GE305.out | refine bset ?_ GE306.out) | exact HB.out))) : w.heap.size ≤ gb307)); have n6_ := Az.mk ((by rw [hg]; exact Nat.ne_of_lt (blk_lt (g := gb305) (o := .cells #[.slice A0_0 l0_0.length c0_0, .slice A0_1 l0_1.length c0_1] 25 (0, 0)) (by (with_reducible repeat (first | refine bdN ?_ _ | refine blk_drew ?_ | refine bkA ?_ _)); exact BK305.out)) : gb305 ≠ gb307)); have n7_ := Az.mk ((by rw [hg]; exact Nat.ne_of_gt (blk_lt (g := gb305) (o := .cells #[.slice A0_0 l0_0.length c0_0, .slice A0_1 l0_1.length c0_1] 25 (0, 0)) (by (with_reducible repeat (first | refine bdN ?_ _ | refine blk_drew ?_ | refine bkA ?_ _)); exact BK305.out)) : gb307 ≠ gb305)); have n8_ := Az.mk ((by rw [hg]; exact Nat.ne_of_lt (blk_lt (g := gb306) (o := .cells #[.slice none 0 0, .slice none 0 0] 25 (0, 0)) (by (with_reducible repeat (first | refine bdN ?_ _ | refine blk_drew ?_ | refine bkA ?_ _)); exact BK306.out)) : gb306 ≠ gb307)); have n9_ := Az.mk ((by rw [hg]; exact Nat.ne_of_gt (blk_lt (g := gb306) (o := .cells #[.slice none 0 0, .slice none 0 0] 25 (0, 0)) (by (with_reducible repeat (first | refine bdN ?_ _ | refine blk_drew ?_ | refine bkA ?_ _)); exact BK306.out)) : gb307 ≠ gb306)); clear BK305; clear BK306; clear HB; have BK305 := n0_; have BK306 := n1_; have HB := n2_; have BK307 := n3_; have GW307 := n4_; have GE307 := n5_; have NB305_307 := n6_; have NB307_305 := n7_; have NB306_307 := n8_; have NB307_306 := n9_; clear n0_ n1_ n2_ n3_ n4_ n5_ n6_ n7_ n8_ n9_; clear hb hbox hg; have hnb6 := NB307_305.out; have hnc6 := NB305_307.out; have hnb7 := NB307_306.out; have hnc7 := NB306_307.out; have hcz8_0 : w5.cell? ⟨gb307, 0, none⟩ = some (.slice none 0 0) := (blk_cell BK307.out 0).trans rfl; have hcz8_1 : w5.cell? ⟨gb307, 1, none⟩ = some (.slice none 0 0) := (blk_cell BK307.out 1).trans rfl; have hfz8_0 := bkF BK307.out 0; have hfz8_1 := bkF BK307.out 1; have hnb9 := NB305_306.out; have hnc9 := NB306_305.out; have hcz10_0 : w5.cell? ⟨gb305, 0, none⟩ = some (.slice A0_0 l0_0.length c0_0) := (blk_cell BK305.out 0).trans rfl; have hcz10_1 : w5.cell? ⟨gb305, 1, none⟩ = some (.slice A0_1 l0_1.length c0_1) := (blk_cell BK305.out 1).trans rfl; have hfz10_0 := bkF BK305.out 0; have hfz10_1 := bkF BK305.out 1) | ((with_reducible refine gate_builtin (b := .append) (xs := #[.tmp 7, .tmp 9]) rfl ?_); at_builtin; refine Kd.R_append_rows k84 (w0 := w) w.heap.size rfl (.tmp 7) (.tmp 9) 22 84 (.agg #[(.string ⟨#[]⟩), (.int .i64 0)]) 24 rfl Try.underlying22 info84 rfl (by decide) (by omega) (.slice none 0 0) ([] : List (S84)) l0_0 _ _ _ (fun _ => True) (fun _ => False) rfl rfl ?aO ?aR (fun _ _ h => h) (fun _ h => h.elim) ?aF ?aB ?aS ?aL ?_; (case aR => repeat (first | exact (Kd.C_below HR0_0.out HB.out) | (with_reducible refine Kd.C_alloc ?_ _) | (with_reducible refine Kd.C_drewN ?_ _) | (with_reducible refine Kd.C_drew ?_))); (case aB => exact (by repeat (first | (with_reducible first | exact HB.out | apply bal | apply pwN | apply bd1 | refine bset ?_ GE305.out | refine bset ?_ GE306.out | refine bset ?_ GE307.out) | exact HB.out))); (case aF => exact (fun _ _ => trivial)); (case aO => exact ((Kd.R_nil _ _ _ _ (fun _ => True)))); (case aS => exact (below_size (by repeat (first | (with_reducible first | exact HB.out | apply bal | apply pwN | apply bd1 | refine bset ?_ GE305.out | refine bset ?_ GE306.out | refine bset ?_ GE307.out) | exact HB.out)))); (case aL => have := LMc2.out; omega); intro v309 w11 ho hb hg hat; rw [← Ny308.out] at ho; have n0_ := Az.mk (blk_grown (g := gb305) (o := .cells #[.slice A0_0 l0_0.length c0_0, .slice A0_1 l0_1.length c0_1] 25 (0, 0)) (by (with_reducible repeat (first | refine bdN ?_ _ | refine blk_drew ?_ | refine bkA ?_ _)); exact BK305.out) hg (by simp [Value.ownBlock])); have n1_ := Az.mk (blk_grown (g := gb306) (o := .cells #[.slice none 0 0, .slice none 0 0] 25 (0, 0)) (by (with_reducible repeat (first | refine bdN ?_ _ | refine blk_drew ?_ | refine bkA ?_ _)); exact BK306.out) hg (by simp [Value.ownBlock])); have n2_ := Az.mk (blk_grown (g := gb307) (o := .cells #[.slice none 0 0, .slice none 0 0] 25 (0, 0)) (by (with_reducible repeat (first | refine bdN ?_ _ | refine blk_drew ?_ | refine bkA ?_ _)); exact BK307.out) hg (by simp [Value.ownBlock])); have n3_ := Az.mk (hb); have n4_ := Az.mk (ho); clear BK305; clear BK306; clear BK307; clear HB; have BK305 := n0_; have BK306 := n1_; have BK307 := n2_; have HB := n3_; have HO310 := n4_; clear n0_ n1_ n2_ n3_ n4_; clear ho hb hg hat; obtain ⟨Ao12, co12, eo12⟩ := Kd.R_slice HO310.out; subst eo12; have hcz13_0 : w11.cell? ⟨gb307, 0, none⟩ = some (.slice none 0 0) := (blk_cell BK307.out 0).trans rfl; have hcz13_1 : w11.cell? ⟨gb307, 1, none⟩ = some (.slice none 0 0) := (blk_cell BK307.out 1).trans rfl; have hfz13_0 := bkF BK307.out 0; have hfz13_1 := bkF BK307.out 1; have hcz14_0 : w11.cell? ⟨gb305, 0, none⟩ = some (.slice A0_0 l0_0.length c0_0) := (blk_cell BK305.out 0).trans rfl; have hcz14_1 : w11.cell? ⟨gb305, 1, none⟩ = some (.slice A0_1 l0_1.length c0_1) := (blk_cell BK305.out 1).trans rfl; have hfz14_0 := bkF BK305.out 0; have hfz14_1 := bkF BK305.out 1))
    go_loopg [15] k (fun kq v15 w' => ∃ (x15_1 : Int) (x308001_1 : List (S41)) (u308001 : Value), v15 = .int .i64 x15_1 ∧ Az (virgationref03_Copy.l0 kq l0_1 (l0_1.length : Int) x15_1 y308 x308001_1 = some (r1, r2)) ∧ Az (kq ≤ k) ∧ Az (Kd.R k84 84 w' w.heap.size (fun _ => True) (.slice Ao12 y308.length co12) y308) ∧ Az (Kd.R k41 41 w' w.heap.size (fun _ => True) u308001 x308001_1) ∧ Az (w'.heap[gb305]? = some (.cells #[(.slice A0_0 l0_0.length c0_0), (.slice A0_1 l0_1.length c0_1)] 25 (0, 0))) ∧ Az (w'.heap[gb306]? = some (.cells #[(.slice none 0 0), (.slice none 0 0)] 25 (0, 0))) ∧ Az (w'.heap[gb307]? = some (.cells #[(.slice Ao12 y308.length co12), u308001] 25 (0, 0))) ∧ Az (Below w.heap.size w w'))
    case atStart => exact ⟨(0), (([] : List (S41))), (.slice none 0 0), (by first | rfl | (simp; done) | (simp [*]; done)), H', ⟨Nat.le_refl _⟩, ⟨by (with_reducible repeat (first | apply Kd.R_alloc | apply Kd.R_drewN | apply Kd.R_drew)); exact Kd.R_mono (Kd.R_far (p := ⟨gb307, 0, none⟩) (Kd.R_types HO310.out BK307.out (by decide)) (fun _ hk => hk.2) (.slice Ao12 y308.length co12)) (fun _ hk => trivial)⟩, ⟨by first | exact Kd.R_nil _ _ _ _ _ | exact Kd.N_nil _ _ _ _ _ | exact Kd.V_nil _ _ _ _ _ | exact Kd.Q_nil _ _ _ _ _ | exact Kd.S_nil _ _ _ _ _⟩, ⟨by (with_reducible repeat (first | refine bdN ?_ _ | refine blk_drew ?_ | refine bkA ?_ _)); refine blk_far ?_ NB305_307.out _; (with_reducible repeat (first | refine bdN ?_ _ | refine blk_drew ?_ | refine bkA ?_ _)); exact BK305.out⟩, ⟨by (with_reducible repeat (first | refine bdN ?_ _ | refine blk_drew ?_ | refine bkA ?_ _)); refine blk_far ?_ NB306_307.out _; (with_reducible repeat (first | refine bdN ?_ _ | refine blk_drew ?_ | refine bkA ?_ _)); exact BK306.out⟩, ⟨by (with_reducible repeat (first | refine bdN ?_ _ | refine blk_drew ?_ | refine bkA ?_ _)); refine blk_put (cs := #[.slice none 0 0, .slice none 0 0]) ?_ 0 _ rfl; (with_reducible repeat (first | refine bdN ?_ _ | refine blk_drew ?_ | refine bkA ?_ _)); exact BK307.out⟩, ⟨by repeat (first | (with_reducible first | exact HB.out | apply bal | apply pwN | apply bd1 | refine bset ?_ GE305.out | refine bset ?_ GE306.out | refine bset ?_ GE307.out) | exact HB.out)⟩⟩
    case round =>
      clear H'
      try clear c1
      try clear c2
      try clear p2
      try clear c6
      try clear c7
      try clear c9
      try clear c10
      try clear hcz10_0
      try clear hcz10_1
      try clear hcz13_0
      try clear hcz13_1
      try clear hcz14_0
      try clear hcz14_1
      try clear hcz8_0
      try clear hcz8_1
      try clear hfz10_0
      try clear hfz10_1
      try clear hfz13_0
      try clear hfz13_1
      try clear hfz14_0
      try clear hfz14_1
      try clear hfz8_0
      try clear hfz8_1
      obtain ⟨x15_1, x308001_1, u308001, rfl, HA, HK1, HO_308000, HO_308001, BK305, BK306, BK307, HB⟩ := hrel
      cases gk with
      | zero => exact absurd HA.out (by simp [virgationref03_Copy.l0])
      | succ k1 =>
        have H := HA.out
        clear HA
        simp only [virgationref03_Copy.l0] at H
        by_cases c15 : x15_1 < (l0_1.length : Int)
        · rw [if_pos c15] at H
          have c15b0 : decide (x15_1 < (l0_1.length : Int)) = true := decide_eq_true c15
          clear c15
          by_cases c16 : 0 ≤ x15_1
          · rw [if_pos c16] at H
            have c16b0 : decide (0 ≤ x15_1) = true := decide_eq_true c16
            clear c16
            by_cases c17 : x15_1 < (l0_1.length : Int)
            · rw [if_pos c17] at H
              have c17b0 : decide (x15_1 < (l0_1.length : Int)) = true := decide_eq_true c17
              clear c17
              replace H := Option.bind_eq_some_iff.mp H
              obtain ⟨t313, A180, H⟩ := H
              replace H : ((virgationref02_Copy.f ((rd_T41 l0_1 x15_1).f2.f0) ((rd_T41 l0_1 x15_1).f2.f1) ((rd_T41 l0_1 x15_1).f2.f2)).bind fun bt316 => (if x308001_1.length < 1759218604441 then (virgationref03_Copy.l0 k1 l0_1 (l0_1.length : Int) (wrap64 (x15_1 + 1)) y308 (x308001_1 ++ [(⟨(rd_T41 l0_1 x15_1).f0, (⟨t313⟩ : S39), (⟨bt316.1, bt316.2.1, bt316.2.2⟩ : S36)⟩ : S41)])) else (none))) = some (r1, r2) := H
              have A18 := Az.mk A180
              clear A180
              replace H := Option.bind_eq_some_iff.mp H
              obtain ⟨⟨t316, t317, t318⟩, A190, H⟩ := H
              replace H : (if x308001_1.length < 1759218604441 then (virgationref03_Copy.l0 k1 l0_1 (l0_1.length : Int) (wrap64 (x15_1 + 1)) y308 (x308001_1 ++ [(⟨(rd_T41 l0_1 x15_1).f0, (⟨t313⟩ : S39), (⟨t316, t317, t318⟩ : S36)⟩ : S41)])) else (none)) = some (r1, r2) := H
              have A19 := Az.mk A190
              clear A190
              by_cases c20 : x308001_1.length < 1759218604441
              · rw [if_pos c20] at H
                have LMc20 := Az.mk c20
                clear c20
                obtain ⟨y321, hy321⟩ : ∃ y_ : List (S41), y_ = (x308001_1 ++ [(⟨(rd_T41 l0_1 x15_1).f0, (⟨t313⟩ : S39), (⟨t316, t317, t318⟩ : S36)⟩ : S41)]) := ⟨_, rfl⟩
                replace H : (virgationref03_Copy.l0 k1 l0_1 (l0_1.length : Int) (wrap64 (x15_1 + 1)) y308 y321) = some (r1, r2) := by first | (rw [hy321]; with_reducible exact H) | (have H2_ := (Option.bind_some _ _).symm.trans H; rw [hy321]; with_reducible exact H2_) | (have H2_ := (Option.bind_some _ _).symm.trans H; with_reducible exact H2_) | with_reducible exact H | (rw [hy321]; exact H) | exact H
                have Ny321 := Az.mk hy321
                clear hy321
                have H' := Az.mk H
                clear H
                have p311 : 0 ≤ (x15_1 : Int) := of_decide_eq_true (by first | (with_reducible assumption) | assumption)
                have q311 : x15_1 < (l0_1.length : Int) := of_decide_eq_true (by first | (with_reducible assumption) | assumption)
                obtain ⟨ad311, A311_1, c311_1, A311_4, c311_4, e311, hx311_0, hx311_1, hx311_2, hx311_3, hx311_4, hl311_1, hi311_1, hl311_4, hi311_4⟩ := at_T41 HR0_1.out x15_1 p311 q311
                cases e311
                replace hx311_0 := (HB.out.cell (World.block_lt_of_cell? w _ hx311_0)).trans hx311_0
                replace hx311_1 := (HB.out.cell (World.block_lt_of_cell? w _ hx311_1)).trans hx311_1
                replace hx311_2 := (HB.out.cell (World.block_lt_of_cell? w _ hx311_2)).trans hx311_2
                replace hx311_3 := (HB.out.cell (World.block_lt_of_cell? w _ hx311_3)).trans hx311_3
                replace hx311_4 := (HB.out.cell (World.block_lt_of_cell? w _ hx311_4)).trans hx311_4
                have HR311_1 := Az.mk hi311_1
                have HC311_1 := Az.mk hl311_1
                clear hi311_1 hl311_1
                have HR311_4 := Az.mk hi311_4
                have HC311_4 := Az.mk hl311_4
                clear hi311_4 hl311_4
                replace p311 := eq_true p311
                replace q311 := eq_true q311
                try go_wp2_with (first | ((with_reducible refine gate_dst (N := 5) rfl ?_); refine box_event ?hg (N := 5) ?hd (cs := #[.string (⟨#[]⟩ : ByteArray), .slice none 0 0, .int .i64 0, .int .i64 0, .slice none 0 0]) (t := 41) ?hr ?_; (case hd => rfl); (case hg => rfl); (case hr => first | (go_simp; done) | (go_simp; rfl)); intro gb312 hg w21 hbox hb; have n0_ := Az.mk (Kd.R_below (by (with_reducible repeat (first | apply Kd.R_alloc | apply Kd.R_drewN | apply Kd.R_drew)); exact HO_308000.out) hb); have n1_ := Az.mk (Kd.R_below (Kd.R_elderB (by (with_reducible repeat (first | apply Kd.R_alloc | apply Kd.R_drewN | apply Kd.R_drew)); exact HO_308001.out) gb312 (Nat.le_of_eq hg.symm)) hb); have n2_ := Az.mk (bkB (g := gb305) (o := .cells #[.slice A0_0 l0_0.length c0_0, .slice (some ad311) l0_1.length c0_1] 25 (0, 0)) (by (with_reducible repeat (first | refine bdN ?_ _ | refine blk_drew ?_ | refine bkA ?_ _)); exact BK305.out) hb); have n3_ := Az.mk (bkB (g := gb306) (o := .cells #[.slice none 0 0, .slice none 0 0] 25 (0, 0)) (by (with_reducible repeat (first | refine bdN ?_ _ | refine blk_drew ?_ | refine bkA ?_ _)); exact BK306.out) hb); have n4_ := Az.mk (bkB (g := gb307) (o := .cells #[.slice Ao12 y308.length co12, u308001] 25 (0, 0)) (by (with_reducible repeat (first | refine bdN ?_ _ | refine blk_drew ?_ | refine bkA ?_ _)); exact BK307.out) hb); have n5_ := Az.mk (bst (by repeat (first | (with_reducible first | exact HB.out | apply bal | apply pwN | apply bd1 | refine bset ?_ GE305.out | refine bset ?_ GE306.out | refine bset ?_ GE307.out) | exact HB.out)) hb); have n6_ := Az.mk (hbox); have n7_ := Az.mk ((by rw [hg]; exact (below_size (by repeat (first | (with_reducible first | exact HB.out | apply bal | apply pwN | apply bd1 | refine bset ?_ GE305.out | refine bset ?_ GE306.out | refine bset ?_ GE307.out) | exact HB.out))) : w.heap.size ≤ gb312)); have n8_ := Az.mk ((by rw [hg]; exact (below_size (by repeat (first | (with_reducible first | exact HB.out | apply bal | apply pwN | apply bd1 | refine bset ?_ GE305.out | refine bset ?_ GE306.out | refine bset ?_ GE307.out) | exact HB.out))) : w.heap.size ≤ gb312)); have n9_ := Az.mk ((by rw [hg]; exact Nat.ne_of_lt (blk_lt (g := gb305) (o := .cells #[.slice A0_0 l0_0.length c0_0, .slice (some ad311) l0_1.length c0_1] 25 (0, 0)) (by (with_reducible repeat (first | refine bdN ?_ _ | refine blk_drew ?_ | refine bkA ?_ _)); exact BK305.out)) : gb305 ≠ gb312)); have n10_ := Az.mk ((by rw [hg]; exact Nat.ne_of_gt (blk_lt (g := gb305) (o := .cells #[.slice A0_0 l0_0.length c0_0, .slice (some ad311) l0_1.length c0_1] 25 (0, 0)) (by (with_reducible repeat (first | refine bdN ?_ _ | refine blk_drew ?_ | refine bkA ?_ _)); exact BK305.out)) : gb312 ≠ gb305)); have n11_ := Az.mk ((by rw [hg]; exact Nat.ne_of_lt (blk_lt (g := gb306) (o := .cells #[.slice none 0 0, .slice none 0 0] 25 (0, 0)) (by (with_reducible repeat (first | refine bdN ?_ _ | refine blk_drew ?_ | refine bkA ?_ _)); exact BK306.out)) : gb306 ≠ gb312)); have n12_ := Az.mk ((by rw [hg]; exact Nat.ne_of_gt (blk_lt (g := gb306) (o := .cells #[.slice none 0 0, .slice none 0 0] 25 (0, 0)) (by (with_reducible repeat (first | refine bdN ?_ _ | refine blk_drew ?_ | refine bkA ?_ _)); exact BK306.out)) : gb312 ≠ gb306)); have n13_ := Az.mk ((by rw [hg]; exact Nat.ne_of_lt (blk_lt (g := gb307) (o := .cells #[.slice Ao12 y308.length co12, u308001] 25 (0, 0)) (by (with_reducible repeat (first | refine bdN ?_ _ | refine blk_drew ?_ | refine bkA ?_ _)); exact BK307.out)) : gb307 ≠ gb312)); have n14_ := Az.mk ((by rw [hg]; exact Nat.ne_of_gt (blk_lt (g := gb307) (o := .cells #[.slice Ao12 y308.length co12, u308001] 25 (0, 0)) (by (with_reducible repeat (first | refine bdN ?_ _ | refine blk_drew ?_ | refine bkA ?_ _)); exact BK307.out)) : gb312 ≠ gb307)); clear HO_308000; clear HO_308001; clear BK305; clear BK306; clear BK307; clear HB; have HO_308000 := n0_; have HO_308001 := n1_; have BK305 := n2_; have BK306 := n3_; have BK307 := n4_; have HB := n5_; have BK312 := n6_; have GW312 := n7_; have GE312 := n8_; have NB305_312 := n9_; have NB312_305 := n10_; have NB306_312 := n11_; have NB312_306 := n12_; have NB307_312 := n13_; have NB312_307 := n14_; clear n0_ n1_ n2_ n3_ n4_ n5_ n6_ n7_ n8_ n9_ n10_ n11_ n12_ n13_ n14_; clear hb hbox hg; have hnb22 := NB312_305.out; have hnc22 := NB305_312.out; have hnb23 := NB312_306.out; have hnc23 := NB306_312.out; have hnb24 := NB312_307.out; have hnc24 := NB307_312.out; have hcz25_0 : w21.cell? ⟨gb312, 0, none⟩ = some (.string (⟨#[]⟩ : ByteArray)) := (blk_cell BK312.out 0).trans rfl; have hcz25_1 : w21.cell? ⟨gb312, 1, none⟩ = some (.slice none 0 0) := (blk_cell BK312.out 1).trans rfl; have hcz25_2 : w21.cell? ⟨gb312, 2, none⟩ = some (.int .i64 0) := (blk_cell BK312.out 2).trans rfl; have hcz25_3 : w21.cell? ⟨gb312, 3, none⟩ = some (.int .i64 0) := (blk_cell BK312.out 3).trans rfl; have hcz25_4 : w21.cell? ⟨gb312, 4, none⟩ = some (.slice none 0 0) := (blk_cell BK312.out 4).trans rfl; have hfz25_0 := bkF BK312.out 0; have hfz25_1 := bkF BK312.out 1; have hfz25_2 := bkF BK312.out 2; have hfz25_3 := bkF BK312.out 3; have hfz25_4 := bkF BK312.out 4))
                have n0_ : Az (Kd.R k84 84 (((((w21.setCell ⟨gb312, 0, none⟩ (.string ((rd_T41 l0_1 x15_1).f0))).setCell ⟨gb312, 1, none⟩ (.slice A311_1 ((rd_T41 l0_1 x15_1).f1.f0).length c311_1)).setCell ⟨gb312, 2, none⟩ (.int .i64 ((rd_T41 l0_1 x15_1).f2.f0))).setCell ⟨gb312, 3, none⟩ (.int .i64 ((rd_T41 l0_1 x15_1).f2.f1))).setCell ⟨gb312, 4, none⟩ (.slice A311_4 ((rd_T41 l0_1 x15_1).f2.f2).length c311_4)) w.heap.size (fun _ => True) (.slice Ao12 y308.length co12) y308) := ⟨by (with_reducible repeat (first | apply Kd.R_alloc | apply Kd.R_drewN | apply Kd.R_drew)); exact Kd.R_mono (Kd.R_far (p := ⟨gb312, 4, none⟩) (Kd.R_far (p := ⟨gb312, 3, none⟩) (Kd.R_far (p := ⟨gb312, 2, none⟩) (Kd.R_far (p := ⟨gb312, 1, none⟩) (Kd.R_far (p := ⟨gb312, 0, none⟩) (Kd.R_types HO_308000.out BK312.out (by decide)) (fun _ hk => hk.2) (.string ((rd_T41 l0_1 x15_1).f0))) (fun _ hk => hk.2) (.slice A311_1 ((rd_T41 l0_1 x15_1).f1.f0).length c311_1)) (fun _ hk => hk.2) (.int .i64 ((rd_T41 l0_1 x15_1).f2.f0))) (fun _ hk => hk.2) (.int .i64 ((rd_T41 l0_1 x15_1).f2.f1))) (fun _ hk => hk.2) (.slice A311_4 ((rd_T41 l0_1 x15_1).f2.f2).length c311_4)) (fun _ hk => trivial)⟩
                have n1_ : Az (Kd.R k41 41 (((((w21.setCell ⟨gb312, 0, none⟩ (.string ((rd_T41 l0_1 x15_1).f0))).setCell ⟨gb312, 1, none⟩ (.slice A311_1 ((rd_T41 l0_1 x15_1).f1.f0).length c311_1)).setCell ⟨gb312, 2, none⟩ (.int .i64 ((rd_T41 l0_1 x15_1).f2.f0))).setCell ⟨gb312, 3, none⟩ (.int .i64 ((rd_T41 l0_1 x15_1).f2.f1))).setCell ⟨gb312, 4, none⟩ (.slice A311_4 ((rd_T41 l0_1 x15_1).f2.f2).length c311_4)) w.heap.size (fun k_ => k_ ≠ gb312) u308001 x308001_1) := ⟨by (with_reducible repeat (first | apply Kd.R_alloc | apply Kd.R_drewN | apply Kd.R_drew)); exact Kd.R_mono (Kd.R_far (p := ⟨gb312, 4, none⟩) (Kd.R_far (p := ⟨gb312, 3, none⟩) (Kd.R_far (p := ⟨gb312, 2, none⟩) (Kd.R_far (p := ⟨gb312, 1, none⟩) (Kd.R_far (p := ⟨gb312, 0, none⟩) (Kd.R_mono HO_308001.out (fun k_ hk => (⟨hk, hk.2⟩ : _ ∧ k_ ≠ gb312))) (fun _ hk => hk.2) (.string ((rd_T41 l0_1 x15_1).f0))) (fun _ hk => hk.2) (.slice A311_1 ((rd_T41 l0_1 x15_1).f1.f0).length c311_1)) (fun _ hk => hk.2) (.int .i64 ((rd_T41 l0_1 x15_1).f2.f0))) (fun _ hk => hk.2) (.int .i64 ((rd_T41 l0_1 x15_1).f2.f1))) (fun _ hk => hk.2) (.slice A311_4 ((rd_T41 l0_1 x15_1).f2.f2).length c311_4)) (fun _ hk => hk.1.2)⟩
                have n2_ : Az ((((((w21.setCell ⟨gb312, 0, none⟩ (.string ((rd_T41 l0_1 x15_1).f0))).setCell ⟨gb312, 1, none⟩ (.slice A311_1 ((rd_T41 l0_1 x15_1).f1.f0).length c311_1)).setCell ⟨gb312, 2, none⟩ (.int .i64 ((rd_T41 l0_1 x15_1).f2.f0))).setCell ⟨gb312, 3, none⟩ (.int .i64 ((rd_T41 l0_1 x15_1).f2.f1))).setCell ⟨gb312, 4, none⟩ (.slice A311_4 ((rd_T41 l0_1 x15_1).f2.f2).length c311_4)).heap[gb305]? = some (.cells #[.slice A0_0 l0_0.length c0_0, .slice (some ad311) l0_1.length c0_1] 25 (0, 0))) := ⟨by (with_reducible repeat (first | refine bdN ?_ _ | refine blk_drew ?_ | refine bkA ?_ _)); refine blk_far ?_ NB305_312.out _; (with_reducible repeat (first | refine bdN ?_ _ | refine blk_drew ?_ | refine bkA ?_ _)); refine blk_far ?_ NB305_312.out _; (with_reducible repeat (first | refine bdN ?_ _ | refine blk_drew ?_ | refine bkA ?_ _)); refine blk_far ?_ NB305_312.out _; (with_reducible repeat (first | refine bdN ?_ _ | refine blk_drew ?_ | refine bkA ?_ _)); refine blk_far ?_ NB305_312.out _; (with_reducible repeat (first | refine bdN ?_ _ | refine blk_drew ?_ | refine bkA ?_ _)); refine blk_far ?_ NB305_312.out _; (with_reducible repeat (first | refine bdN ?_ _ | refine blk_drew ?_ | refine bkA ?_ _)); exact BK305.out⟩
                have n3_ : Az ((((((w21.setCell ⟨gb312, 0, none⟩ (.string ((rd_T41 l0_1 x15_1).f0))).setCell ⟨gb312, 1, none⟩ (.slice A311_1 ((rd_T41 l0_1 x15_1).f1.f0).length c311_1)).setCell ⟨gb312, 2, none⟩ (.int .i64 ((rd_T41 l0_1 x15_1).f2.f0))).setCell ⟨gb312, 3, none⟩ (.int .i64 ((rd_T41 l0_1 x15_1).f2.f1))).setCell ⟨gb312, 4, none⟩ (.slice A311_4 ((rd_T41 l0_1 x15_1).f2.f2).length c311_4)).heap[gb306]? = some (.cells #[.slice none 0 0, .slice none 0 0] 25 (0, 0))) := ⟨by (with_reducible repeat (first | refine bdN ?_ _ | refine blk_drew ?_ | refine bkA ?_ _)); refine blk_far ?_ NB306_312.out _; (with_reducible repeat (first | refine bdN ?_ _ | refine blk_drew ?_ | refine bkA ?_ _)); refine blk_far ?_ NB306_312.out _; (with_reducible repeat (first | refine bdN ?_ _ | refine blk_drew ?_ | refine bkA ?_ _)); refine blk_far ?_ NB306_312.out _; (with_reducible repeat (first | refine bdN ?_ _ | refine blk_drew ?_ | refine bkA ?_ _)); refine blk_far ?_ NB306_312.out _; (with_reducible repeat (first | refine bdN ?_ _ | refine blk_drew ?_ | refine bkA ?_ _)); refine blk_far ?_ NB306_312.out _; (with_reducible repeat (first | refine bdN ?_ _ | refine blk_drew ?_ | refine bkA ?_ _)); exact BK306.out⟩
                have n4_ : Az ((((((w21.setCell ⟨gb312, 0, none⟩ (.string ((rd_T41 l0_1 x15_1).f0))).setCell ⟨gb312, 1, none⟩ (.slice A311_1 ((rd_T41 l0_1 x15_1).f1.f0).length c311_1)).setCell ⟨gb312, 2, none⟩ (.int .i64 ((rd_T41 l0_1 x15_1).f2.f0))).setCell ⟨gb312, 3, none⟩ (.int .i64 ((rd_T41 l0_1 x15_1).f2.f1))).setCell ⟨gb312, 4, none⟩ (.slice A311_4 ((rd_T41 l0_1 x15_1).f2.f2).length c311_4)).heap[gb307]? = some (.cells #[.slice Ao12 y308.length co12, u308001] 25 (0, 0))) := ⟨by (with_reducible repeat (first | refine bdN ?_ _ | refine blk_drew ?_ | refine bkA ?_ _)); refine blk_far ?_ NB307_312.out _; (with_reducible repeat (first | refine bdN ?_ _ | refine blk_drew ?_ | refine bkA ?_ _)); refine blk_far ?_ NB307_312.out _; (with_reducible repeat (first | refine bdN ?_ _ | refine blk_drew ?_ | refine bkA ?_ _)); refine blk_far ?_ NB307_312.out _; (with_reducible repeat (first | refine bdN ?_ _ | refine blk_drew ?_ | refine bkA ?_ _)); refine blk_far ?_ NB307_312.out _; (with_reducible repeat (first | refine bdN ?_ _ | refine blk_drew ?_ | refine bkA ?_ _)); refine blk_far ?_ NB307_312.out _; (with_reducible repeat (first | refine bdN ?_ _ | refine blk_drew ?_ | refine bkA ?_ _)); exact BK307.out⟩
                have n5_ : Az ((((((w21.setCell ⟨gb312, 0, none⟩ (.string ((rd_T41 l0_1 x15_1).f0))).setCell ⟨gb312, 1, none⟩ (.slice A311_1 ((rd_T41 l0_1 x15_1).f1.f0).length c311_1)).setCell ⟨gb312, 2, none⟩ (.int .i64 ((rd_T41 l0_1 x15_1).f2.f0))).setCell ⟨gb312, 3, none⟩ (.int .i64 ((rd_T41 l0_1 x15_1).f2.f1))).setCell ⟨gb312, 4, none⟩ (.slice A311_4 ((rd_T41 l0_1 x15_1).f2.f2).length c311_4)).heap[gb312]? = some (.cells #[.string ((rd_T41 l0_1 x15_1).f0), .slice A311_1 ((rd_T41 l0_1 x15_1).f1.f0).length c311_1, .int .i64 ((rd_T41 l0_1 x15_1).f2.f0), .int .i64 ((rd_T41 l0_1 x15_1).f2.f1), .slice A311_4 ((rd_T41 l0_1 x15_1).f2.f2).length c311_4] 41 (0, 0))) := ⟨by (with_reducible repeat (first | refine bdN ?_ _ | refine blk_drew ?_ | refine bkA ?_ _)); refine blk_put (cs := #[.string ((rd_T41 l0_1 x15_1).f0), .slice A311_1 ((rd_T41 l0_1 x15_1).f1.f0).length c311_1, .int .i64 ((rd_T41 l0_1 x15_1).f2.f0), .int .i64 ((rd_T41 l0_1 x15_1).f2.f1), .slice none 0 0]) ?_ 4 _ rfl; (with_reducible repeat (first | refine bdN ?_ _ | refine blk_drew ?_ | refine bkA ?_ _)); refine blk_put (cs := #[.string ((rd_T41 l0_1 x15_1).f0), .slice A311_1 ((rd_T41 l0_1 x15_1).f1.f0).length c311_1, .int .i64 ((rd_T41 l0_1 x15_1).f2.f0), .int .i64 0, .slice none 0 0]) ?_ 3 _ rfl; (with_reducible repeat (first | refine bdN ?_ _ | refine blk_drew ?_ | refine bkA ?_ _)); refine blk_put (cs := #[.string ((rd_T41 l0_1 x15_1).f0), .slice A311_1 ((rd_T41 l0_1 x15_1).f1.f0).length c311_1, .int .i64 0, .int .i64 0, .slice none 0 0]) ?_ 2 _ rfl; (with_reducible repeat (first | refine bdN ?_ _ | refine blk_drew ?_ | refine bkA ?_ _)); refine blk_put (cs := #[.string ((rd_T41 l0_1 x15_1).f0), .slice none 0 0, .int .i64 0, .int .i64 0, .slice none 0 0]) ?_ 1 _ rfl; (with_reducible repeat (first | refine bdN ?_ _ | refine blk_drew ?_ | refine bkA ?_ _)); refine blk_put (cs := #[.string (⟨#[]⟩ : ByteArray), .slice none 0 0, .int .i64 0, .int .i64 0, .slice none 0 0]) ?_ 0 _ rfl; (with_reducible repeat (first | refine bdN ?_ _ | refine blk_drew ?_ | refine bkA ?_ _)); exact BK312.out⟩
                have n6_ : Az (Below w.heap.size w (((((w21.setCell ⟨gb312, 0, none⟩ (.string ((rd_T41 l0_1 x15_1).f0))).setCell ⟨gb312, 1, none⟩ (.slice A311_1 ((rd_T41 l0_1 x15_1).f1.f0).length c311_1)).setCell ⟨gb312, 2, none⟩ (.int .i64 ((rd_T41 l0_1 x15_1).f2.f0))).setCell ⟨gb312, 3, none⟩ (.int .i64 ((rd_T41 l0_1 x15_1).f2.f1))).setCell ⟨gb312, 4, none⟩ (.slice A311_4 ((rd_T41 l0_1 x15_1).f2.f2).length c311_4))) := ⟨by repeat (first | (with_reducible first | exact HB.out | apply bal | apply pwN | apply bd1 | refine bset ?_ GE305.out | refine bset ?_ GE306.out | refine bset ?_ GE307.out | refine bset ?_ GE312.out) | exact HB.out)⟩
                (try clear HO_308000)
                (try clear HO_308001)
                (try clear BK305)
                (try clear BK306)
                (try clear BK307)
                (try clear BK312)
                (try clear HB)
                generalize (((((w21.setCell ⟨gb312, 0, none⟩ (.string ((rd_T41 l0_1 x15_1).f0))).setCell ⟨gb312, 1, none⟩ (.slice A311_1 ((rd_T41 l0_1 x15_1).f1.f0).length c311_1)).setCell ⟨gb312, 2, none⟩ (.int .i64 ((rd_T41 l0_1 x15_1).f2.f0))).setCell ⟨gb312, 3, none⟩ (.int .i64 ((rd_T41 l0_1 x15_1).f2.f1))).setCell ⟨gb312, 4, none⟩ (.slice A311_4 ((rd_T41 l0_1 x15_1).f2.f2).length c311_4)) = w26 at n0_ n1_ n2_ n3_ n4_ n5_ n6_ ⊢
                have HO_308000 := n0_
                have HO_308001 := n1_
                have BK305 := n2_
                have BK306 := n3_
                have BK307 := n4_
                have BK312 := n5_
                have HB := n6_
                clear n0_ n1_ n2_ n3_ n4_ n5_ n6_
                have n0_ := Az.mk (Kd.R_drew HO_308000.out)
                have n1_ := Az.mk (Kd.R_drew HO_308001.out)
                have n2_ := Az.mk (blk_drew BK305.out)
                have n3_ := Az.mk (blk_drew BK306.out)
                have n4_ := Az.mk (blk_drew BK307.out)
                have n5_ := Az.mk (blk_drew BK312.out)
                have n6_ := Az.mk (bd1 HB.out)
                clear HO_308000
                clear HO_308001
                clear BK305
                clear BK306
                clear BK307
                clear BK312
                clear HB
                have HO_308000 := n0_
                have HO_308001 := n1_
                have BK305 := n2_
                have BK306 := n3_
                have BK307 := n4_
                have BK312 := n5_
                have HB := n6_
                clear n0_ n1_ n2_ n3_ n4_ n5_ n6_
                refine start_ (n := 15) (S := fun w' => w'.cell? ⟨gb307, 0, none⟩ = some (.slice Ao12 y308.length co12) ∧ w'.cell? ⟨gb307, 1, none⟩ = some (u308001) ∧ w'.cell? ⟨gb312, 0, none⟩ = some (.string ((rd_T41 l0_1 x15_1).f0)) ∧ w'.cell? ⟨gb312, 1, none⟩ = some (.slice A311_1 ((rd_T41 l0_1 x15_1).f1.f0).length c311_1) ∧ w'.cell? ⟨gb312, 2, none⟩ = some (.int .i64 ((rd_T41 l0_1 x15_1).f2.f0)) ∧ w'.cell? ⟨gb312, 3, none⟩ = some (.int .i64 ((rd_T41 l0_1 x15_1).f2.f1)) ∧ w'.cell? ⟨gb312, 4, none⟩ = some (.slice A311_4 ((rd_T41 l0_1 x15_1).f2.f2).length c311_4)) (ds := [14]) #[false, false, false, false, false, false, false, false, false, false, false, false, false, false, false] (by kernel_rfl) rfl rfl ⟨(blk_cell BK307.out 0).trans rfl, (blk_cell BK307.out 1).trans rfl, (blk_cell BK312.out 0).trans rfl, (blk_cell BK312.out 1).trans rfl, (blk_cell BK312.out 2).trans rfl, (blk_cell BK312.out 3).trans rfl, (blk_cell BK312.out 4).trans rfl⟩ (fun hHeld => ?_); refine with_tabW virgationref03_Copy.tab6 virgationref03_Copy.bits6 (fun HT_ HW_ => ?_)
                generalize w26.drew = w27 at HO_308000 HO_308001 BK305 BK306 BK307 BK312 HB hHeld ⊢
                refine pure_ (i := 0) (N := some 19) (v := ?_) (a' := ?_) #[true, false, false, false, false, false, false, false, false, false, false, false, false, false, false] rfl rfl (any_of HT_.out (by kernel_rfl)) (fun _ _ _ h => h) (Or.inl ⟨by rfl, ?_⟩) ?_ ?_
                rotate_left
                · intro w'
                  go_simp
                  with_reducible rfl
                rotate_left
                · simp only [Act.put, List.setIfInBounds_toArray, List.set_cons_zero, List.set_cons_succ, i64_w, i32_w]
                  rfl
                refine pure_ (i := 2) (N := some 21) (v := ?_) (a' := ?_) #[true, false, true, false, false, false, false, false, false, false, false, false, false, false, false] rfl rfl (any_of HT_.out (by kernel_rfl)) (fun _ _ _ h => h) (Or.inl ⟨by rfl, ?_⟩) ?_ ?_
                rotate_left
                · intro w'
                  go_simp
                  with_reducible rfl
                rotate_left
                · simp only [Act.put, List.setIfInBounds_toArray, List.set_cons_zero, List.set_cons_succ, i64_w, i32_w]
                  rfl
                refine pure_ (i := 4) (N := some 23) (v := ?_) (a' := ?_) #[true, false, true, false, true, false, false, false, false, false, false, false, false, false, false] rfl rfl (any_of HT_.out (by kernel_rfl)) (fun _ _ _ h => h) (Or.inl ⟨by rfl, ?_⟩) ?_ ?_
                rotate_left
                · intro w'
                  go_simp
                  with_reducible rfl
                rotate_left
                · simp only [Act.put, List.setIfInBounds_toArray, List.set_cons_zero, List.set_cons_succ, i64_w, i32_w]
                  rfl
                refine pure_ (i := 7) (N := some 26) (v := ?_) (a' := ?_) #[true, false, true, false, true, false, false, true, false, false, false, false, false, false, false] rfl rfl (any_of HT_.out (by kernel_rfl)) (fun _ _ _ h => h) (Or.inl ⟨by rfl, ?_⟩) ?_ ?_
                rotate_left
                · intro w'
                  go_simp
                  with_reducible rfl
                rotate_left
                · simp only [Act.put, List.setIfInBounds_toArray, List.set_cons_zero, List.set_cons_succ, i64_w, i32_w]
                  rfl
                refine take_ (i := 1) (N := some 20) (v := ?_) (a' := ?_) #[true, true, true, false, true, false, false, true, false, false, false, false, false, false, false] rfl rfl (take_ofW HT_.out HW_.out (by kernel_rfl)) (fun _ _ _ h => h) (Or.inl ⟨by rfl, ?_⟩) hHeld ?_ ?_
                rotate_left
                · rintro w' ⟨s0, s1, s2, s3, s4, s5, s6⟩
                  go_simp
                  with_reducible rfl
                rotate_left
                · simp only [Act.put, List.setIfInBounds_toArray, List.set_cons_zero, List.set_cons_succ, i64_w, i32_w]
                  rfl
                refine take_ (i := 3) (N := some 22) (v := ?_) (a' := ?_) #[true, true, true, true, true, false, false, true, false, false, false, false, false, false, false] rfl rfl (take_ofW HT_.out HW_.out (by kernel_rfl)) (fun _ _ _ h => h) (Or.inl ⟨by rfl, ?_⟩) hHeld ?_ ?_
                rotate_left
                · rintro w' ⟨s0, s1, s2, s3, s4, s5, s6⟩
                  go_simp
                  with_reducible rfl
                rotate_left
                · simp only [Act.put, List.setIfInBounds_toArray, List.set_cons_zero, List.set_cons_succ, i64_w, i32_w]
                  rfl
                refine take_ (i := 5) (N := some 24) (v := ?_) (a' := ?_) #[true, true, true, true, true, true, false, true, false, false, false, false, false, false, false] rfl rfl (take_ofW HT_.out HW_.out (by kernel_rfl)) (fun _ _ _ h => h) (Or.inl ⟨by rfl, ?_⟩) hHeld ?_ ?_
                rotate_left
                · rintro w' ⟨s0, s1, s2, s3, s4, s5, s6⟩
                  go_simp
                  with_reducible rfl
                rotate_left
                · simp only [Act.put, List.setIfInBounds_toArray, List.set_cons_zero, List.set_cons_succ, i64_w, i32_w]
                  rfl
                refine take_ (i := 8) (N := some 27) (v := ?_) (a' := ?_) #[true, true, true, true, true, true, false, true, true, false, false, false, false, false, false] rfl rfl (take_ofW HT_.out HW_.out (by kernel_rfl)) (fun _ _ _ h => h) (Or.inl ⟨by rfl, ?_⟩) hHeld ?_ ?_
                rotate_left
                · rintro w' ⟨s0, s1, s2, s3, s4, s5, s6⟩
                  go_simp
                  with_reducible rfl
                rotate_left
                · simp only [Act.put, List.setIfInBounds_toArray, List.set_cons_zero, List.set_cons_succ, i64_w, i32_w]
                  rfl
                refine one_ (i := 6) (N := some 25) #[true, true, true, true, true, true, true, true, true, false, false, false, false, false, false] rfl rfl (one_of HT_.out (by kernel_rfl)) (by decide) (fun K hK => ?_)
                refine goes_ Try.func29 (by kernel_rfl) rfl #[.agg #[.slice A311_1 ((rd_T41 l0_1 x15_1).f1.f0).length c311_1]] (by rfl) rfl rfl (by (try simp only [List.map_toArray, List.map_cons, List.map_nil]); first | done | rfl | (simp only [List.length_drop, List.length_take]; rfl)) ?_
                with_reducible refine (virgationref01_Copy.calls k1 _ _ ((rd_T41 l0_1 x15_1).f1.f0) t313 _ ?side1 ?side2 A18.out).mono ?_
                (case side1 => repeat (first | exact (Kd.C_below HR311_1.out HB.out) | (with_reducible refine Kd.C_alloc ?_ _) | (with_reducible refine Kd.C_drewN ?_ _) | (with_reducible refine Kd.C_drew ?_)))
                (case side2 => exact HC311_1.out)
                rintro e w28 ⟨v314, rfl, ho0, hb⟩
                refine ⟨_, rfl, ?_⟩
                have n0_ := Az.mk (Kd.R_below (by (with_reducible repeat (first | apply Kd.R_alloc | apply Kd.R_drewN | apply Kd.R_drew)); exact HO_308000.out) hb)
                have n1_ := Az.mk (Kd.R_elder' (by (with_reducible repeat (first | apply Kd.R_alloc | apply Kd.R_drewN | apply Kd.R_drew)); exact HO_308001.out) (Kd.R_base ho0) hb)
                have n2_ := Az.mk (Kd.R_lower ho0 (below_size (by repeat (first | (with_reducible first | exact HB.out | apply bal | apply pwN | apply bd1 | refine bset ?_ GE305.out | refine bset ?_ GE306.out | refine bset ?_ GE307.out | refine bset ?_ GE312.out) | exact HB.out))))
                have n3_ := Az.mk (bkB (g := gb305) (o := .cells #[.slice A0_0 l0_0.length c0_0, .slice (some ad311) l0_1.length c0_1] 25 (0, 0)) (by (with_reducible repeat (first | refine bdN ?_ _ | refine blk_drew ?_ | refine bkA ?_ _)); exact BK305.out) hb)
                have n4_ := Az.mk (bkB (g := gb306) (o := .cells #[.slice none 0 0, .slice none 0 0] 25 (0, 0)) (by (with_reducible repeat (first | refine bdN ?_ _ | refine blk_drew ?_ | refine bkA ?_ _)); exact BK306.out) hb)
                have n5_ := Az.mk (bkB (g := gb307) (o := .cells #[.slice Ao12 y308.length co12, u308001] 25 (0, 0)) (by (with_reducible repeat (first | refine bdN ?_ _ | refine blk_drew ?_ | refine bkA ?_ _)); exact BK307.out) hb)
                have n6_ := Az.mk (bkB (g := gb312) (o := .cells #[.string ((rd_T41 l0_1 x15_1).f0), .slice A311_1 ((rd_T41 l0_1 x15_1).f1.f0).length c311_1, .int .i64 ((rd_T41 l0_1 x15_1).f2.f0), .int .i64 ((rd_T41 l0_1 x15_1).f2.f1), .slice A311_4 ((rd_T41 l0_1 x15_1).f2.f2).length c311_4] 41 (0, 0)) (by (with_reducible repeat (first | refine bdN ?_ _ | refine blk_drew ?_ | refine bkA ?_ _)); exact BK312.out) hb)
                have n7_ := Az.mk (bst (by repeat (first | (with_reducible first | exact HB.out | apply bal | apply pwN | apply bd1 | refine bset ?_ GE305.out | refine bset ?_ GE306.out | refine bset ?_ GE307.out | refine bset ?_ GE312.out) | exact HB.out)) hb)
                clear HO_308000
                clear HO_308001
                clear BK305
                clear BK306
                clear BK307
                clear BK312
                clear HB
                have HO_308000 := n0_
                have HO_308001 := n1_
                have HO315 := n2_
                have BK305 := n3_
                have BK306 := n4_
                have BK307 := n5_
                have BK312 := n6_
                have HB := n7_
                clear n0_ n1_ n2_ n3_ n4_ n5_ n6_ n7_
                (try clear hb)
                (try clear hb2)
                (try clear hk)
                (try clear hi)
                (try clear ho0)
                refine hK.out _ _ ⟨(blk_cell BK307.out 0).trans rfl, (blk_cell BK307.out 1).trans rfl, (blk_cell BK312.out 0).trans rfl, (blk_cell BK312.out 1).trans rfl, (blk_cell BK312.out 2).trans rfl, (blk_cell BK312.out 3).trans rfl, (blk_cell BK312.out 4).trans rfl⟩ (fun hHeld => ?_)
                clear hK K
                refine norm_ (a' := ?_) ?_ ?_
                rotate_left
                · show Act.put _ (some 25) _ = _
                  simp only [Act.put, List.setIfInBounds_toArray, List.set_cons_zero, List.set_cons_succ, i64_w, i32_w]
                  rfl
                refine one_ (i := 9) (N := some 28) #[true, true, true, true, true, true, true, true, true, true, false, false, false, false, false] rfl rfl (one_of HT_.out (by kernel_rfl)) (by decide) (fun K hK => ?_)
                refine goes_ Try.func30 (by kernel_rfl) rfl #[.agg #[.int .i64 ((rd_T41 l0_1 x15_1).f2.f0), .int .i64 ((rd_T41 l0_1 x15_1).f2.f1), .slice A311_4 ((rd_T41 l0_1 x15_1).f2.f2).length c311_4]] (by rfl) rfl rfl (by (try simp only [List.map_toArray, List.map_cons, List.map_nil]); first | done | rfl | (simp only [List.length_drop, List.length_take]; rfl)) ?_
                with_reducible refine (virgationref02_Copy.calls ((rd_T41 l0_1 x15_1).f2.f0) ((rd_T41 l0_1 x15_1).f2.f1) _ _ ((rd_T41 l0_1 x15_1).f2.f2) t316 t317 t318 _ ?side1 ?side2 A19.out).mono ?_
                (case side1 => repeat (first | exact (Kd.C_below HR311_4.out HB.out) | (with_reducible refine Kd.C_alloc ?_ _) | (with_reducible refine Kd.C_drewN ?_ _) | (with_reducible refine Kd.C_drew ?_)))
                (case side2 => exact HC311_4.out)
                rintro e w29 ⟨v319, rfl, ho0, hb⟩
                refine ⟨_, rfl, ?_⟩
                have n0_ := Az.mk (Kd.R_below (by (with_reducible repeat (first | apply Kd.R_alloc | apply Kd.R_drewN | apply Kd.R_drew)); exact HO_308000.out) hb)
                have n1_ := Az.mk (Kd.R_elder' (by (with_reducible repeat (first | apply Kd.R_alloc | apply Kd.R_drewN | apply Kd.R_drew)); exact HO_308001.out) (Kd.R_base ho0) hb)
                have n2_ := Az.mk (Kd.R_below (by (with_reducible repeat (first | apply Kd.R_alloc | apply Kd.R_drewN | apply Kd.R_drew)); exact HO315.out) hb)
                have n3_ := Az.mk (Kd.R_lower ho0 (below_size (by repeat (first | (with_reducible first | exact HB.out | apply bal | apply pwN | apply bd1 | refine bset ?_ GE305.out | refine bset ?_ GE306.out | refine bset ?_ GE307.out | refine bset ?_ GE312.out) | exact HB.out))))
                have n4_ := Az.mk (bkB (g := gb305) (o := .cells #[.slice A0_0 l0_0.length c0_0, .slice (some ad311) l0_1.length c0_1] 25 (0, 0)) (by (with_reducible repeat (first | refine bdN ?_ _ | refine blk_drew ?_ | refine bkA ?_ _)); exact BK305.out) hb)
                have n5_ := Az.mk (bkB (g := gb306) (o := .cells #[.slice none 0 0, .slice none 0 0] 25 (0, 0)) (by (with_reducible repeat (first | refine bdN ?_ _ | refine blk_drew ?_ | refine bkA ?_ _)); exact BK306.out) hb)
                have n6_ := Az.mk (bkB (g := gb307) (o := .cells #[.slice Ao12 y308.length co12, u308001] 25 (0, 0)) (by (with_reducible repeat (first | refine bdN ?_ _ | refine blk_drew ?_ | refine bkA ?_ _)); exact BK307.out) hb)
                have n7_ := Az.mk (bkB (g := gb312) (o := .cells #[.string ((rd_T41 l0_1 x15_1).f0), .slice A311_1 ((rd_T41 l0_1 x15_1).f1.f0).length c311_1, .int .i64 ((rd_T41 l0_1 x15_1).f2.f0), .int .i64 ((rd_T41 l0_1 x15_1).f2.f1), .slice A311_4 ((rd_T41 l0_1 x15_1).f2.f2).length c311_4] 41 (0, 0)) (by (with_reducible repeat (first | refine bdN ?_ _ | refine blk_drew ?_ | refine bkA ?_ _)); exact BK312.out) hb)
                have n8_ := Az.mk (bst (by repeat (first | (with_reducible first | exact HB.out | apply bal | apply pwN | apply bd1 | refine bset ?_ GE305.out | refine bset ?_ GE306.out | refine bset ?_ GE307.out | refine bset ?_ GE312.out) | exact HB.out)) hb)
                clear HO_308000
                clear HO_308001
                clear HO315
                clear BK305
                clear BK306
                clear BK307
                clear BK312
                clear HB
                have HO_308000 := n0_
                have HO_308001 := n1_
                have HO315 := n2_
                have HO320 := n3_
                have BK305 := n4_
                have BK306 := n5_
                have BK307 := n6_
                have BK312 := n7_
                have HB := n8_
                clear n0_ n1_ n2_ n3_ n4_ n5_ n6_ n7_ n8_
                (try clear hb)
                (try clear hb2)
                (try clear hk)
                (try clear hi)
                (try clear ho0)
                obtain ⟨Ao30, co30, eo30⟩ := Kd.R_slice HO320.out
                (first | subst eo30 | (injection eo30 with f1_ f2_ f3_; have f4_ := f1_.symm; have f5_ := f3_.symm; clear f1_ f2_ f3_; subst f4_; subst f5_))
                obtain ⟨Ao31, co31, eo31⟩ := Kd.R_slice HO315.out
                (first | subst eo31 | (injection eo31 with f1_ f2_ f3_; have f4_ := f1_.symm; have f5_ := f3_.symm; clear f1_ f2_ f3_; subst f4_; subst f5_))
                refine hK.out _ _ ⟨(blk_cell BK307.out 0).trans rfl, (blk_cell BK307.out 1).trans rfl, (blk_cell BK312.out 0).trans rfl, (blk_cell BK312.out 1).trans rfl, (blk_cell BK312.out 2).trans rfl, (blk_cell BK312.out 3).trans rfl, (blk_cell BK312.out 4).trans rfl⟩ (fun hHeld => ?_)
                clear hK K
                refine norm_ (a' := ?_) ?_ ?_
                rotate_left
                · show Act.put _ (some 28) _ = _
                  simp only [Act.put, List.setIfInBounds_toArray, List.set_cons_zero, List.set_cons_succ, i64_w, i32_w]
                  rfl
                refine pure_ (i := 10) (N := some 29) (v := ?_) (a' := ?_) #[true, true, true, true, true, true, true, true, true, true, true, false, false, false, false] rfl rfl (any_of HT_.out (by kernel_rfl)) (fun _ _ _ h => h) (Or.inl ⟨by rfl, ?_⟩) ?_ ?_
                rotate_left
                · intro w'
                  go_simp
                  with_reducible rfl
                rotate_left
                · simp only [Act.put, List.setIfInBounds_toArray, List.set_cons_zero, List.set_cons_succ, i64_w, i32_w]
                  rfl
                refine one_ (i := 11) (N := some 30) #[true, true, true, true, true, true, true, true, true, true, true, true, false, false, false] rfl rfl (one_of HT_.out (by kernel_rfl)) (by decide) (fun K hK => ?_)
                refine value_ (w1 := ?_) (v := ?_) (by rfl) rfl ?_ ?_
                rotate_left 2
                · go_simp
                  constructor
                  · rfl
                  · rfl
                refine hK.out _ _ ⟨(blk_cell (bkA BK307.out _) 0).trans rfl, (blk_cell (bkA BK307.out _) 1).trans rfl, (blk_cell (bkA BK312.out _) 0).trans rfl, (blk_cell (bkA BK312.out _) 1).trans rfl, (blk_cell (bkA BK312.out _) 2).trans rfl, (blk_cell (bkA BK312.out _) 3).trans rfl, (blk_cell (bkA BK312.out _) 4).trans rfl⟩ (fun hHeld => ?_)
                clear hK K
                refine norm_ (a' := ?_) ?_ ?_
                rotate_left
                · show Act.put _ (some 30) _ = _
                  simp only [Act.put, List.setIfInBounds_toArray, List.set_cons_zero, List.set_cons_succ, i64_w, i32_w]
                  rfl
                refine one_ (i := 12) (N := some 31) #[true, true, true, true, true, true, true, true, true, true, true, true, true, false, false] rfl rfl (one_of HT_.out (by kernel_rfl)) (by decide) (fun K hK => ?_)
                refine Kd.R_append_step k41 (w0 := w) w.heap.size (by rfl) (.tmp 20) (.tmp 30) 23 41 (.agg #[(.string ⟨#[]⟩), (.slice none 0 0), (.int .i64 0), (.int .i64 0), (.slice none 0 0)]) 80 rfl Try.underlying23 info41 rfl (by decide) (by omega) u308001 x308001_1 (⟨(rd_T41 l0_1 x15_1).f0, (⟨t313⟩ : S39), (⟨t316, t317, t318⟩ : S36)⟩ : S41) [.string ((rd_T41 l0_1 x15_1).f0), .slice Ao31 t313.length co31, .int .i64 t316, .int .i64 t317, .slice Ao30 t318.length co30] (fun k_ => k_ ≠ gb312) (fun k_ => ((fun k_ => k_ ≠ gb312)) k_ ∧ some k_ ≠ (u308001 : Value).ownBlock) rfl rfl ?aP (fun _ hk => hk) ?aF ?aO ?aB ?aS ?aL ?_
                (case aP => exact k41_mkM _ _ _ (⟨(rd_T41 l0_1 x15_1).f0, (⟨t313⟩ : S39), (⟨t316, t317, t318⟩ : S36)⟩ : S41) (Kd.R_mono (Kd.R_types (Kd.R_apart' (HO315.out) (Kd.R_typed HO_308001.out) (by decide)) BK312.out (by decide)) (fun k_ hk => ⟨hk.2, hk.1.2⟩)) (Kd.R_mono (Kd.R_types (Kd.R_apart' (HO320.out) (Kd.R_typed HO_308001.out) (by decide)) BK312.out (by decide)) (fun k_ hk => ⟨hk.2, hk.1.2⟩)))
                (case aB => exact (by repeat (first | (with_reducible first | exact HB.out | apply bal | apply pwN | apply bd1 | refine bset ?_ GE305.out | refine bset ?_ GE306.out | refine bset ?_ GE307.out | refine bset ?_ GE312.out) | exact HB.out)))
                (case aF => exact (fun k_ hk => Kd.freshB (g := gb312) (o := .cells #[.string ((rd_T41 l0_1 x15_1).f0), .slice A311_1 ((rd_T41 l0_1 x15_1).f1.f0).length c311_1, .int .i64 ((rd_T41 l0_1 x15_1).f2.f0), .int .i64 ((rd_T41 l0_1 x15_1).f2.f1), .slice A311_4 ((rd_T41 l0_1 x15_1).f2.f2).length c311_4] 41 (0, 0)) (by (with_reducible repeat (first | refine bdN ?_ _ | refine blk_drew ?_ | refine bkA ?_ _)); exact BK312.out) k_ hk))
                (case aO => exact (by (with_reducible repeat (first | apply Kd.R_alloc | apply Kd.R_drewN | apply Kd.R_drew)); exact Kd.R_mono HO_308001.out (fun _ hk => hk.1.1)))
                (case aS => exact (below_size (by repeat (first | (with_reducible first | exact HB.out | apply bal | apply pwN | apply bd1 | refine bset ?_ GE305.out | refine bset ?_ GE306.out | refine bset ?_ GE307.out | refine bset ?_ GE312.out) | exact HB.out))))
                (case aL => have := LMc20.out; omega)
                intro v322 w32 ho hb hg hat
                rw [← Ny321.out] at ho
                have n0_ := Az.mk (Kd.R_over' (by (with_reducible repeat (first | apply Kd.R_alloc | apply Kd.R_drewN | apply Kd.R_drew)); exact HO_308000.out) (Kd.R_typed (by (with_reducible repeat (first | apply Kd.R_alloc | apply Kd.R_drewN | apply Kd.R_drew)); exact HO_308001.out)) (by decide) hg)
                have n1_ := Az.mk (blk_grown (g := gb305) (o := .cells #[.slice A0_0 l0_0.length c0_0, .slice (some ad311) l0_1.length c0_1] 25 (0, 0)) (by (with_reducible repeat (first | refine bdN ?_ _ | refine blk_drew ?_ | refine bkA ?_ _)); exact BK305.out) hg (Kd.R_ne HO_308001.out BK305.out (by decide)))
                have n2_ := Az.mk (blk_grown (g := gb306) (o := .cells #[.slice none 0 0, .slice none 0 0] 25 (0, 0)) (by (with_reducible repeat (first | refine bdN ?_ _ | refine blk_drew ?_ | refine bkA ?_ _)); exact BK306.out) hg (Kd.R_ne HO_308001.out BK306.out (by decide)))
                have n3_ := Az.mk (blk_grown (g := gb307) (o := .cells #[.slice Ao12 y308.length co12, u308001] 25 (0, 0)) (by (with_reducible repeat (first | refine bdN ?_ _ | refine blk_drew ?_ | refine bkA ?_ _)); exact BK307.out) hg (Kd.R_ne HO_308001.out BK307.out (by decide)))
                have n4_ := Az.mk (blk_grown (g := gb312) (o := .cells #[.string ((rd_T41 l0_1 x15_1).f0), .slice A311_1 ((rd_T41 l0_1 x15_1).f1.f0).length c311_1, .int .i64 ((rd_T41 l0_1 x15_1).f2.f0), .int .i64 ((rd_T41 l0_1 x15_1).f2.f1), .slice A311_4 ((rd_T41 l0_1 x15_1).f2.f2).length c311_4] 41 (0, 0)) (by (with_reducible repeat (first | refine bdN ?_ _ | refine blk_drew ?_ | refine bkA ?_ _)); exact BK312.out) hg (Kd.R_away HO_308001.out (fun _ hk => hk.1.1)))
                have n5_ := Az.mk (hb)
                have n6_ := Az.mk (ho)
                clear HO_308000
                clear BK305
                clear BK306
                clear BK307
                clear BK312
                clear HB
                clear HO_308001
                clear HO315
                clear HO320
                have HO_308000 := n0_
                have BK305 := n1_
                have BK306 := n2_
                have BK307 := n3_
                have BK312 := n4_
                have HB := n5_
                have HO323 := n6_
                clear n0_ n1_ n2_ n3_ n4_ n5_ n6_
                clear ho hb hg hat
                obtain ⟨Ao33, co33, eo33⟩ := Kd.R_slice HO323.out
                (first | subst eo33 | (injection eo33 with f1_ f2_ f3_; have f4_ := f1_.symm; have f5_ := f3_.symm; clear f1_ f2_ f3_; subst f4_; subst f5_))
                refine hK.out _ _ ⟨(blk_cell BK307.out 0).trans rfl, (blk_cell BK307.out 1).trans rfl, (blk_cell BK312.out 0).trans rfl, (blk_cell BK312.out 1).trans rfl, (blk_cell BK312.out 2).trans rfl, (blk_cell BK312.out 3).trans rfl, (blk_cell BK312.out 4).trans rfl⟩ (fun hHeld => ?_)
                clear hK K
                refine norm_ (a' := ?_) ?_ ?_
                rotate_left
                · show Act.put _ (some 31) _ = _
                  simp only [Act.put, List.setIfInBounds_toArray, List.set_cons_zero, List.set_cons_succ, i64_w, i32_w]
                  rfl
                refine pure_ (i := 13) (N := some 32) (v := ?_) (a' := ?_) #[true, true, true, true, true, true, true, true, true, true, true, true, true, true, false] rfl rfl (any_of HT_.out (by kernel_rfl)) (fun _ _ _ h => h) (Or.inl ⟨by rfl, ?_⟩) ?_ ?_
                rotate_left
                · intro w'
                  go_simp
                  with_reducible rfl
                rotate_left
                · simp only [Act.put, List.setIfInBounds_toArray, List.set_cons_zero, List.set_cons_succ, i64_w, i32_w]
                  rfl
                refine last_ (i := 14) (N := none) #[true, true, true, true, true, true, true, true, true, true, true, true, true, true, true] rfl rfl (one_of HT_.out (by kernel_rfl)) (by decide) (fun K hK => ?_)
                have hs34 : w32.cell? ⟨gb307, 1, none⟩ = some (u308001) := (blk_cell BK307.out 1).trans rfl
                have hfs34 := bkF BK307.out 1
                have hns34_0 := NB305_307.out
                have hns34_1 := NB306_307.out
                have hns34_3 := NB312_307.out
                have hms34_0 := NB307_305.out
                have hms34_1 := NB307_306.out
                have hms34_3 := NB307_312.out
                refine skip_ (w1 := ?_) (by rfl) rfl ?_ ?_
                rotate_left
                · go_simp
                  rfl
                refine hK.out _ _ ?_
                clear hK K
                refine done_ (done_of HT_.out (by kernel_rfl)) ?_
                try go_wp2
                go_roundg k1
                case measure => have := HK1.out; omega
                case rel => exact ⟨(wrap64 (x15_1 + 1)), (y321), (.slice Ao33 y321.length co33), (by first | rfl | (simp; done) | (simp [*]; done)), H', ⟨by have := HK1.out; omega⟩, ⟨by (with_reducible repeat (first | apply Kd.R_alloc | apply Kd.R_drewN | apply Kd.R_drew)); exact Kd.R_mono (Kd.R_far (p := ⟨gb307, 1, none⟩) (Kd.R_types HO_308000.out BK307.out (by decide)) (fun _ hk => hk.2) (.slice Ao33 y321.length co33)) (fun _ hk => trivial)⟩, ⟨by (with_reducible repeat (first | apply Kd.R_alloc | apply Kd.R_drewN | apply Kd.R_drew)); exact Kd.R_mono (Kd.R_far (p := ⟨gb307, 1, none⟩) (Kd.R_types HO323.out BK307.out (by decide)) (fun _ hk => hk.2) (.slice Ao33 y321.length co33)) (fun _ hk => trivial)⟩, ⟨by (with_reducible repeat (first | refine bdN ?_ _ | refine blk_drew ?_ | refine bkA ?_ _)); refine blk_far ?_ NB305_307.out _; (with_reducible repeat (first | refine bdN ?_ _ | refine blk_drew ?_ | refine bkA ?_ _)); exact BK305.out⟩, ⟨by (with_reducible repeat (first | refine bdN ?_ _ | refine blk_drew ?_ | refine bkA ?_ _)); refine blk_far ?_ NB306_307.out _; (with_reducible repeat (first | refine bdN ?_ _ | refine blk_drew ?_ | refine bkA ?_ _)); exact BK306.out⟩, ⟨by (with_reducible repeat (first | refine bdN ?_ _ | refine blk_drew ?_ | refine bkA ?_ _)); refine blk_put (cs := #[.slice Ao12 y308.length co12, u308001]) ?_ 1 _ rfl; (with_reducible repeat (first | refine bdN ?_ _ | refine blk_drew ?_ | refine bkA ?_ _)); exact BK307.out⟩, ⟨by repeat (first | (with_reducible first | exact HB.out | apply bal | apply pwN | apply bd1 | refine bset ?_ GE305.out | refine bset ?_ GE306.out | refine bset ?_ GE307.out | refine bset ?_ GE312.out) | exact HB.out)⟩⟩
              · rw [if_neg c20] at H
                exact absurd H (by simp)
            · rw [if_neg c17] at H
              exact absurd H (by simp)
          · rw [if_neg c16] at H
            exact absurd H (by simp)
        · rw [if_neg c15] at H
          have c15b0 : decide (x15_1 < (l0_1.length : Int)) = false := decide_eq_false c15
          clear c15
          simp only [Option.some.injEq, Prod.mk.injEq] at H
          obtain ⟨rfl, rfl⟩ := H
          have hnb35 := NB307_305.out
          have hnc35 := NB305_307.out
          have hnb36 := NB307_306.out
          have hnc36 := NB306_307.out
          have hcz37_0 : wr.cell? ⟨gb307, 0, none⟩ = some (.slice Ao12 y308.length co12) := (blk_cell BK307.out 0).trans rfl
          have hcz37_1 : wr.cell? ⟨gb307, 1, none⟩ = some (u308001) := (blk_cell BK307.out 1).trans rfl
          have hfz37_0 := bkF BK307.out 0
          have hfz37_1 := bkF BK307.out 1
          have hnb38 := NB306_305.out
          have hnc38 := NB305_306.out
          have hcz39_0 : wr.cell? ⟨gb306, 0, none⟩ = some (.slice none 0 0) := (blk_cell BK306.out 0).trans rfl
          have hcz39_1 : wr.cell? ⟨gb306, 1, none⟩ = some (.slice none 0 0) := (blk_cell BK306.out 1).trans rfl
          have hfz39_0 := bkF BK306.out 0
          have hfz39_1 := bkF BK306.out 1
          obtain ⟨Ao40, co40, eo40⟩ := Kd.R_slice HO_308001.out
          subst eo40
          go_wp2
          refine bodyPost_ret (results_cell_row rfl _ _ gb306 25 #[.slice Ao12 y308.length co12, .slice Ao40 x308001_1.length co40] (0, 0) _ rfl (by (with_reducible repeat (first | refine bdN ?_ _ | refine blk_drew ?_ | refine bkA ?_ _)); refine blk_put (cs := #[.slice Ao12 y308.length co12, .slice none 0 0]) ?_ 1 _ rfl; (with_reducible repeat (first | refine bdN ?_ _ | refine blk_drew ?_ | refine bkA ?_ _)); refine blk_put (cs := #[.slice none 0 0, .slice none 0 0]) ?_ 0 _ rfl; (with_reducible repeat (first | refine bdN ?_ _ | refine blk_drew ?_ | refine bkA ?_ _)); exact BK306.out) Try.underlying25 rfl (by kernel_rfl)) rfl ?_
          exact ⟨_, _, by first | rfl | (simp [errW_none, errW_some] <;> rfl) | (simp [*, errW_none, errW_some] <;> rfl), by (with_reducible repeat (first | apply Kd.R_alloc | apply Kd.R_drewN | apply Kd.R_drew)); exact Kd.R_mono (Kd.R_far (p := ⟨gb306, 1, none⟩) (Kd.R_far (p := ⟨gb306, 0, none⟩) (Kd.R_types HO_308000.out BK306.out (by decide)) (fun _ hk => hk.2) (.slice Ao12 y308.length co12)) (fun _ hk => hk.2) (.slice Ao40 x308001_1.length co40)) (fun _ hk => trivial), by (with_reducible repeat (first | apply Kd.R_alloc | apply Kd.R_drewN | apply Kd.R_drew)); exact Kd.R_mono (Kd.R_far (p := ⟨gb306, 1, none⟩) (Kd.R_far (p := ⟨gb306, 0, none⟩) (Kd.R_types HO_308001.out BK306.out (by decide)) (fun _ hk => hk.2) (.slice Ao12 y308.length co12)) (fun _ hk => hk.2) (.slice Ao40 x308001_1.length co40)) (fun _ hk => trivial), by repeat (first | (with_reducible first | exact HB.out | apply bal | apply pwN | apply bd1 | refine bset ?_ GE305.out | refine bset ?_ GE306.out | refine bset ?_ GE307.out) | exact HB.out)⟩
  · rw [if_neg c2] at H
    exact absurd H (by simp)
end Go.Proofs.Ytkgknidogelffaa.I
namespace Go.Proofs.Ytkgknidogelffaa.I
open Go.RowKit Go.Proofs.YtkgknidogelffaaW.PrintWords Go.Proofs.YtkgknidogelffaaW.PrintLast Go.Proofs.YtkgknidogelffaaW.PrintMore
attribute [local go_sem] max2_int min2_int max_two min_two max_three min_three max_four min_four
set_option linter.unusedVariables false
set_option maxRecDepth 100000
set_option linter.unusedSimpArgs false
structure Sch (w : World) (A0 : Option Addr) (c0 : Nat) (l0 : List S84) (A1 : Option Addr) (c1 : Nat) (l1 : List S41) : Prop where
  r0 : Kd.C k84 w A0 l0.length l0
  h0 : l0.length ≤ c0
  r1 : Kd.C k41 w A1 l1.length l1
  h1 : l1.length ≤ c1
theorem Sch.below {w w' : World} {A0 : Option Addr} {c0 : Nat} {l0 : List S84} {A1 : Option Addr} {c1 : Nat} {l1 : List S41} (h : Sch w A0 c0 l0 A1 c1 l1) (hb : Below w.heap.size w w') : Sch w' A0 c0 l0 A1 c1 l1 :=
  ⟨Kd.C_below h.r0 hb, h.h0, Kd.C_below h.r1 hb, h.h1⟩
theorem refcopy_ev (N : Nat) : ∀ (l : List S39), SizeOf.sizeOf l < N → cntL l ≤ 1000 → Ev (fun k => virgationref01_Copy.f k l) l := by
  induction N with
  | zero => intro l h; omega
  | succ N ih =>
  intro l hN h1
  have hlen := cntL_ge l
  have loop : ∀ (n i : Nat) (x3 : List S39), l.length - i = n → i ≤ l.length → x3.length = i → Ev (fun k => virgationref01_Copy.l0 k l (l.length : Int) (i : Int) x3) (x3 ++ l.drop i) := by
    intro n
    induction n with
    | zero =>
      intro i x3 hn hi h2
      have hd : l.drop i = [] := List.drop_eq_nil_of_le (by omega)
      rw [hd, List.append_nil]
      exact Ev.step (fun k => by rw [virgationref01_Copy.l0, if_neg (by omega)]) (Ev.now _)
    | succ n ihn =>
      intro i x3 hn hi h2
      have hil : i < l.length := by omega
      have hch := cnt_child l i hil
      refine Ev.step (fun k => by rw [virgationref01_Copy.l0, if_pos (by omega), if_pos (by omega), if_pos (by omega)]) ?_
      refine Ev.bind (a := (rd_T39 l (i : Int)).f0) ?_ ?_
      · exact ih _ (by have := rd_T39_mem l i hil; omega) (by omega)
      · refine Ev.ifp (by omega) ?_
        rw [w64 _ (by omega), rd_T39_drop l i hil, show (⟨(rd_T39 l (i : Int)).f0⟩ : S39) = rd_T39 l (i : Int) from by cases rd_T39 l (i : Int); rfl]
        have := ihn (i + 1) (x3 ++ [rd_T39 l (i : Int)]) (by omega) (by omega) (by rw [List.length_append, h2]; rfl)
        rw [List.append_assoc, show ((i + 1 : Nat) : Int) = (i : Int) + 1 from rfl] at this
        exact this
  refine Ev.step (fun k => by rw [virgationref01_Copy.f]) ?_
  have := loop l.length 0 [] (by omega) (by omega) rfl
  rw [List.drop_zero] at this
  exact this
theorem sch_sorts {l0 : List S84} {l1 : List S41} (hs : schB l0 l1 = true) : ∀ x ∈ l1, cntL x.f1.f0 ≤ 1000 := fun x hx => by
  unfold schB at hs
  simp only [Bool.and_eq_true] at hs
  have := funsL_all l1 [] hs.2.2.1 x hx
  unfold funOk at this
  simp only [Bool.and_eq_true] at this
  have := isok_cnt this.2.1
  omega
theorem rd_T84_mem2 (l : List S41) (i : Nat) (h : i < l.length) : rd_T41 l (i : Int) ∈ l := by
  unfold rd_T41
  rw [Int.toNat_natCast, List.getD_eq_getElem?_getD, List.getElem?_eq_getElem h]
  exact List.getElem_mem h
theorem sch_syms {l0 : List S84} {l1 : List S41} (hs : schB l0 l1 = true) : l0.length ≤ 64 := by
  unfold schB at hs
  simp only [Bool.and_eq_true, decide_eq_true_eq] at hs
  have := hs.1.2
  omega
theorem scopy_ev (l0 : List S84) (l1 : List S41) (h0 : l0.length ≤ 64) (h1 : l1.length ≤ 64) (hs : ∀ x ∈ l1, cntL x.f1.f0 ≤ 1000 ∧ tcntL x.f2.f2 ≤ 1000000) : Ev (fun k => virgationref03_Copy.f k l0 l1) (l0, l1) := by
  have loop : ∀ (n i : Nat) (x3 : List S41), l1.length - i = n → i ≤ l1.length → x3.length = i → Ev (fun k => virgationref03_Copy.l0 k l1 (l1.length : Int) (i : Int) l0 x3) (l0, x3 ++ l1.drop i) := by
    intro n
    induction n with
    | zero =>
      intro i x3 hn hi h2
      have hd : l1.drop i = [] := List.drop_eq_nil_of_le (by omega)
      rw [hd, List.append_nil]
      exact Ev.step (fun k => by rw [virgationref03_Copy.l0, if_neg (by omega)]) (Ev.now _)
    | succ n ihn =>
      intro i x3 hn hi h2
      have hil : i < l1.length := by omega
      have hm := hs _ (rd_T84_mem2 l1 i hil)
      refine Ev.step (fun k => by rw [virgationref03_Copy.l0, if_pos (by omega), if_pos (by omega), if_pos (by omega)]) ?_
      refine Ev.bind (a := (rd_T41 l1 (i : Int)).f1.f0) (refcopy_ev _ _ (Nat.lt_succ_self _) hm.1) ?_
      rw [show virgationref02_Copy.f (rd_T41 l1 (i : Int)).f2.f0 (rd_T41 l1 (i : Int)).f2.f1 (rd_T41 l1 (i : Int)).f2.f2 = some ((rd_T41 l1 (i : Int)).f2.f0, (rd_T41 l1 (i : Int)).f2.f1, (rd_T41 l1 (i : Int)).f2.f2) from if_pos hm.2]
      refine Ev.ifp (by omega) ?_
      rw [w64 _ (by omega), rd_T41_drop l1 i hil, show (⟨(rd_T41 l1 (i : Int)).f0, (⟨(rd_T41 l1 (i : Int)).f1.f0⟩ : S39), (⟨(rd_T41 l1 (i : Int)).f2.f0, (rd_T41 l1 (i : Int)).f2.f1, (rd_T41 l1 (i : Int)).f2.f2⟩ : S36)⟩ : S41) = rd_T41 l1 (i : Int) from by
        cases rd_T41 l1 (i : Int) with
        | mk a b c => cases b; cases c; rfl]
      have := ihn (i + 1) (x3 ++ [rd_T41 l1 (i : Int)]) (by omega) (by omega) (by rw [List.length_append, h2]; rfl)
      rw [List.append_assoc, show ((i + 1 : Nat) : Int) = (i : Int) + 1 from rfl] at this
      exact this
  refine Ev.congr (f := fun k => virgationref03_Copy.l0 k l1 (l1.length : Int) 0 l0 []) (fun k => by unfold virgationref03_Copy.f; rw [if_pos (by simp; omega)]; rfl) ?_
  have := loop l1.length 0 [] (by omega) (by omega) rfl
  rw [List.drop_zero] at this
  exact this
theorem sequal_at {w : World} {A0 : Option Addr} {c0 : Nat} {l0 : List S84} {A1 : Option Addr} {c1 : Nat} {l1 : List S41} {B0 : Option Addr} {d0 : Nat} {B1 : Option Addr} {d1 : Nat} (hs : Sch w A0 c0 l0 A1 c1 l1) (hs' : Sch w B0 d0 l0 B1 d1 l1) (hb : schB l0 l1 = true) :
    Calls Try.prog 16 #[.agg #[.slice A0 l0.length c0, .slice A1 l1.length c1], .agg #[.slice B0 l0.length d0, .slice B1 l1.length d1]] w fun e w' => e = .returned (.bool true) ∧ Below w.heap.size w w' :=
  equal_calls A0 c0 l0 A1 c1 l1 B0 d0 B1 d1 w hs.r0 hs.r1 hs'.r0 hs'.r1 (sch_sorts hb)
theorem scopy_own {w : World} {A0 : Option Addr} {c0 : Nat} {l0 : List S84} {A1 : Option Addr} {c1 : Nat} {l1 : List S41} (hs : Sch w A0 c0 l0 A1 c1 l1) (hb : schB l0 l1 = true) :
    Calls Try.prog 10 #[.agg #[.slice A0 l0.length c0, .slice A1 l1.length c1]] w fun e w' => ∃ B0 d0 B1 d1, e = .returned (.agg #[.slice B0 l0.length d0, .slice B1 l1.length d1]) ∧ Kd.R k84 84 w' w.heap.size (fun _ => True) (.slice B0 l0.length d0) l0 ∧ Kd.R k41 41 w' w.heap.size (fun _ => True) (.slice B1 l1.length d1) l1 ∧ Below w.heap.size w w' := by
  obtain ⟨k, hk⟩ := (scopy_ev l0 l1 (sch_syms hb) (sch_parts hb).2.2 (fun x hx => ⟨sch_sorts hb x hx, by have := (sch_bodies hb).2 x hx; have := tcnt_f2 x.f2; omega⟩)).rounds
  refine (virgationref03_Copy.calls k A0 c0 l0 A1 c1 l1 l0 l1 w hs.r0 hs.h0 hs.r1 hs.h1 hk).mono ?_
  rintro e w' ⟨v0, v1, rfl, h0, h1, hb⟩
  obtain ⟨B0, d0, rfl⟩ := Kd.R_slice h0
  obtain ⟨B1, d1, rfl⟩ := Kd.R_slice h1
  exact ⟨B0, d0, B1, d1, rfl, h0, h1, hb⟩
end Go.Proofs.Ytkgknidogelffaa.I
