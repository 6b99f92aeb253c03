/- Texts of this session's proof, laid together: I0, VOpen, IOT, IP5, IM5, IMh, IMj, IMk, IMn, IMq, IMr, IMs, IMsF. -/
import Derived.Test.YtkgknidogelffaaProg
import Derived.Below
import Derived.Deep.Draws
import Derived.Deep.AppendLies
import Derived.Maps.AppendAt
import Derived.OwnWalk
import Derived.Laws.BytesArg
import Derived.Laws.MakeOwn
import Derived.Laws.OwnMore
import Derived.Deep.OwnRows
import Derived.Tactics
import Derived.Lib.ConvBytes
import Derived.Laws.Slices
import Derived.WalkKit
import Derived.KernelRfl
import Derived.RowKit3
import Derived.Deep.LoopGhost
import Derived.Deep.QuietTactic
import Derived.BigQuiet
import Derived.WideLaws
import Derived.Deep.DeepCutAuto
import Derived.Deep.CutBlock
import Derived.Deep.RegionHeld3
import Derived.Laws.Rows
import Derived.Lib.AppendStr
import Derived.ArgAppend
import Derived.Laws.IdiomCopy
import Derived.OrdersHeld
import Derived.Laws.BitsLemmas
import Derived.RowKit
import Derived.ProofKit
import Derived.OpenShut
import Derived.ChangeOld
import Derived.Lib.SliceRun
import Derived.Deep.RegionLaw
import Derived.Test.YtkgknidogelffaaM5
namespace Go.Proofs.Ytkgknidogelffaa.I
open Go.RowKit Go.Proofs.YtkgknidogelffaaW.PrintWords Go.Proofs.YtkgknidogelffaaW.PrintLast Go.Proofs.YtkgknidogelffaaW.PrintMore
attribute [local go_sem] max2_int min2_int max_two min_two max_three min_three max_four min_four   -- for this text's walks alone
set_option linter.unusedVariables false
set_option linter.unusedSimpArgs false
theorem k84_mk (w : World) (x : S84)  : k84.K w x [.string x.f0, .int .i64 x.f1] := ⟨[.string x.f0], [.int .i64 x.f1], rfl, rfl, rfl⟩
end Go.Proofs.Ytkgknidogelffaa.I
namespace Go.Proofs.Ytkgknidogelffaa.VOpen
open Go.RowKit Go.Proofs.YtkgknidogelffaaW.PrintWords
set_option linter.unusedVariables false
set_option linter.unusedSimpArgs false
section
variable {H : Type} {enc : TypeId × Value → H} {P : Program} {w : World} {base : Nat} {sp : Nat → Bool} {held : Bool} {n : Nat} {t : TypeId} {cs : List Value} {x : DataW H × List MemPlace} {α : Type}
theorem list_of (len : Nat) (Q : Nat → α → Prop) (h : ∀ i, i < len → ∃ y, Q i y) : ∃ l : List α, l.length = len ∧ ∀ i y, l[i]? = some y → Q i y := by
  induction len with
  | zero => exact ⟨[], rfl, fun i y hy => by simp at hy⟩
  | succ k ih =>
    obtain ⟨l, hl, hq⟩ := ih (fun i hi => h i (by omega))
    obtain ⟨y, hy⟩ := h k (by omega)
    refine ⟨l ++ [y], by simp [hl], fun i z hz => ?_⟩
    rcases Nat.lt_or_ge i l.length with hi | hi
    · rw [List.getElem?_append_left hi] at hz
      exact hq i z hz
    · have he : i = l.length := by
        have := (List.getElem?_eq_some_iff.1 hz).1
        simp at this
        omega
      subst he
      have : y = z := by simpa using hz
      subst this
      rw [hl]
      exact hy
theorem slice_open (d : Kd α) (Wf : α → Prop) {e : TypeId} (ht : P.underlying t = some (.slice e)) (hc : P.cellsOf e = d.sz)
    (ih : ∀ m, m < n → ∀ cs x, DataW.trod enc P w base sp held m e cs = some x → ∃ y, d.K w y cs ∧ Wf y)
    (h : DataW.trod enc P w base sp held n t cs = some x) :
    ∃ A c l, cs = [.slice A l.length c] ∧ l.length ≤ c ∧ d.C w A l.length l ∧ l.length ≤ 9223372036854775807 ∧ ∀ y ∈ l, Wf y := by
  rcases DataW.trod_slice ht h with ⟨rfl, _⟩ | ⟨a, len, cap, elems, rest, m, rfl, rfl, _, hb, hl, hm, hel, hat, _⟩
  · exact ⟨none, 0, [], rfl, Nat.le_refl _, Kd.C_nil d w, by simp, fun y hy => by simp at hy⟩
  · obtain ⟨l, hll, hq⟩ := list_of len (fun i y => Wf y ∧ ∃ csi, csi.length = d.sz ∧ d.K w y csi ∧ ∀ j u, csi[j]? = some u → w.cell? (a.add (i * d.sz + j)) = some u) (fun i hi => by
      have h1 := hat i hi
      rw [List.getElem?_eq_getElem (by omega : i < elems.length), Option.bind_eq_some_iff] at h1
      obtain ⟨csi, h2, h3⟩ := h1
      obtain ⟨y, hk, hw⟩ := ih m (by omega) csi _ h3
      refine ⟨y, hw, csi, d.K_len hk, hk, fun j u hu => ?_⟩
      have hlen := d.K_len hk
      have hj : j < csi.length := (List.getElem?_eq_some_iff.1 hu).1
      unfold World.cells? at h2
      split at h2
      · have h4 := mapM_some_get h2 j j (by rw [hc, ← hlen]; simp [hj])
        rw [hu] at h4
        rw [← Addr.add_add, ← hc]
        exact h4
      · cases h2)
    refine ⟨some a, cap, l, by rw [hll], by omega, ⟨rfl, by simp only [maxLen] at hm; omega, fun _ => ⟨a, rfl, fun j p hj => ?_⟩⟩, by simp only [maxLen] at hm; omega, fun y hy => ?_⟩
    · obtain ⟨_, csi, h1, h2, h3⟩ := hq j p hj
      exact ⟨csi, h1, h2, h3⟩
    · obtain ⟨i, hi, rfl⟩ := List.getElem_of_mem hy
      exact (hq i _ (List.getElem?_eq_getElem hi)).1
theorem int_open {k : IntKind} (ht : P.underlying t = some (.int k)) (h : DataW.trod enc P w base sp held n t cs = some x) : ∃ a, cs = [.int k a] ∧ (Lit.int k a).wf = true := by
  obtain ⟨a, h1, _, h2⟩ := DataW.trod_int ht h
  exact ⟨a, h1, h2⟩
theorem str_open (ht : P.underlying t = some .string) (h : DataW.trod enc P w base sp held n t cs = some x) : ∃ a : ByteArray, cs = [.string a] ∧ a.size ≤ 9223372036854775807 := by
  obtain ⟨a, h1, _, h2⟩ := DataW.trod_string ht h
  exact ⟨a, h1, by simpa [maxLen] using h2⟩
theorem field_open {fs : Array Field} (ht : P.underlying t = some (.struct fs)) (h : DataW.trod enc P w base sp held n t cs = some x) :
    ∃ m, n = m + 1 ∧ cs.length = P.cellsOf t ∧ ∀ (i : Nat) (f : Field), fs[i]? = some f → ∃ y, DataW.trod enc P w base sp held m f.type ((cs.drop f.offset).take (P.cellsOf f.type)) = some y := by
  obtain ⟨xs, m, h1, _, h3, h4, h5⟩ := DataW.trod_struct ht h
  refine ⟨m, h1, h3, fun i f hf => ?_⟩
  have h6 := h5 i f hf
  have hi : i < xs.length := by rw [h4]; exact (Array.getElem?_eq_some_iff.1 hf).1
  rw [List.getElem?_eq_getElem hi] at h6
  exact ⟨_, h6⟩
end
end Go.Proofs.Ytkgknidogelffaa.VOpen
namespace Go.Proofs.Ytkgknidogelffaa.I
open Go.RowKit Go.Proofs.YtkgknidogelffaaW.PrintWords Go.Proofs.Ytkgknidogelffaa.VOpen
set_option linter.unusedVariables false
set_option linter.unusedSimpArgs false
def wf84 (x : S84) : Prop := x.f0.size ≤ 9223372036854775807 ∧ (Lit.int .i64 x.f1).wf = true
def Opened84 (w : World) (cs : List Value) (y : S84) : Prop := cs = [.string y.f0, .int .i64 y.f1]
theorem K84 {w : World} {cs : List Value} (h : ∃ y, Opened84 w cs y ∧ wf84 y) : ∃ y, k84.K w y cs ∧ wf84 y := by
  obtain ⟨y, h, hw⟩ := h
  obtain rfl := h
  exact ⟨y, k84_mk w y , hw⟩
set_option maxRecDepth 10000 in
theorem open84 {H : Type} {enc : TypeId × Value → H} {w : World} {base : Nat} {sp : Nat → Bool} {held : Bool} (n : Nat) : ∀ (cs : List Value) (x : DataW H × List MemPlace), DataW.trod enc Try.prog w base sp held n 84 cs = some x → ∃ y : S84, Opened84 w cs y ∧ wf84 y := by
  intro cs x h
  obtain ⟨m, rfl, hl, hf⟩ := field_open Try.underlying84 h
  have hl2 : cs.length = 2 := hl.trans (by kernel_rfl)
  obtain ⟨z0, z1, rfl⟩ : ∃ z0 z1, cs = [z0, z1] := by
    match cs, hl2 with
    | [z0, z1], _ => exact ⟨z0, z1, rfl⟩
  clear hl hl2 h
  obtain ⟨y0, h0⟩ := hf 0 _ rfl
  have h0' : DataW.trod enc Try.prog w base sp held m 9 [z0] = some y0 := h0
  obtain ⟨a0, e0, w0⟩ := str_open Try.underlying9 h0'
  injection e0 with e0 _; subst e0
  obtain ⟨y1, h1⟩ := hf 1 _ rfl
  have h1' : DataW.trod enc Try.prog w base sp held m 3 [z1] = some y1 := h1
  obtain ⟨a1, e1, w1⟩ := int_open Try.underlying3 h1'
  injection e1 with e1 _; subst e1
  exact ⟨⟨a0, a1⟩, rfl, ⟨w0, w1⟩⟩
mutual
def wf39 : S39 → Prop
  | ⟨f0⟩ => f0.length ≤ 9223372036854775807 ∧ wf39L f0
def wf39L : List S39 → Prop
  | [] => True
  | x :: xs => wf39 x ∧ wf39L xs
end
theorem wf39L_of : ∀ {l : List S39}, (∀ y, y ∈ l → wf39 y) → wf39L l
  | [], _ => trivial
  | x :: xs, h => ⟨h x (by simp), wf39L_of (fun y hy => h y (by simp [hy]))⟩
def Opened39 (w : World) (cs : List Value) (y : S39) : Prop := ∃ A0 c0, cs = [.slice A0 y.f0.length c0] ∧ y.f0.length ≤ c0 ∧ Kd.C k39 w A0 y.f0.length y.f0
theorem K39 {w : World} {cs : List Value} (h : ∃ y, Opened39 w cs y ∧ wf39 y) : ∃ y, k39.K w y cs ∧ wf39 y := by
  obtain ⟨y, h, hw⟩ := h
  obtain ⟨A0, c0, rfl, l0, g0⟩ := h
  exact ⟨y, k39_mk w y l0 g0, hw⟩
set_option maxRecDepth 10000 in
theorem open39 {H : Type} {enc : TypeId × Value → H} {w : World} {base : Nat} {sp : Nat → Bool} {held : Bool} (n : Nat) : ∀ (cs : List Value) (x : DataW H × List MemPlace), DataW.trod enc Try.prog w base sp held n 39 cs = some x → ∃ y : S39, Opened39 w cs y ∧ wf39 y := by
  induction n using Nat.strongRecOn with
  | _ n ih =>
    intro cs x h
    obtain ⟨m, rfl, hl, hf⟩ := field_open Try.underlying39 h
    have hl2 : cs.length = 1 := hl.trans (by kernel_rfl)
    obtain ⟨z0, rfl⟩ : ∃ z0, cs = [z0] := by
      match cs, hl2 with
      | [z0], _ => exact ⟨z0, rfl⟩
    clear hl hl2 h
    obtain ⟨y0, h0⟩ := hf 0 _ rfl
    have h0' : DataW.trod enc Try.prog w base sp held m 37 [z0] = some y0 := h0
    obtain ⟨A0_, c0_, a0, e0, lc0, g0, hl0, hw0⟩ := slice_open k39 (fun y_ => wf39 y_) Try.underlying37 (by kernel_rfl) (fun m_ hm_ cs_ x_ h_ => K39 (ih m_ (by omega) cs_ x_ h_)) h0'
    injection e0 with e0 _; subst e0
    exact ⟨⟨a0⟩, ⟨A0_, c0_, rfl, lc0, g0⟩, ⟨hl0, wf39L_of hw0⟩⟩
mutual
def wf36 : S36 → Prop
  | ⟨f0, f1, f2⟩ => (Lit.int .i64 f0).wf = true ∧ (Lit.int .i64 f1).wf = true ∧ f2.length ≤ 9223372036854775807 ∧ wf36L f2
def wf36L : List S36 → Prop
  | [] => True
  | x :: xs => wf36 x ∧ wf36L xs
end
theorem wf36L_of : ∀ {l : List S36}, (∀ y, y ∈ l → wf36 y) → wf36L l
  | [], _ => trivial
  | x :: xs, h => ⟨h x (by simp), wf36L_of (fun y hy => h y (by simp [hy]))⟩
def Opened36 (w : World) (cs : List Value) (y : S36) : Prop := ∃ A2 c2, cs = [.int .i64 y.f0, .int .i64 y.f1, .slice A2 y.f2.length c2] ∧ y.f2.length ≤ c2 ∧ Kd.C k36 w A2 y.f2.length y.f2
theorem K36 {w : World} {cs : List Value} (h : ∃ y, Opened36 w cs y ∧ wf36 y) : ∃ y, k36.K w y cs ∧ wf36 y := by
  obtain ⟨y, h, hw⟩ := h
  obtain ⟨A2, c2, rfl, l2, g2⟩ := h
  exact ⟨y, k36_mk w y l2 g2, hw⟩
set_option maxRecDepth 10000 in
theorem open36 {H : Type} {enc : TypeId × Value → H} {w : World} {base : Nat} {sp : Nat → Bool} {held : Bool} (n : Nat) : ∀ (cs : List Value) (x : DataW H × List MemPlace), DataW.trod enc Try.prog w base sp held n 36 cs = some x → ∃ y : S36, Opened36 w cs y ∧ wf36 y := by
  induction n using Nat.strongRecOn with
  | _ n ih =>
    intro cs x h
    obtain ⟨m, rfl, hl, hf⟩ := field_open Try.underlying36 h
    have hl2 : cs.length = 3 := hl.trans (by kernel_rfl)
    obtain ⟨z0, z1, z2, rfl⟩ : ∃ z0 z1 z2, cs = [z0, z1, z2] := by
      match cs, hl2 with
      | [z0, z1, z2], _ => exact ⟨z0, z1, z2, rfl⟩
    clear hl hl2 h
    obtain ⟨y0, h0⟩ := hf 0 _ rfl
    have h0' : DataW.trod enc Try.prog w base sp held m 3 [z0] = some y0 := h0
    obtain ⟨a0, e0, w0⟩ := int_open Try.underlying3 h0'
    injection e0 with e0 _; subst e0
    obtain ⟨y1, h1⟩ := hf 1 _ rfl
    have h1' : DataW.trod enc Try.prog w base sp held m 3 [z1] = some y1 := h1
    obtain ⟨a1, e1, w1⟩ := int_open Try.underlying3 h1'
    injection e1 with e1 _; subst e1
    obtain ⟨y2, h2⟩ := hf 2 _ rfl
    have h2' : DataW.trod enc Try.prog w base sp held m 34 [z2] = some y2 := h2
    obtain ⟨A2_, c2_, a2, e2, lc2, g2, hl2, hw2⟩ := slice_open k36 (fun y_ => wf36 y_) Try.underlying34 (by kernel_rfl) (fun m_ hm_ cs_ x_ h_ => K36 (ih m_ (by omega) cs_ x_ h_)) h2'
    injection e2 with e2 _; subst e2
    exact ⟨⟨a0, a1, a2⟩, ⟨A2_, c2_, rfl, lc2, g2⟩, ⟨w0, w1, hl2, wf36L_of hw2⟩⟩
def wf41 (x : S41) : Prop := x.f0.size ≤ 9223372036854775807 ∧ wf39 x.f1 ∧ wf36 x.f2
def Opened41 (w : World) (cs : List Value) (y : S41) : Prop := ∃ A1 c1 A4 c4, cs = [.string y.f0, .slice A1 y.f1.f0.length c1, .int .i64 y.f2.f0, .int .i64 y.f2.f1, .slice A4 y.f2.f2.length c4] ∧ y.f1.f0.length ≤ c1 ∧ Kd.C k39 w A1 y.f1.f0.length y.f1.f0 ∧ y.f2.f2.length ≤ c4 ∧ Kd.C k36 w A4 y.f2.f2.length y.f2.f2
theorem K41 {w : World} {cs : List Value} (h : ∃ y, Opened41 w cs y ∧ wf41 y) : ∃ y, k41.K w y cs ∧ wf41 y := by
  obtain ⟨y, h, hw⟩ := h
  obtain ⟨A1, c1, A4, c4, rfl, l1, g1, l4, g4⟩ := h
  exact ⟨y, k41_mk w y l1 g1 l4 g4, hw⟩
set_option maxRecDepth 10000 in
theorem open41 {H : Type} {enc : TypeId × Value → H} {w : World} {base : Nat} {sp : Nat → Bool} {held : Bool} (n : Nat) : ∀ (cs : List Value) (x : DataW H × List MemPlace), DataW.trod enc Try.prog w base sp held n 41 cs = some x → ∃ y : S41, Opened41 w cs y ∧ wf41 y := by
  intro cs x h
  obtain ⟨m, rfl, hl, hf⟩ := field_open Try.underlying41 h
  have hl2 : cs.length = 5 := hl.trans (by kernel_rfl)
  obtain ⟨z0, z1, z2, z3, z4, rfl⟩ : ∃ z0 z1 z2 z3 z4, cs = [z0, z1, z2, z3, z4] := by
    match cs, hl2 with
    | [z0, z1, z2, z3, z4], _ => exact ⟨z0, z1, z2, z3, z4, rfl⟩
  clear hl hl2 h
  obtain ⟨y0, h0⟩ := hf 0 _ rfl
  have h0' : DataW.trod enc Try.prog w base sp held m 9 [z0] = some y0 := h0
  obtain ⟨a0, e0, w0⟩ := str_open Try.underlying9 h0'
  injection e0 with e0 _; subst e0
  obtain ⟨y1, h1⟩ := hf 1 _ rfl
  have h1' : DataW.trod enc Try.prog w base sp held m 39 [z1] = some y1 := h1
  obtain ⟨a1, o1, w1⟩ := open39 m _ _ h1'
  obtain ⟨A1_0, c1_0, e1, lc1_0, g1_0⟩ := o1
  obtain rfl := (by simpa using e1 : z1 = .slice A1_0 a1.f0.length c1_0)
  obtain ⟨y2, h2⟩ := hf 2 _ rfl
  have h2' : DataW.trod enc Try.prog w base sp held m 36 [z2, z3, z4] = some y2 := h2
  obtain ⟨a2, o2, w2⟩ := open36 m _ _ h2'
  obtain ⟨A2_2, c2_2, e2, lc2_2, g2_2⟩ := o2
  obtain ⟨rfl, rfl, rfl⟩ := (by simpa using e2 : z2 = .int .i64 a2.f0 ∧ z3 = .int .i64 a2.f1 ∧ z4 = .slice A2_2 a2.f2.length c2_2)
  exact ⟨⟨a0, a1, a2⟩, ⟨A1_0, c1_0, A2_2, c2_2, rfl, lc1_0, g1_0, lc2_2, g2_2⟩, ⟨w0, w1, w2⟩⟩
def wf25 (x : S25) : Prop := x.f0.length ≤ 9223372036854775807 ∧ (∀ y_, y_ ∈ x.f0 → wf84 y_) ∧ x.f1.length ≤ 9223372036854775807 ∧ (∀ y_, y_ ∈ x.f1 → wf41 y_)
def Opened25 (w : World) (cs : List Value) (y : S25) : Prop := ∃ A0 c0 A1 c1, cs = [.slice A0 y.f0.length c0, .slice A1 y.f1.length c1] ∧ y.f0.length ≤ c0 ∧ Kd.C k84 w A0 y.f0.length y.f0 ∧ y.f1.length ≤ c1 ∧ Kd.C k41 w A1 y.f1.length y.f1
set_option maxRecDepth 10000 in
theorem open25 {H : Type} {enc : TypeId × Value → H} {w : World} {base : Nat} {sp : Nat → Bool} {held : Bool} (n : Nat) : ∀ (cs : List Value) (x : DataW H × List MemPlace), DataW.trod enc Try.prog w base sp held n 25 cs = some x → ∃ y : S25, Opened25 w cs y ∧ wf25 y := by
  intro cs x h
  obtain ⟨m, rfl, hl, hf⟩ := field_open Try.underlying25 h
  have hl2 : cs.length = 2 := hl.trans (by kernel_rfl)
  obtain ⟨z0, z1, rfl⟩ : ∃ z0 z1, cs = [z0, z1] := by
    match cs, hl2 with
    | [z0, z1], _ => exact ⟨z0, z1, rfl⟩
  clear hl hl2 h
  obtain ⟨y0, h0⟩ := hf 0 _ rfl
  have h0' : DataW.trod enc Try.prog w base sp held m 22 [z0] = some y0 := h0
  obtain ⟨A0_, c0_, a0, e0, lc0, g0, hl0, hw0⟩ := slice_open k84 (fun y_ => wf84 y_) Try.underlying22 (by kernel_rfl) (fun m_ hm_ cs_ x_ h_ => K84 (open84 m_ cs_ x_ h_)) h0'
  injection e0 with e0 _; subst e0
  obtain ⟨y1, h1⟩ := hf 1 _ rfl
  have h1' : DataW.trod enc Try.prog w base sp held m 23 [z1] = some y1 := h1
  obtain ⟨A1_, c1_, a1, e1, lc1, g1, hl1, hw1⟩ := slice_open k41 (fun y_ => wf41 y_) Try.underlying23 (by kernel_rfl) (fun m_ hm_ cs_ x_ h_ => K41 (open41 m_ cs_ x_ h_)) h1'
  injection e1 with e1 _; subst e1
  exact ⟨⟨a0, a1⟩, ⟨A0_, c0_, A1_, c1_, rfl, lc0, g0, lc1, g1⟩, ⟨hl0, hw0, hl1, hw1⟩⟩
end Go.Proofs.Ytkgknidogelffaa.I
namespace Go.Proofs.Ytkgknidogelffaa.I
open Go.RowKit Go.Proofs.YtkgknidogelffaaW.PrintWords Go.Proofs.YtkgknidogelffaaW.PrintLast Go.Proofs.YtkgknidogelffaaW.PrintMore
set_option linter.unusedVariables false
set_option maxRecDepth 100000
set_option linter.unusedSimpArgs false
instance : Inhabited Clo := ⟨.mk ⟨0, 0, []⟩ []⟩
theorem goM_total {l0 : List S84} {l1 : List S41} (hs : schB l0 l1 = true) (fuel : Int) : ∀ (F : Nat) (S : Nat) (n used : Int) (c : Clo) (st : List Clo), Snd l0 l1 c st → n ≤ fuel → fuel - n ≤ F → SizeOf.sizeOf c ≤ S → ∃ k r, goM l1 fuel k n used c st = some r := by
  intro F
  induction F with
  | zero =>
    intro S
    induction S with
    | zero => intro n used c st h hn hF hS; cases c; simp at hS
    | succ S ih =>
      intro n used c st h hn hF hS
      by_cases hu : 1048576 < used
      · exact ⟨1, _, by rw [goM, if_pos hu]⟩
      by_cases h0 : c.t.f0 = 0
      · obtain ⟨_, _, h1, _, h2⟩ := snd_var h h0
        obtain ⟨k, r, hk⟩ := ih n (used + newC c.t.f2) _ _ h1 hn hF (by omega)
        exact ⟨k + 1, r, by rw [goM, if_neg hu, if_pos h0]; exact hk⟩
      by_cases h1 : c.t.f0 = 1
      · exact ⟨1, _, by rw [goM, if_neg hu, if_neg h0, if_pos h1, if_pos (by omega)]⟩
      · exact ⟨1, _, by rw [goM, if_neg hu, if_neg h0, if_neg h1]⟩
  | succ F ihF =>
    intro S
    induction S with
    | zero => intro n used c st h hn hF hS; cases c; simp at hS
    | succ S ih =>
      intro n used c st h hn hF hS
      by_cases hu : 1048576 < used
      · exact ⟨1, _, by rw [goM, if_pos hu]⟩
      by_cases h0 : c.t.f0 = 0
      · obtain ⟨_, _, h1, _, h2⟩ := snd_var h h0
        obtain ⟨k, r, hk⟩ := ih n (used + newC c.t.f2) _ _ h1 hn hF (by omega)
        exact ⟨k + 1, r, by rw [goM, if_neg hu, if_pos h0]; exact hk⟩
      by_cases h1 : c.t.f0 = 1
      · by_cases hf : n = fuel
        · exact ⟨1, _, by rw [goM, if_neg hu, if_neg h0, if_pos h1, if_pos hf]⟩
        · obtain ⟨_, _, hl, hsn, _⟩ := snd_fun hs h h1
          obtain ⟨k, r, hk⟩ := ihF _ (n + 1) (used + newC c.t.f2 + 1) _ _ hsn (by omega) (by omega) (Nat.le_refl _)
          refine ⟨k + 1, r, ?_⟩
          rw [goM, if_neg hu, if_neg h0, if_pos h1, if_neg hf, List.take_of_length_le (by omega), List.drop_eq_nil_of_le (by omega)]
          exact hk
      · exact ⟨1, _, by rw [goM, if_neg hu, if_neg h0, if_neg h1]⟩
theorem goM_mono (l1 : List S41) (fuel : Int) : ∀ (k : Nat) (n used : Int) (c : Clo) (st : List Clo) (r : GoR), goM l1 fuel k n used c st = some r → goM l1 fuel (k + 1) n used c st = some r
  | 0, n, used, c, st, r, h => by rw [goM] at h; cases h
  | k + 1, n, used, c, st, r, h => by
    rw [goM] at h ⊢
    by_cases hu : 1048576 < used
    · rw [if_pos hu] at h ⊢; exact h
    rw [if_neg hu] at h ⊢
    by_cases h0 : c.t.f0 = 0
    · rw [if_pos h0] at h ⊢; exact goM_mono l1 fuel k _ _ _ _ _ h
    rw [if_neg h0] at h ⊢
    by_cases h1 : c.t.f0 = 1
    · rw [if_pos h1] at h ⊢
      by_cases hf : n = fuel
      · rw [if_pos hf] at h ⊢; exact h
      rw [if_neg hf] at h ⊢
      exact goM_mono l1 fuel k _ _ _ _ _ h
    · rw [if_neg h1] at h ⊢; exact h
theorem goM_monos (l1 : List S41) (fuel : Int) (j : Nat) {k : Nat} {n used : Int} {c : Clo} {st : List Clo} {r : GoR} (h : goM l1 fuel k n used c st = some r) : goM l1 fuel (k + j) n used c st = some r := by
  induction j with
  | zero => exact h
  | succ j ih => exact goM_mono l1 fuel (k + j) _ _ _ _ _ ih
theorem goM_more (l1 : List S41) {fuel fuel' : Int} (hf : fuel ≤ fuel') : ∀ (k : Nat) (n used : Int) (c : Clo) (st : List Clo) (r : GoR), n ≤ fuel → goM l1 fuel k n used c st = some r → r.e ≠ 8 → goM l1 fuel' k n used c st = some r
  | 0, n, used, c, st, r, hn, h, he => by rw [goM] at h; cases h
  | k + 1, n, used, c, st, r, hn, h, he => by
    rw [goM] at h ⊢
    by_cases hu : 1048576 < used
    · rw [if_pos hu] at h ⊢; exact h
    rw [if_neg hu] at h ⊢
    by_cases h0 : c.t.f0 = 0
    · rw [if_pos h0] at h ⊢; exact goM_more l1 hf k _ _ _ _ _ hn h he
    rw [if_neg h0] at h ⊢
    by_cases h1 : c.t.f0 = 1
    · rw [if_pos h1] at h ⊢
      by_cases hq : n = fuel
      · rw [if_pos hq] at h
        injection h with h
        rw [← h] at he
        exact absurd rfl he
      rw [if_neg hq] at h
      rw [if_neg (by omega)]
      exact goM_more l1 hf k _ _ _ _ _ (by omega) h he
    · rw [if_neg h1] at h ⊢; exact h
theorem goM_split (l1 : List S41) {fuel fuel' : Int} (hf : fuel ≤ fuel') {k2 : Nat} {r2 : GoR} : ∀ (k : Nat) (n used : Int) (c : Clo) (st : List Clo) (r : GoR), n ≤ fuel → goM l1 fuel k n used c st = some r → r.e = 8 → goM l1 fuel' k2 fuel r.used r.c r.st = some r2 → goM l1 fuel' (k2 + k) n used c st = some r2
  | 0, n, used, c, st, r, hn, h, he, h2 => by rw [goM] at h; cases h
  | k + 1, n, used, c, st, r, hn, h, he, h2 => by
    have h' := h
    rw [goM] at h
    by_cases hu : 1048576 < used
    · rw [if_pos hu] at h
      injection h with h
      rw [← h] at he
      exact absurd he (by show ¬ ((3 : Int) = 8); decide)
    rw [if_neg hu] at h
    by_cases h0 : c.t.f0 = 0
    · rw [if_pos h0] at h
      show goM l1 fuel' ((k2 + k) + 1) n used c st = some r2
      rw [goM, if_neg hu, if_pos h0]
      exact goM_split l1 hf k _ _ _ _ _ hn h he h2
    rw [if_neg h0] at h
    by_cases h1 : c.t.f0 = 1
    · rw [if_pos h1] at h
      by_cases hq : n = fuel
      · rw [if_pos hq] at h
        injection h with h
        rw [← h] at h2
        rw [hq]
        exact goM_monos l1 fuel' (k + 1) h2
      rw [if_neg hq] at h
      show goM l1 fuel' ((k2 + k) + 1) n used c st = some r2
      rw [goM, if_neg hu, if_neg h0, if_pos h1, if_neg (by omega)]
      exact goM_split l1 hf k _ _ _ _ _ (by omega) h he h2
    · rw [if_neg h1] at h
      injection h with h
      rw [← h] at he
      exact absurd he (by show ¬ ((0 : Int) = 8); decide)
theorem goM_shift (l1 : List S41) (fuel d : Int) : ∀ (k : Nat) (n used : Int) (c : Clo) (st : List Clo), goM l1 (fuel + d) k (n + d) used c st = (goM l1 fuel k n used c st).map (fun r => r.add d)
  | 0, n, used, c, st => by rw [goM, goM]; rfl
  | k + 1, n, used, c, st => by
    rw [goM, goM]
    by_cases hu : 1048576 < used
    · rw [if_pos hu, if_pos hu]; rfl
    rw [if_neg hu, if_neg hu]
    by_cases h0 : c.t.f0 = 0
    · rw [if_pos h0, if_pos h0]; exact goM_shift l1 fuel d k _ _ _ _
    rw [if_neg h0, if_neg h0]
    by_cases h1 : c.t.f0 = 1
    · rw [if_pos h1, if_pos h1]
      by_cases hq : n = fuel
      · rw [if_pos hq, if_pos (by omega)]; rfl
      rw [if_neg hq, if_neg (by omega)]
      have := goM_shift l1 fuel d k (n + 1) (used + newC c.t.f2 + 1) (.mk (rd_T41 l1 c.t.f1).f2 ((pushC c st).take (rd_T41 l1 c.t.f1).f1.f0.length)) ((pushC c st).drop (rd_T41 l1 c.t.f1).f1.f0.length)
      rw [show n + 1 + d = n + d + 1 from by omega] at this
      exact this
    · rw [if_neg h1, if_neg h1]; rfl
end Go.Proofs.Ytkgknidogelffaa.I
namespace Go.Proofs.Ytkgknidogelffaa.I
open Go.RowKit Go.Proofs.YtkgknidogelffaaW.PrintWords Go.Proofs.YtkgknidogelffaaW.PrintLast Go.Proofs.YtkgknidogelffaaW.PrintMore
attribute [local go_sem] max2_int min2_int max_two min_two max_three min_three max_four min_four
set_option linter.unusedVariables false
set_option maxRecDepth 100000
set_option linter.unusedSimpArgs false
theorem cloneC (A : Option Addr) (c : Nat) (l : List (List Value)) (w : World) (h : Kd.C (Kd.raw 1) w A l.length l) (hl : l.length ≤ 4000000000) :
    Calls Try.prog 39 #[.slice A l.length c] w fun e w' => ∃ v, e = .returned v ∧ Kd.R (Kd.raw 1) 85 w' w.heap.size (fun _ => True) v l ∧ Below w.heap.size w w' := by
  have hq := fun (w : World) => Lib.run_eql_slice_nil (P := Try.prog) w 87 85 A l.length c 0 0 Try.underlying87
  have H := Az.mk h
  have HL := Az.mk hl
  clear hl
  cases A with
  | none =>
    have h0 : l = [] := by
      obtain ⟨h1, _, h2⟩ := h
      rcases Nat.eq_zero_or_pos l.length with h3 | h3
      · exact List.eq_nil_of_length_eq_zero h3
      · obtain ⟨ad, e, _⟩ := h2 h3
        cases e
    subst h0
    clear h H HL
    simp only [List.length_nil] at hq
    go_enter Try.func39, Try.ntmps39
    go_wp2_with fail
    go_ret
    exact ⟨_, rfl, Kd.R_nil _ _ _ _ _, Below.refl _ _⟩
  | some ad =>
    clear h
    go_enter Try.func39, Try.ntmps39
    go_wp2_with (at_builtin; refine holdC ?_)
    unfold HoldC
    have hl0 : Kd.R (Kd.raw 1) 85 (w.alloc (Obj.cells #[] 85)) w.heap.size (fun _ => True) (.slice (some ⟨w.heap.size, 0, none⟩) 0 0) [] := ⟨fun _ _ => trivial, OwnRow.lit w w.heap.size (inner := []) (Reps.none _ _) (Nat.le_refl _) (by simp)⟩
    refine Kd.R_append_rows (Kd.raw 1) (Rr := Kd.K (Kd.raw 1) (w.alloc (Obj.cells #[] 85))) (w0 := w) w.heap.size rfl (.tmp 5) (.tmp 6) 87 85 (.pointer none) 8 rfl Try.underlying87 (by kernel_rfl) rfl (by decide) (by omega) (.slice (some ⟨w.heap.size, 0, none⟩) 0 0) [] l (some ad) l.length c (fun _ => True) (fun _ => False) rfl rfl hl0 ?aR ?aK (fun _ hk => hk.elim) (fun _ _ => trivial) (bal (Below.refl w.heap.size w) _) (bal (Below.refl w.heap.size w) _).size (by have := HL.out; simp only [List.length_nil]; omega) ?_
    (case aR => exact Kd.C_below H.out (bal (Below.refl w.heap.size w) _))
    (case aK => exact fun x cs hx => hx)
    intro v1 w2 hs4 hb4 hg4 _
    rw [List.nil_append] at hs4
    have HS := Az.mk hs4
    have HB := Az.mk hb4
    clear hs4 hb4 hg4 hl0 H
    go_wp2_with fail
    go_ret
    exact ⟨_, rfl, HS.out, HB.out⟩
end Go.Proofs.Ytkgknidogelffaa.I
namespace Go.Proofs.Ytkgknidogelffaa.I
open Go.RowKit Go.Proofs.YtkgknidogelffaaW.PrintWords Go.Proofs.YtkgknidogelffaaW.PrintLast Go.Proofs.YtkgknidogelffaaW.PrintMore
attribute [local go_sem] max2_int min2_int max_two min_two max_three min_three max_four min_four
set_option linter.unusedVariables false
set_option maxRecDepth 100000
set_option linter.unusedSimpArgs false
set_option maxHeartbeats 4000000 in
theorem new_err (A0 : Option Addr) (c0 : Nat) (l0 : List S84) (A1 : Option Addr) (c1 : Nat) (l1 : List S41) (w : World) (hr0 : Kd.C k84 w A0 l0.length l0) (hc0 : l0.length ≤ c0) (hr1 : Kd.C k41 w A1 l1.length l1) (hc1 : l1.length ≤ c1) (hb : ¬ schB l0 l1 = true) :
    Calls Try.prog 11 #[.agg #[.slice A0 l0.length c0, .slice A1 l1.length c1]] w fun e w' => e = .returned (.tuple #[.pointer none, .int .i64 7]) ∧ Below w.heap.size w w' := by
  have hu25 := Try.underlying25
  have HR0 := Az.mk hr0
  have HR1 := Az.mk hr1
  have HC := Az.mk (And.intro hc0 hc1)
  have HB := Az.mk hb
  clear hr0 hr1 hc0 hc1 hb
  go_enter Try.func11, Try.ntmps11
  go_wp2_with (
      ((with_reducible refine gate_dst (N := 1) rfl ?_)
       refine box_event ?hg (N := 1) ?hd (cs := #[.slice A0 l0.length c0, .slice A1 l1.length c1]) (t := 25) ?hr ?_
       (case hd => rfl)
       (case hg => rfl)
       (case hr => first | (go_simp; done) | (go_simp; rfl))
       intro g1 hg1 w1 hbox hb1
       have S1 := Az.mk hbox
       have HB1 := Az.mk hb1
       have e0 : w1.cell? ⟨g1, 0, none⟩ = some (.slice A0 l0.length c0) := (blk_cell hbox 0).trans rfl
       have e1 : w1.cell? ⟨g1, 1, none⟩ = some (.slice A1 l1.length c1) := (blk_cell hbox 1).trans rfl
       clear hbox hb1 hg1))
  (with_reducible refine (schk_calls A0 c0 l0 A1 c1 l1 w1 (Kd.C_below HR0.out HB1.out) HC.out.1 (Kd.C_below HR1.out HB1.out) HC.out.2).mono ?_)
  rintro e w2 ⟨rfl, hb2⟩
  rw [if_neg HB.out]
  have HB2 := Az.mk (bst HB1.out hb2)
  clear hb2 e0 e1
  go_wp2_with fail
  refine bodyPost_ret (results_tmp2 rfl _ _ _) rfl ?_
  exact ⟨rfl, HB2.out⟩
end Go.Proofs.Ytkgknidogelffaa.I
namespace Go.Proofs.Ytkgknidogelffaa.I
open Go.RowKit Go.Proofs.YtkgknidogelffaaW.PrintWords Go.Proofs.YtkgknidogelffaaW.PrintLast Go.Proofs.YtkgknidogelffaaW.PrintMore
set_option linter.unusedVariables false
set_option maxRecDepth 100000
set_option linter.unusedSimpArgs false
theorem goS_total {l0 : List S84} {l1 : List S41} (hs : schB l0 l1 = true) {s : MS} (h : Good l0 l1 s) (fuel : Int) : ∃ k a n e s', goS l1 fuel k s = some (a, n, e, s') := by
  by_cases h1 : fuel < 0 ∨ 1048576 < fuel
  · exact ⟨0, _, _, _, _, by unfold goS; rw [if_pos h1]⟩
  by_cases h2 : s.full = true
  · exact ⟨0, _, _, _, _, by unfold goS; rw [if_neg h1, if_pos h2]⟩
  by_cases h3 : s.known = true
  · exact ⟨0, _, _, _, _, by unfold goS; rw [if_neg h1, if_neg h2, if_pos h3]⟩
  obtain ⟨k, r, hr⟩ := goM_total hs fuel fuel.toNat _ 0 s.used s.c s.st (h.open_ (by simpa using h3)) (by omega) (by omega) (Nat.le_refl _)
  exact ⟨k, _, _, _, _, by unfold goS; rw [if_neg h1, if_neg h2, if_neg h3, hr]; rfl⟩
variable {w : World} {lo : Nat} {ok : Nat → Prop} {l0 : List S84} {lq l1 : List S41} {s : MS} {p : MP}
end Go.Proofs.Ytkgknidogelffaa.I
namespace Go.Proofs.Ytkgknidogelffaa.I
open Go.RowKit Go.Proofs.YtkgknidogelffaaW.PrintWords Go.Proofs.YtkgknidogelffaaW.PrintLast Go.Proofs.YtkgknidogelffaaW.PrintMore
attribute [local go_sem] max2_int min2_int max_two min_two max_three min_three max_four min_four
set_option linter.unusedVariables false
set_option maxRecDepth 100000
set_option linter.unusedSimpArgs false
theorem V_C {α : Type} {d : Kd α} {e : Nat} {w : World} {B : Nat} {ok : Nat → Prop} {A : Option Addr} {n c : Nat} {xs : List α} (h : Kd.R d e w B ok (.slice A n c) xs) : Kd.C d w A xs.length xs := (Kd.R_reads' h).2.2
set_option maxHeartbeats 8000000 in
theorem fork_calls {w : World} {lo : Nat} {ok : Nat → Prop} {lq : List S41} {s : MS} {p : MP} (h : MM w lo ok lq s p) (hok : ∀ k, ok k → k < w.heap.size) (hp : s.path.length ≤ 200) (hst : s.st.length ≤ 59) :
    Calls Try.prog 18 #[.pointer (some ⟨p.gm, 0, none⟩)] w fun x w' => ∃ p', x = .returned (.pointer (some ⟨p'.gm, 0, none⟩)) ∧ MM w' lo ok lq s p' ∧ Below w.heap.size w w' ∧ ∀ k, p'.own k → w.heap.size ≤ k := by
  have hu93 := Try.underlying93
  have hu91 := Try.underlying91
  obtain ⟨g, hvn⟩ : ∃ g, p.vn = .pointer (some ⟨g, 0, none⟩) := CM_ptr h.now
  have hc := h.cel
  rw [hvn] at hc
  have c0 : w.cell? ⟨p.gm, 0, none⟩ = some (.pointer (some ⟨p.gS, 0, none⟩)) := (blk_cell hc 0).trans rfl
  have c1 : w.cell? ⟨p.gm, 1, none⟩ = some (.pointer (some ⟨g, 0, none⟩)) := (blk_cell hc 1).trans rfl
  have c2 : w.cell? ⟨p.gm, 2, none⟩ = some (.slice p.As s.st.length p.cs) := (blk_cell hc 2).trans rfl
  have c3 : w.cell? ⟨p.gm, 3, none⟩ = some (.int .i64 s.used) := (blk_cell hc 3).trans rfl
  have c4 : w.cell? ⟨p.gm, 4, none⟩ = some (.slice p.Ap s.path.length p.cp) := (blk_cell hc 4).trans rfl
  have c5 : w.cell? ⟨p.gm, 5, none⟩ = some (.bool s.known) := (blk_cell hc 5).trans rfl
  have c6 : w.cell? ⟨p.gm, 6, none⟩ = some (.bool s.full) := (blk_cell hc 6).trans rfl
  have hsl := h.len
  have HC1 := Az.mk (own_Rr h.row hsl (CML_ptr _ _ h.stk))
  have HC2 := Az.mk (own_R h.pth)
  have H := Az.mk h
  have HOK := Az.mk hok
  have HP := Az.mk hp
  have HS := Az.mk hst
  have HSL := Az.mk hsl
  have HVN := Az.mk hvn
  have HCE := Az.mk hc
  clear h hok hp hst hsl hc hvn
  go_enter Try.func18, Try.ntmps18
  go_upto_region 4 with (
      ((with_reducible refine gate_dst (N := 3) rfl ?_)
       refine box_event ?hg (N := 3) ?hd (cs := #[.pointer none, .pointer none, .slice none 0 0, .int .i64 0, .slice none 0 0, .bool false, .bool false]) (t := 93) ?hr ?_
       (case hd => rfl)
       (case hg => rfl)
       (case hr => first | (go_simp; done) | (go_simp; rfl))
       intro gi hgi w6 hbox hbb
       have hgw : w.heap.size ≤ gi := by omega
       have HGW := Az.mk hgw
       have Hbw := Az.mk (bset (g := gi) (j := 6) (v := .bool s.full) (bset (g := gi) (j := 5) (v := .bool s.known) (bset (g := gi) (j := 4) (v := .slice p.Ap s.path.length p.cp) (bset (g := gi) (j := 3) (v := .int .i64 s.used) (bset (g := gi) (j := 2) (v := .slice p.As s.st.length p.cs) (bset (g := gi) (j := 1) (v := .pointer (some ⟨g, 0, none⟩)) (bset (g := gi) (j := 0) (v := .pointer (some ⟨p.gS, 0, none⟩)) hbb hgw) hgw) hgw) hgw) hgw) hgw) hgw)
       have Sgi := Az.mk (blk_put (cs' := #[.pointer (some ⟨p.gS, 0, none⟩), .pointer (some ⟨g, 0, none⟩), .slice p.As s.st.length p.cs, .int .i64 s.used, .slice p.Ap s.path.length p.cp, .bool s.known, .bool s.full]) (blk_put (cs' := #[.pointer (some ⟨p.gS, 0, none⟩), .pointer (some ⟨g, 0, none⟩), .slice p.As s.st.length p.cs, .int .i64 s.used, .slice p.Ap s.path.length p.cp, .bool s.known, .bool false]) (blk_put (cs' := #[.pointer (some ⟨p.gS, 0, none⟩), .pointer (some ⟨g, 0, none⟩), .slice p.As s.st.length p.cs, .int .i64 s.used, .slice p.Ap s.path.length p.cp, .bool false, .bool false]) (blk_put (cs' := #[.pointer (some ⟨p.gS, 0, none⟩), .pointer (some ⟨g, 0, none⟩), .slice p.As s.st.length p.cs, .int .i64 s.used, .slice none 0 0, .bool false, .bool false]) (blk_put (cs' := #[.pointer (some ⟨p.gS, 0, none⟩), .pointer (some ⟨g, 0, none⟩), .slice p.As s.st.length p.cs, .int .i64 0, .slice none 0 0, .bool false, .bool false]) (blk_put (cs' := #[.pointer (some ⟨p.gS, 0, none⟩), .pointer (some ⟨g, 0, none⟩), .slice none 0 0, .int .i64 0, .slice none 0 0, .bool false, .bool false]) (blk_put (cs' := #[.pointer (some ⟨p.gS, 0, none⟩), .pointer none, .slice none 0 0, .int .i64 0, .slice none 0 0, .bool false, .bool false]) (hbox) 0 (.pointer (some ⟨p.gS, 0, none⟩)) rfl) 1 (.pointer (some ⟨g, 0, none⟩)) rfl) 2 (.slice p.As s.st.length p.cs) rfl) 3 (.int .i64 s.used) rfl) 4 (.slice p.Ap s.path.length p.cp) rfl) 5 (.bool s.known) rfl) 6 (.bool s.full) rfl)
       have hcz0 := (blk_cell hbox 0).trans rfl
       have hfz0 := bkF hbox 0
       have hcz1 := (blk_cell hbox 1).trans rfl
       have hfz1 := bkF hbox 1
       have hcz2 := (blk_cell hbox 2).trans rfl
       have hfz2 := bkF hbox 2
       have hcz3 := (blk_cell hbox 3).trans rfl
       have hfz3 := bkF hbox 3
       have hcz4 := (blk_cell hbox 4).trans rfl
       have hfz4 := bkF hbox 4
       have hcz5 := (blk_cell hbox 5).trans rfl
       have hfz5 := bkF hbox 5
       have hcz6 := (blk_cell hbox 6).trans rfl
       have hfz6 := bkF hbox 6
       clear hbox hbb hgi hgw))
  clear hcz0 hfz0 hcz1 hfz1 hcz2 hfz2 hcz3 hfz3 hcz4 hfz4 hcz5 hfz5 hcz6 hfz6 c0 c1 c2 c3 c4 c5 c6
  generalize (((((((w6.setCell ⟨gi, 0, none⟩ (.pointer (some ⟨p.gS, 0, none⟩))).setCell ⟨gi, 1, none⟩ (.pointer (some ⟨g, 0, none⟩))).setCell ⟨gi, 2, none⟩ (.slice p.As s.st.length p.cs)).setCell ⟨gi, 3, none⟩ (.int .i64 s.used)).setCell ⟨gi, 4, none⟩ (.slice p.Ap s.path.length p.cp)).setCell ⟨gi, 5, none⟩ (.bool s.known)).setCell ⟨gi, 6, none⟩ (.bool s.full)) = wq at *
  have HEQ := Az.mk (bkB HCE.out Hbw.out)
  have n2 : wq.cell? ⟨p.gm, 2, none⟩ = some (.slice p.As s.st.length p.cs) := (blk_cell HEQ.out 2).trans rfl
  have n4 : wq.cell? ⟨p.gm, 4, none⟩ = some (.slice p.Ap s.path.length p.cp) := (blk_cell HEQ.out 4).trans rfl
  go_region_law (first
      | (go_simp
         go_at_call 39
         have hcl := cloneC p.As p.cs (p.sv.map (fun v => [v])) wq.drew (Kd.C_below (V_C HC1.out) (below_drew Hbw.out)) (by rw [List.length_map, ← HSL.out]; have := HS.out; omega)
         rw [List.length_map, ← HSL.out] at hcl
         (with_reducible refine hcl.mono ?_)
         rintro e wA ⟨vA, rfl, hrA, hbA⟩
         obtain ⟨A5, c5, e5⟩ := Kd.R_slice hrA
         rw [List.length_map, ← HSL.out] at e5
         subst e5
         have HRA := Az.mk hrA
         have HBA := Az.mk (bst (below_drew (Below.refl wq.heap.size wq)) hbA)
         have a4 : wA.cell? ⟨p.gm, 4, none⟩ = some (.slice p.Ap s.path.length p.cp) := (blk_cell (bkB HEQ.out HBA.out) 4).trans rfl
         clear hcl hrA hbA)
      | (go_simp
         go_at_call 36
         (with_reducible refine (cloneI p.Ap p.cp s.path wA (Kd.C_below (V_C HC2.out) (bst Hbw.out HBA.out)) (by have := HP.out; omega)).mono ?_)
         rintro e wB ⟨vB, rfl, hrB, hbB⟩
         obtain ⟨A6, c6, rfl⟩ := Kd.R_slice hrB
         have HRB := Az.mk hrB
         have HBB := Az.mk hbB
         have SgB := Az.mk (bkB (bkB Sgi.out HBA.out) hbB)
         have b2 : wB.cell? ⟨gi, 2, none⟩ = some (.slice p.As s.st.length p.cs) := (blk_cell SgB.out 2).trans rfl
         have b4 : wB.cell? ⟨gi, 4, none⟩ = some (.slice p.Ap s.path.length p.cp) := (blk_cell SgB.out 4).trans rfl
         have y2 : wB.frozen? ⟨gi, 2, none⟩ = false := bkF SgB.out 2
         have y4 : wB.frozen? ⟨gi, 4, none⟩ = false := bkF SgB.out 4
         clear hrB hbB))
  all_goals (
    have HBW := Az.mk (bset (j := 4) (v := .slice A6 s.path.length c6) (bset (j := 2) (v := .slice A5 s.st.length c5) (bst Hbw.out (bst HBA.out HBB.out)) HGW.out) HGW.out)
    have HS8 := Az.mk (blk_put (cs' := #[.pointer (some ⟨p.gS, 0, none⟩), .pointer (some ⟨g, 0, none⟩), .slice A5 s.st.length c5, .int .i64 s.used, .slice A6 s.path.length c6, .bool s.known, .bool s.full]) (blk_put (cs' := #[.pointer (some ⟨p.gS, 0, none⟩), .pointer (some ⟨g, 0, none⟩), .slice A5 s.st.length c5, .int .i64 s.used, .slice p.Ap s.path.length p.cp, .bool s.known, .bool s.full]) SgB.out 2 (.slice A5 s.st.length c5) rfl) 4 (.slice A6 s.path.length c6) rfl)
    have SgB2 := blk_put (cs' := #[.pointer (some ⟨p.gS, 0, none⟩), .pointer (some ⟨g, 0, none⟩), .slice A5 s.st.length c5, .int .i64 s.used, .slice p.Ap s.path.length p.cp, .bool s.known, .bool s.full]) SgB.out 2 (.slice A5 s.st.length c5) rfl
    have HR8 := Az.mk (Kd.R_set (Kd.R_set (Kd.R_below HRA.out HBB.out) SgB.out (by decide) 2 (.slice A5 s.st.length c5)) SgB2 (by decide) 4 (.slice A6 s.path.length c6))
    have HQ8 := Az.mk (Kd.R_set (Kd.R_set HRB.out SgB.out (by decide) 2 (.slice A5 s.st.length c5)) SgB2 (by decide) 4 (.slice A6 s.path.length c6))
    have HZ := Az.mk (And.intro Hbw.out.size (show wq.heap.size ≤ wA.heap.size from HBA.out.size))
    clear b2 b4 y2 y4 a4 n2 n4 SgB2 HRA HRB SgB HBA HBB Hbw Sgi HEQ
    generalize ((wB.setCell ⟨gi, 2, none⟩ (.slice A5 s.st.length c5)).setCell ⟨gi, 4, none⟩ (.slice A6 s.path.length c6)) = w8 at *
    go_wp2_with fail
    go_ret
    have hlo : lo ≤ w.heap.size := by have := H.out.low; have := blk_lt H.out.cel; omega
    have hko : ∀ k, ok k → k < w.heap.size → w8.heap[k]? = w.heap[k]? := fun k _ hk => HBW.out.block k hk
    obtain ⟨B0, n0, d0, B1, d1, hS, hV⟩ := H.out.sch
    have hrow := Rr_own HR8.out
    rw [← HSL.out] at hrow
    have hpth := R_own HQ8.out
    have hz := HZ.out
    have hz1 := hz.1
    have hz2 := hz.2
    have hrb : ∀ k, (Value.slice A5 s.st.length c5).ownBlock = some k → w.heap.size ≤ k := fun k hk => by have h1 : wq.heap.size ≤ k := Kd.R_base HR8.out k hk; omega
    have hpb : ∀ k, (Value.slice A6 s.path.length c6).ownBlock = some k → w.heap.size ≤ k := fun k hk => by have h1 : wA.heap.size ≤ k := Kd.R_base HQ8.out k hk; omega
    have hown : ∀ k, (⟨gi, p.gS, .pointer (some ⟨g, 0, none⟩), A5, c5, p.sv, A6, c6⟩ : MP).own k → w.heap.size ≤ k := fun k hk => by
      rcases hk with hk | hk | hk
      · rw [hk]; exact HGW.out
      · exact hrb k (by rw [← hk]; exact own_block_n)
      · exact hpb k (by rw [← hk]; exact own_block_n)
    refine ⟨⟨gi, p.gS, .pointer (some ⟨g, 0, none⟩), A5, c5, p.sv, A6, c6⟩, rfl, ⟨HS8.out, ?_, CML_imp hko (fun _ h _ => h) _ _ H.out.stk, own_less hrow (by show lo ≤ wq.heap.size; omega), own_less hpth (by show lo ≤ wA.heap.size; omega), ⟨B0, n0, d0, B1, d1, (hko _ H.out.oS (blk_lt hS)).trans hS, Kd.V_step hV hko⟩, H.out.oS, by show lo ≤ gi; have := HGW.out; omega, fun k hk ho => ?_⟩, HBW.out, hown⟩
    · have := CM_imp hko (fun _ h _ => h) _ _ H.out.now
      rw [HVN.out] at this
      exact this
    · have := hown k hk
      have := HOK.out k ho
      omega)
end Go.Proofs.Ytkgknidogelffaa.I
namespace Go.Proofs.Ytkgknidogelffaa.I
open Go.RowKit Go.Proofs.YtkgknidogelffaaW.PrintWords Go.Proofs.YtkgknidogelffaaW.PrintLast Go.Proofs.YtkgknidogelffaaW.PrintMore
set_option linter.unusedVariables false
set_option maxRecDepth 100000
set_option linter.unusedSimpArgs false
variable {w : World} {lo : Nat} {l0 : List S84} {lq l1 : List S41} {L : List (Nat × MS)}
theorem ms_fork (hM : Ms w lo lq L) {i : Nat} (hi : i < L.length) (hg : Good l0 l1 L[i].2) :
    Calls Try.prog 18 #[.pointer (some ⟨L[i].1, 0, none⟩)] w fun x w' => ∃ gm, x = .returned (.pointer (some ⟨gm, 0, none⟩)) ∧ Ms w' lo lq (L ++ [(gm, L[i].2)]) ∧ Below w.heap.size w w' := by
  obtain ⟨h0, ok, p, h1, h2⟩ := hM
  obtain ⟨e1, e2, e3⟩ := h1 i hi
  rw [← e1]
  refine (fork_calls e3 (fun k hk => (e2 k hk).2) hg.path hg.len).mono ?_
  rintro x w' ⟨q, rfl, hm, hb, hown⟩
  exact ⟨q.gm, rfl, Ms.push h0 h1 h2 hb hm hown (fun k hk => .inr ⟨i, hi, hk⟩), hb⟩
end Go.Proofs.Ytkgknidogelffaa.I
namespace Go.Proofs.Ytkgknidogelffaa.I
open Go.RowKit Go.Proofs.YtkgknidogelffaaW.PrintWords Go.Proofs.YtkgknidogelffaaW.PrintLast Go.Proofs.YtkgknidogelffaaW.PrintMore
attribute [local go_sem] max2_int min2_int max_two min_two max_three min_three max_four min_four
set_option linter.unusedVariables false
set_option linter.unusedSimpArgs false
def virgationlaw08_ints.l0 : Nat → List Int → List Int → Int → Int → Option (Bool)
  | 0, _, _, _, _ => none
  | k + 1, x0, x1, x12, x13 => if x13 < x12 then (if 0 ≤ x13 then (if x13 < (x0.length : Int) then (if x13 < (x1.length : Int) then (if (rd x0 x13) = (rd x1 x13) then (virgationlaw08_ints.l0 k x0 x1 x12 (wrap64 (x13 + 1))) else (some false)) else (none)) else (none)) else (none)) else (some true)
def virgationlaw08_ints.f (k : Nat) (l0 : List Int) (l1 : List Int) : Option (Bool) := if (l0.length : Int) = (l1.length : Int) then (virgationlaw08_ints.l0 k l0 l1 (l0.length : Int) 0) else (some false)
set_option maxHeartbeats 8000000 in
set_option maxRecDepth 100000 in
theorem virgationlaw08_ints.calls (k : Nat) (A0 : Option Addr) (c0 : Nat) (l0 : List Int) (A1 : Option Addr) (c1 : Nat) (l1 : List Int) (r : Bool) (w : World) (hr0 : Kd.C (Kd.int .i64) w A0 l0.length l0) (hc0 : l0.length ≤ c0) (hr1 : Kd.C (Kd.int .i64) w A1 l1.length l1) (hc1 : l1.length ≤ c1) (h : virgationlaw08_ints.f k l0 l1 = some r) :
    Calls Try.prog 15 #[.slice A0 l0.length c0, .slice A1 l1.length c1] w fun e w' => e = .returned (.bool r) ∧ Drawn0 w w' := by
  have HR0 := Az.mk hr0
  have HC0 := Az.mk hc0
  clear hr0 hc0
  have HR1 := Az.mk hr1
  have HC1 := Az.mk hc1
  clear hr1 hc1
  have H : (if (l0.length : Int) = (l1.length : Int) then (virgationlaw08_ints.l0 k l0 l1 (l0.length : Int) 0) else (some false)) = some r := h
  clear h
  by_cases c3 : (l0.length : Int) = (l1.length : Int)
  · rw [if_pos c3] at H
    have c3b0 : ((l0.length : Int) == (l1.length : Int)) = true := beq_iff_eq.mpr c3
    have c3b1 : ((l0.length : Int) != (l1.length : Int)) = false := bne_eq_false_iff_eq.mpr c3
    have c3b2 : (l0.length == l1.length) = true := by first | simpa using c3 | (simp at c3 ⊢; omega)
    clear c3
    have H' := Az.mk H
    clear H
    go_enter Try.func15, Try.ntmps15
    go_wp2
    repeat (go_quiet (fail); try go_wp2)
    go_loopg [13] k (fun kq v13 w' => ∃ (x13_1 : Int), v13 = .int .i64 x13_1 ∧ Az (virgationlaw08_ints.l0 kq l0 l1 (l0.length : Int) x13_1 = some r) ∧ Az (kq ≤ k) ∧ Drawn0 w w')
    case atStart => exact ⟨(0), (by first | rfl | (simp; done) | (simp [*]; done)), H', ⟨Nat.le_refl _⟩, by repeat (first | exact Drawn0.refl _ | apply Drawn0.step)⟩
    case round =>
      clear H'
      try clear c1
      try clear p2
      try clear c3
      try clear c3b0
      try clear c3b1
      try clear c3b2
      obtain ⟨x13_1, rfl, HA, HK1, ⟨m1, rfl⟩⟩ := hrel
      cases gk with
      | zero => exact absurd HA.out (by simp [virgationlaw08_ints.l0])
      | succ k1 =>
        have H := HA.out
        clear HA
        simp only [virgationlaw08_ints.l0] at H
        by_cases c4 : x13_1 < (l0.length : Int)
        · rw [if_pos c4] at H
          have c4b0 : decide (x13_1 < (l0.length : Int)) = true := decide_eq_true c4
          clear c4
          by_cases c5 : 0 ≤ x13_1
          · rw [if_pos c5] at H
            have c5b0 : decide (0 ≤ x13_1) = true := decide_eq_true c5
            clear c5
            by_cases c6 : x13_1 < (l0.length : Int)
            · rw [if_pos c6] at H
              have c6b0 : decide (x13_1 < (l0.length : Int)) = true := decide_eq_true c6
              clear c6
              by_cases c7 : x13_1 < (l1.length : Int)
              · rw [if_pos c7] at H
                have c7b0 : decide (x13_1 < (l1.length : Int)) = true := decide_eq_true c7
                clear c7
                by_cases c8 : (rd l0 x13_1) = (rd l1 x13_1)
                · rw [if_pos c8] at H
                  have c8b0 : ((rd l0 x13_1) == (rd l1 x13_1)) = true := beq_iff_eq.mpr c8
                  have c8b1 : ((rd l0 x13_1) != (rd l1 x13_1)) = false := bne_eq_false_iff_eq.mpr c8
                  clear c8
                  have H' := Az.mk H
                  clear H
                  have p291 : 0 ≤ (x13_1 : Int) := of_decide_eq_true (by first | (with_reducible assumption) | assumption)
                  have q291 : x13_1 < (l0.length : Int) := of_decide_eq_true (by first | (with_reducible assumption) | assumption)
                  obtain ⟨ad291, e291, hx291_0⟩ := Kd.at_int HR0.out x13_1 p291 q291
                  cases e291
                  replace p291 := eq_true p291
                  replace q291 := eq_true q291
                  have p292 : 0 ≤ (x13_1 : Int) := of_decide_eq_true (by first | (with_reducible assumption) | assumption)
                  have q292 : x13_1 < (l1.length : Int) := of_decide_eq_true (by first | (with_reducible assumption) | assumption)
                  obtain ⟨ad292, e292, hx292_0⟩ := Kd.at_int HR1.out x13_1 p292 q292
                  cases e292
                  replace p292 := eq_true p292
                  replace q292 := eq_true q292
                  go_wp2
                  repeat (go_quiet (fail); try go_wp2)
                  go_roundg k1
                  case measure => have := HK1.out; omega
                  case rel => exact ⟨(wrap64 (x13_1 + 1)), (by first | rfl | (simp; done) | (simp [*]; done)), H', ⟨by have := HK1.out; omega⟩, by repeat (first | exact Drawn0.refl _ | apply Drawn0.step)⟩
                · rw [if_neg c8] at H
                  have c8b0 : ((rd l0 x13_1) == (rd l1 x13_1)) = false := beq_eq_false_iff_ne.mpr c8
                  have c8b1 : ((rd l0 x13_1) != (rd l1 x13_1)) = true := bne_iff_ne.mpr c8
                  obtain rfl := Option.some.inj H
                  have p291 : 0 ≤ (x13_1 : Int) := of_decide_eq_true (by first | (with_reducible assumption) | assumption)
                  have q291 : x13_1 < (l0.length : Int) := of_decide_eq_true (by first | (with_reducible assumption) | assumption)
                  obtain ⟨ad291, e291, hx291_0⟩ := Kd.at_int HR0.out x13_1 p291 q291
                  cases e291
                  replace p291 := eq_true p291
                  replace q291 := eq_true q291
                  have p292 : 0 ≤ (x13_1 : Int) := of_decide_eq_true (by first | (with_reducible assumption) | assumption)
                  have q292 : x13_1 < (l1.length : Int) := of_decide_eq_true (by first | (with_reducible assumption) | assumption)
                  obtain ⟨ad292, e292, hx292_0⟩ := Kd.at_int HR1.out x13_1 p292 q292
                  cases e292
                  replace p292 := eq_true p292
                  replace q292 := eq_true q292
                  go_wp2
                  repeat (go_quiet (fail); try go_wp2)
                  go_ret
                  exact ⟨by first | rfl | (simp; done) | (simp [*]; done), by repeat (first | exact Drawn0.refl _ | apply Drawn0.step)⟩
              · rw [if_neg c7] at H
                exact absurd H (by simp)
            · rw [if_neg c6] at H
              exact absurd H (by simp)
          · rw [if_neg c5] at H
            exact absurd H (by simp)
        · rw [if_neg c4] at H
          have c4b0 : decide (x13_1 < (l0.length : Int)) = false := decide_eq_false c4
          clear c4
          obtain rfl := Option.some.inj H
          go_wp2
          repeat (go_quiet (fail); try go_wp2)
          go_ret
          exact ⟨by first | rfl | (simp; done) | (simp [*]; done), by repeat (first | exact Drawn0.refl _ | apply Drawn0.step)⟩
  · rw [if_neg c3] at H
    have c3b0 : ((l0.length : Int) == (l1.length : Int)) = false := beq_eq_false_iff_ne.mpr c3
    have c3b1 : ((l0.length : Int) != (l1.length : Int)) = true := bne_iff_ne.mpr c3
    have c3b2 : (l0.length == l1.length) = false := by first | simpa using c3 | (simp at c3 ⊢; omega)
    obtain rfl := Option.some.inj H
    go_enter Try.func15, Try.ntmps15
    go_wp2
    repeat (go_quiet (fail); try go_wp2)
    go_ret
    exact ⟨by first | rfl | (simp; done) | (simp [*]; done), by repeat (first | exact Drawn0.refl _ | apply Drawn0.step)⟩
theorem ints_l0 (l : List Int) (hl : l.length ≤ 1000000) : ∀ (m i : Nat), i + m = l.length → virgationlaw08_ints.l0 (m + 1) l l (l.length : Int) (i : Int) = some true
  | 0, i, h => by
    unfold virgationlaw08_ints.l0
    rw [if_neg (by omega)]
  | m + 1, i, h => by
    unfold virgationlaw08_ints.l0
    rw [if_pos (by omega), if_pos (by omega), if_pos (by omega), if_pos (by omega), if_pos rfl]
    have e : wrap64 ((i : Int) + 1) = ((i + 1 : Nat) : Int) := by unfold wrap64; omega
    rw [e]
    exact ints_l0 l hl m (i + 1) (by omega)
theorem ints_true {l : List Int} (hl : l.length ≤ 1000000) : virgationlaw08_ints.f (l.length + 1) l l = some true := by
  unfold virgationlaw08_ints.f
  rw [if_pos rfl]
  exact ints_l0 l hl l.length 0 (by omega)
theorem ints_at {l : List Int} (hl : l.length ≤ 1000000) {w : World} {A A' : Option Addr} {c c' : Nat} (h : Kd.C (Kd.int .i64) w A l.length l) (hc : l.length ≤ c) (h' : Kd.C (Kd.int .i64) w A' l.length l) (hc' : l.length ≤ c') :
    Calls Try.prog 15 #[.slice A l.length c, .slice A' l.length c'] w fun e w' => e = .returned (.bool true) ∧ Below w.heap.size w w' := by
  refine (virgationlaw08_ints.calls (l.length + 1) A c l A' c' l true w h hc h' hc' (ints_true hl)).mono ?_
  rintro e w' ⟨rfl, m, rfl⟩
  exact ⟨rfl, pwN (Below.refl _ _) m⟩
end Go.Proofs.Ytkgknidogelffaa.I
namespace Go.Proofs.Ytkgknidogelffaa.I
open Go.RowKit Go.Proofs.YtkgknidogelffaaW.PrintWords Go.Proofs.YtkgknidogelffaaW.PrintLast Go.Proofs.YtkgknidogelffaaW.PrintMore
attribute [local go_sem] max2_int min2_int max_two min_two max_three min_three max_four min_four
set_option linter.unusedVariables false
set_option maxRecDepth 100000
set_option linter.unusedSimpArgs false
theorem goS_open {l1 : List S41} {s s' : MS} {fuel a n e : Int} {k : Nat} (hk : s.known = false) (hf : s.full = false) (h0 : 0 ≤ fuel) (h1 : fuel ≤ 1048576) (h : goS l1 fuel k s = some (a, n, e, s')) :
    ∃ r, goM l1 fuel k 0 s.used s.c s.st = some r ∧ a = r.a ∧ n = r.n ∧ e = r.e ∧ s' = ⟨r.c, r.st, r.used, s.path, r.known, r.full⟩ := by
  unfold goS at h
  rw [if_neg (by omega), if_neg (by rw [hf]; decide), if_neg (by rw [hk]; decide)] at h
  cases hr : goM l1 fuel k 0 s.used s.c s.st with
  | none => rw [hr] at h; cases h
  | some r =>
    rw [hr] at h
    injection h with h; injection h with e1 h; injection h with e2 h; injection h with e3 e4
    exact ⟨r, rfl, e1.symm, e2.symm, e3.symm, e4.symm⟩
theorem goS_make {l1 : List S41} {s : MS} {fuel : Int} {k : Nat} {r : GoR} (hk : s.known = false) (hf : s.full = false) (h0 : 0 ≤ fuel) (h1 : fuel ≤ 1048576) (h : goM l1 fuel k 0 s.used s.c s.st = some r) : goS l1 fuel k s = some (r.a, r.n, r.e, ⟨r.c, r.st, r.used, s.path, r.known, r.full⟩) := by
  unfold goS
  rw [if_neg (by omega), if_neg (by rw [hf]; decide), if_neg (by rw [hk]; decide), h]
  rfl
theorem goS_path {l1 : List S41} {s s' : MS} {fuel a n e : Int} {k : Nat} (h : goS l1 fuel k s = some (a, n, e, s')) : s'.path = s.path := by
  unfold goS at h
  split at h
  · injection h with h; injection h with _ h; injection h with _ h; injection h with _ h; rw [← h]
  split at h
  · injection h with h; injection h with _ h; injection h with _ h; injection h with _ h; rw [← h]
  split at h
  · injection h with h; injection h with _ h; injection h with _ h; injection h with _ h; rw [← h]
  cases hr : goM l1 fuel k 0 s.used s.c s.st with
  | none => rw [hr] at h; cases h
  | some r =>
    rw [hr] at h
    injection h with h; injection h with _ h; injection h with _ h; injection h with _ h
    rw [← h]
theorem goS_full {l0 : List S84} {l1 : List S41} (hs : schB l0 l1 = true) {s s' : MS} {a n : Int} {k : Nat} {fuel : Int} (hg : Good l0 l1 s) (hk : s.known = false) (hf : s.full = false) (h0 : 0 ≤ fuel) (h1 : fuel ≤ 1048576) (h : goS l1 fuel k s = some (a, n, 0, s')) : s'.full = false := by
  obtain ⟨r, hr, _, _, e3, e4⟩ := goS_open hk hf h0 h1 h
  subst e4
  rcases (goM_post hs fuel k 0 _ _ _ r (hg.open_ hk) h0 hg.used.1 hg.used.2 hr).kind with h4 | h4 | h4
  · exact h4.2.2.1
  · exact h4.2.2.1
  · rw [h4.1] at e3; cases e3
theorem goes1 {l0 : List S84} {l1 : List S41} (hs : schB l0 l1 = true) {s s1 : MS} (hg : Good l0 l1 s) (hk : s.known = false) (hf : s.full = false) {a b x n e : Int} (ha : 0 ≤ a) (hb : 0 ≤ b) (hab : a + b ≤ 500) {k : Nat} (h : goS l1 a k s = some (x, n, e, s1)) (he : e ≠ 8) : goS l1 (a + b) k s = some (x, n, e, s1) ∧ (e ≠ 0 → x = 0 ∧ n = 0) := by
  obtain ⟨r, hr, e1, e2, e3, e4⟩ := goS_open hk hf ha (by omega) h
  subst e1 e2 e3 e4
  have h2 := goM_more l1 (show a ≤ a + b from by omega) k 0 _ _ _ r ha hr he
  refine ⟨goS_make hk hf (by omega) (by omega) h2, fun h0 => ?_⟩
  rcases (goM_post hs a k 0 _ _ _ r (hg.open_ hk) ha hg.used.1 hg.used.2 hr).kind with h4 | h4 | h4
  · exact absurd h4.1 h0
  · exact ⟨h4.2.2.2.1, h4.2.2.2.2.1⟩
  · exact ⟨h4.2.2.2.1, h4.2.2.2.2.1⟩
theorem goes2 {l0 : List S84} {l1 : List S41} (hs : schB l0 l1 = true) {s s1 : MS} (hg : Good l0 l1 s) (hk : s.known = false) (hf : s.full = false) {a b x n : Int} (ha : 0 ≤ a) (hb : 0 ≤ b) (hab : a + b ≤ 500) {k : Nat} (h : goS l1 a k s = some (x, n, 8, s1)) :
    x = 0 ∧ n = 0 ∧ s1.known = false ∧ s1.full = false ∧ ∀ k2 x2 n2 e2 s2, goS l1 b k2 s1 = some (x2, n2, e2, s2) → ∃ k', goS l1 (a + b) k' s = some (x2, if e2 = 0 then n2 + a else 0, e2, s2) ∧ (e2 ≠ 0 → x2 = 0) ∧ 0 ≤ n2 ∧ n2 ≤ b := by
  obtain ⟨r, hr, e1, e2, e3, e4⟩ := goS_open hk hf ha (by omega) h
  have hp := (goM_post hs a k 0 _ _ _ r (hg.open_ hk) ha hg.used.1 hg.used.2 hr)
  rcases hp.kind with h4 | h4 | h4
  · rw [h4.1] at e3; cases e3
  rotate_left
  · rw [h4.1] at e3; cases e3
  subst e4
  refine ⟨by rw [e1]; exact h4.2.2.2.1, by rw [e2]; exact h4.2.2.2.2.1, h4.2.1, h4.2.2.1, fun k2 x2 n2 e2' s2 h2 => ?_⟩
  obtain ⟨r2, hr2, f1, f2, f3, f4⟩ := goS_open (s := ⟨r.c, r.st, r.used, s.path, r.known, r.full⟩) h4.2.1 h4.2.2.1 hb (by omega) h2
  have hr2 : goM l1 b k2 0 r.used r.c r.st = some r2 := hr2
  have hsh := goM_shift l1 b a k2 0 r.used r.c r.st
  rw [hr2, Int.zero_add, Int.add_comm b a] at hsh
  have hsh : goM l1 (a + b) k2 a r.used r.c r.st = some (r2.add a) := hsh
  have hsp := goM_split l1 (show a ≤ a + b from by omega) k 0 _ _ _ r ha hr e3.symm hsh
  have hm := goS_make hk hf (show 0 ≤ a + b from by omega) (by omega) hsp
  have hp2 := (goM_post hs b k2 0 _ _ _ r2 h4.2.2.2.2.2 hb hp.used.1 hp.used.2 hr2).kind
  refine ⟨k2 + k, ?_, fun h0 => ?_, ?_⟩
  · rw [hm]
    subst f1 f2 f3 f4
    by_cases h0 : r2.e = 0
    · have ea : r2.add a = { r2 with n := r2.n + a } := if_pos h0
      rw [ea, if_pos h0]
    · have ea : r2.add a = r2 := if_neg h0
      rw [ea, if_neg h0]
      have hn : r2.n = 0 := by
        rcases hp2 with h5 | h5 | h5
        · exact absurd h5.1 h0
        · exact h5.2.2.2.2.1
        · exact h5.2.2.2.2.1
      rw [hn]
  · rw [f3] at h0
    rcases hp2 with h5 | h5 | h5
    · exact absurd h5.1 h0
    · rw [f1]; exact h5.2.2.2.1
    · rw [f1]; exact h5.2.2.2.1
  · rw [f2]
    rcases hp2 with h5 | h5 | h5
    · exact ⟨h5.2.2.2.2.2.1, h5.2.2.2.2.2.2.1⟩
    · rw [h5.2.2.2.2.1]; exact ⟨Int.le_refl _, hb⟩
    · rw [h5.2.2.2.2.1]; exact ⟨Int.le_refl _, hb⟩
variable {w : World} {lo gm gu : Nat} {l0 : List S84} {l1 : List S41} {s s' u : MS} {a n e fuel : Int} {k : Nat}
theorem one_go (hs : schB l0 l1 = true) (hM : Ms w lo (l1.map ownF) [(gm, s)]) (hg : Good l0 l1 s) (hr : goS l1 fuel k s = some (a, n, e, s')) :
    Calls Try.prog 12 #[.pointer (some ⟨gm, 0, none⟩), .int .i64 fuel] w fun x w' => x = .returned (.tuple #[.int .i64 a, .int .i64 n, .int .i64 e]) ∧ Ms w' lo (l1.map ownF) [(gm, s')] ∧ Below lo w w' :=
  ms_go (L := [(gm, s)]) (i := 0) hs (sameF_own l1) hM (Nat.zero_lt_one) hg fuel k a n e s' hr
theorem one_kid (hM : Ms w lo (l1.map ownF) [(gm, s)]) (hg : Good l0 l1 s) {j : Int} (he : kidE s j = e) :
    Calls Try.prog 14 #[.pointer (some ⟨gm, 0, none⟩), .int .i64 j] w fun x w' => x = .returned (.int .i64 e) ∧ Ms w' lo (l1.map ownF) [(gm, kidS s j)] ∧ Below lo w w' :=
  ms_kid (l0 := l0) (l1 := l1) (L := [(gm, s)]) (i := 0) hM (Nat.zero_lt_one) hg j e _ he rfl
theorem one_fork (hM : Ms w lo (l1.map ownF) [(gm, s)]) (hg : Good l0 l1 s) :
    Calls Try.prog 18 #[.pointer (some ⟨gm, 0, none⟩)] w fun x w' => ∃ gu, x = .returned (.pointer (some ⟨gu, 0, none⟩)) ∧ Ms w' lo (l1.map ownF) [(gm, s), (gu, s)] ∧ Below w.heap.size w w' :=
  ms_fork (l0 := l0) (l1 := l1) (L := [(gm, s)]) (i := 0) hM (Nat.zero_lt_one) hg
theorem two_go0 (hs : schB l0 l1 = true) (hM : Ms w lo (l1.map ownF) [(gm, s), (gu, u)]) (hg : Good l0 l1 s) (hr : goS l1 fuel k s = some (a, n, e, s')) :
    Calls Try.prog 12 #[.pointer (some ⟨gm, 0, none⟩), .int .i64 fuel] w fun x w' => x = .returned (.tuple #[.int .i64 a, .int .i64 n, .int .i64 e]) ∧ Ms w' lo (l1.map ownF) [(gm, s'), (gu, u)] ∧ Below lo w w' :=
  ms_go (L := [(gm, s), (gu, u)]) (i := 0) hs (sameF_own l1) hM (show _ < 2 from by decide) hg fuel k a n e s' hr
theorem two_go1 (hs : schB l0 l1 = true) (hM : Ms w lo (l1.map ownF) [(gm, s), (gu, u)]) (hg : Good l0 l1 u) (hr : goS l1 fuel k u = some (a, n, e, s')) :
    Calls Try.prog 12 #[.pointer (some ⟨gu, 0, none⟩), .int .i64 fuel] w fun x w' => x = .returned (.tuple #[.int .i64 a, .int .i64 n, .int .i64 e]) ∧ Ms w' lo (l1.map ownF) [(gm, s), (gu, s')] ∧ Below lo w w' :=
  ms_go (L := [(gm, s), (gu, u)]) (i := 1) hs (sameF_own l1) hM (show _ < 2 from by decide) hg fuel k a n e s' hr
theorem two_path0 (hM : Ms w lo (l1.map ownF) [(gm, s), (gu, u)]) (hg : Good l0 l1 s) :
    Calls Try.prog 13 #[.pointer (some ⟨gm, 0, none⟩)] w fun x w' => ∃ A c, x = .returned (.slice A s.path.length c) ∧ Kd.R (Kd.int .i64) 3 w' w.heap.size (fun _ => True) (.slice A s.path.length c) s.path ∧ Ms w' lo (l1.map ownF) [(gm, s), (gu, u)] ∧ Below w.heap.size w w' :=
  ms_path (l0 := l0) (l1 := l1) (L := [(gm, s), (gu, u)]) (i := 0) hM (show _ < 2 from by decide) hg
theorem two_path1 (hM : Ms w lo (l1.map ownF) [(gm, s), (gu, u)]) (hg : Good l0 l1 u) :
    Calls Try.prog 13 #[.pointer (some ⟨gu, 0, none⟩)] w fun x w' => ∃ A c, x = .returned (.slice A u.path.length c) ∧ Kd.R (Kd.int .i64) 3 w' w.heap.size (fun _ => True) (.slice A u.path.length c) u.path ∧ Ms w' lo (l1.map ownF) [(gm, s), (gu, u)] ∧ Below w.heap.size w w' :=
  ms_path (l0 := l0) (l1 := l1) (L := [(gm, s), (gu, u)]) (i := 1) hM (show _ < 2 from by decide) hg
theorem one_new (A0 : Option Addr) (c0 : Nat) (A1 : Option Addr) (c1 : Nat) (hr0 : Kd.C k84 w A0 l0.length l0) (hc0 : l0.length ≤ c0) (hr1 : Kd.C k41 w A1 l1.length l1) (hc1 : l1.length ≤ c1) (hs : schB l0 l1 = true) :
    Calls Try.prog 11 #[.agg #[.slice A0 l0.length c0, .slice A1 l1.length c1]] w fun x w' => ∃ gm, x = .returned (.tuple #[.pointer (some ⟨gm, 0, none⟩), .int .i64 0]) ∧ Ms w' w.heap.size (l1.map ownF) [(gm, ms0)] ∧ Below w.heap.size w w' :=
  ms_new (l0 := l0) (l1 := l1) (L := []) (Ms.nil (Nat.le_refl _)) A0 c0 A1 c1 hr0 hc0 hr1 hc1 hs
end Go.Proofs.Ytkgknidogelffaa.I
namespace Go.Proofs.Ytkgknidogelffaa.I
open Go.RowKit Go.Proofs.YtkgknidogelffaaW.PrintWords Go.Proofs.YtkgknidogelffaaW.PrintLast Go.Proofs.YtkgknidogelffaaW.PrintMore
attribute [local go_sem] max2_int min2_int max_two min_two max_three min_three max_four min_four
set_option linter.unusedVariables false
set_option maxRecDepth 100000
set_option linter.unusedSimpArgs false
theorem beqF {a b : Int} (h : a ≠ b) : (a == b) = false := beq_eq_false_iff_ne.2 h
theorem bneT {a b : Int} (h : a ≠ b) : (a != b) = true := bne_iff_ne.2 h
set_option maxHeartbeats 16000000 in
theorem goes_calls (A0 : Option Addr) (c0 : Nat) (l0 : List S84) (A1 : Option Addr) (c1 : Nat) (l1 : List S41) (A2 : Option Addr) (c2 : Nat) (l2 : List Int) (a b : Int) (w : World) (hr0 : Kd.C k84 w A0 l0.length l0) (hc0 : l0.length ≤ c0) (hr1 : Kd.C k41 w A1 l1.length l1) (hc1 : l1.length ≤ c1) (hr2 : Kd.C (Kd.int .i64) w A2 l2.length l2) (hc2 : l2.length ≤ c2) :
    Calls Try.prog 5 #[.agg #[.slice A0 l0.length c0, .slice A1 l1.length c1], .slice A2 l2.length c2, .int .i64 a, .int .i64 b] w fun e w' => e = .returned (.bool true) ∧ Below w.heap.size w w' := by
  have hu25 := Try.underlying25
  have hl2 : l2.length ≤ 9223372036854775807 := hr2.2.1
  have HR0 := Az.mk hr0
  have HR1 := Az.mk hr1
  have HR2 := Az.mk hr2
  have HC := Az.mk (And.intro hc0 (And.intro hc1 hc2))
  clear hr0 hr1 hr2 hc0 hc1 hc2
  by_cases hs : schB l0 l1 = true
  rotate_left
  · have HS := Az.mk hs
    clear hs
    go_enter Try.func5, Try.ntmps5
    go_wp2_with (
      ((with_reducible refine gate_dst (N := 4) rfl ?_)
       refine box_event ?hg (N := 4) ?hd (cs := #[.slice A0 l0.length c0, .slice A1 l1.length c1]) (t := 25) ?hr ?_
       (case hd => rfl)
       (case hg => rfl)
       (case hr => first | (go_simp; done) | (go_simp; rfl))
       intro g4 hg4 w1 hbox hb1
       have HB1 := Az.mk hb1
       have e0 : w1.cell? ⟨g4, 0, none⟩ = some (.slice A0 l0.length c0) := (blk_cell hbox 0).trans rfl
       have e1 : w1.cell? ⟨g4, 1, none⟩ = some (.slice A1 l1.length c1) := (blk_cell hbox 1).trans rfl
       clear hbox hb1 hg4))
    (with_reducible refine (new_err A0 c0 l0 A1 c1 l1 w1 (Kd.C_below HR0.out HB1.out) HC.out.1 (Kd.C_below HR1.out HB1.out) HC.out.2.1 HS.out).mono ?_)
    rintro e w2 ⟨rfl, hb2⟩
    have HB2 := Az.mk (bst HB1.out hb2)
    clear hb2 e0 e1
    go_wp2_with fail
    (with_reducible refine (alive_calls w2).mono ?_)
    rintro e w3 ⟨rfl, hb3⟩
    have HB3 := Az.mk (bst HB2.out hb3)
    clear hb3
    go_wp2_with fail
    go_ret
    exact ⟨rfl, HB3.out⟩
  have HS := Az.mk hs
  clear hs
  by_cases hgd : a < 0 ∨ b < 0 ∨ 500 < a ∨ 500 - a < b ∨ 10 < l2.length
  · rcases (show (a < 0) = True ∨ ((a < 0) = False ∧ (b < 0) = True) ∨ ((a < 0) = False ∧ (b < 0) = False ∧ (500 < a) = True) ∨ ((a < 0) = False ∧ (b < 0) = False ∧ (500 < a) = False ∧ (500 - a < b) = True ∧ 0 ≤ a ∧ a ≤ 500) ∨ ((a < 0) = False ∧ (b < 0) = False ∧ (500 < a) = False ∧ (500 - a < b) = False ∧ 0 ≤ a ∧ a ≤ 500 ∧ ((10 : Int) < (l2.length : Int)) = True) from by
      simp only [eq_iff_iff, iff_true, iff_false]
      omega) with g1 | ⟨g1, g2⟩ | ⟨g1, g2, g3⟩ | ⟨g1, g2, g3, g4', ha0, ha1⟩ | ⟨g1, g2, g3, g4', ha0, ha1, g5⟩
    all_goals (
      clear hgd
      go_enter Try.func5, Try.ntmps5
      go_wp2_with (
        ((with_reducible refine gate_dst (N := 4) rfl ?_)
         refine box_event ?hg (N := 4) ?hd (cs := #[.slice A0 l0.length c0, .slice A1 l1.length c1]) (t := 25) ?hr ?_
         (case hd => rfl)
         (case hg => rfl)
         (case hr => first | (go_simp; done) | (go_simp; rfl))
         intro g4 hg4 w1 hbox hb1
         have HB1 := Az.mk hb1
         have e0 : w1.cell? ⟨g4, 0, none⟩ = some (.slice A0 l0.length c0) := (blk_cell hbox 0).trans rfl
         have e1 : w1.cell? ⟨g4, 1, none⟩ = some (.slice A1 l1.length c1) := (blk_cell hbox 1).trans rfl
         clear hbox hb1 hg4))
      (with_reducible refine (one_new A0 c0 A1 c1 (Kd.C_below HR0.out HB1.out) HC.out.1 (Kd.C_below HR1.out HB1.out) HC.out.2.1 HS.out).mono ?_)
      rintro e w2 ⟨gm, rfl, hM, hb2⟩
      have HB2 := Az.mk (bst HB1.out hb2)
      clear hM hb2 e0 e1
      go_wp2_with fail
      (with_reducible refine (alive_calls w2).mono ?_)
      rintro e w3 ⟨rfl, hb3⟩
      have HB3 := Az.mk (bst HB2.out hb3)
      clear hb3
      go_wp2_with fail
      go_ret
      exact ⟨rfl, HB3.out⟩)
  have ha0 : 0 ≤ a := by omega
  have hb0 : 0 ≤ b := by omega
  have hab : a + b ≤ 500 := by omega
  have hl10 : (l2.length : Int) ≤ 10 := by omega
  have g1 : (a < 0) = False := eq_false (by omega)
  have g2 : (b < 0) = False := eq_false (by omega)
  have g3 : (500 < a) = False := eq_false (by omega)
  have g4' : (500 - a < b) = False := eq_false (by omega)
  have g5 : ((10 : Int) < (l2.length : Int)) = False := eq_false (by omega)
  have HAB := Az.mk (And.intro ha0 (And.intro hb0 hab))
  clear hgd
  go_enter Try.func5, Try.ntmps5
  go_wp2_with (
      ((with_reducible refine gate_dst (N := 4) rfl ?_)
       refine box_event ?hg (N := 4) ?hd (cs := #[.slice A0 l0.length c0, .slice A1 l1.length c1]) (t := 25) ?hr ?_
       (case hd => rfl)
       (case hg => rfl)
       (case hr => first | (go_simp; done) | (go_simp; rfl))
       intro g4 hg4 w1 hbox hb1
       have HB1 := Az.mk hb1
       have e0 : w1.cell? ⟨g4, 0, none⟩ = some (.slice A0 l0.length c0) := (blk_cell hbox 0).trans rfl
       have e1 : w1.cell? ⟨g4, 1, none⟩ = some (.slice A1 l1.length c1) := (blk_cell hbox 1).trans rfl
       clear hbox hb1 hg4))
  (with_reducible refine (one_new A0 c0 A1 c1 (Kd.C_below HR0.out HB1.out) HC.out.1 (Kd.C_below HR1.out HB1.out) HC.out.2.1 HS.out).mono ?_)
  rintro e w2 ⟨gm, rfl, hM, hb2⟩
  have HLO := Az.mk (show w.heap.size ≤ w1.heap.size from HB1.out.size)
  have HM2 := Az.mk hM
  have HB2 := Az.mk (bst HB1.out hb2)
  clear hM hb2 e0 e1
  generalize w1.heap.size = lo at *
  go_wp2_with fail
  go_loopg [56] l2.length (fun kq v56 wr => ∃ (j : Nat) (s : MS), v56 = .int .i64 (j : Int) ∧ Az (j + kq = l2.length) ∧ Az (Good l0 l1 s ∧ s.known = false ∧ s.full = false) ∧ Az (Ms wr lo (l1.map ownF) [(gm, s)]) ∧ Az (Below w.heap.size w wr))
  case atStart => exact ⟨0, ms0, rfl, ⟨by omega⟩, ⟨good0 HS.out, rfl, rfl⟩, HM2, HB2⟩
  case round =>
    clear HM2 HB2
    obtain ⟨j, s, rfl, Hj, HG, HM, HB⟩ := hrel
    cases gk with
    | zero =>
      have hj : j = l2.length := by have := Hj.out; omega
      subst hj
      obtain ⟨k, x, n, e, s1, hr⟩ := goS_total HS.out HG.out.1 a
      have HGR := Az.mk hr
      have HG1 := Az.mk (goS_good HS.out HG.out.1 hr)
      have HP1 := Az.mk (goS_path hr)
      have HPL := Az.mk (show s.path.length ≤ 1000000 from by have := HG.out.1.path; omega)
      clear hr
      go_wp2_with fail
      (with_reducible refine (one_fork HM.out HG.out.1).mono ?_)
      rintro e' w3 ⟨gu, rfl, hM, hb3⟩
      have HM3 := Az.mk hM
      have HB3 := Az.mk (bst HB.out hb3)
      clear hM hb3 HM HB
      go_wp2_with fail
      (with_reducible refine (two_go0 HS.out HM3.out HG.out.1 HGR.out).mono ?_)
      rintro e' w4 ⟨rfl, hM, hb4⟩
      have HM4 := Az.mk hM
      have HB4 := Az.mk (below_tr HB3.out (below_lo hb4 HLO.out))
      clear hM hb4 HM3 HB3
      by_cases he8 : e = 8
      · subst he8
        obtain ⟨ex, en, hk1, hf1, hnext⟩ := goes2 HS.out HG.out.1 HG.out.2.1 HG.out.2.2 HAB.out.1 HAB.out.2.1 HAB.out.2.2 HGR.out
        subst ex en
        obtain ⟨k2, x2, n2, e2, s2, hr2⟩ := goS_total HS.out HG1.out b
        obtain ⟨k3, hr3, hx0, hn0, hn1⟩ := hnext k2 x2 n2 e2 s2 hr2
        have HGR2 := Az.mk hr2
        have HGR3 := Az.mk hr3
        have HG2 := Az.mk (goS_good HS.out HG1.out hr2)
        have HP2 := Az.mk ((goS_path hr2).trans HP1.out)
        have hn2 : n2 ≤ 500 := by have := HAB.out; omega
        have HX0 := Az.mk hx0
        clear hr2 hr3 hnext hk1 hf1 hn1 hx0
        go_wp2_with fail
        (with_reducible refine (two_go0 HS.out HM4.out HG1.out HGR2.out).mono ?_)
        rintro e' w5 ⟨rfl, hM, hb5⟩
        have HM5 := Az.mk hM
        have HB5 := Az.mk (below_tr HB4.out (below_lo hb5 HLO.out))
        clear hM hb5 HM4 HB4
        go_wp2_with fail
        (with_reducible refine (two_go1 HS.out HM5.out HG.out.1 HGR3.out).mono ?_)
        rintro e' w6 ⟨rfl, hM, hb6⟩
        have HM6 := Az.mk hM
        have HB6 := Az.mk (below_tr HB5.out (below_lo hb6 HLO.out))
        clear hM hb6 HM5 HB5
        by_cases he2 : e2 = 0
        · subst he2
          simp only [if_true]
          go_wp2_with fail
          (with_reducible refine (two_path0 HM6.out HG2.out).mono ?_)
          rintro e9 wp1 ⟨Ap, cp, rfl, hrp, hMp, hbp⟩
          have HRP := Az.mk hrp
          have HMP := Az.mk hMp
          have HBP := Az.mk (bst HB6.out hbp)
          clear hrp hMp hbp
          go_wp2_with fail
          (with_reducible refine (two_path1 HMP.out HG2.out).mono ?_)
          rintro e9 wp2 ⟨Aq, cq, rfl, hrq, hMq, hbq⟩
          have hRP2 := Kd.R_below HRP.out hbq
          rw [HP2.out] at hrq
          rw [HP2.out] at hRP2
          simp only [HP2.out, HP2.out]
          have HQ1 := Az.mk (Kd.R_reads' hRP2)
          have HQ2 := Az.mk (Kd.R_reads' hrq)
          have HBQ := Az.mk (bst HBP.out hbq)
          clear hrq hMq hbq hRP2 HRP HMP HBP
          go_wp2_with fail
          (with_reducible refine (ints_at HPL.out HQ1.out.2.2 HQ1.out.2.1 HQ2.out.2.2 HQ2.out.2.1).mono ?_)
          rintro e9 wi ⟨rfl, hbi⟩
          have HBI := Az.mk (bst HBQ.out hbi)
          clear hbi
          go_wp2_with fail
          (with_reducible refine (alive_calls wi).mono ?_)
          rintro e9 w99 ⟨rfl, hb99⟩
          have HB99 := Az.mk (bst HBI.out hb99)
          clear hb99
          go_wp2_with fail
          go_ret
          exact ⟨rfl, HB99.out⟩
        · have hx := HX0.out he2
          subst hx
          rw [if_neg he2]
          have q1 := bneT he2
          have q2 := beqF he2
          clear he2
          go_wp2_with fail
          (with_reducible refine (alive_calls w6).mono ?_)
          rintro e9 w99 ⟨rfl, hb99⟩
          have HB99 := Az.mk (bst HB6.out hb99)
          clear hb99
          go_wp2_with fail
          go_ret
          exact ⟨rfl, HB99.out⟩
      · have q8 := beqF he8
        obtain ⟨hr3, hz⟩ := goes1 HS.out HG.out.1 HG.out.2.1 HG.out.2.2 HAB.out.1 HAB.out.2.1 HAB.out.2.2 HGR.out he8
        have HGR3 := Az.mk hr3
        have HZ := Az.mk hz
        clear hr3 hz he8
        go_wp2_with fail
        (with_reducible refine (two_go1 HS.out HM4.out HG.out.1 HGR3.out).mono ?_)
        rintro e' w6 ⟨rfl, hM, hb6⟩
        have HM6 := Az.mk hM
        have HB6 := Az.mk (below_tr HB4.out (below_lo hb6 HLO.out))
        clear hM hb6 HM4 HB4
        by_cases he2 : e = 0
        · subst he2
          go_wp2_with fail
          (with_reducible refine (two_path0 HM6.out HG1.out).mono ?_)
          rintro e9 wp1 ⟨Ap, cp, rfl, hrp, hMp, hbp⟩
          have HRP := Az.mk hrp
          have HMP := Az.mk hMp
          have HBP := Az.mk (bst HB6.out hbp)
          clear hrp hMp hbp
          go_wp2_with fail
          (with_reducible refine (two_path1 HMP.out HG1.out).mono ?_)
          rintro e9 wp2 ⟨Aq, cq, rfl, hrq, hMq, hbq⟩
          have hRP2 := Kd.R_below HRP.out hbq
          rw [HP1.out] at hrq
          rw [HP1.out] at hRP2
          simp only [HP1.out, HP1.out]
          have HQ1 := Az.mk (Kd.R_reads' hRP2)
          have HQ2 := Az.mk (Kd.R_reads' hrq)
          have HBQ := Az.mk (bst HBP.out hbq)
          clear hrq hMq hbq hRP2 HRP HMP HBP
          go_wp2_with fail
          (with_reducible refine (ints_at HPL.out HQ1.out.2.2 HQ1.out.2.1 HQ2.out.2.2 HQ2.out.2.1).mono ?_)
          rintro e9 wi ⟨rfl, hbi⟩
          have HBI := Az.mk (bst HBQ.out hbi)
          clear hbi
          go_wp2_with fail
          (with_reducible refine (alive_calls wi).mono ?_)
          rintro e9 w99 ⟨rfl, hb99⟩
          have HB99 := Az.mk (bst HBI.out hb99)
          clear hb99
          go_wp2_with fail
          go_ret
          exact ⟨rfl, HB99.out⟩
        · have hx := HZ.out he2
          obtain ⟨hx, hn⟩ := hx
          subst hx hn
          have q1 := bneT he2
          have q2 := beqF he2
          clear he2
          go_wp2_with fail
          (with_reducible refine (alive_calls w6).mono ?_)
          rintro e9 w99 ⟨rfl, hb99⟩
          have HB99 := Az.mk (bst HB6.out hb99)
          clear hb99
          go_wp2_with fail
          go_ret
          exact ⟨rfl, HB99.out⟩
    | succ k1 =>
    have hj : j < l2.length := by have := Hj.out; omega
    have hj10 : (j : Int) ≤ 10 := by omega
    obtain ⟨k, x, n, e, s', hr⟩ := goS_total HS.out HG.out.1 100
    obtain ⟨ad, ead, hx⟩ := Kd.at_int HR2.out (j : Int) (by omega) (by omega)
    cases ead
    replace hx := cell_up HB.out hx
    have HGR := Az.mk hr
    have HG2 := Az.mk (goS_good HS.out HG.out.1 hr)
    have HK1 := Az.mk (show j + 1 + k1 = l2.length from by have := Hj.out; omega)
    have p1 : (0 ≤ (j : Int)) = True := eq_true (by omega)
    have p2 : ((j : Int) < (l2.length : Int)) = True := eq_true (by omega)
    have p3 : (j < l2.length) = True := eq_true hj
    rw [Int.toNat_natCast] at hx
    generalize rd l2 (j : Int) = q at *
    clear hj hr
    go_wp2_with fail
    (with_reducible refine (one_go HS.out HM.out HG.out.1 HGR.out).mono ?_)
    rintro e' w3 ⟨rfl, hM, hb3⟩
    have HM3 := Az.mk hM
    have HB3 := Az.mk (below_tr HB.out (below_lo hb3 HLO.out))
    clear hM hb3 HM HB hx
    by_cases he : e = 0
    · subst he
      obtain ⟨ke, hke⟩ : ∃ ke, kidE s' q = ke := ⟨_, rfl⟩
      have HKE := Az.mk hke
      clear hke
      go_wp2_with fail
      (with_reducible refine (one_kid HM3.out HG2.out HKE.out).mono ?_)
      rintro e' w4 ⟨rfl, hM, hb4⟩
      have HM4 := Az.mk hM
      have HB4 := Az.mk (below_tr HB3.out (below_lo hb4 HLO.out))
      clear hM hb4 HM3 HB3
      by_cases hk0 : ke = 0
      · subst hk0
        have HG5 := Az.mk (show Good l0 l1 (kidS s' q) ∧ (kidS s' q).known = false ∧ (kidS s' q).full = false from by
          have hf := goS_full HS.out HG.out.1 HG.out.2.1 HG.out.2.2 (by decide) (by decide) HGR.out
          refine ⟨kidS_good HG2.out q, ?_, ?_⟩
          · unfold kidS; rw [if_pos HKE.out]
          · unfold kidS; rw [if_pos HKE.out]; exact hf)
        go_wp2_with fail
        go_roundg k1
        case measure => omega
        case rel => exact ⟨j + 1, kidS s' q, by go_num, HK1, HG5, HM4, HB4⟩
      · have q1 := bneT hk0
        have q2 := beqF hk0
        clear hk0
        go_wp2_with fail
        (with_reducible refine (alive_calls w4).mono ?_)
        rintro e w5 ⟨rfl, hb5⟩
        have HB5 := Az.mk (bst HB4.out hb5)
        clear hb5
        go_wp2_with fail
        go_ret
        exact ⟨rfl, HB5.out⟩
    · have q1 := bneT he
      have q2 := beqF he
      clear he
      go_wp2_with fail
      (with_reducible refine (alive_calls w3).mono ?_)
      rintro e w5 ⟨rfl, hb5⟩
      have HB5 := Az.mk (bst HB3.out hb5)
      clear hb5
      go_wp2_with fail
      go_ret
      exact ⟨rfl, HB5.out⟩
end Go.Proofs.Ytkgknidogelffaa.I
namespace Go.Proofs.Ytkgknidogelffaa.I
open Go.RowKit Go.Proofs.YtkgknidogelffaaW.PrintWords Go.Proofs.Ytkgknidogelffaa.VOpen
set_option linter.unusedVariables false
def virgationlaw08_ClosureGoes.f (k : Nat) (l0 : List S84) (l1 : List S41) (l2 : List Int) (i0 : Int) (i1 : Int) : Option Bool := some true
theorem virgationlaw08_ClosureGoes.calls (k : Nat) (A0 : Option Addr) (c0 : Nat) (l0 : List S84) (A1 : Option Addr) (c1 : Nat) (l1 : List S41) (A2 : Option Addr) (c2 : Nat) (l2 : List Int) (i0 : Int) (i1 : Int) (r : Bool) (w : World) (hr0 : Kd.C k84 w A0 l0.length l0) (hc0 : l0.length ≤ c0) (hr1 : Kd.C k41 w A1 l1.length l1) (hc1 : l1.length ≤ c1) (hr2 : Kd.C (Kd.int .i64) w A2 l2.length l2) (hc2 : l2.length ≤ c2) (h : virgationlaw08_ClosureGoes.f k l0 l1 l2 i0 i1 = some r) :
    Calls Try.prog 5 #[.agg #[.slice A0 l0.length c0, .slice A1 l1.length c1], .slice A2 l2.length c2, .int .i64 i0, .int .i64 i1] w fun e w' => e = .returned (.bool r) ∧ Below w.heap.size w w' := by
  injection h with h
  subst h
  exact goes_calls A0 c0 l0 A1 c1 l1 A2 c2 l2 i0 i1 w hr0 hc0 hr1 hc1 hr2 hc2
theorem pure_ClosureGoes : ∀ (x0 : S25) (x1 : (List Int)) (x2 : Int) (x3 : Int), (wf25 x0) → (x1.length ≤ 9223372036854775807 ∧ (∀ y_, y_ ∈ x1 → (Lit.int .i64 y_).wf = true)) → ((Lit.int .i64 x2).wf = true) → ((Lit.int .i64 x3).wf = true) → ∃ k, virgationlaw08_ClosureGoes.f k x0.f0 x0.f1 x1 x2 x3 = some true := by
  intros
  exact ⟨0, rfl⟩
end Go.Proofs.Ytkgknidogelffaa.I
