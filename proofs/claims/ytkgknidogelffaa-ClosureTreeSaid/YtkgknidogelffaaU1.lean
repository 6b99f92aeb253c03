/- Texts of this session's proof, laid together: I0, VOpen, IOT, IP5, IMh, IMj, IMr, IMs, IC1, IC2, IC4, IC5, IC7, IMu, IMv, IMw, IMwF. -/
import Derived.Test.YtkgknidogelffaaProg
import Derived.Below
import Derived.Deep.Draws
import Derived.Deep.AppendLies
import Derived.Maps.AppendAt
import Derived.OwnWalk
import Derived.Laws.BytesArg
import Derived.Laws.MakeOwn
import Derived.Laws.OwnMore
import Derived.Deep.OwnRows
import Derived.Tactics
import Derived.Lib.ConvBytes
import Derived.Laws.Slices
import Derived.WalkKit
import Derived.KernelRfl
import Derived.RowKit3
import Derived.Deep.LoopGhost
import Derived.Deep.QuietTactic
import Derived.BigQuiet
import Derived.WideLaws
import Derived.Deep.DeepCutAuto
import Derived.Deep.CutBlock
import Derived.Deep.RegionHeld3
import Derived.Laws.Rows
import Derived.Lib.AppendStr
import Derived.ArgAppend
import Derived.Laws.IdiomCopy
import Derived.OrdersHeld
import Derived.Laws.BitsLemmas
import Derived.RowKit
import Derived.ProofKit
import Derived.OpenShut
import Derived.ChangeOld
import Derived.Deep.RegionLaw
import Derived.Test.YtkgknidogelffaaU0
namespace Go.Proofs.Ytkgknidogelffaa.I
open Go.RowKit Go.Proofs.YtkgknidogelffaaW.PrintWords Go.Proofs.YtkgknidogelffaaW.PrintLast Go.Proofs.YtkgknidogelffaaW.PrintMore
attribute [local go_sem] max2_int min2_int max_two min_two max_three min_three max_four min_four   -- for this text's walks alone
set_option linter.unusedVariables false
set_option linter.unusedSimpArgs false
theorem k84_mk (w : World) (x : S84)  : k84.K w x [.string x.f0, .int .i64 x.f1] := ⟨[.string x.f0], [.int .i64 x.f1], rfl, rfl, rfl⟩
end Go.Proofs.Ytkgknidogelffaa.I
namespace Go.Proofs.Ytkgknidogelffaa.VOpen
open Go.RowKit Go.Proofs.YtkgknidogelffaaW.PrintWords
set_option linter.unusedVariables false
set_option linter.unusedSimpArgs false
section
variable {H : Type} {enc : TypeId × Value → H} {P : Program} {w : World} {base : Nat} {sp : Nat → Bool} {held : Bool} {n : Nat} {t : TypeId} {cs : List Value} {x : DataW H × List MemPlace} {α : Type}
theorem list_of (len : Nat) (Q : Nat → α → Prop) (h : ∀ i, i < len → ∃ y, Q i y) : ∃ l : List α, l.length = len ∧ ∀ i y, l[i]? = some y → Q i y := by
  induction len with
  | zero => exact ⟨[], rfl, fun i y hy => by simp at hy⟩
  | succ k ih =>
    obtain ⟨l, hl, hq⟩ := ih (fun i hi => h i (by omega))
    obtain ⟨y, hy⟩ := h k (by omega)
    refine ⟨l ++ [y], by simp [hl], fun i z hz => ?_⟩
    rcases Nat.lt_or_ge i l.length with hi | hi
    · rw [List.getElem?_append_left hi] at hz
      exact hq i z hz
    · have he : i = l.length := by
        have := (List.getElem?_eq_some_iff.1 hz).1
        simp at this
        omega
      subst he
      have : y = z := by simpa using hz
      subst this
      rw [hl]
      exact hy
theorem slice_open (d : Kd α) (Wf : α → Prop) {e : TypeId} (ht : P.underlying t = some (.slice e)) (hc : P.cellsOf e = d.sz)
    (ih : ∀ m, m < n → ∀ cs x, DataW.trod enc P w base sp held m e cs = some x → ∃ y, d.K w y cs ∧ Wf y)
    (h : DataW.trod enc P w base sp held n t cs = some x) :
    ∃ A c l, cs = [.slice A l.length c] ∧ l.length ≤ c ∧ d.C w A l.length l ∧ l.length ≤ 9223372036854775807 ∧ ∀ y ∈ l, Wf y := by
  rcases DataW.trod_slice ht h with ⟨rfl, _⟩ | ⟨a, len, cap, elems, rest, m, rfl, rfl, _, hb, hl, hm, hel, hat, _⟩
  · exact ⟨none, 0, [], rfl, Nat.le_refl _, Kd.C_nil d w, by simp, fun y hy => by simp at hy⟩
  · obtain ⟨l, hll, hq⟩ := list_of len (fun i y => Wf y ∧ ∃ csi, csi.length = d.sz ∧ d.K w y csi ∧ ∀ j u, csi[j]? = some u → w.cell? (a.add (i * d.sz + j)) = some u) (fun i hi => by
      have h1 := hat i hi
      rw [List.getElem?_eq_getElem (by omega : i < elems.length), Option.bind_eq_some_iff] at h1
      obtain ⟨csi, h2, h3⟩ := h1
      obtain ⟨y, hk, hw⟩ := ih m (by omega) csi _ h3
      refine ⟨y, hw, csi, d.K_len hk, hk, fun j u hu => ?_⟩
      have hlen := d.K_len hk
      have hj : j < csi.length := (List.getElem?_eq_some_iff.1 hu).1
      unfold World.cells? at h2
      split at h2
      · have h4 := mapM_some_get h2 j j (by rw [hc, ← hlen]; simp [hj])
        rw [hu] at h4
        rw [← Addr.add_add, ← hc]
        exact h4
      · cases h2)
    refine ⟨some a, cap, l, by rw [hll], by omega, ⟨rfl, by simp only [maxLen] at hm; omega, fun _ => ⟨a, rfl, fun j p hj => ?_⟩⟩, by simp only [maxLen] at hm; omega, fun y hy => ?_⟩
    · obtain ⟨_, csi, h1, h2, h3⟩ := hq j p hj
      exact ⟨csi, h1, h2, h3⟩
    · obtain ⟨i, hi, rfl⟩ := List.getElem_of_mem hy
      exact (hq i _ (List.getElem?_eq_getElem hi)).1
theorem int_open {k : IntKind} (ht : P.underlying t = some (.int k)) (h : DataW.trod enc P w base sp held n t cs = some x) : ∃ a, cs = [.int k a] ∧ (Lit.int k a).wf = true := by
  obtain ⟨a, h1, _, h2⟩ := DataW.trod_int ht h
  exact ⟨a, h1, h2⟩
theorem str_open (ht : P.underlying t = some .string) (h : DataW.trod enc P w base sp held n t cs = some x) : ∃ a : ByteArray, cs = [.string a] ∧ a.size ≤ 9223372036854775807 := by
  obtain ⟨a, h1, _, h2⟩ := DataW.trod_string ht h
  exact ⟨a, h1, by simpa [maxLen] using h2⟩
theorem field_open {fs : Array Field} (ht : P.underlying t = some (.struct fs)) (h : DataW.trod enc P w base sp held n t cs = some x) :
    ∃ m, n = m + 1 ∧ cs.length = P.cellsOf t ∧ ∀ (i : Nat) (f : Field), fs[i]? = some f → ∃ y, DataW.trod enc P w base sp held m f.type ((cs.drop f.offset).take (P.cellsOf f.type)) = some y := by
  obtain ⟨xs, m, h1, _, h3, h4, h5⟩ := DataW.trod_struct ht h
  refine ⟨m, h1, h3, fun i f hf => ?_⟩
  have h6 := h5 i f hf
  have hi : i < xs.length := by rw [h4]; exact (Array.getElem?_eq_some_iff.1 hf).1
  rw [List.getElem?_eq_getElem hi] at h6
  exact ⟨_, h6⟩
end
end Go.Proofs.Ytkgknidogelffaa.VOpen
namespace Go.Proofs.Ytkgknidogelffaa.I
open Go.RowKit Go.Proofs.YtkgknidogelffaaW.PrintWords Go.Proofs.Ytkgknidogelffaa.VOpen
set_option linter.unusedVariables false
set_option linter.unusedSimpArgs false
def wf84 (x : S84) : Prop := x.f0.size ≤ 9223372036854775807 ∧ (Lit.int .i64 x.f1).wf = true
def Opened84 (w : World) (cs : List Value) (y : S84) : Prop := cs = [.string y.f0, .int .i64 y.f1]
theorem K84 {w : World} {cs : List Value} (h : ∃ y, Opened84 w cs y ∧ wf84 y) : ∃ y, k84.K w y cs ∧ wf84 y := by
  obtain ⟨y, h, hw⟩ := h
  obtain rfl := h
  exact ⟨y, k84_mk w y , hw⟩
set_option maxRecDepth 10000 in
theorem open84 {H : Type} {enc : TypeId × Value → H} {w : World} {base : Nat} {sp : Nat → Bool} {held : Bool} (n : Nat) : ∀ (cs : List Value) (x : DataW H × List MemPlace), DataW.trod enc Try.prog w base sp held n 84 cs = some x → ∃ y : S84, Opened84 w cs y ∧ wf84 y := by
  intro cs x h
  obtain ⟨m, rfl, hl, hf⟩ := field_open Try.underlying84 h
  have hl2 : cs.length = 2 := hl.trans (by kernel_rfl)
  obtain ⟨z0, z1, rfl⟩ : ∃ z0 z1, cs = [z0, z1] := by
    match cs, hl2 with
    | [z0, z1], _ => exact ⟨z0, z1, rfl⟩
  clear hl hl2 h
  obtain ⟨y0, h0⟩ := hf 0 _ rfl
  have h0' : DataW.trod enc Try.prog w base sp held m 9 [z0] = some y0 := h0
  obtain ⟨a0, e0, w0⟩ := str_open Try.underlying9 h0'
  injection e0 with e0 _; subst e0
  obtain ⟨y1, h1⟩ := hf 1 _ rfl
  have h1' : DataW.trod enc Try.prog w base sp held m 3 [z1] = some y1 := h1
  obtain ⟨a1, e1, w1⟩ := int_open Try.underlying3 h1'
  injection e1 with e1 _; subst e1
  exact ⟨⟨a0, a1⟩, rfl, ⟨w0, w1⟩⟩
mutual
def wf39 : S39 → Prop
  | ⟨f0⟩ => f0.length ≤ 9223372036854775807 ∧ wf39L f0
def wf39L : List S39 → Prop
  | [] => True
  | x :: xs => wf39 x ∧ wf39L xs
end
theorem wf39L_of : ∀ {l : List S39}, (∀ y, y ∈ l → wf39 y) → wf39L l
  | [], _ => trivial
  | x :: xs, h => ⟨h x (by simp), wf39L_of (fun y hy => h y (by simp [hy]))⟩
def Opened39 (w : World) (cs : List Value) (y : S39) : Prop := ∃ A0 c0, cs = [.slice A0 y.f0.length c0] ∧ y.f0.length ≤ c0 ∧ Kd.C k39 w A0 y.f0.length y.f0
theorem K39 {w : World} {cs : List Value} (h : ∃ y, Opened39 w cs y ∧ wf39 y) : ∃ y, k39.K w y cs ∧ wf39 y := by
  obtain ⟨y, h, hw⟩ := h
  obtain ⟨A0, c0, rfl, l0, g0⟩ := h
  exact ⟨y, k39_mk w y l0 g0, hw⟩
set_option maxRecDepth 10000 in
theorem open39 {H : Type} {enc : TypeId × Value → H} {w : World} {base : Nat} {sp : Nat → Bool} {held : Bool} (n : Nat) : ∀ (cs : List Value) (x : DataW H × List MemPlace), DataW.trod enc Try.prog w base sp held n 39 cs = some x → ∃ y : S39, Opened39 w cs y ∧ wf39 y := by
  induction n using Nat.strongRecOn with
  | _ n ih =>
    intro cs x h
    obtain ⟨m, rfl, hl, hf⟩ := field_open Try.underlying39 h
    have hl2 : cs.length = 1 := hl.trans (by kernel_rfl)
    obtain ⟨z0, rfl⟩ : ∃ z0, cs = [z0] := by
      match cs, hl2 with
      | [z0], _ => exact ⟨z0, rfl⟩
    clear hl hl2 h
    obtain ⟨y0, h0⟩ := hf 0 _ rfl
    have h0' : DataW.trod enc Try.prog w base sp held m 37 [z0] = some y0 := h0
    obtain ⟨A0_, c0_, a0, e0, lc0, g0, hl0, hw0⟩ := slice_open k39 (fun y_ => wf39 y_) Try.underlying37 (by kernel_rfl) (fun m_ hm_ cs_ x_ h_ => K39 (ih m_ (by omega) cs_ x_ h_)) h0'
    injection e0 with e0 _; subst e0
    exact ⟨⟨a0⟩, ⟨A0_, c0_, rfl, lc0, g0⟩, ⟨hl0, wf39L_of hw0⟩⟩
mutual
def wf36 : S36 → Prop
  | ⟨f0, f1, f2⟩ => (Lit.int .i64 f0).wf = true ∧ (Lit.int .i64 f1).wf = true ∧ f2.length ≤ 9223372036854775807 ∧ wf36L f2
def wf36L : List S36 → Prop
  | [] => True
  | x :: xs => wf36 x ∧ wf36L xs
end
theorem wf36L_of : ∀ {l : List S36}, (∀ y, y ∈ l → wf36 y) → wf36L l
  | [], _ => trivial
  | x :: xs, h => ⟨h x (by simp), wf36L_of (fun y hy => h y (by simp [hy]))⟩
def Opened36 (w : World) (cs : List Value) (y : S36) : Prop := ∃ A2 c2, cs = [.int .i64 y.f0, .int .i64 y.f1, .slice A2 y.f2.length c2] ∧ y.f2.length ≤ c2 ∧ Kd.C k36 w A2 y.f2.length y.f2
theorem K36 {w : World} {cs : List Value} (h : ∃ y, Opened36 w cs y ∧ wf36 y) : ∃ y, k36.K w y cs ∧ wf36 y := by
  obtain ⟨y, h, hw⟩ := h
  obtain ⟨A2, c2, rfl, l2, g2⟩ := h
  exact ⟨y, k36_mk w y l2 g2, hw⟩
set_option maxRecDepth 10000 in
theorem open36 {H : Type} {enc : TypeId × Value → H} {w : World} {base : Nat} {sp : Nat → Bool} {held : Bool} (n : Nat) : ∀ (cs : List Value) (x : DataW H × List MemPlace), DataW.trod enc Try.prog w base sp held n 36 cs = some x → ∃ y : S36, Opened36 w cs y ∧ wf36 y := by
  induction n using Nat.strongRecOn with
  | _ n ih =>
    intro cs x h
    obtain ⟨m, rfl, hl, hf⟩ := field_open Try.underlying36 h
    have hl2 : cs.length = 3 := hl.trans (by kernel_rfl)
    obtain ⟨z0, z1, z2, rfl⟩ : ∃ z0 z1 z2, cs = [z0, z1, z2] := by
      match cs, hl2 with
      | [z0, z1, z2], _ => exact ⟨z0, z1, z2, rfl⟩
    clear hl hl2 h
    obtain ⟨y0, h0⟩ := hf 0 _ rfl
    have h0' : DataW.trod enc Try.prog w base sp held m 3 [z0] = some y0 := h0
    obtain ⟨a0, e0, w0⟩ := int_open Try.underlying3 h0'
    injection e0 with e0 _; subst e0
    obtain ⟨y1, h1⟩ := hf 1 _ rfl
    have h1' : DataW.trod enc Try.prog w base sp held m 3 [z1] = some y1 := h1
    obtain ⟨a1, e1, w1⟩ := int_open Try.underlying3 h1'
    injection e1 with e1 _; subst e1
    obtain ⟨y2, h2⟩ := hf 2 _ rfl
    have h2' : DataW.trod enc Try.prog w base sp held m 34 [z2] = some y2 := h2
    obtain ⟨A2_, c2_, a2, e2, lc2, g2, hl2, hw2⟩ := slice_open k36 (fun y_ => wf36 y_) Try.underlying34 (by kernel_rfl) (fun m_ hm_ cs_ x_ h_ => K36 (ih m_ (by omega) cs_ x_ h_)) h2'
    injection e2 with e2 _; subst e2
    exact ⟨⟨a0, a1, a2⟩, ⟨A2_, c2_, rfl, lc2, g2⟩, ⟨w0, w1, hl2, wf36L_of hw2⟩⟩
def wf41 (x : S41) : Prop := x.f0.size ≤ 9223372036854775807 ∧ wf39 x.f1 ∧ wf36 x.f2
def Opened41 (w : World) (cs : List Value) (y : S41) : Prop := ∃ A1 c1 A4 c4, cs = [.string y.f0, .slice A1 y.f1.f0.length c1, .int .i64 y.f2.f0, .int .i64 y.f2.f1, .slice A4 y.f2.f2.length c4] ∧ y.f1.f0.length ≤ c1 ∧ Kd.C k39 w A1 y.f1.f0.length y.f1.f0 ∧ y.f2.f2.length ≤ c4 ∧ Kd.C k36 w A4 y.f2.f2.length y.f2.f2
theorem K41 {w : World} {cs : List Value} (h : ∃ y, Opened41 w cs y ∧ wf41 y) : ∃ y, k41.K w y cs ∧ wf41 y := by
  obtain ⟨y, h, hw⟩ := h
  obtain ⟨A1, c1, A4, c4, rfl, l1, g1, l4, g4⟩ := h
  exact ⟨y, k41_mk w y l1 g1 l4 g4, hw⟩
set_option maxRecDepth 10000 in
theorem open41 {H : Type} {enc : TypeId × Value → H} {w : World} {base : Nat} {sp : Nat → Bool} {held : Bool} (n : Nat) : ∀ (cs : List Value) (x : DataW H × List MemPlace), DataW.trod enc Try.prog w base sp held n 41 cs = some x → ∃ y : S41, Opened41 w cs y ∧ wf41 y := by
  intro cs x h
  obtain ⟨m, rfl, hl, hf⟩ := field_open Try.underlying41 h
  have hl2 : cs.length = 5 := hl.trans (by kernel_rfl)
  obtain ⟨z0, z1, z2, z3, z4, rfl⟩ : ∃ z0 z1 z2 z3 z4, cs = [z0, z1, z2, z3, z4] := by
    match cs, hl2 with
    | [z0, z1, z2, z3, z4], _ => exact ⟨z0, z1, z2, z3, z4, rfl⟩
  clear hl hl2 h
  obtain ⟨y0, h0⟩ := hf 0 _ rfl
  have h0' : DataW.trod enc Try.prog w base sp held m 9 [z0] = some y0 := h0
  obtain ⟨a0, e0, w0⟩ := str_open Try.underlying9 h0'
  injection e0 with e0 _; subst e0
  obtain ⟨y1, h1⟩ := hf 1 _ rfl
  have h1' : DataW.trod enc Try.prog w base sp held m 39 [z1] = some y1 := h1
  obtain ⟨a1, o1, w1⟩ := open39 m _ _ h1'
  obtain ⟨A1_0, c1_0, e1, lc1_0, g1_0⟩ := o1
  obtain rfl := (by simpa using e1 : z1 = .slice A1_0 a1.f0.length c1_0)
  obtain ⟨y2, h2⟩ := hf 2 _ rfl
  have h2' : DataW.trod enc Try.prog w base sp held m 36 [z2, z3, z4] = some y2 := h2
  obtain ⟨a2, o2, w2⟩ := open36 m _ _ h2'
  obtain ⟨A2_2, c2_2, e2, lc2_2, g2_2⟩ := o2
  obtain ⟨rfl, rfl, rfl⟩ := (by simpa using e2 : z2 = .int .i64 a2.f0 ∧ z3 = .int .i64 a2.f1 ∧ z4 = .slice A2_2 a2.f2.length c2_2)
  exact ⟨⟨a0, a1, a2⟩, ⟨A1_0, c1_0, A2_2, c2_2, rfl, lc1_0, g1_0, lc2_2, g2_2⟩, ⟨w0, w1, w2⟩⟩
def wf25 (x : S25) : Prop := x.f0.length ≤ 9223372036854775807 ∧ (∀ y_, y_ ∈ x.f0 → wf84 y_) ∧ x.f1.length ≤ 9223372036854775807 ∧ (∀ y_, y_ ∈ x.f1 → wf41 y_)
def Opened25 (w : World) (cs : List Value) (y : S25) : Prop := ∃ A0 c0 A1 c1, cs = [.slice A0 y.f0.length c0, .slice A1 y.f1.length c1] ∧ y.f0.length ≤ c0 ∧ Kd.C k84 w A0 y.f0.length y.f0 ∧ y.f1.length ≤ c1 ∧ Kd.C k41 w A1 y.f1.length y.f1
set_option maxRecDepth 10000 in
theorem open25 {H : Type} {enc : TypeId × Value → H} {w : World} {base : Nat} {sp : Nat → Bool} {held : Bool} (n : Nat) : ∀ (cs : List Value) (x : DataW H × List MemPlace), DataW.trod enc Try.prog w base sp held n 25 cs = some x → ∃ y : S25, Opened25 w cs y ∧ wf25 y := by
  intro cs x h
  obtain ⟨m, rfl, hl, hf⟩ := field_open Try.underlying25 h
  have hl2 : cs.length = 2 := hl.trans (by kernel_rfl)
  obtain ⟨z0, z1, rfl⟩ : ∃ z0 z1, cs = [z0, z1] := by
    match cs, hl2 with
    | [z0, z1], _ => exact ⟨z0, z1, rfl⟩
  clear hl hl2 h
  obtain ⟨y0, h0⟩ := hf 0 _ rfl
  have h0' : DataW.trod enc Try.prog w base sp held m 22 [z0] = some y0 := h0
  obtain ⟨A0_, c0_, a0, e0, lc0, g0, hl0, hw0⟩ := slice_open k84 (fun y_ => wf84 y_) Try.underlying22 (by kernel_rfl) (fun m_ hm_ cs_ x_ h_ => K84 (open84 m_ cs_ x_ h_)) h0'
  injection e0 with e0 _; subst e0
  obtain ⟨y1, h1⟩ := hf 1 _ rfl
  have h1' : DataW.trod enc Try.prog w base sp held m 23 [z1] = some y1 := h1
  obtain ⟨A1_, c1_, a1, e1, lc1, g1, hl1, hw1⟩ := slice_open k41 (fun y_ => wf41 y_) Try.underlying23 (by kernel_rfl) (fun m_ hm_ cs_ x_ h_ => K41 (open41 m_ cs_ x_ h_)) h1'
  injection e1 with e1 _; subst e1
  exact ⟨⟨a0, a1⟩, ⟨A0_, c0_, A1_, c1_, rfl, lc0, g0, lc1, g1⟩, ⟨hl0, hw0, hl1, hw1⟩⟩
end Go.Proofs.Ytkgknidogelffaa.I
namespace Go.Proofs.Ytkgknidogelffaa.I
open Go.RowKit Go.Proofs.YtkgknidogelffaaW.PrintWords Go.Proofs.YtkgknidogelffaaW.PrintLast Go.Proofs.YtkgknidogelffaaW.PrintMore
set_option linter.unusedVariables false
set_option maxRecDepth 100000
set_option linter.unusedSimpArgs false
mutual
/-- Has a term variables? -/
def opn : S36 → Bool
  | ⟨k, _, l⟩ => decide (k = 0) || opnL l
def opnL : List S36 → Bool
  | [] => false
  | x :: xs => opn x || opnL xs
end
theorem take28 {l : List S36} {i : Nat} (h : i < l.length) : l.take (i + 1) = l.take i ++ [l[i]] := by rw [List.take_add_one, List.getElem?_eq_getElem h]; rfl
mutual
theorem subT_closed (ps : List S36) : ∀ x : S36, opn x = false → subT ps x = x
  | ⟨k, n, l⟩, h => by
    unfold opn at h
    rw [Bool.or_eq_false_iff] at h
    unfold subT
    rw [if_neg (of_decide_eq_false h.1), subL_closed ps l h.2]
theorem subL_closed (ps : List S36) : ∀ l : List S36, opnL l = false → subL ps l = l
  | [], _ => by rw [subL]
  | x :: xs, h => by
    unfold opnL at h
    rw [Bool.or_eq_false_iff] at h
    rw [subL, subT_closed ps x h.1, subL_closed ps xs h.2]
end
theorem subL_app (ps : List S36) : ∀ l m : List S36, subL ps (l ++ m) = subL ps l ++ subL ps m
  | [], m => by rw [subL]; rfl
  | x :: xs, m => by rw [List.cons_append, subL, subL, subL_app ps xs m]; rfl
theorem subL_take (ps : List S36) {l : List S36} {i : Nat} (h : i < l.length) : subL ps (l.take (i + 1)) = subL ps (l.take i) ++ [subT ps l[i]] := by
  rw [take28 h, subL_app, subL, subL]
theorem okL_at (m : Int) : ∀ (l : List S36), okL m l = true → ∀ i (h : i < l.length), okT m l[i] = true
  | [], _, i, h => absurd h (Nat.not_lt_zero _)
  | x :: xs, hl, i, h => by
    unfold okL at hl
    rw [Bool.and_eq_true] at hl
    cases i with
    | zero => exact hl.1
    | succ i => exact okL_at m xs hl.2 i (by simpa using h)
theorem tcnt_at : ∀ (l : List S36) (i : Nat) (h : i < l.length), tcnt l[i] ≤ tcntL l
  | [], i, h => absurd h (Nat.not_lt_zero _)
  | x :: xs, i, h => by
    have h1 := tcnt_ge x
    have h2 := tcntL_ge xs
    rw [tcntL]
    cases i with
    | zero => show tcnt x ≤ _; omega
    | succ i => have := tcnt_at xs i (by simpa using h); show tcnt (xs[i]'(by simpa using h)) ≤ _; omega
theorem size_at (l : List S36) (i : Nat) (h : i < l.length) : SizeOf.sizeOf l[i] < SizeOf.sizeOf l := List.sizeOf_lt_of_mem (List.getElem_mem h)
instance : Inhabited Clo := ⟨.mk ⟨0, 0, []⟩ []⟩
theorem goM_total {l0 : List S84} {l1 : List S41} (hs : schB l0 l1 = true) (fuel : Int) : ∀ (F : Nat) (S : Nat) (n used : Int) (c : Clo) (st : List Clo), Snd l0 l1 c st → n ≤ fuel → fuel - n ≤ F → SizeOf.sizeOf c ≤ S → ∃ k r, goM l1 fuel k n used c st = some r := by
  intro F
  induction F with
  | zero =>
    intro S
    induction S with
    | zero => intro n used c st h hn hF hS; cases c; simp at hS
    | succ S ih =>
      intro n used c st h hn hF hS
      by_cases hu : 1048576 < used
      · exact ⟨1, _, by rw [goM, if_pos hu]⟩
      by_cases h0 : c.t.f0 = 0
      · obtain ⟨_, _, h1, _, h2⟩ := snd_var h h0
        obtain ⟨k, r, hk⟩ := ih n (used + newC c.t.f2) _ _ h1 hn hF (by omega)
        exact ⟨k + 1, r, by rw [goM, if_neg hu, if_pos h0]; exact hk⟩
      by_cases h1 : c.t.f0 = 1
      · exact ⟨1, _, by rw [goM, if_neg hu, if_neg h0, if_pos h1, if_pos (by omega)]⟩
      · exact ⟨1, _, by rw [goM, if_neg hu, if_neg h0, if_neg h1]⟩
  | succ F ihF =>
    intro S
    induction S with
    | zero => intro n used c st h hn hF hS; cases c; simp at hS
    | succ S ih =>
      intro n used c st h hn hF hS
      by_cases hu : 1048576 < used
      · exact ⟨1, _, by rw [goM, if_pos hu]⟩
      by_cases h0 : c.t.f0 = 0
      · obtain ⟨_, _, h1, _, h2⟩ := snd_var h h0
        obtain ⟨k, r, hk⟩ := ih n (used + newC c.t.f2) _ _ h1 hn hF (by omega)
        exact ⟨k + 1, r, by rw [goM, if_neg hu, if_pos h0]; exact hk⟩
      by_cases h1 : c.t.f0 = 1
      · by_cases hf : n = fuel
        · exact ⟨1, _, by rw [goM, if_neg hu, if_neg h0, if_pos h1, if_pos hf]⟩
        · obtain ⟨_, _, hl, hsn, _⟩ := snd_fun hs h h1
          obtain ⟨k, r, hk⟩ := ihF _ (n + 1) (used + newC c.t.f2 + 1) _ _ hsn (by omega) (by omega) (Nat.le_refl _)
          refine ⟨k + 1, r, ?_⟩
          rw [goM, if_neg hu, if_neg h0, if_pos h1, if_neg hf, List.take_of_length_le (by omega), List.drop_eq_nil_of_le (by omega)]
          exact hk
      · exact ⟨1, _, by rw [goM, if_neg hu, if_neg h0, if_neg h1]⟩
end Go.Proofs.Ytkgknidogelffaa.I
namespace Go.Proofs.Ytkgknidogelffaa.I
open Go.RowKit Go.Proofs.YtkgknidogelffaaW.PrintWords Go.Proofs.YtkgknidogelffaaW.PrintLast Go.Proofs.YtkgknidogelffaaW.PrintMore
attribute [local go_sem] max2_int min2_int max_two min_two max_three min_three max_four min_four
set_option linter.unusedVariables false
set_option maxRecDepth 100000
set_option linter.unusedSimpArgs false
set_option maxHeartbeats 4000000 in
theorem new_err (A0 : Option Addr) (c0 : Nat) (l0 : List S84) (A1 : Option Addr) (c1 : Nat) (l1 : List S41) (w : World) (hr0 : Kd.C k84 w A0 l0.length l0) (hc0 : l0.length ≤ c0) (hr1 : Kd.C k41 w A1 l1.length l1) (hc1 : l1.length ≤ c1) (hb : ¬ schB l0 l1 = true) :
    Calls Try.prog 11 #[.agg #[.slice A0 l0.length c0, .slice A1 l1.length c1]] w fun e w' => e = .returned (.tuple #[.pointer none, .int .i64 7]) ∧ Below w.heap.size w w' := by
  have hu25 := Try.underlying25
  have HR0 := Az.mk hr0
  have HR1 := Az.mk hr1
  have HC := Az.mk (And.intro hc0 hc1)
  have HB := Az.mk hb
  clear hr0 hr1 hc0 hc1 hb
  go_enter Try.func11, Try.ntmps11
  go_wp2_with (
      ((with_reducible refine gate_dst (N := 1) rfl ?_)
       refine box_event ?hg (N := 1) ?hd (cs := #[.slice A0 l0.length c0, .slice A1 l1.length c1]) (t := 25) ?hr ?_
       (case hd => rfl)
       (case hg => rfl)
       (case hr => first | (go_simp; done) | (go_simp; rfl))
       intro g1 hg1 w1 hbox hb1
       have S1 := Az.mk hbox
       have HB1 := Az.mk hb1
       have e0 : w1.cell? ⟨g1, 0, none⟩ = some (.slice A0 l0.length c0) := (blk_cell hbox 0).trans rfl
       have e1 : w1.cell? ⟨g1, 1, none⟩ = some (.slice A1 l1.length c1) := (blk_cell hbox 1).trans rfl
       clear hbox hb1 hg1))
  (with_reducible refine (schk_calls A0 c0 l0 A1 c1 l1 w1 (Kd.C_below HR0.out HB1.out) HC.out.1 (Kd.C_below HR1.out HB1.out) HC.out.2).mono ?_)
  rintro e w2 ⟨rfl, hb2⟩
  rw [if_neg HB.out]
  have HB2 := Az.mk (bst HB1.out hb2)
  clear hb2 e0 e1
  go_wp2_with fail
  refine bodyPost_ret (results_tmp2 rfl _ _ _) rfl ?_
  exact ⟨rfl, HB2.out⟩
end Go.Proofs.Ytkgknidogelffaa.I
namespace Go.Proofs.Ytkgknidogelffaa.I
open Go.RowKit Go.Proofs.YtkgknidogelffaaW.PrintWords Go.Proofs.YtkgknidogelffaaW.PrintLast Go.Proofs.YtkgknidogelffaaW.PrintMore
set_option linter.unusedVariables false
set_option maxRecDepth 100000
set_option linter.unusedSimpArgs false
theorem goS_total {l0 : List S84} {l1 : List S41} (hs : schB l0 l1 = true) {s : MS} (h : Good l0 l1 s) (fuel : Int) : ∃ k a n e s', goS l1 fuel k s = some (a, n, e, s') := by
  by_cases h1 : fuel < 0 ∨ 1048576 < fuel
  · exact ⟨0, _, _, _, _, by unfold goS; rw [if_pos h1]⟩
  by_cases h2 : s.full = true
  · exact ⟨0, _, _, _, _, by unfold goS; rw [if_neg h1, if_pos h2]⟩
  by_cases h3 : s.known = true
  · exact ⟨0, _, _, _, _, by unfold goS; rw [if_neg h1, if_neg h2, if_pos h3]⟩
  obtain ⟨k, r, hr⟩ := goM_total hs fuel fuel.toNat _ 0 s.used s.c s.st (h.open_ (by simpa using h3)) (by omega) (by omega) (Nat.le_refl _)
  exact ⟨k, _, _, _, _, by unfold goS; rw [if_neg h1, if_neg h2, if_neg h3, hr]; rfl⟩
variable {w : World} {lo : Nat} {ok : Nat → Prop} {l0 : List S84} {lq l1 : List S41} {s : MS} {p : MP}
end Go.Proofs.Ytkgknidogelffaa.I
namespace Go.Proofs.Ytkgknidogelffaa.I
open Go.RowKit Go.Proofs.YtkgknidogelffaaW.PrintWords Go.Proofs.YtkgknidogelffaaW.PrintLast Go.Proofs.YtkgknidogelffaaW.PrintMore
attribute [local go_sem] max2_int min2_int max_two min_two max_three min_three max_four min_four
set_option linter.unusedVariables false
set_option maxRecDepth 100000
set_option linter.unusedSimpArgs false
theorem goS_open {l1 : List S41} {s s' : MS} {fuel a n e : Int} {k : Nat} (hk : s.known = false) (hf : s.full = false) (h0 : 0 ≤ fuel) (h1 : fuel ≤ 1048576) (h : goS l1 fuel k s = some (a, n, e, s')) :
    ∃ r, goM l1 fuel k 0 s.used s.c s.st = some r ∧ a = r.a ∧ n = r.n ∧ e = r.e ∧ s' = ⟨r.c, r.st, r.used, s.path, r.known, r.full⟩ := by
  unfold goS at h
  rw [if_neg (by omega), if_neg (by rw [hf]; decide), if_neg (by rw [hk]; decide)] at h
  cases hr : goM l1 fuel k 0 s.used s.c s.st with
  | none => rw [hr] at h; cases h
  | some r =>
    rw [hr] at h
    injection h with h; injection h with e1 h; injection h with e2 h; injection h with e3 e4
    exact ⟨r, rfl, e1.symm, e2.symm, e3.symm, e4.symm⟩
theorem goS_path {l1 : List S41} {s s' : MS} {fuel a n e : Int} {k : Nat} (h : goS l1 fuel k s = some (a, n, e, s')) : s'.path = s.path := by
  unfold goS at h
  split at h
  · injection h with h; injection h with _ h; injection h with _ h; injection h with _ h; rw [← h]
  split at h
  · injection h with h; injection h with _ h; injection h with _ h; injection h with _ h; rw [← h]
  split at h
  · injection h with h; injection h with _ h; injection h with _ h; injection h with _ h; rw [← h]
  cases hr : goM l1 fuel k 0 s.used s.c s.st with
  | none => rw [hr] at h; cases h
  | some r =>
    rw [hr] at h
    injection h with h; injection h with _ h; injection h with _ h; injection h with _ h
    rw [← h]
variable {w : World} {lo gm gu : Nat} {l0 : List S84} {l1 : List S41} {s s' u : MS} {a n e fuel : Int} {k : Nat}
theorem one_go (hs : schB l0 l1 = true) (hM : Ms w lo (l1.map ownF) [(gm, s)]) (hg : Good l0 l1 s) (hr : goS l1 fuel k s = some (a, n, e, s')) :
    Calls Try.prog 12 #[.pointer (some ⟨gm, 0, none⟩), .int .i64 fuel] w fun x w' => x = .returned (.tuple #[.int .i64 a, .int .i64 n, .int .i64 e]) ∧ Ms w' lo (l1.map ownF) [(gm, s')] ∧ Below lo w w' :=
  ms_go (L := [(gm, s)]) (i := 0) hs (sameF_own l1) hM (Nat.zero_lt_one) hg fuel k a n e s' hr
theorem one_kid (hM : Ms w lo (l1.map ownF) [(gm, s)]) (hg : Good l0 l1 s) {j : Int} (he : kidE s j = e) :
    Calls Try.prog 14 #[.pointer (some ⟨gm, 0, none⟩), .int .i64 j] w fun x w' => x = .returned (.int .i64 e) ∧ Ms w' lo (l1.map ownF) [(gm, kidS s j)] ∧ Below lo w w' :=
  ms_kid (l0 := l0) (l1 := l1) (L := [(gm, s)]) (i := 0) hM (Nat.zero_lt_one) hg j e _ he rfl
theorem one_new (A0 : Option Addr) (c0 : Nat) (A1 : Option Addr) (c1 : Nat) (hr0 : Kd.C k84 w A0 l0.length l0) (hc0 : l0.length ≤ c0) (hr1 : Kd.C k41 w A1 l1.length l1) (hc1 : l1.length ≤ c1) (hs : schB l0 l1 = true) :
    Calls Try.prog 11 #[.agg #[.slice A0 l0.length c0, .slice A1 l1.length c1]] w fun x w' => ∃ gm, x = .returned (.tuple #[.pointer (some ⟨gm, 0, none⟩), .int .i64 0]) ∧ Ms w' w.heap.size (l1.map ownF) [(gm, ms0)] ∧ Below w.heap.size w w' :=
  ms_new (l0 := l0) (l1 := l1) (L := []) (Ms.nil (Nat.le_refl _)) A0 c0 A1 c1 hr0 hc0 hr1 hc1 hs
end Go.Proofs.Ytkgknidogelffaa.I
namespace Go.Proofs.Ytkgknidogelffaa.I
open Go.RowKit Go.Proofs.YtkgknidogelffaaW.PrintWords Go.Proofs.YtkgknidogelffaaW.PrintLast Go.Proofs.YtkgknidogelffaaW.PrintMore
attribute [local go_sem] max2_int min2_int max_two min_two max_three min_three max_four min_four
set_option linter.unusedVariables false
set_option maxRecDepth 100000
set_option linter.unusedSimpArgs false
theorem beqT {a b : Int} (h : a = b) : (a == b) = true := beq_iff_eq.2 h
theorem beqF {a b : Int} (h : a ≠ b) : (a == b) = false := beq_eq_false_iff_ne.2 h
theorem bneT {a b : Int} (h : a ≠ b) : (a != b) = true := bne_iff_ne.2 h
theorem bneF {a b : Int} (h : a = b) : (a != b) = false := bne_eq_false_iff_eq.2 h
end Go.Proofs.Ytkgknidogelffaa.I
namespace Go.Proofs.Ytkgknidogelffaa.I
open Go.RowKit Go.Proofs.YtkgknidogelffaaW.PrintWords Go.Proofs.YtkgknidogelffaaW.PrintLast Go.Proofs.YtkgknidogelffaaW.PrintMore
attribute [local go_sem] max2_int min2_int max_two min_two max_three min_three max_four min_four
set_option linter.unusedVariables false
set_option maxRecDepth 100000
def csz (x : S36) : Int := min (tcnt x) 1099511627776
def CRow (w : World) (ok : Nat → Prop) (a : Value) (vs : List Value) : Prop := Kd.V (Kd.raw 1) 107 w 0 ok a (vs.map (fun v => [v]))
mutual
/-- A cell in memory, in blocks of ok. -/
def Cl (w : World) (ok : Nat → Prop) : S36 → Value → Prop
  | ⟨k, n, l⟩, v => ∃ (g : Nat) (a : Value) (vs : List Value), v = .pointer (some ⟨g, 0, none⟩) ∧ ok g ∧ w.heap[g]? = some (.cells #[.int .i64 k, .int .i64 n, a, .int .i64 (csz ⟨k, n, l⟩), .bool (opn ⟨k, n, l⟩)] 112 (0, 0)) ∧ CRow w ok a vs ∧ ClL w ok l vs
def ClL (w : World) (ok : Nat → Prop) : List S36 → List Value → Prop
  | [], vs => vs = []
  | x :: xs, vs => ∃ v vs', vs = v :: vs' ∧ Cl w ok x v ∧ ClL w ok xs vs'
end
theorem CRow_slice {w : World} {ok : Nat → Prop} {a : Value} {vs : List Value} (h : CRow w ok a vs) : ∃ A c, a = .slice A vs.length c := by
  obtain ⟨A, c, e⟩ := Kd.V_slice h
  rw [List.length_map] at e
  exact ⟨A, c, e⟩
mutual
theorem Cl_imp {w w1 : World} {ok ok1 : Nat → Prop} (hm : ∀ k, ok k → k < w.heap.size → w1.heap[k]? = w.heap[k]?) (ho : ∀ k, ok k → k < w.heap.size → ok1 k) : ∀ (x : S36) (v : Value), Cl w ok x v → Cl w1 ok1 x v
  | ⟨k, n, l⟩, v, h => by
    unfold Cl at h ⊢
    obtain ⟨g, a, vs, e, h0, hg, hr, hl⟩ := h
    exact ⟨g, a, vs, e, ho g h0 (blk_lt hg), (hm g h0 (blk_lt hg)).trans hg, Kd.V_mono (Kd.V_step (Kd.V_bound hr) (fun k hk hlt => hm k hk.1 hlt)) (fun k hk => ho k hk.1 hk.2), ClL_imp hm ho l vs hl⟩
theorem ClL_imp {w w1 : World} {ok ok1 : Nat → Prop} (hm : ∀ k, ok k → k < w.heap.size → w1.heap[k]? = w.heap[k]?) (ho : ∀ k, ok k → k < w.heap.size → ok1 k) : ∀ (l : List S36) (vs : List Value), ClL w ok l vs → ClL w1 ok1 l vs
  | [], vs, h => by unfold ClL at h ⊢; exact h
  | x :: xs, vs, h => by
    unfold ClL at h ⊢
    obtain ⟨v, vs', e, h1, h2⟩ := h
    exact ⟨v, vs', e, Cl_imp hm ho x v h1, ClL_imp hm ho xs vs' h2⟩
end
theorem CRow_below {w w1 : World} {ok : Nat → Prop} {a : Value} {vs : List Value} (hb : Below w.heap.size w w1) (h : CRow w ok a vs) : CRow w1 ok a vs := Kd.V_below h hb
theorem Cl_below {w w1 : World} {ok : Nat → Prop} (hb : Below w.heap.size w w1) {x : S36} {v : Value} (h : Cl w ok x v) : Cl w1 ok x v := Cl_imp (fun k _ hk => hb.block k hk) (fun _ h _ => h) x v h
theorem ClL_below {w w1 : World} {ok : Nat → Prop} (hb : Below w.heap.size w w1) {l : List S36} {vs : List Value} (h : ClL w ok l vs) : ClL w1 ok l vs := ClL_imp (fun k _ hk => hb.block k hk) (fun _ h _ => h) l vs h
theorem Cl_mono {w : World} {ok ok1 : Nat → Prop} (ho : ∀ k, ok k → k < w.heap.size → ok1 k) {x : S36} {v : Value} (h : Cl w ok x v) : Cl w ok1 x v := Cl_imp (fun _ _ _ => rfl) ho x v h
theorem ClL_mono {w : World} {ok ok1 : Nat → Prop} (ho : ∀ k, ok k → k < w.heap.size → ok1 k) {l : List S36} {vs : List Value} (h : ClL w ok l vs) : ClL w ok1 l vs := ClL_imp (fun _ _ _ => rfl) ho l vs h
theorem ClL_after {w w1 : World} {ok : Nat → Prop} {u u1 : Value} {l : List S36} {vs : List Value} (h : ClL w (fun k => ok k ∧ some k ≠ u.ownBlock) l vs) (hg : w.grownBy w1 u.ownBlock) (hat : u1.ownBlock = u.ownBlock ∨ ∃ b, u1.ownBlock = some b ∧ w.heap.size ≤ b) : ClL w1 (fun k => ok k ∧ some k ≠ u1.ownBlock) l vs :=
  ClL_imp (fun k hk hlt => hg.block k hlt hk.2) (fun k hk hlt => ⟨hk.1, fun he => by
    rcases hat with e | ⟨b, e, hb⟩
    · exact hk.2 (he.trans e)
    · rw [e] at he
      injection he with he
      omega⟩) l vs h
theorem ClL_len {w : World} {ok : Nat → Prop} : ∀ (l : List S36) (vs : List Value), ClL w ok l vs → l.length = vs.length
  | [], vs, h => by unfold ClL at h; rw [h]; rfl
  | x :: xs, vs, h => by
    unfold ClL at h
    obtain ⟨v, vs', e, h1, h2⟩ := h
    rw [e, List.length_cons, List.length_cons, ClL_len xs vs' h2]
theorem ClL_at {w : World} {ok : Nat → Prop} : ∀ (l : List S36) (vs : List Value), ClL w ok l vs → ∀ i (h : i < l.length) (h2 : i < vs.length), Cl w ok l[i] vs[i]
  | [], vs, _, i, h, _ => absurd h (Nat.not_lt_zero _)
  | x :: xs, vs, hl, i, h, h2 => by
    unfold ClL at hl
    obtain ⟨v, vs', e, h1, h3⟩ := hl
    subst e
    cases i with
    | zero => exact h1
    | succ i => exact ClL_at xs vs' h3 i (by simpa using h) (by simpa using h2)
theorem ClL_nil {w : World} {ok : Nat → Prop} : ClL w ok [] [] := by unfold ClL; rfl
theorem ClL_app {w : World} {ok : Nat → Prop} : ∀ (l : List S36) (vs : List Value) (m : List S36) (us : List Value), ClL w ok l vs → ClL w ok m us → ClL w ok (l ++ m) (vs ++ us)
  | [], vs, m, us, h, h2 => by unfold ClL at h; subst h; exact h2
  | x :: xs, vs, m, us, h, h2 => by
    unfold ClL at h
    obtain ⟨v, vs', e, h1, h3⟩ := h
    subst e
    show ClL w ok (x :: (xs ++ m)) (v :: (vs' ++ us))
    unfold ClL
    exact ⟨v, _, rfl, h1, ClL_app xs vs' m us h3 h2⟩
theorem ClL_one {w : World} {ok : Nat → Prop} {x : S36} {v : Value} (h : Cl w ok x v) : ClL w ok [x] [v] := by
  unfold ClL
  exact ⟨v, [], rfl, h, ClL_nil⟩
theorem ClL_snoc {w : World} {ok : Nat → Prop} {l : List S36} {vs : List Value} {x : S36} {v : Value} (h : ClL w ok l vs) (hx : Cl w ok x v) : ClL w ok (l ++ [x]) (vs ++ [v]) := ClL_app l vs [x] [v] h (ClL_one hx)
theorem CRow_C {w : World} {ok : Nat → Prop} {A : Option Addr} {n c : Nat} {vs : List Value} (h : CRow w ok (.slice A n c) vs) : n = vs.length ∧ n ≤ c ∧ Kd.C (Kd.raw 1) w A vs.length (vs.map (fun v => [v])) := by
  obtain ⟨h1, h2, h3⟩ := Kd.V_reads' h
  rw [List.length_map] at h1 h3
  exact ⟨h1, h2, h3⟩
theorem CRow_at {w : World} {ok : Nat → Prop} {A : Option Addr} {n c : Nat} {vs : List Value} (h : CRow w ok (.slice A n c) vs) {i : Nat} (hi : i < vs.length) : ∃ ad, A = some ad ∧ w.cell? (ad.add i) = some vs[i] := by
  obtain ⟨_, _, hC⟩ := CRow_C h
  obtain ⟨ad, cs, he, _, hK, hcc⟩ := Kd.C_get hC [] (i : Int) (by omega) (by omega)
  refine ⟨ad, he, ?_⟩
  have h1 : cs = [vs[i]] := by
    have e2 : (vs.map (fun v => [v])).getD (i : Int).toNat [] = [vs[i]] := by rw [Int.toNat_natCast, List.getD_eq_getElem?_getD, List.getElem?_map, List.getElem?_eq_getElem hi]; rfl
    rw [e2] at hK
    exact hK.1
  have := hcc 0 vs[i] (by rw [h1]; rfl)
  rw [Int.toNat_natCast] at this
  exact (congrArg (fun j => w.cell? (ad.add j)) (show i = i * (Kd.raw 1).sz + 0 from by show i = i * 1 + 0; omega)).trans this
theorem opnL_snoc (x : S36) : ∀ l : List S36, opnL (l ++ [x]) = (opnL l || opn x)
  | [] => by show opnL [x] = _; rw [opnL, opnL, opnL]; cases opn x <;> rfl
  | y :: ys => by show opnL (y :: (ys ++ [x])) = _; rw [opnL, opnL, opnL_snoc x ys]; cases opn y <;> rfl
theorem tcntL_snoc (x : S36) : ∀ l : List S36, tcntL (l ++ [x]) = tcntL l + tcnt x
  | [] => by show tcntL [x] = _; rw [tcntL, tcntL, tcntL]; omega
  | y :: ys => by show tcntL (y :: (ys ++ [x])) = _; rw [tcntL, tcntL, tcntL_snoc x ys]; omega
theorem csz_step {l : List S36} {i : Nat} (h : i < l.length) : min (min (1 + tcntL (l.take i)) 1099511627776 + csz l[i]) 1099511627776 = min (1 + tcntL (l.take (i + 1))) 1099511627776 := by
  rw [take28 h, tcntL_snoc]
  have h1 := tcntL_ge (l.take i)
  have h2 := tcnt_ge l[i]
  unfold csz
  omega
theorem opn_step {k : Int} {l : List S36} {i : Nat} (h : i < l.length) : ((decide (k = 0) || opnL (l.take i)) || opn l[i]) = (decide (k = 0) || opnL (l.take (i + 1))) := by
  rw [take28 h, opnL_snoc, Bool.or_assoc]
theorem csz_bd (x : S36) : 1 ≤ csz x ∧ csz x ≤ 1099511627776 := by have := tcnt_ge x; unfold csz; omega
theorem CRow_of {w : World} {ok : Nat → Prop} {base : Nat} {v : Value} {vs : List Value} (h : (Kd.raw 1).R 107 w base ok v (vs.map (fun v => [v]))) : CRow w ok v vs := Kd.R_V h
theorem Cl_new {w w' : World} {ok : Nat → Prop} {k n : Int} {l : List S36} {a : Value} {vs : List Value} {g : Nat} (hr : CRow w ok a vs) (hl : ClL w ok l vs) (hb : Below w.heap.size w w') (hg : w.heap.size ≤ g) (hc : w'.heap[g]? = some (.cells #[.int .i64 k, .int .i64 n, a, .int .i64 (csz ⟨k, n, l⟩), .bool (opn ⟨k, n, l⟩)] 112 (0, 0))) :
    Cl w' (fun q => ok q ∨ w.heap.size ≤ q) ⟨k, n, l⟩ (.pointer (some ⟨g, 0, none⟩)) := by
  unfold Cl
  exact ⟨g, a, vs, rfl, .inr hg, hc, Kd.V_mono (Kd.V_below hr hb) (fun q h => .inl h), ClL_imp (fun k _ hk => hb.block k hk) (fun _ h _ => .inl h) l vs hl⟩
set_option maxHeartbeats 8000000 in
theorem new_calls (k n : Int) (l : List S36) (a : Value) (vs : List Value) (w : World) (ok : Nat → Prop) (hrow : CRow w ok a vs) (hl : ClL w ok l vs) :
    Calls Try.prog 44 #[.int .i64 k, .int .i64 n, a] w fun e w' => ∃ g, e = .returned (.pointer (some ⟨g, 0, none⟩)) ∧ w.heap.size ≤ g ∧ w'.heap[g]? = some (.cells #[.int .i64 k, .int .i64 n, a, .int .i64 (csz ⟨k, n, l⟩), .bool (opn ⟨k, n, l⟩)] 112 (0, 0)) ∧ Below w.heap.size w w' := by
  have hu112 := Try.underlying112
  have hlv := ClL_len l vs hl
  obtain ⟨A, c, rfl⟩ := CRow_slice hrow
  have hlen : l.length ≤ 9223372036854775807 := by have := (CRow_C hrow).2.2.2.1; omega
  have HRow := Az.mk hrow
  have HL := Az.mk hl
  rw [← hlv] at HRow ⊢
  have HLV := Az.mk hlv
  clear hl hlv hrow
  go_enter Try.func44, Try.ntmps44
  go_wp2_with (
    (with_reducible refine gate_dst (N := 16) rfl ?_)
    refine box_event ?hg (N := 16) ?hd (cs := #[.int .i64 k, .int .i64 n, .slice A l.length c, .int .i64 1, .bool (decide (k = 0))]) (t := 112) ?hr ?_
    (case hd => rfl)
    (case hg => rfl)
    (case hr => first | (go_simp; done) | (go_simp; rfl))
    intro g7 hg7 w1 hbox hb1
    have S7 := Az.mk (show w1.heap[g7]? = some (.cells #[.int .i64 k, .int .i64 n, .slice A l.length c, .int .i64 (min (1 + tcntL (l.take 0)) 1099511627776), .bool (decide (k = 0) || opnL (l.take 0))] 112 (0, 0)) from by
      rw [List.take_zero, opnL, Bool.or_false, tcntL]
      exact hbox)
    have HG := Az.mk (show w.heap.size ≤ g7 from by omega)
    have HB1 := Az.mk hb1
    clear hbox hb1 hg7)
  go_loopg [19] l.length (fun kq v19 wr => ∃ i : Nat, v19 = .int .i64 (i : Int) ∧ Az (i + kq = l.length) ∧ Az (wr.heap[g7]? = some (.cells #[.int .i64 k, .int .i64 n, .slice A l.length c, .int .i64 (min (1 + tcntL (l.take i)) 1099511627776), .bool (decide (k = 0) || opnL (l.take i))] 112 (0, 0))) ∧ Az (Below w.heap.size w wr))
  case atStart => exact ⟨0, rfl, ⟨by omega⟩, S7, HB1⟩
  case round =>
    clear S7 HB1
    obtain ⟨i, rfl, Hi, S7, HB⟩ := hrel
    by_cases hlt : i < l.length
    rotate_left
    · have hie : i = l.length := by have := Hi.out; omega
      subst hie
      have hs := S7.out
      rw [List.take_length] at hs
      have Hs := Az.mk hs
      clear hs
      go_wp2_with fail
      go_ret
      refine ⟨g7, rfl, HG.out, ?_, HB.out⟩
      have := Hs.out
      unfold opn csz
      rw [tcnt]
      exact this
    have hlv : i < vs.length := by have := HLV.out; omega
    obtain ⟨ad, he, hx⟩ := CRow_at (CRow_below HB.out HRow.out) hlv
    cases he
    have hcl := ClL_at l vs HL.out i hlt hlv
    have HSZ := Az.mk (csz_step hlt)
    have HOP := Az.mk (opn_step (k := k) hlt)
    have hbd := csz_bd l[i]
    have hge := tcntL_ge (l.take i)
    cases hxe : l[i] with
    | mk k1 n1 l1 =>
    rw [hxe] at hcl HSZ HOP hbd
    unfold Cl at hcl
    obtain ⟨g1, a1, vs1, hv, _, hg1w, _, _⟩ := hcl
    rw [hv] at hx
    have hg17 : g1 ≠ g7 := by have := blk_lt hg1w; have := HG.out; omega
    have hg1 := bkB hg1w HB.out
    generalize csz ⟨k1, n1, l1⟩ = cz at *
    generalize opn ⟨k1, n1, l1⟩ = co at *
    generalize hS : min (1 + tcntL (l.take i)) 1099511627776 = sz at *
    generalize hO : (decide (k = 0) || opnL (l.take i)) = op at *
    have z3 : wr.cell? ⟨g7, 3, none⟩ = some (.int .i64 sz) := (blk_cell S7.out 3).trans rfl
    have z4 : wr.cell? ⟨g7, 4, none⟩ = some (.bool op) := (blk_cell S7.out 4).trans rfl
    have y3 : wr.cell? ⟨g1, 3, none⟩ = some (.int .i64 cz) := (blk_cell hg1 3).trans rfl
    have y4 : wr.cell? ⟨g1, 4, none⟩ = some (.bool co) := (blk_cell hg1 4).trans rfl
    have f3 := bkF S7.out 3
    have f4 := bkF S7.out 4
    have q1 : (0 ≤ (i : Int)) = True := eq_true (by omega)
    have q2 : ((i : Int) < (l.length : Int)) = True := eq_true (by omega)
    have q3 : (i < l.length) = True := eq_true (by omega)
    go_upto_region 5 with fail
    have Y := Az.mk hg1
    have HN := Az.mk hg17
    have hw : wrap64 (sz + cz) = sz + cz := by unfold wrap64; omega
    clear hg1 hg1w hg17 hS hO hge
    try simp only [Act.put, List.setIfInBounds_toArray, List.set_cons_succ, List.set_cons_zero]
    go_cut [33] from 23 to 35 (fun v33 wc => Az (wc.heap[g7]? = some (.cells #[.int .i64 k, .int .i64 n, .slice (some ad) l.length c, .int .i64 (min (sz + cz) 1099511627776), .bool op] 112 (0, 0))) ∧ Az (Below w.heap.size w wc) ∧ Az (wc.cell? ⟨g1, 4, none⟩ = some (.bool co)))
    case first =>
      go_region
      go_wp2_with fail
      all_goals (
        go_meet
        refine ⟨⟨?_⟩, ⟨below_drew (bset HB.out HG.out)⟩, ⟨(blk_cell (blk_drew (blk_far (p := ⟨g7, 3, none⟩) Y.out (fun he => HN.out he) _)) 4).trans rfl⟩⟩
        first
        | (rw [show min (sz + cz) 1099511627776 = 1099511627776 from by omega]; exact blk_drew (blk_put S7.out 3 _ rfl))
        | (rw [show min (sz + cz) 1099511627776 = sz + cz from by omega]; exact blk_drew (blk_put S7.out 3 _ rfl)))
    case rest =>
      obtain ⟨S8, HB8, Y8⟩ := hcut
      have y4 := Y8.out
      have z4 : wc.cell? ⟨g7, 4, none⟩ = some (.bool op) := (blk_cell S8.out 4).trans rfl
      have f4 := bkF S8.out 4
      have HB9 := Az.mk (fun b : Bool => bset (j := 4) (v := .bool b) HB8.out HG.out)
      have S9 := Az.mk (fun (b : Bool) (hb : b = (op || co)) => (show (wc.setCell ⟨g7, 4, none⟩ (.bool b)).heap[g7]? = some (.cells #[.int .i64 k, .int .i64 n, .slice (some ad) l.length c, .int .i64 (min (1 + tcntL (l.take (i + 1))) 1099511627776), .bool (decide (k = 0) || opnL (l.take (i + 1)))] 112 (0, 0)) from by
        rw [← HSZ.out, ← HOP.out, ← hb]
        exact blk_put S8.out 4 (.bool b) rfl))
      clear z3 y3 f3 S8 HB8 Y8
      have hk := Hi.out
      obtain ⟨k1, rfl⟩ : ∃ k1, gk = k1 + 1 := ⟨gk - 1, by omega⟩
      cases op with
      | true =>
        go_wp2_with fail
        go_roundg k1
        case measure => omega
        case rel => exact ⟨i + 1, by go_num, ⟨by omega⟩, ⟨S9.out true rfl⟩, ⟨HB9.out true⟩⟩
      | false =>
        go_wp2_with fail
        go_roundg k1
        case measure => omega
        case rel => exact ⟨i + 1, by go_num, ⟨by omega⟩, ⟨S9.out co rfl⟩, ⟨HB9.out co⟩⟩
end Go.Proofs.Ytkgknidogelffaa.I
namespace Go.Proofs.Ytkgknidogelffaa.I
open Go.RowKit Go.Proofs.YtkgknidogelffaaW.PrintWords Go.Proofs.YtkgknidogelffaaW.PrintLast Go.Proofs.YtkgknidogelffaaW.PrintMore
attribute [local go_sem] max2_int min2_int max_two min_two max_three min_three max_four min_four
set_option linter.unusedVariables false
set_option maxRecDepth 100000
set_option linter.unusedSimpArgs false
theorem take28_rd {l : List S36} {i : Nat} (h : i < l.length) : l.take (i + 1) = l.take i ++ [rd_T36 l (i : Int)] := by
  have e2 : rd_T36 l (i : Int) = l[i] := by unfold rd_T36; rw [Int.toNat_natCast, List.getD_eq_getElem?_getD, List.getElem?_eq_getElem h]; rfl
  rw [take28 h, e2]
set_option maxHeartbeats 8000000 in
theorem cof_calls (N : Nat) : ∀ (k n : Int) (l : List S36) (A : Option Addr) (c : Nat) (w : World), SizeOf.sizeOf l < N → tcntL l ≤ 1000000 → Kd.C k36 w A l.length l → l.length ≤ c →
    Calls Try.prog 59 #[.agg #[.int .i64 k, .int .i64 n, .slice A l.length c]] w fun e w' => ∃ g, e = .returned (.pointer (some ⟨g, 0, none⟩)) ∧ Cl w' (fun q => w.heap.size ≤ q) ⟨k, n, l⟩ (.pointer (some ⟨g, 0, none⟩)) ∧ Below w.heap.size w w' := by
  have hu36 := Try.underlying36
  induction N with
  | zero => intro k n l A c w hN; omega
  | succ N ih =>
  intro k n l A c w hN ht hr hc
  have hlen : l.length ≤ 9223372036854775807 := hr.2.1
  have HR := Az.mk hr
  have HC := Az.mk hc
  have HN := Az.mk hN
  have HT := Az.mk ht
  have HL := Az.mk (show l.length ≤ 1000000 from by have := tcntL_ge l; omega)
  have IH := Az.mk ih
  clear hr hc hN ht ih
  go_enter Try.func59, Try.ntmps59
  go_wp2_with (
    (with_reducible refine gate_dst (N := 1) rfl ?_)
    refine box_event ?hg (N := 1) ?hd (cs := #[.int .i64 k, .int .i64 n, .slice A l.length c]) (t := 36) ?hr ?_
    (case hd => rfl)
    (case hg => rfl)
    (case hr => first | (go_simp; done) | (go_simp; rfl))
    intro g1 hg1 w1 hbox hb1
    have S1 := Az.mk hbox
    have HB1 := Az.mk hb1
    have e2 : w1.cell? ⟨g1, 2, none⟩ = some (.slice A l.length c) := (blk_cell hbox 2).trans rfl
    clear hbox hb1 hg1)
  clear e2
  go_loopg [3, 9] l.length (fun kq v3 v9 wr => ∃ (i : Nat) (Ax : Option Addr) (cx : Nat) (vs : List Value), v3 = .slice Ax i cx ∧ v9 = .int .i64 (i : Int) ∧ Az (i + kq = l.length) ∧ Az (vs.length = i) ∧ Az ((Kd.raw 1).R 107 wr w1.heap.size (fun q => w.heap.size ≤ q) (.slice Ax i cx) (vs.map (fun v => [v]))) ∧ Az (ClL wr (fun q => w.heap.size ≤ q ∧ some q ≠ (Value.slice Ax i cx).ownBlock) (l.take i) vs) ∧ Az (Below w1.heap.size w1 wr))
  case atStart => exact ⟨0, none, 0, [], rfl, rfl, ⟨by omega⟩, ⟨rfl⟩, ⟨Kd.R_nil _ _ _ _ _⟩, ⟨ClL_nil⟩, ⟨Below.refl _ _⟩⟩
  case round =>
    obtain ⟨i, Ax, cx, vs, rfl, rfl, Hi, HV, HRx, HF, HB0⟩ := hrel
    have HB := Az.mk (bst HB1.out HB0.out)
    by_cases hlt : i < l.length
    rotate_left
    · have hie : i = l.length := by have := Hi.out; omega
      subst hie
      have S2 := Az.mk (bkB S1.out HB0.out)
      have e0 : wr.cell? ⟨g1, 0, none⟩ = some (.int .i64 k) := (blk_cell S2.out 0).trans rfl
      have e1 : wr.cell? ⟨g1, 1, none⟩ = some (.int .i64 n) := (blk_cell S2.out 1).trans rfl
      have hF := HF.out
      rw [List.take_length] at hF
      have HRow := Az.mk (CRow_of HRx.out)
      have HCl := Az.mk (ClL_mono (ok1 := fun q => w.heap.size ≤ q) (fun q hq _ => hq.1) hF)
      clear hF hlt HF
      go_wp2_with fail
      (with_reducible refine (new_calls k n l (.slice Ax l.length cx) vs wr _ HRow.out HCl.out).mono ?_)
      rintro e w5 ⟨g, rfl, hg, hcell, hb5⟩
      have HB5 := Az.mk (bst HB.out hb5)
      have HX := Az.mk (Cl_new HRow.out HCl.out hb5 hg hcell)
      have HSZ := Az.mk HB.out.size
      clear hg hcell hb5 e0 e1
      go_wp2_with fail
      go_ret
      exact ⟨_, rfl, Cl_mono (fun q hq _ => by rcases hq with hq | hq; exact hq; have := HSZ.out; omega) HX.out, HB5.out⟩
    cases gk with
    | zero => exact absurd Hi.out (by omega)
    | succ k1 =>
    obtain ⟨ad, A4, c4, he, hx2, hx3, hx4, hl4, hC4⟩ := at_T36 (Kd.C_below HR.out HB.out) (i : Int) (by omega) (by omega)
    cases he
    rw [Int.toNat_natCast] at hx2 hx3 hx4
    have HC4 := Az.mk hC4
    have Hl4 := Az.mk hl4
    have HSN := Az.mk (take28_rd hlt)
    have HSZ := Az.mk (show SizeOf.sizeOf (rd_T36 l (i : Int)).f2 < N from by have := rd_T36_mem l i hlt; have := HN.out; omega)
    have HTC := Az.mk (show tcntL (rd_T36 l (i : Int)).f2 ≤ 1000000 from by have := tcnt_child l i hlt; have := HT.out; omega)
    have Hlt := Az.mk hlt
    have q1 : (0 ≤ (i : Int)) = True := eq_true (by omega)
    have q2 : ((i : Int) < (l.length : Int)) = True := eq_true (by omega)
    have q3 : (i < l.length) = True := eq_true (by omega)
    clear hl4 hC4
    generalize rd_T36 l (i : Int) = x at *
    have HXX := Az.mk (show (⟨x.f0, x.f1, x.f2⟩ : S36) = x from by cases x; rfl)
    go_wp2_with (
      (with_reducible refine gate_dst (N := 5) rfl ?_)
      refine box_event ?hg (N := 5) ?hd (cs := #[.int .i64 0, .int .i64 0, .slice none 0 0]) (t := 36) ?hr ?_
      (case hd => rfl)
      (case hg => rfl)
      (case hr => first | (go_simp; done) | (go_simp; rfl))
      intro gi hgi w6 hbox hbb
      have hgw : wr.heap.size ≤ gi := by omega
      have Hbw := Az.mk (bset (g := gi) (j := 2) (v := .slice A4 x.f2.length c4) (bset (g := gi) (j := 1) (v := .int .i64 x.f1) (bset (g := gi) (j := 0) (v := .int .i64 x.f0) hbb hgw) hgw) hgw)
      have Sgi := Az.mk (blk_put (cs' := #[.int .i64 x.f0, .int .i64 x.f1, .slice A4 x.f2.length c4]) (blk_put (cs' := #[.int .i64 x.f0, .int .i64 x.f1, .slice none 0 0]) (blk_put (cs' := #[.int .i64 x.f0, .int .i64 0, .slice none 0 0]) hbox 0 (.int .i64 x.f0) rfl) 1 (.int .i64 x.f1) rfl) 2 (.slice A4 x.f2.length c4) rfl)
      have hcz0 := (blk_cell hbox 0).trans rfl
      have hfz0 := bkF hbox 0
      have hcz1 := (blk_cell hbox 1).trans rfl
      have hfz1 := bkF hbox 1
      have hcz2 := (blk_cell hbox 2).trans rfl
      have hfz2 := bkF hbox 2
      have n0 := (blk_cell Sgi.out 0).trans rfl
      have n1 := (blk_cell Sgi.out 1).trans rfl
      have n2 := (blk_cell Sgi.out 2).trans rfl
      clear hbox hbb hgi hgw)
    clear hcz0 hcz1 hcz2 hfz0 hfz1 hfz2 hx2 hx3 hx4 n0 n1 n2
    generalize (((w6.setCell ⟨gi, 0, none⟩ (.int .i64 x.f0)).setCell ⟨gi, 1, none⟩ (.int .i64 x.f1)).setCell ⟨gi, 2, none⟩ (.slice A4 x.f2.length c4)) = wq at *
    (with_reducible refine (IH.out x.f0 x.f1 x.f2 A4 c4 wq HSZ.out HTC.out (Kd.C_below HC4.out Hbw.out) Hl4.out).mono ?_)
    rintro e w8 ⟨gv, rfl, hfv, hb8⟩
    rw [HXX.out] at hfv
    have hbq := bst Hbw.out hb8
    have hrx8 := Kd.R_below HRx.out hbq
    have hown := Kd.R_lt HRx.out
    have HX8 := Az.mk (Cl_mono (ok1 := fun q => w.heap.size ≤ q ∧ some q ≠ (Value.slice Ax i cx).ownBlock) (fun q hq _ => ⟨by have := HB.out.size; have := Hbw.out.size; omega, fun he => by have := hown q he.symm; have := Hbw.out.size; omega⟩) hfv)
    have HF8 := Az.mk (ClL_below hbq HF.out)
    have HR8 := Az.mk hrx8
    have HB8 := Az.mk (bst HB.out hbq)
    have HB08 := Az.mk (bst HB0.out hbq)
    clear hfv hbq hrx8 hown HB0 HB HRx HF Hbw Sgi
    go_wp2_with (at_builtin; refine holdX ?_)
    unfold HoldX
    refine Kd.R_append (Kd.raw 1) (w0 := w1) w1.heap.size rfl (.tmp 13) (.tmp 16) 103 107 (.pointer none) 8 rfl Try.underlying103 (by kernel_rfl) rfl (by decide) (by omega) (.slice Ax i cx) (vs.map (fun v => [v])) [.pointer (some ⟨gv, 0, none⟩)] [.pointer (some ⟨gv, 0, none⟩)] (fun q => w.heap.size ≤ q) (fun _ => False) rfl rfl ⟨rfl, rfl, fun u hu => by rw [List.mem_singleton.1 hu]; rfl⟩ (fun _ hk => hk.elim) (fun q hq => by have := HB8.out.size; omega) HR8.out HB08.out HB08.out.size (by rw [List.length_map, HV.out]; have := Hlt.out; have := HL.out; omega) ?_
    intro v2 w7 hrf hb7 hg7 hat
    have hsn : (vs.map (fun v => [v])) ++ [[Value.pointer (some ⟨gv, 0, none⟩)]] = (vs ++ [Value.pointer (some ⟨gv, 0, none⟩)]).map (fun v => [v]) := by rw [List.map_append]; rfl
    rw [hsn] at hrf
    obtain ⟨A5, c5, e5⟩ := Kd.R_slice hrf
    rw [List.length_map, List.length_append, HV.out] at e5
    replace e5 : v2 = .slice A5 (i + 1) c5 := e5
    subst e5
    have hf7 := ClL_after (ClL_snoc HF8.out HX8.out) hg7 hat
    rw [← HSN.out] at hf7
    have HF7 := Az.mk hf7
    have HR7 := Az.mk hrf
    have HB07 := Az.mk hb7
    clear hrf hb7 hg7 hat hsn hf7 HF8 HX8 HR8 HB8 HB08
    go_wp2_with fail
    go_roundg k1
    case measure => omega
    case rel => exact ⟨i + 1, A5, c5, _, rfl, by go_num, ⟨by have := Hi.out; omega⟩, ⟨by rw [List.length_append, HV.out]; rfl⟩, HR7, HF7, HB07⟩
end Go.Proofs.Ytkgknidogelffaa.I
namespace Go.Proofs.Ytkgknidogelffaa.I
open Go.RowKit Go.Proofs.YtkgknidogelffaaW.PrintWords Go.Proofs.YtkgknidogelffaaW.PrintLast Go.Proofs.YtkgknidogelffaaW.PrintMore
attribute [local go_sem] max2_int min2_int max_two min_two max_three min_three max_four min_four
set_option linter.unusedVariables false
set_option maxRecDepth 100000
set_option maxHeartbeats 16000000 in
theorem csub_calls (N : Nat) : ∀ (t : S36) (v : Value) (ps : List S36) (aR : Value) (avs : List Value) (ok : Nat → Prop) (w : World), SizeOf.sizeOf t < N → okT (ps.length : Int) t = true → tcnt t ≤ 1000000 → (∀ x ∈ ps, tcnt x ≤ 1000000) → (∀ q, ok q → q < w.heap.size) → Cl w ok t v → CRow w ok aR avs → ClL w ok ps avs →
    Calls Try.prog 60 #[v, aR] w fun e w' => ∃ g, e = .returned (.pointer (some ⟨g, 0, none⟩)) ∧ Cl w' (fun q => ok q ∨ w.heap.size ≤ q) (subT ps t) (.pointer (some ⟨g, 0, none⟩)) ∧ Below w.heap.size w w' := by
  have hu36 := Try.underlying36
  have hu112 := Try.underlying112
  induction N with
  | zero => intro t v ps aR avs ok w hN; omega
  | succ N ih =>
  rintro ⟨k, n, l⟩ v ps aR avs ok w hN hok ht hps hlt hv har hal
  have HV := Az.mk hv
  unfold Cl at hv
  obtain ⟨gc, av, vs, rfl, _, hgc, hrow, hl⟩ := hv
  have hlv := ClL_len l vs hl
  have hav := ClL_len ps avs hal
  obtain ⟨A, c, rfl⟩ := CRow_slice hrow
  obtain ⟨Aa, ca, rfl⟩ := CRow_slice har
  have hlen : l.length ≤ 9223372036854775807 := by have := (CRow_C hrow).2.2.2.1; omega
  have hlena : ps.length ≤ 9223372036854775807 := by have := (CRow_C har).2.2.2.1; omega
  have HRow := Az.mk hrow
  have HAR := Az.mk har
  rw [← hlv] at HRow hgc
  rw [← hav] at HAR ⊢
  have HL := Az.mk hl
  have HAL := Az.mk hal
  have HLV := Az.mk hlv
  have HAV := Az.mk hav
  have HG := Az.mk hgc
  have HN := Az.mk hN
  have HOK := Az.mk hok
  have HT := Az.mk ht
  have HPS := Az.mk hps
  have HLT := Az.mk hlt
  have HLen := Az.mk (show l.length ≤ 1000000 from by have := tcntL_ge l; have : tcnt ⟨k, n, l⟩ = 1 + tcntL l := tcnt_f2 ⟨k, n, l⟩; omega)
  have HTL := Az.mk (show tcntL l ≤ 1000000 from by have : tcnt ⟨k, n, l⟩ = 1 + tcntL l := tcnt_f2 ⟨k, n, l⟩; omega)
  have IH := Az.mk ih
  obtain ⟨op, hop⟩ : ∃ op, op = opn ⟨k, n, l⟩ := ⟨_, rfl⟩
  rw [← hop] at HG
  have HOp := Az.mk hop
  clear hN ht ih hgc hl hlv hrow har hal hav hok hps hlt hop
  have e4 : w.cell? ⟨gc, 4, none⟩ = some (.bool op) := (blk_cell HG.out 4).trans rfl
  have e2 : w.cell? ⟨gc, 2, none⟩ = some (.slice A l.length c) := (blk_cell HG.out 2).trans rfl
  go_enter Try.func60, Try.ntmps60
  cases op with
  | false =>
    have HS := Az.mk (subT_closed ps ⟨k, n, l⟩ HOp.out.symm)
    clear e2
    go_wp2_with fail
    go_ret
    refine ⟨gc, rfl, ?_, Below.refl _ _⟩
    rw [HS.out]
    exact Cl_mono (fun q hq _ => .inl hq) HV.out
  | true =>
  clear HV HOp
  go_wp2_with fail
  clear e2 e4
  go_loopg [5, 20] l.length (fun kq v5 v20 wr => ∃ (i : Nat) (Ax : Option Addr) (cx : Nat) (us : List Value), v5 = .slice Ax i cx ∧ v20 = .int .i64 (i : Int) ∧ Az (i + kq = l.length) ∧ Az (us.length = i) ∧ Az ((Kd.raw 1).R 107 wr w.heap.size (fun q => w.heap.size ≤ q) (.slice Ax i cx) (us.map (fun v => [v]))) ∧ Az (ClL wr (fun q => (ok q ∨ w.heap.size ≤ q) ∧ some q ≠ (Value.slice Ax i cx).ownBlock) (subL ps (l.take i)) us) ∧ Az (Below w.heap.size w wr))
  case atStart => exact ⟨0, none, 0, [], rfl, rfl, ⟨by omega⟩, ⟨rfl⟩, ⟨Kd.R_nil _ _ _ _ _⟩, ⟨by rw [List.take_zero, subL]; exact ClL_nil⟩, ⟨Below.refl _ _⟩⟩
  case round =>
    obtain ⟨i, Ax, cx, us, rfl, rfl, Hi, HU, HRx, HF, HB⟩ := hrel
    by_cases hlt : i < l.length
    · cases gk with
      | zero => exact absurd Hi.out (by omega)
      | succ k1 =>
      have hlv : i < vs.length := by have := HLV.out; omega
      obtain ⟨ad, he, hx⟩ := CRow_at (CRow_below HB.out HRow.out) hlv
      cases he
      have hcl := ClL_at l vs HL.out i hlt hlv
      have HSN := Az.mk (subL_take ps hlt)
      have HSZ := Az.mk (show SizeOf.sizeOf l[i] < N from by have := size_at l i hlt; have h2 := HN.out; have h3 : SizeOf.sizeOf l < SizeOf.sizeOf (⟨k, n, l⟩ : S36) := (by simp; omega); omega)
      have HTC := Az.mk (show tcnt l[i] ≤ 1000000 from by have := tcnt_at l i hlt; have := HTL.out; omega)
      have HOI := Az.mk (okL_at _ l (okT_at HOK.out).2 i hlt)
      have HLTr := Az.mk (fun q (h : ok q) => (show q < wr.heap.size from by have := HLT.out q h; have := HB.out.size; omega))
      generalize l[i] = x at *
      have hcl2 := hcl
      cases x with
      | mk a1 b1 l1 =>
      unfold Cl at hcl2
      obtain ⟨g1, _, _, hvi, _, _, _, _⟩ := hcl2
      rw [hvi] at hx hcl
      have HCL := Az.mk hcl
      have Hlt := Az.mk hlt
      have q1 : (0 ≤ (i : Int)) = True := eq_true (by omega)
      have q2 : ((i : Int) < (l.length : Int)) = True := eq_true (by omega)
      have q3 : (i < l.length) = True := eq_true (by omega)
      clear hcl hvi hlv
      go_wp2_with fail
      (with_reducible refine (IH.out ⟨a1, b1, l1⟩ _ ps (.slice Aa ps.length ca) avs ok wr HSZ.out HOI.out HTC.out HPS.out HLTr.out (Cl_below HB.out HCL.out) (CRow_below HB.out HAR.out) (ClL_below HB.out HAL.out)).mono ?_)
      rintro e w8 ⟨gv, rfl, hfv, hb8⟩
      have hrx8 := Kd.R_below HRx.out hb8
      have hown := Kd.R_lt HRx.out
      have hbase := Kd.R_base HRx.out
      have HX8 := Az.mk (Cl_mono (ok1 := fun q => (ok q ∨ w.heap.size ≤ q) ∧ some q ≠ (Value.slice Ax i cx).ownBlock) (fun q hq _ => by
        rcases hq with hq | hq
        · exact ⟨.inl hq, fun he => by have := hbase q he.symm; have := HLT.out q hq; omega⟩
        · exact ⟨.inr (by have := HB.out.size; omega), fun he => by have := hown q he.symm; omega⟩) hfv)
      have HF8 := Az.mk (ClL_below hb8 HF.out)
      have HR8 := Az.mk hrx8
      have HB8 := Az.mk (bst HB.out hb8)
      clear hfv hrx8 hown hbase hb8 HB HRx HF hx
      go_wp2_with (at_builtin; refine holdX ?_)
      unfold HoldX
      refine Kd.R_append (Kd.raw 1) (w0 := w) w.heap.size rfl (.tmp 24) (.tmp 28) 103 107 (.pointer none) 8 rfl Try.underlying103 (by kernel_rfl) rfl (by decide) (by omega) (.slice Ax i cx) (us.map (fun v => [v])) [.pointer (some ⟨gv, 0, none⟩)] [.pointer (some ⟨gv, 0, none⟩)] (fun q => w.heap.size ≤ q) (fun _ => False) rfl rfl ⟨rfl, rfl, fun u hu => by rw [List.mem_singleton.1 hu]; rfl⟩ (fun _ hk => hk.elim) (fun q hq => by have := HB8.out.size; omega) HR8.out HB8.out HB8.out.size (by rw [List.length_map, HU.out]; have := Hlt.out; have := HLen.out; omega) ?_
      intro v2 w7 hrf hb7 hg7 hat
      have hsn : (us.map (fun v => [v])) ++ [[Value.pointer (some ⟨gv, 0, none⟩)]] = (us ++ [Value.pointer (some ⟨gv, 0, none⟩)]).map (fun v => [v]) := by rw [List.map_append]; rfl
      rw [hsn] at hrf
      obtain ⟨A5, c5, e5⟩ := Kd.R_slice hrf
      rw [List.length_map, List.length_append, HU.out] at e5
      replace e5 : v2 = .slice A5 (i + 1) c5 := e5
      subst e5
      have hf7 := ClL_after (ClL_snoc HF8.out HX8.out) hg7 hat
      rw [← HSN.out] at hf7
      have HF7 := Az.mk hf7
      have HR7 := Az.mk hrf
      have HB7 := Az.mk hb7
      clear hrf hb7 hg7 hat hsn hf7 HF8 HX8 HR8 HB8
      go_wp2_with fail
      go_roundg k1
      case measure => omega
      case rel => exact ⟨i + 1, A5, c5, _, rfl, by go_num, ⟨by have := Hi.out; omega⟩, ⟨by rw [List.length_append, HU.out]; rfl⟩, HR7, HF7, HB7⟩
    have hie : i = l.length := by have := Hi.out; omega
    subst hie
    have hF := HF.out
    rw [List.take_length] at hF
    have HF2 := Az.mk hF
    have HGr := Az.mk (bkB HG.out HB.out)
    have e0 : wr.cell? ⟨gc, 0, none⟩ = some (.int .i64 k) := (blk_cell HGr.out 0).trans rfl
    have e1 : wr.cell? ⟨gc, 1, none⟩ = some (.int .i64 n) := (blk_cell HGr.out 1).trans rfl
    clear hF HF hlt Hi
    by_cases hk : k = 0
    rotate_left
    · have b1 : (k != 0) = true := bne_iff_ne.2 hk
      have b2 : (k == 0) = false := beq_eq_false_iff_ne.2 hk
      have HE := Az.mk (show subT ps ⟨k, n, l⟩ = ⟨k, n, subL ps l⟩ from by unfold subT; rw [if_neg hk])
      have HRow2 := Az.mk (CRow_of HRx.out)
      have HCl2 := Az.mk (ClL_mono (ok1 := fun q => ok q ∨ w.heap.size ≤ q) (fun q hq _ => hq.1) HF2.out)
      have HRow3 := Az.mk (show CRow wr (fun q => ok q ∨ w.heap.size ≤ q) (.slice Ax l.length cx) us from Kd.V_mono HRow2.out (fun q hq => .inr hq))
      clear hk HRow2
      go_upto_region 10 with fail
      try simp only [Act.put, List.setIfInBounds_toArray, List.set_cons_succ, List.set_cons_zero]
      go_cut [4] from 36 to 45 (fun v4 wc => ∃ g : Nat, v4 = .pointer (some ⟨g, 0, none⟩) ∧ Az (Cl wc (fun q => ok q ∨ w.heap.size ≤ q) ⟨k, n, subL ps l⟩ (.pointer (some ⟨g, 0, none⟩))) ∧ Az (Below w.heap.size w wc))
      case first =>
        go_region_held3 (fun w' => w'.cell? ⟨gc, 0, none⟩ = some (.int .i64 k) ∧ w'.cell? ⟨gc, 1, none⟩ = some (.int .i64 n)) (go_keep)
          (first
            | (go_at_call 44
               (with_reducible refine (new_calls k n (subL ps l) (.slice Ax l.length cx) us wr.drew _ (CRow_below (below_drew (Below.refl _ _)) HRow3.out) (ClL_below (below_drew (Below.refl _ _)) HCl2.out)).mono ?_)
               rintro e9 wA ⟨g, rfl, hg, hcell, hbA⟩
               have HCn := Az.mk (Cl_new (CRow_below (below_drew (Below.refl _ _)) HRow3.out) (ClL_below (below_drew (Below.refl _ _)) HCl2.out) hbA hg hcell)
               have HBA := Az.mk (bst (below_drew HB.out) hbA)
               have z0 := cell_up hbA (show wr.drew.cell? _ = _ from e0)
               have z1 := cell_up hbA (show wr.drew.cell? _ = _ from e1)
               have HSz := Az.mk (show w.heap.size ≤ wr.drew.heap.size from HB.out.size)
               clear hg hcell hbA))
        all_goals (go_wp2_with fail; go_meet; exact ⟨_, rfl, ⟨Cl_mono (fun q hq _ => by rcases hq with hq | hq; exact hq; exact .inr (Nat.le_trans HSz.out hq)) HCn.out⟩, HBA⟩)
      case rest =>
        obtain ⟨g, rfl, HCn, HBc⟩ := hcut
        clear e0 e1
        go_wp2_with fail
        go_ret
        exact ⟨g, rfl, by rw [HE.out]; exact HCn.out, HBc.out⟩
    · subst hk
      obtain ⟨hn0, hn1⟩ := (okT_at HOK.out).1 rfl
      obtain ⟨m, rfl⟩ : ∃ m : Nat, n = (m : Int) := ⟨n.toNat, by omega⟩
      have hm : m < ps.length := by omega
      have hma : m < avs.length := by have := HAV.out; omega
      obtain ⟨ada, he, hx⟩ := CRow_at (CRow_below HB.out HAR.out) hma
      cases he
      have hcl := ClL_at ps avs HAL.out m hm hma
      have hrd : rd_T36 ps (m : Int) = ps[m] := by unfold rd_T36; rw [Int.toNat_natCast, List.getD_eq_getElem?_getD, List.getElem?_eq_getElem hm]; rfl
      have HE := Az.mk (show subT ps ⟨0, (m : Int), l⟩ = ⟨ps[m].f0, ps[m].f1, ps[m].f2 ++ subL ps l⟩ from by unfold subT; rw [if_pos rfl, hrd])
      have HTA := Az.mk (HPS.out ps[m] (List.getElem_mem hm))
      generalize ps[m] = x at *
      have hcl2 := hcl
      cases x with
      | mk k1 n1 l1 =>
      unfold Cl at hcl2
      obtain ⟨g1, a1, vs1, hvi, _, hg1, hrow1, hl1⟩ := hcl2
      rw [hvi] at hx hcl
      obtain ⟨A1, c1, rfl⟩ := CRow_slice hrow1
      have hlv1 := ClL_len l1 vs1 hl1
      rw [← hlv1] at hg1 hrow1
      have HCL := Az.mk hcl
      have HRow1 := Az.mk hrow1
      have HL1 := Az.mk hl1
      have HLV1 := Az.mk hlv1
      have HG1 := Az.mk (bkB hg1 HB.out)
      have q1 : (0 ≤ (m : Int)) = True := eq_true (by omega)
      have q2 : ((m : Int) < (ps.length : Int)) = True := eq_true (by omega)
      have q3 : (m < ps.length) = True := eq_true hm
      clear hcl hvi hg1 hrow1 hl1 hlv1 hn0 hn1 hm hma hrd
      by_cases hz : l.length = 0
      · have hnil : l = [] := List.eq_nil_of_length_eq_zero hz
        have HE2 := Az.mk (show subT ps ⟨0, (m : Int), l⟩ = ⟨k1, n1, l1⟩ from by rw [HE.out, hnil, subL, List.append_nil])
        have b1 : (l.length : Int) = 0 := by omega
        have HBx := HB
        clear hnil HE
        go_wp2_with fail
        go_ret
        exact ⟨g1, rfl, by rw [HE2.out]; exact Cl_mono (fun q hq _ => .inl hq) (Cl_below HB.out HCL.out), HB.out⟩
      have b1 : ((l.length : Int) = 0) = False := eq_false (by omega)
      have b2 : (l.length = 0) = False := eq_false hz
      have b3 : ((l.length : Int) == 0) = false := beq_eq_false_iff_ne.2 (by omega)
      have b4 : (l.length == 0) = false := beq_eq_false_iff_ne.2 hz
      go_upto_region 14 with fail
      clear b1 b2 b3 b4 hx q1 q2 q3 hz e0 e1
      have HLen1 := Az.mk (show l1.length ≤ 1000000 from by have := tcntL_ge l1; have : tcnt ⟨k1, n1, l1⟩ = 1 + tcntL l1 := tcnt_f2 ⟨k1, n1, l1⟩; have := HTA.out; omega)
      have HBd := Az.mk (below_drew HB.out)
      have HC1 := Az.mk (show Kd.C (Kd.raw 1) wr.drew A1 l1.length (vs1.map (fun v => [v])) from by have := (CRow_C (CRow_below HBd.out HRow1.out)).2.2; rw [← HLV1.out] at this; exact this)
      have d0 : wr.cell? ⟨g1, 0, none⟩ = some (.int .i64 k1) := (blk_cell HG1.out 0).trans rfl
      have d1 : wr.cell? ⟨g1, 1, none⟩ = some (.int .i64 n1) := (blk_cell HG1.out 1).trans rfl
      have d2 : wr.cell? ⟨g1, 2, none⟩ = some (.slice A1 l1.length c1) := (blk_cell HG1.out 2).trans rfl
      try simp only [Act.put, List.setIfInBounds_toArray, List.set_cons_succ, List.set_cons_zero]
      go_cut [4] from 57 to 72 (fun v4 wc => ∃ g : Nat, v4 = .pointer (some ⟨g, 0, none⟩) ∧ Az (Cl wc (fun q => ok q ∨ w.heap.size ≤ q) ⟨k1, n1, l1 ++ subL ps l⟩ (.pointer (some ⟨g, 0, none⟩))) ∧ Az (Below w.heap.size w wc))
      case first =>
        go_region_law
          (first
            | (refine Kd.R_append_rows_step (Kd.raw 1) (Rr := (Kd.raw 1).K wr.drew) (w0 := w) w.heap.size rfl (.const (.slice none 0 0)) (.tmp 68) 103 107 (.pointer none) 8 rfl Try.underlying103 (by kernel_rfl) rfl (by decide) (by omega) (.slice none 0 0) [] (vs1.map (fun v => [v])) A1 l1.length c1 (fun q => w.heap.size ≤ q) (fun _ => False) rfl rfl (Kd.R_nil _ _ _ _ _) HC1.out (fun x cs h => h) (fun _ hk => hk.elim) (fun q hq => by have := HBd.out.size; omega) HBd.out HBd.out.size (by have := HLen1.out; simp only [List.length_nil]; omega) ?_
               intro v7 w7 hR7 hb7 hg7 hat7
               rw [List.nil_append] at hR7
               obtain ⟨A7, c7, e7⟩ := Kd.R_slice hR7
               rw [List.length_map, ← HLV1.out] at e7
               subst e7
               have HR7 := Az.mk hR7
               have HB7 := Az.mk hb7
               have HRx7 := Az.mk (Kd.R_grown (Kd.R_drew HRx.out) hg7 (fun q _ he => by simp [Value.ownBlock] at he))
               have HCx7 := Az.mk (show Kd.C (Kd.raw 1) w7 Ax l.length (us.map (fun v => [v])) from by have h := (Kd.R_reads' HRx7.out).2.2; rw [List.length_map, HU.out] at h; exact h)
               have HF7 := Az.mk (ClL_imp (w1 := w7) (ok1 := fun q => (ok q ∨ w.heap.size ≤ q) ∧ some q ≠ (Value.slice A7 l1.length c7).ownBlock) (fun q _ hq => hg7.block q hq (by simp [Value.ownBlock])) (fun q hq hlt => ⟨hq.1, fun he => by
                 rcases hat7 with e | ⟨b, e, hb⟩
                 · rw [e] at he; simp [Value.ownBlock] at he
                 · rw [e] at he; injection he with he; omega⟩) _ _ (ClL_below (below_drew (Below.refl _ _)) HF2.out))
               have HG7 := Az.mk (blk_grown (blk_drew HG1.out) hg7 (by simp [Value.ownBlock]))
               have x0 : w7.cell? ⟨g1, 0, none⟩ = some (.int .i64 k1) := (blk_cell HG7.out 0).trans rfl
               have x1 : w7.cell? ⟨g1, 1, none⟩ = some (.int .i64 n1) := (blk_cell HG7.out 1).trans rfl
               have x2 : w7.cell? ⟨g1, 2, none⟩ = some (.slice A1 l1.length c1) := (blk_cell HG7.out 2).trans rfl
               clear hR7 hb7 hg7 hat7)
            | (refine Kd.R_append_rows_step (Kd.raw 1) (Rr := (Kd.raw 1).K w7) (w0 := w) w.heap.size rfl (.tmp 69) (.tmp 70) 103 107 (.pointer none) 8 rfl Try.underlying103 (by kernel_rfl) rfl (by decide) (by omega) (.slice A7 l1.length c7) (vs1.map (fun v => [v])) (us.map (fun v => [v])) Ax l.length cx (fun q => w.heap.size ≤ q) (fun _ => False) rfl rfl HR7.out HCx7.out (fun x cs h => h) (fun _ hk => hk.elim) (fun q hq => by have := HB7.out.size; omega) HB7.out HB7.out.size (by rw [List.length_map, ← HLV1.out]; have := HLen1.out; have := HLen.out; omega) ?_
               intro v8 w8 hR8 hb8 hg8 hat8
               rw [← List.map_append] at hR8
               have HRow8 := Az.mk (show CRow w8 (fun q => ok q ∨ w.heap.size ≤ q) v8 (vs1 ++ us) from Kd.V_mono (CRow_of hR8) (fun q hq => .inr hq))
               obtain ⟨A8, c8, e8⟩ := Kd.R_slice hR8
               rw [List.length_map, List.length_append, ← HLV1.out, HU.out] at e8
               subst e8
               have HB8 := Az.mk hb8
               have HF8 := Az.mk (ClL_app _ _ _ _ (ClL_mono (ok1 := fun q => ok q ∨ w.heap.size ≤ q) (fun q hq _ => .inl hq) (ClL_below hb8 HL1.out)) (ClL_imp (w1 := w8) (ok1 := fun q => ok q ∨ w.heap.size ≤ q) (fun q hq hlt => hg8.block q hlt hq.2) (fun q hq _ => hq.1) _ _ HF7.out))
               have HG8 := Az.mk (blk_grown HG7.out hg8 (fun he => by have := Kd.R_base HR7.out g1 he.symm; have hc := HCL.out; unfold Cl at hc; obtain ⟨g', _, _, eg, hok, _⟩ := hc; injection eg with eg; injection eg with eg; injection eg with eg; subst eg; have := HLT.out g1 hok; omega))
               have y0 : w8.cell? ⟨g1, 0, none⟩ = some (.int .i64 k1) := (blk_cell HG8.out 0).trans rfl
               have y1 : w8.cell? ⟨g1, 1, none⟩ = some (.int .i64 n1) := (blk_cell HG8.out 1).trans rfl
               have y2 : w8.cell? ⟨g1, 2, none⟩ = some (.slice A1 l1.length c1) := (blk_cell HG8.out 2).trans rfl
               clear hR8 hb8 hg8 hat8)
            | (go_simp
               go_at_call 44
               (with_reducible refine (new_calls k1 n1 (l1 ++ subL ps l) (.slice A8 (l1.length + l.length) c8) (vs1 ++ us) w8 _ HRow8.out HF8.out).mono ?_)
               rintro e9 wA ⟨g, rfl, hg, hcell, hbA⟩
               have HCn := Az.mk (Cl_new HRow8.out HF8.out hbA hg hcell)
               have HBA := Az.mk (bst HB8.out hbA)
               clear hg hcell hbA))
        all_goals (go_wp2_with fail; go_meet; exact ⟨_, rfl, ⟨Cl_mono (fun q hq _ => by rcases hq with hq | hq; exact hq; exact .inr (Nat.le_trans HB8.out.size hq)) HCn.out⟩, HBA⟩)
      case rest =>
        obtain ⟨g, rfl, HCn, HBc⟩ := hcut
        clear d0 d1 d2
        go_wp2_with fail
        go_ret
        exact ⟨g, rfl, by rw [HE.out]; exact HCn.out, HBc.out⟩
end Go.Proofs.Ytkgknidogelffaa.I
namespace Go.Proofs.Ytkgknidogelffaa.I
open Go.RowKit Go.Proofs.YtkgknidogelffaaW.PrintWords Go.Proofs.YtkgknidogelffaaW.PrintLast Go.Proofs.YtkgknidogelffaaW.PrintMore
attribute [local go_sem] max2_int min2_int max_two min_two max_three min_three max_four min_four
set_option linter.unusedVariables false
set_option maxRecDepth 100000
theorem take84f {l : List S41} {i : Nat} (h : i < l.length) : (l.take (i + 1)).map (·.f2) = (l.take i).map (·.f2) ++ [(rd_T41 l (i : Int)).f2] := by
  have e2 : rd_T41 l (i : Int) = l[i] := by unfold rd_T41; rw [Int.toNat_natCast, List.getD_eq_getElem?_getD, List.getElem?_eq_getElem h]; rfl
  rw [List.take_add_one, List.getElem?_eq_getElem h, List.map_append, e2]; rfl
set_option maxHeartbeats 16000000 in
theorem cscheme_calls (A0 : Option Addr) (c0 n0 : Nat) (A1 : Option Addr) (c1 : Nat) (l1 : List S41) (w : World) (hr1 : Kd.C k41 w A1 l1.length l1) (h64 : l1.length ≤ 64) (hbg : ∀ x ∈ l1, tcntL x.f2.f2 ≤ 1000000) :
    Calls Try.prog 42 #[.agg #[.slice A0 n0 c0, .slice A1 l1.length c1]] w fun e w' => ∃ Ab cb Ap cp bs, e = .returned (.agg #[.slice Ab l1.length cb, .slice Ap l1.length cp]) ∧ CRow w' (fun q => w.heap.size ≤ q) (.slice Ab l1.length cb) bs ∧ ClL w' (fun q => w.heap.size ≤ q) (l1.map (·.f2)) bs ∧ Below w.heap.size w w' := by
  have hu25 := Try.underlying25
  have hu105 := Try.underlying105
  have hu41 := Try.underlying41
  have hu39 := Try.underlying39
  have hu36 := Try.underlying36
  have hlen1 : l1.length ≤ 9223372036854775807 := hr1.2.1
  have HR1 := Az.mk hr1
  have H64 := Az.mk h64
  have HBG := Az.mk hbg
  clear hr1 h64 hbg
  go_enter Try.func42, Try.ntmps42
  go_wp2_with (first
    | ((with_reducible refine gate_dst (N := 1) rfl ?_)
       refine box_event ?hg (N := 1) ?hd (cs := #[.slice A0 n0 c0, .slice A1 l1.length c1]) (t := 25) ?hr ?_
       (case hd => rfl)
       (case hg => rfl)
       (case hr => first | (go_simp; done) | (go_simp; rfl))
       intro g1 hg1 w1 hbox hb1
       have S11 := Az.mk hbox
       have HB1 := Az.mk hb1
       clear hbox hb1 hg1)
    | ((with_reducible refine gate_dst (N := 2) rfl ?_)
       refine box_event ?hg (N := 2) ?hd (cs := #[.slice none 0 0, .slice none 0 0]) (t := 105) ?hr ?_
       (case hd => rfl)
       (case hg => rfl)
       (case hr => first | (go_simp; done) | (go_simp; rfl))
       intro g2 hg2 w2 hbox hb2
       have S12 := Az.mk (bkB S11.out hb2)
       have S22 := Az.mk hbox
       have HB2 := Az.mk (bst HB1.out hb2)
       have HG2 := Az.mk (show w.heap.size ≤ g2 from by have := HB1.out.size; omega)
       clear hbox hb2 hg2 S11 HB1)
    | ((with_reducible refine gate_dst (N := 3) rfl ?_)
       refine box_event ?hg (N := 3) ?hd (cs := #[.slice none 0 0, .slice none 0 0]) (t := 105) ?hr ?_
       (case hd => rfl)
       (case hg => rfl)
       (case hr => first | (go_simp; done) | (go_simp; rfl))
       intro g3 hg3 w3 hbox hb3
       have S3 := Az.mk hbox
       have S2 := Az.mk (bkB S22.out hb3)
       have HB3 := Az.mk (bst HB2.out hb3)
       have HG3 := Az.mk (show w.heap.size ≤ g3 from by have := HB2.out.size; omega)
       have H23 := Az.mk (show g2 ≠ g3 from by have := blk_lt S22.out; omega)
       have e1 : w3.cell? ⟨g1, 1, none⟩ = some (.slice A1 l1.length c1) := (blk_cell (bkB S12.out hb3) 1).trans rfl
       clear hbox hb3 hg3 S12 S22 HB2))
  clear e1
  go_loopg [9] l1.length (fun kq v9 wr => ∃ (i : Nat) (Ab : Option Addr) (cb : Nat) (Ap : Option Addr) (cp : Nat) (bs : List Value) (is : List Int), v9 = .int .i64 (i : Int) ∧ Az (i + kq = l1.length) ∧ Az (bs.length = i ∧ is.length = i) ∧ Az ((Kd.raw 1).R 107 wr w.heap.size (fun q => w.heap.size ≤ q) (.slice Ab i cb) (bs.map (fun v => [v]))) ∧ Az (Kd.R (Kd.int .i64) 3 wr w.heap.size (fun _ => True) (.slice Ap i cp) is) ∧ Az (ClL wr (fun q => (w.heap.size ≤ q ∧ q ≠ g2 ∧ q ≠ g3 ∧ some q ≠ (Value.slice Ap i cp).ownBlock) ∧ some q ≠ (Value.slice Ab i cb).ownBlock) ((l1.take i).map (·.f2)) bs) ∧ Az (wr.heap[g3]? = some (.cells #[.slice Ab i cb, .slice Ap i cp] 105 (0, 0))) ∧ Az (wr.heap[g2]? = some (.cells #[.slice none 0 0, .slice none 0 0] 105 (0, 0))) ∧ Az (Below w.heap.size w wr))
  case atStart => exact ⟨0, none, 0, none, 0, [], [], rfl, ⟨by omega⟩, ⟨rfl, rfl⟩, ⟨Kd.R_nil _ _ _ _ _⟩, ⟨Kd.R_nil _ _ _ _ _⟩, ⟨ClL_nil⟩, S3, S2, HB3⟩
  case round =>
    clear S3 S2 HB3
    obtain ⟨i, Ab, cb, Ap, cp, bs, is, rfl, Hi, HU, HRb, HRp, HF, S3, S2, HB⟩ := hrel
    by_cases hlt : i < l1.length
    rotate_left
    · have hie : i = l1.length := by have := Hi.out; omega
      subst hie
      have d0 : wr.cell? ⟨g3, 0, none⟩ = some (.slice Ab l1.length cb) := (blk_cell S3.out 0).trans rfl
      have d1 : wr.cell? ⟨g3, 1, none⟩ = some (.slice Ap l1.length cp) := (blk_cell S3.out 1).trans rfl
      have z0 : wr.cell? ⟨g2, 0, none⟩ = some (.slice none 0 0) := (blk_cell S2.out 0).trans rfl
      have z1 : wr.cell? ⟨g2, 1, none⟩ = some (.slice none 0 0) := (blk_cell S2.out 1).trans rfl
      have f0 := bkF S2.out 0
      have f1 := bkF S2.out 1
      have hF := HF.out
      rw [List.take_length] at hF
      have HF2 := Az.mk hF
      clear hF HF Hi hlt
      go_wp2_with fail
      have Sz := blk_put (cs' := #[.slice Ab l1.length cb, .slice Ap l1.length cp]) (blk_put (cs' := #[.slice Ab l1.length cb, .slice none 0 0]) S2.out 0 (.slice Ab l1.length cb) rfl) 1 (.slice Ap l1.length cp) rfl
      refine bodyPost_ret (results_cell_row rfl _ _ g2 105 #[.slice Ab l1.length cb, .slice Ap l1.length cp] (0, 0) _ rfl Sz Try.underlying105 rfl (by kernel_rfl)) rfl ?_
      have S2' := blk_put (cs' := #[.slice Ab l1.length cb, .slice none 0 0]) S2.out 0 (.slice Ab l1.length cb) rfl
      have hR := Kd.R_set (Kd.R_set HRb.out S2.out (by decide) 0 (.slice Ab l1.length cb)) S2' (by decide) 1 (.slice Ap l1.length cp)
      exact ⟨Ab, cb, Ap, cp, bs, rfl, CRow_of hR, ClL_imp (fun q hq _ => (Below.heap_setCell _ ⟨g2, 1, none⟩ _ q hq.1.2.1).trans (Below.heap_setCell _ ⟨g2, 0, none⟩ _ q hq.1.2.1)) (fun q hq _ => hq.1.1) _ _ HF2.out, bset (bset HB.out HG2.out) HG2.out⟩
    cases gk with
    | zero => exact absurd Hi.out (by omega)
    | succ k1 =>
    obtain ⟨ad', A3, c3, A4, c4, he, hx0, hx1, hx2, hx3, hx4, hl3, hC3, hl4, hC4⟩ := at_T41 (Kd.C_below HR1.out HB.out) (i : Int) (by omega) (by omega)
    cases he
    rw [Int.toNat_natCast] at hx0 hx1 hx2 hx3 hx4
    have HC4 := Az.mk hC4
    have Hl4 := Az.mk hl4
    have HSN := Az.mk (take84f hlt)
    have HTC := Az.mk (HBG.out (rd_T41 l1 (i : Int)) (by unfold rd_T41; rw [Int.toNat_natCast, List.getD_eq_getElem?_getD, List.getElem?_eq_getElem hlt]; exact List.getElem_mem _))
    have Hlt := Az.mk hlt
    have q1 : (0 ≤ (i : Int)) = True := eq_true (by omega)
    have q2 : ((i : Int) < (l1.length : Int)) = True := eq_true (by omega)
    have q3 : (i < l1.length) = True := eq_true (by omega)
    clear hC3 hl4 hC4 hl3
    generalize rd_T41 l1 (i : Int) = x at *
    have HXX := Az.mk (show (⟨x.f2.f0, x.f2.f1, x.f2.f2⟩ : S36) = x.f2 from by cases x.f2; rfl)
    go_upto_region 5 with (
      (with_reducible refine gate_dst (N := 5) rfl ?_)
      refine box_event ?hg (N := 5) ?hd (cs := #[.string (⟨#[]⟩ : ByteArray), .slice none 0 0, .int .i64 0, .int .i64 0, .slice none 0 0]) (t := 41) ?hr ?_
      (case hd => rfl)
      (case hg => rfl)
      (case hr => first | (go_simp; done) | (go_simp; rfl))
      intro gi hgi w6 hbox hbb
      have hgw : wr.heap.size ≤ gi := by omega
      have Hbwgi := Az.mk (bset (g := gi) (j := 4) (v := .slice A4 x.f2.f2.length c4) (bset (g := gi) (j := 3) (v := .int .i64 x.f2.f1) (bset (g := gi) (j := 2) (v := .int .i64 x.f2.f0) (bset (g := gi) (j := 1) (v := .slice A3 x.f1.f0.length c3) (bset (g := gi) (j := 0) (v := .string x.f0) hbb hgw) hgw) hgw) hgw) hgw)
      have Sgi := Az.mk (blk_put (cs' := #[.string x.f0, .slice A3 x.f1.f0.length c3, .int .i64 x.f2.f0, .int .i64 x.f2.f1, .slice A4 x.f2.f2.length c4]) (blk_put (cs' := #[.string x.f0, .slice A3 x.f1.f0.length c3, .int .i64 x.f2.f0, .int .i64 x.f2.f1, .slice none 0 0]) (blk_put (cs' := #[.string x.f0, .slice A3 x.f1.f0.length c3, .int .i64 x.f2.f0, .int .i64 0, .slice none 0 0]) (blk_put (cs' := #[.string x.f0, .slice A3 x.f1.f0.length c3, .int .i64 0, .int .i64 0, .slice none 0 0]) (blk_put (cs' := #[.string x.f0, .slice none 0 0, .int .i64 0, .int .i64 0, .slice none 0 0]) hbox 0 (.string x.f0) rfl) 1 (.slice A3 x.f1.f0.length c3) rfl) 2 (.int .i64 x.f2.f0) rfl) 3 (.int .i64 x.f2.f1) rfl) 4 (.slice A4 x.f2.f2.length c4) rfl)
      have hczgi0 := (blk_cell hbox 0).trans rfl
      have hfzgi0 := bkF hbox 0
      have hczgi1 := (blk_cell hbox 1).trans rfl
      have hfzgi1 := bkF hbox 1
      have hczgi2 := (blk_cell hbox 2).trans rfl
      have hfzgi2 := bkF hbox 2
      have hczgi3 := (blk_cell hbox 3).trans rfl
      have hfzgi3 := bkF hbox 3
      have hczgi4 := (blk_cell hbox 4).trans rfl
      have hfzgi4 := bkF hbox 4
      clear hbox hbb hgi hgw)
    clear hczgi0 hfzgi0 hczgi1 hfzgi1 hczgi2 hfzgi2 hczgi3 hfzgi3 hczgi4 hfzgi4 hx0 hx1 hx2 hx3 hx4
    generalize (((((w6.setCell ⟨gi, 0, none⟩ (.string x.f0)).setCell ⟨gi, 1, none⟩ (.slice A3 x.f1.f0.length c3)).setCell ⟨gi, 2, none⟩ (.int .i64 x.f2.f0)).setCell ⟨gi, 3, none⟩ (.int .i64 x.f2.f1)).setCell ⟨gi, 4, none⟩ (.slice A4 x.f2.f2.length c4)) = wq at *
    have HBq := Az.mk (bst HB.out Hbwgi.out)
    have HRbq := Az.mk (Kd.R_below HRb.out Hbwgi.out)
    have HRpq := Az.mk (Kd.R_below HRp.out Hbwgi.out)
    have HFq := Az.mk (ClL_below Hbwgi.out HF.out)
    have S3q := Az.mk (bkB S3.out Hbwgi.out)
    have S2q := Az.mk (bkB S2.out Hbwgi.out)
    have HCq := Az.mk (Kd.C_below HC4.out Hbwgi.out)
    have n1 : wq.cell? ⟨gi, 1, none⟩ = some (.slice A3 x.f1.f0.length c3) := (blk_cell Sgi.out 1).trans rfl
    have n2 : wq.cell? ⟨gi, 2, none⟩ = some (.int .i64 x.f2.f0) := (blk_cell Sgi.out 2).trans rfl
    have n3 : wq.cell? ⟨gi, 3, none⟩ = some (.int .i64 x.f2.f1) := (blk_cell Sgi.out 3).trans rfl
    have n4 : wq.cell? ⟨gi, 4, none⟩ = some (.slice A4 x.f2.f2.length c4) := (blk_cell Sgi.out 4).trans rfl
    have m1 : wq.cell? ⟨g3, 0, none⟩ = some (.slice Ab i cb) := (blk_cell S3q.out 0).trans rfl
    clear HB HRb HRp HF S3 S2 HC4 Hbwgi
    go_region_law
      (first
        | (refine Kd.R_append_step (Kd.raw 1) (w0 := w) w.heap.size rfl (.tmp 14) (.tmp 18) 103 107 (.pointer none) 8 rfl Try.underlying103 (by kernel_rfl) rfl (by decide) (by omega) (.slice Ab i cb) (bs.map (fun v => [v])) [.pointer (some ⟨gv, 0, none⟩)] [.pointer (some ⟨gv, 0, none⟩)] (fun q => w.heap.size ≤ q) (fun _ => False) rfl rfl ⟨rfl, rfl, fun u hu => by rw [List.mem_singleton.1 hu]; rfl⟩ (fun _ hk => hk.elim) (fun q hq => by have := HBA.out.size; omega) HRbA.out HBA.out HBA.out.size (by rw [List.length_map, HU.out.1]; have := Hlt.out; have := H64.out; omega) ?_
           intro v2 w7 hrf hb7 hg7 hat
           have hsn : (bs.map (fun v => [v])) ++ [[Value.pointer (some ⟨gv, 0, none⟩)]] = (bs ++ [Value.pointer (some ⟨gv, 0, none⟩)]).map (fun v => [v]) := by rw [List.map_append]; rfl
           rw [hsn] at hrf
           obtain ⟨A5, c5, e5⟩ := Kd.R_slice hrf
           rw [List.length_map, List.length_append, HU.out.1] at e5
           replace e5 : v2 = .slice A5 (i + 1) c5 := e5
           subst e5
           have hf7 := ClL_after (ClL_snoc HFA.out HXA.out) hg7 hat
           rw [← HSN.out] at hf7
           have tf := Kd.R_typed HRbA.out
           have HF7 := Az.mk hf7
           have HRb7 := Az.mk hrf
           have HRp7 := Az.mk (Kd.R_over' HRpA.out tf (by decide) hg7)
           have HB7 := Az.mk hb7
           have S37 := Az.mk (grownT S3A.out hg7 (fun k hk => by obtain ⟨c, hc⟩ := tf k hk; exact ⟨107, c, by decide, hc⟩))
           have S27 := Az.mk (grownT S2A.out hg7 (fun k hk => by obtain ⟨c, hc⟩ := tf k hk; exact ⟨107, c, by decide, hc⟩))
           have Sgi7 := Az.mk (grownT SgiA.out hg7 (fun k hk => by obtain ⟨c, hc⟩ := tf k hk; exact ⟨107, c, by decide, hc⟩))
           have m7 : w7.cell? ⟨g3, 0, none⟩ = some (.slice Ab i cb) := (blk_cell S37.out 0).trans rfl
           have f7 := bkF S37.out 0
           clear hrf hb7 hg7 hat hsn hf7 tf a0 a1)
        | (go_simp
           go_at_call 59
           (with_reducible refine (cof_calls _ x.f2.f0 x.f2.f1 x.f2.f2 A4 c4 wq.drew (Nat.lt_succ_self _) HTC.out (Kd.C_below HCq.out (below_drew (Below.refl _ _))) Hl4.out).mono ?_)
           rintro e9 wA ⟨gv, rfl, hfv, hbA⟩
           rw [HXX.out] at hfv
           have hown := Kd.R_lt HRbq.out
           have hownp := Kd.R_lt HRpq.out
           have HXA := Az.mk (Cl_mono (ok1 := fun q => (w.heap.size ≤ q ∧ q ≠ g2 ∧ q ≠ g3 ∧ some q ≠ (Value.slice Ap i cp).ownBlock) ∧ some q ≠ (Value.slice Ab i cb).ownBlock) (fun q hq _ => by
             have h1 : wq.heap.size ≤ q := hq
             have h2 := HBq.out.size
             exact ⟨⟨by omega, by have := blk_lt S2q.out; omega, by have := blk_lt S3q.out; omega, fun he => by have := hownp q he.symm; omega⟩, fun he => by have := hown q he.symm; omega⟩) hfv)
           have HFA := Az.mk (ClL_below hbA (ClL_below (below_drew (Below.refl _ _)) HFq.out))
           have HRbA := Az.mk (Kd.R_below (Kd.R_drew HRbq.out) hbA)
           have HRpA := Az.mk (Kd.R_below (Kd.R_drew HRpq.out) hbA)
           have HBA := Az.mk (bst (below_drew HBq.out) hbA)
           have S3A := Az.mk (bkB (blk_drew S3q.out) hbA)
           have S2A := Az.mk (bkB (blk_drew S2q.out) hbA)
           have SgiA := Az.mk (bkB (blk_drew Sgi.out) hbA)
           have a0 : wA.cell? ⟨g3, 0, none⟩ = some (.slice Ab i cb) := (blk_cell S3A.out 0).trans rfl
           have a1 := cel1 a0
           clear hfv hbA hown hownp))
    all_goals (
      clear n1 n2 n3 n4 m1 m7 f7
      generalize hw8 : w7.setCell { block := g3, off := 0 } (.slice A5 (i + 1) c5) = w8 at *
      have HRb8 := Az.mk (show (Kd.raw 1).R 107 w8 w.heap.size (fun q => w.heap.size ≤ q) (.slice A5 (i + 1) c5) _ from by rw [← hw8]; exact Kd.R_set HRb7.out S37.out (by decide) 0 _)
      have HRp8 := Az.mk (show Kd.R (Kd.int .i64) 3 w8 w.heap.size (fun _ => True) (.slice Ap i cp) is from by rw [← hw8]; exact Kd.R_set HRp7.out S37.out (by decide) 0 _)
      have HF8 := Az.mk (ClL_imp (w1 := w8) (ok1 := fun q => (w.heap.size ≤ q ∧ q ≠ g2 ∧ q ≠ g3 ∧ some q ≠ (Value.slice A5 (i + 1) c5).ownBlock) ∧ some q ≠ (Value.slice Ap i cp).ownBlock) (fun q hq _ => by rw [← hw8]; exact Below.heap_setCell _ ⟨g3, 0, none⟩ _ q hq.1.2.2.1) (fun q hq _ => ⟨⟨hq.1.1, hq.1.2.1, hq.1.2.2.1, hq.2⟩, hq.1.2.2.2⟩) _ _ HF7.out)
      have S38 := Az.mk (show w8.heap[g3]? = some (.cells #[.slice A5 (i + 1) c5, .slice Ap i cp] 105 (0, 0)) from by rw [← hw8]; exact blk_put S37.out 0 _ rfl)
      have S28 := Az.mk (show w8.heap[g2]? = some (.cells #[.slice none 0 0, .slice none 0 0] 105 (0, 0)) from by rw [← hw8]; exact blk_far (p := ⟨g3, 0, none⟩) S27.out (fun he => H23.out he) _)
      have Sgi8 := Az.mk (show w8.heap[gi]? = some _ from by rw [← hw8]; exact blk_far (p := ⟨g3, 0, none⟩) Sgi7.out (fun he => blk_ne S37.out Sgi7.out (by decide) he.symm) _)
      have HB8 := Az.mk (show Below w.heap.size w w8 from by rw [← hw8]; exact bset HB7.out HG3.out)
      clear hw8 HRb7 HRp7 HF7 S37 S27 Sgi7 HB7
      have y0 : w8.cell? ⟨g3, 1, none⟩ = some (.slice Ap i cp) := (blk_cell S38.out 1).trans rfl
      have y1 : w8.cell? ⟨gi, 1, none⟩ = some (.slice A3 x.f1.f0.length c3) := (blk_cell Sgi8.out 1).trans rfl
      go_wp2_with (at_builtin; refine holdX ?_)
      unfold HoldX
      clear y0 y1
      refine Kd.R_append (Kd.int .i64) (w0 := w) w.heap.size rfl (.tmp 22) (.tmp 27) 26 3 (.int .i64 0) 8 rfl Try.underlying26 info3 rfl (by decide) (by omega) (.slice Ap i cp) is (x.f1.f0.length : Int) [.int .i64 (x.f1.f0.length : Int)] (fun _ => True) (fun _ => False) rfl rfl rfl (fun _ hk => hk.elim) (fun _ _ => trivial) HRp8.out HB8.out HB8.out.size (by rw [HU.out.2]; have := Hlt.out; have := H64.out; omega) ?_
      intro v3 w9 hrf hb9 hg9 hat9
      obtain ⟨A6, c6, e6⟩ := Kd.R_slice hrf
      rw [List.length_append, HU.out.2] at e6
      replace e6 : v3 = .slice A6 (i + 1) c6 := e6
      subst e6
      have tf := Kd.R_typed HRp8.out
      have hf9 := ClL_after HF8.out hg9 hat9
      have HF9 := Az.mk hf9
      have HRp9 := Az.mk hrf
      have HRb9 := Az.mk (Kd.R_over' HRb8.out tf (by decide) hg9)
      have HB9 := Az.mk hb9
      have S39 := Az.mk (grownT S38.out hg9 (fun k hk => by obtain ⟨c, hc⟩ := tf k hk; exact ⟨3, c, by decide, hc⟩))
      have S29 := Az.mk (grownT S28.out hg9 (fun k hk => by obtain ⟨c, hc⟩ := tf k hk; exact ⟨3, c, by decide, hc⟩))
      have m9 : w9.cell? ⟨g3, 1, none⟩ = some (.slice Ap i cp) := (blk_cell S39.out 1).trans rfl
      have f9 := bkF S39.out 1
      clear hrf hb9 hg9 hat9 tf hf9 HF8 HRp8 HRb8 HB8 S38 S28 Sgi8
      go_wp2_with fail
      clear m9 f9
      generalize hw10 : w9.setCell { block := g3, off := 1 } (.slice A6 (i + 1) c6) = w10 at *
      have HRb10 := Az.mk (show (Kd.raw 1).R 107 w10 w.heap.size (fun q => w.heap.size ≤ q) (.slice A5 (i + 1) c5) _ from by rw [← hw10]; exact Kd.R_set HRb9.out S39.out (by decide) 1 _)
      have HRp10 := Az.mk (show Kd.R (Kd.int .i64) 3 w10 w.heap.size (fun _ => True) (.slice A6 (i + 1) c6) _ from by rw [← hw10]; exact Kd.R_set HRp9.out S39.out (by decide) 1 _)
      have HF10 := Az.mk (ClL_imp (w1 := w10) (ok1 := fun q => (w.heap.size ≤ q ∧ q ≠ g2 ∧ q ≠ g3 ∧ some q ≠ (Value.slice A6 (i + 1) c6).ownBlock) ∧ some q ≠ (Value.slice A5 (i + 1) c5).ownBlock) (fun q hq _ => by rw [← hw10]; exact Below.heap_setCell _ ⟨g3, 1, none⟩ _ q hq.1.2.2.1) (fun q hq _ => ⟨⟨hq.1.1, hq.1.2.1, hq.1.2.2.1, hq.2⟩, hq.1.2.2.2⟩) _ _ HF9.out)
      have S310 := Az.mk (show w10.heap[g3]? = some (.cells #[.slice A5 (i + 1) c5, .slice A6 (i + 1) c6] 105 (0, 0)) from by rw [← hw10]; exact blk_put S39.out 1 _ rfl)
      have S210 := Az.mk (show w10.heap[g2]? = some (.cells #[.slice none 0 0, .slice none 0 0] 105 (0, 0)) from by rw [← hw10]; exact blk_far (p := ⟨g3, 1, none⟩) S29.out (fun he => H23.out he) _)
      have HB10 := Az.mk (show Below w.heap.size w w10 from by rw [← hw10]; exact bset HB9.out HG3.out)
      clear hw10
      go_roundg k1
      case measure => omega
      case rel => exact ⟨i + 1, A5, c5, A6, c6, _, _, by go_num, ⟨by have := Hi.out; omega⟩, ⟨by rw [List.length_append, HU.out.1]; rfl, by rw [List.length_append, HU.out.2]; rfl⟩, HRb10, HRp10, HF10, S310, S210, HB10⟩)
end Go.Proofs.Ytkgknidogelffaa.I
namespace Go.Proofs.Ytkgknidogelffaa.I
open Go.RowKit Go.Proofs.YtkgknidogelffaaW.PrintWords Go.Proofs.YtkgknidogelffaaW.PrintLast Go.Proofs.YtkgknidogelffaaW.PrintMore
attribute [local go_sem] max2_int min2_int max_two min_two max_three min_three max_four min_four
set_option linter.unusedVariables false
set_option maxRecDepth 100000
set_option linter.unusedSimpArgs false
def runT (l1 : List S41) : Nat → S36 → Int → S36 × Int × Int
  | 0, t, n => if t.f0 = 1 then (t, n, 8) else (t, n, 0)
  | k + 1, t, n => if t.f0 = 1 then (if 100000 < tcnt (nextT l1 t) then (nextT l1 t, n + 1, 3) else runT l1 k (nextT l1 t) (n + 1)) else (t, n, 0)
theorem csz_gt (x : S36) : (100000 < csz x) ↔ (100000 < tcnt x) := by unfold csz; omega
set_option maxHeartbeats 8000000 in
theorem crun_calls (l1 : List S41) (Inv : S36 → Prop) (hi1 : ∀ t, Inv t → Ready l1 t ∧ ∀ x ∈ t.f2, tcnt x ≤ 1000000) (hi2 : ∀ t, Inv t → t.f0 = 1 → tcnt (nextT l1 t) ≤ 100000 → Inv (nextT l1 t)) (Ab : Option Addr) (cb : Nat) (Ap : Option Addr) (np cp : Nat) (bs : List Value) (t : S36) (v : Value) (fuel : Nat) (hfu : fuel ≤ 1048576) (ok : Nat → Prop) (w : World) (hb : CRow w ok (.slice Ab l1.length cb) bs) (hbl : ClL w ok (l1.map (·.f2)) bs) (hv : Cl w ok t v) (hlt : ∀ q, ok q → q < w.heap.size) (hinv : Inv t) (hbg : ∀ x ∈ l1, tcnt x.f2 ≤ 1000000) :
    Calls Try.prog 43 #[.agg #[.slice Ab l1.length cb, .slice Ap np cp], v, .int .i64 (fuel : Int)] w fun e w' => ∃ g, e = .returned (.tuple #[.pointer (some ⟨g, 0, none⟩), .int .i64 (runT l1 fuel t 0).2.1, .int .i64 (runT l1 fuel t 0).2.2]) ∧ Cl w' (fun q => ok q ∨ w.heap.size ≤ q) (runT l1 fuel t 0).1 (.pointer (some ⟨g, 0, none⟩)) ∧ Below w.heap.size w w' := by
  have hu105 := Try.underlying105
  have hu112 := Try.underlying112
  have hlen1 : l1.length ≤ 9223372036854775807 := by have := (CRow_C hb).2.2.2.1; have := (CRow_C hb).1; omega
  have hvp : ∃ g0, v = .pointer (some ⟨g0, 0, none⟩) := by
    cases t with
    | mk a b l => unfold Cl at hv; obtain ⟨g, _, _, e, _⟩ := hv; exact ⟨g, e⟩
  obtain ⟨g0, rfl⟩ := hvp
  have HV := Az.mk hv
  have HBR := Az.mk hb
  have HBL := Az.mk hbl
  have HLT := Az.mk hlt
  have HBG := Az.mk hbg
  have HI1 := Az.mk hi1
  have HI2 := Az.mk hi2
  have HI := Az.mk hinv
  have HFu := Az.mk hfu
  obtain ⟨R, hR⟩ : ∃ R, R = runT l1 fuel t 0 := ⟨_, rfl⟩
  rw [← hR]
  have HRR := Az.mk hR.symm
  clear hb hbl hlt hbg hi1 hi2 hinv hv hR hfu
  go_enter Try.func43, Try.ntmps43
  go_wp2_with (
    (with_reducible refine gate_dst (N := 3) rfl ?_)
    refine box_event ?hg (N := 3) ?hd (cs := #[.slice Ab l1.length cb, .slice Ap np cp]) (t := 105) ?hr ?_
    (case hd => rfl)
    (case hg => rfl)
    (case hr => first | (go_simp; done) | (go_simp; rfl))
    intro g3 hg3 w3 hbox hb3
    have S3 := Az.mk hbox
    have HB3 := Az.mk hb3
    clear hbox hb3 hg3)
  go_loopg [1, 9] fuel (fun kq v1 v9 wr => ∃ (g : Nat) (n : Nat) (t : S36), v1 = .pointer (some ⟨g, 0, none⟩) ∧ v9 = .int .i64 (n : Int) ∧ Az (n + kq = fuel) ∧ Az (runT l1 kq t (n : Int) = R) ∧ Az (Inv t) ∧ Az (Cl wr (fun q => (ok q ∨ w.heap.size ≤ q) ∧ q < wr.heap.size) t (.pointer (some ⟨g, 0, none⟩))) ∧ Az (Below w3.heap.size w3 wr))
  case atStart => exact ⟨g0, 0, t, rfl, rfl, ⟨by omega⟩, HRR, HI, ⟨Cl_mono (fun q hq hl => ⟨.inl hq, hl⟩) (Cl_below HB3.out HV.out)⟩, ⟨Below.refl _ _⟩⟩
  case round =>
    clear HRR HI HV
    obtain ⟨g, n, t, rfl, rfl, Hn, HRR, HI, HV, HB0⟩ := hrel
    have HB := Az.mk (bst HB3.out HB0.out)
    obtain ⟨hrd, htg⟩ := HI1.out t HI.out
    have HRD := Az.mk hrd
    have HTG := Az.mk htg
    have HI3 := Az.mk (HI2.out t HI.out)
    clear hrd htg
    cases t with
    | mk k m l =>
    have hv := HV.out
    unfold Cl at hv
    obtain ⟨gc, av, vs, hge, _, hgc, hrow, hl⟩ := hv
    injection hge with hge
    injection hge with hge
    injection hge with hge
    subst hge
    obtain ⟨A, c, rfl⟩ := CRow_slice hrow
    have hlv := ClL_len l vs hl
    rw [← hlv] at hgc hrow
    have HG := Az.mk hgc
    have HRow := Az.mk hrow
    have HL := Az.mk hl
    clear hgc hrow hl hlv
    have e0 : wr.cell? ⟨g, 0, none⟩ = some (.int .i64 k) := (blk_cell HG.out 0).trans rfl
    by_cases hk : k = 1
    rotate_left
    · have b1 : (k != 1) = true := bne_iff_ne.2 hk
      have b2 : (k == 1) = false := beq_eq_false_iff_ne.2 hk
      have HE := Az.mk (show R = (⟨k, m, l⟩, (n : Int), 0) from by rw [← HRR.out]; cases gk <;> (unfold runT; rw [if_neg hk]))
      clear hk HRR
      go_wp2_with fail
      go_ret3
      refine ⟨g, by rw [HE.out]; rfl, ?_, HB.out⟩
      rw [HE.out]
      exact Cl_mono (fun q hq _ => hq.1) HV.out
    subst hk
    cases gk with
    | zero =>
      have hn : n = fuel := by have := Hn.out; omega
      subst hn
      have HE := Az.mk (show R = (⟨1, m, l⟩, (n : Int), 8) from by rw [← HRR.out]; unfold runT; rw [if_pos rfl])
      clear HRR
      go_wp2_with fail
      go_ret3
      refine ⟨g, by rw [HE.out]; rfl, ?_, HB.out⟩
      rw [HE.out]
      exact Cl_mono (fun q hq _ => hq.1) HV.out
    | succ k1 =>
    have hn : ¬ n = fuel := by have := Hn.out; omega
    have b1 : ((n : Int) = (fuel : Int)) = False := eq_false (by omega)
    have b2 : ((n : Int) == (fuel : Int)) = false := beq_eq_false_iff_ne.2 (by omega)
    have b3 : (n = fuel) = False := eq_false hn
    have b4 : (n == fuel) = false := beq_eq_false_iff_ne.2 hn
    obtain ⟨hn0, hn1, hok⟩ := HRD.out rfl
    obtain ⟨m, rfl⟩ : ∃ j : Nat, m = (j : Int) := ⟨m.toNat, by have : 0 ≤ m := hn0; omega⟩
    have hm : m < l1.length := by have : ((m : Nat) : Int) < (l1.length : Int) := hn1; omega
    have hrdm : rd_T41 l1 (m : Int) = l1[m] := by unfold rd_T41; rw [Int.toNat_natCast, List.getD_eq_getElem?_getD, List.getElem?_eq_getElem hm]; rfl
    have hbn := (CRow_C HBR.out).1
    obtain ⟨ad, he, hx⟩ := CRow_at (CRow_below HB.out HBR.out) (show m < bs.length by omega)
    cases he
    have hcl := ClL_at _ bs HBL.out m (by rw [List.length_map]; exact hm) (by omega)
    rw [List.getElem_map] at hcl
    have hne : nextT l1 ⟨1, (m : Int), l⟩ = subT l l1[m].f2 := by unfold nextT; rw [if_pos rfl]; show subT l (rd_T41 l1 (m : Int)).f2 = _; rw [hrdm]
    have HOK := Az.mk (show okT (l.length : Int) l1[m].f2 = true from by have : okT (l.length : Int) (rd_T41 l1 (m : Int)).f2 = true := hok; rw [hrdm] at this; exact this)
    have HBM := Az.mk (HBG.out l1[m] (List.getElem_mem hm))
    have HI4 := Az.mk (show tcnt (subT l l1[m].f2) ≤ 100000 → Inv (subT l l1[m].f2) from by have := HI3.out rfl; rw [hne] at this; exact this)
    have HR4 := Az.mk (show R = if 100000 < tcnt (subT l l1[m].f2) then (subT l l1[m].f2, (n : Int) + 1, 3) else runT l1 k1 (subT l l1[m].f2) ((n : Int) + 1) from by rw [← HRR.out, ← hne]; rw [runT, if_pos rfl])
    have HLTr := Az.mk (fun q (h : (ok q ∨ w.heap.size ≤ q) ∧ q < wr.heap.size) => (show q < wr.drew.heap.size from h.2))
    generalize l1[m].f2 = b at *
    have hcl2 := hcl
    cases b with
    | mk kb nb lb =>
    unfold Cl at hcl2
    obtain ⟨g1, _, _, hvi, _, _, _, _⟩ := hcl2
    rw [hvi] at hx hcl
    have HCL := Az.mk (Cl_mono (ok1 := fun q => (ok q ∨ w.heap.size ≤ q) ∧ q < wr.heap.size) (fun q hq hl => ⟨.inl hq, hl⟩) (Cl_below HB.out (Cl_mono (fun q hq _ => hq) hcl)))
    have e1 : wr.cell? ⟨g, 1, none⟩ = some (.int .i64 (m : Int)) := (blk_cell HG.out 1).trans rfl
    have e2 : wr.cell? ⟨g, 2, none⟩ = some (.slice A l.length c) := (blk_cell HG.out 2).trans rfl
    have s0 : wr.cell? ⟨g3, 0, none⟩ = some (.slice (some ad) l1.length cb) := (blk_cell (bkB S3.out HB0.out) 0).trans rfl
    have q1 : (0 ≤ (m : Int)) = True := eq_true (by omega)
    have q2 : ((m : Int) < (l1.length : Int)) = True := eq_true (by omega)
    have q3 : (m < l1.length) = True := eq_true hm
    clear hcl hvi hn0 hn1 hok hrdm hbn hm hne hn HRR HI3
    go_upto_region 7 with fail
    clear e0 b1 b2 b3 b4
    try simp only [Act.put, List.setIfInBounds_toArray, List.set_cons_succ, List.set_cons_zero]
    go_cut [1] from 24 to 1 (fun v1 wc => ∃ g : Nat, v1 = .pointer (some ⟨g, 0, none⟩) ∧ Az (Cl wc (fun q => (ok q ∨ w.heap.size ≤ q) ∧ q < wc.heap.size) (subT l ⟨kb, nb, lb⟩) (.pointer (some ⟨g, 0, none⟩))) ∧ Az (Below wr.heap.size wr wc))
    case first =>
      go_region_held3 (fun w' => w'.cell? ⟨g, 1, none⟩ = some (.int .i64 (m : Int)) ∧ w'.cell? ⟨g, 2, none⟩ = some (.slice A l.length c) ∧ w'.cell? ⟨g3, 0, none⟩ = some (.slice (some ad) l1.length cb) ∧ w'.cell? (ad.add m) = some (.pointer (some ⟨g1, 0, none⟩))) (go_keep)
        (first
          | (go_at_call 60
             (with_reducible refine (csub_calls _ ⟨kb, nb, lb⟩ (.pointer (some ⟨g1, 0, none⟩)) l (.slice A l.length c) vs (fun q => (ok q ∨ w.heap.size ≤ q) ∧ q < wr.heap.size) wr.drew (Nat.lt_succ_self _) HOK.out HBM.out HTG.out HLTr.out (Cl_below (below_drew (Below.refl _ _)) HCL.out) (CRow_below (below_drew (Below.refl _ _)) HRow.out) (ClL_below (below_drew (Below.refl _ _)) HL.out)).mono ?_)
             rintro e9 wA ⟨g5, rfl, hcn, hbA⟩
             have HCn := Az.mk hcn
             have HBA := Az.mk (bst (below_drew (Below.refl _ _)) hbA)
             have z1 := cell_up hbA (show wr.drew.cell? _ = _ from e1)
             have z2 := cell_up hbA (show wr.drew.cell? _ = _ from e2)
             have z3 := cell_up hbA (show wr.drew.cell? _ = _ from s0)
             have z4 := cell_up hbA (show wr.drew.cell? _ = _ from hx)
             have HSz := Az.mk (show w.heap.size ≤ wr.drew.heap.size from HB.out.size)
             clear hcn hbA))
      all_goals (go_wp2_with fail; go_meet; exact ⟨_, rfl, ⟨Cl_mono (fun q hq hl => by rcases hq with hq | hq; exact ⟨hq.1, hl⟩; exact ⟨.inr (Nat.le_trans HSz.out hq), hl⟩) HCn.out⟩, HBA⟩)
    case rest =>
      obtain ⟨g5, rfl, HCn, HBc⟩ := hcut
      clear e1 e2 hx s0 q1 q2 q3 HCL HTG HG HRow HL HOK HBM
      generalize subT l ⟨kb, nb, lb⟩ = y at *
      have HB9 := Az.mk (bst HB.out HBc.out)
      have HB09 := Az.mk (bst HB0.out HBc.out)
      have hcn := HCn.out
      have hcz := csz_gt y
      cases y with
      | mk ky ny ly =>
      unfold Cl at hcn
      obtain ⟨g6, a6, _, hge, _, hgy, _, _⟩ := hcn
      injection hge with hge
      injection hge with hge
      injection hge with hge
      subst hge
      have e3 : wc.cell? ⟨g5, 3, none⟩ = some (.int .i64 (csz ⟨ky, ny, ly⟩)) := (blk_cell hgy 3).trans rfl
      generalize csz ⟨ky, ny, ly⟩ = cz at *
      clear hgy
      have hk2 := Hn.out
      by_cases hbig : 100000 < cz
      · have HE := Az.mk (show R = (⟨ky, ny, ly⟩, (n : Int) + 1, 3) from by rw [HR4.out, if_pos (hcz.1 hbig)])
        have p1 : (100000 < cz) = True := eq_true hbig
        have hfu2 := HFu.out
        clear hbig hcz
        go_wp2_with fail
        go_ret3
        refine ⟨g5, by rw [HE.out]; rfl, ?_, HB9.out⟩
        rw [HE.out]
        exact Cl_mono (fun q hq _ => hq.1) HCn.out
      · have HE := Az.mk (show runT l1 k1 ⟨ky, ny, ly⟩ ((n : Int) + 1) = R from by rw [HR4.out, if_neg (fun h => hbig (hcz.2 h))])
        have HI5 := Az.mk (HI4.out (by have : ¬ 100000 < tcnt ⟨ky, ny, ly⟩ := fun h => hbig (hcz.2 h); omega))
        have p1 : (100000 < cz) = False := eq_false hbig
        have hfu2 := HFu.out
        clear hbig hcz
        go_wp2_with fail
        go_roundg k1
        case measure => omega
        case rel => exact ⟨g5, n + 1, ⟨ky, ny, ly⟩, rfl, by go_num, ⟨by omega⟩, HE, HI5, HCn, HB09⟩
end Go.Proofs.Ytkgknidogelffaa.I
namespace Go.Proofs.Ytkgknidogelffaa.I
open Go.RowKit Go.Proofs.YtkgknidogelffaaW.PrintWords Go.Proofs.YtkgknidogelffaaW.PrintLast Go.Proofs.YtkgknidogelffaaW.PrintMore
attribute [local go_sem] max2_int min2_int max_two min_two max_three min_three max_four min_four
set_option linter.unusedVariables false
set_option maxRecDepth 100000
set_option linter.unusedSimpArgs false
def atG (l1 : List S41) (F : Nat) : List Int → S36 → Int → Int × Int
  | [], t, e => if e ≠ 0 then (0, e) else (t.f1, 0)
  | i :: is, t, e => if e ≠ 0 then (0, e) else if i < 0 ∨ (t.f2.length : Int) ≤ i then (0, 5) else atG l1 F is (runT l1 F (rd_T36 t.f2 i) 0).1 (runT l1 F (rd_T36 t.f2 i) 0).2.2
def Cls (l0 : List S84) (l1 : List S41) (x : S36) : Prop := closedB l0 l1 x = true ∧ tcnt x ≤ 100000
theorem tcnt_mem' {x : S36} : ∀ {l : List S36}, x ∈ l → tcnt x ≤ tcntL l
  | y :: ys, h => by
    have h1 := tcnt_ge y
    have h2 := tcntL_ge ys
    rw [tcntL]
    rcases List.mem_cons.1 h with e | h
    · subst e; omega
    · have := tcnt_mem' h; omega
theorem runT_post {l0 : List S84} {l1 : List S41} (hs : schB l0 l1 = true) : ∀ (k : Nat) (t : S36) (n : Int), Cls l0 l1 t → (runT l1 k t n).2.2 = 0 → Cls l0 l1 (runT l1 k t n).1 ∧ (runT l1 k t n).1.f0 ≠ 1
  | 0, t, n, h, he => by
    rw [runT] at he ⊢
    by_cases h1 : t.f0 = 1
    · rw [if_pos h1] at he; cases he
    · rw [if_neg h1]; exact ⟨h, h1⟩
  | k + 1, t, n, h, he => by
    rw [runT] at he ⊢
    by_cases h1 : t.f0 = 1
    · rw [if_pos h1] at he ⊢
      by_cases h2 : 100000 < tcnt (nextT l1 t)
      · rw [if_pos h2] at he; cases he
      · rw [if_neg h2] at he ⊢
        exact runT_post hs k _ _ ⟨closed_next hs h.1, by omega⟩ he
    · rw [if_neg h1]; exact ⟨h, h1⟩
theorem cls_kid {l0 : List S84} {l1 : List S41} {t : S36} (h : Cls l0 l1 t) (h1 : t.f0 ≠ 1) {i : Int} (h0 : 0 ≤ i) (hi : i < (t.f2.length : Int)) : Cls l0 l1 (rd_T36 t.f2 i) := by
  have hm : rd_T36 t.f2 i ∈ t.f2 := by
    unfold rd_T36
    rw [List.getD_eq_getElem?_getD, List.getElem?_eq_getElem (by omega)]
    exact List.getElem_mem _
  obtain ⟨k, n, l⟩ := t
  have h3 := tcnt_mem' hm
  have h4 := tcnt_f2 (⟨k, n, l⟩ : S36)
  have h5 := h.2
  exact ⟨(closed_sym h.1 h1).2.2.2.2 _ hm, by omega⟩
theorem crun_at {l0 : List S84} {l1 : List S41} (hs : schB l0 l1 = true) (Ab : Option Addr) (cb : Nat) (Ap : Option Addr) (np cp : Nat) (bs : List Value) (t : S36) (v : Value) (fuel : Nat) (hfu : fuel ≤ 1048576) (w : World) (hb : CRow w (fun q => q < w.heap.size) (.slice Ab l1.length cb) bs) (hbl : ClL w (fun q => q < w.heap.size) (l1.map (·.f2)) bs) (hv : Cl w (fun q => q < w.heap.size) t v) (hinv : Cls l0 l1 t) :
    Calls Try.prog 43 #[.agg #[.slice Ab l1.length cb, .slice Ap np cp], v, .int .i64 (fuel : Int)] w fun e w' => ∃ g, e = .returned (.tuple #[.pointer (some ⟨g, 0, none⟩), .int .i64 (runT l1 fuel t 0).2.1, .int .i64 (runT l1 fuel t 0).2.2]) ∧ Cl w' (fun q => q < w'.heap.size) (runT l1 fuel t 0).1 (.pointer (some ⟨g, 0, none⟩)) ∧ Below w.heap.size w w' := by
  refine (crun_calls l1 (Cls l0 l1) (fun x hx => ⟨ready_of hs hx.1, fun y hy => by have := tcnt_mem' hy; have := tcnt_f2 x; have := hx.2; omega⟩) (fun x hx _ h2 => ⟨closed_next hs hx.1, h2⟩) Ab cb Ap np cp bs t v fuel hfu _ w hb hbl hv (fun q h => h) hinv (fun x hx => by have := (sch_bodies hs).2 x hx; omega)).mono ?_
  rintro e w' ⟨g, rfl, hc, hbw⟩
  exact ⟨g, rfl, Cl_mono (fun q _ h => h) hc, hbw⟩
theorem cls0 {l0 : List S84} {l1 : List S41} (hs : schB l0 l1 = true) : Cls l0 l1 ⟨1, 0, []⟩ := by
  have h := (snd0 hs).d
  have e : denS (.mk ⟨1, 0, []⟩ []) [] = ⟨1, 0, []⟩ := by rw [denS_nil, den, subT, if_neg (by decide), subL]
  rw [e] at h
  exact ⟨h, by rw [tcnt, tcntL]; decide⟩
set_option maxHeartbeats 16000000 in
theorem at_calls (A0 : Option Addr) (c0 : Nat) (l0 : List S84) (A1 : Option Addr) (c1 : Nat) (l1 : List S41) (A2 : Option Addr) (c2 : Nat) (l2 : List Int) (fuel : Nat) (hfu : fuel ≤ 1048576) (hln : l2.length ≤ 200) (w : World) (hr0 : Kd.C k84 w A0 l0.length l0) (hc0 : l0.length ≤ c0) (hr1 : Kd.C k41 w A1 l1.length l1) (hc1 : l1.length ≤ c1) (hr2 : Kd.C (Kd.int .i64) w A2 l2.length l2) (hs : schB l0 l1 = true) (a e : Int)
    (hat : atG l1 fuel l2 (runT l1 fuel ⟨1, 0, []⟩ 0).1 (runT l1 fuel ⟨1, 0, []⟩ 0).2.2 = (a, e)) :
    Calls Try.prog 20 #[.agg #[.slice A0 l0.length c0, .slice A1 l1.length c1], .slice A2 l2.length c2, .int .i64 (fuel : Int)] w fun x w' => x = .returned (.tuple #[.int .i64 a, .int .i64 e]) ∧ Below w.heap.size w w' := by
  have hu25 := Try.underlying25
  have hu105 := Try.underlying105
  have hu112 := Try.underlying112
  have hu103 := Try.underlying103
  have g1 : ((fuel : Int) < 0) = False := eq_false (by omega)
  have g2 : ((1048576 : Int) < (fuel : Int)) = False := eq_false (by omega)
  have g3 : ((200 : Int) < (l2.length : Int)) = False := eq_false (by omega)
  have hl200 : (l2.length : Int) ≤ 200 := by omega
  have HR0 := Az.mk hr0
  have HR1 := Az.mk hr1
  have HR2 := Az.mk hr2
  have HC := Az.mk (And.intro hc0 hc1)
  have HS := Az.mk hs
  have HF := Az.mk hfu
  have HAT := Az.mk hat
  have H64 := Az.mk (sch_parts hs).2.2
  clear hr0 hr1 hr2 hc0 hc1 hs hfu hat hln
  go_enter Try.func20, Try.ntmps20
  go_wp2_with (
      ((with_reducible refine gate_dst (N := 3) rfl ?_)
       refine box_event ?hg (N := 3) ?hd (cs := #[.slice A0 l0.length c0, .slice A1 l1.length c1]) (t := 25) ?hr ?_
       (case hd => rfl)
       (case hg => rfl)
       (case hr => first | (go_simp; done) | (go_simp; rfl))
       intro g3' hg3 w1 hbox hb1
       have S3 := Az.mk hbox
       have HB1 := Az.mk hb1
       have e0 : w1.cell? ⟨g3', 0, none⟩ = some (.slice A0 l0.length c0) := (blk_cell hbox 0).trans rfl
       have e1 : w1.cell? ⟨g3', 1, none⟩ = some (.slice A1 l1.length c1) := (blk_cell hbox 1).trans rfl
       clear hbox hb1 hg3))
  (with_reducible refine (schk_calls A0 c0 l0 A1 c1 l1 w1 (Kd.C_below HR0.out HB1.out) HC.out.1 (Kd.C_below HR1.out HB1.out) HC.out.2).mono ?_)
  rintro x w2 ⟨rfl, hb2⟩
  rw [if_pos HS.out]
  have HB2 := Az.mk (bst HB1.out hb2)
  have S32 := Az.mk (bkB S3.out hb2)
  have f0 : w2.cell? ⟨g3', 0, none⟩ = some (.slice A0 l0.length c0) := (blk_cell S32.out 0).trans rfl
  have f1 : w2.cell? ⟨g3', 1, none⟩ = some (.slice A1 l1.length c1) := (blk_cell S32.out 1).trans rfl
  clear hb2 e0 e1 S3 HB1
  go_wp2_with fail
  (with_reducible refine (cscheme_calls A0 c0 l0.length A1 c1 l1 w2 (Kd.C_below HR1.out HB2.out) H64.out (fun x hx => by have := (sch_bodies HS.out).2 x hx; have := tcnt_f2 x.f2; omega)).mono ?_)
  rintro x w3 ⟨Ab, cb, Ap, cp, bs, rfl, hrow, hcl, hb3⟩
  have HRow := Az.mk (show CRow w3 (fun q => q < w3.heap.size) (.slice Ab l1.length cb) bs from Kd.V_mono (Kd.V_bound hrow) (fun q h => h.2))
  have HCl := Az.mk (ClL_mono (ok1 := fun q => q < w3.heap.size) (fun q _ h => h) hcl)
  have HB3 := Az.mk (bst HB2.out hb3)
  clear hb3 hrow hcl f0 f1 S32 HB2
  go_upto_region 7 with (
      ((with_reducible refine gate_dst (N := 9) rfl ?_)
       refine box_event ?hg (N := 9) ?hd (cs := #[.slice none 0 0, .slice none 0 0]) (t := 105) ?hr ?_
       (case hd => rfl)
       (case hg => rfl)
       (case hr => first | (go_simp; done) | (go_simp; rfl))
       intro g9 hg9 w4 hbox hbb
       have hgw : w3.heap.size ≤ g9 := by omega
       have Hbw := Az.mk (bset (g := g9) (j := 1) (v := .slice Ap l1.length cp) (bset (g := g9) (j := 0) (v := .slice Ab l1.length cb) hbb hgw) hgw)
       have S9 := Az.mk (blk_put (cs' := #[.slice Ab l1.length cb, .slice Ap l1.length cp]) (blk_put (cs' := #[.slice Ab l1.length cb, .slice none 0 0]) hbox 0 (.slice Ab l1.length cb) rfl) 1 (.slice Ap l1.length cp) rfl)
       have hcz0 := (blk_cell hbox 0).trans rfl
       have hcz1 := (blk_cell hbox 1).trans rfl
       have hfz0 := bkF hbox 0
       have hfz1 := bkF hbox 1
       clear hbox hbb hg9 hgw))
  clear hcz0 hcz1 hfz0 hfz1
  generalize ((w4.setCell ⟨g9, 0, none⟩ (.slice Ab l1.length cb)).setCell ⟨g9, 1, none⟩ (.slice Ap l1.length cp)) = w5 at *
  have HB5 := Az.mk (bst HB3.out Hbw.out)
  have HRow5 := Az.mk (show CRow w5 (fun q => q < w3.heap.size) (.slice Ab l1.length cb) bs from CRow_below Hbw.out HRow.out)
  have HCl5 := Az.mk (ClL_below Hbw.out HCl.out)
  have HSZ := Az.mk Hbw.out.size
  have s0 : w5.cell? ⟨g9, 0, none⟩ = some (.slice Ab l1.length cb) := (blk_cell S9.out 0).trans rfl
  have s1 : w5.cell? ⟨g9, 1, none⟩ = some (.slice Ap l1.length cp) := (blk_cell S9.out 1).trans rfl
  have HNEW := Az.mk (fun (W : World) => new_calls 1 0 [] (.slice none 0 0) [] W (fun _ => True) (show CRow W (fun _ => True) (.slice none 0 0) [] from Kd.V_nil (Kd.raw 1) 107 W 0 (fun _ => True)) ClL_nil)
  have HRUN := Az.mk (fun (W : World) (v : Value) (t : S36) (hb : Below w5.heap.size w5 W) (hv : Cl W (fun q => q < W.heap.size) t v) (ht : Cls l0 l1 t) => crun_at HS.out Ab cb Ap l1.length cp bs t v fuel HF.out W
    (Kd.V_mono (CRow_below hb HRow5.out) (fun q h => by have := HSZ.out; have := hb.size; omega)) (ClL_mono (ok1 := fun q => q < W.heap.size) (fun q h _ => by have := HSZ.out; have := hb.size; show q < W.heap.size; omega) (ClL_below hb HCl5.out)) hv ht)
  clear HRow HCl HB3 Hbw
  go_region_held3 (fun w' => w'.cell? ⟨g9, 0, none⟩ = some (.slice Ab l1.length cb) ∧ w'.cell? ⟨g9, 1, none⟩ = some (.slice Ap l1.length cp)) (go_keep)
    (first
      | (go_at_call 44
         (with_reducible refine (HNEW.out w5.drew).mono ?_)
         rintro x wA ⟨gn, rfl, hgn, hcn, hbA⟩
         have HbA := Az.mk (bst (below_drew (Below.refl w5.heap.size w5)) hbA)
         have HCn := Az.mk (show Cl wA (fun q => q < wA.heap.size) ⟨1, 0, []⟩ (.pointer (some ⟨gn, 0, none⟩)) from by
           unfold Cl
           exact ⟨gn, .slice none 0 0, [], rfl, blk_lt hcn, hcn, Kd.V_nil _ _ _ _ _, ClL_nil⟩)
         have t0 : wA.cell? ⟨g9, 0, none⟩ = some (.slice Ab l1.length cb) := (blk_cell (bkB S9.out HbA.out) 0).trans rfl
         have t1 : wA.cell? ⟨g9, 1, none⟩ = some (.slice Ap l1.length cp) := (blk_cell (bkB S9.out HbA.out) 1).trans rfl
         clear hgn hcn hbA)
      | (go_at_call 43
         (with_reducible refine (HRUN.out wA (.pointer (some ⟨gn, 0, none⟩)) ⟨1, 0, []⟩ HbA.out HCn.out (cls0 HS.out)).mono ?_)
         rintro x wB ⟨g, rfl, hcg, hbB⟩
         have HCg := Az.mk hcg
         have HbB := Az.mk (bst HbA.out hbB)
         have t2 : wB.cell? ⟨g9, 0, none⟩ = some (.slice Ab l1.length cb) := (blk_cell (bkB S9.out HbB.out) 0).trans rfl
         have t3 : wB.cell? ⟨g9, 1, none⟩ = some (.slice Ap l1.length cp) := (blk_cell (bkB S9.out HbB.out) 1).trans rfl
         clear hcg hbB))
  have hpost := fun h => runT_post HS.out fuel ⟨1, 0, []⟩ 0 (cls0 HS.out) h
  have hat := HAT.out
  generalize runT l1 fuel ⟨1, 0, []⟩ 0 = r0 at *
  obtain ⟨tt, nn, ee⟩ := r0
  have HPO := Az.mk (show ee = 0 → Cls l0 l1 tt ∧ tt.f0 ≠ 1 from hpost)
  have HA0 := Az.mk (show atG l1 fuel l2 tt ee = (a, e) from hat)
  have HC0 := Az.mk (show Cl wB (fun q => q < wB.heap.size) tt (.pointer (some ⟨g, 0, none⟩)) from HCg.out)
  have hl2 : l2.length ≤ 9223372036854775807 := HR2.out.2.1
  clear hpost hat t0 t1 t2 t3 s0 s1 HAT HCn HCg HbA HNEW
  go_wp2_with fail
  go_loopg [10, 12, 43] l2.length (fun kq v10 v12 v43 wr => ∃ (j : Nat) (g : Nat) (t : S36) (er : Int), v10 = .pointer (some ⟨g, 0, none⟩) ∧ v12 = .int .i64 er ∧ v43 = .int .i64 (j : Int) ∧ Az (j + kq = l2.length) ∧ Az (er = 0 → Cls l0 l1 t ∧ t.f0 ≠ 1) ∧ Az (atG l1 fuel (l2.drop j) t er = (a, e)) ∧ Az (Cl wr (fun q => q < wr.heap.size) t (.pointer (some ⟨g, 0, none⟩))) ∧ Az (Below w5.heap.size w5 wr))
  case atStart => exact ⟨0, g, _, ee, rfl, rfl, rfl, ⟨by omega⟩, HPO, HA0, HC0, HbB⟩
  case round =>
    clear HPO HA0 HC0 HbB
    obtain ⟨j, g, t, er, rfl, rfl, rfl, Hj, HPO, HA, HCt, HB⟩ := hrel
    have hat := HA.out
    have HBw := Az.mk (bst HB5.out HB.out)
    by_cases he : er = 0
    rotate_left
    · have q1 := bneT he
      have q2 := beqF he
      have hae : a = 0 ∧ e = er := by
        cases hd : l2.drop j with
        | nil => rw [hd, atG, if_pos he] at hat; injection hat with h1 h2; exact ⟨h1.symm, h2.symm⟩
        | cons x xs => rw [hd, atG, if_pos he] at hat; injection hat with h1 h2; exact ⟨h1.symm, h2.symm⟩
      obtain ⟨ha, hee⟩ := hae
      subst ha hee
      by_cases hj : j < l2.length
      · obtain ⟨ad, ead, hx⟩ := Kd.at_int HR2.out (j : Int) (by omega) (by omega)
        cases ead
        replace hx := cell_up HBw.out hx
        rw [Int.toNat_natCast] at hx
        have p1 : (0 ≤ (j : Int)) = True := eq_true (by omega)
        have p2 : ((j : Int) < (l2.length : Int)) = True := eq_true (by omega)
        have p3 : (j < l2.length) = True := eq_true hj
        clear hat hj he
        go_wp2_with fail
        refine bodyPost_ret (results_tmp2 rfl _ _ _) rfl ?_
        exact ⟨rfl, HBw.out⟩
      · have p2 : ((j : Int) < (l2.length : Int)) = False := eq_false (by omega)
        clear hat hj he
        go_wp2_with fail
        refine bodyPost_ret (results_tmp2 rfl _ _ _) rfl ?_
        exact ⟨rfl, HBw.out⟩
    subst he
    obtain ⟨hcls, hne⟩ := HPO.out rfl
    have HCLS := Az.mk hcls
    have HNE := Az.mk hne
    have hct := HCt.out
    obtain ⟨k, n, l⟩ := t
    unfold Cl at hct
    obtain ⟨gc, aa, vs, egc, _, hcc, hrow, hcll⟩ := hct
    injection egc with egc
    injection egc with egc
    injection egc with egc _ _
    subst egc
    obtain ⟨Aa, ca, rfl⟩ := CRow_slice hrow
    have hvl := ClL_len _ _ hcll
    have c1 : wr.cell? ⟨g, 1, none⟩ = some (.int .i64 n) := (blk_cell hcc 1).trans rfl
    have c2 : wr.cell? ⟨g, 2, none⟩ = some (.slice Aa vs.length ca) := (blk_cell hcc 2).trans rfl
    cases gk with
    | zero =>
      have hj : j = l2.length := by have := Hj.out; omega
      subst hj
      rw [List.drop_length, atG, if_neg (by decide)] at hat
      injection hat with h1 h2
      subst h1 h2
      clear hcc hrow hcll
      go_wp2_with fail
      refine bodyPost_ret (results_tmp2 rfl _ _ _) rfl ?_
      exact ⟨rfl, HBw.out⟩
    | succ k1 =>
    have hj : j < l2.length := by have := Hj.out; omega
    have hj200 : (j : Int) ≤ 200 := by omega
    obtain ⟨ad, ead, hx⟩ := Kd.at_int HR2.out (j : Int) (by omega) (by omega)
    cases ead
    replace hx := cell_up HBw.out hx
    rw [Int.toNat_natCast] at hx
    have hdr : l2.drop j = rd l2 (j : Int) :: l2.drop (j + 1) := by
      rw [List.drop_eq_getElem_cons hj]
      congr 1
      unfold rd
      rw [Int.toNat_natCast, List.getD_eq_getElem?_getD, List.getElem?_eq_getElem hj]
      rfl
    rw [hdr, atG, if_neg (by decide)] at hat
    have HK1 := Az.mk (show j + 1 + k1 = l2.length from by have := Hj.out; omega)
    have p1 : (0 ≤ (j : Int)) = True := eq_true (by omega)
    have p2 : ((j : Int) < (l2.length : Int)) = True := eq_true (by omega)
    have p3 : (j < l2.length) = True := eq_true hj
    clear hdr hj
    generalize rd l2 (j : Int) = q at *
    have hlv : ((⟨k, n, l⟩ : S36).f2.length : Int) = (vs.length : Int) := by show (l.length : Int) = _; omega
    rw [hlv] at hat
    by_cases hq : q < 0 ∨ (vs.length : Int) ≤ q
    · rw [if_pos hq] at hat
      injection hat with h1 h2
      subst h1 h2
      rcases (show (q < 0) = True ∨ ((q < 0) = False ∧ ((vs.length : Int) ≤ q) = True) from by
        simp only [eq_iff_iff, iff_true, iff_false]
        omega) with r1 | ⟨r1, r2⟩
      all_goals (
        clear hq hcc hrow hcll
        go_wp2_with fail
        refine bodyPost_ret (results_tmp2 rfl _ _ _) rfl ?_
        exact ⟨rfl, HBw.out⟩)
    rw [if_neg hq] at hat
    have r1 : (q < 0) = False := eq_false (by omega)
    have r2 : ((vs.length : Int) ≤ q) = False := eq_false (by omega)
    have r3 : (0 ≤ q) = True := eq_true (by omega)
    have r4 : (q < (vs.length : Int)) = True := eq_true (by omega)
    obtain ⟨av, eav, hy⟩ := CRow_at hrow (i := q.toNat) (by omega)
    subst eav
    have hel := ClL_at _ _ hcll q.toNat (by omega) (by omega)
    have hlq : l[q.toNat]'(by omega) = rd_T36 l q := by unfold rd_T36; rw [List.getD_eq_getElem?_getD, List.getElem?_eq_getElem (by omega)]; rfl
    rw [hlq] at hel
    have hkid : Cls l0 l1 (rd_T36 l q) := cls_kid hcls hne (by omega) (show q < (l.length : Int) from by omega)
    have hat : atG l1 fuel (l2.drop (j + 1)) (runT l1 fuel (rd_T36 l q) 0).1 (runT l1 fuel (rd_T36 l q) 0).2.2 = (a, e) := hat
    generalize vs[q.toNat]'(by omega) = v at *
    generalize rd_T36 l q = u at *
    obtain ⟨gv, rfl⟩ : ∃ gv, v = .pointer (some ⟨gv, 0, none⟩) := by
      obtain ⟨k', n', l'⟩ := u
      unfold Cl at hel
      obtain ⟨gv, _, _, e, _⟩ := hel
      exact ⟨gv, e⟩
    have HEL := Az.mk (show Cl wr.drew (fun q => q < wr.drew.heap.size) u (.pointer (some ⟨gv, 0, none⟩)) from Cl_below (below_drew (Below.refl wr.heap.size wr)) hel)
    have HKI := Az.mk hkid
    have HAN := Az.mk hat
    have HPN := Az.mk (fun h => runT_post HS.out fuel u 0 hkid h)
    have s0 : wr.cell? ⟨g9, 0, none⟩ = some (.slice Ab l1.length cb) := (blk_cell (bkB S9.out HB.out) 0).trans rfl
    have s1 : wr.cell? ⟨g9, 1, none⟩ = some (.slice Ap l1.length cp) := (blk_cell (bkB S9.out HB.out) 1).trans rfl
    clear hcc hrow hcll hel hkid hat hlq hlv hq hcls hne c1
    have hr5 : (0 : Int) ≤ q := of_eq_true r3
    have hr6 : q < (vs.length : Int) := of_eq_true r4
    go_upto_region 15 with fail
    go_region_held3 (fun w' => w'.cell? ⟨g9, 0, none⟩ = some (.slice Ab l1.length cb) ∧ w'.cell? ⟨g9, 1, none⟩ = some (.slice Ap l1.length cp) ∧ w'.cell? ⟨g, 2, none⟩ = some (.slice (some av) vs.length ca) ∧ w'.cell? (av.add q.toNat) = some (.pointer (some ⟨gv, 0, none⟩))) (go_keep)
      (first
        | (go_at_call 43
           (with_reducible refine (HRUN.out wr.drew (.pointer (some ⟨gv, 0, none⟩)) u (below_drew HB.out) HEL.out HKI.out).mono ?_)
           rintro x wC ⟨gg, rfl, hcg, hbC⟩
           have HCg := Az.mk hcg
           have HbC := Az.mk (bst (below_drew HB.out) hbC)
           have t0 := cell_up hbC (show wr.drew.cell? _ = _ from s0)
           have t1 := cell_up hbC (show wr.drew.cell? _ = _ from s1)
           have t2 := cell_up hbC (show wr.drew.cell? _ = _ from c2)
           have t3 := cell_up hbC (show wr.drew.cell? _ = _ from hy)
           clear hcg hbC))
    have hat := HAN.out
    have hpn := HPN.out
    generalize runT l1 fuel u 0 = r1 at *
    obtain ⟨tt1, nn1, ee1⟩ := r1
    have HA1 := Az.mk (show atG l1 fuel (l2.drop (j + 1)) tt1 ee1 = (a, e) from hat)
    have HP1 := Az.mk (show ee1 = 0 → Cls l0 l1 tt1 ∧ tt1.f0 ≠ 1 from hpn)
    have HC1 := Az.mk (show Cl wC (fun q => q < wC.heap.size) tt1 (.pointer (some ⟨gg, 0, none⟩)) from HCg.out)
    clear hat hpn HAN HPN HCg t0 t1 t2 t3 s0 s1 c2 hy hx HCt HA HPO HB
    go_wp2_with fail
    go_roundg k1
    case measure => omega
    case rel => exact ⟨j + 1, gg, tt1, ee1, rfl, rfl, by go_num, HK1, HP1, HA1, HC1, HbC⟩
end Go.Proofs.Ytkgknidogelffaa.I
namespace Go.Proofs.Ytkgknidogelffaa.I
open Go.RowKit Go.Proofs.YtkgknidogelffaaW.PrintWords Go.Proofs.YtkgknidogelffaaW.PrintLast Go.Proofs.YtkgknidogelffaaW.PrintMore
set_option linter.unusedVariables false
set_option maxRecDepth 100000
theorem runT_done (l1 : List S41) (m : Nat) (t : S36) (n : Int) (h : t.f0 ≠ 1) : runT l1 m t n = (t, n, 0) := by
  cases m with
  | zero => rw [runT, if_neg h]
  | succ m => rw [runT, if_neg h]
theorem goM_run {l0 : List S84} {l1 : List S41} (hs : schB l0 l1 = true) (fuel : Int) : ∀ (k : Nat) (n used : Int) (c : Clo) (st : List Clo) (r : GoR) (n0 : Int), Snd l0 l1 c st → n ≤ fuel → goM l1 fuel k n used c st = some r →
    r.e = 3 ∨ (runT l1 (fuel - n).toNat (denS c st) n0).2.2 = 3 ∨ ((runT l1 (fuel - n).toNat (denS c st) n0).2.2 = r.e ∧ (r.e = 0 → (runT l1 (fuel - n).toNat (denS c st) n0).1 = ⟨2, r.a, denL r.st⟩))
  | 0, n, used, c, st, r, n0, h, hn, hr => by rw [goM] at hr; cases hr
  | k + 1, n, used, c, st, r, n0, h, hn, hr => by
    rw [goM] at hr
    by_cases h1 : 1048576 < used
    · rw [if_pos h1] at hr
      injection hr with hr
      subst hr
      exact .inl rfl
    rw [if_neg h1] at hr
    by_cases h0 : c.t.f0 = 0
    · rw [if_pos h0] at hr
      obtain ⟨_, _, h2, h3, _⟩ := snd_var h h0
      have := goM_run hs fuel k _ _ _ _ r n0 h2 hn hr
      rw [h3] at this
      exact this
    rw [if_neg h0] at hr
    have hp := denS_parts (st := st) h0 h.c
    by_cases hf : c.t.f0 = 1
    · rw [if_pos hf] at hr
      have ht1 : (denS c st).f0 = 1 := by rw [hp]; exact hf
      by_cases hq : n = fuel
      · rw [if_pos hq] at hr
        injection hr with hr
        subst hr
        subst hq
        refine .inr (.inr ⟨?_, fun h => by cases h⟩)
        rw [show (n - n).toNat = 0 from by omega, runT, if_pos ht1]
      rw [if_neg hq] at hr
      obtain ⟨_, _, e1, e2, e3⟩ := snd_fun hs h hf
      rw [← e1, List.take_of_length_le (Nat.le_refl _), List.drop_eq_nil_of_le (Nat.le_refl _)] at hr
      have := goM_run hs fuel k _ _ _ _ r (n0 + 1) e2 (by omega) hr
      rw [e3] at this
      rw [show (fuel - n).toNat = (fuel - (n + 1)).toNat + 1 from by omega, runT, if_pos ht1]
      by_cases hb : 100000 < tcnt (nextT l1 (denS c st))
      · rw [if_pos hb]
        exact .inr (.inl rfl)
      · rw [if_neg hb]
        exact this
    · rw [if_neg hf] at hr
      injection hr with hr
      subst hr
      obtain ⟨e1, e2, e3⟩ := snd_sym h h0 hf
      rw [runT_done _ _ _ _ (by rw [hp]; exact hf)]
      refine .inr (.inr ⟨rfl, fun _ => ?_⟩)
      show denS c st = _
      rw [hp, e1]
theorem goS_run {l0 : List S84} {l1 : List S41} (hs : schB l0 l1 = true) {s s1 : MS} (hg : Good l0 l1 s) (hk : s.known = false) (hf : s.full = false) {F : Nat} (hF : F ≤ 1048576) {a n e : Int} {k : Nat} (h : goS l1 (F : Int) k s = some (a, n, e, s1)) :
    e = 3 ∨ (runT l1 F (denS s.c s.st) 0).2.2 = 3 ∨ ((runT l1 F (denS s.c s.st) 0).2.2 = e ∧ (e ≠ 0 → a = 0) ∧ (e = 0 → (runT l1 F (denS s.c s.st) 0).1 = ⟨2, a, denL s1.st⟩ ∧ s1.known = true ∧ s1.full = false)) := by
  obtain ⟨r, hr, e1, e2, e3, e4⟩ := goS_open hk hf (by omega) (by omega) h
  subst e1 e3 e4
  have h1 := goM_run hs (F : Int) k 0 _ _ _ r 0 (hg.open_ hk) (by omega) hr
  rw [show ((F : Int) - 0).toNat = F from by omega] at h1
  have hp := (goM_post hs (F : Int) k 0 _ _ _ r (hg.open_ hk) (by omega) hg.used.1 hg.used.2 hr).kind
  rcases h1 with h1 | h1 | ⟨h1, h2⟩
  · exact .inl h1
  · exact .inr (.inl h1)
  · refine .inr (.inr ⟨h1, fun h0 => ?_, fun h0 => ⟨h2 h0, ?_, ?_⟩⟩)
    · rcases hp with h4 | h4 | h4
      · exact absurd h4.1 h0
      · exact h4.2.2.2.1
      · exact h4.2.2.2.1
    · rcases hp with h4 | h4 | h4
      · exact h4.2.1
      · rw [h4.1] at h0; cases h0
      · rw [h4.1] at h0; cases h0
    · rcases hp with h4 | h4 | h4
      · exact h4.2.2.1
      · exact h4.2.2.1
      · rw [h4.1] at h0; cases h0
def AtP (l1 : List S41) (F : Nat) (xs : List Int) (u : S36) : Prop := ∀ ys, atG l1 F (xs ++ ys) (runT l1 F ⟨1, 0, []⟩ 0).1 (runT l1 F ⟨1, 0, []⟩ 0).2.2 = atG l1 F ys (runT l1 F u 0).1 (runT l1 F u 0).2.2
theorem atP_nil (l1 : List S41) (F : Nat) : AtP l1 F [] ⟨1, 0, []⟩ := fun ys => rfl
theorem atP_snoc {l1 : List S41} {F : Nat} {xs : List Int} {u t : S36} {q : Int} (h : AtP l1 F xs u) (he : (runT l1 F u 0).2.2 = 0) (ht : (runT l1 F u 0).1 = t) (h0 : 0 ≤ q) (h1 : q < (t.f2.length : Int)) : AtP l1 F (xs ++ [q]) (rd_T36 t.f2 q) := fun ys => by
  have h2 := h (q :: ys)
  rw [List.append_assoc]
  show atG l1 F (xs ++ (q :: ys)) _ _ = _
  rw [h2, he, ht, atG, if_neg (by decide), if_neg (by omega)]
end Go.Proofs.Ytkgknidogelffaa.I
namespace Go.Proofs.Ytkgknidogelffaa.I
open Go.RowKit Go.Proofs.YtkgknidogelffaaW.PrintWords Go.Proofs.YtkgknidogelffaaW.PrintLast Go.Proofs.YtkgknidogelffaaW.PrintMore
attribute [local go_sem] max2_int min2_int max_two min_two max_three min_three max_four min_four
set_option linter.unusedVariables false
set_option maxRecDepth 100000
set_option linter.unusedSimpArgs false
theorem at_part (A0 : Option Addr) (c0 : Nat) (l0 : List S84) (A1 : Option Addr) (c1 : Nat) (l1 : List S41) (A2 : Option Addr) (c2 : Nat) (l2 : List Int) (F m : Nat) (hF : F ≤ 1048576) (hm : m ≤ l2.length) (hln : l2.length ≤ 20) (w : World) (hr0 : Kd.C k84 w A0 l0.length l0) (hc0 : l0.length ≤ c0) (hr1 : Kd.C k41 w A1 l1.length l1) (hc1 : l1.length ≤ c1) (hr2 : Kd.C (Kd.int .i64) w A2 l2.length l2) (hs : schB l0 l1 = true) (a e : Int)
    (hat : atG l1 F (l2.take m) (runT l1 F ⟨1, 0, []⟩ 0).1 (runT l1 F ⟨1, 0, []⟩ 0).2.2 = (a, e)) :
    Calls Try.prog 20 #[.agg #[.slice A0 l0.length c0, .slice A1 l1.length c1], .slice A2 m c2, .int .i64 (F : Int)] w fun x w' => x = .returned (.tuple #[.int .i64 a, .int .i64 e]) ∧ Below w.heap.size w w' := by
  have hlm : (l2.take m).length = m := by rw [List.length_take]; omega
  have h := at_calls A0 c0 l0 A1 c1 l1 A2 c2 (l2.take m) F hF (by omega) w hr0 hc0 hr1 hc1 (Kd.C_take hr2 hm) hs a e hat
  rw [hlm] at h
  exact h
theorem kid_known {s : MS} {q : Int} (hk : s.known = true) (hp : s.path.length ≠ 200) : kidE s q = if q < 0 ∨ (s.st.length : Int) ≤ q then 5 else 0 := by
  unfold kidE
  rw [if_neg (by rw [hk]; decide), if_neg hp]
set_option maxHeartbeats 16000000 in
theorem tree_calls (A0 : Option Addr) (c0 : Nat) (l0 : List S84) (A1 : Option Addr) (c1 : Nat) (l1 : List S41) (A2 : Option Addr) (c2 : Nat) (l2 : List Int) (a : Int) (w : World) (hr0 : Kd.C k84 w A0 l0.length l0) (hc0 : l0.length ≤ c0) (hr1 : Kd.C k41 w A1 l1.length l1) (hc1 : l1.length ≤ c1) (hr2 : Kd.C (Kd.int .i64) w A2 l2.length l2) (hc2 : l2.length ≤ c2) :
    Calls Try.prog 7 #[.agg #[.slice A0 l0.length c0, .slice A1 l1.length c1], .slice A2 l2.length c2, .int .i64 a] w fun e w' => e = .returned (.bool true) ∧ Below w.heap.size w w' := by
  have hu25 := Try.underlying25
  have hu26 := Try.underlying26
  have hl2 : l2.length ≤ 9223372036854775807 := hr2.2.1
  have HR0 := Az.mk hr0
  have HR1 := Az.mk hr1
  have HR2 := Az.mk hr2
  have HC := Az.mk (And.intro hc0 hc1)
  clear hr0 hr1 hr2 hc0 hc1
  by_cases hs : schB l0 l1 = true
  rotate_left
  · have HS := Az.mk hs
    clear hs
    go_enter Try.func7, Try.ntmps7
    go_wp2_with (
      ((with_reducible refine gate_dst (N := 3) rfl ?_)
       refine box_event ?hg (N := 3) ?hd (cs := #[.slice A0 l0.length c0, .slice A1 l1.length c1]) (t := 25) ?hr ?_
       (case hd => rfl)
       (case hg => rfl)
       (case hr => first | (go_simp; done) | (go_simp; rfl))
       intro g3 hg3 w1 hbox hb1
       have S3 := Az.mk hbox
       have HB1 := Az.mk hb1
       have e0 : w1.cell? ⟨g3, 0, none⟩ = some (.slice A0 l0.length c0) := (blk_cell hbox 0).trans rfl
       have e1 : w1.cell? ⟨g3, 1, none⟩ = some (.slice A1 l1.length c1) := (blk_cell hbox 1).trans rfl
       clear hbox hb1 hg3))
    (with_reducible refine (new_err A0 c0 l0 A1 c1 l1 w1 (Kd.C_below HR0.out HB1.out) HC.out.1 (Kd.C_below HR1.out HB1.out) HC.out.2 HS.out).mono ?_)
    rintro e w2 ⟨rfl, hb2⟩
    have HB2 := Az.mk (bst HB1.out hb2)
    clear hb2 e0 e1
    go_wp2_with fail
    (with_reducible refine (alive_calls w2).mono ?_)
    rintro e9 w99 ⟨rfl, hb99⟩
    have HB99 := Az.mk (bst HB2.out hb99)
    clear hb99
    go_wp2_with fail
    go_ret
    exact ⟨rfl, HB99.out⟩
  have HS := Az.mk hs
  clear hs
  by_cases hgd : a < 0 ∨ 100 < a ∨ 20 < l2.length
  · rcases (show (a < 0) = True ∨ ((a < 0) = False ∧ (100 < a) = True) ∨ ((a < 0) = False ∧ (100 < a) = False ∧ ((20 : Int) < (l2.length : Int)) = True) from by
      simp only [eq_iff_iff, iff_true, iff_false]
      omega) with g1 | ⟨g1, g2⟩ | ⟨g1, g2, g5⟩
    all_goals (
      clear hgd
      go_enter Try.func7, Try.ntmps7
      go_wp2_with (
        ((with_reducible refine gate_dst (N := 3) rfl ?_)
         refine box_event ?hg (N := 3) ?hd (cs := #[.slice A0 l0.length c0, .slice A1 l1.length c1]) (t := 25) ?hr ?_
         (case hd => rfl)
         (case hg => rfl)
         (case hr => first | (go_simp; done) | (go_simp; rfl))
         intro g3 hg3 w1 hbox hb1
         have S3 := Az.mk hbox
         have HB1 := Az.mk hb1
         have e0 : w1.cell? ⟨g3, 0, none⟩ = some (.slice A0 l0.length c0) := (blk_cell hbox 0).trans rfl
         have e1 : w1.cell? ⟨g3, 1, none⟩ = some (.slice A1 l1.length c1) := (blk_cell hbox 1).trans rfl
         clear hbox hb1 hg3))
      (with_reducible refine (one_new A0 c0 A1 c1 (Kd.C_below HR0.out HB1.out) HC.out.1 (Kd.C_below HR1.out HB1.out) HC.out.2 HS.out).mono ?_)
      rintro e w2 ⟨gm, rfl, hM, hb2⟩
      have HB2 := Az.mk (bst HB1.out hb2)
      clear hM hb2 e0 e1
      go_wp2_with fail
      (with_reducible refine (alive_calls w2).mono ?_)
      rintro e9 w99 ⟨rfl, hb99⟩
      have HB99 := Az.mk (bst HB2.out hb99)
      clear hb99
      go_wp2_with fail
      go_ret
      exact ⟨rfl, HB99.out⟩)
  obtain ⟨F, rfl⟩ : ∃ F : Nat, a = (F : Int) := ⟨a.toNat, by omega⟩
  have hF : F ≤ 100 := by omega
  have hl20 : (l2.length : Int) ≤ 20 := by omega
  have g1 : ((F : Int) < 0) = False := eq_false (by omega)
  have g2 : ((100 : Int) < (F : Int)) = False := eq_false (by omega)
  have g5 : ((20 : Int) < (l2.length : Int)) = False := eq_false (by omega)
  have HFF := Az.mk hF
  have HLL := Az.mk (show l2.length ≤ 20 from by omega)
  clear hgd
  go_enter Try.func7, Try.ntmps7
  go_wp2_with (
      ((with_reducible refine gate_dst (N := 3) rfl ?_)
       refine box_event ?hg (N := 3) ?hd (cs := #[.slice A0 l0.length c0, .slice A1 l1.length c1]) (t := 25) ?hr ?_
       (case hd => rfl)
       (case hg => rfl)
       (case hr => first | (go_simp; done) | (go_simp; rfl))
       intro g3 hg3 w1 hbox hb1
       have S3 := Az.mk hbox
       have HB1 := Az.mk hb1
       have e0 : w1.cell? ⟨g3, 0, none⟩ = some (.slice A0 l0.length c0) := (blk_cell hbox 0).trans rfl
       have e1 : w1.cell? ⟨g3, 1, none⟩ = some (.slice A1 l1.length c1) := (blk_cell hbox 1).trans rfl
       clear hbox hb1 hg3))
  (with_reducible refine (one_new A0 c0 A1 c1 (Kd.C_below HR0.out HB1.out) HC.out.1 (Kd.C_below HR1.out HB1.out) HC.out.2 HS.out).mono ?_)
  rintro e w2 ⟨gm, rfl, hM, hb2⟩
  have HL3 := Az.mk (show g3 < w1.heap.size from blk_lt S3.out)
  have HLO := Az.mk (show w.heap.size ≤ w1.heap.size from HB1.out.size)
  have HM2 := Az.mk hM
  have HB2 := Az.mk (bst HB1.out hb2)
  have HBl := Az.mk hb2
  clear hM hb2 e0 e1
  have HAT := Az.mk (fun (W : World) (m : Nat) (x y : Int) (hm : m ≤ l2.length) (hb : Below w.heap.size w W) (hat : atG l1 F (l2.take m) (runT l1 F ⟨1, 0, []⟩ 0).1 (runT l1 F ⟨1, 0, []⟩ 0).2.2 = (x, y)) =>
    at_part A0 c0 l0 A1 c1 l1 A2 c2 l2 F m (by have := HFF.out; omega) hm HLL.out W (Kd.C_below HR0.out hb) HC.out.1 (Kd.C_below HR1.out hb) HC.out.2 (Kd.C_below HR2.out hb) HS.out x y hat)
  have HB1' := Az.mk (show Below w1.heap.size w1 w2 from HBl.out)
  clear HBl
  go_wp2_with fail
  go_loopg [9] (l2.length + 1) (fun kq v9 wr => ∃ (j : Nat) (s : MS) (u : S36), v9 = .int .i64 (j : Int) ∧ Az (j + kq = l2.length + 1 ∧ j ≤ l2.length) ∧ Az (Good l0 l1 s ∧ s.known = false ∧ s.full = false ∧ s.path.length = j) ∧ Az (denS s.c s.st = u ∧ Cls l0 l1 u ∧ AtP l1 F (l2.take j) u) ∧ Az (Ms wr w1.heap.size (l1.map ownF) [(gm, s)]) ∧ Az (Below w.heap.size w wr) ∧ Az (Below w1.heap.size w1 wr))
  case atStart => exact ⟨0, ms0, ⟨1, 0, []⟩, rfl, ⟨by omega, by omega⟩, ⟨good0 HS.out, rfl, rfl, rfl⟩, ⟨by show denS (.mk ⟨1, 0, []⟩ []) [] = _; rw [denS_nil, den, subT, if_neg (by decide), subL], cls0 HS.out, atP_nil l1 F⟩, HM2, HB2, HB1'⟩
  case round =>
    clear HM2 HB2 HB1'
    obtain ⟨j, s, u, rfl, Hj, HG, HU, HM, HB, HBs⟩ := hrel
    obtain ⟨k1, rfl⟩ : ∃ k1, gk = k1 + 1 := ⟨gk - 1, by have := Hj.out; omega⟩
    have hjl : j ≤ l2.length := Hj.out.2
    have hj20 : (j : Int) ≤ 20 := by omega
    have hjc : (j : Int) ≤ (c2 : Int) := by omega
    obtain ⟨k, x, n, e, s1, hr⟩ := goS_total HS.out HG.out.1 (F : Int)
    have htri := goS_run HS.out HG.out.1 HG.out.2.1 HG.out.2.2.1 (by have := HFF.out; omega) hr
    rw [HU.out.1] at htri
    have hnil := HU.out.2.2 []
    rw [List.append_nil] at hnil
    obtain ⟨t, n9, ge, hR⟩ : ∃ t n9 ge, runT l1 F u 0 = (t, n9, ge) := ⟨_, _, _, rfl⟩
    rw [hR] at htri hnil
    dsimp only at htri hnil
    obtain ⟨wa, hwa⟩ : ∃ wa, wa = (if ge ≠ 0 then 0 else t.f1) := ⟨_, rfl⟩
    have hat0 : atG l1 F (l2.take j) (runT l1 F ⟨1, 0, []⟩ 0).1 (runT l1 F ⟨1, 0, []⟩ 0).2.2 = (wa, ge) := by
      rw [hnil, atG, hwa]
      by_cases h0 : ge = 0
      · rw [if_neg (by omega), if_neg (by omega), h0]
      · rw [if_pos h0, if_pos h0]
    have HGR := Az.mk hr
    have HG1 := Az.mk (goS_good HS.out HG.out.1 hr)
    have HP1 := Az.mk (goS_path hr)
    have HTRI := Az.mk htri
    have HA0 := Az.mk hat0
    have HRR := Az.mk hR
    have HWA := Az.mk hwa
    clear hr htri hnil hat0 hR hwa
    go_wp2_with fail
    (with_reducible refine (one_go HS.out HM.out HG.out.1 HGR.out).mono ?_)
    rintro e' w3 ⟨rfl, hM, hb3⟩
    have HM3 := Az.mk hM
    have HB3 := Az.mk (below_tr HB.out (below_lo hb3 HLO.out))
    have HBt := Az.mk (below_tr HBs.out hb3)
    have b0 : w3.cell? ⟨g3, 0, none⟩ = some (.slice A0 l0.length c0) := (blk_cell (bkB S3.out HBt.out) 0).trans rfl
    have b1 : w3.cell? ⟨g3, 1, none⟩ = some (.slice A1 l1.length c1) := (blk_cell (bkB S3.out HBt.out) 1).trans rfl
    clear hM hb3 HM HB HBs
    have p0 : (0 : Int) ≤ (j : Int) := by omega
    go_upto_region 7 with fail
    go_region_held3 (fun w' => w'.cell? ⟨g3, 0, none⟩ = some (.slice A0 l0.length c0) ∧ w'.cell? ⟨g3, 1, none⟩ = some (.slice A1 l1.length c1)) (go_keep)
      (first
        | (go_at_call 20
           (with_reducible refine (HAT.out w3.drew j wa ge hjl (below_drew HB3.out) HA0.out).mono ?_)
           rintro x9 w4 ⟨rfl, hb4⟩
           have HBD := Az.mk (bst (below_drew (Below.refl w3.heap.size w3)) hb4)
           have t0 := cell_up hb4 (show w3.drew.cell? _ = _ from b0)
           have t1 := cell_up hb4 (show w3.drew.cell? _ = _ from b1)
           clear hb4))
    have HM4 := Az.mk (HM3.out.below HBD.out)
    have HB4 := Az.mk (bst HB3.out HBD.out)
    have HBt4 := Az.mk (below_tr HBt.out (below_lo HBD.out HBt.out.size))
    clear b0 b1 t0 t1 HM3 HB3 HBt HBD
    by_cases he3 : e = 3
    · subst he3
      go_wp2_with fail
      (with_reducible refine (alive_calls w4).mono ?_)
      rintro e9 w99 ⟨rfl, hb99⟩
      have HB99 := Az.mk (bst HB4.out hb99)
      clear hb99
      go_wp2_with fail
      go_ret
      exact ⟨rfl, HB99.out⟩
    have q1 := beqF he3
    by_cases hg3 : ge = 3
    · subst hg3
      go_wp2_with fail
      (with_reducible refine (alive_calls w4).mono ?_)
      rintro e9 w99 ⟨rfl, hb99⟩
      have HB99 := Az.mk (bst HB4.out hb99)
      clear hb99
      go_wp2_with fail
      go_ret
      exact ⟨rfl, HB99.out⟩
    have q2 := beqF hg3
    rcases HTRI.out with h | h | ⟨h1, h2, h3⟩
    · exact absurd h he3
    · exact absurd h hg3
    have hx : x = wa := by
      rw [HWA.out]
      by_cases h0 : ge = 0
      · rw [if_neg (by omega)]
        have := (h3 (by omega)).1
        rw [this]
      · rw [if_pos h0]
        exact h2 (by omega)
    have q3 := bneF hx
    have q4 := bneF h1.symm
    by_cases he : e = 0
    rotate_left
    · have q5 := bneT he
      have q6 := beqF he
      clear h1 h2 h3 hx he
      go_wp2_with fail
      (with_reducible refine (alive_calls w4).mono ?_)
      rintro e9 w99 ⟨rfl, hb99⟩
      have HB99 := Az.mk (bst HB4.out hb99)
      clear hb99
      go_wp2_with fail
      go_ret
      exact ⟨rfl, HB99.out⟩
    have hge : ge = 0 := by omega
    obtain ⟨ht, hk1, hf1⟩ := h3 he
    have HT1 := Az.mk (And.intro ht (And.intro hk1 hf1))
    have HGE := Az.mk hge
    subst he
    clear h1 h2 h3 hx ht hk1 hf1 hge
    by_cases hjl2 : j = l2.length
    · have q7 : ((j : Int) == (l2.length : Int)) = true := beqT (by omega)
      clear hjl2
      go_wp2_with fail
      (with_reducible refine (alive_calls w4).mono ?_)
      rintro e9 w99 ⟨rfl, hb99⟩
      have HB99 := Az.mk (bst HB4.out hb99)
      clear hb99
      go_wp2_with fail
      go_ret
      exact ⟨rfl, HB99.out⟩
    have q7 : ((j : Int) == (l2.length : Int)) = false := beqF (by omega)
    have hj : j < l2.length := by omega
    obtain ⟨ad, ead, hx⟩ := Kd.at_int HR2.out (j : Int) (by omega) (by omega)
    cases ead
    replace hx := cell_up HB4.out hx
    rw [Int.toNat_natCast] at hx
    have htk : l2.take (j + 1) = l2.take j ++ [rd l2 (j : Int)] := by
      rw [List.take_add_one, List.getElem?_eq_getElem hj]
      unfold rd
      rw [Int.toNat_natCast, List.getD_eq_getElem?_getD, List.getElem?_eq_getElem hj]
      rfl
    have p1 : (0 ≤ (j : Int)) = True := eq_true (by omega)
    have p2 : ((j : Int) < (l2.length : Int)) = True := eq_true (by omega)
    have p3 : (j < l2.length) = True := eq_true hj
    have hjc1 : (j : Int) + 1 ≤ (c2 : Int) := by omega
    have p5 : (0 : Int) ≤ (j : Int) + 1 := by omega
    generalize rd l2 (j : Int) = q at *
    have HTK := Az.mk htk
    have HJ := Az.mk (show j + 1 ≤ l2.length from hj)
    have hke := kid_known (s := s1) (q := q) HT1.out.2.1 (by rw [HP1.out, HG.out.2.2.2]; omega)
    have hlt : (t.f2.length : Int) = (s1.st.length : Int) := by rw [HT1.out.1]; show ((denL s1.st).length : Int) = _; rw [denL_len]
    have HLT := Az.mk hlt
    clear htk hj hjl2 hlt
    by_cases hqr : q < 0 ∨ (s1.st.length : Int) ≤ q
    · rw [if_pos hqr] at hke
      have hat5 : atG l1 F (l2.take (j + 1)) (runT l1 F ⟨1, 0, []⟩ 0).1 (runT l1 F ⟨1, 0, []⟩ 0).2.2 = (0, 5) := by
        rw [HTK.out, HU.out.2.2 [q], HRR.out]
        show atG l1 F [q] t ge = _
        rw [HGE.out, atG, if_neg (by decide), if_pos (by rw [HLT.out]; exact hqr)]
      have HA5 := Az.mk hat5
      have HKE := Az.mk hke
      clear hat5 hke hqr
      go_wp2_with fail
      (with_reducible refine (one_kid HM4.out HG1.out HKE.out).mono ?_)
      rintro e' w5 ⟨rfl, hM, hb5⟩
      have HB5 := Az.mk (below_tr HB4.out (below_lo hb5 HLO.out))
      have HBt5 := Az.mk (below_tr HBt4.out hb5)
      have b0 : w5.cell? ⟨g3, 0, none⟩ = some (.slice A0 l0.length c0) := (blk_cell (bkB S3.out HBt5.out) 0).trans rfl
      have b1 : w5.cell? ⟨g3, 1, none⟩ = some (.slice A1 l1.length c1) := (blk_cell (bkB S3.out HBt5.out) 1).trans rfl
      clear hM hb5 hx
      have hw1 : IntKind.i64.wrap ((j : Int) + 1) = (j : Int) + 1 := (i64_w _).trans (by unfold wrap64; omega)
      go_upto_region 16 with fail
      go_region_held3 (fun w' => w'.cell? ⟨g3, 0, none⟩ = some (.slice A0 l0.length c0) ∧ w'.cell? ⟨g3, 1, none⟩ = some (.slice A1 l1.length c1)) (go_keep)
        (first
          | (go_at_call 20
             (with_reducible refine (HAT.out w5.drew (j + 1) 0 5 HJ.out (below_drew HB5.out) HA5.out).mono ?_)
             rintro x9 w6 ⟨rfl, hb6⟩
             have HB6 := Az.mk (bst (below_drew HB5.out) hb6)
             have t0 := cell_up hb6 (show w5.drew.cell? _ = _ from b0)
             have t1 := cell_up hb6 (show w5.drew.cell? _ = _ from b1)
             clear hb6))
      clear b0 b1 t0 t1
      go_wp2_with fail
      (with_reducible refine (alive_calls w6).mono ?_)
      rintro e9 w99 ⟨rfl, hb99⟩
      have HB99 := Az.mk (bst HB6.out hb99)
      clear hb99
      go_wp2_with fail
      go_ret
      exact ⟨rfl, HB99.out⟩
    rw [if_neg hqr] at hke
    have HKE := Az.mk hke
    have HQR := Az.mk hqr
    have HNX := Az.mk (show (Good l0 l1 (kidS s1 q) ∧ (kidS s1 q).known = false ∧ (kidS s1 q).full = false ∧ (kidS s1 q).path.length = j + 1) ∧ (denS (kidS s1 q).c (kidS s1 q).st = rd_T36 t.f2 q ∧ Cls l0 l1 (rd_T36 t.f2 q) ∧ AtP l1 F (l2.take (j + 1)) (rd_T36 t.f2 q)) from by
      have hks : kidS s1 q = ⟨s1.st.getD q.toNat zClo, [], s1.used, s1.path ++ [q], false, s1.full⟩ := by unfold kidS; rw [if_pos hke]
      have hrp := runT_post HS.out F u 0 HU.out.2.1 (by rw [HRR.out]; exact HGE.out)
      rw [HRR.out] at hrp
      have hap := atP_snoc (q := q) HU.out.2.2 (by rw [HRR.out]; exact HGE.out) (show (runT l1 F u 0).1 = t from by rw [HRR.out]) (by omega) (by rw [HLT.out]; omega)
      rw [← HTK.out] at hap
      refine ⟨⟨kidS_good HG1.out q, by rw [hks], by rw [hks]; exact HT1.out.2.2, ?_⟩, ?_, cls_kid hrp.1 hrp.2 (by omega) (by rw [HLT.out]; omega), hap⟩
      · rw [hks]
        show (s1.path ++ [q]).length = j + 1
        rw [List.length_append, HP1.out, HG.out.2.2.2]
        rfl
      · rw [hks]
        show denS (s1.st.getD q.toNat zClo) [] = _
        rw [denS_nil, HT1.out.1]
        show _ = rd_T36 (denL s1.st) q
        rw [rd_den s1.st q (by omega) (by omega)]
        rfl)
    have HK1 := Az.mk (show j + 1 + k1 = l2.length + 1 ∧ j + 1 ≤ l2.length from ⟨by have := Hj.out.1; omega, HJ.out⟩)
    clear hke hqr
    go_wp2_with fail
    (with_reducible refine (one_kid HM4.out HG1.out HKE.out).mono ?_)
    rintro e' w5 ⟨rfl, hM, hb5⟩
    have HM5 := Az.mk hM
    have HB5 := Az.mk (below_tr HB4.out (below_lo hb5 HLO.out))
    have HBt5 := Az.mk (below_tr HBt4.out hb5)
    clear hM hb5 hx
    go_wp2_with fail
    go_roundg k1
    case measure => omega
    case rel => exact ⟨j + 1, kidS s1 q, rd_T36 t.f2 q, by go_num, HK1, ⟨HNX.out.1⟩, ⟨HNX.out.2⟩, HM5, HB5, HBt5⟩
end Go.Proofs.Ytkgknidogelffaa.I
namespace Go.Proofs.Ytkgknidogelffaa.I
open Go.RowKit Go.Proofs.YtkgknidogelffaaW.PrintWords Go.Proofs.Ytkgknidogelffaa.VOpen
set_option linter.unusedVariables false
def virgationlaw08_ClosureTree.f (k : Nat) (l0 : List S84) (l1 : List S41) (l2 : List Int) (i0 : Int) : Option Bool := some true
theorem virgationlaw08_ClosureTree.calls (k : Nat) (A0 : Option Addr) (c0 : Nat) (l0 : List S84) (A1 : Option Addr) (c1 : Nat) (l1 : List S41) (A2 : Option Addr) (c2 : Nat) (l2 : List Int) (i0 : Int) (r : Bool) (w : World) (hr0 : Kd.C k84 w A0 l0.length l0) (hc0 : l0.length ≤ c0) (hr1 : Kd.C k41 w A1 l1.length l1) (hc1 : l1.length ≤ c1) (hr2 : Kd.C (Kd.int .i64) w A2 l2.length l2) (hc2 : l2.length ≤ c2) (h : virgationlaw08_ClosureTree.f k l0 l1 l2 i0 = some r) :
    Calls Try.prog 7 #[.agg #[.slice A0 l0.length c0, .slice A1 l1.length c1], .slice A2 l2.length c2, .int .i64 i0] w fun e w' => e = .returned (.bool r) ∧ Below w.heap.size w w' := by
  injection h with h
  subst h
  exact tree_calls A0 c0 l0 A1 c1 l1 A2 c2 l2 i0 w hr0 hc0 hr1 hc1 hr2 hc2
theorem pure_ClosureTree : ∀ (x0 : S25) (x1 : (List Int)) (x2 : Int), (wf25 x0) → (x1.length ≤ 9223372036854775807 ∧ (∀ y_, y_ ∈ x1 → (Lit.int .i64 y_).wf = true)) → ((Lit.int .i64 x2).wf = true) → ∃ k, virgationlaw08_ClosureTree.f k x0.f0 x0.f1 x1 x2 = some true := by
  intros
  exact ⟨0, rfl⟩
end Go.Proofs.Ytkgknidogelffaa.I
