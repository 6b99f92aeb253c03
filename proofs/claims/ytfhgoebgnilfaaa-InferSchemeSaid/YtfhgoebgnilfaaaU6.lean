/- Texts of this session's proof, laid together: IT7, IU1, IU2, IU3, IU4, IU5, IT8, IT9, IS2, IS3. -/
import Derived.Deep.RegionLaw
import Derived.Test.YtfhgoebgnilfaaaU5
namespace Go.Proofs.Ytfhgoebgnilfaaa.I
open Go.RowKit
set_option linter.unusedVariables false
def toK (n : GN) : KN := if n.k = 1 then ⟨none, true, none, none⟩ else if n.k = 2 then ⟨none, false, some n.a, some n.b⟩ else if n.k = 3 then ⟨some n.a, false, none, none⟩ else ⟨none, false, none, none⟩
theorem toK0 {n : GN} (h : n.k ≠ 1) (h2 : n.k ≠ 2) (h3 : n.k ≠ 3) : toK n = ⟨none, false, none, none⟩ := by unfold toK; rw [if_neg h, if_neg h2, if_neg h3]
theorem toK1 {n : GN} (h : n.k = 1) : toK n = ⟨none, true, none, none⟩ := by unfold toK; rw [if_pos h]
theorem toK2 {n : GN} (h : n.k = 2) : toK n = ⟨none, false, some n.a, some n.b⟩ := by unfold toK; rw [if_neg (by omega), if_pos h]
theorem toK3 {n : GN} (h : n.k = 3) : toK n = ⟨some n.a, false, none, none⟩ := by unfold toK; rw [if_neg (by omega), if_neg (by omega), if_pos h]
theorem toK_get {s : List GN} {i : Nat} {m : KN} (h : (s.map toK)[i]? = some m) : ∃ n, s[i]? = some n ∧ m = toK n := by
  rw [List.getElem?_map] at h
  cases hn : s[i]? with
  | none => rw [hn] at h; cases h
  | some n => rw [hn] at h; injection h with h; exact ⟨n, rfl, h.symm⟩
theorem GSol_toK {s : List GN} {ρ : Nat → KT} : GSol s ρ ↔ Sol (s.map toK) ρ := by
  constructor
  · intro h i m hm
    obtain ⟨n, hn, rfl⟩ := toK_get hm
    obtain ⟨h1, h2, h3⟩ := h i n hn
    by_cases k1 : n.k = 1
    · rw [toK1 k1]; exact ⟨(fun j e => by cases e), fun _ => h1 k1, (fun a t e => by cases e)⟩
    by_cases k2 : n.k = 2
    · rw [toK2 k2]; exact ⟨(fun j e => by cases e), (fun e => by cases e), fun a t e e' => by injection e with e; injection e' with e'; rw [← e, ← e']; exact h2 k2⟩
    by_cases k3 : n.k = 3
    · rw [toK3 k3]; exact ⟨(fun j e => by injection e with e; rw [← e]; exact h3 k3), (fun e => by cases e), (fun a t e => by cases e)⟩
    · rw [toK0 k1 k2 k3]; exact ⟨(fun j e => by cases e), (fun e => by cases e), (fun a t e => by cases e)⟩
  · intro h i n hn
    obtain ⟨h1, h2, h3⟩ := h i (toK n) (by rw [List.getElem?_map, hn]; rfl)
    refine ⟨fun k1 => h2 (by rw [toK1 k1]), fun k2 => h3 n.a n.b (by rw [toK2 k2]) (by rw [toK2 k2]), fun k3 => h1 n.a (by rw [toK3 k3])⟩
inductive GRound (s : List GN) : List Nat → Nat → Bool → List Nat → Prop
  | on {st : List Nat} {n p m : Nat} : GEnd s m n p → st[p]? = some 1 → GRound s st n true st
  | done {st : List Nat} {n p m v : Nat} {x : GN} : GEnd s m n p → s[p]? = some x → st[p]? = some v → v ≠ 1 → (v = 2 ∨ x.k ≠ 2) → GRound s st n false st
  | ringL {st st1 : List Nat} {n p m v : Nat} {x : GN} : GEnd s m n p → s[p]? = some x → st[p]? = some v → v ≠ 1 → v ≠ 2 → x.k = 2 → GRound s (st.set p 1) x.a true st1 → GRound s st n true st1
  | ringR {st st1 st2 : List Nat} {n p m v : Nat} {x : GN} : GEnd s m n p → s[p]? = some x → st[p]? = some v → v ≠ 1 → v ≠ 2 → x.k = 2 → GRound s (st.set p 1) x.a false st1 → GRound s st1 x.b true st2 → GRound s st n true st2
  | no {st st1 st2 : List Nat} {n p m v : Nat} {x : GN} : GEnd s m n p → s[p]? = some x → st[p]? = some v → v ≠ 1 → v ≠ 2 → x.k = 2 → GRound s (st.set p 1) x.a false st1 → GRound s st1 x.b false st2 → GRound s st n false (st2.set p 2)
def finD (s : List GN) : Nat → Nat → Prop
  | 0, _ => False
  | m + 1, i => ∃ n, s[i]? = some n ∧ (n.k = 0 ∨ n.k = 1 ∨ (n.k = 3 ∧ finD s m n.a) ∨ (n.k = 2 ∧ finD s m n.a ∧ finD s m n.b))
theorem finD_s {s : List GN} : ∀ {m i : Nat}, finD s m i → finD s (m + 1) i
  | 0, _, h => h.elim
  | m + 1, i, ⟨n, hn, h⟩ => ⟨n, hn, by
    rcases h with h | h | ⟨h, h1⟩ | ⟨h, h1, h2⟩
    · exact .inl h
    · exact .inr (.inl h)
    · exact .inr (.inr (.inl ⟨h, finD_s h1⟩))
    · exact .inr (.inr (.inr ⟨h, finD_s h1, finD_s h2⟩))⟩
theorem finD_le {s : List GN} {m m' i : Nat} (hm : m ≤ m') (h : finD s m i) : finD s m' i := by
  induction hm with
  | refl => exact h
  | step _ ih => exact finD_s ih
def Fin_ (s : List GN) (i : Nat) : Prop := ∃ m, finD s m i
theorem GEnd.fin {s : List GN} {m i r : Nat} (h : GEnd s m i r) : Fin_ s r → Fin_ s i := by
  induction h with
  | stop _ _ => exact fun h => h
  | go h1 h2 _ ih =>
    intro hr
    obtain ⟨d, hd⟩ := ih hr
    exact ⟨d + 1, _, h1, .inr (.inr (.inl ⟨h2, hd⟩))⟩
theorem get_set_ne {α : Type} {l : List α} {p q : Nat} {v : α} (h : p ≠ q) : (l.set p v)[q]? = l[q]? := by rw [List.getElem?_set, if_neg h]
theorem get_set_eq {α : Type} {l : List α} {p : Nat} {v w : α} (h : (l.set p v)[p]? = some w) : w = v := by
  rw [List.getElem?_set, if_pos rfl] at h
  split at h
  · injection h with h; exact h.symm
  · cases h
theorem GRound.len {s : List GN} {st st' : List Nat} {n : Nat} {r : Bool} (h : GRound s st n r st') : st'.length = st.length := by
  induction h with
  | on => rfl
  | done => rfl
  | ringL _ _ _ _ _ _ _ ih => rw [ih, List.length_set]
  | ringR _ _ _ _ _ _ _ _ ih1 ih2 => rw [ih2, ih1, List.length_set]
  | no _ _ _ _ _ _ _ _ ih1 ih2 => rw [List.length_set, ih2, ih1, List.length_set]
theorem GRound.fin {s : List GN} (w : GWF s) {st st' : List Nat} {n : Nat} {r : Bool} (h : GRound s st n r st') : r = false → (∀ p, st[p]? = some 2 → Fin_ s p) → Fin_ s n ∧ (∀ p, st'[p]? = some 2 → Fin_ s p) := by
  induction h with
  | on => intro e; cases e
  | @done st n p m v x h1 hx hv v1 hd =>
    intro _ hf
    refine ⟨h1.fin ?_, hf⟩
    rcases hd with hd | hd
    · subst hd; exact hf p hv
    · obtain ⟨_, _, x', hx', h3⟩ := h1.lt
      rw [hx] at hx'
      injection hx' with hx'
      subst hx'
      have := (w.rng _ _ hx).1
      exact ⟨1, x, hx, by omega⟩
  | ringL => intro e; cases e
  | ringR => intro e; cases e
  | @no st st1 st2 n p m v x h1 hx hv v1 v2 hk _ _ ih1 ih2 =>
    intro _ hf
    obtain ⟨fa, hf1⟩ := ih1 rfl (fun q hq => by
      by_cases e : p = q
      · subst e; have := get_set_eq hq; omega
      · rw [get_set_ne e] at hq; exact hf q hq)
    obtain ⟨fb, hf2⟩ := ih2 rfl hf1
    have fp : Fin_ s p := by
      obtain ⟨d1, k1⟩ := fa
      obtain ⟨d2, k2⟩ := fb
      exact ⟨max d1 d2 + 1, x, hx, .inr (.inr (.inr ⟨hk, finD_le (Nat.le_max_left _ _) k1, finD_le (Nat.le_max_right _ _) k2⟩))⟩
    refine ⟨h1.fin fp, fun q hq => ?_⟩
    by_cases e : p = q
    · subst e; exact fp
    · rw [get_set_ne e] at hq; exact hf2 q hq
theorem GRound.ones {s : List GN} {st st' : List Nat} {n : Nat} {r : Bool} (h : GRound s st n r st') : r = false → ∀ q : Nat, st'[q]? = some 1 → st[q]? = some 1 := by
  induction h with
  | on => intro e; cases e
  | done => exact fun _ _ h => h
  | ringL => intro e; cases e
  | ringR => intro e; cases e
  | @no st st1 st2 n p m v x h1 hx hv v1 v2 hk _ _ ih1 ih2 =>
    intro _ q hq
    by_cases e : p = q
    · subst e; have := get_set_eq hq; omega
    · rw [get_set_ne e] at hq
      have := ih1 rfl q (ih2 rfl q hq)
      rwa [get_set_ne e] at this
theorem GRound.ring {s : List GN} {ρ : Nat → KT} (hs : GSol s ρ) {st st' : List Nat} {n : Nat} {r : Bool} (h : GRound s st n r st') : r = true → (∀ q, st[q]? = some 1 → (ρ n).sz < (ρ q).sz) → False := by
  induction h with
  | @on st n p m h1 hp =>
    intro _ h
    have := h p hp
    rw [h1.sol hs] at this
    omega
  | done => intro e; cases e
  | @ringL st st1 n p m v x h1 hx hv v1 v2 hk _ ih =>
    intro _ h
    have e := (hs p x hx).2.1 hk
    refine ih rfl (fun q hq => ?_)
    have hz : (ρ x.a).sz < (ρ p).sz := by rw [e, KT.sz]; omega
    by_cases eq : p = q
    · subst eq; exact hz
    · rw [get_set_ne eq] at hq
      have := h q hq
      rw [h1.sol hs] at this
      omega
  | @ringR st st1 st2 n p m v x h1 hx hv v1 v2 hk hf _ _ ih =>
    intro _ h
    have e := (hs p x hx).2.1 hk
    refine ih rfl (fun q hq => ?_)
    have hz : (ρ x.b).sz < (ρ p).sz := by rw [e, KT.sz]; omega
    have hq := hf.ones rfl q hq
    by_cases eq : p = q
    · subst eq; exact hz
    · rw [get_set_ne eq] at hq
      have := h q hq
      rw [h1.sol hs] at this
      omega
  | no => intro e; cases e
def zer (v : Nat) : Bool := v == 0
theorem zer_set : ∀ {st : List Nat} {p : Nat}, st[p]? = some 0 → (st.set p 1).countP zer < st.countP zer
  | [], p, h => by simp at h
  | z :: st, 0, h => by
    injection h with h
    subst h
    rw [List.set_cons_zero, List.countP_cons, List.countP_cons]
    simp [zer]
  | z :: st, p + 1, h => by
    have := zer_set (st := st) (p := p) h
    rw [List.set_cons_succ, List.countP_cons, List.countP_cons]
    omega
theorem zer_set2 : ∀ {st : List Nat} {p : Nat}, (st.set p 2).countP zer ≤ st.countP zer
  | [], p => by simp
  | z :: st, 0 => by
    rw [List.set_cons_zero, List.countP_cons, List.countP_cons]
    simp [zer]
  | z :: st, p + 1 => by
    have := zer_set2 (st := st) (p := p)
    rw [List.set_cons_succ, List.countP_cons, List.countP_cons]
    omega
theorem GRound.tot {s : List GN} (w : GWF s) : ∀ (c : Nat) (st : List Nat) (n : Nat), st.countP zer ≤ c → st.length = s.length → n < s.length → (∀ (p v : Nat), st[p]? = some v → v ≤ 2) → ∃ r st', GRound s st n r st' ∧ st'.countP zer ≤ st.countP zer ∧ (∀ (p v : Nat), st'[p]? = some v → v ≤ 2) := by
  intro c
  induction c with
  | zero =>
    intro st n hc hl hn hv
    obtain ⟨m, p, h1⟩ := w.fin n hn
    obtain ⟨_, hp, x, hx, h3⟩ := h1.lt
    have hv2 := List.getElem?_eq_getElem (l := st) (i := p) (by omega)
    by_cases v1 : st[p]'(by omega) = 1
    · exact ⟨true, st, .on h1 (by rw [hv2, v1]), Nat.le_refl _, hv⟩
    by_cases v2 : st[p]'(by omega) = 2
    · exact ⟨false, st, .done h1 hx hv2 v1 (.inl v2), Nat.le_refl _, hv⟩
    by_cases hk : x.k = 2
    · have := hv p _ hv2
      have v0 : st[p]'(by omega) = 0 := by omega
      have := zer_set (st := st) (p := p) (by rw [hv2, v0])
      omega
    · exact ⟨false, st, .done h1 hx hv2 v1 (.inr hk), Nat.le_refl _, hv⟩
  | succ c ih =>
    intro st n hc hl hn hv
    obtain ⟨m, p, h1⟩ := w.fin n hn
    obtain ⟨_, hp, x, hx, h3⟩ := h1.lt
    have hv2 := List.getElem?_eq_getElem (l := st) (i := p) (by omega)
    by_cases v1 : st[p]'(by omega) = 1
    · exact ⟨true, st, .on h1 (by rw [hv2, v1]), Nat.le_refl _, hv⟩
    by_cases v2 : st[p]'(by omega) = 2
    · exact ⟨false, st, .done h1 hx hv2 v1 (.inl v2), Nat.le_refl _, hv⟩
    by_cases hk : x.k = 2
    rotate_left
    · exact ⟨false, st, .done h1 hx hv2 v1 (.inr hk), Nat.le_refl _, hv⟩
    have := hv p _ hv2
    have v0 : st[p]'(by omega) = 0 := by omega
    have hz := zer_set (st := st) (p := p) (by rw [hv2, v0])
    have rg := (w.rng p x hx).2.1 hk
    have hvs : ∀ (q v : Nat), (st.set p 1)[q]? = some v → v ≤ 2 := fun q v hq => by
      by_cases e : p = q
      · subst e; have := get_set_eq hq; omega
      · rw [get_set_ne e] at hq; exact hv q v hq
    obtain ⟨r, st1, g1, z1, b1⟩ := ih (st.set p 1) x.a (by omega) (by rw [List.length_set]; exact hl) rg.1 hvs
    cases r with
    | true => exact ⟨true, st1, .ringL h1 hx hv2 v1 v2 hk g1, by omega, b1⟩
    | false =>
      obtain ⟨r, st2, g2, z2, b2⟩ := ih st1 x.b (by omega) (by rw [g1.len, List.length_set]; exact hl) rg.2 b1
      cases r with
      | true => exact ⟨true, st2, .ringR h1 hx hv2 v1 v2 hk g1 g2, by omega, b2⟩
      | false =>
        refine ⟨false, _, .no h1 hx hv2 v1 v2 hk g1 g2, ?_, fun q v hq => ?_⟩
        · have := zer_set2 (st := st2) (p := p); omega
        · by_cases e : p = q
          · subst e; have := get_set_eq hq; omega
          · rw [get_set_ne e] at hq; exact b2 q v hq
inductive GRounds (s : List GN) : List Nat → Nat → Bool → Prop
  | done {st : List Nat} {i : Nat} : s.length ≤ i → GRounds s st i false
  | ring {st st' : List Nat} {i : Nat} : i < s.length → GRound s st i true st' → GRounds s st i true
  | next {st st' : List Nat} {i : Nat} {r : Bool} : i < s.length → GRound s st i false st' → GRounds s st' (i + 1) r → GRounds s st i r
theorem GRounds.ok {s : List GN} (w : GWF s) {st : List Nat} {i : Nat} {r : Bool} (h : GRounds s st i r) : (∀ p : Nat, st[p]? ≠ some 1) → (∀ p, st[p]? = some 2 → Fin_ s p) → (∀ j, j < i → Fin_ s j) → (r = true → ∀ ρ, ¬ GSol s ρ) ∧ (r = false → ∀ j, j < s.length → Fin_ s j) := by
  induction h with
  | done hi => exact fun _ _ h => ⟨(fun e => by cases e), fun _ j hj => h j (by omega)⟩
  | ring hi hr => exact fun h1 _ _ => ⟨fun _ ρ hs => hr.ring hs rfl (fun q hq => absurd hq (h1 q)), (fun e => by cases e)⟩
  | @next st st' i r hi hr _ ih =>
    intro h1 h2 h3
    obtain ⟨f1, f2⟩ := hr.fin w rfl h2
    exact ih (fun p hp => h1 p (hr.ones rfl p hp)) f2 (fun j hj => by
      by_cases e : j = i
      · subst e; exact f1
      · exact h3 j (by omega))
theorem GRounds.tot {s : List GN} (w : GWF s) : ∀ (n i : Nat) (st : List Nat), s.length - i = n → st.length = s.length → (∀ (p v : Nat), st[p]? = some v → v ≤ 2) → ∃ r, GRounds s st i r := by
  intro n
  induction n with
  | zero => intro i st hn hl hv; exact ⟨false, .done (by omega)⟩
  | succ n ih =>
    intro i st hn hl hv
    obtain ⟨r, st', h, _, hv'⟩ := GRound.tot w _ st i (Nat.le_refl _) hl (by omega) hv
    cases r with
    | true => exact ⟨true, .ring (by omega) h⟩
    | false =>
      obtain ⟨r, hr⟩ := ih (i + 1) st' (by omega) (h.len.trans hl) hv'
      exact ⟨r, .next (by omega) h hr⟩
theorem WF_of_fin {s : List GN} (w : GWF s) (hf : ∀ j, j < s.length → Fin_ s j) : ∃ h, WF (s.map toK) h := by
  have least : ∀ j, j < s.length → ∃ m, finD s m j ∧ ∀ m', finD s m' j → m ≤ m' := by
    intro j hj
    obtain ⟨m, hm⟩ := hf j hj
    induction m using Nat.strongRecOn with
    | _ m ih =>
      by_cases h : ∃ m', m' < m ∧ finD s m' j
      · obtain ⟨m', h1, h2⟩ := h
        exact ih m' h1 h2
      · exact ⟨m, hm, fun m' hm' => by
          rcases Nat.lt_or_ge m' m with h1 | h1
          · exact absurd ⟨m', h1, hm'⟩ h
          · exact h1⟩
  have : ∃ h : Nat → Nat, ∀ j, j < s.length → finD s (h j) j ∧ ∀ m', finD s m' j → h j ≤ m' := by
    refine ⟨fun j => if hj : j < s.length then Classical.choose (least j hj) else 0, fun j hj => ?_⟩
    simp only [dif_pos hj]
    exact Classical.choose_spec (least j hj)
  obtain ⟨h, hh⟩ := this
  have down : ∀ (i : Nat) (n : GN), s[i]? = some n → (n.k = 3 → h n.a < h i) ∧ (n.k = 2 → h n.a < h i ∧ h n.b < h i) := by
    intro i n hn
    have hi : i < s.length := (List.getElem?_eq_some_iff.1 hn).1
    have rg := w.rng i n hn
    obtain ⟨h1, _⟩ := hh i hi
    cases hm : h i with
    | zero => rw [hm] at h1; exact h1.elim
    | succ m =>
      rw [hm] at h1
      obtain ⟨n', hn', hc⟩ := h1
      rw [hn] at hn'
      injection hn' with hn'
      subst hn'
      refine ⟨fun k3 => ?_, fun k2 => ?_⟩
      · rcases hc with hc | hc | ⟨_, hc⟩ | ⟨hc, _⟩
        · omega
        · omega
        · have := (hh n.a (rg.2.2 k3)).2 m hc; omega
        · omega
      · rcases hc with hc | hc | ⟨hc, _⟩ | ⟨_, hc, hd⟩
        · omega
        · omega
        · omega
        · have := (hh n.a (rg.2.1 k2).1).2 m hc
          have := (hh n.b (rg.2.1 k2).2).2 m hd
          omega
  refine ⟨h, ⟨?_, ?_, ?_, ?_, ?_⟩⟩ <;> (
    intro i m hm
    obtain ⟨n, hn, rfl⟩ := toK_get hm
    have rg := w.rng i n hn
    have dn := down i n hn
    by_cases k1 : n.k = 1
    · rw [toK1 k1]; try simp [inS]
    by_cases k2 : n.k = 2
    · have := rg.2.1 k2
      have := dn.2 k2
      rw [toK2 k2]
      try (simp [inS]; try omega)
    by_cases k3 : n.k = 3
    · have := rg.2.2 k3
      have := dn.1 k3
      rw [toK3 k3]
      try (simp [inS]; try omega)
    · rw [toK0 k1 k2 k3]; try simp [inS])
inductive GNodesL (s : List GN) : Nat → Nat → Nat → Nat → Prop
  | leaf {p most k : Nat} {x : GN} : s[p]? = some x → x.k ≠ 2 → GNodesL s p most k k
  | full {p most k : Nat} {x : GN} : s[p]? = some x → x.k = 2 → most < k → GNodesL s p most k k
  | step {p q e most k m c d r : Nat} {x : GN} : s[p]? = some x → x.k = 2 → k ≤ most → GEnd s c x.a e → GNodesL s e (most - k) 1 m → GEnd s d x.b q → GNodesL s q most (k + m) r → GNodesL s p most k r
theorem GNodesL.ok {s : List GN} (w : GWF s) {ρ : Nat → KT} (hs : GSol s ρ) (hl : ∀ (i : Nat) (n : GN), s[i]? = some n → n.k = 0 → ρ i = .o) {p most k r : Nat} (h : GNodesL s p most k r) : (∀ x, s[p]? = some x → x.k ≠ 3) → ((k : Int) + nS (ρ p) - 1 ≤ most → (r : Int) = k + nS (ρ p) - 1) ∧ ((most : Int) < k + nS (ρ p) - 1 → most < r) := by
  induction h with
  | @leaf p most k x hx hk =>
    intro h3
    have k3 := h3 x hx
    have rg := (w.rng p x hx).1
    have e : ρ p = .o := by
      by_cases k0 : x.k = 0
      · exact hl p x hx k0
      · exact (hs p x hx).1 (by omega)
    rw [e, nS]
    exact ⟨fun _ => by omega, fun h => by omega⟩
  | @full p most k x hx hk hm =>
    intro _
    have := nS_pos (ρ p)
    exact ⟨fun h => by omega, fun _ => hm⟩
  | @step p q e most k m c d r x hx hk hkm h1 _ h2 _ ih1 ih2 =>
    intro _
    obtain ⟨_, _, x1, e1, n1⟩ := h1.lt
    obtain ⟨_, _, x2, e2, n2⟩ := h2.lt
    obtain ⟨a1, a2⟩ := ih1 (fun y hy => by rw [e1] at hy; injection hy with hy; rw [← hy]; exact n1)
    obtain ⟨b1, b2⟩ := ih2 (fun y hy => by rw [e2] at hy; injection hy with hy; rw [← hy]; exact n2)
    rw [(hs p x hx).2.1 hk, nS, h1.sol hs, h2.sol hs]
    have p1 := nS_pos (ρ e)
    have p2 := nS_pos (ρ q)
    refine ⟨fun h => ?_, fun h => ?_⟩
    · have := a1 (by omega)
      have := b1 (by omega)
      omega
    · by_cases g : (1 : Int) + nS (ρ e) - 1 ≤ (most - k : Nat)
      · have := a1 g
        exact b2 (by omega)
      · have := a2 (by omega)
        exact b2 (by omega)
inductive GOutL (s : List GN) : Nat → List S41 → List S41 → Prop
  | leaf {p : Nat} {acc : List S41} {x : GN} : s[p]? = some x → x.k ≠ 2 → GOutL s p acc acc
  | step {p q e c d : Nat} {acc m out : List S41} {x : GN} : s[p]? = some x → x.k = 2 → GEnd s c x.a e → GOutL s e [] m → GEnd s d x.b q → GOutL s q (acc ++ [⟨m⟩]) out → GOutL s p acc out
theorem GOutL.ok {s : List GN} (w : GWF s) {ρ : Nat → KT} (hs : GSol s ρ) (hl : ∀ (i : Nat) (n : GN), s[i]? = some n → n.k = 0 → ρ i = .o) {p : Nat} {acc out : List S41} (h : GOutL s p acc out) : (∀ x, s[p]? = some x → x.k ≠ 3) → out = acc ++ toS (ρ p) := by
  induction h with
  | @leaf p acc x hx hk =>
    intro h3
    have k3 := h3 x hx
    have rg := (w.rng p x hx).1
    have e : ρ p = .o := by
      by_cases k0 : x.k = 0
      · exact hl p x hx k0
      · exact (hs p x hx).1 (by omega)
    rw [e, toS, List.append_nil]
  | @step p q e c d acc m out x hx hk h1 _ h2 _ ih1 ih2 =>
    intro _
    obtain ⟨_, _, x1, e1, n1⟩ := h1.lt
    obtain ⟨_, _, x2, e2, n2⟩ := h2.lt
    have a1 := ih1 (fun y hy => by rw [e1] at hy; injection hy with hy; rw [← hy]; exact n1)
    have b1 := ih2 (fun y hy => by rw [e2] at hy; injection hy with hy; rw [← hy]; exact n2)
    rw [b1, a1, (hs p x hx).2.1 hk, toS, h1.sol hs, h2.sol hs, List.nil_append, List.append_assoc]
    rfl
theorem GEnd.hgt {s : List GN} {h : Nat → Nat} (w : WF (s.map toK) h) {m i r : Nat} (e : GEnd s m i r) : h r ≤ h i := by
  induction e with
  | stop => exact Nat.le_refl _
  | @go m i r n h1 h2 _ ih =>
    have := (w.dec i (toK n) (by rw [List.getElem?_map, h1]; rfl)).1 n.a (by rw [toK3 h2])
    omega
theorem GNodesL.tot {s : List GN} (w : GWF s) {h : Nat → Nat} (wf : WF (s.map toK) h) : ∀ (c p most k : Nat), h p < c → p < s.length → (∀ x, s[p]? = some x → x.k ≠ 3) → ∃ r, GNodesL s p most k r := by
  intro c
  induction c with
  | zero => intro p most k hc; omega
  | succ c ih =>
    intro p most k hc hp h3
    have hx := List.getElem?_eq_getElem hp
    by_cases hk : (s[p]).k = 2
    rotate_left
    · exact ⟨k, .leaf hx hk⟩
    by_cases hm : most < k
    · exact ⟨k, .full hx hk hm⟩
    have rg := (w.rng p _ hx).2.1 hk
    have dn := wf.dec p (toK s[p]) (by rw [List.getElem?_map, hx]; rfl)
    have d1 := dn.2.1 (s[p]).a (by rw [toK2 hk])
    have d2 := dn.2.2 (s[p]).b (by rw [toK2 hk])
    obtain ⟨i1, e, h1⟩ := w.fin _ rg.1
    obtain ⟨i2, q, h2⟩ := w.fin _ rg.2
    have g1 := h1.hgt wf
    have g2 := h2.hgt wf
    obtain ⟨_, le, x1, e1, n1⟩ := h1.lt
    obtain ⟨_, lq, x2, e2, n2⟩ := h2.lt
    obtain ⟨m, hm1⟩ := ih e (most - k) 1 (by omega) le (fun y hy => by rw [e1] at hy; injection hy with hy; rw [← hy]; exact n1)
    obtain ⟨r, hr⟩ := ih q most (k + m) (by omega) lq (fun y hy => by rw [e2] at hy; injection hy with hy; rw [← hy]; exact n2)
    exact ⟨r, .step hx hk (by omega) h1 hm1 h2 hr⟩
theorem GOutL.tot {s : List GN} (w : GWF s) {h : Nat → Nat} (wf : WF (s.map toK) h) : ∀ (c p : Nat) (acc : List S41), h p < c → p < s.length → (∀ x, s[p]? = some x → x.k ≠ 3) → ∃ r, GOutL s p acc r := by
  intro c
  induction c with
  | zero => intro p acc hc; omega
  | succ c ih =>
    intro p acc hc hp h3
    have hx := List.getElem?_eq_getElem hp
    by_cases hk : (s[p]).k = 2
    rotate_left
    · exact ⟨acc, .leaf hx hk⟩
    have rg := (w.rng p _ hx).2.1 hk
    have dn := wf.dec p (toK s[p]) (by rw [List.getElem?_map, hx]; rfl)
    have d1 := dn.2.1 (s[p]).a (by rw [toK2 hk])
    have d2 := dn.2.2 (s[p]).b (by rw [toK2 hk])
    obtain ⟨i1, e, h1⟩ := w.fin _ rg.1
    obtain ⟨i2, q, h2⟩ := w.fin _ rg.2
    have g1 := h1.hgt wf
    have g2 := h2.hgt wf
    obtain ⟨_, le, x1, e1, n1⟩ := h1.lt
    obtain ⟨_, lq, x2, e2, n2⟩ := h2.lt
    obtain ⟨m, hm1⟩ := ih e [] (by omega) le (fun y hy => by rw [e1] at hy; injection hy with hy; rw [← hy]; exact n1)
    obtain ⟨r, hr⟩ := ih q (acc ++ [⟨m⟩]) (by omega) lq (fun y hy => by rw [e2] at hy; injection hy with hy; rw [← hy]; exact n2)
    exact ⟨r, .step hx hk h1 hm1 h2 hr⟩
mutual
theorem GSort.totS {hd : Int → Int → Option Nat} {P F S : Int} (hk : ∀ kd n, isK kd = true → 0 ≤ n → n < manyK kd P F S → ∃ m, hd kd n = some m) : ∀ (x : S44) (s : List GN), GWF s → (∀ k n m, hd k n = some m → m < s.length) → knownS x P F S = true → ∃ m r s', hd x.f0 x.f1 = some m ∧ GSort hd s m x.f2 r s'
  | ⟨kd, n, l⟩, s, w, hh, h => by
    unfold knownS at h
    simp only [Bool.and_eq_true, decide_eq_true_eq] at h
    obtain ⟨⟨hkd, hn, hlt⟩, hkl⟩ := h
    obtain ⟨m, hm⟩ := hk kd n hkd hn hlt
    obtain ⟨r, s', hs⟩ := GSort.totL hk l s m w (hh _ _ _ hm) hh hkl
    exact ⟨m, r, s', hm, hs⟩
theorem GSort.totL {hd : Int → Int → Option Nat} {P F S : Int} (hk : ∀ kd n, isK kd = true → 0 ≤ n → n < manyK kd P F S → ∃ m, hd kd n = some m) : ∀ (l : List S44) (s : List GN) (n : Nat), GWF s → n < s.length → (∀ k n m, hd k n = some m → m < s.length) → knownL l P F S = true → ∃ r s', GSort hd s n l r s'
  | [], s, n, w, hn, hh, h => ⟨_, _, .nil⟩
  | x :: xs, s, n, w, hn, hh, h => by
    unfold knownL at h
    rw [Bool.and_eq_true] at h
    obtain ⟨m, r, s1, hm, h1⟩ := GSort.totS hk x s w hh h.1
    cases r with
    | none => exact ⟨_, _, .bad hm h1⟩
    | some a =>
      have T := h1.ok w (hh _ _ _ hm) hh
      obtain ⟨hal, x1, _, _⟩ := T.yes a rfl
      obtain ⟨x3, l3, _⟩ := gtwo x1.wf hal
      obtain ⟨r, s2, hu⟩ := GUni.tot _ (s1 ++ [⟨0, 0, 0⟩] ++ [⟨2, a, s1.length⟩]) n (s1.length + 1) x3.wf (Nat.le_refl _) (by rw [l3]; have := x1.len; omega) (by rw [l3]; omega)
      cases r with
      | false => exact ⟨_, _, .clash hm h1 hu⟩
      | true =>
        have U := hu.ok x3.wf
        have l4 : s2.length = s1.length + 2 := U.len.trans l3
        obtain ⟨r, s3, h2⟩ := GSort.totL hk xs s2 s1.length U.wf (by omega) (fun k n m hm => by have := hh k n m hm; have := x1.len; omega) h.2
        exact ⟨_, _, .step hm h1 hu h2⟩
end
end Go.Proofs.Ytfhgoebgnilfaaa.I
namespace Go.Proofs.Ytfhgoebgnilfaaa.I
open Go.RowKit Go.Proofs.YtfhgoebgnilfaaaW.PrintWords Go.Proofs.YtfhgoebgnilfaaaW.PrintLast Go.Proofs.YtfhgoebgnilfaaaW.PrintMore
attribute [local go_sem] max2_int min2_int max_two min_two max_three min_three max_four min_four
set_option linter.unusedVariables false
set_option maxRecDepth 100000
set_option linter.unusedSimpArgs false
def gv (n : GN) : S114 := ⟨(n.k : Int), (n.a : Int), (n.b : Int)⟩
def GM (gg B : Nat) (row : Option Nat) (w : World) (s : List GN) : Prop := B ≤ gg ∧ ∃ (A : Option Addr) (c : Nat), w.heap[gg]? = some (.cells #[.slice A s.length c] 90 (0, 0)) ∧ Kd.R k114 114 w B (fun _ => True) (.slice A s.length c) (s.map gv) ∧ row = (Value.slice A s.length c).ownBlock
theorem GM.keep {gg B : Nat} {row : Option Nat} {w w' : World} {s : List GN} (h : GM gg B row w s) (hb : Below w.heap.size w w') : GM gg B row w' s := by
  obtain ⟨h0, A, c, h1, h2, h3⟩ := h
  exact ⟨h0, A, c, blk_below h1 hb, Kd.R_below h2 hb, h3⟩
structure GKeep (gg : Nat) (row row' : Option Nat) (w w' : World) : Prop where
  os : w'.os = w.os
  tape : w'.tape = w.tape
  output : w'.output = w.output
  keep : KeepBut w w' gg row
  nxt : row' = row ∨ ∃ b, row' = some b ∧ w.heap.size ≤ b
variable {gg B : Nat} {row row' row'' : Option Nat} {w w' w0 w1 w2 : World} {s s' : List GN}
theorem GKeep.refl (gg : Nat) (row : Option Nat) (w : World) : GKeep gg row row w w := ⟨rfl, rfl, rfl, KeepBut.refl _ _ _, .inl rfl⟩
theorem GKeep.trans (h : GKeep gg row row' w w1) (k : GKeep gg row' row'' w1 w2) : GKeep gg row row'' w w2 := by
  refine ⟨k.os.trans h.os, k.tape.trans h.tape, k.output.trans h.output, h.keep.trans k.keep h.nxt, ?_⟩
  rcases k.nxt with e | ⟨b, e, hb⟩
  · rw [e]; exact h.nxt
  · exact .inr ⟨b, e, Nat.le_trans h.keep.1 hb⟩
theorem GKeep.size (h : GKeep gg row row' w w') : w.heap.size ≤ w'.heap.size := h.keep.1
theorem GKeep.of_below (gg : Nat) (row : Option Nat) (h : Below w.heap.size w w') : GKeep gg row row w w' := ⟨h.os, h.tape, h.output, KeepBut.of_below h _ _, .inl rfl⟩
theorem GM.typed (h : GM gg B row w s) : (∃ c, w.heap[gg]? = some (.cells c 90 (0, 0))) ∧ ∀ k, row = some k → B ≤ k ∧ ∃ c, w.heap[k]? = some (.cells c 114 (0, 0)) := by
  obtain ⟨h0, A, c, h1, h2, h3⟩ := h
  refine ⟨⟨_, h1⟩, fun k hk => ⟨?_, Kd.R_typed h2 k (h3.symm.trans hk)⟩⟩
  obtain ⟨inner, ho⟩ := Kd.R_own h2
  exact own_base ho k (h3.symm.trans hk)
theorem GKeep.elder (h : GKeep gg row row' w w') (hM : GM gg B row w s) (hB : Below B w0 w) (hs : B ≤ w.heap.size) : Below B w0 w' :=
  ⟨h.os.trans hB.os, h.tape.trans hB.tape, h.output.trans hB.output, Nat.le_trans hB.size h.size, fun k hk => (h.keep.2 k (by omega) (by have := hM.1; omega) (fun e => by have := (hM.typed.2 k e.symm).1; omega)).trans (hB.block k hk)⟩
theorem GKeep.blk {k t : Nat} {c : Array Value} (h : GKeep gg row row' w w') (hM : GM gg B row w s) (hk : w.heap[k]? = some (.cells c t (0, 0))) (ht : t ≠ 114 ∧ t ≠ 90) : w'.heap[k]? = some (.cells c t (0, 0)) := by
  refine (h.keep.2 k (blk_lt hk) (fun e => ?_) (fun e => ?_)).trans hk
  · subst e; obtain ⟨c1, h1⟩ := hM.typed.1; exact ht.2 (blk_type hk h1)
  · obtain ⟨_, c1, h1⟩ := hM.typed.2 k e.symm; exact ht.1 (blk_type hk h1)
theorem GKeep.R {α : Type} {d : Kd α} {e b : Nat} {ok : Nat → Prop} {v : Value} {xs : List α} (h : GKeep gg row row' w w') (hM : GM gg B row w s) (hR : d.R e w b ok v xs) (ht : ∀ q, q ∈ e :: d.E → q ≠ 114 ∧ q ≠ 90) : d.R e w' b ok v xs :=
  Kd.R_mono (Kd.R_move (Kd.R_bound hR) (fun k hk => by
    obtain ⟨_, _, hl, q, hq, cells, hc⟩ := hk
    rw [h.blk hM hc (ht q hq), hc])) (fun _ hk => hk.1)
theorem gmap_len (s : List GN) : (s.map gv).length = s.length := List.length_map ..
theorem GM_at {g c i : Nat} {x : GN} (h : Kd.R k114 114 w B (fun _ => True) (.slice (some ⟨g, 0, none⟩) s.length c) (s.map gv)) (hx : s[i]? = some x) :
    w.cell? ⟨g, i * 3, none⟩ = some (.int .i64 (x.k : Int)) ∧ w.cell? ⟨g, i * 3 + 1, none⟩ = some (.int .i64 (x.a : Int)) ∧ w.cell? ⟨g, i * 3 + 2, none⟩ = some (.int .i64 (x.b : Int)) := by
  have hi : i < s.length := (List.getElem?_eq_some_iff.1 hx).1
  obtain ⟨co, _, hM, hcc, _⟩ := Kd.R_elem h z114 (i : Int) (by omega) (by omega)
  have e := k114_openM hM
  subst e
  have y0 := hcc 0 _ rfl
  have y1 := hcc 1 _ rfl
  have y2 := hcc 2 _ rfl
  have he : (s.map gv).getD (i : Int).toNat z114 = gv x := by rw [Int.toNat_natCast, List.getD_eq_getElem?_getD, List.getElem?_map, hx]; rfl
  rw [he, Int.toNat_natCast] at y0 y1 y2
  exact ⟨y0, y1, y2⟩
theorem GM.form (h : GM gg B row w s) (hz : 0 < s.length) : ∃ (g c : Nat) (cells : Array Value), row = some g ∧ w.heap[gg]? = some (.cells #[.slice (some ⟨g, 0, none⟩) s.length c] 90 (0, 0)) ∧ Kd.R k114 114 w B (fun _ => True) (.slice (some ⟨g, 0, none⟩) s.length c) (s.map gv) ∧ B ≤ gg ∧ B ≤ g ∧ w.heap[g]? = some (.cells cells 114 (0, 0)) := by
  obtain ⟨h0, A, c, h1, h2, h3⟩ := h
  obtain ⟨g, cap, e, hB, _, cells, hg⟩ := Kd.R_form h2 (by rw [gmap_len]; exact hz)
  injection e with e1 _ e2
  subst e1 e2
  exact ⟨g, c, cells, h3.trans rfl, h1, h2, h0, hB, hg⟩
set_option maxHeartbeats 2000000 in
theorem end_calls {m i r : Nat} (h : GEnd s m i r) (hM : GM gg B row w s) (hl : s.length ≤ 1000000) :
    Calls Try.prog 63 #[.pointer (some ⟨gg, 0, none⟩), .int .i64 (i : Int)] w fun e w' => e = .returned (.int .i64 (r : Int)) ∧ w' = w := by
  have hu114 := Try.underlying114
  have hu90 := Try.underlying90
  have hil := h.lt
  obtain ⟨g, c, cells, _, hgg, hR, hB, hBg, hg⟩ := hM.form (by omega)
  have HR := Aside0.mk hR
  have H := Aside0.mk h
  have hq : w.cell? ⟨gg, 0, none⟩ = some (.slice (some ⟨g, 0, none⟩) s.length c) := (blk_cell hgg 0).trans rfl
  clear hR h hM hil hgg hg
  go_enter Try.func63, Try.ntmps63
  go_wp2_with fail
  go_loopg [1] m (fun kq v1 wr => ∃ (n : Nat), v1 = .int .i64 (n : Int) ∧ Aside0 (GEnd s kq n r) ∧ wr = w)
  case atStart => exact ⟨i, rfl, H, rfl⟩
  case round =>
    clear H
    obtain ⟨n, rfl, HE, rfl⟩ := hrel
    have hnl := HE.out.lt
    have hn1 := hnl.1
    clear hnl
    have p1 : (0 ≤ (n : Int)) = True := eq_true (by omega)
    have p2 : ((n : Int) < (s.length : Int)) = True := eq_true (by omega)
    have p3 : (n < s.length) = True := eq_true (by omega)
    cases hE : HE.out with
    | @stop _ x hx hk =>
      obtain ⟨y0, y1, y2⟩ := GM_at HR.out hx
      have hd : ((x.k : Int) == 3) = false := by rw [beq_eq_false_iff_ne]; omega
      have hd2 : decide (x.k = 3) = false := decide_eq_false hk
      go_wp2_with fail
      go_ret
      exact ⟨rfl, rfl⟩
    | @go m' _ _ x hx hk hE' =>
      obtain ⟨y0, y1, y2⟩ := GM_at HR.out hx
      have hd : ((x.k : Int) == 3) = true := by rw [beq_iff_eq]; omega
      have hd2 : decide (x.k = 3) = true := decide_eq_true hk
      have HE2 := Aside0.mk hE'
      clear hE HE hE' hk
      go_wp2_with fail
      go_roundg m'
      case measure => omega
      case rel => exact ⟨x.a, rfl, HE2, rfl⟩
set_option maxHeartbeats 2000000 in
theorem add_calls {k a b : Nat} {ki ai bi : Int} (hk : ki = (k : Int)) (ha : ai = (a : Int)) (hb : bi = (b : Int)) (hM : GM gg B row w s) (hBw : B ≤ w.heap.size) (hl : s.length ≤ 1000000) :
    Calls Try.prog 42 #[.pointer (some ⟨gg, 0, none⟩), .int .i64 ki, .int .i64 ai, .int .i64 bi] w fun e w' => ∃ row', e = .returned (.int .i64 (s.length : Int)) ∧ GM gg B row' w' (s ++ [⟨k, a, b⟩]) ∧ GKeep gg row row' w w' := by
  have hu114 := Try.underlying114
  have hu90 := Try.underlying90
  subst hk ha hb
  obtain ⟨h0, A, c, h1, h2, rfl⟩ := hM
  have HR := Aside0.mk h2
  have H1 := Aside0.mk h1
  have HB := Aside0.mk (Below.refl w.heap.size w)
  have H0 := Aside0.mk h0
  have HBw := Aside0.mk hBw
  have hq : w.cell? ⟨gg, 0, none⟩ = some (.slice A s.length c) := (blk_cell h1 0).trans rfl
  have hf : w.frozen? ⟨gg, 0, none⟩ = false := blk_frozen h1 0
  clear h0 h1 h2 hBw
  go_enter Try.func42, Try.ntmps42
  go_wp2_with (at_builtin; refine holdI5 ?_)
  unfold HoldI5
  refine Kd.R_append k114 (w0 := w) B rfl (.tmp 13) (.tmp 18) 88 114 (.agg #[.int .i64 0, .int .i64 0, .int .i64 0]) 24 rfl Try.underlying88 (by kernel_rfl) rfl (by decide) (by omega) (.slice A s.length c) (s.map gv) (gv ⟨k, a, b⟩) [.int .i64 (k : Int), .int .i64 (a : Int), .int .i64 (b : Int)] (fun _ => True) (fun _ => False) rfl rfl (k114_mkM _ _ _ (gv ⟨k, a, b⟩)) (fun _ hk => hk.elim) (fun _ _ => trivial) HR.out (Below.refl _ _) HBw.out (by rw [gmap_len]; omega) ?_
  intro v1 w1 hr1 hb1 hg1 hat
  have hty : ∀ q, (Value.slice A s.length c).ownBlock = some q → ∃ cells, w.heap[q]? = some (.cells cells 114 (0, 0)) := Kd.R_typed HR.out
  have HK1 := Aside0.mk (show GKeep gg (Value.slice A s.length c).ownBlock v1.ownBlock w w1 from ⟨hg1.os, hg1.tape, hg1.output, KeepBut.of_grown hg1 _, hat⟩)
  have HG1 := Aside0.mk (blk_grownT H1.out hg1 (fun q hq => by obtain ⟨cells, hc⟩ := hty q hq; exact ⟨114, cells, by decide, hc⟩))
  rw [show s.map gv ++ [gv ⟨k, a, b⟩] = (s ++ [(⟨k, a, b⟩ : GN)]).map gv from by rw [List.map_append]; rfl] at hr1
  obtain ⟨A1, c1, rfl⟩ := Kd.R_slice hr1
  rw [show ((s ++ [(⟨k, a, b⟩ : GN)]).map gv).length = s.length + 1 from by rw [gmap_len, List.length_append]; rfl] at hr1 ⊢
  have HR1 := Aside0.mk hr1
  have hf1 : w1.frozen? ⟨gg, 0, none⟩ = false := blk_frozen HG1.out 0
  have hq1 : w1.cell? ⟨gg, 0, none⟩ = some (.slice A s.length c) := (blk_cell HG1.out 0).trans rfl
  have HG2 := Aside0.mk (blk_put (cs' := #[.slice A1 (s.length + 1) c1]) HG1.out 0 (.slice A1 (s.length + 1) c1) rfl)
  clear hr1 hb1 hg1 hty hat hq hf HR H1
  have pw : wrap64 (((s.length + 1 : Nat) : Int) - 1) = (s.length : Int) := by unfold wrap64; omega
  go_wp2_with fail
  go_ret
  refine ⟨_, rfl, ⟨H0.out, A1, c1, ?_, ?_, rfl⟩, ⟨HK1.out.os, HK1.out.tape, HK1.out.output, HK1.out.keep.set_ 0 _, ?_⟩⟩
  · rw [List.length_append]; exact HG2.out
  · rw [List.length_append]; exact Kd.R_set HR1.out HG1.out (by decide) 0 _
  · have h := HK1.out.nxt
    rw [gmap_len] at h
    exact h
theorem gchainR_len : ∀ (ps : List Nat) (s : List GN) (d0 : Nat), (gchainR s d0 ps).2.length = s.length + ps.length
  | [], s, d0 => rfl
  | p :: ps, s, d0 => by
    show (gchainR (s ++ [⟨2, p, d0⟩]) s.length ps).2.length = _
    rw [gchainR_len ps, List.length_append, List.length_cons, List.length_cons]
    simp only [List.length_nil]
    omega
def ints (ps : List Nat) : List Int := ps.map (fun (p : Nat) => (p : Int))
theorem ints_len (ps : List Nat) : (ints ps).length = ps.length := List.length_map ..
theorem ints_at {A : Option Addr} {ps : List Nat} (h : Kd.C (Kd.int .i64) w A ps.length (ints ps)) {i : Nat} (hi : i < ps.length) : ∃ ad, A = some ad ∧ w.cell? (ad.add i) = some (.int .i64 (ps[i] : Int)) := by
  obtain ⟨ad, c, e, _, hK, hc⟩ := Kd.C_get h 0 (i : Int) (by omega) (by omega)
  refine ⟨ad, e, ?_⟩
  have hd : (ints ps).getD (i : Int).toNat 0 = (ps[i] : Int) := by
    unfold ints
    rw [Int.toNat_natCast, List.getD_eq_getElem?_getD, List.getElem?_map, List.getElem?_eq_getElem hi]
    rfl
  rw [hd] at hK
  have e2 : c = [.int .i64 (ps[i] : Int)] := hK
  subst e2
  have := hc 0 _ rfl
  rw [Int.toNat_natCast] at this
  exact (congrArg (fun j => w.cell? (ad.add j)) (show i = i * (Kd.int .i64).sz + 0 from by show i = i * 1 + 0; omega)).trans this
set_option maxHeartbeats 2000000 in
theorem chain_calls {c d0 : Nat} {A : Option Addr} {ps : List Nat} (hM : GM gg B row w s) (hBw : B ≤ w.heap.size) (hl : s.length + ps.length ≤ 1000000) (hC : ∀ w' row', GKeep gg row row' w w' → Kd.C (Kd.int .i64) w' A ps.length (ints ps)) :
    Calls Try.prog 43 #[.pointer (some ⟨gg, 0, none⟩), .slice A ps.length c, .int .i64 (d0 : Int)] w fun e w' => ∃ row', e = .returned (.int .i64 ((gchain s ps d0).1 : Int)) ∧ GM gg B row' w' (gchain s ps d0).2 ∧ GKeep gg row row' w w' := by
  have hu114 := Try.underlying114
  have hu90 := Try.underlying90
  have HM := Aside0.mk hM
  have HC := Aside0.mk hC
  have HBw := Aside0.mk hBw
  have pl : IntKind.i64.wrap ((ps.length : Int) - 1) = (ps.length : Int) - 1 := IntWalk.i64_in _ (by omega)
  clear hM hC hBw
  go_enter Try.func43, Try.ntmps43
  go_wp2_with fail
  go_loopg [2, 7] ps.length (fun kq v2 v7 wr => ∃ (cur : Nat) (s' : List GN) (rw' : Option Nat), v2 = .int .i64 (cur : Int) ∧ v7 = .int .i64 ((kq : Int) - 1) ∧ Aside0 (kq ≤ ps.length) ∧ Aside0 (s'.length + kq ≤ 1000000) ∧ Aside0 (gchainR s' cur (ps.take kq).reverse = gchain s ps d0) ∧ Aside0 (GM gg B rw' wr s') ∧ Aside0 (GKeep gg row rw' w wr))
  case atStart => exact ⟨d0, s, row, rfl, rfl, ⟨Nat.le_refl _⟩, ⟨hl⟩, ⟨by rw [List.take_length]; rfl⟩, HM, ⟨GKeep.refl _ _ _⟩⟩
  case round =>
    clear HM pl
    obtain ⟨cur, s', rw', rfl, h7, Hk, Hl, HG, HM, HK⟩ := hrel
    cases gk with
    | zero =>
      have e0 : (((0 : Nat) : Int) - 1) = -1 := by omega
      rw [e0] at h7
      subst h7
      have HG' := HG.out
      rw [List.take_zero, List.reverse_nil] at HG'
      have e1 : (gchain s ps d0).1 = cur := by rw [← HG']; rfl
      have e2 : (gchain s ps d0).2 = s' := by rw [← HG']; rfl
      have E1 := Aside0.mk e1
      have E2 := Aside0.mk e2
      clear HG HG' e1 e2 e0
      go_wp2_with fail
      go_ret
      rw [E1.out, E2.out]
      exact ⟨_, rfl, HM.out, HK.out⟩
    | succ r =>
      have e0 : (((r + 1 : Nat) : Int) - 1) = (r : Int) := by omega
      rw [e0] at h7
      subst h7
      have hr : r < ps.length := by have := Hk.out; omega
      obtain ⟨ad, rfl, hx⟩ := ints_at (HC.out _ _ HK.out) hr
      have HG2 := Aside0.mk (show gchainR (s' ++ [⟨2, ps[r], cur⟩]) s'.length (ps.take r).reverse = gchain s ps d0 from by
        rw [← HG.out, List.take_add_one, List.getElem?_eq_getElem hr, Option.toList_some, List.reverse_append]
        rfl)
      have p1 : (0 ≤ (r : Int)) = True := eq_true (by omega)
      have p2 : ((r : Int) < (ps.length : Int)) = True := eq_true (by omega)
      have p3 : (r < ps.length) = True := eq_true (by omega)
      clear e0 HG
      generalize ps[r] = x at *
      go_wp2_with fail
      (with_reducible refine (add_calls (k := 2) (ki := 2) (a := x) (b := cur) rfl rfl rfl HM.out ?hb (by have := Hl.out; omega)).mono ?_)
      (case hb => have := HK.out.size; have := HBw.out; omega)
      rintro e w1 ⟨rw1, rfl, hM1, hK1⟩
      have HM1 := Aside0.mk hM1
      have HK1 := Aside0.mk (HK.out.trans hK1)
      clear hM1 hK1 HM HK hx
      have pw : IntKind.i64.wrap ((r : Int) - 1) = (r : Int) - 1 := IntWalk.i64_in _ (by have := Hl.out; omega)
      go_wp2_with fail
      go_roundg r
      case measure => omega
      case rel => exact ⟨s'.length, s' ++ [⟨2, x, cur⟩], rw1, rfl, rfl, ⟨by have := Hk.out; omega⟩, ⟨by rw [List.length_append]; have := Hl.out; simp only [List.length_cons, List.length_nil]; omega⟩, HG2, HM1, HK1⟩
end Go.Proofs.Ytfhgoebgnilfaaa.I
namespace Go.Proofs.Ytfhgoebgnilfaaa.I
open Go.RowKit Go.Proofs.YtfhgoebgnilfaaaW.PrintWords Go.Proofs.YtfhgoebgnilfaaaW.PrintLast Go.Proofs.YtfhgoebgnilfaaaW.PrintMore
attribute [local go_sem] max2_int min2_int max_two min_two max_three min_three max_four min_four
set_option linter.unusedVariables false
set_option maxRecDepth 100000
set_option linter.unusedSimpArgs false
theorem cellA {w : World} {p : Addr} {v : Value} (h : w.cell? p = some v) : ∀ o : Obj, (w.alloc o).cell? p = some v := fun o => cell_up (below_alloc (Below.refl _ _) o) h
theorem cellAA {w : World} {p : Addr} {v : Value} (h : w.cell? p = some v) : ∀ o o' : Obj, ((w.alloc o).alloc o').cell? p = some v := fun o o' => cellA (cellA h o) o'
theorem two_made (w : World) (a b : Array Value) (t : Nat) : Below w.heap.size w ((w.alloc (.cells a t)).alloc (.cells b t)).drew ∧ ((w.alloc (.cells a t)).alloc (.cells b t)).drew.heap[w.heap.size]? = some (.cells a t (0, 0)) ∧ ((w.alloc (.cells a t)).alloc (.cells b t)).drew.heap[w.heap.size + 1]? = some (.cells b t (0, 0)) := by
  refine ⟨below_drew (below_alloc (below_alloc (Below.refl _ _) _) _), blk_drew (blk_alloc (blk_new w _) _), blk_drew ?_⟩
  have := blk_new (w.alloc (.cells a t)) (.cells b t)
  rwa [show (w.alloc (.cells a t)).heap.size = w.heap.size + 1 from by simp] at this
theorem GM.put {gg B g c p : Nat} {w w1 : World} {s : List GN} {n : GN} (hM : GM gg B (some g) w s) (hgg : w.heap[gg]? = some (.cells #[.slice (some ⟨g, 0, none⟩) s.length c] 90 (0, 0))) (hR : Kd.R k114 114 w1 B (fun _ => True) (.slice (some ⟨g, 0, none⟩) s.length c) ((s.map gv).set p (gv n))) (hg : w.grownBy w1 (some g)) :
    GM gg B (some g) w1 (s.set p n) ∧ GKeep gg (some g) (some g) w w1 := by
  have hne : gg ≠ g := fun e => by
    obtain ⟨_, c1, h1⟩ := hM.typed.2 g rfl
    rw [← e] at h1
    exact absurd (blk_type hgg h1) (by decide)
  refine ⟨⟨hM.1, some ⟨g, 0, none⟩, c, ?_, ?_, rfl⟩, ⟨hg.os, hg.tape, hg.output, KeepBut.of_grown hg _, .inl rfl⟩⟩
  · rw [List.length_set]; exact blk_grown hgg hg (fun e => hne (by injection e))
  · rw [List.length_set, List.map_set]; exact hR
theorem cc3 {w : World} {g p : Nat} {a b c : Value} (h0 : w.cell? ⟨g, p * 3, none⟩ = some a) (h1 : w.cell? ⟨g, p * 3 + 1, none⟩ = some b) (h2 : w.cell? ⟨g, p * 3 + 2, none⟩ = some c) : ∀ (j : Nat) (u : Value), [a, b, c][j]? = some u → w.cell? ⟨g, (p : Int).toNat * k114.sz + j, none⟩ = some u := by
  intro j u hj
  rw [Int.toNat_natCast]
  rcases j with _ | _ | _ | j
  · injection hj with hj; rw [← hj]; exact h0
  · injection hj with hj; rw [← hj]; exact h1
  · injection hj with hj; rw [← hj]; exact h2
  · cases hj
theorem one3 {a b c : Int} : ∀ q ∈ [Value.int .i64 a, .int .i64 b, .int .i64 c], q.oneCell' = true := by
  intro v hv
  simp at hv
  rcases hv with rfl | rfl | rfl <;> rfl
variable {gg B : Nat} {row : Option Nat}
def UniOk (gg B : Nat) (row : Option Nat) (r : Bool) (s' : List GN) (w : World) (e : Ending) (w' : World) : Prop := e = .returned (.bool r) ∧ GM gg B row w' s' ∧ GKeep gg row row w w'
set_option maxHeartbeats 4000000 in
theorem uni_same {s : List GN} {a b p i j : Nat} (h1 : GEnd s i a p) (h2 : GEnd s j b p) (w : World) (hM : GM gg B row w s) (hBw : B ≤ w.heap.size) (hl : s.length ≤ 1000000) :
    Calls Try.prog 45 #[.pointer (some ⟨gg, 0, none⟩), .int .i64 (a : Int), .int .i64 (b : Int)] w (UniOk gg B row true s w) := by
  have hu114 := Try.underlying114
  have hu90 := Try.underlying90
  have HM := Aside0.mk hM
  have H1 := Aside0.mk h1
  have H2 := Aside0.mk h2
  have Hl := Aside0.mk hl
  have HBw := Aside0.mk hBw
  clear hM h1 h2 hl hBw
  go_enter Try.func45, Try.ntmps45
  go_wp2_with fail
  (with_reducible refine (end_calls H1.out HM.out Hl.out).mono ?_)
  rintro e w1 ⟨rfl, rfl⟩
  go_wp2_with fail
  (with_reducible refine (end_calls H2.out HM.out Hl.out).mono ?_)
  rintro e w1 ⟨rfl, rfl⟩
  go_wp2_with fail
  go_ret
  exact ⟨rfl, HM.out, GKeep.refl _ _ _⟩
set_option maxHeartbeats 4000000 in
theorem uni_openL {s : List GN} {a b p q i j : Nat} {x : GN} (h1 : GEnd s i a p) (h2 : GEnd s j b q) (hpq : p ≠ q) (hx : s[p]? = some x) (hxk : x.k = 0) (w : World) (hM : GM gg B row w s) (hBw : B ≤ w.heap.size) (hl : s.length ≤ 1000000) :
    Calls Try.prog 45 #[.pointer (some ⟨gg, 0, none⟩), .int .i64 (a : Int), .int .i64 (b : Int)] w (UniOk gg B row true (s.set p ⟨3, q, 0⟩) w) := by
  have hu114 := Try.underlying114
  have hu90 := Try.underlying90
  have HM := Aside0.mk hM
  have H1 := Aside0.mk h1
  have H2 := Aside0.mk h2
  have Hl := Aside0.mk hl
  have HBw := Aside0.mk hBw
  obtain ⟨_, hql, y, hy, hy3⟩ := h2.lt
  obtain ⟨_, hpl, _⟩ := h1.lt
  obtain ⟨g, c, cells, hrow, hgg, hR, hBgg, hBg, hg⟩ := hM.form (by omega)
  subst hrow
  have HR := Aside0.mk hR
  have HG := Aside0.mk hgg
  have Hg := Aside0.mk hg
  have Hgl := Aside0.mk (blk_lt hg)
  have n0 : w.cell? ⟨gg, 0, none⟩ = some (.slice (some ⟨g, 0, none⟩) s.length c) := (blk_cell hgg 0).trans rfl
  obtain ⟨x0, x1, x2⟩ := GM_at hR hx
  obtain ⟨y0, y1, y2⟩ := GM_at hR hy
  have p1 : (0 ≤ (p : Int)) = True := eq_true (by omega)
  have p2 : ((p : Int) < (s.length : Int)) = True := eq_true (by omega)
  have p3 : (p < s.length) = True := eq_true (by omega)
  have q1 : (0 ≤ (q : Int)) = True := eq_true (by omega)
  have q2 : ((q : Int) < (s.length : Int)) = True := eq_true (by omega)
  have q3 : (q < s.length) = True := eq_true (by omega)
  have b1 : ((p : Int) == (q : Int)) = false := by rw [beq_eq_false_iff_ne]; omega
  have b2 : decide (p = q) = false := decide_eq_false hpq
  rw [hxk] at x0
  have HX0 := Aside0.mk (And.intro x0 (And.intro x1 x2))
  have HY0 := Aside0.mk (And.intro y0 (And.intro y1 y2))
  have n0A := cellA n0
  have n0B := cellAA n0
  have x0A := cellA x0
  have x0B := cellAA x0
  have x1A := cellA x1
  have x1B := cellAA x1
  have x2A := cellA x2
  have x2B := cellAA x2
  have y0A := cellA y0
  have y0B := cellAA y0
  have y1A := cellA y1
  have y1B := cellAA y1
  have y2A := cellA y2
  have y2B := cellAA y2
  clear hM h1 h2 hl hBw hgg hR hg hx hy hpq hxk hy3
  go_enter Try.func45, Try.ntmps45
  go_wp2_with fail
  (with_reducible refine (end_calls H1.out HM.out Hl.out).mono ?_)
  rintro e w1 ⟨rfl, rfl⟩
  go_wp2_with fail
  (with_reducible refine (end_calls H2.out HM.out Hl.out).mono ?_)
  rintro e w1 ⟨rfl, rfl⟩
  go_wp2_with fail
  go_region
  · have ht := two_made w1 #[.int .i64 0, .int .i64 (x.a : Int), .int .i64 (x.b : Int)] #[.int .i64 (y.k : Int), .int .i64 (y.a : Int), .int .i64 (y.b : Int)] 114
    generalize ((w1.alloc (Obj.cells #[.int .i64 0, .int .i64 (x.a : Int), .int .i64 (x.b : Int)] 114)).alloc (Obj.cells #[.int .i64 (y.k : Int), .int .i64 (y.a : Int), .int .i64 (y.b : Int)] 114)).drew = wq at *
    obtain ⟨hbq, hx, hy⟩ := ht
    have Hne : Aside0 (some w1.heap.size ≠ some g ∧ some (w1.heap.size + 1) ≠ some g ∧ w1.heap.size ≠ gg ∧ w1.heap.size + 1 ≠ gg) := ⟨by have := Hgl.out; have := blk_lt HG.out; refine ⟨fun e => ?_, fun e => ?_, by omega, by omega⟩ <;> (injection e with e; omega)⟩
    generalize hgy : w1.heap.size + 1 = gy at hy Hne ⊢
    generalize hgx : w1.heap.size = gx at hx Hne ⊢
    clear hgx hgy
    have HBq := Aside0.mk hbq
    have HMq := Aside0.mk (HM.out.keep hbq)
    have HGq := Aside0.mk (blk_below HG.out hbq)
    have HRq := Aside0.mk (Kd.R_below HR.out hbq)
    have HX := Aside0.mk hx
    have HY := Aside0.mk hy
    have HKq := Aside0.mk (GKeep.of_below gg (some g) hbq)
    have HXq := Aside0.mk (And.intro (cell_up hbq HX0.out.1) (And.intro (cell_up hbq HX0.out.2.1) (cell_up hbq HX0.out.2.2)))
    have HYq := Aside0.mk (And.intro (cell_up hbq HY0.out.1) (And.intro (cell_up hbq HY0.out.2.1) (cell_up hbq HY0.out.2.2)))
    have m0 := cell_up hbq n0
    have xb0 := (blk_cell hx 0).trans rfl
    have xb1 := (blk_cell hx 1).trans rfl
    have xb2 := (blk_cell hx 2).trans rfl
    have yb0 := (blk_cell hy 0).trans rfl
    have yb1 := (blk_cell hy 1).trans rfl
    have yb2 := (blk_cell hy 2).trans rfl
    clear n0 n0A n0B x0 x0A x0B x1 x1A x1B x2 x2A x2B y0 y0A y0B y1 y1A y1B y2 y2A y2B hx hy hbq
    go_wp2_with (
      (with_reducible refine gate_ (.store 114 (.tmp 42) (.tmp 41)) rfl ?_)
      refine Kd.R_store k114 (w0 := wq) B rfl rfl 114 (.tmp 42) (.tmp 41) rfl 114 (g := g) (n := s.length) (cap := c) (o' := p * 3) (p : Int) 0 (s.map gv) (gv ⟨3, q, 0⟩) (.agg #[.int .i64 3, .int .i64 (q : Int), .int .i64 0]) [.int .i64 3, .int .i64 (q : Int), .int .i64 0] [.int .i64 0, .int .i64 (x.a : Int), .int .i64 (x.b : Int)] (fun _ => True) (fun _ => False) rfl (by rw [Int.toNat_natCast]; rfl) rfl rfl (by kernel_rfl) one3 HRq.out (by omega) (by omega) rfl (cc3 HXq.out.1 HXq.out.2.1 HXq.out.2.2) (Nat.le_refl 3) (k114_mkM _ _ _ (gv ⟨3, q, 0⟩)) (fun _ hk => hk.elim) (Below.refl _ _) ?_
      intro w2 hr2 hb2 hg2
      rw [Int.toNat_natCast] at hr2
      have hp2 := GM.put HMq.out HGq.out hr2 hg2
      have HM2 := Aside0.mk hp2.1
      have HK2 := Aside0.mk (HKq.out.trans hp2.2)
      clear hr2 hb2 hg2 hp2)
    go_ret
    exact ⟨rfl, HM2.out, HK2.out⟩
  · have ht := two_made w1 #[.int .i64 (y.k : Int), .int .i64 (y.a : Int), .int .i64 (y.b : Int)] #[.int .i64 0, .int .i64 (x.a : Int), .int .i64 (x.b : Int)] 114
    generalize ((w1.alloc (Obj.cells #[.int .i64 (y.k : Int), .int .i64 (y.a : Int), .int .i64 (y.b : Int)] 114)).alloc (Obj.cells #[.int .i64 0, .int .i64 (x.a : Int), .int .i64 (x.b : Int)] 114)).drew = wq at *
    obtain ⟨hbq, hy, hx⟩ := ht
    have Hne : Aside0 (some (w1.heap.size + 1) ≠ some g ∧ some (w1.heap.size) ≠ some g ∧ w1.heap.size + 1 ≠ gg ∧ w1.heap.size ≠ gg) := ⟨by have := Hgl.out; have := blk_lt HG.out; refine ⟨fun e => ?_, fun e => ?_, by omega, by omega⟩ <;> (injection e with e; omega)⟩
    generalize hgy : w1.heap.size + 1 = gx at hx Hne ⊢
    generalize hgx : w1.heap.size = gy at hy Hne ⊢
    clear hgx hgy
    have HBq := Aside0.mk hbq
    have HMq := Aside0.mk (HM.out.keep hbq)
    have HGq := Aside0.mk (blk_below HG.out hbq)
    have HRq := Aside0.mk (Kd.R_below HR.out hbq)
    have HX := Aside0.mk hx
    have HY := Aside0.mk hy
    have HKq := Aside0.mk (GKeep.of_below gg (some g) hbq)
    have HXq := Aside0.mk (And.intro (cell_up hbq HX0.out.1) (And.intro (cell_up hbq HX0.out.2.1) (cell_up hbq HX0.out.2.2)))
    have HYq := Aside0.mk (And.intro (cell_up hbq HY0.out.1) (And.intro (cell_up hbq HY0.out.2.1) (cell_up hbq HY0.out.2.2)))
    have m0 := cell_up hbq n0
    have xb0 := (blk_cell hx 0).trans rfl
    have xb1 := (blk_cell hx 1).trans rfl
    have xb2 := (blk_cell hx 2).trans rfl
    have yb0 := (blk_cell hy 0).trans rfl
    have yb1 := (blk_cell hy 1).trans rfl
    have yb2 := (blk_cell hy 2).trans rfl
    clear n0 n0A n0B x0 x0A x0B x1 x1A x1B x2 x2A x2B y0 y0A y0B y1 y1A y1B y2 y2A y2B hx hy hbq
    go_wp2_with (
      (with_reducible refine gate_ (.store 114 (.tmp 42) (.tmp 41)) rfl ?_)
      refine Kd.R_store k114 (w0 := wq) B rfl rfl 114 (.tmp 42) (.tmp 41) rfl 114 (g := g) (n := s.length) (cap := c) (o' := p * 3) (p : Int) 0 (s.map gv) (gv ⟨3, q, 0⟩) (.agg #[.int .i64 3, .int .i64 (q : Int), .int .i64 0]) [.int .i64 3, .int .i64 (q : Int), .int .i64 0] [.int .i64 0, .int .i64 (x.a : Int), .int .i64 (x.b : Int)] (fun _ => True) (fun _ => False) rfl (by rw [Int.toNat_natCast]; rfl) rfl rfl (by kernel_rfl) one3 HRq.out (by omega) (by omega) rfl (cc3 HXq.out.1 HXq.out.2.1 HXq.out.2.2) (Nat.le_refl 3) (k114_mkM _ _ _ (gv ⟨3, q, 0⟩)) (fun _ hk => hk.elim) (Below.refl _ _) ?_
      intro w2 hr2 hb2 hg2
      rw [Int.toNat_natCast] at hr2
      have hp2 := GM.put HMq.out HGq.out hr2 hg2
      have HM2 := Aside0.mk hp2.1
      have HK2 := Aside0.mk (HKq.out.trans hp2.2)
      clear hr2 hb2 hg2 hp2)
    go_ret
    exact ⟨rfl, HM2.out, HK2.out⟩
set_option maxHeartbeats 4000000 in
theorem uni_openR {s : List GN} {a b p q i j : Nat} {x y : GN} (h1 : GEnd s i a p) (h2 : GEnd s j b q) (hpq : p ≠ q) (hx : s[p]? = some x) (hy : s[q]? = some y) (hxk : x.k ≠ 0) (hyk : y.k = 0) (w : World) (hM : GM gg B row w s) (hBw : B ≤ w.heap.size) (hl : s.length ≤ 1000000) :
    Calls Try.prog 45 #[.pointer (some ⟨gg, 0, none⟩), .int .i64 (a : Int), .int .i64 (b : Int)] w (UniOk gg B row true (s.set q ⟨3, p, 0⟩) w) := by
  have hu114 := Try.underlying114
  have hu90 := Try.underlying90
  have HM := Aside0.mk hM
  have H1 := Aside0.mk h1
  have H2 := Aside0.mk h2
  have Hl := Aside0.mk hl
  have HBw := Aside0.mk hBw
  obtain ⟨_, hql, _⟩ := h2.lt
  obtain ⟨_, hpl, _⟩ := h1.lt
  obtain ⟨g, c, cells, hrow, hgg, hR, hBgg, hBg, hg⟩ := hM.form (by omega)
  subst hrow
  have HR := Aside0.mk hR
  have HG := Aside0.mk hgg
  have Hg := Aside0.mk hg
  have Hgl := Aside0.mk (blk_lt hg)
  have n0 : w.cell? ⟨gg, 0, none⟩ = some (.slice (some ⟨g, 0, none⟩) s.length c) := (blk_cell hgg 0).trans rfl
  obtain ⟨x0, x1, x2⟩ := GM_at hR hx
  obtain ⟨y0, y1, y2⟩ := GM_at hR hy
  have p1 : (0 ≤ (p : Int)) = True := eq_true (by omega)
  have p2 : ((p : Int) < (s.length : Int)) = True := eq_true (by omega)
  have p3 : (p < s.length) = True := eq_true (by omega)
  have q1 : (0 ≤ (q : Int)) = True := eq_true (by omega)
  have q2 : ((q : Int) < (s.length : Int)) = True := eq_true (by omega)
  have q3 : (q < s.length) = True := eq_true (by omega)
  have b1 : ((p : Int) == (q : Int)) = false := by rw [beq_eq_false_iff_ne]; omega
  have b2 : decide (p = q) = false := decide_eq_false hpq
  have bx1 : ((x.k : Int) == 0) = false := by rw [beq_eq_false_iff_ne]; omega
  have bx2 : decide (x.k = 0) = false := decide_eq_false hxk
  rw [hyk] at y0
  have HX0 := Aside0.mk (And.intro x0 (And.intro x1 x2))
  have HY0 := Aside0.mk (And.intro y0 (And.intro y1 y2))
  have n0A := cellA n0
  have n0B := cellAA n0
  have x0A := cellA x0
  have x0B := cellAA x0
  have x1A := cellA x1
  have x1B := cellAA x1
  have x2A := cellA x2
  have x2B := cellAA x2
  have y0A := cellA y0
  have y0B := cellAA y0
  have y1A := cellA y1
  have y1B := cellAA y1
  have y2A := cellA y2
  have y2B := cellAA y2
  clear hM h1 h2 hl hBw hgg hR hg hx hy hpq hxk hyk
  go_enter Try.func45, Try.ntmps45
  go_wp2_with fail
  (with_reducible refine (end_calls H1.out HM.out Hl.out).mono ?_)
  rintro e w1 ⟨rfl, rfl⟩
  go_wp2_with fail
  (with_reducible refine (end_calls H2.out HM.out Hl.out).mono ?_)
  rintro e w1 ⟨rfl, rfl⟩
  go_wp2_with fail
  go_region
  · have ht := two_made w1 #[.int .i64 (x.k : Int), .int .i64 (x.a : Int), .int .i64 (x.b : Int)] #[.int .i64 0, .int .i64 (y.a : Int), .int .i64 (y.b : Int)] 114
    generalize ((w1.alloc (Obj.cells #[.int .i64 (x.k : Int), .int .i64 (x.a : Int), .int .i64 (x.b : Int)] 114)).alloc (Obj.cells #[.int .i64 0, .int .i64 (y.a : Int), .int .i64 (y.b : Int)] 114)).drew = wq at *
    obtain ⟨hbq, hx, hy⟩ := ht
    have Hne : Aside0 (some w1.heap.size ≠ some g ∧ some (w1.heap.size + 1) ≠ some g ∧ w1.heap.size ≠ gg ∧ w1.heap.size + 1 ≠ gg) := ⟨by have := Hgl.out; have := blk_lt HG.out; refine ⟨fun e => ?_, fun e => ?_, by omega, by omega⟩ <;> (injection e with e; omega)⟩
    generalize hgy : w1.heap.size + 1 = gy at hy Hne ⊢
    generalize hgx : w1.heap.size = gx at hx Hne ⊢
    clear hgx hgy
    have HBq := Aside0.mk hbq
    have HMq := Aside0.mk (HM.out.keep hbq)
    have HGq := Aside0.mk (blk_below HG.out hbq)
    have HRq := Aside0.mk (Kd.R_below HR.out hbq)
    have HX := Aside0.mk hx
    have HY := Aside0.mk hy
    have HKq := Aside0.mk (GKeep.of_below gg (some g) hbq)
    have HXq := Aside0.mk (And.intro (cell_up hbq HX0.out.1) (And.intro (cell_up hbq HX0.out.2.1) (cell_up hbq HX0.out.2.2)))
    have HYq := Aside0.mk (And.intro (cell_up hbq HY0.out.1) (And.intro (cell_up hbq HY0.out.2.1) (cell_up hbq HY0.out.2.2)))
    have m0 := cell_up hbq n0
    have xb0 := (blk_cell hx 0).trans rfl
    have xb1 := (blk_cell hx 1).trans rfl
    have xb2 := (blk_cell hx 2).trans rfl
    have yb0 := (blk_cell hy 0).trans rfl
    have yb1 := (blk_cell hy 1).trans rfl
    have yb2 := (blk_cell hy 2).trans rfl
    clear n0 n0A n0B x0 x0A x0B x1 x1A x1B x2 x2A x2B y0 y0A y0B y1 y1A y1B y2 y2A y2B hx hy hbq
    go_wp2_with (
      (with_reducible refine gate_ (.store 114 (.tmp 53) (.tmp 52)) rfl ?_)
      refine Kd.R_store k114 (w0 := wq) B rfl rfl 114 (.tmp 53) (.tmp 52) rfl 114 (g := g) (n := s.length) (cap := c) (o' := q * 3) (q : Int) 0 (s.map gv) (gv ⟨3, p, 0⟩) (.agg #[.int .i64 3, .int .i64 (p : Int), .int .i64 0]) [.int .i64 3, .int .i64 (p : Int), .int .i64 0] [.int .i64 0, .int .i64 (y.a : Int), .int .i64 (y.b : Int)] (fun _ => True) (fun _ => False) rfl (by rw [Int.toNat_natCast]; rfl) rfl rfl (by kernel_rfl) one3 HRq.out (by omega) (by omega) rfl (cc3 HYq.out.1 HYq.out.2.1 HYq.out.2.2) (Nat.le_refl 3) (k114_mkM _ _ _ (gv ⟨3, p, 0⟩)) (fun _ hk => hk.elim) (Below.refl _ _) ?_
      intro w2 hr2 hb2 hg2
      rw [Int.toNat_natCast] at hr2
      have hp2 := GM.put HMq.out HGq.out hr2 hg2
      have HM2 := Aside0.mk hp2.1
      have HK2 := Aside0.mk (HKq.out.trans hp2.2)
      clear hr2 hb2 hg2 hp2)
    go_ret
    exact ⟨rfl, HM2.out, HK2.out⟩
  · have ht := two_made w1 #[.int .i64 0, .int .i64 (y.a : Int), .int .i64 (y.b : Int)] #[.int .i64 (x.k : Int), .int .i64 (x.a : Int), .int .i64 (x.b : Int)] 114
    generalize ((w1.alloc (Obj.cells #[.int .i64 0, .int .i64 (y.a : Int), .int .i64 (y.b : Int)] 114)).alloc (Obj.cells #[.int .i64 (x.k : Int), .int .i64 (x.a : Int), .int .i64 (x.b : Int)] 114)).drew = wq at *
    obtain ⟨hbq, hy, hx⟩ := ht
    have Hne : Aside0 (some (w1.heap.size + 1) ≠ some g ∧ some (w1.heap.size) ≠ some g ∧ w1.heap.size + 1 ≠ gg ∧ w1.heap.size ≠ gg) := ⟨by have := Hgl.out; have := blk_lt HG.out; refine ⟨fun e => ?_, fun e => ?_, by omega, by omega⟩ <;> (injection e with e; omega)⟩
    generalize hgy : w1.heap.size + 1 = gx at hx Hne ⊢
    generalize hgx : w1.heap.size = gy at hy Hne ⊢
    clear hgx hgy
    have HBq := Aside0.mk hbq
    have HMq := Aside0.mk (HM.out.keep hbq)
    have HGq := Aside0.mk (blk_below HG.out hbq)
    have HRq := Aside0.mk (Kd.R_below HR.out hbq)
    have HX := Aside0.mk hx
    have HY := Aside0.mk hy
    have HKq := Aside0.mk (GKeep.of_below gg (some g) hbq)
    have HXq := Aside0.mk (And.intro (cell_up hbq HX0.out.1) (And.intro (cell_up hbq HX0.out.2.1) (cell_up hbq HX0.out.2.2)))
    have HYq := Aside0.mk (And.intro (cell_up hbq HY0.out.1) (And.intro (cell_up hbq HY0.out.2.1) (cell_up hbq HY0.out.2.2)))
    have m0 := cell_up hbq n0
    have xb0 := (blk_cell hx 0).trans rfl
    have xb1 := (blk_cell hx 1).trans rfl
    have xb2 := (blk_cell hx 2).trans rfl
    have yb0 := (blk_cell hy 0).trans rfl
    have yb1 := (blk_cell hy 1).trans rfl
    have yb2 := (blk_cell hy 2).trans rfl
    clear n0 n0A n0B x0 x0A x0B x1 x1A x1B x2 x2A x2B y0 y0A y0B y1 y1A y1B y2 y2A y2B hx hy hbq
    go_wp2_with (
      (with_reducible refine gate_ (.store 114 (.tmp 53) (.tmp 52)) rfl ?_)
      refine Kd.R_store k114 (w0 := wq) B rfl rfl 114 (.tmp 53) (.tmp 52) rfl 114 (g := g) (n := s.length) (cap := c) (o' := q * 3) (q : Int) 0 (s.map gv) (gv ⟨3, p, 0⟩) (.agg #[.int .i64 3, .int .i64 (p : Int), .int .i64 0]) [.int .i64 3, .int .i64 (p : Int), .int .i64 0] [.int .i64 0, .int .i64 (y.a : Int), .int .i64 (y.b : Int)] (fun _ => True) (fun _ => False) rfl (by rw [Int.toNat_natCast]; rfl) rfl rfl (by kernel_rfl) one3 HRq.out (by omega) (by omega) rfl (cc3 HYq.out.1 HYq.out.2.1 HYq.out.2.2) (Nat.le_refl 3) (k114_mkM _ _ _ (gv ⟨3, p, 0⟩)) (fun _ hk => hk.elim) (Below.refl _ _) ?_
      intro w2 hr2 hb2 hg2
      rw [Int.toNat_natCast] at hr2
      have hp2 := GM.put HMq.out HGq.out hr2 hg2
      have HM2 := Aside0.mk hp2.1
      have HK2 := Aside0.mk (HKq.out.trans hp2.2)
      clear hr2 hb2 hg2 hp2)
    go_ret
    exact ⟨rfl, HM2.out, HK2.out⟩
set_option maxHeartbeats 4000000 in
theorem uni_clash {s : List GN} {a b p q i j : Nat} {x y : GN} (h1 : GEnd s i a p) (h2 : GEnd s j b q) (hpq : p ≠ q) (hx : s[p]? = some x) (hy : s[q]? = some y) (hxk : x.k ≠ 0) (hyk : y.k ≠ 0) (hk : x.k ≠ y.k) (w : World) (hM : GM gg B row w s) (hBw : B ≤ w.heap.size) (hl : s.length ≤ 1000000) :
    Calls Try.prog 45 #[.pointer (some ⟨gg, 0, none⟩), .int .i64 (a : Int), .int .i64 (b : Int)] w (UniOk gg B row false s w) := by
  have hu114 := Try.underlying114
  have hu90 := Try.underlying90
  have HM := Aside0.mk hM
  have H1 := Aside0.mk h1
  have H2 := Aside0.mk h2
  have Hl := Aside0.mk hl
  have HBw := Aside0.mk hBw
  obtain ⟨_, hql, _⟩ := h2.lt
  obtain ⟨_, hpl, _⟩ := h1.lt
  obtain ⟨g, c, cells, hrow, hgg, hR, hBgg, hBg, hg⟩ := hM.form (by omega)
  subst hrow
  have HR := Aside0.mk hR
  have HG := Aside0.mk hgg
  have Hg := Aside0.mk hg
  have Hgl := Aside0.mk (blk_lt hg)
  have n0 : w.cell? ⟨gg, 0, none⟩ = some (.slice (some ⟨g, 0, none⟩) s.length c) := (blk_cell hgg 0).trans rfl
  obtain ⟨x0, x1, x2⟩ := GM_at hR hx
  obtain ⟨y0, y1, y2⟩ := GM_at hR hy
  have p1 : (0 ≤ (p : Int)) = True := eq_true (by omega)
  have p2 : ((p : Int) < (s.length : Int)) = True := eq_true (by omega)
  have p3 : (p < s.length) = True := eq_true (by omega)
  have q1 : (0 ≤ (q : Int)) = True := eq_true (by omega)
  have q2 : ((q : Int) < (s.length : Int)) = True := eq_true (by omega)
  have q3 : (q < s.length) = True := eq_true (by omega)
  have b1 : ((p : Int) == (q : Int)) = false := by rw [beq_eq_false_iff_ne]; omega
  have b2 : decide (p = q) = false := decide_eq_false hpq
  have bx1 : ((x.k : Int) == 0) = false := by rw [beq_eq_false_iff_ne]; omega
  have bx2 : decide (x.k = 0) = false := decide_eq_false hxk
  have by1 : ((y.k : Int) == 0) = false := by rw [beq_eq_false_iff_ne]; omega
  have by2 : decide (y.k = 0) = false := decide_eq_false hyk
  have bz1 : ((x.k : Int) != (y.k : Int)) = true := bne_iff_ne.2 (by omega)
  have bz2 : decide (x.k = y.k) = false := decide_eq_false hk
  have bz3 : (!decide (x.k = y.k)) = true := by rw [bz2]; rfl
  have HX0 := Aside0.mk (And.intro x0 (And.intro x1 x2))
  have HY0 := Aside0.mk (And.intro y0 (And.intro y1 y2))
  have n0A := cellA n0
  have n0B := cellAA n0
  have x0A := cellA x0
  have x0B := cellAA x0
  have x1A := cellA x1
  have x1B := cellAA x1
  have x2A := cellA x2
  have x2B := cellAA x2
  have y0A := cellA y0
  have y0B := cellAA y0
  have y1A := cellA y1
  have y1B := cellAA y1
  have y2A := cellA y2
  have y2B := cellAA y2
  clear hM h1 h2 hl hBw hgg hR hg hx hy hpq hxk hyk hk
  go_enter Try.func45, Try.ntmps45
  go_wp2_with fail
  (with_reducible refine (end_calls H1.out HM.out Hl.out).mono ?_)
  rintro e w1 ⟨rfl, rfl⟩
  go_wp2_with fail
  (with_reducible refine (end_calls H2.out HM.out Hl.out).mono ?_)
  rintro e w1 ⟨rfl, rfl⟩
  go_wp2_with fail
  go_region
  · have ht := two_made w1 #[.int .i64 (x.k : Int), .int .i64 (x.a : Int), .int .i64 (x.b : Int)] #[.int .i64 (y.k : Int), .int .i64 (y.a : Int), .int .i64 (y.b : Int)] 114
    generalize ((w1.alloc (Obj.cells #[.int .i64 (x.k : Int), .int .i64 (x.a : Int), .int .i64 (x.b : Int)] 114)).alloc (Obj.cells #[.int .i64 (y.k : Int), .int .i64 (y.a : Int), .int .i64 (y.b : Int)] 114)).drew = wq at *
    obtain ⟨hbq, hx, hy⟩ := ht
    have Hne : Aside0 (some w1.heap.size ≠ some g ∧ some (w1.heap.size + 1) ≠ some g ∧ w1.heap.size ≠ gg ∧ w1.heap.size + 1 ≠ gg) := ⟨by have := Hgl.out; have := blk_lt HG.out; refine ⟨fun e => ?_, fun e => ?_, by omega, by omega⟩ <;> (injection e with e; omega)⟩
    generalize hgy : w1.heap.size + 1 = gy at hy Hne ⊢
    generalize hgx : w1.heap.size = gx at hx Hne ⊢
    clear hgx hgy
    have HBq := Aside0.mk hbq
    have HMq := Aside0.mk (HM.out.keep hbq)
    have HGq := Aside0.mk (blk_below HG.out hbq)
    have HRq := Aside0.mk (Kd.R_below HR.out hbq)
    have HX := Aside0.mk hx
    have HY := Aside0.mk hy
    have HKq := Aside0.mk (GKeep.of_below gg (some g) hbq)
    have HXq := Aside0.mk (And.intro (cell_up hbq HX0.out.1) (And.intro (cell_up hbq HX0.out.2.1) (cell_up hbq HX0.out.2.2)))
    have HYq := Aside0.mk (And.intro (cell_up hbq HY0.out.1) (And.intro (cell_up hbq HY0.out.2.1) (cell_up hbq HY0.out.2.2)))
    have m0 := cell_up hbq n0
    have xb0 := (blk_cell hx 0).trans rfl
    have xb1 := (blk_cell hx 1).trans rfl
    have xb2 := (blk_cell hx 2).trans rfl
    have yb0 := (blk_cell hy 0).trans rfl
    have yb1 := (blk_cell hy 1).trans rfl
    have yb2 := (blk_cell hy 2).trans rfl
    clear n0 n0A n0B x0 x0A x0B x1 x1A x1B x2 x2A x2B y0 y0A y0B y1 y1A y1B y2 y2A y2B hx hy hbq
    go_wp2_with fail
    go_ret
    exact ⟨rfl, HMq.out, HKq.out⟩
  · have ht := two_made w1 #[.int .i64 (y.k : Int), .int .i64 (y.a : Int), .int .i64 (y.b : Int)] #[.int .i64 (x.k : Int), .int .i64 (x.a : Int), .int .i64 (x.b : Int)] 114
    generalize ((w1.alloc (Obj.cells #[.int .i64 (y.k : Int), .int .i64 (y.a : Int), .int .i64 (y.b : Int)] 114)).alloc (Obj.cells #[.int .i64 (x.k : Int), .int .i64 (x.a : Int), .int .i64 (x.b : Int)] 114)).drew = wq at *
    obtain ⟨hbq, hy, hx⟩ := ht
    have Hne : Aside0 (some (w1.heap.size + 1) ≠ some g ∧ some (w1.heap.size) ≠ some g ∧ w1.heap.size + 1 ≠ gg ∧ w1.heap.size ≠ gg) := ⟨by have := Hgl.out; have := blk_lt HG.out; refine ⟨fun e => ?_, fun e => ?_, by omega, by omega⟩ <;> (injection e with e; omega)⟩
    generalize hgy : w1.heap.size + 1 = gx at hx Hne ⊢
    generalize hgx : w1.heap.size = gy at hy Hne ⊢
    clear hgx hgy
    have HBq := Aside0.mk hbq
    have HMq := Aside0.mk (HM.out.keep hbq)
    have HGq := Aside0.mk (blk_below HG.out hbq)
    have HRq := Aside0.mk (Kd.R_below HR.out hbq)
    have HX := Aside0.mk hx
    have HY := Aside0.mk hy
    have HKq := Aside0.mk (GKeep.of_below gg (some g) hbq)
    have HXq := Aside0.mk (And.intro (cell_up hbq HX0.out.1) (And.intro (cell_up hbq HX0.out.2.1) (cell_up hbq HX0.out.2.2)))
    have HYq := Aside0.mk (And.intro (cell_up hbq HY0.out.1) (And.intro (cell_up hbq HY0.out.2.1) (cell_up hbq HY0.out.2.2)))
    have m0 := cell_up hbq n0
    have xb0 := (blk_cell hx 0).trans rfl
    have xb1 := (blk_cell hx 1).trans rfl
    have xb2 := (blk_cell hx 2).trans rfl
    have yb0 := (blk_cell hy 0).trans rfl
    have yb1 := (blk_cell hy 1).trans rfl
    have yb2 := (blk_cell hy 2).trans rfl
    clear n0 n0A n0B x0 x0A x0B x1 x1A x1B x2 x2A x2B y0 y0A y0B y1 y1A y1B y2 y2A y2B hx hy hbq
    go_wp2_with fail
    go_ret
    exact ⟨rfl, HMq.out, HKq.out⟩
set_option maxHeartbeats 4000000 in
theorem uni_base {s : List GN} {a b p q i j : Nat} {x y : GN} (h1 : GEnd s i a p) (h2 : GEnd s j b q) (hpq : p ≠ q) (hx : s[p]? = some x) (hy : s[q]? = some y) (hxk : x.k = 1) (hyk : y.k = 1) (w : World) (hM : GM gg B row w s) (hBw : B ≤ w.heap.size) (hl : s.length ≤ 1000000) :
    Calls Try.prog 45 #[.pointer (some ⟨gg, 0, none⟩), .int .i64 (a : Int), .int .i64 (b : Int)] w (UniOk gg B row true (s.set p ⟨3, q, 0⟩) w) := by
  have hu114 := Try.underlying114
  have hu90 := Try.underlying90
  have HM := Aside0.mk hM
  have H1 := Aside0.mk h1
  have H2 := Aside0.mk h2
  have Hl := Aside0.mk hl
  have HBw := Aside0.mk hBw
  obtain ⟨_, hql, _⟩ := h2.lt
  obtain ⟨_, hpl, _⟩ := h1.lt
  obtain ⟨g, c, cells, hrow, hgg, hR, hBgg, hBg, hg⟩ := hM.form (by omega)
  subst hrow
  have HR := Aside0.mk hR
  have HG := Aside0.mk hgg
  have Hg := Aside0.mk hg
  have Hgl := Aside0.mk (blk_lt hg)
  have n0 : w.cell? ⟨gg, 0, none⟩ = some (.slice (some ⟨g, 0, none⟩) s.length c) := (blk_cell hgg 0).trans rfl
  obtain ⟨x0, x1, x2⟩ := GM_at hR hx
  obtain ⟨y0, y1, y2⟩ := GM_at hR hy
  have p1 : (0 ≤ (p : Int)) = True := eq_true (by omega)
  have p2 : ((p : Int) < (s.length : Int)) = True := eq_true (by omega)
  have p3 : (p < s.length) = True := eq_true (by omega)
  have q1 : (0 ≤ (q : Int)) = True := eq_true (by omega)
  have q2 : ((q : Int) < (s.length : Int)) = True := eq_true (by omega)
  have q3 : (q < s.length) = True := eq_true (by omega)
  have b1 : ((p : Int) == (q : Int)) = false := by rw [beq_eq_false_iff_ne]; omega
  have b2 : decide (p = q) = false := decide_eq_false hpq
  rw [hxk] at x0
  rw [hyk] at y0
  have HX0 := Aside0.mk (And.intro x0 (And.intro x1 x2))
  have HY0 := Aside0.mk (And.intro y0 (And.intro y1 y2))
  have n0A := cellA n0
  have n0B := cellAA n0
  have x0A := cellA x0
  have x0B := cellAA x0
  have x1A := cellA x1
  have x1B := cellAA x1
  have x2A := cellA x2
  have x2B := cellAA x2
  have y0A := cellA y0
  have y0B := cellAA y0
  have y1A := cellA y1
  have y1B := cellAA y1
  have y2A := cellA y2
  have y2B := cellAA y2
  clear hM h1 h2 hl hBw hgg hR hg hx hy hpq hxk hyk
  go_enter Try.func45, Try.ntmps45
  go_wp2_with fail
  (with_reducible refine (end_calls H1.out HM.out Hl.out).mono ?_)
  rintro e w1 ⟨rfl, rfl⟩
  go_wp2_with fail
  (with_reducible refine (end_calls H2.out HM.out Hl.out).mono ?_)
  rintro e w1 ⟨rfl, rfl⟩
  go_wp2_with fail
  go_region
  · have ht := two_made w1 #[.int .i64 1, .int .i64 (x.a : Int), .int .i64 (x.b : Int)] #[.int .i64 1, .int .i64 (y.a : Int), .int .i64 (y.b : Int)] 114
    generalize ((w1.alloc (Obj.cells #[.int .i64 1, .int .i64 (x.a : Int), .int .i64 (x.b : Int)] 114)).alloc (Obj.cells #[.int .i64 1, .int .i64 (y.a : Int), .int .i64 (y.b : Int)] 114)).drew = wq at *
    obtain ⟨hbq, hx, hy⟩ := ht
    have Hne : Aside0 (some w1.heap.size ≠ some g ∧ some (w1.heap.size + 1) ≠ some g ∧ w1.heap.size ≠ gg ∧ w1.heap.size + 1 ≠ gg) := ⟨by have := Hgl.out; have := blk_lt HG.out; refine ⟨fun e => ?_, fun e => ?_, by omega, by omega⟩ <;> (injection e with e; omega)⟩
    generalize hgy : w1.heap.size + 1 = gy at hy Hne ⊢
    generalize hgx : w1.heap.size = gx at hx Hne ⊢
    clear hgx hgy
    have HBq := Aside0.mk hbq
    have HMq := Aside0.mk (HM.out.keep hbq)
    have HGq := Aside0.mk (blk_below HG.out hbq)
    have HRq := Aside0.mk (Kd.R_below HR.out hbq)
    have HX := Aside0.mk hx
    have HY := Aside0.mk hy
    have HKq := Aside0.mk (GKeep.of_below gg (some g) hbq)
    have HXq := Aside0.mk (And.intro (cell_up hbq HX0.out.1) (And.intro (cell_up hbq HX0.out.2.1) (cell_up hbq HX0.out.2.2)))
    have HYq := Aside0.mk (And.intro (cell_up hbq HY0.out.1) (And.intro (cell_up hbq HY0.out.2.1) (cell_up hbq HY0.out.2.2)))
    have m0 := cell_up hbq n0
    have xb0 := (blk_cell hx 0).trans rfl
    have xb1 := (blk_cell hx 1).trans rfl
    have xb2 := (blk_cell hx 2).trans rfl
    have yb0 := (blk_cell hy 0).trans rfl
    have yb1 := (blk_cell hy 1).trans rfl
    have yb2 := (blk_cell hy 2).trans rfl
    clear n0 n0A n0B x0 x0A x0B x1 x1A x1B x2 x2A x2B y0 y0A y0B y1 y1A y1B y2 y2A y2B hx hy hbq
    go_wp2_with (
      (with_reducible refine gate_ (.store 114 (.tmp 66) (.tmp 65)) rfl ?_)
      refine Kd.R_store k114 (w0 := wq) B rfl rfl 114 (.tmp 66) (.tmp 65) rfl 114 (g := g) (n := s.length) (cap := c) (o' := p * 3) (p : Int) 0 (s.map gv) (gv ⟨3, q, 0⟩) (.agg #[.int .i64 3, .int .i64 (q : Int), .int .i64 0]) [.int .i64 3, .int .i64 (q : Int), .int .i64 0] [.int .i64 1, .int .i64 (x.a : Int), .int .i64 (x.b : Int)] (fun _ => True) (fun _ => False) rfl (by rw [Int.toNat_natCast]; rfl) rfl rfl (by kernel_rfl) one3 HRq.out (by omega) (by omega) rfl (cc3 HXq.out.1 HXq.out.2.1 HXq.out.2.2) (Nat.le_refl 3) (k114_mkM _ _ _ (gv ⟨3, q, 0⟩)) (fun _ hk => hk.elim) (Below.refl _ _) ?_
      intro w2 hr2 hb2 hg2
      rw [Int.toNat_natCast] at hr2
      have hp2 := GM.put HMq.out HGq.out hr2 hg2
      have HM2 := Aside0.mk hp2.1
      have HK2 := Aside0.mk (HKq.out.trans hp2.2)
      have HX2 := Aside0.mk (blk_grown HX.out hg2 Hne.out.1)
      have HY2 := Aside0.mk (blk_grown HY.out hg2 Hne.out.2.1)
      have xb0 := (blk_cell HX2.out 0).trans rfl
      have xb1 := (blk_cell HX2.out 1).trans rfl
      have xb2 := (blk_cell HX2.out 2).trans rfl
      have yb0 := (blk_cell HY2.out 0).trans rfl
      have yb1 := (blk_cell HY2.out 1).trans rfl
      have yb2 := (blk_cell HY2.out 2).trans rfl
      clear hr2 hb2 hg2 hp2)
    go_ret
    exact ⟨rfl, HM2.out, HK2.out⟩
  · have ht := two_made w1 #[.int .i64 1, .int .i64 (y.a : Int), .int .i64 (y.b : Int)] #[.int .i64 1, .int .i64 (x.a : Int), .int .i64 (x.b : Int)] 114
    generalize ((w1.alloc (Obj.cells #[.int .i64 1, .int .i64 (y.a : Int), .int .i64 (y.b : Int)] 114)).alloc (Obj.cells #[.int .i64 1, .int .i64 (x.a : Int), .int .i64 (x.b : Int)] 114)).drew = wq at *
    obtain ⟨hbq, hy, hx⟩ := ht
    have Hne : Aside0 (some (w1.heap.size + 1) ≠ some g ∧ some (w1.heap.size) ≠ some g ∧ w1.heap.size + 1 ≠ gg ∧ w1.heap.size ≠ gg) := ⟨by have := Hgl.out; have := blk_lt HG.out; refine ⟨fun e => ?_, fun e => ?_, by omega, by omega⟩ <;> (injection e with e; omega)⟩
    generalize hgy : w1.heap.size + 1 = gx at hx Hne ⊢
    generalize hgx : w1.heap.size = gy at hy Hne ⊢
    clear hgx hgy
    have HBq := Aside0.mk hbq
    have HMq := Aside0.mk (HM.out.keep hbq)
    have HGq := Aside0.mk (blk_below HG.out hbq)
    have HRq := Aside0.mk (Kd.R_below HR.out hbq)
    have HX := Aside0.mk hx
    have HY := Aside0.mk hy
    have HKq := Aside0.mk (GKeep.of_below gg (some g) hbq)
    have HXq := Aside0.mk (And.intro (cell_up hbq HX0.out.1) (And.intro (cell_up hbq HX0.out.2.1) (cell_up hbq HX0.out.2.2)))
    have HYq := Aside0.mk (And.intro (cell_up hbq HY0.out.1) (And.intro (cell_up hbq HY0.out.2.1) (cell_up hbq HY0.out.2.2)))
    have m0 := cell_up hbq n0
    have xb0 := (blk_cell hx 0).trans rfl
    have xb1 := (blk_cell hx 1).trans rfl
    have xb2 := (blk_cell hx 2).trans rfl
    have yb0 := (blk_cell hy 0).trans rfl
    have yb1 := (blk_cell hy 1).trans rfl
    have yb2 := (blk_cell hy 2).trans rfl
    clear n0 n0A n0B x0 x0A x0B x1 x1A x1B x2 x2A x2B y0 y0A y0B y1 y1A y1B y2 y2A y2B hx hy hbq
    go_wp2_with (
      (with_reducible refine gate_ (.store 114 (.tmp 66) (.tmp 65)) rfl ?_)
      refine Kd.R_store k114 (w0 := wq) B rfl rfl 114 (.tmp 66) (.tmp 65) rfl 114 (g := g) (n := s.length) (cap := c) (o' := p * 3) (p : Int) 0 (s.map gv) (gv ⟨3, q, 0⟩) (.agg #[.int .i64 3, .int .i64 (q : Int), .int .i64 0]) [.int .i64 3, .int .i64 (q : Int), .int .i64 0] [.int .i64 1, .int .i64 (x.a : Int), .int .i64 (x.b : Int)] (fun _ => True) (fun _ => False) rfl (by rw [Int.toNat_natCast]; rfl) rfl rfl (by kernel_rfl) one3 HRq.out (by omega) (by omega) rfl (cc3 HXq.out.1 HXq.out.2.1 HXq.out.2.2) (Nat.le_refl 3) (k114_mkM _ _ _ (gv ⟨3, q, 0⟩)) (fun _ hk => hk.elim) (Below.refl _ _) ?_
      intro w2 hr2 hb2 hg2
      rw [Int.toNat_natCast] at hr2
      have hp2 := GM.put HMq.out HGq.out hr2 hg2
      have HM2 := Aside0.mk hp2.1
      have HK2 := Aside0.mk (HKq.out.trans hp2.2)
      have HX2 := Aside0.mk (blk_grown HX.out hg2 Hne.out.1)
      have HY2 := Aside0.mk (blk_grown HY.out hg2 Hne.out.2.1)
      have xb0 := (blk_cell HX2.out 0).trans rfl
      have xb1 := (blk_cell HX2.out 1).trans rfl
      have xb2 := (blk_cell HX2.out 2).trans rfl
      have yb0 := (blk_cell HY2.out 0).trans rfl
      have yb1 := (blk_cell HY2.out 1).trans rfl
      have yb2 := (blk_cell HY2.out 2).trans rfl
      clear hr2 hb2 hg2 hp2)
    go_ret
    exact ⟨rfl, HM2.out, HK2.out⟩
set_option maxHeartbeats 4000000 in
theorem uni_arF {s s1 : List GN} {a b p q i j : Nat} {x y : GN} (h1 : GEnd s i a p) (h2 : GEnd s j b q) (hpq : p ≠ q) (hx : s[p]? = some x) (hy : s[q]? = some y) (hxk : x.k = 2) (hyk : y.k = 2) (ih : ∀ (row : Option Nat) (w : World), GM gg B row w (s.set p ⟨3, q, 0⟩) → B ≤ w.heap.size → (s.set p ⟨3, q, 0⟩).length ≤ 1000000 → Calls Try.prog 45 #[.pointer (some ⟨gg, 0, none⟩), .int .i64 (x.a : Int), .int .i64 (y.a : Int)] w (UniOk gg B row false s1 w)) (w : World) (hM : GM gg B row w s) (hBw : B ≤ w.heap.size) (hl : s.length ≤ 1000000) :
    Calls Try.prog 45 #[.pointer (some ⟨gg, 0, none⟩), .int .i64 (a : Int), .int .i64 (b : Int)] w (UniOk gg B row false s1 w) := by
  have hu114 := Try.underlying114
  have hu90 := Try.underlying90
  have HM := Aside0.mk hM
  have H1 := Aside0.mk h1
  have H2 := Aside0.mk h2
  have Hl := Aside0.mk hl
  have HBw := Aside0.mk hBw
  obtain ⟨_, hql, _⟩ := h2.lt
  obtain ⟨_, hpl, _⟩ := h1.lt
  obtain ⟨g, c, cells, hrow, hgg, hR, hBgg, hBg, hg⟩ := hM.form (by omega)
  subst hrow
  have HR := Aside0.mk hR
  have HG := Aside0.mk hgg
  have Hg := Aside0.mk hg
  have Hgl := Aside0.mk (blk_lt hg)
  have n0 : w.cell? ⟨gg, 0, none⟩ = some (.slice (some ⟨g, 0, none⟩) s.length c) := (blk_cell hgg 0).trans rfl
  obtain ⟨x0, x1, x2⟩ := GM_at hR hx
  obtain ⟨y0, y1, y2⟩ := GM_at hR hy
  have p1 : (0 ≤ (p : Int)) = True := eq_true (by omega)
  have p2 : ((p : Int) < (s.length : Int)) = True := eq_true (by omega)
  have p3 : (p < s.length) = True := eq_true (by omega)
  have q1 : (0 ≤ (q : Int)) = True := eq_true (by omega)
  have q2 : ((q : Int) < (s.length : Int)) = True := eq_true (by omega)
  have q3 : (q < s.length) = True := eq_true (by omega)
  have b1 : ((p : Int) == (q : Int)) = false := by rw [beq_eq_false_iff_ne]; omega
  have b2 : decide (p = q) = false := decide_eq_false hpq
  rw [hxk] at x0
  rw [hyk] at y0
  have HX0 := Aside0.mk (And.intro x0 (And.intro x1 x2))
  have HY0 := Aside0.mk (And.intro y0 (And.intro y1 y2))
  have n0A := cellA n0
  have n0B := cellAA n0
  have x0A := cellA x0
  have x0B := cellAA x0
  have x1A := cellA x1
  have x1B := cellAA x1
  have x2A := cellA x2
  have x2B := cellAA x2
  have y0A := cellA y0
  have y0B := cellAA y0
  have y1A := cellA y1
  have y1B := cellAA y1
  have y2A := cellA y2
  have y2B := cellAA y2
  replace ih := Aside0.mk ih
  clear hM h1 h2 hl hBw hgg hR hg hx hy hpq hxk hyk
  go_enter Try.func45, Try.ntmps45
  go_wp2_with fail
  (with_reducible refine (end_calls H1.out HM.out Hl.out).mono ?_)
  rintro e w1 ⟨rfl, rfl⟩
  go_wp2_with fail
  (with_reducible refine (end_calls H2.out HM.out Hl.out).mono ?_)
  rintro e w1 ⟨rfl, rfl⟩
  go_wp2_with fail
  go_region
  · have ht := two_made w1 #[.int .i64 2, .int .i64 (x.a : Int), .int .i64 (x.b : Int)] #[.int .i64 2, .int .i64 (y.a : Int), .int .i64 (y.b : Int)] 114
    generalize ((w1.alloc (Obj.cells #[.int .i64 2, .int .i64 (x.a : Int), .int .i64 (x.b : Int)] 114)).alloc (Obj.cells #[.int .i64 2, .int .i64 (y.a : Int), .int .i64 (y.b : Int)] 114)).drew = wq at *
    obtain ⟨hbq, hx, hy⟩ := ht
    have Hne : Aside0 (some w1.heap.size ≠ some g ∧ some (w1.heap.size + 1) ≠ some g ∧ w1.heap.size ≠ gg ∧ w1.heap.size + 1 ≠ gg) := ⟨by have := Hgl.out; have := blk_lt HG.out; refine ⟨fun e => ?_, fun e => ?_, by omega, by omega⟩ <;> (injection e with e; omega)⟩
    generalize hgy : w1.heap.size + 1 = gy at hy Hne ⊢
    generalize hgx : w1.heap.size = gx at hx Hne ⊢
    clear hgx hgy
    have HBq := Aside0.mk hbq
    have HMq := Aside0.mk (HM.out.keep hbq)
    have HGq := Aside0.mk (blk_below HG.out hbq)
    have HRq := Aside0.mk (Kd.R_below HR.out hbq)
    have HX := Aside0.mk hx
    have HY := Aside0.mk hy
    have HKq := Aside0.mk (GKeep.of_below gg (some g) hbq)
    have HXq := Aside0.mk (And.intro (cell_up hbq HX0.out.1) (And.intro (cell_up hbq HX0.out.2.1) (cell_up hbq HX0.out.2.2)))
    have HYq := Aside0.mk (And.intro (cell_up hbq HY0.out.1) (And.intro (cell_up hbq HY0.out.2.1) (cell_up hbq HY0.out.2.2)))
    have m0 := cell_up hbq n0
    have xb0 := (blk_cell hx 0).trans rfl
    have xb1 := (blk_cell hx 1).trans rfl
    have xb2 := (blk_cell hx 2).trans rfl
    have yb0 := (blk_cell hy 0).trans rfl
    have yb1 := (blk_cell hy 1).trans rfl
    have yb2 := (blk_cell hy 2).trans rfl
    clear n0 n0A n0B x0 x0A x0B x1 x1A x1B x2 x2A x2B y0 y0A y0B y1 y1A y1B y2 y2A y2B hx hy hbq
    go_wp2_with (
      (with_reducible refine gate_ (.store 114 (.tmp 66) (.tmp 65)) rfl ?_)
      refine Kd.R_store k114 (w0 := wq) B rfl rfl 114 (.tmp 66) (.tmp 65) rfl 114 (g := g) (n := s.length) (cap := c) (o' := p * 3) (p : Int) 0 (s.map gv) (gv ⟨3, q, 0⟩) (.agg #[.int .i64 3, .int .i64 (q : Int), .int .i64 0]) [.int .i64 3, .int .i64 (q : Int), .int .i64 0] [.int .i64 2, .int .i64 (x.a : Int), .int .i64 (x.b : Int)] (fun _ => True) (fun _ => False) rfl (by rw [Int.toNat_natCast]; rfl) rfl rfl (by kernel_rfl) one3 HRq.out (by omega) (by omega) rfl (cc3 HXq.out.1 HXq.out.2.1 HXq.out.2.2) (Nat.le_refl 3) (k114_mkM _ _ _ (gv ⟨3, q, 0⟩)) (fun _ hk => hk.elim) (Below.refl _ _) ?_
      intro w2 hr2 hb2 hg2
      rw [Int.toNat_natCast] at hr2
      have hp2 := GM.put HMq.out HGq.out hr2 hg2
      have HM2 := Aside0.mk hp2.1
      have HK2 := Aside0.mk (HKq.out.trans hp2.2)
      have HX2 := Aside0.mk (blk_grown HX.out hg2 Hne.out.1)
      have HY2 := Aside0.mk (blk_grown HY.out hg2 Hne.out.2.1)
      have xb0 := (blk_cell HX2.out 0).trans rfl
      have xb1 := (blk_cell HX2.out 1).trans rfl
      have xb2 := (blk_cell HX2.out 2).trans rfl
      have yb0 := (blk_cell HY2.out 0).trans rfl
      have yb1 := (blk_cell HY2.out 1).trans rfl
      have yb2 := (blk_cell HY2.out 2).trans rfl
      clear hr2 hb2 hg2 hp2)
    (with_reducible refine (ih.out _ _ HM2.out (Nat.le_trans HBw.out HK2.out.size) (by rw [List.length_set]; exact Hl.out)).mono ?_)
    rintro e w3 ⟨rfl, hM3, hK3⟩
    have HM3 := Aside0.mk hM3
    have HK3 := Aside0.mk (HK2.out.trans hK3)
    clear hM3 hK3
    go_wp2_with fail
    go_ret
    exact ⟨rfl, HM3.out, HK3.out⟩
  · have ht := two_made w1 #[.int .i64 2, .int .i64 (y.a : Int), .int .i64 (y.b : Int)] #[.int .i64 2, .int .i64 (x.a : Int), .int .i64 (x.b : Int)] 114
    generalize ((w1.alloc (Obj.cells #[.int .i64 2, .int .i64 (y.a : Int), .int .i64 (y.b : Int)] 114)).alloc (Obj.cells #[.int .i64 2, .int .i64 (x.a : Int), .int .i64 (x.b : Int)] 114)).drew = wq at *
    obtain ⟨hbq, hy, hx⟩ := ht
    have Hne : Aside0 (some (w1.heap.size + 1) ≠ some g ∧ some (w1.heap.size) ≠ some g ∧ w1.heap.size + 1 ≠ gg ∧ w1.heap.size ≠ gg) := ⟨by have := Hgl.out; have := blk_lt HG.out; refine ⟨fun e => ?_, fun e => ?_, by omega, by omega⟩ <;> (injection e with e; omega)⟩
    generalize hgy : w1.heap.size + 1 = gx at hx Hne ⊢
    generalize hgx : w1.heap.size = gy at hy Hne ⊢
    clear hgx hgy
    have HBq := Aside0.mk hbq
    have HMq := Aside0.mk (HM.out.keep hbq)
    have HGq := Aside0.mk (blk_below HG.out hbq)
    have HRq := Aside0.mk (Kd.R_below HR.out hbq)
    have HX := Aside0.mk hx
    have HY := Aside0.mk hy
    have HKq := Aside0.mk (GKeep.of_below gg (some g) hbq)
    have HXq := Aside0.mk (And.intro (cell_up hbq HX0.out.1) (And.intro (cell_up hbq HX0.out.2.1) (cell_up hbq HX0.out.2.2)))
    have HYq := Aside0.mk (And.intro (cell_up hbq HY0.out.1) (And.intro (cell_up hbq HY0.out.2.1) (cell_up hbq HY0.out.2.2)))
    have m0 := cell_up hbq n0
    have xb0 := (blk_cell hx 0).trans rfl
    have xb1 := (blk_cell hx 1).trans rfl
    have xb2 := (blk_cell hx 2).trans rfl
    have yb0 := (blk_cell hy 0).trans rfl
    have yb1 := (blk_cell hy 1).trans rfl
    have yb2 := (blk_cell hy 2).trans rfl
    clear n0 n0A n0B x0 x0A x0B x1 x1A x1B x2 x2A x2B y0 y0A y0B y1 y1A y1B y2 y2A y2B hx hy hbq
    go_wp2_with (
      (with_reducible refine gate_ (.store 114 (.tmp 66) (.tmp 65)) rfl ?_)
      refine Kd.R_store k114 (w0 := wq) B rfl rfl 114 (.tmp 66) (.tmp 65) rfl 114 (g := g) (n := s.length) (cap := c) (o' := p * 3) (p : Int) 0 (s.map gv) (gv ⟨3, q, 0⟩) (.agg #[.int .i64 3, .int .i64 (q : Int), .int .i64 0]) [.int .i64 3, .int .i64 (q : Int), .int .i64 0] [.int .i64 2, .int .i64 (x.a : Int), .int .i64 (x.b : Int)] (fun _ => True) (fun _ => False) rfl (by rw [Int.toNat_natCast]; rfl) rfl rfl (by kernel_rfl) one3 HRq.out (by omega) (by omega) rfl (cc3 HXq.out.1 HXq.out.2.1 HXq.out.2.2) (Nat.le_refl 3) (k114_mkM _ _ _ (gv ⟨3, q, 0⟩)) (fun _ hk => hk.elim) (Below.refl _ _) ?_
      intro w2 hr2 hb2 hg2
      rw [Int.toNat_natCast] at hr2
      have hp2 := GM.put HMq.out HGq.out hr2 hg2
      have HM2 := Aside0.mk hp2.1
      have HK2 := Aside0.mk (HKq.out.trans hp2.2)
      have HX2 := Aside0.mk (blk_grown HX.out hg2 Hne.out.1)
      have HY2 := Aside0.mk (blk_grown HY.out hg2 Hne.out.2.1)
      have xb0 := (blk_cell HX2.out 0).trans rfl
      have xb1 := (blk_cell HX2.out 1).trans rfl
      have xb2 := (blk_cell HX2.out 2).trans rfl
      have yb0 := (blk_cell HY2.out 0).trans rfl
      have yb1 := (blk_cell HY2.out 1).trans rfl
      have yb2 := (blk_cell HY2.out 2).trans rfl
      clear hr2 hb2 hg2 hp2)
    (with_reducible refine (ih.out _ _ HM2.out (Nat.le_trans HBw.out HK2.out.size) (by rw [List.length_set]; exact Hl.out)).mono ?_)
    rintro e w3 ⟨rfl, hM3, hK3⟩
    have HM3 := Aside0.mk hM3
    have HK3 := Aside0.mk (HK2.out.trans hK3)
    clear hM3 hK3
    go_wp2_with fail
    go_ret
    exact ⟨rfl, HM3.out, HK3.out⟩
set_option maxHeartbeats 4000000 in
theorem uni_arT {s s1 s2 : List GN} {a b p q i j : Nat} {x y : GN} {r : Bool} (h1 : GEnd s i a p) (h2 : GEnd s j b q) (hpq : p ≠ q) (hx : s[p]? = some x) (hy : s[q]? = some y) (hxk : x.k = 2) (hyk : y.k = 2) (ih : ∀ (row : Option Nat) (w : World), GM gg B row w (s.set p ⟨3, q, 0⟩) → B ≤ w.heap.size → (s.set p ⟨3, q, 0⟩).length ≤ 1000000 → Calls Try.prog 45 #[.pointer (some ⟨gg, 0, none⟩), .int .i64 (x.a : Int), .int .i64 (y.a : Int)] w (UniOk gg B row true s1 w)) (ih2 : ∀ (row : Option Nat) (w : World), GM gg B row w s1 → B ≤ w.heap.size → s1.length ≤ 1000000 → Calls Try.prog 45 #[.pointer (some ⟨gg, 0, none⟩), .int .i64 (x.b : Int), .int .i64 (y.b : Int)] w (UniOk gg B row r s2 w)) (hl1 : s1.length = s.length) (w : World) (hM : GM gg B row w s) (hBw : B ≤ w.heap.size) (hl : s.length ≤ 1000000) :
    Calls Try.prog 45 #[.pointer (some ⟨gg, 0, none⟩), .int .i64 (a : Int), .int .i64 (b : Int)] w (UniOk gg B row r s2 w) := by
  have hu114 := Try.underlying114
  have hu90 := Try.underlying90
  have HM := Aside0.mk hM
  have H1 := Aside0.mk h1
  have H2 := Aside0.mk h2
  have Hl := Aside0.mk hl
  have HBw := Aside0.mk hBw
  obtain ⟨_, hql, _⟩ := h2.lt
  obtain ⟨_, hpl, _⟩ := h1.lt
  obtain ⟨g, c, cells, hrow, hgg, hR, hBgg, hBg, hg⟩ := hM.form (by omega)
  subst hrow
  have HR := Aside0.mk hR
  have HG := Aside0.mk hgg
  have Hg := Aside0.mk hg
  have Hgl := Aside0.mk (blk_lt hg)
  have n0 : w.cell? ⟨gg, 0, none⟩ = some (.slice (some ⟨g, 0, none⟩) s.length c) := (blk_cell hgg 0).trans rfl
  obtain ⟨x0, x1, x2⟩ := GM_at hR hx
  obtain ⟨y0, y1, y2⟩ := GM_at hR hy
  have p1 : (0 ≤ (p : Int)) = True := eq_true (by omega)
  have p2 : ((p : Int) < (s.length : Int)) = True := eq_true (by omega)
  have p3 : (p < s.length) = True := eq_true (by omega)
  have q1 : (0 ≤ (q : Int)) = True := eq_true (by omega)
  have q2 : ((q : Int) < (s.length : Int)) = True := eq_true (by omega)
  have q3 : (q < s.length) = True := eq_true (by omega)
  have b1 : ((p : Int) == (q : Int)) = false := by rw [beq_eq_false_iff_ne]; omega
  have b2 : decide (p = q) = false := decide_eq_false hpq
  rw [hxk] at x0
  rw [hyk] at y0
  have HX0 := Aside0.mk (And.intro x0 (And.intro x1 x2))
  have HY0 := Aside0.mk (And.intro y0 (And.intro y1 y2))
  have n0A := cellA n0
  have n0B := cellAA n0
  have x0A := cellA x0
  have x0B := cellAA x0
  have x1A := cellA x1
  have x1B := cellAA x1
  have x2A := cellA x2
  have x2B := cellAA x2
  have y0A := cellA y0
  have y0B := cellAA y0
  have y1A := cellA y1
  have y1B := cellAA y1
  have y2A := cellA y2
  have y2B := cellAA y2
  replace ih := Aside0.mk ih
  replace ih2 := Aside0.mk ih2
  have Hs1 := Aside0.mk hl1
  clear hl1
  clear hM h1 h2 hl hBw hgg hR hg hx hy hpq hxk hyk
  go_enter Try.func45, Try.ntmps45
  go_wp2_with fail
  (with_reducible refine (end_calls H1.out HM.out Hl.out).mono ?_)
  rintro e w1 ⟨rfl, rfl⟩
  go_wp2_with fail
  (with_reducible refine (end_calls H2.out HM.out Hl.out).mono ?_)
  rintro e w1 ⟨rfl, rfl⟩
  go_wp2_with fail
  go_region
  · have ht := two_made w1 #[.int .i64 2, .int .i64 (x.a : Int), .int .i64 (x.b : Int)] #[.int .i64 2, .int .i64 (y.a : Int), .int .i64 (y.b : Int)] 114
    generalize ((w1.alloc (Obj.cells #[.int .i64 2, .int .i64 (x.a : Int), .int .i64 (x.b : Int)] 114)).alloc (Obj.cells #[.int .i64 2, .int .i64 (y.a : Int), .int .i64 (y.b : Int)] 114)).drew = wq at *
    obtain ⟨hbq, hx, hy⟩ := ht
    have Hne : Aside0 (some w1.heap.size ≠ some g ∧ some (w1.heap.size + 1) ≠ some g ∧ w1.heap.size ≠ gg ∧ w1.heap.size + 1 ≠ gg) := ⟨by have := Hgl.out; have := blk_lt HG.out; refine ⟨fun e => ?_, fun e => ?_, by omega, by omega⟩ <;> (injection e with e; omega)⟩
    generalize hgy : w1.heap.size + 1 = gy at hy Hne ⊢
    generalize hgx : w1.heap.size = gx at hx Hne ⊢
    clear hgx hgy
    have HBq := Aside0.mk hbq
    have HMq := Aside0.mk (HM.out.keep hbq)
    have HGq := Aside0.mk (blk_below HG.out hbq)
    have HRq := Aside0.mk (Kd.R_below HR.out hbq)
    have HX := Aside0.mk hx
    have HY := Aside0.mk hy
    have HKq := Aside0.mk (GKeep.of_below gg (some g) hbq)
    have HXq := Aside0.mk (And.intro (cell_up hbq HX0.out.1) (And.intro (cell_up hbq HX0.out.2.1) (cell_up hbq HX0.out.2.2)))
    have HYq := Aside0.mk (And.intro (cell_up hbq HY0.out.1) (And.intro (cell_up hbq HY0.out.2.1) (cell_up hbq HY0.out.2.2)))
    have m0 := cell_up hbq n0
    have xb0 := (blk_cell hx 0).trans rfl
    have xb1 := (blk_cell hx 1).trans rfl
    have xb2 := (blk_cell hx 2).trans rfl
    have yb0 := (blk_cell hy 0).trans rfl
    have yb1 := (blk_cell hy 1).trans rfl
    have yb2 := (blk_cell hy 2).trans rfl
    clear n0 n0A n0B x0 x0A x0B x1 x1A x1B x2 x2A x2B y0 y0A y0B y1 y1A y1B y2 y2A y2B hx hy hbq
    go_wp2_with (
      (with_reducible refine gate_ (.store 114 (.tmp 66) (.tmp 65)) rfl ?_)
      refine Kd.R_store k114 (w0 := wq) B rfl rfl 114 (.tmp 66) (.tmp 65) rfl 114 (g := g) (n := s.length) (cap := c) (o' := p * 3) (p : Int) 0 (s.map gv) (gv ⟨3, q, 0⟩) (.agg #[.int .i64 3, .int .i64 (q : Int), .int .i64 0]) [.int .i64 3, .int .i64 (q : Int), .int .i64 0] [.int .i64 2, .int .i64 (x.a : Int), .int .i64 (x.b : Int)] (fun _ => True) (fun _ => False) rfl (by rw [Int.toNat_natCast]; rfl) rfl rfl (by kernel_rfl) one3 HRq.out (by omega) (by omega) rfl (cc3 HXq.out.1 HXq.out.2.1 HXq.out.2.2) (Nat.le_refl 3) (k114_mkM _ _ _ (gv ⟨3, q, 0⟩)) (fun _ hk => hk.elim) (Below.refl _ _) ?_
      intro w2 hr2 hb2 hg2
      rw [Int.toNat_natCast] at hr2
      have hp2 := GM.put HMq.out HGq.out hr2 hg2
      have HM2 := Aside0.mk hp2.1
      have HK2 := Aside0.mk (HKq.out.trans hp2.2)
      have HX2 := Aside0.mk (blk_grown HX.out hg2 Hne.out.1)
      have HY2 := Aside0.mk (blk_grown HY.out hg2 Hne.out.2.1)
      have xb0 := (blk_cell HX2.out 0).trans rfl
      have xb1 := (blk_cell HX2.out 1).trans rfl
      have xb2 := (blk_cell HX2.out 2).trans rfl
      have yb0 := (blk_cell HY2.out 0).trans rfl
      have yb1 := (blk_cell HY2.out 1).trans rfl
      have yb2 := (blk_cell HY2.out 2).trans rfl
      clear hr2 hb2 hg2 hp2)
    (with_reducible refine (ih.out _ _ HM2.out (Nat.le_trans HBw.out HK2.out.size) (by rw [List.length_set]; exact Hl.out)).mono ?_)
    rintro e w3 ⟨rfl, hM3, hK3⟩
    have HM3 := Aside0.mk hM3
    have HK3 := Aside0.mk (HK2.out.trans hK3)
    have HX3 := Aside0.mk (hK3.keep.blk HX2.out Hne.out.2.2.1 Hne.out.1)
    have HY3 := Aside0.mk (hK3.keep.blk HY2.out Hne.out.2.2.2 Hne.out.2.1)
    clear hM3 hK3 xb0 xb1 xb2 yb0 yb1 yb2
    have xb0 := (blk_cell HX3.out 0).trans rfl
    have xb1 := (blk_cell HX3.out 1).trans rfl
    have xb2 := (blk_cell HX3.out 2).trans rfl
    have yb0 := (blk_cell HY3.out 0).trans rfl
    have yb1 := (blk_cell HY3.out 1).trans rfl
    have yb2 := (blk_cell HY3.out 2).trans rfl
    go_wp2_with fail
    (with_reducible refine (ih2.out _ _ HM3.out (Nat.le_trans HBw.out HK3.out.size) (by rw [Hs1.out]; exact Hl.out)).mono ?_)
    rintro e w4 ⟨rfl, hM4, hK4⟩
    have HM4 := Aside0.mk hM4
    have HK4 := Aside0.mk (HK3.out.trans hK4)
    clear hM4 hK4
    go_wp2_with fail
    go_ret
    exact ⟨rfl, HM4.out, HK4.out⟩
  · have ht := two_made w1 #[.int .i64 2, .int .i64 (y.a : Int), .int .i64 (y.b : Int)] #[.int .i64 2, .int .i64 (x.a : Int), .int .i64 (x.b : Int)] 114
    generalize ((w1.alloc (Obj.cells #[.int .i64 2, .int .i64 (y.a : Int), .int .i64 (y.b : Int)] 114)).alloc (Obj.cells #[.int .i64 2, .int .i64 (x.a : Int), .int .i64 (x.b : Int)] 114)).drew = wq at *
    obtain ⟨hbq, hy, hx⟩ := ht
    have Hne : Aside0 (some (w1.heap.size + 1) ≠ some g ∧ some (w1.heap.size) ≠ some g ∧ w1.heap.size + 1 ≠ gg ∧ w1.heap.size ≠ gg) := ⟨by have := Hgl.out; have := blk_lt HG.out; refine ⟨fun e => ?_, fun e => ?_, by omega, by omega⟩ <;> (injection e with e; omega)⟩
    generalize hgy : w1.heap.size + 1 = gx at hx Hne ⊢
    generalize hgx : w1.heap.size = gy at hy Hne ⊢
    clear hgx hgy
    have HBq := Aside0.mk hbq
    have HMq := Aside0.mk (HM.out.keep hbq)
    have HGq := Aside0.mk (blk_below HG.out hbq)
    have HRq := Aside0.mk (Kd.R_below HR.out hbq)
    have HX := Aside0.mk hx
    have HY := Aside0.mk hy
    have HKq := Aside0.mk (GKeep.of_below gg (some g) hbq)
    have HXq := Aside0.mk (And.intro (cell_up hbq HX0.out.1) (And.intro (cell_up hbq HX0.out.2.1) (cell_up hbq HX0.out.2.2)))
    have HYq := Aside0.mk (And.intro (cell_up hbq HY0.out.1) (And.intro (cell_up hbq HY0.out.2.1) (cell_up hbq HY0.out.2.2)))
    have m0 := cell_up hbq n0
    have xb0 := (blk_cell hx 0).trans rfl
    have xb1 := (blk_cell hx 1).trans rfl
    have xb2 := (blk_cell hx 2).trans rfl
    have yb0 := (blk_cell hy 0).trans rfl
    have yb1 := (blk_cell hy 1).trans rfl
    have yb2 := (blk_cell hy 2).trans rfl
    clear n0 n0A n0B x0 x0A x0B x1 x1A x1B x2 x2A x2B y0 y0A y0B y1 y1A y1B y2 y2A y2B hx hy hbq
    go_wp2_with (
      (with_reducible refine gate_ (.store 114 (.tmp 66) (.tmp 65)) rfl ?_)
      refine Kd.R_store k114 (w0 := wq) B rfl rfl 114 (.tmp 66) (.tmp 65) rfl 114 (g := g) (n := s.length) (cap := c) (o' := p * 3) (p : Int) 0 (s.map gv) (gv ⟨3, q, 0⟩) (.agg #[.int .i64 3, .int .i64 (q : Int), .int .i64 0]) [.int .i64 3, .int .i64 (q : Int), .int .i64 0] [.int .i64 2, .int .i64 (x.a : Int), .int .i64 (x.b : Int)] (fun _ => True) (fun _ => False) rfl (by rw [Int.toNat_natCast]; rfl) rfl rfl (by kernel_rfl) one3 HRq.out (by omega) (by omega) rfl (cc3 HXq.out.1 HXq.out.2.1 HXq.out.2.2) (Nat.le_refl 3) (k114_mkM _ _ _ (gv ⟨3, q, 0⟩)) (fun _ hk => hk.elim) (Below.refl _ _) ?_
      intro w2 hr2 hb2 hg2
      rw [Int.toNat_natCast] at hr2
      have hp2 := GM.put HMq.out HGq.out hr2 hg2
      have HM2 := Aside0.mk hp2.1
      have HK2 := Aside0.mk (HKq.out.trans hp2.2)
      have HX2 := Aside0.mk (blk_grown HX.out hg2 Hne.out.1)
      have HY2 := Aside0.mk (blk_grown HY.out hg2 Hne.out.2.1)
      have xb0 := (blk_cell HX2.out 0).trans rfl
      have xb1 := (blk_cell HX2.out 1).trans rfl
      have xb2 := (blk_cell HX2.out 2).trans rfl
      have yb0 := (blk_cell HY2.out 0).trans rfl
      have yb1 := (blk_cell HY2.out 1).trans rfl
      have yb2 := (blk_cell HY2.out 2).trans rfl
      clear hr2 hb2 hg2 hp2)
    (with_reducible refine (ih.out _ _ HM2.out (Nat.le_trans HBw.out HK2.out.size) (by rw [List.length_set]; exact Hl.out)).mono ?_)
    rintro e w3 ⟨rfl, hM3, hK3⟩
    have HM3 := Aside0.mk hM3
    have HK3 := Aside0.mk (HK2.out.trans hK3)
    have HX3 := Aside0.mk (hK3.keep.blk HX2.out Hne.out.2.2.1 Hne.out.1)
    have HY3 := Aside0.mk (hK3.keep.blk HY2.out Hne.out.2.2.2 Hne.out.2.1)
    clear hM3 hK3 xb0 xb1 xb2 yb0 yb1 yb2
    have xb0 := (blk_cell HX3.out 0).trans rfl
    have xb1 := (blk_cell HX3.out 1).trans rfl
    have xb2 := (blk_cell HX3.out 2).trans rfl
    have yb0 := (blk_cell HY3.out 0).trans rfl
    have yb1 := (blk_cell HY3.out 1).trans rfl
    have yb2 := (blk_cell HY3.out 2).trans rfl
    go_wp2_with fail
    (with_reducible refine (ih2.out _ _ HM3.out (Nat.le_trans HBw.out HK3.out.size) (by rw [Hs1.out]; exact Hl.out)).mono ?_)
    rintro e w4 ⟨rfl, hM4, hK4⟩
    have HM4 := Aside0.mk hM4
    have HK4 := Aside0.mk (HK3.out.trans hK4)
    clear hM4 hK4
    go_wp2_with fail
    go_ret
    exact ⟨rfl, HM4.out, HK4.out⟩
theorem unify_calls {s : List GN} {a b : Nat} {r : Bool} {s' : List GN} (h : GUni s a b r s') : GWF s → ∀ (row : Option Nat) (w : World), GM gg B row w s → B ≤ w.heap.size → s.length ≤ 1000000 →
    Calls Try.prog 45 #[.pointer (some ⟨gg, 0, none⟩), .int .i64 (a : Int), .int .i64 (b : Int)] w (UniOk gg B row r s' w) := by
  induction h with
  | same h1 h2 => exact fun _ row w hM hB hl => uni_same h1 h2 w hM hB hl
  | openL h1 h2 hpq hx hk => exact fun _ row w hM hB hl => uni_openL h1 h2 hpq hx hk w hM hB hl
  | openR h1 h2 hpq hx hy hk hk2 => exact fun _ row w hM hB hl => uni_openR h1 h2 hpq hx hy hk hk2 w hM hB hl
  | clash h1 h2 hpq hx hy hk hk2 hk3 => exact fun _ row w hM hB hl => uni_clash h1 h2 hpq hx hy hk hk2 hk3 w hM hB hl
  | base h1 h2 hpq hx hy hk hk2 => exact fun _ row w hM hB hl => uni_base h1 h2 hpq hx hy hk hk2 w hM hB hl
  | arF h1 h2 hpq hx hy hk hk2 hu ih => exact fun wf row w hM hB hl => uni_arF h1 h2 hpq hx hy hk hk2 (ih (wf.link hx (by omega) hy (by omega) hpq)) w hM hB hl
  | arT h1 h2 hpq hx hy hk hk2 hu hv ih1 ih2 =>
    exact fun wf row w hM hB hl => by
      have w1 := wf.link hx (by omega) hy (by omega) hpq
      have U := hu.ok w1
      exact uni_arT h1 h2 hpq hx hy hk hk2 (ih1 w1) (ih2 U.wf) (U.len.trans (List.length_set ..)) w hM hB hl
end Go.Proofs.Ytfhgoebgnilfaaa.I
namespace Go.Proofs.Ytfhgoebgnilfaaa.I
open Go.RowKit Go.Proofs.YtfhgoebgnilfaaaW.PrintWords Go.Proofs.YtfhgoebgnilfaaaW.PrintLast Go.Proofs.YtfhgoebgnilfaaaW.PrintMore
attribute [local go_sem] max2_int min2_int max_two min_two max_three min_three max_four min_four
set_option linter.unusedVariables false
set_option maxRecDepth 100000
set_option linter.unusedSimpArgs false
theorem GSort.inv_nil {hd : Int → Int → Option Nat} {s s' : List GN} {n : Nat} {r : Option Nat} (h : GSort hd s n [] r s') : r = some n ∧ s' = s := by
  cases h; exact ⟨rfl, rfl⟩
theorem GSort.inv_cons {hd : Int → Int → Option Nat} {s s' : List GN} {n : Nat} {r : Option Nat} {x : S44} {xs : List S44} (h : GSort hd s n (x :: xs) r s') : ∃ m, hd x.f0 x.f1 = some m ∧
    ((r = none ∧ GSort hd s m x.f2 none s') ∨ (∃ a s1, GSort hd s m x.f2 (some a) s1 ∧ GUni (s1 ++ [⟨0, 0, 0⟩] ++ [⟨2, a, s1.length⟩]) n (s1.length + 1) false s' ∧ r = none) ∨
     (∃ a s1 s2, GSort hd s m x.f2 (some a) s1 ∧ GUni (s1 ++ [⟨0, 0, 0⟩] ++ [⟨2, a, s1.length⟩]) n (s1.length + 1) true s2 ∧ GSort hd s2 s1.length xs r s')) := by
  cases h with
  | bad hm h1 => exact ⟨_, hm, .inl ⟨rfl, h1⟩⟩
  | clash hm h1 hu => exact ⟨_, hm, .inr (.inl ⟨_, _, h1, hu, rfl⟩)⟩
  | step hm h1 hu h2 => exact ⟨_, hm, .inr (.inr ⟨_, _, _, h1, hu, h2⟩)⟩
theorem GUni.len {s s' : List GN} {a b : Nat} {r : Bool} (h : GUni s a b r s') : s'.length = s.length := by
  induction h with
  | same => rfl
  | openL => rw [List.length_set]
  | openR => rw [List.length_set]
  | clash => rfl
  | base => rw [List.length_set]
  | arF _ _ _ _ _ _ _ _ ih => rw [ih, List.length_set]
  | arT _ _ _ _ _ _ _ _ _ ih1 ih2 => rw [ih2, ih1, List.length_set]
theorem gtwo_len (s1 : List GN) (a : Nat) : (s1 ++ [(⟨0, 0, 0⟩ : GN)] ++ [(⟨2, a, s1.length⟩ : GN)]).length = s1.length + 2 := by rw [List.length_append, List.length_append]; rfl
theorem GSort.len {hd : Int → Int → Option Nat} {s s' : List GN} {n : Nat} {l : List S44} {r : Option Nat} (h : GSort hd s n l r s') : s.length ≤ s'.length := by
  induction h with
  | nil => exact Nat.le_refl _
  | bad _ _ ih => exact ih
  | clash _ _ hu ih => rw [hu.len, gtwo_len]; omega
  | step _ _ hu _ ih1 ih2 => have := hu.len; rw [gtwo_len] at this; omega
def hdR (ps hf hs : List Nat) (kd n : Int) : Option Nat := if n < 0 then none else if kd = 0 then ps[n.toNat]? else if kd = 1 then hf[n.toNat]? else if kd = 2 then hs[n.toNat]? else none
abbrev KI := Kd.int .i64
theorem head_mem {ps hf hs : List Nat} {kd n : Int} {m : Nat} (h : hdR ps hf hs kd n = some m) {B : Nat} {w : World} {AV AF AS : Option Addr} {cV cF cS : Nat} (hV : KI.R 3 w B (fun _ => True) (.slice AV ps.length cV) (ints ps)) (hF : KI.R 3 w B (fun _ => True) (.slice AF hf.length cF) (ints hf)) (hS : KI.R 3 w B (fun _ => True) (.slice AS hs.length cS) (ints hs)) :
    ∃ (k3 nn : Nat) (hl : List Nat) (A : Option Addr) (c : Nat), kd = (k3 : Int) ∧ n = (nn : Int) ∧ k3 < 3 ∧ nn < hl.length ∧ (#[Value.slice AV ps.length cV, .slice AF hf.length cF, .slice AS hs.length cS] : Array Value)[k3]? = some (.slice A hl.length c) ∧ KI.R 3 w B (fun _ => True) (.slice A hl.length c) (ints hl) ∧ hl[nn]? = some m := by
  unfold hdR at h
  by_cases hn : n < 0
  · rw [if_pos hn] at h; cases h
  rw [if_neg hn] at h
  have en : n = (n.toNat : Int) := by omega
  by_cases k0 : kd = 0
  · rw [if_pos k0] at h; exact ⟨0, n.toNat, ps, AV, cV, k0, en, by decide, (List.getElem?_eq_some_iff.1 h).1, rfl, hV, h⟩
  rw [if_neg k0] at h
  by_cases k1 : kd = 1
  · rw [if_pos k1] at h; exact ⟨1, n.toNat, hf, AF, cF, k1, en, by decide, (List.getElem?_eq_some_iff.1 h).1, rfl, hF, h⟩
  rw [if_neg k1] at h
  by_cases k2 : kd = 2
  · rw [if_pos k2] at h; exact ⟨2, n.toNat, hs, AS, cS, k2, en, by decide, (List.getElem?_eq_some_iff.1 h).1, rfl, hS, h⟩
  · rw [if_neg k2] at h; cases h
theorem at_T44F {w : World} {ok : Nat → Prop} {A : Option Addr} {n : Nat} {xs : List S44} (h : Kd.F k44 w ok A n xs) (i : Nat) (h1 : i < n) : ∃ ad A2 c2, A = some ad ∧ w.cell? (ad.add (i * 3)) = some (.int .i64 (rd_T44 xs (i : Int)).f0) ∧ w.cell? ⟨(ad.add (i * 3)).block, (ad.add (i * 3)).off + 1, none⟩ = some (.int .i64 (rd_T44 xs (i : Int)).f1) ∧ w.cell? ⟨(ad.add (i * 3)).block, (ad.add (i * 3)).off + 2, none⟩ = some (.slice A2 (rd_T44 xs (i : Int)).f2.length c2) ∧ (rd_T44 xs (i : Int)).f2.length ≤ c2 ∧ Kd.F k44 w ok A2 (rd_T44 xs (i : Int)).f2.length (rd_T44 xs (i : Int)).f2 := by
  obtain ⟨ad, c, e, hcl, hK, hcc, _⟩ := Kd.F_get h z44 (i : Int) (by omega) (by omega)
  obtain ⟨A2, c2, rfl, hl, hF⟩ := k44_openF hK
  have y0 := hcc 0 _ rfl
  have y1 := hcc 1 _ rfl
  have y2 := hcc 2 _ rfl
  rw [Int.toNat_natCast] at y0 y1 y2
  refine ⟨ad, A2, c2, e, y0, ?_, ?_, hl, hF⟩
  · rw [← add_field ad (i * 3) 1 (by decide)]; exact y1
  · rw [← add_field ad (i * 3) 2 (by decide)]; exact y2
variable {gg B : Nat}
def SortOk (gg B : Nat) (row : Option Nat) (r : Option Nat) (s' : List GN) (w : World) (e : Ending) (w' : World) : Prop := ∃ row', e = .returned (.tuple #[.int .i64 ((r.getD 0 : Nat) : Int), .bool r.isSome]) ∧ GM gg B row' w' s' ∧ GKeep gg row row' w w'
set_option maxHeartbeats 8000000 in
theorem sort_calls (ps hf hs : List Nat) (N : Nat) : ∀ (l : List S44), SizeOf.sizeOf l < N → ∀ (kd n : Int) (A : Option Addr) (c m : Nat) (s s' : List GN) (r : Option Nat) (row : Option Nat) (w : World) (AV AF AS : Option Addr) (cV cF cS : Nat), hdR ps hf hs kd n = some m → GSort (hdR ps hf hs) s m l r s' → GWF s → m < s.length → (∀ k n m, hdR ps hf hs k n = some m → m < s.length) → s'.length ≤ 1000000 →
    GM gg B row w s → B ≤ w.heap.size → Kd.F k44 w (fun k => k < B) A l.length l → l.length ≤ c → KI.R 3 w B (fun _ => True) (.slice AV ps.length cV) (ints ps) → KI.R 3 w B (fun _ => True) (.slice AF hf.length cF) (ints hf) → KI.R 3 w B (fun _ => True) (.slice AS hs.length cS) (ints hs) →
    Calls Try.prog 44 #[.pointer (some ⟨gg, 0, none⟩), .agg #[.int .i64 kd, .int .i64 n, .slice A l.length c], .agg #[.slice AV ps.length cV, .slice AF hf.length cF, .slice AS hs.length cS]] w (SortOk gg B row r s' w) := by
  induction N with
  | zero => intro l h; omega
  | succ N ih =>
  intro l hN kd n A c m s s' r row w AV AF AS cV cF cS hm hG hw hms hh hl hM hBw hA hc hV hF hS
  have hu44 := Try.underlying44
  have hu114 := Try.underlying114
  have hu90 := Try.underlying90
  obtain ⟨k3, nn, hl3, A3, c3, rfl, rfl, hk3, hnn, hcell3, hR3, hget⟩ := head_mem hm hV hF hS
  have hR3c := (Kd.R_reads' hR3).2.2
  rw [ints_len] at hR3c
  obtain ⟨ad3, rfl, hx3⟩ := ints_at hR3c hnn
  have hxm : hl3[nn] = m := by rw [List.getElem?_eq_getElem hnn] at hget; injection hget
  rw [hxm] at hx3
  have hlen : l.length ≤ 9223372036854775807 := (Kd.F_now hA).2.1
  have HM := Aside0.mk hM
  have HG := Aside0.mk hG
  have HW := Aside0.mk hw
  have HMS := Aside0.mk hms
  have HH := Aside0.mk hh
  have HL := Aside0.mk hl
  have HA := Aside0.mk hA
  have HC := Aside0.mk hc
  have HV := Aside0.mk hV
  have HF := Aside0.mk hF
  have HS := Aside0.mk hS
  have HB := Aside0.mk hBw
  have IH := Aside0.mk ih
  have HN := Aside0.mk hN
  have H3 := Aside0.mk hcell3
  have hxA := cellA hx3
  have hxB := cellAA hx3
  clear hM hG hw hms hh hl hA hc hV hF hS hBw ih hN hm hR3 hR3c hget hxm hcell3
  have p1 : (0 ≤ (k3 : Int)) = True := eq_true (by omega)
  have p2 : ((k3 : Int) < 3) = True := eq_true (by omega)
  have p3 : (k3 < 3) = True := eq_true (by omega)
  have q1 : (0 ≤ (nn : Int)) = True := eq_true (by omega)
  have q2 : ((nn : Int) < (hl3.length : Int)) = True := eq_true (by omega)
  have q3 : (nn < hl3.length) = True := eq_true (by omega)
  go_enter Try.func44, Try.ntmps44
  go_wp2_with (first
    | ((with_reducible refine gate_dst (N := 4) rfl ?_)
       refine box_event ?hg (N := 4) ?hd (cs := #[.int .i64 (k3 : Int), .int .i64 (nn : Int), .slice A l.length c]) (t := 44) ?hr ?_
       (case hd => rfl)
       (case hg => rfl)
       (case hr => first | (go_simp; done) | (go_simp; rfl))
       intro g4 hg4 w1 hbox1 hb1)
    | ((with_reducible refine gate_dst (N := 5) rfl ?_)
       refine box_event ?hg (N := 5) ?hd (cs := #[.slice AV ps.length cV, .slice AF hf.length cF, .slice AS hs.length cS]) (t := 93) ?hr ?_
       (case hd => rfl)
       (case hg => rfl)
       (case hr => first | (go_simp; done) | (go_simp; rfl))
       intro g5 hg5 w2 hbox2 hb2
       have HB2 := Aside0.mk (below_step hb1 hb2)
       have H4 := Aside0.mk (blk_below hbox1 hb2)
       have H5 := Aside0.mk hbox2
       have c40 := (blk_cell H4.out 0).trans rfl
       have c41 := (blk_cell H4.out 1).trans rfl
       have c42 := (blk_cell H4.out 2).trans rfl
       have c5 := (blk_cell H5.out k3).trans H3.out
       have c6 := cell_up HB2.out hx3
       clear hg4 hg5 hbox1 hbox2 hb1 hb2 hx3 hxA hxB))
  go_quiet (fail)
  have HBn := Aside0.mk (pw_below_drewN HB2.out nq)
  have H5n := Aside0.mk (blk_drewN H5.out nq)
  have c42n : (w2.drewN nq).cell? ⟨g4, 2, none⟩ = some (.slice A l.length c) := c42
  clear c40 c41 c42 c5 c6 HB2 H4 H5 H3
  generalize w2.drewN nq = w3 at *
  go_wp2_with fail
  clear c42n
  go_loopg [8, 25] l.length (fun kq v8 v25 wr => ∃ (i n0 : Nat) (s0 : List GN) (rw0 : Option Nat), v8 = .int .i64 (n0 : Int) ∧ v25 = .int .i64 (i : Int) ∧ Aside0 (i + kq = l.length) ∧ Aside0 (GSort (hdR ps hf hs) s0 n0 (l.drop i) r s') ∧ Aside0 (GWF s0) ∧ Aside0 (n0 < s0.length) ∧ Aside0 (s.length ≤ s0.length) ∧ Aside0 (GM gg B rw0 wr s0) ∧ Aside0 (GKeep gg row rw0 w wr) ∧ Aside0 (wr.heap[g5]? = some (.cells #[.slice AV ps.length cV, .slice AF hf.length cF, .slice AS hs.length cS] 93 (0, 0))))
  case atStart => exact ⟨0, m, s, row, rfl, rfl, ⟨by omega⟩, HG, HW, HMS, ⟨Nat.le_refl _⟩, ⟨HM.out.keep HBn.out⟩, ⟨GKeep.of_below _ _ HBn.out⟩, H5n⟩
  case round =>
    clear HG HW HMS HBn H5n
    obtain ⟨i, n0, s0, rw0, rfl, rfl, Hi, HG, HW, HN0, HS0, HM0, HK, H5⟩ := hrel
    by_cases hlt : i < l.length
    rotate_left
    · have hie : i = l.length := by have := Hi.out; omega
      have hG := HG.out
      rw [hie, List.drop_length] at hG
      obtain ⟨hr, hs'⟩ := hG.inv_nil
      subst hr hs'
      clear hG hie
      go_wp2_with fail
      go_ret2
      exact ⟨rw0, rfl, HM0.out, HK.out⟩
    have hG := HG.out
    rw [rd_T44_drop l i hlt] at hG
    obtain ⟨m2, hm2, hcase⟩ := hG.inv_cons
    have HA' := Kd.F_step HA.out (fun k hk hkl => ((HK.out.elder HM.out (Below.refl B w) HB.out).block k hk))
    obtain ⟨ad, A4, c4, rfl, hx1, hx2, hx3, hc4, hA4⟩ := at_T44F HA' i hlt
    have HA4 := Aside0.mk hA4
    have Hc4 := Aside0.mk hc4
    have HNx := Aside0.mk (show SizeOf.sizeOf (rd_T44 l (i : Int)).f2 < N from by have := rd_T44_mem l i hlt; have := HN.out; omega)
    have HM2 := Aside0.mk hm2
    have Hcase := Aside0.mk hcase
    have HH0 := Aside0.mk (fun k n m hm => Nat.lt_of_lt_of_le (HH.out k n m hm) HS0.out)
    have p1 : (0 ≤ (i : Int)) = True := eq_true (by omega)
    have p2 : ((i : Int) < (l.length : Int)) = True := eq_true (by omega)
    have p3 : (i < l.length) = True := eq_true (by omega)
    clear hG hm2 hcase HA' hA4 hc4 HG
    generalize rd_T44 l (i : Int) = x at *
    go_wp2_with (
      (with_reducible refine gate_dst (N := 10) rfl ?_)
      refine box_event ?hg (N := 10) ?hd (cs := #[.int .i64 0, .int .i64 0, .slice none 0 0]) (t := 44) ?hr ?_
      (case hd => rfl)
      (case hg => rfl)
      (case hr => first | (go_simp; done) | (go_simp; rfl))
      intro gx hgx w6 hbox hb6
      have hgw : wr.heap.size ≤ gx := by omega
      have Hbw := Aside0.mk (below_set (g := gx) (j := 2) (v := .slice A4 x.f2.length c4) (below_set (g := gx) (j := 1) (v := .int .i64 x.f1) (below_set (g := gx) (j := 0) (v := .int .i64 x.f0) hb6 hgw) hgw) hgw)
      have z5 := (blk_cell (blk_below H5.out hb6) 0).trans rfl
      have hcz0 := (blk_cell hbox 0).trans rfl
      have hfz0 := blk_frozen hbox 0
      have hcz1 := (blk_cell hbox 1).trans rfl
      have hfz1 := blk_frozen hbox 1
      have hcz2 := (blk_cell hbox 2).trans rfl
      have hfz2 := blk_frozen hbox 2
      have Hne := Aside0.mk (show g5 ≠ gx from by have := blk_lt H5.out; omega)
      have d0 := (blk_cell (blk_far (p := ⟨gx, 2, none⟩) (blk_far (p := ⟨gx, 1, none⟩) (blk_far (p := ⟨gx, 0, none⟩) (blk_below H5.out hb6) Hne.out (.int .i64 x.f0)) Hne.out (.int .i64 x.f1)) Hne.out (.slice A4 x.f2.length c4)) 0).trans rfl
      have d1 := (blk_cell (blk_far (p := ⟨gx, 2, none⟩) (blk_far (p := ⟨gx, 1, none⟩) (blk_far (p := ⟨gx, 0, none⟩) (blk_below H5.out hb6) Hne.out (.int .i64 x.f0)) Hne.out (.int .i64 x.f1)) Hne.out (.slice A4 x.f2.length c4)) 1).trans rfl
      have d2 := (blk_cell (blk_far (p := ⟨gx, 2, none⟩) (blk_far (p := ⟨gx, 1, none⟩) (blk_far (p := ⟨gx, 0, none⟩) (blk_below H5.out hb6) Hne.out (.int .i64 x.f0)) Hne.out (.int .i64 x.f1)) Hne.out (.slice A4 x.f2.length c4)) 2).trans rfl
      have e0 := (blk_cell (blk_put (cs' := #[.int .i64 x.f0, .int .i64 x.f1, .slice A4 x.f2.length c4]) (blk_put (cs' := #[.int .i64 x.f0, .int .i64 x.f1, .slice none 0 0]) (blk_put (cs' := #[.int .i64 x.f0, .int .i64 0, .slice none 0 0]) hbox 0 (.int .i64 x.f0) rfl) 1 (.int .i64 x.f1) rfl) 2 (.slice A4 x.f2.length c4) rfl) 0).trans rfl
      have e1 := (blk_cell (blk_put (cs' := #[.int .i64 x.f0, .int .i64 x.f1, .slice A4 x.f2.length c4]) (blk_put (cs' := #[.int .i64 x.f0, .int .i64 x.f1, .slice none 0 0]) (blk_put (cs' := #[.int .i64 x.f0, .int .i64 0, .slice none 0 0]) hbox 0 (.int .i64 x.f0) rfl) 1 (.int .i64 x.f1) rfl) 2 (.slice A4 x.f2.length c4) rfl) 1).trans rfl
      have e2 := (blk_cell (blk_put (cs' := #[.int .i64 x.f0, .int .i64 x.f1, .slice A4 x.f2.length c4]) (blk_put (cs' := #[.int .i64 x.f0, .int .i64 x.f1, .slice none 0 0]) (blk_put (cs' := #[.int .i64 x.f0, .int .i64 0, .slice none 0 0]) hbox 0 (.int .i64 x.f0) rfl) 1 (.int .i64 x.f1) rfl) 2 (.slice A4 x.f2.length c4) rfl) 2).trans rfl
      clear hbox hb6 hgx hgw hx1 hx2 hx3)
    clear hcz0 hcz1 hcz2 hfz0 hfz1 hfz2 z5 d0 d1 d2 e0 e1 e2
    generalize (((w6.setCell ⟨gx, 0, none⟩ (.int .i64 x.f0)).setCell ⟨gx, 1, none⟩ (.int .i64 x.f1)).setCell ⟨gx, 2, none⟩ (.slice A4 x.f2.length c4)) = wq at *
    have HKq := Aside0.mk (HK.out.trans (GKeep.of_below gg rw0 Hbw.out))
    have HMq := Aside0.mk (HM0.out.keep Hbw.out)
    have H5q := Aside0.mk (blk_below H5.out Hbw.out)
    have HVq := Aside0.mk (HKq.out.R HM.out HV.out (by decide))
    have HFq := Aside0.mk (HKq.out.R HM.out HF.out (by decide))
    have HSq := Aside0.mk (HKq.out.R HM.out HS.out (by decide))
    have HBq := Aside0.mk (Nat.le_trans HB.out HKq.out.size)
    have HC4 := Aside0.mk (Kd.F_below HA4.out Hbw.out)
    clear Hbw HM0 HK H5 Hne
    rcases Hcase.out with ⟨hr, hG1⟩ | ⟨a, s1, hG1, hu, hr⟩ | ⟨a, s1, s2, hG1, hu, hG2⟩
    · subst hr
      have HG1 := Aside0.mk hG1
      clear hG1 Hcase
      (with_reducible refine (IH.out x.f2 HNx.out x.f0 x.f1 A4 c4 m2 s0 s' none rw0 wq AV AF AS cV cF cS HM2.out HG1.out HW.out (HH0.out _ _ _ HM2.out) HH0.out HL.out HMq.out HBq.out HC4.out Hc4.out HVq.out HFq.out HSq.out).mono ?_)
      rintro e w4 ⟨rw1, rfl, hM1, hK1⟩
      have HM1 := Aside0.mk hM1
      have HK1 := Aside0.mk (HKq.out.trans hK1)
      have HB1 := Aside0.mk (Nat.le_trans HBq.out hK1.size)
      clear hM1 hK1 HMq HKq HBq
      go_wp2_with fail
      go_ret2
      exact ⟨rw1, rfl, HM1.out, HK1.out⟩
    · subst hr
      have HG1 := Aside0.mk hG1
      obtain ⟨hal, x1, _, _⟩ := (hG1.ok HW.out (HH0.out _ _ _ HM2.out) HH0.out).yes a rfl
      obtain ⟨x3, l3, _⟩ := gtwo x1.wf hal
      have U := hu.ok x3.wf
      have hsl : s1.length + 2 ≤ 1000000 := by
        have h1 := HL.out
        have h2 := hu.len
        rw [gtwo_len] at h2
        skip
        omega
      have HU := Aside0.mk hu
      have HX3 := Aside0.mk x3.wf
      have Hsl := Aside0.mk hsl
      have HUU := Aside0.mk U
      have HX1 := Aside0.mk x1
      clear hG1 hu hal x1 x3 l3 U hsl Hcase
      obtain ⟨q, hq⟩ : ∃ q, q = s1.length + 1 := ⟨_, rfl⟩
      have HQ := Aside0.mk hq
      have HU2 := Aside0.mk (show GUni (s1 ++ [⟨0, 0, 0⟩] ++ [⟨2, a, s1.length⟩]) n0 q false s' from by rw [HQ.out]; exact HU.out)
      clear hq HU
      (with_reducible refine (IH.out x.f2 HNx.out x.f0 x.f1 A4 c4 m2 s0 s1 (some a) rw0 wq AV AF AS cV cF cS HM2.out HG1.out HW.out (HH0.out _ _ _ HM2.out) HH0.out (by have := Hsl.out; omega) HMq.out HBq.out HC4.out Hc4.out HVq.out HFq.out HSq.out).mono ?_)
      rintro e w4 ⟨rw1, rfl, hM1, hK1⟩
      have HM1 := Aside0.mk hM1
      have HK1 := Aside0.mk (HKq.out.trans hK1)
      have HB1 := Aside0.mk (Nat.le_trans HBq.out hK1.size)
      have H51 := Aside0.mk (hK1.blk HMq.out H5q.out (by decide))
      clear hM1 hK1 HMq HKq HBq
      go_wp2_with fail
      (with_reducible refine (add_calls (k := 0) (ki := 0) (a := 0) (ai := 0) (b := 0) (bi := 0) rfl rfl rfl HM1.out HB1.out (by have := Hsl.out; omega)).mono ?_)
      rintro e w5 ⟨rw2, rfl, hM2, hK2⟩
      have HM2' := Aside0.mk hM2
      have HK2 := Aside0.mk (HK1.out.trans hK2)
      have HB2 := Aside0.mk (Nat.le_trans HB1.out hK2.size)
      have H52 := Aside0.mk (hK2.blk HM1.out H51.out (by decide))
      clear hM2 hK2 HM1 HK1 HB1
      go_wp2_with fail
      (with_reducible refine (add_calls (k := 2) (ki := 2) (a := a) (b := s1.length) rfl rfl rfl HM2'.out HB2.out (by rw [List.length_append]; have := Hsl.out; simp only [List.length_cons, List.length_nil]; omega)).mono ?_)
      rintro e w6 ⟨rw3, he, hM3, hK3⟩
      rw [show (s1 ++ [(⟨0, 0, 0⟩ : GN)]).length = q from by rw [HQ.out, List.length_append]; rfl] at he
      subst he
      have HM3 := Aside0.mk hM3
      have HK3 := Aside0.mk (HK2.out.trans hK3)
      have HB3 := Aside0.mk (Nat.le_trans HB2.out hK3.size)
      have H53 := Aside0.mk (hK3.blk HM2'.out H52.out (by decide))
      clear hM3 hK3 HM2' HK2 HB2
      go_wp2_with fail
      (with_reducible refine (unify_calls HU2.out HX3.out rw3 w6 HM3.out HB3.out (by rw [gtwo_len]; exact Hsl.out)).mono ?_)
      rintro e w7 ⟨rfl, hM4, hK4⟩
      have HM4 := Aside0.mk hM4
      have HK4 := Aside0.mk (HK3.out.trans hK4)
      have H54 := Aside0.mk (hK4.blk HM3.out H53.out (by decide))
      clear hM4 hK4 HM3 HK3 HB3 H53
      go_wp2_with fail
      go_ret2
      exact ⟨rw3, rfl, HM4.out, HK4.out⟩
    · have HG2 := Aside0.mk hG2
      clear hG2
      have HG1 := Aside0.mk hG1
      obtain ⟨hal, x1, _, _⟩ := (hG1.ok HW.out (HH0.out _ _ _ HM2.out) HH0.out).yes a rfl
      obtain ⟨x3, l3, _⟩ := gtwo x1.wf hal
      have U := hu.ok x3.wf
      have hsl : s1.length + 2 ≤ 1000000 := by
        have h1 := HL.out
        have h2 := hu.len
        rw [gtwo_len] at h2
        have h3 := HG2.out.len
        omega
      have HU := Aside0.mk hu
      have HX3 := Aside0.mk x3.wf
      have Hsl := Aside0.mk hsl
      have HUU := Aside0.mk U
      have HX1 := Aside0.mk x1
      clear hG1 hu hal x1 x3 l3 U hsl Hcase
      obtain ⟨q, hq⟩ : ∃ q, q = s1.length + 1 := ⟨_, rfl⟩
      have HQ := Aside0.mk hq
      have HU2 := Aside0.mk (show GUni (s1 ++ [⟨0, 0, 0⟩] ++ [⟨2, a, s1.length⟩]) n0 q true s2 from by rw [HQ.out]; exact HU.out)
      clear hq HU
      (with_reducible refine (IH.out x.f2 HNx.out x.f0 x.f1 A4 c4 m2 s0 s1 (some a) rw0 wq AV AF AS cV cF cS HM2.out HG1.out HW.out (HH0.out _ _ _ HM2.out) HH0.out (by have := Hsl.out; omega) HMq.out HBq.out HC4.out Hc4.out HVq.out HFq.out HSq.out).mono ?_)
      rintro e w4 ⟨rw1, rfl, hM1, hK1⟩
      have HM1 := Aside0.mk hM1
      have HK1 := Aside0.mk (HKq.out.trans hK1)
      have HB1 := Aside0.mk (Nat.le_trans HBq.out hK1.size)
      have H51 := Aside0.mk (hK1.blk HMq.out H5q.out (by decide))
      clear hM1 hK1 HMq HKq HBq
      go_wp2_with fail
      (with_reducible refine (add_calls (k := 0) (ki := 0) (a := 0) (ai := 0) (b := 0) (bi := 0) rfl rfl rfl HM1.out HB1.out (by have := Hsl.out; omega)).mono ?_)
      rintro e w5 ⟨rw2, rfl, hM2, hK2⟩
      have HM2' := Aside0.mk hM2
      have HK2 := Aside0.mk (HK1.out.trans hK2)
      have HB2 := Aside0.mk (Nat.le_trans HB1.out hK2.size)
      have H52 := Aside0.mk (hK2.blk HM1.out H51.out (by decide))
      clear hM2 hK2 HM1 HK1 HB1
      go_wp2_with fail
      (with_reducible refine (add_calls (k := 2) (ki := 2) (a := a) (b := s1.length) rfl rfl rfl HM2'.out HB2.out (by rw [List.length_append]; have := Hsl.out; simp only [List.length_cons, List.length_nil]; omega)).mono ?_)
      rintro e w6 ⟨rw3, he, hM3, hK3⟩
      rw [show (s1 ++ [(⟨0, 0, 0⟩ : GN)]).length = q from by rw [HQ.out, List.length_append]; rfl] at he
      subst he
      have HM3 := Aside0.mk hM3
      have HK3 := Aside0.mk (HK2.out.trans hK3)
      have HB3 := Aside0.mk (Nat.le_trans HB2.out hK3.size)
      have H53 := Aside0.mk (hK3.blk HM2'.out H52.out (by decide))
      clear hM3 hK3 HM2' HK2 HB2
      go_wp2_with fail
      (with_reducible refine (unify_calls HU2.out HX3.out rw3 w6 HM3.out HB3.out (by rw [gtwo_len]; exact Hsl.out)).mono ?_)
      rintro e w7 ⟨rfl, hM4, hK4⟩
      have HM4 := Aside0.mk hM4
      have HK4 := Aside0.mk (HK3.out.trans hK4)
      have H54 := Aside0.mk (hK4.blk HM3.out H53.out (by decide))
      clear hM4 hK4 HM3 HK3 HB3 H53
      go_wp2_with fail
      have hk := Hi.out
      obtain ⟨k1, rfl⟩ : ∃ k1, gk = k1 + 1 := ⟨gk - 1, by omega⟩
      go_roundg k1
      case measure => omega
      case rel => exact ⟨i + 1, s1.length, s2, rw3, rfl, by go_num, ⟨by omega⟩, HG2, ⟨HUU.out.wf⟩, ⟨by rw [HUU.out.len, gtwo_len]; omega⟩, ⟨by rw [HUU.out.len, gtwo_len]; have := HX1.out.len; have := HS0.out; omega⟩, HM4, HK4, H54⟩
end Go.Proofs.Ytfhgoebgnilfaaa.I
namespace Go.Proofs.Ytfhgoebgnilfaaa.I
open Go.RowKit Go.Proofs.YtfhgoebgnilfaaaW.PrintWords Go.Proofs.YtfhgoebgnilfaaaW.PrintLast Go.Proofs.YtfhgoebgnilfaaaW.PrintMore
attribute [local go_sem] max2_int min2_int max_two min_two max_three min_three max_four min_four
set_option linter.unusedVariables false
set_option maxRecDepth 100000
set_option linter.unusedSimpArgs false
variable {gg B : Nat} {row : Option Nat} {w w' w1 w2 : World} {s : List GN}
def StR (B g c : Nat) (w : World) (st : List Nat) : Prop := KI.R 3 w B (fun _ => True) (.slice (some ⟨g, 0, none⟩) st.length c) (ints st)
theorem StR.typed {g c : Nat} {st : List Nat} (h : StR B g c w st) : ∃ cells, w.heap[g]? = some (.cells cells 3 (0, 0)) := Kd.R_typed h g (by simp [Value.ownBlock])
theorem StR.at_ {g c p v : Nat} {st : List Nat} (h : StR B g c w st) (hv : st[p]? = some v) : w.cell? ⟨g, p, none⟩ = some (.int .i64 (v : Int)) ∧ w.frozen? ⟨g, p, none⟩ = false := by
  have hp : p < st.length := (List.getElem?_eq_some_iff.1 hv).1
  have hC := (Kd.R_reads' h).2.2
  rw [ints_len] at hC
  obtain ⟨ad, e, hx⟩ := ints_at hC hp
  injection e with e
  subst e
  rw [add_plain] at hx
  obtain ⟨cells, hc⟩ := h.typed
  rw [List.getElem?_eq_getElem hp] at hv
  injection hv with hv
  rw [hv] at hx
  exact ⟨hx, blk_frozen hc _⟩
theorem ints_set (st : List Nat) (p v : Nat) : ints (st.set p v) = (ints st).set p (v : Int) := by unfold ints; rw [List.map_set]
theorem StR.set {g c p : Nat} {st : List Nat} (h : StR B g c w st) (v : Nat) : StR B g c (w.setCell ⟨g, p, none⟩ (.int .i64 (v : Int))) (st.set p v) ∧ w.grownBy (w.setCell ⟨g, p, none⟩ (.int .i64 (v : Int))) (some g) := by
  have := Kd.R_putg h (p : Int) (v : Int)
  rw [Int.toNat_natCast, ← ints_set] at this
  unfold StR
  rw [List.length_set]
  exact this
theorem GM.over {g t : Nat} {cells : Array Value} (h : GM gg B row w s) (hg : w.heap[g]? = some (.cells cells t (0, 0))) (ht : t ≠ 90 ∧ t ≠ 114) (hw : w.grownBy w' (some g)) : GM gg B row w' s := by
  obtain ⟨h0, A, c, h1, h2, h3⟩ := h
  refine ⟨h0, A, c, blk_grown h1 hw (fun e => ?_), ?_, h3⟩
  · injection e with e
    subst e
    exact ht.1 (blk_type hg h1)
  · refine Kd.R_mono (Kd.R_move (Kd.R_bound h2) (fun k hk => ?_)) (fun _ hk => hk.1)
    obtain ⟨_, _, hl, q, hq, c1, hc⟩ := hk
    refine hw.block k hl (fun e => ?_)
    injection e with e
    subst e
    have := blk_type hg hc
    rcases List.mem_cons.1 hq with e | hq
    · exact ht.2 (this.trans e)
    · cases hq
theorem grow_refl (w : World) (row : Option Nat) : w.grownBy w row := ⟨rfl, rfl, rfl, Nat.le_refl _, fun _ _ _ => rfl⟩
def RndOk (B g c : Nat) (r : Bool) (st' : List Nat) (w : World) (e : Ending) (w' : World) : Prop := e = .returned (.bool r) ∧ StR B g c w' st' ∧ w.grownBy w' (some g)
theorem rnd_on {st : List Nat} {n p m g c : Nat} (h1 : GEnd s m n p) (hp : st[p]? = some 1) (hM : GM gg B row w s) (hS : StR B g c w st) (hl : s.length ≤ 1000000) (hst : st.length = s.length) :
    Calls Try.prog 46 #[.pointer (some ⟨gg, 0, none⟩), .int .i64 (n : Int), .slice (some ⟨g, 0, none⟩) s.length c] w (RndOk B g c true st w) := by
  have hu114 := Try.underlying114
  have hu90 := Try.underlying90
  have hpl : p < st.length := (List.getElem?_eq_some_iff.1 hp).1
  obtain ⟨c1, f1⟩ := hS.at_ hp
  have p1 : (0 ≤ (p : Int)) = True := eq_true (by omega)
  have p2 : ((p : Int) < (s.length : Int)) = True := eq_true (by omega)
  have p3 : (p < s.length) = True := eq_true (by omega)
  have HM := Aside0.mk hM
  have HS := Aside0.mk hS
  have H1 := Aside0.mk h1
  have HL := Aside0.mk hl
  clear hM hS h1 hp hl hst
  go_enter Try.func46, Try.ntmps46
  go_wp2_with fail
  (with_reducible refine (end_calls H1.out HM.out HL.out).mono ?_)
  rintro e w1 ⟨rfl, rfl⟩
  go_wp2_with fail
  go_ret
  exact ⟨rfl, HS.out, grow_refl _ _⟩
theorem rnd_done {st : List Nat} {n p m v g c : Nat} {x : GN} (h1 : GEnd s m n p) (hx : s[p]? = some x) (hv : st[p]? = some v) (v1 : v ≠ 1) (hd : v = 2 ∨ x.k ≠ 2) (hM : GM gg B row w s) (hS : StR B g c w st) (hl : s.length ≤ 1000000) (hst : st.length = s.length) :
    Calls Try.prog 46 #[.pointer (some ⟨gg, 0, none⟩), .int .i64 (n : Int), .slice (some ⟨g, 0, none⟩) s.length c] w (RndOk B g c false st w) := by
  have hu114 := Try.underlying114
  have hu90 := Try.underlying90
  have hpl : p < st.length := (List.getElem?_eq_some_iff.1 hv).1
  obtain ⟨gn, cn, cells, _, hgg, hR, _⟩ := hM.form (by omega)
  obtain ⟨x0, x1, x2⟩ := GM_at hR hx
  have n0 : w.cell? ⟨gg, 0, none⟩ = some (.slice (some ⟨gn, 0, none⟩) s.length cn) := (blk_cell hgg 0).trans rfl
  obtain ⟨c1, f1⟩ := hS.at_ hv
  have p1 : (0 ≤ (p : Int)) = True := eq_true (by omega)
  have p2 : ((p : Int) < (s.length : Int)) = True := eq_true (by omega)
  have p3 : (p < s.length) = True := eq_true (by omega)
  have b1 : ((v : Int) == 1) = false := by rw [beq_eq_false_iff_ne]; omega
  have b2 : decide (v = 1) = false := decide_eq_false v1
  have HM := Aside0.mk hM
  have HS := Aside0.mk hS
  have H1 := Aside0.mk h1
  have HL := Aside0.mk hl
  by_cases v2 : v = 2
  · subst v2
    clear hM hS h1 hv hl hst hgg hR hx hd v1 b1 b2
    go_enter Try.func46, Try.ntmps46
    go_wp2_with fail
    (with_reducible refine (end_calls H1.out HM.out HL.out).mono ?_)
    rintro e w1 ⟨rfl, rfl⟩
    go_wp2_with fail
    go_ret
    exact ⟨rfl, HS.out, grow_refl _ _⟩
  · have hk : x.k ≠ 2 := by omega
    have b3 : ((v : Int) == 2) = false := by rw [beq_eq_false_iff_ne]; omega
    have b4 : decide (v = 2) = false := decide_eq_false v2
    have b5 : ((x.k : Int) != 2) = true := bne_iff_ne.2 (by omega)
    have b6 : decide (x.k = 2) = false := decide_eq_false hk
    have b7 : (!decide (x.k = 2)) = true := by rw [b6]; rfl
    clear hM hS h1 hv hl hst hgg hR hx hd v1 v2 hk
    go_enter Try.func46, Try.ntmps46
    go_wp2_with fail
    (with_reducible refine (end_calls H1.out HM.out HL.out).mono ?_)
    rintro e w1 ⟨rfl, rfl⟩
    go_wp2_with fail
    go_ret
    exact ⟨rfl, HS.out, grow_refl _ _⟩
set_option maxHeartbeats 4000000 in
theorem rnd_L {st st1 : List Nat} {n p m v g c : Nat} {x : GN} (h1 : GEnd s m n p) (hx : s[p]? = some x) (hv : st[p]? = some v) (v1 : v ≠ 1) (v2 : v ≠ 2) (hk : x.k = 2) (ih : ∀ (w : World), GM gg B row w s → StR B g c w (st.set p 1) → (st.set p 1).length = s.length → Calls Try.prog 46 #[.pointer (some ⟨gg, 0, none⟩), .int .i64 (x.a : Int), .slice (some ⟨g, 0, none⟩) s.length c] w (RndOk B g c true st1 w)) (hM : GM gg B row w s) (hS : StR B g c w st) (hl : s.length ≤ 1000000) (hst : st.length = s.length) :
    Calls Try.prog 46 #[.pointer (some ⟨gg, 0, none⟩), .int .i64 (n : Int), .slice (some ⟨g, 0, none⟩) s.length c] w (RndOk B g c true st1 w) := by
  have hu114 := Try.underlying114
  have hu90 := Try.underlying90
  have hpl : p < st.length := (List.getElem?_eq_some_iff.1 hv).1
  obtain ⟨gn, cn, cells, _, hgg, hR, _⟩ := hM.form (by omega)
  obtain ⟨x0, x1, x2⟩ := GM_at hR hx
  rw [hk] at x0
  have n0 : w.cell? ⟨gg, 0, none⟩ = some (.slice (some ⟨gn, 0, none⟩) s.length cn) := (blk_cell hgg 0).trans rfl
  obtain ⟨c1, f1⟩ := hS.at_ hv
  have p1 : (0 ≤ (p : Int)) = True := eq_true (by omega)
  have p2 : ((p : Int) < (s.length : Int)) = True := eq_true (by omega)
  have p3 : (p < s.length) = True := eq_true (by omega)
  have b1 : ((v : Int) == 1) = false := by rw [beq_eq_false_iff_ne]; omega
  have b2 : decide (v = 1) = false := decide_eq_false v1
  have b3 : ((v : Int) == 2) = false := by rw [beq_eq_false_iff_ne]; omega
  have b4 : decide (v = 2) = false := decide_eq_false v2
  obtain ⟨hS2, hg2⟩ := hS.set (p := p) 1
  obtain ⟨cst, hcst⟩ := hS.typed
  have hM2 := hM.over hcst (by decide) hg2
  have hgg2 : (w.setCell ⟨g, p, none⟩ (.int .i64 ((1 : Nat) : Int))).heap[gg]? = some (.cells #[.slice (some ⟨gn, 0, none⟩) s.length cn] 90 (0, 0)) := blk_grown hgg hg2 (fun e => by
    injection e with e
    rw [e] at hgg
    exact absurd (blk_type hgg hcst) (by decide))
  have hR2 : Kd.R k114 114 (w.setCell ⟨g, p, none⟩ (.int .i64 ((1 : Nat) : Int))) B (fun _ => True) (.slice (some ⟨gn, 0, none⟩) s.length cn) (s.map gv) := Kd.R_set hR hcst (by decide) p _
  obtain ⟨y0, y1, y2⟩ := GM_at hR2 hx
  rw [hk] at y0
  have m0 : (w.setCell ⟨g, p, none⟩ (.int .i64 1)).cell? ⟨gg, 0, none⟩ = some (.slice (some ⟨gn, 0, none⟩) s.length cn) := (blk_cell hgg2 0).trans rfl
  replace y0 : (w.setCell ⟨g, p, none⟩ (.int .i64 1)).cell? ⟨gn, p * 3, none⟩ = some (.int .i64 2) := y0
  replace y1 : (w.setCell ⟨g, p, none⟩ (.int .i64 1)).cell? ⟨gn, p * 3 + 1, none⟩ = some (.int .i64 (x.a : Int)) := y1
  replace y2 : (w.setCell ⟨g, p, none⟩ (.int .i64 1)).cell? ⟨gn, p * 3 + 2, none⟩ = some (.int .i64 (x.b : Int)) := y2
  have HM := Aside0.mk hM
  have H1 := Aside0.mk h1
  have HL := Aside0.mk hl
  have HS2 := Aside0.mk (show StR B g c (w.setCell ⟨g, p, none⟩ (.int .i64 1)) (st.set p 1) from hS2)
  have HM2 := Aside0.mk (show GM gg B row (w.setCell ⟨g, p, none⟩ (.int .i64 1)) s from hM2)
  have HG2 := Aside0.mk (show w.grownBy (w.setCell ⟨g, p, none⟩ (.int .i64 1)) (some g) from hg2)
  have HI := Aside0.mk ih
  have HX := Aside0.mk hx
  have HST := Aside0.mk hst
  have HPL := Aside0.mk hpl
  clear hM hS h1 hv hl hst hgg hR hx hk v1 v2 hS2 hg2 hcst hM2 hgg2 hR2 ih hpl
  go_enter Try.func46, Try.ntmps46
  go_wp2_with fail
  (with_reducible refine (end_calls H1.out HM.out HL.out).mono ?_)
  rintro e w1 ⟨rfl, rfl⟩
  go_wp2_with fail
  (with_reducible refine (HI.out _ HM2.out HS2.out (by rw [List.length_set]; exact HST.out)).mono ?_)
  rintro e w3 ⟨rfl, hS3, hg3⟩
  have HS3 := Aside0.mk hS3
  have HG3 := Aside0.mk (HG2.out.trans hg3)
  clear hS3 hg3
  go_wp2_with fail
  go_ret
  exact ⟨rfl, HS3.out, HG3.out⟩
set_option maxHeartbeats 4000000 in
theorem rnd_R {st st1 st2 : List Nat} {n p m v g c : Nat} {x : GN} (h1 : GEnd s m n p) (hx : s[p]? = some x) (hv : st[p]? = some v) (v1 : v ≠ 1) (v2 : v ≠ 2) (hk : x.k = 2) (ih : ∀ (w : World), GM gg B row w s → StR B g c w (st.set p 1) → (st.set p 1).length = s.length → Calls Try.prog 46 #[.pointer (some ⟨gg, 0, none⟩), .int .i64 (x.a : Int), .slice (some ⟨g, 0, none⟩) s.length c] w (RndOk B g c false st1 w)) (ih2 : ∀ (w : World), GM gg B row w s → StR B g c w st1 → st1.length = s.length → Calls Try.prog 46 #[.pointer (some ⟨gg, 0, none⟩), .int .i64 (x.b : Int), .slice (some ⟨g, 0, none⟩) s.length c] w (RndOk B g c true st2 w)) (hl1 : st1.length = s.length) (hM : GM gg B row w s) (hS : StR B g c w st) (hl : s.length ≤ 1000000) (hst : st.length = s.length) :
    Calls Try.prog 46 #[.pointer (some ⟨gg, 0, none⟩), .int .i64 (n : Int), .slice (some ⟨g, 0, none⟩) s.length c] w (RndOk B g c true st2 w) := by
  have hu114 := Try.underlying114
  have hu90 := Try.underlying90
  have hpl : p < st.length := (List.getElem?_eq_some_iff.1 hv).1
  obtain ⟨gn, cn, cells, _, hgg, hR, _⟩ := hM.form (by omega)
  obtain ⟨x0, x1, x2⟩ := GM_at hR hx
  rw [hk] at x0
  have n0 : w.cell? ⟨gg, 0, none⟩ = some (.slice (some ⟨gn, 0, none⟩) s.length cn) := (blk_cell hgg 0).trans rfl
  obtain ⟨c1, f1⟩ := hS.at_ hv
  have p1 : (0 ≤ (p : Int)) = True := eq_true (by omega)
  have p2 : ((p : Int) < (s.length : Int)) = True := eq_true (by omega)
  have p3 : (p < s.length) = True := eq_true (by omega)
  have b1 : ((v : Int) == 1) = false := by rw [beq_eq_false_iff_ne]; omega
  have b2 : decide (v = 1) = false := decide_eq_false v1
  have b3 : ((v : Int) == 2) = false := by rw [beq_eq_false_iff_ne]; omega
  have b4 : decide (v = 2) = false := decide_eq_false v2
  obtain ⟨hS2, hg2⟩ := hS.set (p := p) 1
  obtain ⟨cst, hcst⟩ := hS.typed
  have hM2 := hM.over hcst (by decide) hg2
  have hgg2 : (w.setCell ⟨g, p, none⟩ (.int .i64 ((1 : Nat) : Int))).heap[gg]? = some (.cells #[.slice (some ⟨gn, 0, none⟩) s.length cn] 90 (0, 0)) := blk_grown hgg hg2 (fun e => by
    injection e with e
    rw [e] at hgg
    exact absurd (blk_type hgg hcst) (by decide))
  have hR2 : Kd.R k114 114 (w.setCell ⟨g, p, none⟩ (.int .i64 ((1 : Nat) : Int))) B (fun _ => True) (.slice (some ⟨gn, 0, none⟩) s.length cn) (s.map gv) := Kd.R_set hR hcst (by decide) p _
  obtain ⟨y0, y1, y2⟩ := GM_at hR2 hx
  rw [hk] at y0
  have m0 : (w.setCell ⟨g, p, none⟩ (.int .i64 1)).cell? ⟨gg, 0, none⟩ = some (.slice (some ⟨gn, 0, none⟩) s.length cn) := (blk_cell hgg2 0).trans rfl
  replace y0 : (w.setCell ⟨g, p, none⟩ (.int .i64 1)).cell? ⟨gn, p * 3, none⟩ = some (.int .i64 2) := y0
  replace y1 : (w.setCell ⟨g, p, none⟩ (.int .i64 1)).cell? ⟨gn, p * 3 + 1, none⟩ = some (.int .i64 (x.a : Int)) := y1
  replace y2 : (w.setCell ⟨g, p, none⟩ (.int .i64 1)).cell? ⟨gn, p * 3 + 2, none⟩ = some (.int .i64 (x.b : Int)) := y2
  have HM := Aside0.mk hM
  have H1 := Aside0.mk h1
  have HL := Aside0.mk hl
  have HS2 := Aside0.mk (show StR B g c (w.setCell ⟨g, p, none⟩ (.int .i64 1)) (st.set p 1) from hS2)
  have HM2 := Aside0.mk (show GM gg B row (w.setCell ⟨g, p, none⟩ (.int .i64 1)) s from hM2)
  have HG2 := Aside0.mk (show w.grownBy (w.setCell ⟨g, p, none⟩ (.int .i64 1)) (some g) from hg2)
  have HI := Aside0.mk ih
  have HX := Aside0.mk hx
  have HST := Aside0.mk hst
  have HPL := Aside0.mk hpl
  have HI2 := Aside0.mk ih2
  have HL1 := Aside0.mk hl1
  have HGG := Aside0.mk (show (w.setCell ⟨g, p, none⟩ (.int .i64 1)).heap[gg]? = some (.cells #[.slice (some ⟨gn, 0, none⟩) s.length cn] 90 (0, 0)) from hgg2)
  have HNE := Aside0.mk (show gg ≠ g from fun e => by rw [e] at hgg; exact absurd (blk_type hgg hcst) (by decide))
  have HRR := Aside0.mk (show Kd.R k114 114 (w.setCell ⟨g, p, none⟩ (.int .i64 1)) B (fun _ => True) (.slice (some ⟨gn, 0, none⟩) s.length cn) (s.map gv) from hR2)
  clear hM hS h1 hv hl hst hgg hR hx hk v1 v2 hS2 hg2 hcst hM2 hgg2 hR2 ih hpl ih2 hl1
  go_enter Try.func46, Try.ntmps46
  go_wp2_with fail
  (with_reducible refine (end_calls H1.out HM.out HL.out).mono ?_)
  rintro e w1 ⟨rfl, rfl⟩
  go_wp2_with fail
  (with_reducible refine (HI.out _ HM2.out HS2.out (by rw [List.length_set]; exact HST.out)).mono ?_)
  rintro e w3 ⟨rfl, hS3, hg3⟩
  have HS3 := Aside0.mk hS3
  have HG3 := Aside0.mk (HG2.out.trans hg3)
  obtain ⟨cs3, hc3⟩ := HS2.out.typed
  have hM3 := HM2.out.over hc3 (by decide) hg3
  have HM3 := Aside0.mk hM3
  have n03 : w3.cell? ⟨gg, 0, none⟩ = some (.slice (some ⟨gn, 0, none⟩) s.length cn) := (blk_cell (blk_grown HGG.out hg3 (fun e => HNE.out (by injection e))) 0).trans rfl
  have hR3 : Kd.R k114 114 w3 B (fun _ => True) (.slice (some ⟨gn, 0, none⟩) s.length cn) (s.map gv) := by
    refine Kd.R_mono (Kd.R_move (Kd.R_bound HRR.out) (fun k hk => ?_)) (fun _ hk => hk.1)
    obtain ⟨_, _, hl, q, hq, c1, hc⟩ := hk
    refine hg3.block k hl (fun e => ?_)
    injection e with e
    subst e
    have h9 := blk_type hc3 hc
    rcases List.mem_cons.1 hq with e | hq
    · rw [e] at h9; cases h9
    · cases hq
  obtain ⟨z0, z1, z2⟩ := GM_at hR3 HX.out
  clear hS3 hg3 hc3 hM3 hR3 m0 y0 y1 y2
  go_wp2_with fail
  (with_reducible refine (HI2.out _ HM3.out HS3.out HL1.out).mono ?_)
  rintro e w4 ⟨rfl, hS4, hg4⟩
  have HS4 := Aside0.mk hS4
  have HG4 := Aside0.mk (HG3.out.trans hg4)
  clear hS4 hg4
  go_wp2_with fail
  go_ret
  exact ⟨rfl, HS4.out, HG4.out⟩
set_option maxHeartbeats 4000000 in
theorem rnd_no {st st1 st2 : List Nat} {n p m v g c : Nat} {x : GN} (h1 : GEnd s m n p) (hx : s[p]? = some x) (hv : st[p]? = some v) (v1 : v ≠ 1) (v2 : v ≠ 2) (hk : x.k = 2) (ih : ∀ (w : World), GM gg B row w s → StR B g c w (st.set p 1) → (st.set p 1).length = s.length → Calls Try.prog 46 #[.pointer (some ⟨gg, 0, none⟩), .int .i64 (x.a : Int), .slice (some ⟨g, 0, none⟩) s.length c] w (RndOk B g c false st1 w)) (ih2 : ∀ (w : World), GM gg B row w s → StR B g c w st1 → st1.length = s.length → Calls Try.prog 46 #[.pointer (some ⟨gg, 0, none⟩), .int .i64 (x.b : Int), .slice (some ⟨g, 0, none⟩) s.length c] w (RndOk B g c false st2 w)) (hl1 : st1.length = s.length) (hl2 : st2.length = s.length) (hM : GM gg B row w s) (hS : StR B g c w st) (hl : s.length ≤ 1000000) (hst : st.length = s.length) :
    Calls Try.prog 46 #[.pointer (some ⟨gg, 0, none⟩), .int .i64 (n : Int), .slice (some ⟨g, 0, none⟩) s.length c] w (RndOk B g c false (st2.set p 2) w) := by
  have hu114 := Try.underlying114
  have hu90 := Try.underlying90
  have hpl : p < st.length := (List.getElem?_eq_some_iff.1 hv).1
  obtain ⟨gn, cn, cells, _, hgg, hR, _⟩ := hM.form (by omega)
  obtain ⟨x0, x1, x2⟩ := GM_at hR hx
  rw [hk] at x0
  have n0 : w.cell? ⟨gg, 0, none⟩ = some (.slice (some ⟨gn, 0, none⟩) s.length cn) := (blk_cell hgg 0).trans rfl
  obtain ⟨c1, f1⟩ := hS.at_ hv
  have p1 : (0 ≤ (p : Int)) = True := eq_true (by omega)
  have p2 : ((p : Int) < (s.length : Int)) = True := eq_true (by omega)
  have p3 : (p < s.length) = True := eq_true (by omega)
  have b1 : ((v : Int) == 1) = false := by rw [beq_eq_false_iff_ne]; omega
  have b2 : decide (v = 1) = false := decide_eq_false v1
  have b3 : ((v : Int) == 2) = false := by rw [beq_eq_false_iff_ne]; omega
  have b4 : decide (v = 2) = false := decide_eq_false v2
  obtain ⟨hS2, hg2⟩ := hS.set (p := p) 1
  obtain ⟨cst, hcst⟩ := hS.typed
  have hM2 := hM.over hcst (by decide) hg2
  have hgg2 : (w.setCell ⟨g, p, none⟩ (.int .i64 ((1 : Nat) : Int))).heap[gg]? = some (.cells #[.slice (some ⟨gn, 0, none⟩) s.length cn] 90 (0, 0)) := blk_grown hgg hg2 (fun e => by
    injection e with e
    rw [e] at hgg
    exact absurd (blk_type hgg hcst) (by decide))
  have hR2 : Kd.R k114 114 (w.setCell ⟨g, p, none⟩ (.int .i64 ((1 : Nat) : Int))) B (fun _ => True) (.slice (some ⟨gn, 0, none⟩) s.length cn) (s.map gv) := Kd.R_set hR hcst (by decide) p _
  obtain ⟨y0, y1, y2⟩ := GM_at hR2 hx
  rw [hk] at y0
  have m0 : (w.setCell ⟨g, p, none⟩ (.int .i64 1)).cell? ⟨gg, 0, none⟩ = some (.slice (some ⟨gn, 0, none⟩) s.length cn) := (blk_cell hgg2 0).trans rfl
  replace y0 : (w.setCell ⟨g, p, none⟩ (.int .i64 1)).cell? ⟨gn, p * 3, none⟩ = some (.int .i64 2) := y0
  replace y1 : (w.setCell ⟨g, p, none⟩ (.int .i64 1)).cell? ⟨gn, p * 3 + 1, none⟩ = some (.int .i64 (x.a : Int)) := y1
  replace y2 : (w.setCell ⟨g, p, none⟩ (.int .i64 1)).cell? ⟨gn, p * 3 + 2, none⟩ = some (.int .i64 (x.b : Int)) := y2
  have HM := Aside0.mk hM
  have H1 := Aside0.mk h1
  have HL := Aside0.mk hl
  have HS2 := Aside0.mk (show StR B g c (w.setCell ⟨g, p, none⟩ (.int .i64 1)) (st.set p 1) from hS2)
  have HM2 := Aside0.mk (show GM gg B row (w.setCell ⟨g, p, none⟩ (.int .i64 1)) s from hM2)
  have HG2 := Aside0.mk (show w.grownBy (w.setCell ⟨g, p, none⟩ (.int .i64 1)) (some g) from hg2)
  have HI := Aside0.mk ih
  have HX := Aside0.mk hx
  have HST := Aside0.mk hst
  have HPL := Aside0.mk hpl
  have HI2 := Aside0.mk ih2
  have HL1 := Aside0.mk hl1
  have HGG := Aside0.mk (show (w.setCell ⟨g, p, none⟩ (.int .i64 1)).heap[gg]? = some (.cells #[.slice (some ⟨gn, 0, none⟩) s.length cn] 90 (0, 0)) from hgg2)
  have HNE := Aside0.mk (show gg ≠ g from fun e => by rw [e] at hgg; exact absurd (blk_type hgg hcst) (by decide))
  have HRR := Aside0.mk (show Kd.R k114 114 (w.setCell ⟨g, p, none⟩ (.int .i64 1)) B (fun _ => True) (.slice (some ⟨gn, 0, none⟩) s.length cn) (s.map gv) from hR2)
  have HL2 := Aside0.mk hl2
  clear hM hS h1 hv hl hst hgg hR hx hk v1 v2 hS2 hg2 hcst hM2 hgg2 hR2 ih hpl ih2 hl1 hl2
  go_enter Try.func46, Try.ntmps46
  go_wp2_with fail
  (with_reducible refine (end_calls H1.out HM.out HL.out).mono ?_)
  rintro e w1 ⟨rfl, rfl⟩
  go_wp2_with fail
  (with_reducible refine (HI.out _ HM2.out HS2.out (by rw [List.length_set]; exact HST.out)).mono ?_)
  rintro e w3 ⟨rfl, hS3, hg3⟩
  have HS3 := Aside0.mk hS3
  have HG3 := Aside0.mk (HG2.out.trans hg3)
  obtain ⟨cs3, hc3⟩ := HS2.out.typed
  have hM3 := HM2.out.over hc3 (by decide) hg3
  have HM3 := Aside0.mk hM3
  have n03 : w3.cell? ⟨gg, 0, none⟩ = some (.slice (some ⟨gn, 0, none⟩) s.length cn) := (blk_cell (blk_grown HGG.out hg3 (fun e => HNE.out (by injection e))) 0).trans rfl
  have hR3 : Kd.R k114 114 w3 B (fun _ => True) (.slice (some ⟨gn, 0, none⟩) s.length cn) (s.map gv) := by
    refine Kd.R_mono (Kd.R_move (Kd.R_bound HRR.out) (fun k hk => ?_)) (fun _ hk => hk.1)
    obtain ⟨_, _, hl, q, hq, c1, hc⟩ := hk
    refine hg3.block k hl (fun e => ?_)
    injection e with e
    subst e
    have h9 := blk_type hc3 hc
    rcases List.mem_cons.1 hq with e | hq
    · rw [e] at h9; cases h9
    · cases hq
  obtain ⟨z0, z1, z2⟩ := GM_at hR3 HX.out
  clear hS3 hg3 hc3 hM3 hR3 m0 y0 y1 y2
  go_wp2_with fail
  (with_reducible refine (HI2.out _ HM3.out HS3.out HL1.out).mono ?_)
  rintro e w4 ⟨rfl, hS4, hg4⟩
  have HS4 := Aside0.mk hS4
  have HG4 := Aside0.mk (HG3.out.trans hg4)
  clear hS4 hg4
  have hpl2 : p < st2.length := by rw [HL2.out]; have := HPL.out; have := HST.out; omega
  obtain ⟨v9, hv9⟩ : ∃ v9, st2[p]? = some v9 := ⟨_, List.getElem?_eq_getElem hpl2⟩
  obtain ⟨k1, k2⟩ := HS4.out.at_ hv9
  have HS5 := Aside0.mk (HS4.out.set (p := p) 2)
  clear hpl2 hv9
  go_wp2_with fail
  go_ret
  exact ⟨rfl, HS5.out.1, HG4.out.trans HS5.out.2⟩
theorem round_calls {st st' : List Nat} {n g c : Nat} {r : Bool} (h : GRound s st n r st') : ∀ (w : World), GM gg B row w s → StR B g c w st → s.length ≤ 1000000 → st.length = s.length →
    Calls Try.prog 46 #[.pointer (some ⟨gg, 0, none⟩), .int .i64 (n : Int), .slice (some ⟨g, 0, none⟩) s.length c] w (RndOk B g c r st' w) := by
  induction h with
  | on h1 hp => exact fun w hM hS hl hst => rnd_on h1 hp hM hS hl hst
  | done h1 hx hv v1 hd => exact fun w hM hS hl hst => rnd_done h1 hx hv v1 hd hM hS hl hst
  | ringL h1 hx hv v1 v2 hk _ ih => exact fun w hM hS hl hst => rnd_L h1 hx hv v1 v2 hk (fun w a b d => ih w a b hl d) hM hS hl hst
  | ringR h1 hx hv v1 v2 hk ha _ ih1 ih2 => exact fun w hM hS hl hst => rnd_R h1 hx hv v1 v2 hk (fun w a b d => ih1 w a b hl d) (fun w a b d => ih2 w a b hl d) (by rw [ha.len, List.length_set]; exact hst) hM hS hl hst
  | no h1 hx hv v1 v2 hk ha hb ih1 ih2 => exact fun w hM hS hl hst => rnd_no h1 hx hv v1 v2 hk (fun w a b d => ih1 w a b hl d) (fun w a b d => ih2 w a b hl d) (by rw [ha.len, List.length_set]; exact hst) (by rw [hb.len, ha.len, List.length_set]; exact hst) hM hS hl hst
end Go.Proofs.Ytfhgoebgnilfaaa.I
namespace Go.Proofs.Ytfhgoebgnilfaaa.I
open Go.RowKit Go.Proofs.YtfhgoebgnilfaaaW.PrintWords Go.Proofs.YtfhgoebgnilfaaaW.PrintLast Go.Proofs.YtfhgoebgnilfaaaW.PrintMore
attribute [local go_sem] max2_int min2_int max_two min_two max_three min_three max_four min_four
set_option linter.unusedVariables false
set_option maxRecDepth 100000
set_option linter.unusedSimpArgs false
variable {gg B : Nat} {row : Option Nat} {w w' w1 w2 : World} {s : List GN}
theorem GNodesL.le {p most k r : Nat} (h : GNodesL s p most k r) : k ≤ most + 1 → r ≤ most + 1 := by
  induction h with
  | leaf => exact fun h => h
  | full => exact fun h => h
  | step _ _ hk _ _ _ _ ih1 ih2 => intro _; have := ih1 (by omega); exact ih2 (by omega)
set_option maxHeartbeats 4000000 in
theorem nodes_calls {h : Nat → Nat} (wf : WF (s.map toK) h) (hM : GM gg B row w s) (hl : s.length ≤ 1000000) (N : Nat) : ∀ (n c p most r : Nat), GEnd s c n p → h p < N → most ≤ 1000 → GNodesL s p most 1 r →
    Calls Try.prog 47 #[.pointer (some ⟨gg, 0, none⟩), .int .i64 (n : Int), .int .i64 (most : Int)] w fun e w' => e = .returned (.int .i64 (r : Int)) ∧ w' = w := by
  induction N with
  | zero => intro n c p most r _ hp; omega
  | succ N ih =>
  intro n c0 p most r h1 hp hm hG
  have hu114 := Try.underlying114
  have hu90 := Try.underlying90
  obtain ⟨_, hpl, x', hx', hx3'⟩ := h1.lt
  obtain ⟨gn, cn, cells, _, hgg, hR, _⟩ := hM.form (by omega)
  have n0 : w.cell? ⟨gg, 0, none⟩ = some (.slice (some ⟨gn, 0, none⟩) s.length cn) := (blk_cell hgg 0).trans rfl
  have HM := Aside0.mk hM
  have HR := Aside0.mk hR
  have H1 := Aside0.mk h1
  have HL := Aside0.mk hl
  have HG := Aside0.mk hG
  have HP := Aside0.mk hp
  have IH := Aside0.mk ih
  have WFh := Aside0.mk wf
  have H3 := Aside0.mk (show ∀ x, s[p]? = some x → x.k ≠ 3 from fun x hx => by rw [hx'] at hx; injection hx with hx; rw [← hx]; exact hx3')
  clear hM hgg hR h1 hl hG hp ih wf hx' hx3'
  go_enter Try.func47, Try.ntmps47
  go_wp2_with fail
  (with_reducible refine (end_calls H1.out HM.out HL.out).mono ?_)
  rintro e w1 ⟨rfl, rfl⟩
  go_wp2_with fail
  go_loopg [1, 7] (h p) (fun kq v1 v7 wr => ∃ (cur k : Nat), v1 = .int .i64 (cur : Int) ∧ v7 = .int .i64 (k : Int) ∧ Aside0 (h cur ≤ kq) ∧ Aside0 (kq ≤ h p) ∧ Aside0 (k ≤ most + 1) ∧ Aside0 (GNodesL s cur most k r) ∧ Aside0 (cur < s.length) ∧ wr = w1)
  case atStart => exact ⟨p, 1, rfl, rfl, ⟨Nat.le_refl _⟩, ⟨Nat.le_refl _⟩, ⟨by omega⟩, HG, ⟨hpl⟩, rfl⟩
  case round =>
    clear HG
    obtain ⟨cur, k, rfl, rfl, Hh, Hq, Hk, HG, HC, rfl⟩ := hrel
    have hcl := HC.out
    have p1 : (0 ≤ (cur : Int)) = True := eq_true (by omega)
    have p2 : ((cur : Int) < (s.length : Int)) = True := eq_true (by omega)
    have p3 : (cur < s.length) = True := eq_true (by omega)
    cases hE : HG.out with
    | @leaf _ _ _ x hx hk =>
      obtain ⟨x0, x1, x2⟩ := GM_at HR.out hx
      have b1 : ((x.k : Int) == 2) = false := by rw [beq_eq_false_iff_ne]; omega
      have b2 : decide (x.k = 2) = false := decide_eq_false hk
      clear hE hx hk HG
      go_wp2_with fail
      go_ret
      exact ⟨rfl, rfl⟩
    | @full _ _ _ x hx hk hkm =>
      obtain ⟨x0, x1, x2⟩ := GM_at HR.out hx
      rw [hk] at x0
      have b1 : decide ((r : Int) ≤ (most : Int)) = false := decide_eq_false (by omega)
      have b2 : decide (r ≤ most) = false := decide_eq_false (by omega)
      clear hE hx hk HG hkm
      go_wp2_with fail
      go_ret
      exact ⟨rfl, rfl⟩
    | @step _ q e _ _ m c d _ x hx hk hkm ha hGa hb hGb =>
      obtain ⟨x0, x1, x2⟩ := GM_at HR.out hx
      rw [hk] at x0
      have b1 : decide ((k : Int) ≤ (most : Int)) = true := decide_eq_true (by omega)
      have b2 : decide (k ≤ most) = true := decide_eq_true hkm
      have dn := WFh.out.dec cur (toK x) (by rw [List.getElem?_map, hx]; rfl)
      have d1 := dn.2.1 x.a (by rw [toK2 hk])
      have d2 := dn.2.2 x.b (by rw [toK2 hk])
      have g1 := ha.hgt WFh.out
      have g2 := hb.hgt WFh.out
      have Ha := Aside0.mk ha
      have Hb := Aside0.mk hb
      have HGa := Aside0.mk hGa
      have HGb := Aside0.mk hGb
      have hmle := hGa.le (by omega)
      have HD := Aside0.mk (show h e < N ∧ h q < gk from by have := Hh.out; have := Hq.out; have := HP.out; exact ⟨by omega, by omega⟩)
      have pw : ((most - k : Nat) : Int) = (most : Int) - (k : Int) := by omega
      have PW := Aside0.mk pw
      have hql := hb.lt.2.1
      clear hE hx hk HG dn d1 d2 g1 g2 ha hb hGa hGb pw
      go_wp2_with fail
      have hih := IH.out x.a c e (most - k) m Ha.out HD.out.1 (by omega) HGa.out
      rw [PW.out] at hih
      (with_reducible refine hih.mono ?_)
      clear hih
      rintro e w2 ⟨rfl, rfl⟩
      have PW1 := Aside0.mk (show wrap64 ((k : Int) + (m : Int)) = ((k + m : Nat) : Int) from by unfold wrap64; omega)
      go_wp2_with fail
      (with_reducible refine (end_calls Hb.out HM.out HL.out).mono ?_)
      rintro e w2 ⟨rfl, rfl⟩
      go_wp2_with fail
      go_roundg (h q)
      case measure => exact HD.out.2
      case rel => exact ⟨q, k + m, rfl, by go_num, ⟨Nat.le_refl _⟩, ⟨by have := HD.out.2; have := Hq.out; omega⟩, ⟨by omega⟩, HGb, ⟨hql⟩, rfl⟩
set_option maxHeartbeats 8000000 in
theorem out_calls {h : Nat → Nat} (wf : WF (s.map toK) h) {ρ : Nat → KT} (hs : GSol s ρ) (hl : s.length ≤ 1000000) (N : Nat) : ∀ (n c p : Nat) (l : List S41) (w : World), GEnd s c n p → h p < N → nS (ρ p) ≤ 1000 → GOutL s p [] l → GM gg B row w s →
    Calls Try.prog 48 #[.pointer (some ⟨gg, 0, none⟩), .int .i64 (n : Int)] w fun e w' => ∃ v, e = .returned (.agg #[v]) ∧ Kd.R k41 41 w' w.heap.size (fun _ => True) v l ∧ Below w.heap.size w w' := by
  induction N with
  | zero => intro n c p l w _ hp; omega
  | succ N ih =>
  intro n c0 p l w h1 hp hn hG hM
  have hu114 := Try.underlying114
  have hu90 := Try.underlying90
  have hu41 := Try.underlying41
  obtain ⟨_, hpl, x', hx', hx3'⟩ := h1.lt
  have HM := Aside0.mk hM
  have H1 := Aside0.mk h1
  have HL := Aside0.mk hl
  have HG := Aside0.mk hG
  have HP := Aside0.mk hp
  have IH := Aside0.mk ih
  have WFh := Aside0.mk wf
  have HS := Aside0.mk hs
  have HN := Aside0.mk hn
  clear hM h1 hl hG hp ih wf hx' hx3' hs hn
  go_enter Try.func48, Try.ntmps48
  go_wp2_with (first
   | ((with_reducible refine gate_dst (N := 4) rfl ?_)
      refine box_event ?hg (N := 4) ?hd (cs := #[.slice none 0 0]) (t := 41) ?hr ?_
      (case hd => rfl)
      (case hg => rfl)
      (case hr => first | (go_simp; done) | (go_simp; rfl))
      intro g4 hg4 w2 hbox hb2
      have S42 := Aside0.mk hbox
      have HB2 := Aside0.mk hb2
      have hw4 : w.heap.size ≤ g4 := by omega
      clear hbox hb2 hg4)
   | ((with_reducible refine gate_dst (N := 5) rfl ?_)
      refine box_event ?hg (N := 5) ?hd (cs := #[.slice none 0 0]) (t := 41) ?hr ?_
      (case hd => rfl)
      (case hg => rfl)
      (case hr => first | (go_simp; done) | (go_simp; rfl))
      intro g5 hg5 w3 hbox hb3
      have hn54 : g5 ≠ g4 := by have := blk_lt S42.out; omega
      have hw5 : w.heap.size ≤ g5 := by have := HB2.out.size; omega
      have S43 := Aside0.mk (blk_below S42.out hb3)
      have S53 := Aside0.mk hbox
      have HB3 := Aside0.mk (below_step HB2.out hb3)
      have HM3 := Aside0.mk (HM.out.keep HB3.out)
      clear hbox hb3 hg5 S42 HB2))
  (with_reducible refine (end_calls H1.out HM3.out HL.out).mono ?_)
  rintro e w4 ⟨rfl, rfl⟩
  go_wp2_with fail
  go_loopg [1] (h p) (fun kq v1 wr => ∃ (cur : Nat) (acc : List S41) (v : Value), v1 = .int .i64 (cur : Int) ∧ Aside0 (h cur ≤ kq) ∧ Aside0 (kq ≤ h p) ∧ Aside0 ((acc.length : Int) + nS (ρ cur) ≤ 1000) ∧ Aside0 (GOutL s cur acc l) ∧ Aside0 (cur < s.length) ∧ Aside0 (wr.heap[g4]? = some (.cells #[.slice none 0 0] 41 (0, 0))) ∧ Aside0 (wr.heap[g5]? = some (.cells #[v] 41 (0, 0))) ∧ Aside0 (Kd.R k41 41 wr w.heap.size (fun k => k ≠ g4 ∧ k ≠ g5) v acc) ∧ Aside0 (Below w.heap.size w wr))
  case atStart => exact ⟨p, [], .slice none 0 0, rfl, ⟨Nat.le_refl _⟩, ⟨Nat.le_refl _⟩, ⟨by have := HN.out; simp only [List.length_nil]; omega⟩, HG, ⟨hpl⟩, S43, S53, ⟨Kd.R_nil _ _ _ _ _⟩, HB3⟩
  case round =>
    clear HG S43 S53 HB3 HM3
    obtain ⟨cur, acc, v, rfl, Hh, Hq, Hn, HG, HC, S4, S5, HO, HB⟩ := hrel
    have hcl := HC.out
    have hMr := HM.out.keep HB.out
    obtain ⟨gn, cn, cells, _, hgg, hR, _⟩ := hMr.form (by omega)
    have HMr := Aside0.mk hMr
    have n0 : wr.cell? ⟨gg, 0, none⟩ = some (.slice (some ⟨gn, 0, none⟩) s.length cn) := (blk_cell hgg 0).trans rfl
    obtain ⟨A1, c1, e1⟩ := Kd.R_slice HO.out
    subst e1
    have hc5 : wr.cell? ⟨g5, 0, none⟩ = some (.slice A1 acc.length c1) := (blk_cell S5.out 0).trans rfl
    have hc4 : wr.cell? ⟨g4, 0, none⟩ = some (.slice none 0 0) := (blk_cell S4.out 0).trans rfl
    have hf4 := blk_frozen S4.out 0
    have p1 : (0 ≤ (cur : Int)) = True := eq_true (by omega)
    have p2 : ((cur : Int) < (s.length : Int)) = True := eq_true (by omega)
    have p3 : (cur < s.length) = True := eq_true (by omega)
    cases hE : HG.out with
    | @leaf _ _ x hx hk =>
      obtain ⟨x0, x1, x2⟩ := GM_at hR hx
      have b1 : ((x.k : Int) == 2) = false := by rw [beq_eq_false_iff_ne]; omega
      have b2 : decide (x.k = 2) = false := decide_eq_false hk
      clear hE hx hk HG hMr hgg hR
      go_wp2_with fail
      refine bodyPost_ret (results_cell_row rfl _ _ g4 41 #[.slice A1 l.length c1] (0, 0) _ rfl (blk_put (cs' := #[.slice A1 l.length c1]) S4.out 0 (.slice A1 l.length c1) rfl) Try.underlying41 rfl (by kernel_rfl)) rfl ?_
      exact ⟨_, rfl, Kd.R_mono (Kd.R_far (p := ⟨g4, 0, none⟩) HO.out (fun k hk => hk.1) _) (fun _ _ => trivial), below_set (g := g4) (j := 0) HB.out hw4⟩
    | @step _ q e c d _ m _ x hx hk ha hGa hb hGb =>
      obtain ⟨x0, x1, x2⟩ := GM_at hR hx
      rw [hk] at x0
      have dn := WFh.out.dec cur (toK x) (by rw [List.getElem?_map, hx]; rfl)
      have d1 := dn.2.1 x.a (by rw [toK2 hk])
      have d2 := dn.2.2 x.b (by rw [toK2 hk])
      have g1 := ha.hgt WFh.out
      have g2 := hb.hgt WFh.out
      have hnS := congrArg nS ((HS.out cur x hx).2.1 hk)
      rw [ha.sol HS.out, hb.sol HS.out] at hnS
      simp only [nS] at hnS
      have k1 := nS_pos (ρ e)
      have k2 := nS_pos (ρ q)
      have Ha := Aside0.mk ha
      have Hb := Aside0.mk hb
      have HGa := Aside0.mk hGa
      have HGb := Aside0.mk hGb
      have HD := Aside0.mk (show h e < N ∧ h q < gk ∧ nS (ρ e) ≤ 1000 ∧ (acc.length : Int) + 1 + nS (ρ q) ≤ 1000 from by have := Hh.out; have := Hq.out; have := HP.out; have := Hn.out; exact ⟨by omega, by omega, by omega, by omega⟩)
      have hql := hb.lt.2.1
      have HX := Aside0.mk hx
      clear hE hx hk HG dn d1 d2 g1 g2 ha hb hGa hGb hnS k1 k2 hMr hgg hR
      go_wp2_with fail
      go_region_law
        (first
          | (have tk := HRA.out
             refine Kd.R_append_step k41 (w0 := w) w.heap.size rfl (.tmp 19) (.tmp 30) 31 41 (.agg #[.slice none 0 0]) 24 rfl Try.underlying31 info41 rfl (by decide) (by omega) (.slice A1 acc.length c1) acc (⟨m⟩ : S41) [.slice Av m.length cv] (fun k => k ≠ g4 ∧ k ≠ g5) (fun k => (k ≠ g4 ∧ k ≠ g5) ∧ some k ≠ (Value.slice A1 acc.length c1).ownBlock) rfl rfl (k41_mkM _ _ _ (⟨m⟩ : S41) HNA.out) (fun _ hk => hk) (fun k hk => by have := blk_lt S4A.out; have := blk_lt S5A.out; exact ⟨by omega, by omega⟩) HOA.out HBA.out HBA.out.size (by have := Hn.out; have := nS_pos (ρ cur); omega) ?_
             intro v2 w7 hrf hb7 hg7 hat
             obtain ⟨A2, c2, e2⟩ := Kd.R_slice hrf
             obtain ⟨n2, hn2⟩ : ∃ n, n = (acc ++ [(⟨m⟩ : S41)]).length := ⟨_, rfl⟩
             rw [← hn2] at e2
             subst e2
             clear hn2 tk
             have HO7 := Aside0.mk hrf
             have HB7 := Aside0.mk hb7
             have S47 := Aside0.mk (blk_grown S4A.out hg7 (Kd.R_away HOA.out (fun k hk => hk.1)))
             have S57 := Aside0.mk (blk_grown S5A.out hg7 (Kd.R_away HOA.out (fun k hk => hk.2)))
             have hcs : w7.cell? ⟨g5, 0, none⟩ = some (.slice A1 acc.length c1) := (blk_cell S57.out 0).trans rfl
             have hfs := blk_frozen S57.out 0
             clear hrf hb7 hg7 hat a5 a6)
          | (go_simp
             go_at_call 48
             (with_reducible refine (IH.out x.a c e m _ Ha.out HD.out.1 HD.out.2.2.1 HGa.out (HMr.out.keep (below_drew (Below.refl _ _)))).mono ?_)
             rintro e9 wA ⟨vA, rfl, hR9, hbA⟩
             obtain ⟨Av, cv, rfl⟩ := Kd.R_slice hR9
             have HRA := Aside0.mk hR9
             have HBA := Aside0.mk (below_step (below_drew HB.out) hbA)
             have S4A := Aside0.mk (blk_below (blk_drew S4.out) hbA)
             have S5A := Aside0.mk (blk_below (blk_drew S5.out) hbA)
             have HOA := Aside0.mk (Kd.R_below (Kd.R_drew HO.out) hbA)
             have HNA := Aside0.mk (Kd.R_mono (Kd.R_lower (Kd.R_new' (Kd.R_bound hR9) (Kd.R_lt (Kd.R_drew HO.out))) (show w.heap.size ≤ wr.drew.heap.size from HB.out.size)) (ok' := fun k => (k ≠ g4 ∧ k ≠ g5) ∧ some k ≠ (Value.slice A1 acc.length c1).ownBlock) (fun k hk => by
               have h4 := hk.1.2.1
               have h5 := blk_lt (blk_drew S4.out)
               have h6 := blk_lt (blk_drew S5.out)
               exact ⟨⟨by omega, by omega⟩, hk.2⟩))
             have a5 := cell_up hbA (show wr.drew.cell? _ = _ from hc5)
             have a6 := cellA a5
             clear hR9 hbA))
      all_goals (
        have S48 := Aside0.mk (blk_far (p := ⟨g5, 0, none⟩) S47.out (Ne.symm hn54) (.slice A2 n2 c2))
        have S58 := Aside0.mk (blk_put (cs' := #[.slice A2 n2 c2]) S57.out 0 (.slice A2 n2 c2) rfl)
        have HO8 := Aside0.mk (Kd.R_far (p := ⟨g5, 0, none⟩) HO7.out (fun k hk => hk.2) (.slice A2 n2 c2))
        have HB8 := Aside0.mk (below_set (g := g5) (j := 0) (v := .slice A2 n2 c2) HB7.out hw5)
        clear S47 S57 HO7 HB7 hcs hfs HRA HBA S4A S5A HOA HNA hc5 hc4 hf4 n0 x0 x1 x2
        generalize w7.setCell ⟨g5, 0, none⟩ (.slice A2 n2 c2) = w8 at *
        have hM8 := HM.out.keep HB8.out
        obtain ⟨gn8, cn8, cells8, _, hgg8, hR8, _⟩ := hM8.form (by omega)
        have HM8 := Aside0.mk hM8
        have n08 : w8.cell? ⟨gg, 0, none⟩ = some (.slice (some ⟨gn8, 0, none⟩) s.length cn8) := (blk_cell hgg8 0).trans rfl
        obtain ⟨z0, z1, z2⟩ := GM_at hR8 HX.out
        clear hM8 hgg8 hR8
        go_wp2_with fail
        (with_reducible refine (end_calls Hb.out HM8.out HL.out).mono ?_)
        rintro e9 w9 ⟨rfl, rfl⟩
        go_wp2_with fail
        go_roundg (h q)
        case measure => exact HD.out.2.1
        case rel => exact ⟨q, acc ++ [⟨m⟩], .slice A2 n2 c2, rfl, ⟨Nat.le_refl _⟩, ⟨by have := HD.out.2.1; have := Hq.out; omega⟩, ⟨by rw [List.length_append]; have := HD.out.2.2.2; simp only [List.length_cons, List.length_nil]; omega⟩, HGb, ⟨hql⟩, S48, S58, HO8, HB8⟩)
end Go.Proofs.Ytfhgoebgnilfaaa.I
namespace Go.Proofs.Ytfhgoebgnilfaaa.I
open Go.RowKit
set_option linter.unusedVariables false
def symT (x : S59) : KT := ars (List.replicate x.f1.toNat .o) .o
def gsyms : List GN → List S59 → List Nat × List GN
  | s, [] => ([], s)
  | s, x :: xs => ((gchain s (List.replicate x.f1.toNat 0) 0).1 :: (gsyms (gchain s (List.replicate x.f1.toNat 0) 0).2 xs).1, (gsyms (gchain s (List.replicate x.f1.toNat 0) 0).2 xs).2)
structure GSymed (s : List GN) (l : List S59) (ks : List Nat) (s' : List GN) : Prop where
  ext : GExt s s'
  lk : ∀ k, k ∈ ks → k < s'.length
  many : ks.length = l.length
  down : ∀ ρ, GSol s' ρ → ks.map ρ = l.map symT
  up : ∀ ρ, GSol s ρ → ∃ ρ', (∀ i, i < s.length → ρ' i = ρ i) ∧ GSol s' ρ'
theorem gsyms_ok : ∀ (l : List S59) {s : List GN}, GWF s → 0 < s.length → (∀ ρ, GSol s ρ → ρ 0 = .o) → GSymed s l (gsyms s l).1 (gsyms s l).2
  | [], s, w, hp, hz => ⟨GExt.refl w, (fun k hk => by cases hk), rfl, fun _ _ => rfl, fun ρ hs => ⟨ρ, fun _ _ => rfl, hs⟩⟩
  | x :: xs, s, w, hp, hz => by
    obtain ⟨x1, hk1, hA1, hE1⟩ := gchain_ok (List.replicate x.f1.toNat 0) w (d0 := 0) hp (fun p hp' => by rw [(List.mem_replicate.1 hp').2]; exact hp)
    have hz1 : ∀ ρ, GSol (gchain s (List.replicate x.f1.toNat 0) 0).2 ρ → ρ 0 = .o := fun ρ hs => hz ρ (x1.down ρ hs)
    have I := gsyms_ok xs x1.wf (Nat.lt_of_lt_of_le hp x1.len) hz1
    show GSymed s (x :: xs) ((gchain s (List.replicate x.f1.toNat 0) 0).1 :: (gsyms (gchain s (List.replicate x.f1.toNat 0) 0).2 xs).1) (gsyms (gchain s (List.replicate x.f1.toNat 0) 0).2 xs).2
    generalize gchain s (List.replicate x.f1.toNat 0) 0 = c at *
    generalize gsyms c.2 xs = r at *
    refine ⟨x1.trans I.ext, fun k hk => ?_, by rw [List.length_cons, List.length_cons, I.many], fun ρ hs => ?_, fun ρ hs => ?_⟩
    · rcases List.mem_cons.1 hk with rfl | hk
      · exact Nat.lt_of_lt_of_le hk1 I.ext.len
      · exact I.lk k hk
    · have hs1 := I.ext.down ρ hs
      rw [List.map_cons, List.map_cons, I.down ρ hs, hA1 ρ hs1, hz1 ρ hs1, List.map_replicate, hz1 ρ hs1]
      rfl
    · obtain ⟨ρ1, ag1, hs1⟩ := hE1 ρ hs
      obtain ⟨ρ2, ag2, hs2⟩ := I.up ρ1 hs1
      exact ⟨ρ2, fun i hi => (ag2 i (Nat.lt_of_lt_of_le hi x1.len)).trans (ag1 i hi), hs2⟩
def gbare : GN := ⟨0, 0, 0⟩
theorem gpush_opens (m : Nat) {s : List GN} (w : GWF s) : GExt s (s ++ List.replicate m gbare) ∧ ∀ ρ, GSol (s ++ List.replicate m gbare) ρ ↔ GSol s ρ := by
  induction m with
  | zero => rw [List.replicate_zero, List.append_nil]; exact ⟨GExt.refl w, fun _ => Iff.rfl⟩
  | succ m ih =>
    obtain ⟨x1, hS1⟩ := ih
    obtain ⟨x2, hS2⟩ := gpush_open x1.wf
    have e : s ++ List.replicate (m + 1) gbare = s ++ List.replicate m gbare ++ [⟨0, 0, 0⟩] := by rw [List.replicate_succ', List.append_assoc]; rfl
    rw [e]
    exact ⟨x1.trans x2, fun ρ => by rw [hS2, hS1]⟩
def gheads : List GN → List S48 → (List (List Nat) × List Nat) × List GN
  | s, [] => (([], []), s)
  | s, x :: xs => ((List.range' s.length x.f1.toNat :: (gheads (gchain (s ++ List.replicate x.f1.toNat gbare) (List.range' s.length x.f1.toNat) 0).2 xs).1.1, (gchain (s ++ List.replicate x.f1.toNat gbare) (List.range' s.length x.f1.toNat) 0).1 :: (gheads (gchain (s ++ List.replicate x.f1.toNat gbare) (List.range' s.length x.f1.toNat) 0).2 xs).1.2), (gheads (gchain (s ++ List.replicate x.f1.toNat gbare) (List.range' s.length x.f1.toNat) 0).2 xs).2)
structure GHeaded (s : List GN) (l : List S48) (pss : List (List Nat)) (ks : List Nat) (s' : List GN) : Prop where
  ext : GExt s s'
  lp : ∀ ps, ps ∈ pss → ∀ p, p ∈ ps → p < s'.length
  lk : ∀ k, k ∈ ks → k < s'.length
  many : pss.map List.length = l.map (fun x => x.f1.toNat)
  down : ∀ ρ, GSol s' ρ → ks.map ρ = pss.map (fun ps => ars (ps.map ρ) .o)
  up : ∀ ρ (As : List (List KT)), As.map List.length = l.map (fun x => x.f1.toNat) → GSol s ρ → ∃ ρ', (∀ i, i < s.length → ρ' i = ρ i) ∧ GSol s' ρ' ∧ pss.map (fun ps => ps.map ρ') = As
theorem gheads_ok : ∀ (l : List S48) {s : List GN}, GWF s → 0 < s.length → (∀ ρ, GSol s ρ → ρ 0 = .o) → GHeaded s l (gheads s l).1.1 (gheads s l).1.2 (gheads s l).2
  | [], s, w, hp, hz => ⟨GExt.refl w, (fun ps hp => by cases hp), (fun k hk => by cases hk), rfl, fun _ _ => rfl, fun ρ As hA hs => ⟨ρ, fun _ _ => rfl, hs, by
      cases As with
      | nil => rfl
      | cons a As => cases hA⟩⟩
  | x :: xs, s, w, hp, hz => by
    obtain ⟨x1, hS1⟩ := gpush_opens x.f1.toNat w
    have len1 : (s ++ List.replicate x.f1.toNat gbare).length = s.length + x.f1.toNat := by rw [List.length_append, List.length_replicate]
    have hr : ∀ p, p ∈ List.range' s.length x.f1.toNat → s.length ≤ p ∧ p < s.length + x.f1.toNat := fun p hp => by
      have := List.mem_range'_1.1 hp
      omega
    obtain ⟨x2, hk2, hA2, hE2⟩ := gchain_ok (List.range' s.length x.f1.toNat) x1.wf (d0 := 0) (by rw [len1]; omega) (fun p hp => by rw [len1]; exact (hr p hp).2)
    have hz2 : ∀ ρ, GSol (gchain (s ++ List.replicate x.f1.toNat gbare) (List.range' s.length x.f1.toNat) 0).2 ρ → ρ 0 = .o := fun ρ hs => hz ρ ((hS1 ρ).1 (x2.down ρ hs))
    have I := gheads_ok xs x2.wf (Nat.lt_of_lt_of_le (Nat.lt_of_lt_of_le hp x1.len) x2.len) hz2
    show GHeaded s (x :: xs) (List.range' s.length x.f1.toNat :: (gheads (gchain (s ++ List.replicate x.f1.toNat gbare) (List.range' s.length x.f1.toNat) 0).2 xs).1.1) ((gchain (s ++ List.replicate x.f1.toNat gbare) (List.range' s.length x.f1.toNat) 0).1 :: (gheads (gchain (s ++ List.replicate x.f1.toNat gbare) (List.range' s.length x.f1.toNat) 0).2 xs).1.2) (gheads (gchain (s ++ List.replicate x.f1.toNat gbare) (List.range' s.length x.f1.toNat) 0).2 xs).2
    generalize gchain (s ++ List.replicate x.f1.toNat gbare) (List.range' s.length x.f1.toNat) 0 = fa at *
    generalize gheads fa.2 xs = fh at *
    have l12 := x2.len
    rw [len1] at l12
    refine ⟨x1.trans (x2.trans I.ext), fun ps hps p hpp => ?_, fun k hk => ?_, ?_, fun ρ hs => ?_, fun ρ As hAs hs => ?_⟩
    · rcases List.mem_cons.1 hps with rfl | hps
      · have := (hr p hpp).2; have := I.ext.len; omega
      · exact I.lp ps hps p hpp
    · rcases List.mem_cons.1 hk with rfl | hk
      · exact Nat.lt_of_lt_of_le hk2 I.ext.len
      · exact I.lk k hk
    · rw [List.map_cons, List.map_cons, I.many, List.length_range']
    · have hs2 := I.ext.down ρ hs
      rw [List.map_cons, List.map_cons, I.down ρ hs, hA2 ρ hs2, hz2 ρ hs2]
    · cases As with
      | nil => cases hAs
      | cons A As =>
        rw [List.map_cons, List.map_cons] at hAs
        injection hAs with hA hAs
        have ag : ∀ i, i < s.length → (fun i => if s.length ≤ i then A.getD (i - s.length) .o else ρ i) i = ρ i := fun i hi => if_neg (by omega)
        have hs1 : GSol (s ++ List.replicate x.f1.toNat gbare) (fun i => if s.length ≤ i then A.getD (i - s.length) .o else ρ i) := (hS1 _).2 (GSol.agree w ag hs)
        obtain ⟨ρ2, ag2, hs2⟩ := hE2 _ hs1
        obtain ⟨ρ3, ag3, hs3, hm⟩ := I.up ρ2 As hAs hs2
        refine ⟨ρ3, fun i hi => ?_, hs3, ?_⟩
        · rw [ag3 i (by omega), ag2 i (by rw [len1]; omega)]
          exact ag i hi
        · rw [List.map_cons, hm]
          congr 1
          apply List.ext_getElem
          · rw [List.length_map, List.length_range', hA]
          · intro i h1 h2
            rw [List.getElem_map, List.getElem_range']
            rw [List.length_map, List.length_range'] at h1
            rw [ag3 _ (by omega), ag2 _ (by rw [len1]; omega)]
            rw [if_pos (by omega), show s.length + 1 * i - s.length = i from by omega, List.getD_eq_getElem?_getD, List.getElem?_eq_getElem h2]
            rfl
inductive GBodies (hs hf : List Nat) : List GN → List (List Nat) → List S48 → Bool → List GN → Prop
  | nil {s : List GN} {pss : List (List Nat)} : GBodies hs hf s pss [] true s
  | bad {s s1 : List GN} {ps : List Nat} {pss : List (List Nat)} {x : S48} {xs : List S48} {m : Nat} : hdR ps hf hs x.f2.f0 x.f2.f1 = some m → GSort (hdR ps hf hs) s m x.f2.f2 none s1 → GBodies hs hf s (ps :: pss) (x :: xs) false s1
  | clash {s s1 s2 : List GN} {ps : List Nat} {pss : List (List Nat)} {x : S48} {xs : List S48} {m k : Nat} : hdR ps hf hs x.f2.f0 x.f2.f1 = some m → GSort (hdR ps hf hs) s m x.f2.f2 (some k) s1 → GUni s1 k 0 false s2 → GBodies hs hf s (ps :: pss) (x :: xs) false s2
  | step {s s1 s2 s3 : List GN} {ps : List Nat} {pss : List (List Nat)} {x : S48} {xs : List S48} {m k : Nat} {b : Bool} : hdR ps hf hs x.f2.f0 x.f2.f1 = some m → GSort (hdR ps hf hs) s m x.f2.f2 (some k) s1 → GUni s1 k 0 true s2 → GBodies hs hf s2 pss xs b s3 → GBodies hs hf s (ps :: pss) (x :: xs) b s3
def GAlls (hs hf : List Nat) (ρ : Nat → KT) : List (List Nat) → List S48 → Prop
  | _, [] => True
  | [], _ :: _ => False
  | ps :: pss, x :: xs => Ty (hdN (hdR ps hf hs) ρ) x.f2 .o ∧ GAlls hs hf ρ pss xs
theorem hdR_lt {ps hf hs : List Nat} {N : Nat} (h1 : ∀ p, p ∈ ps → p < N) (h2 : ∀ p, p ∈ hf → p < N) (h3 : ∀ p, p ∈ hs → p < N) : ∀ k n m, hdR ps hf hs k n = some m → m < N := by
  intro k n m h
  unfold hdR at h
  split at h
  · cases h
  · split at h
    · exact h1 m (List.mem_of_getElem? h)
    · split at h
      · exact h2 m (List.mem_of_getElem? h)
      · split at h
        · exact h3 m (List.mem_of_getElem? h)
        · cases h
theorem GAlls_agree {hs hf : List Nat} {N : Nat} {ρ ρ' : Nat → KT} (ag : ∀ i, i < N → ρ' i = ρ i) (h2 : ∀ p, p ∈ hf → p < N) (h3 : ∀ p, p ∈ hs → p < N) : ∀ (pss : List (List Nat)) (l : List S48), (∀ ps, ps ∈ pss → ∀ p, p ∈ ps → p < N) → GAlls hs hf ρ pss l → GAlls hs hf ρ' pss l
  | _, [], _, _ => (by unfold GAlls; trivial)
  | [], _ :: _, _, h => h
  | ps :: pss, x :: xs, hp, h => by
    refine ⟨?_, GAlls_agree ag h2 h3 pss xs (fun q hq => hp q (List.mem_cons_of_mem _ hq)) h.2⟩
    rw [hdN_agree (hdR_lt (hp ps List.mem_cons_self) h2 h3) ag]
    exact h.1
theorem Ty_of {hd : Int → Int → Option Nat} {ρ : Nat → KT} {x : S44} {m : Nat} (hm : hd x.f0 x.f1 = some m) {t : KT} : Ty (hdN hd ρ) x t ↔ TyL (hdN hd ρ) (ρ m) x.f2 t := by
  obtain ⟨k, n, l⟩ := x
  have e : hdN hd ρ k n = some (ρ m) := by unfold hdN; rw [hm]; rfl
  unfold Ty
  rw [e]
  exact ⟨fun ⟨t0, h0, h⟩ => by injection h0 with h0; rw [h0]; exact h, fun h => ⟨_, rfl, h⟩⟩
structure GBodied (s : List GN) (P : (Nat → KT) → Prop) (b : Bool) (s' : List GN) : Prop where
  yes : b = true → GExt s s' ∧ (∀ ρ, GSol s' ρ → P ρ) ∧ (∀ ρ, GSol s ρ → P ρ → ∃ ρ', (∀ i, i < s.length → ρ' i = ρ i) ∧ GSol s' ρ')
  no : b = false → ∀ ρ, GSol s ρ → ¬ P ρ
theorem GBodies.ok {hs hf : List Nat} {s : List GN} {pss : List (List Nat)} {l : List S48} {b : Bool} {s' : List GN} (h : GBodies hs hf s pss l b s') : GWF s → 0 < s.length → (∀ ρ, GSol s ρ → ρ 0 = .o) → (∀ p, p ∈ hf → p < s.length) → (∀ p, p ∈ hs → p < s.length) → (∀ ps, ps ∈ pss → ∀ p, p ∈ ps → p < s.length) →
    GBodied s (fun ρ => GAlls hs hf ρ pss l) b s' := by
  induction h with
  | nil => exact fun w _ _ _ _ _ => ⟨fun _ => ⟨GExt.refl w, fun _ _ => (by unfold GAlls; trivial), fun ρ hs _ => ⟨ρ, fun _ _ => rfl, hs⟩⟩, fun e => (by cases e)⟩
  | @bad s s1 ps pss x xs m hm h1 =>
    intro w hp hz hf' hs' hps
    have hh := hdR_lt (hps ps List.mem_cons_self) hf' hs'
    have T := h1.ok w (hh _ _ _ hm) hh
    exact ⟨fun e => (by cases e), fun _ ρ hs ha => T.no rfl ρ .o hs ((Ty_of hm).1 ha.1)⟩
  | @clash s s1 s2 ps pss x xs m k hm h1 hu =>
    intro w hp hz hf' hs' hps
    have hh := hdR_lt (hps ps List.mem_cons_self) hf' hs'
    have T := h1.ok w (hh _ _ _ hm) hh
    obtain ⟨hk1, x1, d1, u1⟩ := T.yes k rfl
    have U := hu.ok x1.wf
    refine ⟨fun e => (by cases e), fun _ ρ hs ha => ?_⟩
    obtain ⟨ρ', ag, hs', hkt⟩ := u1 ρ .o hs ((Ty_of hm).1 ha.1)
    exact U.no rfl ρ' hs' (by rw [hkt, hz ρ' (x1.down ρ' hs')])
  | @step s s1 s2 s3 ps pss x xs m k b hm h1 hu h2 ih =>
    intro w hp hz hf' hs' hps
    have hh := hdR_lt (hps ps List.mem_cons_self) hf' hs'
    have T := h1.ok w (hh _ _ _ hm) hh
    obtain ⟨hk1, x1, d1, u1⟩ := T.yes k rfl
    have U := hu.ok x1.wf
    have hS := U.yes rfl
    have x2 : GExt s s2 := ⟨by rw [U.len]; exact x1.len, U.wf, fun ρ hs => x1.down ρ ((hS ρ).1 hs).1⟩
    have l2 := x2.len
    have I := ih U.wf (Nat.lt_of_lt_of_le hp l2) (fun ρ hs => hz ρ (x2.down ρ hs)) (fun p hp => Nat.lt_of_lt_of_le (hf' p hp) l2) (fun p hp => Nat.lt_of_lt_of_le (hs' p hp) l2) (fun q hq p hp => Nat.lt_of_lt_of_le (hps q (List.mem_cons_of_mem _ hq) p hp) l2)
    have hpss : ∀ q, q ∈ pss → ∀ p, p ∈ q → p < s.length := fun q hq => hps q (List.mem_cons_of_mem _ hq)
    have step : ∀ ρ, GSol s ρ → Ty (hdN (hdR ps hf hs) ρ) x.f2 .o → ∃ ρ', (∀ i, i < s.length → ρ' i = ρ i) ∧ GSol s2 ρ' := by
      intro ρ hs ht
      obtain ⟨ρ', ag, hs', hkt⟩ := u1 ρ .o hs ((Ty_of hm).1 ht)
      exact ⟨ρ', ag, (hS ρ').2 ⟨hs', by rw [hkt, hz ρ' (x1.down ρ' hs')]⟩⟩
    refine ⟨fun hb => ?_, fun hb ρ hs ha => ?_⟩
    · obtain ⟨y1, y2, y3⟩ := I.yes hb
      refine ⟨x2.trans y1, fun ρ hs => ⟨?_, y2 ρ hs⟩, fun ρ hs ha => ?_⟩
      · have hs1 := (hS ρ).1 (y1.down ρ hs)
        have := d1 ρ hs1.1
        rw [hs1.2, hz ρ (x1.down ρ hs1.1)] at this
        exact (Ty_of hm).2 this
      · obtain ⟨ρ1, ag1, hs1⟩ := step ρ hs ha.1
        obtain ⟨ρ2, ag2, hs2⟩ := y3 ρ1 hs1 (GAlls_agree ag1 hf' hs' pss xs hpss ha.2)
        exact ⟨ρ2, fun i hi => (ag2 i (Nat.lt_of_lt_of_le hi l2)).trans (ag1 i hi), hs2⟩
    · obtain ⟨ρ1, ag1, hs1⟩ := step ρ hs ha.1
      exact I.no hb ρ1 hs1 (GAlls_agree ag1 hf' hs' pss xs hpss ha.2)
theorem hdR_known {ps hf hs : List Nat} {P F S : Int} (h1 : P = ps.length) (h2 : F = hf.length) (h3 : S = hs.length) : ∀ kd n, isK kd = true → 0 ≤ n → n < manyK kd P F S → ∃ m, hdR ps hf hs kd n = some m := by
  intro kd n hk hn hl
  subst h1 h2 h3
  unfold isK at hk
  unfold manyK at hl
  unfold hdR
  rw [if_neg (by omega)]
  by_cases k0 : kd = 0
  · subst k0
    rw [if_pos rfl]
    exact ⟨_, List.getElem?_eq_getElem (by simp at hl; omega)⟩
  rw [if_neg k0]
  by_cases k1 : kd = 1
  · subst k1
    rw [if_pos rfl]
    exact ⟨_, List.getElem?_eq_getElem (by simp at hl; omega)⟩
  rw [if_neg k1]
  by_cases k2 : kd = 2
  · subst k2
    rw [if_pos rfl]
    exact ⟨_, List.getElem?_eq_getElem (by simp at hl; omega)⟩
  · simp [k0, k1, k2] at hk
theorem GBodies.tot {hs hf : List Nat} {S : Int} (hS : S = hs.length) : ∀ (l : List S48) (pss : List (List Nat)) {s : List GN}, GWF s → 0 < s.length → (∀ p, p ∈ hf → p < s.length) → (∀ p, p ∈ hs → p < s.length) → (∀ ps, ps ∈ pss → ∀ p, p ∈ ps → p < s.length) → pss.map List.length = l.map (fun x => x.f1.toNat) → (∀ x, x ∈ l → knownS x.f2 x.f1.toNat hf.length S = true) →
    ∃ b s', GBodies hs hf s pss l b s'
  | [], pss, s, w, hp, hf', hs', hps, hm, hk => ⟨_, _, .nil⟩
  | x :: xs, [], s, w, hp, hf', hs', hps, hm, hk => by cases hm
  | x :: xs, ps :: pss, s, w, hp, hf', hs', hps, hm, hk => by
    rw [List.map_cons, List.map_cons] at hm
    injection hm with hm0 hm
    have hh := hdR_lt (hps ps List.mem_cons_self) hf' hs'
    obtain ⟨m, r, s1, hm1, h1⟩ := GSort.totS (hdR_known (P := x.f1.toNat) (F := hf.length) (by rw [← hm0]) rfl hS) x.f2 s w hh (hk x List.mem_cons_self)
    cases r with
    | none => exact ⟨_, _, .bad hm1 h1⟩
    | some k =>
      obtain ⟨hk1, x1, _, _⟩ := (h1.ok w (hh _ _ _ hm1) hh).yes k rfl
      obtain ⟨r, s2, hu⟩ := GUni.tot _ s1 k 0 x1.wf (Nat.le_refl _) hk1 (Nat.lt_of_lt_of_le hp x1.len)
      cases r with
      | false => exact ⟨_, _, .clash hm1 h1 hu⟩
      | true =>
        have U := hu.ok x1.wf
        have l2 : s.length ≤ s2.length := by rw [U.len]; exact x1.len
        obtain ⟨b, s3, h3⟩ := GBodies.tot hS xs pss U.wf (Nat.lt_of_lt_of_le hp l2) (fun p hp => Nat.lt_of_lt_of_le (hf' p hp) l2) (fun p hp => Nat.lt_of_lt_of_le (hs' p hp) l2) (fun q hq p hp => Nat.lt_of_lt_of_le (hps q (List.mem_cons_of_mem _ hq) p hp) l2) hm (fun y hy => hk y (List.mem_cons_of_mem _ hy))
        exact ⟨_, _, .step hm1 h1 hu h3⟩
end Go.Proofs.Ytfhgoebgnilfaaa.I
namespace Go.Proofs.Ytfhgoebgnilfaaa.I
open Go.RowKit
set_option linter.unusedVariables false
inductive GOuts (s : List GN) : List S41 → List Nat → Option (List S41) → Prop
  | nil {acc : List S41} : GOuts s acc [] (some acc)
  | many {acc : List S41} {k c p m : Nat} {ks : List Nat} : GEnd s c k p → GNodesL s p 60 1 m → 60 < m → GOuts s acc (k :: ks) none
  | bad {acc l : List S41} {k c p m : Nat} {ks : List Nat} : GEnd s c k p → GNodesL s p 60 1 m → m ≤ 60 → GOutL s p [] l → isok l = false → GOuts s acc (k :: ks) none
  | step {acc l : List S41} {k c p m : Nat} {ks : List Nat} {r : Option (List S41)} : GEnd s c k p → GNodesL s p 60 1 m → m ≤ 60 → GOutL s p [] l → isok l = true → GOuts s (acc ++ [⟨l⟩]) ks r → GOuts s acc (k :: ks) r
theorem open_rho {s : List GN} {h : Nat → Nat} : ∀ (i : Nat) (n : GN), s[i]? = some n → n.k = 0 → rho (s.map toK) h i = .o := by
  intro i n hn hk
  unfold rho rdF
  rw [List.getElem?_map, hn, Option.map_some, toK0 (by omega) (by omega) (by omega)]
theorem goodB_eq (t : KT) : goodB t = (decide (nS t ≤ 60) && isok (toS t)) := by
  unfold goodB
  rw [check_eq]
  congr 1
  cases isok (toS t) <;> rfl
theorem end3 {s : List GN} {c k p : Nat} (h : GEnd s c k p) : ∀ x, s[p]? = some x → x.k ≠ 3 := by
  obtain ⟨_, _, y, hy, hy3⟩ := h.lt
  intro x hx
  rw [hy] at hx
  injection hx with hx
  rw [← hx]
  exact hy3
theorem nodes_fit {s : List GN} (w : GWF s) {h : Nat → Nat} (wf : WF (s.map toK) h) {c k p m : Nat} (he : GEnd s c k p) (hn : GNodesL s p 60 1 m) : (m ≤ 60 ↔ nS (rho (s.map toK) h k) ≤ 60) ∧ (m ≤ 60 → nS (rho (s.map toK) h p) ≤ 60) := by
  have hs := GSol_toK.2 (rho_sol wf)
  obtain ⟨h1, h2⟩ := hn.ok w hs open_rho (end3 he)
  rw [he.sol hs]
  constructor
  · constructor
    · intro hm
      by_cases g : nS (rho (s.map toK) h p) ≤ 60
      · exact g
      · have := h2 (by omega); omega
    · intro hm
      have := h1 (by omega)
      omega
  · intro hm
    by_cases g : nS (rho (s.map toK) h p) ≤ 60
    · exact g
    · have := h2 (by omega); omega
theorem GOuts.ok {s : List GN} (w : GWF s) {h : Nat → Nat} (wf : WF (s.map toK) h) {acc : List S41} {ks : List Nat} {r : Option (List S41)} (ho : GOuts s acc ks r) : r = if (ks.map (rho (s.map toK) h)).all goodB = true then some (acc ++ (ks.map (rho (s.map toK) h)).map (fun t => (⟨toS t⟩ : S41))) else none := by
  have hs := GSol_toK.2 (rho_sol wf)
  induction ho with
  | nil => simp
  | @many acc k c p m ks he hn hm =>
    have := (nodes_fit w wf he hn).1
    rw [List.map_cons, List.all_cons, goodB_eq, decide_eq_false (by omega), Bool.false_and, Bool.false_and, if_neg (by decide)]
  | @bad acc l k c p m ks he hn hm ho hi =>
    have e := ho.ok w hs open_rho (end3 he)
    rw [List.nil_append, ← he.sol hs] at e
    rw [List.map_cons, List.all_cons, goodB_eq, ← e, hi, Bool.and_false, Bool.false_and, if_neg (by decide)]
  | @step acc l k c p m ks r he hn hm ho hi _ ih =>
    have e := ho.ok w hs open_rho (end3 he)
    rw [List.nil_append, ← he.sol hs] at e
    have := (nodes_fit w wf he hn).1
    rw [ih, List.map_cons, List.all_cons, goodB_eq, ← e, hi, decide_eq_true (by omega), Bool.true_and, Bool.true_and, List.map_cons, ← e, List.append_assoc]
    rfl
theorem GOuts.tot {s : List GN} (w : GWF s) {h : Nat → Nat} (wf : WF (s.map toK) h) : ∀ (ks : List Nat) (acc : List S41), (∀ k, k ∈ ks → k < s.length) → ∃ r, GOuts s acc ks r
  | [], acc, _ => ⟨_, .nil⟩
  | k :: ks, acc, hk => by
    obtain ⟨c, p, he⟩ := w.fin k (hk k List.mem_cons_self)
    have hp := he.lt.2.1
    obtain ⟨m, hm⟩ := GNodesL.tot w wf _ p 60 1 (Nat.lt_succ_self _) hp (end3 he)
    by_cases hm60 : 60 < m
    · exact ⟨_, .many he hm hm60⟩
    obtain ⟨l, hl⟩ := GOutL.tot w wf _ p [] (Nat.lt_succ_self _) hp (end3 he)
    cases hi : isok l with
    | false => exact ⟨_, .bad he hm (by omega) hl hi⟩
    | true =>
      obtain ⟨r, hr⟩ := GOuts.tot w wf ks (acc ++ [⟨l⟩]) (fun q hq => hk q (List.mem_cons_of_mem _ hq))
      exact ⟨r, .step he hm (by omega) hl hi hr⟩
def g0 : List GN := [⟨1, 0, 0⟩]
def gS (syms : List S59) : List Nat × List GN := gsyms g0 syms
def gH (syms : List S59) (l : List S48) : (List (List Nat) × List Nat) × List GN := gheads (gS syms).2 l
inductive GSorts (syms : List S59) (l : List S48) : List S41 → Int → Prop
  | bad {s : List GN} : GBodies (gS syms).1 (gH syms l).1.2 (gH syms l).2 (gH syms l).1.1 l false s → GSorts syms l [] 6
  | ring {s : List GN} : GBodies (gS syms).1 (gH syms l).1.2 (gH syms l).2 (gH syms l).1.1 l true s → GRounds s (List.replicate s.length 0) 0 true → GSorts syms l [] 6
  | many {s : List GN} : GBodies (gS syms).1 (gH syms l).1.2 (gH syms l).2 (gH syms l).1.1 l true s → GRounds s (List.replicate s.length 0) 0 false → GOuts s [] (gH syms l).1.2 none → GSorts syms l [] 3
  | good {s : List GN} {out : List S41} : GBodies (gS syms).1 (gH syms l).1.2 (gH syms l).2 (gH syms l).1.1 l true s → GRounds s (List.replicate s.length 0) 0 false → GOuts s [] (gH syms l).1.2 (some out) → GSorts syms l out 0
theorem g0_wf : GWF g0 := by
  refine ⟨fun i n hn => ?_, fun i hi => ?_⟩
  · cases i with
    | zero => injection hn with hn; subst hn; exact ⟨by decide, (fun h => by cases h), (fun h => by cases h)⟩
    | succ i => cases hn
  · have : i = 0 := by simp [g0] at hi; exact hi
    subst this
    exact ⟨0, 0, .stop (n := ⟨1, 0, 0⟩) rfl (by decide)⟩
theorem g0_zero : ∀ ρ, GSol g0 ρ → ρ 0 = .o := fun ρ hs => (hs 0 ⟨1, 0, 0⟩ rfl).1 rfl
theorem gS_ok (syms : List S59) : GSymed g0 syms (gS syms).1 (gS syms).2 := gsyms_ok syms g0_wf (by decide) g0_zero
theorem gH_ok (syms : List S59) (l : List S48) : GHeaded (gS syms).2 l (gH syms l).1.1 (gH syms l).1.2 (gH syms l).2 :=
  gheads_ok l (gS_ok syms).ext.wf (Nat.lt_of_lt_of_le (by decide) (gS_ok syms).ext.len) (fun ρ hs => g0_zero ρ ((gS_ok syms).ext.down ρ hs))
mutual
theorem Ty_congr {hd hd' : Int → Int → Option KT} (h : ∀ k n, isK k = true → hd k n = hd' k n) : ∀ (x : S44) (P F S : Int), knownS x P F S = true → ∀ t, Ty hd x t ↔ Ty hd' x t
  | ⟨k, n, l⟩, P, F, S, hk, t => by
    unfold knownS at hk
    simp only [Bool.and_eq_true] at hk
    unfold Ty
    rw [h k n hk.1.1]
    constructor
    · rintro ⟨t0, h0, h1⟩; exact ⟨t0, h0, (TyL_congr h l P F S hk.2 t0 t).1 h1⟩
    · rintro ⟨t0, h0, h1⟩; exact ⟨t0, h0, (TyL_congr h l P F S hk.2 t0 t).2 h1⟩
theorem TyL_congr {hd hd' : Int → Int → Option KT} (h : ∀ k n, isK k = true → hd k n = hd' k n) : ∀ (l : List S44) (P F S : Int), knownL l P F S = true → ∀ t0 t, TyL hd t0 l t ↔ TyL hd' t0 l t
  | [], P, F, S, hk, t0, t => by unfold TyL; exact Iff.rfl
  | x :: xs, P, F, S, hk, t0, t => by
    unfold knownL at hk
    rw [Bool.and_eq_true] at hk
    unfold TyL
    constructor
    · rintro ⟨a, b, e, h1, h2⟩; exact ⟨a, b, e, (Ty_congr h x P F S hk.1 a).1 h1, (TyL_congr h xs P F S hk.2 b t).1 h2⟩
    · rintro ⟨a, b, e, h1, h2⟩; exact ⟨a, b, e, (Ty_congr h x P F S hk.1 a).2 h1, (TyL_congr h xs P F S hk.2 b t).2 h2⟩
end
theorem hdN_hdG {syms : List S59} {ps hf hs : List Nat} {ρ : Nat → KT} (h : hs.map ρ = syms.map symT) : ∀ k n, isK k = true → hdN (hdR ps hf hs) ρ k n = hdG syms (hf.map ρ) (ps.map ρ) k n := by
  intro k n hk
  unfold hdN hdR hdG
  by_cases hn : n < 0
  · rw [if_pos hn, if_pos hn]; rfl
  rw [if_neg hn, if_neg hn]
  by_cases k0 : k = 0
  · rw [if_pos k0, if_pos k0, List.getElem?_map]
  rw [if_neg k0, if_neg k0]
  by_cases k1 : k = 1
  · rw [if_pos k1, if_pos k1, List.getElem?_map]
  rw [if_neg k1, if_neg k1]
  by_cases k2 : k = 2
  · rw [if_pos k2, ← List.getElem?_map, h, List.getElem?_map]; rfl
  · unfold isK at hk; simp [k0, k1, k2] at hk
theorem GAlls_AllT {syms : List S59} {hf hs : List Nat} {ρ : Nat → KT} (h : hs.map ρ = syms.map symT) : ∀ (pss : List (List Nat)) (l : List S48), (∀ x, x ∈ l → ∃ P F S, knownS x.f2 P F S = true) → (GAlls hs hf ρ pss l ↔ AllT syms (hf.map ρ) (pss.map (fun ps => ps.map ρ)) l)
  | pss, [], _ => by cases pss <;> (unfold GAlls AllT; exact Iff.rfl)
  | [], x :: xs, _ => by unfold GAlls; rw [List.map_nil]; unfold AllT; exact Iff.rfl
  | ps :: pss, x :: xs, hk => by
    rw [List.map_cons]
    unfold GAlls AllT
    obtain ⟨P, F, S, hx⟩ := hk x List.mem_cons_self
    rw [Ty_congr (hdN_hdG h) x.f2 P F S hx, GAlls_AllT h pss xs (fun y hy => hk y (List.mem_cons_of_mem _ hy))]
theorem lesL_antisymm : ∀ {a b : List KT}, lesL a b → lesL b a → a = b
  | [], [], _, _ => rfl
  | [], _ :: _, h, _ => h.elim
  | _ :: _, [], h, _ => h.elim
  | a :: xs, b :: ys, h1, h2 => by rw [KT.le_antisymm h1.1 h2.1, lesL_antisymm h1.2 h2.2]
theorem rounds_start {s : List GN} (w : GWF s) {r : Bool} (h : GRounds s (List.replicate s.length 0) 0 r) : (r = true → ∀ ρ, ¬ GSol s ρ) ∧ (r = false → ∀ j, j < s.length → Fin_ s j) := by
  have hr : ∀ (p v : Nat), (List.replicate s.length 0)[p]? = some v → v = 0 := fun p v hv => (List.mem_replicate.1 (List.mem_of_getElem? hv)).2
  exact h.ok w (fun p hp => by have := hr p 1 hp; omega) (fun p hp => by have := hr p 2 hp; omega) (fun j hj => by omega)
theorem gsorts_main (syms : List S59) (l : List S48) (hc : chkF syms l = some 0) :
    (∃ out er, GSorts syms l out er) ∧
    ((∃ As0, Typed syms l As0 ∧ (∀ As, Typed syms l As → lesL (gam As0) (gam As)) ∧ ∀ out er, GSorts syms l out er → (out, er) = if (gam As0).all goodB = true then ((gam As0).map (fun t => (⟨toS t⟩ : S41)), 0) else ([], 3)) ∨
    ((∀ As, ¬ Typed syms l As) ∧ ∀ out er, GSorts syms l out er → out = [] ∧ er = 6)) := by
  have Sy := gS_ok syms
  have H := gH_ok syms l
  have hpos : 0 < (gH syms l).2.length := Nat.lt_of_lt_of_le (Nat.lt_of_lt_of_le (by decide) Sy.ext.len) H.ext.len
  have hz : ∀ ρ, GSol (gH syms l).2 ρ → ρ 0 = .o := fun ρ hs => g0_zero ρ (Sy.ext.down ρ (H.ext.down ρ hs))
  have hsl : ∀ p, p ∈ (gS syms).1 → p < (gH syms l).2.length := fun p hp => Nat.lt_of_lt_of_le (Sy.lk p hp) H.ext.len
  have hok := fCheck_ok hc
  have upr : ∀ As : List (List KT), As.map List.length = l.map (fun x => x.f1.toNat) → ∃ ρ, GSol (gH syms l).2 ρ ∧ (gH syms l).1.1.map (fun ps => ps.map ρ) = As := by
    intro As hA
    obtain ⟨ρ1, _, hs1⟩ := Sy.up (fun _ => .o) (by
      intro i n hn
      cases i with
      | zero => injection hn with hn; subst hn; exact ⟨fun _ => rfl, (fun h => by cases h), (fun h => by cases h)⟩
      | succ i => cases hn)
    obtain ⟨ρ2, _, hs2, hm⟩ := H.up ρ1 As hA hs1
    exact ⟨ρ2, hs2, hm⟩
  have hks : (gH syms l).1.2.length = l.length := by
    obtain ⟨ρ, hs, _⟩ := upr (l.map (fun x => List.replicate x.f1.toNat .o)) (by rw [List.map_map]; exact List.map_congr_left (fun x _ => by simp))
    have e2 := congrArg List.length H.many
    have e3 := congrArg List.length (H.down ρ hs)
    simp only [List.length_map] at e2 e3
    omega
  have hkn : ∀ x, x ∈ l → knownS x.f2 x.f1.toNat (gH syms l).1.2.length syms.length = true := fun x hx => by
    have h2 := chkF_known hc x hx
    have h3 := (hok.2.2.2.2 x hx).1
    rw [hks, Int.toNat_of_nonneg h3]
    exact h2
  have gmap : ∀ ρ, GSol (gH syms l).2 ρ → gam ((gH syms l).1.1.map (fun ps => ps.map ρ)) = (gH syms l).1.2.map ρ := by
    intro ρ hs
    rw [H.down ρ hs]
    unfold gam
    rw [List.map_map]
    rfl
  have hsy : ∀ ρ, GSol (gH syms l).2 ρ → (gS syms).1.map ρ = syms.map symT := fun ρ hs => Sy.down ρ (H.ext.down ρ hs)
  have up : ∀ As, Typed syms l As → ∃ ρ, GSol (gH syms l).2 ρ ∧ GAlls (gS syms).1 (gH syms l).1.2 ρ (gH syms l).1.1 l ∧ (gH syms l).1.2.map ρ = gam As := by
    intro As hT
    obtain ⟨ρ, hs, hm⟩ := upr As hT.1
    have hg := gmap ρ hs
    rw [hm] at hg
    refine ⟨ρ, hs, ?_, hg.symm⟩
    rw [GAlls_AllT (hsy ρ hs) _ _ (fun x hx => ⟨_, _, _, hkn x hx⟩), ← hg, hm]
    exact hT.2
  have down : ∀ ρ, GSol (gH syms l).2 ρ → GAlls (gS syms).1 (gH syms l).1.2 ρ (gH syms l).1.1 l → Typed syms l ((gH syms l).1.1.map (fun ps => ps.map ρ)) := by
    intro ρ hs ha
    refine ⟨?_, ?_⟩
    · rw [← H.many, List.map_map]
      exact List.map_congr_left (fun ps _ => by simp)
    · rw [gmap ρ hs, ← GAlls_AllT (hsy ρ hs) _ _ (fun x hx => ⟨_, _, _, hkn x hx⟩)]
      exact ha
  obtain ⟨b, s, hB⟩ := GBodies.tot (hs := (gS syms).1) (hf := (gH syms l).1.2) (S := syms.length) (by rw [Sy.many]) l (gH syms l).1.1 H.ext.wf hpos H.lk hsl H.lp H.many hkn
  have okB : ∀ {b s}, GBodies (gS syms).1 (gH syms l).1.2 (gH syms l).2 (gH syms l).1.1 l b s → GBodied (gH syms l).2 (fun ρ => GAlls (gS syms).1 (gH syms l).1.2 ρ (gH syms l).1.1 l) b s := fun h => h.ok H.ext.wf hpos hz H.lk hsl H.lp
  have wfB : ∀ {s}, GBodies (gS syms).1 (gH syms l).1.2 (gH syms l).2 (gH syms l).1.1 l true s → GWF s := fun h => ((okB h).yes rfl).1.wf
  have finB : ∀ {s}, GBodies (gS syms).1 (gH syms l).1.2 (gH syms l).2 (gH syms l).1.1 l true s → GRounds s (List.replicate s.length 0) 0 false → ∃ h, WF (s.map toK) h := fun hb hr => WF_of_fin (wfB hb) ((rounds_start (wfB hb) hr).2 rfl)
  -- what a derivation says
  have none_of : ∀ {s}, GBodies (gS syms).1 (gH syms l).1.2 (gH syms l).2 (gH syms l).1.1 l false s → ∀ As, ¬ Typed syms l As := by
    intro s hb As hT
    obtain ⟨ρ, hs, ha, _⟩ := up As hT
    exact (okB hb).no rfl ρ hs ha
  have ring_of : ∀ {s}, GBodies (gS syms).1 (gH syms l).1.2 (gH syms l).2 (gH syms l).1.1 l true s → GRounds s (List.replicate s.length 0) 0 true → ∀ As, ¬ Typed syms l As := by
    intro s hb hr As hT
    obtain ⟨ρ, hs, ha, _⟩ := up As hT
    obtain ⟨ρ', _, hs'⟩ := ((okB hb).yes rfl).2.2 ρ hs ha
    exact (rounds_start (wfB hb) hr).1 rfl ρ' hs'
  have good_of : ∀ {s}, GBodies (gS syms).1 (gH syms l).1.2 (gH syms l).2 (gH syms l).1.1 l true s → ∀ {h}, WF (s.map toK) h → Typed syms l ((gH syms l).1.1.map (fun ps => ps.map (rho (s.map toK) h))) ∧ (∀ As, Typed syms l As → lesL (gam ((gH syms l).1.1.map (fun ps => ps.map (rho (s.map toK) h)))) (gam As)) ∧ gam ((gH syms l).1.1.map (fun ps => ps.map (rho (s.map toK) h))) = (gH syms l).1.2.map (rho (s.map toK) h) := by
    intro s hb h wf
    obtain ⟨x2, d2, u2⟩ := (okB hb).yes rfl
    have hs2 := GSol_toK.2 (rho_sol wf)
    have hg := gmap _ (x2.down _ hs2)
    refine ⟨down _ (x2.down _ hs2) (d2 _ hs2), fun As hT => ?_, hg⟩
    obtain ⟨ρ, hs, ha, hga⟩ := up As hT
    obtain ⟨ρ', ag, hs'⟩ := u2 ρ hs ha
    have e : (gH syms l).1.2.map ρ' = (gH syms l).1.2.map ρ := List.map_congr_left (fun k hk => ag k (H.lk k hk))
    rw [hg, ← hga, ← e]
    exact lesL_map (fun i => rho_least (GSol_toK.1 hs') i) _
  have lk2 : ∀ {s}, GBodies (gS syms).1 (gH syms l).1.2 (gH syms l).2 (gH syms l).1.1 l true s → ∀ k, k ∈ (gH syms l).1.2 → k < s.length := fun hb k hk => Nat.lt_of_lt_of_le (H.lk k hk) ((okB hb).yes rfl).1.len
  have answer : ∀ out er, GSorts syms l out er → ((∀ As, ¬ Typed syms l As) ∧ out = [] ∧ er = 6) ∨ ∃ As0, Typed syms l As0 ∧ (∀ As, Typed syms l As → lesL (gam As0) (gam As)) ∧ (out, er) = if (gam As0).all goodB = true then ((gam As0).map (fun t => (⟨toS t⟩ : S41)), 0) else ([], 3) := by
    intro out er h
    cases h with
    | bad hb => exact .inl ⟨none_of hb, rfl, rfl⟩
    | ring hb hr => exact .inl ⟨ring_of hb hr, rfl, rfl⟩
    | @many s hb hr ho =>
      obtain ⟨h, wf⟩ := finB hb hr
      obtain ⟨g1, g2, g3⟩ := good_of hb wf
      refine .inr ⟨_, g1, g2, ?_⟩
      have e := ho.ok (wfB hb) wf
      rw [g3]
      by_cases hg : ((gH syms l).1.2.map (rho (s.map toK) h)).all goodB = true
      · rw [if_pos hg] at e; cases e
      · rw [if_neg hg]
    | @good s _ hb hr ho =>
      obtain ⟨h, wf⟩ := finB hb hr
      obtain ⟨g1, g2, g3⟩ := good_of hb wf
      refine .inr ⟨_, g1, g2, ?_⟩
      have e := ho.ok (wfB hb) wf
      rw [g3]
      by_cases hg : ((gH syms l).1.2.map (rho (s.map toK) h)).all goodB = true
      · rw [if_pos hg] at e; injection e with e; rw [if_pos hg, e, List.nil_append]
      · rw [if_neg hg] at e; cases e
  have ex : ∃ out er, GSorts syms l out er := by
    cases b with
    | false => exact ⟨_, _, .bad hB⟩
    | true =>
      obtain ⟨r, hr⟩ := GRounds.tot (wfB hB) _ 0 (List.replicate s.length 0) rfl (by rw [List.length_replicate]) (fun p v hv => by have := (List.mem_replicate.1 (List.mem_of_getElem? hv)).2; omega)
      cases r with
      | true => exact ⟨_, _, .ring hB hr⟩
      | false =>
        obtain ⟨h, wf⟩ := finB hB hr
        obtain ⟨r, ho⟩ := GOuts.tot (wfB hB) wf (gH syms l).1.2 [] (lk2 hB)
        cases r with
        | none => exact ⟨_, _, .many hB hr ho⟩
        | some out => exact ⟨_, _, .good hB hr ho⟩
  refine ⟨ex, ?_⟩
  obtain ⟨out0, er0, h0⟩ := ex
  rcases answer out0 er0 h0 with ⟨hn, _, _⟩ | ⟨As0, hT0, hl0, _⟩
  · refine .inr ⟨hn, fun out er h => ?_⟩
    rcases answer out er h with ⟨_, e1, e2⟩ | ⟨As1, hT1, _, _⟩
    · exact ⟨e1, e2⟩
    · exact absurd hT1 (hn As1)
  · refine .inl ⟨As0, hT0, hl0, fun out er h => ?_⟩
    rcases answer out er h with ⟨hn, _, _⟩ | ⟨As1, hT1, hl1, e⟩
    · exact absurd hT0 (hn As0)
    · rw [lesL_antisymm (hl0 As1 hT1) (hl1 As0 hT0)]
      exact e
theorem sorts_same (syms : List S59) (l : List S48) (hc : chkF syms l = some 0) : ∃ f out er, fsorts f syms l = some (out, er) ∧ ∀ out' er', GSorts syms l out' er' → out' = out ∧ er' = er := by
  obtain ⟨_, hg⟩ := gsorts_main syms l hc
  rcases sorts_main syms l hc with ⟨As0, hT, hl, f, hf⟩ | ⟨hn, f, hf⟩
  · rcases hg with ⟨As1, hT1, hl1, ha⟩ | ⟨hn, _⟩
    · have e := lesL_antisymm (hl As1 hT1) (hl1 As0 hT)
      by_cases hgood : (gam As0).all goodB = true
      · rw [if_pos hgood] at hf
        refine ⟨f, _, _, hf, fun out er h => ?_⟩
        have := ha out er h
        rw [← e, if_pos hgood] at this
        injection this with a b
        exact ⟨a, b⟩
      · rw [if_neg hgood] at hf
        refine ⟨f, _, _, hf, fun out er h => ?_⟩
        have := ha out er h
        rw [← e, if_neg hgood] at this
        injection this with a b
        exact ⟨a, b⟩
    · exact absurd hT (hn As0)
  · rcases hg with ⟨As1, hT1, _, _⟩ | ⟨_, ha⟩
    · exact absurd hT1 (hn As1)
    · exact ⟨f, [], 6, hf, fun out er h => ha out er h⟩
end Go.Proofs.Ytfhgoebgnilfaaa.I
namespace Go.Proofs.Ytfhgoebgnilfaaa.I
open Go.RowKit Go.Proofs.YtfhgoebgnilfaaaW.PrintWords Go.Proofs.YtfhgoebgnilfaaaW.PrintLast Go.Proofs.YtfhgoebgnilfaaaW.PrintMore
attribute [local go_sem] max2_int min2_int max_two min_two max_three min_three max_four min_four
set_option linter.unusedVariables false
set_option maxRecDepth 100000
set_option linter.unusedSimpArgs false
structure IntSt (B : Nat) (w w' : World) : Prop where
  os : w'.os = w.os
  tape : w'.tape = w.tape
  output : w'.output = w.output
  size : w.heap.size ≤ w'.heap.size
  block : ∀ k, k < w.heap.size → w'.heap[k]? = w.heap[k]? ∨ (B ≤ k ∧ ∃ c c' : Array Value, w.heap[k]? = some (.cells c 44 (0, 0)) ∧ w'.heap[k]? = some (.cells c' 44 (0, 0)) ∧ ∀ j : Nat, c'[j]? = c[j]? ∨ ∃ a b : Int, c[j]? = some (.int .i64 a) ∧ c'[j]? = some (.int .i64 b))
theorem IntSt.refl (B : Nat) (w : World) : IntSt B w w := ⟨rfl, rfl, rfl, Nat.le_refl _, fun _ _ => .inl rfl⟩
theorem IntSt.trans {B : Nat} {w w1 w2 : World} (h : IntSt B w w1) (k : IntSt B w1 w2) : IntSt B w w2 := by
  refine ⟨k.os.trans h.os, k.tape.trans h.tape, k.output.trans h.output, Nat.le_trans h.size k.size, fun q hq => ?_⟩
  rcases h.block q hq with h1 | ⟨hb, c, c1, e0, e1, hj⟩
  · rcases k.block q (Nat.lt_of_lt_of_le hq h.size) with h2 | ⟨hb, c, c1, e0, e1, hj⟩
    · exact .inl (h2.trans h1)
    · exact .inr ⟨hb, c, c1, h1.symm.trans e0, e1, hj⟩
  · rcases k.block q (Nat.lt_of_lt_of_le hq h.size) with h2 | ⟨_, c2, c3, e2, e3, hj2⟩
    · exact .inr ⟨hb, c, c1, e0, h2.trans e1, hj⟩
    · have e := e1.symm.trans e2
      injection e with e
      injection e with e _ _
      subst e
      refine .inr ⟨hb, c, c3, e0, e3, fun j => ?_⟩
      rcases hj j with h3 | ⟨a, b, h3, h4⟩
      · rcases hj2 j with h5 | ⟨a, b, h5, h6⟩
        · exact .inl (h5.trans h3)
        · exact .inr ⟨a, b, h3.symm.trans h5, h6⟩
      · rcases hj2 j with h5 | ⟨a', b', h5, h6⟩
        · exact .inr ⟨a, b, h3, h5.trans h4⟩
        · exact .inr ⟨a, b', h3, h6⟩
theorem IntSt.set {B g j : Nat} {w : World} {c : Array Value} {a b : Int} (hg : w.heap[g]? = some (.cells c 44 (0, 0))) (hB : B ≤ g) (hj : c[j]? = some (.int .i64 a)) : IntSt B w (w.setCell ⟨g, j, none⟩ (.int .i64 b)) := by
  refine ⟨rfl, rfl, rfl, by simp [World.setCell], fun k hk => ?_⟩
  by_cases hkg : k = g
  · subst hkg
    refine .inr ⟨hB, c, c.setIfInBounds j (.int .i64 b), hg, blk_set hg j _, fun q => ?_⟩
    rw [Array.getElem?_setIfInBounds]
    by_cases hq : j = q
    · subst hq
      have hjl : j < c.size := (Array.getElem?_eq_some_iff.1 hj).1
      rw [if_pos rfl, if_pos hjl]
      exact .inr ⟨a, b, hj, rfl⟩
    · rw [if_neg hq]
      exact .inl rfl
  · exact .inl (Below.heap_setCell w ⟨g, j, none⟩ _ k hkg)
theorem IntSt.elder {B B' : Nat} {w0 w w' : World} (h : IntSt B w w') (hB : Below B' w0 w) (hb : B' ≤ B) (hs : B' ≤ w.heap.size) : Below B' w0 w' :=
  ⟨h.os.trans hB.os, h.tape.trans hB.tape, h.output.trans hB.output, Nat.le_trans hB.size h.size, fun k hk => by
    rcases h.block k (Nat.lt_of_lt_of_le hk hs) with h1 | ⟨h2, _⟩
    · exact h1.trans (hB.block k hk)
    · omega⟩
end Go.Proofs.Ytfhgoebgnilfaaa.I
namespace Go.Proofs.Ytfhgoebgnilfaaa.I
open Go.RowKit Go.Proofs.YtfhgoebgnilfaaaW.PrintWords Go.Proofs.YtfhgoebgnilfaaaW.PrintLast Go.Proofs.YtfhgoebgnilfaaaW.PrintMore
set_option linter.unusedVariables false
set_option maxRecDepth 100000
set_option linter.unusedSimpArgs false
theorem looseL_big : ∀ (l : List S48) (nf ns : Int) (L : List ByteArray), looseL l nf ns L = true → ∀ x ∈ l, big x.f2 = false
  | [], _, _, _, _, x, hx => by cases hx
  | y :: ys, nf, ns, L, h, x, hx => by
    unfold looseL at h
    by_cases hb : looseBad y nf ns L = true
    · rw [if_pos hb] at h; cases h
    · rw [if_neg hb] at h
      rcases List.mem_cons.1 hx with e | hx
      · rw [e]
        rw [loose_eq] at hb
        cases hg : big y.f2
        · rfl
        · rw [hg] at hb; simp at hb
      · exact looseL_big ys nf ns _ h x hx
theorem chk_big {syms : List S59} {l : List S48} (h : chkF syms l = some 0) : ∀ x ∈ l, tcntL x.f2.f2 ≤ 1000 := by
  have hb : ∀ x ∈ l, big x.f2 = false := by
    unfold chkF at h
    injection h with h
    split at h
    · cases h
    · split at h
      · cases h
      · split at h
        · rename_i h1 h2 h3
          exact looseL_big _ _ _ _ h3
        · cases h
  intro x hx
  have h1 := hb x hx
  unfold big at h1
  rw [Bool.or_eq_false_iff] at h1
  have h2 := of_decide_eq_false h1.1
  have h3 := tcnt_f2 x.f2
  omega
end Go.Proofs.Ytfhgoebgnilfaaa.I
