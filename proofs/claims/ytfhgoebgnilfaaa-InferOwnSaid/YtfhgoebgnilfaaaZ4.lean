/- Texts of this session's proof, laid together: IT1, IT2, IT3, IT4, I3, I4, IP1. -/
import Derived.Test.YtfhgoebgnilfaaaZ3
namespace Go.Proofs.Ytfhgoebgnilfaaa.I
open Go.RowKit
set_option linter.unusedVariables false
/-- A finite sort: o, or an arrow. -/
inductive KT where
  | o : KT
  | ar : KT → KT → KT
def KT.sz : KT → Nat
  | .o => 1
  | .ar a b => a.sz + b.sz + 1
/-- The kinds' equations hold. -/
def Sol (s : List KN) (ρ : Nat → KT) : Prop :=
  ∀ (i : Nat) (n : KN), s[i]? = some n → (∀ j, n.lk = some j → ρ i = ρ j) ∧ (n.bs = true → ρ i = .o) ∧ (∀ a t, n.fr = some a → n.tk = some t → ρ i = .ar (ρ a) (ρ t))
/-- A store without rings: a height falls along all pointers. -/
structure WF (s : List KN) (h : Nat → Nat) : Prop where
  rng : ∀ (i : Nat) (n : KN), s[i]? = some n → inS s.length n.lk ∧ inS s.length n.fr ∧ inS s.length n.tk
  arr : ∀ (i : Nat) (n : KN), s[i]? = some n → (n.fr = none ↔ n.tk = none)
  bas : ∀ (i : Nat) (n : KN), s[i]? = some n → n.bs = true → n.fr = none
  lnk : ∀ (i : Nat) (n : KN), s[i]? = some n → n.lk ≠ none → n.bs = false ∧ n.fr = none
  dec : ∀ (i : Nat) (n : KN), s[i]? = some n → (∀ j, n.lk = some j → h j < h i) ∧ (∀ j, n.fr = some j → h j < h i) ∧ (∀ j, n.tk = some j → h j < h i)
theorem fend_le {s : List KN} {i r : Nat} {k k' : Nat} (hk : k ≤ k') (h : fend s k i = some r) : fend s k' i = some r := by
  induction hk with
  | refl => exact h
  | step _ ih => exact fend_s s _ _ _ ih
theorem fwithin_le {s : List KN} {k i : Nat} {b : Bool} {f f' : Nat} (hf : f ≤ f') (h : fwithin s f k i = some b) : fwithin s f' k i = some b := by
  induction hf with
  | refl => exact h
  | step _ ih => exact fwithin_s s _ _ _ _ ih
theorem fjoin_le {s : List KN} {a b : Nat} {r : Bool × List KN} {f f' : Nat} (hf : f ≤ f') (h : fjoin f s a b = some r) : fjoin f' s a b = some r := by
  induction hf with
  | refl => exact h
  | step _ ih => exact fjoin_s _ _ _ _ _ ih
theorem fend_ok {s : List KN} : ∀ {f i r : Nat}, fend s f i = some r → (∃ n, s[r]? = some n ∧ n.lk = none) ∧ (∀ ρ, Sol s ρ → ρ i = ρ r) ∧ (∀ h, WF s h → h r ≤ h i)
  | 0, i, r, e => by simp [fend] at e
  | f + 1, i, r, e => by
    unfold fend at e
    cases hn : s[i]? with
    | none => rw [hn] at e; cases e
    | some n =>
      rw [hn] at e
      simp only at e
      cases hl : n.lk with
      | none =>
        rw [hl] at e
        injection e with e
        subst e
        exact ⟨⟨n, hn, hl⟩, fun _ _ => rfl, fun _ _ => Nat.le_refl _⟩
      | some j =>
        rw [hl] at e
        obtain ⟨h1, h2, h3⟩ := fend_ok e
        exact ⟨h1, fun ρ hs => ((hs i n hn).1 j hl).trans (h2 ρ hs), fun h w => Nat.le_trans (h3 h w) (Nat.le_of_lt ((w.dec i n hn).1 j hl))⟩
theorem fend_tot {s : List KN} {h : Nat → Nat} (w : WF s h) : ∀ (m i : Nat), h i < m → i < s.length → ∃ r, fend s m i = some r
  | 0, i, hm, hi => absurd hm (by omega)
  | m + 1, i, hm, hi => by
    have hn := List.getElem?_eq_getElem hi
    unfold fend
    rw [hn]
    simp only
    cases hl : (s[i]).lk with
    | none => exact ⟨i, rfl⟩
    | some j =>
      have hd := (w.dec i _ hn).1 j hl
      exact fend_tot w m j (by omega) ((w.rng i _ hn).1 j hl)
theorem fend_self {s : List KN} {i : Nat} {n : KN} (f : Nat) (hn : s[i]? = some n) (hl : n.lk = none) : fend s (f + 1) i = some i := by
  unfold fend
  rw [hn]
  simp only
  rw [hl]
theorem fwithin_tot {s : List KN} {h : Nat → Nat} (w : WF s h) (k : Nat) : ∀ (m i : Nat), h i + 2 ≤ m → i < s.length → ∃ b, fwithin s m k i = some b
  | 0, i, hm, hi => absurd hm (by omega)
  | m + 1, i, hm, hi => by
    obtain ⟨r, hr⟩ := fend_tot w m i (by omega) hi
    obtain ⟨⟨n, hn, hl⟩, _, h3⟩ := fend_ok hr
    have hle := h3 h w
    unfold fwithin
    rw [hr]
    simp only
    by_cases hk : k = r
    · rw [if_pos hk]; exact ⟨true, rfl⟩
    · rw [if_neg hk, hn]
      simp only
      cases hf : n.fr with
      | none => exact ⟨false, rfl⟩
      | some a =>
        have ha := (w.dec r n hn).2.1 a hf
        obtain ⟨b, hb⟩ := fwithin_tot w k m a (by omega) ((w.rng r n hn).2.1 a hf)
        simp only
        rw [hb]
        cases b with
        | true => exact ⟨true, rfl⟩
        | false =>
          simp only
          cases ht : n.tk with
          | none => exact absurd ((w.arr r n hn).2 ht) (by rw [hf]; simp)
          | some t =>
            have htd := (w.dec r n hn).2.2 t ht
            exact fwithin_tot w k m t (by omega) ((w.rng r n hn).2.2 t ht)
theorem KT.sz_pos (t : KT) : 0 < t.sz := by cases t <;> simp [KT.sz]
theorem fwithin_sz {s : List KN} {k : Nat} {ρ : Nat → KT} (harr : ∀ (i : Nat) (n : KN), s[i]? = some n → (n.fr = none ↔ n.tk = none)) (hs : Sol s ρ) : ∀ {f i : Nat}, fwithin s f k i = some true → (ρ k).sz ≤ (ρ i).sz
  | 0, i, e => by simp [fwithin] at e
  | f + 1, i, e => by
    unfold fwithin at e
    cases hr : fend s f i with
    | none => rw [hr] at e; cases e
    | some r =>
      rw [hr] at e
      simp only at e
      obtain ⟨_, h2, _⟩ := fend_ok hr
      rw [h2 ρ hs]
      by_cases hk : k = r
      · rw [hk]; exact Nat.le_refl _
      · rw [if_neg hk] at e
        cases hn : s[r]? with
        | none => rw [hn] at e; cases e
        | some n =>
          rw [hn] at e
          simp only at e
          cases hf : n.fr with
          | none => rw [hf] at e; cases e
          | some a =>
            rw [hf] at e
            simp only at e
            cases hw : fwithin s f k a with
            | none => rw [hw] at e; cases e
            | some b =>
              rw [hw] at e
              cases ht : n.tk with
              | none => exact absurd ((harr r n hn).2 ht) (by rw [hf]; simp)
              | some t =>
                have h3 := (hs r n hn).2.2 a t hf ht
                rw [h3, KT.sz]
                cases b with
                | true =>
                  have h4 := fwithin_sz harr hs hw
                  omega
                | false =>
                  simp only at e
                  rw [ht] at e
                  have h4 := fwithin_sz harr hs e
                  omega
/-- k is met on the way down from a kind. -/
inductive Reach (s : List KN) (k : Nat) : Nat → Prop
  | here : Reach s k k
  | lk {i j : Nat} {n : KN} : s[i]? = some n → n.lk = some j → Reach s k j → Reach s k i
  | fr {i j : Nat} {n : KN} : s[i]? = some n → n.fr = some j → Reach s k j → Reach s k i
  | tk {i j : Nat} {n : KN} : s[i]? = some n → n.tk = some j → Reach s k j → Reach s k i
theorem reach_end {s : List KN} {h : Nat → Nat} (w : WF s h) {k : Nat} {nk : KN} (hk : s[k]? = some nk) (hl : nk.lk = none) : ∀ {f i r : Nat}, fend s f i = some r → Reach s k i → Reach s k r
  | 0, i, r, e, _ => by simp [fend] at e
  | f + 1, i, r, e, hr => by
    unfold fend at e
    cases hn : s[i]? with
    | none => rw [hn] at e; cases e
    | some n =>
      rw [hn] at e
      simp only at e
      cases hll : n.lk with
      | none => rw [hll] at e; injection e with e; rw [← e]; exact hr
      | some j =>
        rw [hll] at e
        have hj : Reach s k j := by
          cases hr with
          | here => rw [hk] at hn; injection hn with hn; rw [hn] at hl; rw [hl] at hll; cases hll
          | lk h1 h2 h3 => rw [hn] at h1; injection h1 with h1; rw [← h1] at h2; rw [hll] at h2; injection h2 with h2; rw [h2]; exact h3
          | fr h1 h2 h3 => rw [hn] at h1; injection h1 with h1; rw [← h1] at h2; have := (w.lnk i n hn (by rw [hll]; simp)).2; rw [this] at h2; cases h2
          | tk h1 h2 h3 => rw [hn] at h1; injection h1 with h1; rw [← h1] at h2; have h4 := (w.lnk i n hn (by rw [hll]; simp)).2; have := (w.arr i n hn).1 h4; rw [this] at h2; cases h2
        exact reach_end w hk hl e hj
theorem fwithin_false {s : List KN} {h : Nat → Nat} (w : WF s h) {k : Nat} {nk : KN} (hk : s[k]? = some nk) (hl : nk.lk = none) : ∀ {f i : Nat}, fwithin s f k i = some false → ¬ Reach s k i
  | 0, i, e, _ => by simp [fwithin] at e
  | f + 1, i, e, hr => by
    unfold fwithin at e
    cases hre : fend s f i with
    | none => rw [hre] at e; cases e
    | some r =>
      rw [hre] at e
      simp only at e
      obtain ⟨⟨n, hn, hnl⟩, _, _⟩ := fend_ok hre
      have hrr := reach_end w hk hl hre hr
      by_cases hkr : k = r
      · rw [if_pos hkr] at e; cases e
      · rw [if_neg hkr, hn] at e
        simp only at e
        cases hf : n.fr with
        | none =>
          have ht := (w.arr r n hn).1 hf
          cases hrr with
          | here => exact hkr rfl
          | lk h1 h2 h3 => rw [hn] at h1; injection h1 with h1; rw [← h1, hnl] at h2; cases h2
          | fr h1 h2 h3 => rw [hn] at h1; injection h1 with h1; rw [← h1, hf] at h2; cases h2
          | tk h1 h2 h3 => rw [hn] at h1; injection h1 with h1; rw [← h1, ht] at h2; cases h2
        | some a =>
          rw [hf] at e
          simp only at e
          cases hw : fwithin s f k a with
          | none => rw [hw] at e; cases e
          | some b =>
            rw [hw] at e
            cases b with
            | true => cases e
            | false =>
              simp only at e
              cases ht : n.tk with
              | none => rw [ht] at e; cases e
              | some t =>
                rw [ht] at e
                cases hrr with
                | here => exact hkr rfl
                | lk h1 h2 h3 => rw [hn] at h1; injection h1 with h1; rw [← h1, hnl] at h2; cases h2
                | fr h1 h2 h3 => rw [hn] at h1; injection h1 with h1; rw [← h1, hf] at h2; injection h2 with h2; subst h2; exact fwithin_false w hk hl hw h3
                | tk h1 h2 h3 => rw [hn] at h1; injection h1 with h1; rw [← h1, ht] at h2; injection h2 with h2; subst h2; exact fwithin_false w hk hl e h3
/-- How many kinds are still open. -/
def opn (n : KN) : Bool := n.lk.isNone && !n.bs && n.fr.isNone
def US (s : List KN) : Nat := s.countP opn
theorem countP_set_lt : ∀ (s : List KN) (i : Nat) (x y : KN), s[i]? = some x → opn x = true → opn y = false → (s.set i y).countP opn < s.countP opn
  | [], i, x, y, h, _, _ => by simp at h
  | z :: s, 0, x, y, h, hx, hy => by
    injection h with h
    subst h
    rw [List.set_cons_zero, List.countP_cons, List.countP_cons, if_pos hx, if_neg (by rw [hy]; simp)]
    omega
  | z :: s, i + 1, x, y, h, hx, hy => by
    have := countP_set_lt s i x y h hx hy
    rw [List.set_cons_succ, List.countP_cons, List.countP_cons]
    omega
open Classical in
/-- An open kind is linked to one in which it is not. -/
theorem WF.link {s : List KN} {h : Nat → Nat} (w : WF s h) {p q : Nat} {x : KN} (hp : s[p]? = some x) (hxl : x.lk = none) (hxb : x.bs = false) (hxf : x.fr = none) (hq : q < s.length) (hr : ¬ Reach s p q) :
    (∃ h', WF (setlk s p x q) h') ∧ US (setlk s p x q) < US s ∧ ∀ ρ, Sol (setlk s p x q) ρ ↔ Sol s ρ ∧ ρ p = ρ q := by
  have hpl : p < s.length := (List.getElem?_eq_some_iff.1 hp).1
  have hxt := (w.arr p x hp).1 hxf
  have get : ∀ (i : Nat) (n : KN), (setlk s p x q)[i]? = some n → (i = p ∧ n = { x with lk := some q }) ∨ (i ≠ p ∧ s[i]? = some n) := by
    intro i n hn
    unfold setlk at hn
    rw [List.getElem?_set] at hn
    by_cases hip : p = i
    · rw [if_pos hip, if_pos (by omega)] at hn
      injection hn with hn
      exact .inl ⟨hip.symm, hn.symm⟩
    · rw [if_neg hip] at hn
      exact .inr ⟨fun e => hip e.symm, hn⟩
  have len : (setlk s p x q).length = s.length := by unfold setlk; rw [List.length_set]
  refine ⟨⟨fun i => if Reach s p i then h i + h q + 1 else h i, ?_, ?_, ?_, ?_, ?_⟩, ?_, ?_⟩
  · intro i n hn
    rw [len]
    rcases get i n hn with ⟨rfl, rfl⟩ | ⟨_, hn⟩
    · exact ⟨fun j hj => by injection hj with hj; omega, (w.rng i x hp).2.1, (w.rng i x hp).2.2⟩
    · exact w.rng i n hn
  · intro i n hn
    rcases get i n hn with ⟨rfl, rfl⟩ | ⟨_, hn⟩
    · exact w.arr i x hp
    · exact w.arr i n hn
  · intro i n hn
    rcases get i n hn with ⟨rfl, rfl⟩ | ⟨_, hn⟩
    · exact w.bas i x hp
    · exact w.bas i n hn
  · intro i n hn
    rcases get i n hn with ⟨rfl, rfl⟩ | ⟨_, hn⟩
    · exact fun _ => ⟨hxb, hxf⟩
    · exact w.lnk i n hn
  · have down : ∀ (i j : Nat), h j < h i → (Reach s p j → Reach s p i) → (if Reach s p j then h j + h q + 1 else h j) < (if Reach s p i then h i + h q + 1 else h i) := by
      intro i j hlt himp
      by_cases hj : Reach s p j
      · rw [if_pos hj, if_pos (himp hj)]; omega
      · rw [if_neg hj]
        by_cases hi : Reach s p i
        · rw [if_pos hi]; omega
        · rw [if_neg hi]; exact hlt
    intro i n hn
    rcases get i n hn with ⟨rfl, rfl⟩ | ⟨_, hn⟩
    · refine ⟨fun j hj => ?_, fun j hj => ?_, fun j hj => ?_⟩
      · injection hj with hj
        subst hj
        show (if Reach s i q then h q + h q + 1 else h q) < (if Reach s i i then h i + h q + 1 else h i)
        rw [if_neg hr, if_pos Reach.here]
        omega
      · have : x.fr = some j := hj
        rw [hxf] at this
        cases this
      · have : x.tk = some j := hj
        rw [hxt] at this
        cases this
    · exact ⟨fun j hj => down i j ((w.dec i n hn).1 j hj) (fun r => Reach.lk hn hj r), fun j hj => down i j ((w.dec i n hn).2.1 j hj) (fun r => Reach.fr hn hj r), fun j hj => down i j ((w.dec i n hn).2.2 j hj) (fun r => Reach.tk hn hj r)⟩
  · unfold US setlk
    exact countP_set_lt s p x _ hp (by unfold opn; rw [hxl, hxb, hxf]; rfl) (by unfold opn; rfl)
  · intro ρ
    constructor
    · intro hs
      have hq' : ρ p = ρ q := (hs p { x with lk := some q } (by unfold setlk; rw [List.getElem?_set, if_pos rfl, if_pos hpl])).1 q rfl
      refine ⟨fun i n hn => ?_, hq'⟩
      by_cases hip : i = p
      · subst hip
        rw [hp] at hn
        injection hn with hn
        subst hn
        refine ⟨fun j hj => (by rw [hxl] at hj; cases hj), fun hb => (by rw [hxb] at hb; cases hb), fun a t ha _ => (by rw [hxf] at ha; cases ha)⟩
      · exact hs i n (by unfold setlk; rw [List.getElem?_set, if_neg (fun e => hip e.symm)]; exact hn)
    · rintro ⟨hs, hq'⟩ i n hn
      rcases get i n hn with ⟨rfl, rfl⟩ | ⟨_, hn⟩
      · refine ⟨fun j hj => by injection hj with hj; rw [← hj]; exact hq', fun hb => ?_, fun a t ha _ => ?_⟩
        · have : x.bs = true := hb
          rw [hxb] at this
          cases this
        · have : x.fr = some a := ha
          rw [hxf] at this
          cases this
      · exact hs i n hn
/-- What a join comes to. -/
structure Joined (s : List KN) (h : Nat → Nat) (a b : Nat) (r : Bool) (s' : List KN) : Prop where
  yes : r = true → ∃ h', WF s' h' ∧ ((s' = s ∧ h' = h) ∨ US s' < US s)
  sol : r = true → ∀ ρ, Sol s' ρ ↔ Sol s ρ ∧ ρ a = ρ b
  no : r = false → ∀ ρ, Sol s ρ → ρ a ≠ ρ b
/-- The first kind is open. -/
theorem join_open {s : List KN} {h : Nat → Nat} (w : WF s h) {a b p q : Nat} {f : Nat} (ha : fend s f a = some p) (hb : fend s f b = some q) (hpq : p ≠ q) {x : KN} (hx : s[p]? = some x) (hxb : x.bs = false) (hxf : x.fr = none) :
    ∃ f r s', fjoin f s a b = some (r, s') ∧ Joined s h a b r s' := by
  obtain ⟨⟨x', hx', hxl⟩, sa, _⟩ := fend_ok ha
  rw [hx] at hx'
  injection hx' with hx'
  subst hx'
  obtain ⟨⟨y, hy, hyl⟩, sb, _⟩ := fend_ok hb
  have hql : q < s.length := fend_lt hb
  obtain ⟨bw, hw⟩ := fwithin_tot w p (h q + 2) q (Nat.le_refl _) hql
  have hw' := fwithin_le (Nat.le_max_right f (h q + 2)) hw
  have ha' := fend_le (Nat.le_max_left f (h q + 2)) ha
  have hb' := fend_le (Nat.le_max_left f (h q + 2)) hb
  generalize max f (h q + 2) = F at *
  refine ⟨F + 1, ?_⟩
  have hxl' := hxl
  cases bw with
  | true =>
    refine ⟨false, s, ?_, fun e => (by cases e), fun e => (by cases e), fun _ ρ hs e => ?_⟩
    · unfold fjoin
      rw [ha', hb']
      simp only
      rw [if_neg hpq, hx, hy]
      simp only
      rw [if_pos ⟨hxb, hxf⟩, hw']
    · have e2 : ρ p = ρ q := by rw [← sa ρ hs, ← sb ρ hs]; exact e
      -- q holds p strictly
      cases F with
      | zero => simp [fwithin] at hw'
      | succ F =>
      cases F with
      | zero => simp [fwithin, fend] at hw'
      | succ F =>
        unfold fwithin at hw'
        rw [fend_self F hy hyl] at hw'
        simp only at hw'
        rw [if_neg hpq, hy] at hw'
        simp only at hw'
        cases hf : y.fr with
        | none => rw [hf] at hw'; cases hw'
        | some c =>
          rw [hf] at hw'
          simp only at hw'
          cases ht : y.tk with
          | none => exact absurd ((w.arr q y hy).2 ht) (by rw [hf]; simp)
          | some t =>
            have h3 := (hs q y hy).2.2 c t hf ht
            cases hc : fwithin s (F + 1) p c with
            | none => rw [hc] at hw'; cases hw'
            | some bc =>
              rw [hc] at hw'
              have e3 : (ρ q).sz = (ρ c).sz + (ρ t).sz + 1 := by rw [h3, KT.sz]
              have p1 := (ρ c).sz_pos
              have p2 := (ρ t).sz_pos
              rw [← e2] at e3
              cases bc with
              | true => have := fwithin_sz w.arr hs hc; omega
              | false =>
                simp only at hw'
                rw [ht] at hw'
                have := fwithin_sz w.arr hs hw'
                omega
  | false =>
    have hnr := fwithin_false w hx hxl' hw'
    obtain ⟨⟨h', w'⟩, hU, hS⟩ := w.link hx hxl' hxb hxf hql hnr
    refine ⟨true, setlk s p x q, ?_, fun _ => ⟨h', w', .inr hU⟩, fun _ ρ => ?_, fun e => (by cases e)⟩
    · unfold fjoin
      rw [ha', hb']
      simp only
      rw [if_neg hpq, hx, hy]
      simp only
      rw [if_pos ⟨hxb, hxf⟩, hw']
    · rw [hS ρ]
      constructor
      · rintro ⟨h1, h2⟩
        exact ⟨h1, by rw [sa ρ h1, sb ρ h1]; exact h2⟩
      · rintro ⟨h1, h2⟩
        exact ⟨h1, by rw [← sa ρ h1, ← sb ρ h1]; exact h2⟩
theorem join_main : ∀ (n m : Nat) (s : List KN) (h : Nat → Nat) (a b : Nat), WF s h → a < s.length → b < s.length → US s ≤ n → h a + h b ≤ m → ∃ f r s', fjoin f s a b = some (r, s') ∧ Joined s h a b r s' := by
  intro n
  induction n using Nat.strongRecOn with
  | _ n ihn =>
  intro m
  induction m using Nat.strongRecOn with
  | _ m ihm =>
  intro s h a b w hal hbl hU hm
  obtain ⟨p, hp⟩ := fend_tot w (h a + 1) a (by omega) hal
  obtain ⟨q, hq⟩ := fend_tot w (h b + 1) b (by omega) hbl
  have hp := fend_le (Nat.le_max_left (h a + 1) (h b + 1)) hp
  have hq := fend_le (Nat.le_max_right (h a + 1) (h b + 1)) hq
  generalize max (h a + 1) (h b + 1) = F at *
  obtain ⟨⟨x, hx, hxl⟩, sa, la⟩ := fend_ok hp
  obtain ⟨⟨y, hy, hyl⟩, sb, lb⟩ := fend_ok hq
  have la := la h w
  have lb := lb h w
  have hpl : p < s.length := fend_lt hp
  have hql : q < s.length := fend_lt hq
  by_cases hpq : p = q
  · refine ⟨F + 1, true, s, ?_, fun _ => ⟨h, w, .inl ⟨rfl, rfl⟩⟩, fun _ ρ => ?_, fun e => (by cases e)⟩
    · unfold fjoin
      rw [hp, hq]
      simp only
      rw [if_pos hpq]
    · exact ⟨fun hs => ⟨hs, by rw [sa ρ hs, sb ρ hs, hpq]⟩, fun hs => hs.1⟩
  by_cases c1 : x.bs = false ∧ x.fr = none
  · exact join_open w hp hq hpq hx c1.1 c1.2
  by_cases c2 : y.bs = false ∧ y.fr = none
  · cases F with
    | zero => simp [fend] at hp
    | succ F0 =>
    obtain ⟨f, r, s', hj, J⟩ := join_open w (f := F0 + 1) (a := q) (b := p) (fend_self F0 hy hyl) (fend_self F0 hx hxl) (fun e => hpq e.symm) hy c2.1 c2.2
    have hj := fjoin_le (Nat.le_max_right (F0 + 1) f) hj
    have hp := fend_le (Nat.le_max_left (F0 + 1) f) hp
    have hq := fend_le (Nat.le_max_left (F0 + 1) f) hq
    generalize max (F0 + 1) f = G at *
    refine ⟨G + 1, r, s', ?_, J.yes, fun e ρ => ?_, fun e ρ hs e2 => ?_⟩
    · unfold fjoin
      rw [hp, hq]
      simp only
      rw [if_neg hpq, hx, hy]
      simp only
      rw [if_neg c1, if_pos c2]
      exact hj
    · rw [J.sol e ρ]
      constructor
      · rintro ⟨h1, h2⟩; exact ⟨h1, by rw [sa ρ h1, sb ρ h1]; exact h2.symm⟩
      · rintro ⟨h1, h2⟩; exact ⟨h1, by rw [← sa ρ h1, ← sb ρ h1]; exact h2.symm⟩
    · exact J.no e ρ hs (by rw [← sa ρ hs, ← sb ρ hs]; exact e2.symm)
  by_cases c3 : x.bs = true ∨ y.bs = true
  · refine ⟨F + 1, x.bs && y.bs, s, ?_, fun e => ⟨h, w, .inl ⟨rfl, rfl⟩⟩, fun e ρ => ?_, fun e ρ hs e2 => ?_⟩
    · unfold fjoin
      rw [hp, hq]
      simp only
      rw [if_neg hpq, hx, hy]
      simp only
      rw [if_neg c1, if_neg c2, if_pos c3]
    · rw [Bool.and_eq_true] at e
      exact ⟨fun hs => ⟨hs, by rw [sa ρ hs, sb ρ hs, (hs p x hx).2.1 e.1, (hs q y hy).2.1 e.2]⟩, fun hs => hs.1⟩
    · rw [sa ρ hs, sb ρ hs] at e2
      cases hxb : x.bs with
      | true =>
        cases hyb : y.bs with
        | true => rw [hxb, hyb] at e; cases e
        | false =>
          have hyf : y.fr ≠ none := fun e3 => c2 ⟨hyb, e3⟩
          obtain ⟨c, hc⟩ := Option.ne_none_iff_exists'.1 hyf
          have hyt : y.tk ≠ none := fun e3 => hyf ((w.arr q y hy).2 e3)
          obtain ⟨t, ht⟩ := Option.ne_none_iff_exists'.1 hyt
          rw [(hs p x hx).2.1 hxb, (hs q y hy).2.2 c t hc ht] at e2
          cases e2
      | false =>
        have hyb : y.bs = true := by rcases c3 with c | c; rw [hxb] at c; cases c; exact c
        have hxf : x.fr ≠ none := fun e3 => c1 ⟨hxb, e3⟩
        obtain ⟨c, hc⟩ := Option.ne_none_iff_exists'.1 hxf
        have hxt : x.tk ≠ none := fun e3 => hxf ((w.arr p x hx).2 e3)
        obtain ⟨t, ht⟩ := Option.ne_none_iff_exists'.1 hxt
        rw [(hs q y hy).2.1 hyb, (hs p x hx).2.2 c t hc ht] at e2
        cases e2
  -- two arrows
  have hxb : x.bs = false := by cases e : x.bs; rfl; exact absurd (.inl e) c3
  have hyb : y.bs = false := by cases e : y.bs; rfl; exact absurd (.inr e) c3
  have hxf : x.fr ≠ none := fun e3 => c1 ⟨hxb, e3⟩
  have hyf : y.fr ≠ none := fun e3 => c2 ⟨hyb, e3⟩
  obtain ⟨xf, hxf⟩ := Option.ne_none_iff_exists'.1 hxf
  obtain ⟨yf, hyf⟩ := Option.ne_none_iff_exists'.1 hyf
  obtain ⟨xt, hxt⟩ := Option.ne_none_iff_exists'.1 (show x.tk ≠ none from fun e3 => by rw [(w.arr p x hx).2 e3] at hxf; cases hxf)
  obtain ⟨yt, hyt⟩ := Option.ne_none_iff_exists'.1 (show y.tk ≠ none from fun e3 => by rw [(w.arr q y hy).2 e3] at hyf; cases hyf)
  have dx := w.dec p x hx
  have dy := w.dec q y hy
  have d1 := dx.2.1 xf hxf
  have d2 := dx.2.2 xt hxt
  have d3 := dy.2.1 yf hyf
  have d4 := dy.2.2 yt hyt
  have r1 := (w.rng p x hx).2.1 xf hxf
  have r2 := (w.rng p x hx).2.2 xt hxt
  have r3 := (w.rng q y hy).2.1 yf hyf
  have r4 := (w.rng q y hy).2.2 yt hyt
  have ex : ∀ ρ, Sol s ρ → ρ a = .ar (ρ xf) (ρ xt) := fun ρ hs => (sa ρ hs).trans ((hs p x hx).2.2 xf xt hxf hxt)
  have ey : ∀ ρ, Sol s ρ → ρ b = .ar (ρ yf) (ρ yt) := fun ρ hs => (sb ρ hs).trans ((hs q y hy).2.2 yf yt hyf hyt)
  obtain ⟨f1, rj, s1, hj1, J1⟩ := ihm (h xf + h yf) (by omega) s h xf yf w r1 r3 hU (Nat.le_refl _)
  cases rj with
  | false =>
    have hj1 := fjoin_le (Nat.le_max_right F f1) hj1
    have hp := fend_le (Nat.le_max_left F f1) hp
    have hq := fend_le (Nat.le_max_left F f1) hq
    generalize max F f1 = G at *
    refine ⟨G + 1, false, s1, ?_, fun e => (by cases e), fun e => (by cases e), fun _ ρ hs e => ?_⟩
    · unfold fjoin
      rw [hp, hq]
      simp only
      rw [if_neg hpq, hx, hy]
      simp only
      rw [if_neg c1, if_neg c2, if_neg c3, hxf, hyf]
      simp only
      rw [hj1]
    · rw [ex ρ hs, ey ρ hs] at e
      injection e with e1 e2
      exact J1.no rfl ρ hs e1
  | true =>
    obtain ⟨h1, w1, hU1⟩ := J1.yes rfl
    have hS1 := J1.sol rfl
    have sh := fjoin_shape f1 s xf yf true s1 hj1
    obtain ⟨x1, hx1, _, hxt1⟩ := shape_fr (sh p) hx
    obtain ⟨y1, hy1, _, hyt1⟩ := shape_fr (sh q) hy
    rw [hxt] at hxt1
    rw [hyt] at hyt1
    have len : s1.length = s.length := by
      have g := fun k => congrArg Option.isSome (sh k)
      simp only [Option.isSome_map] at g
      by_cases hlt : s1.length < s.length
      · have := g s1.length
        rw [List.getElem?_eq_none (Nat.le_refl _), List.getElem?_eq_getElem hlt] at this
        cases this
      · by_cases hgt : s.length < s1.length
        · have := g s.length
          rw [List.getElem?_eq_none (Nat.le_refl _), List.getElem?_eq_getElem hgt] at this
          cases this
        · omega
    have second : ∃ f r s', fjoin f s1 xt yt = some (r, s') ∧ Joined s1 h1 xt yt r s' ∧ (US s1 ≤ US s) := by
      rcases hU1 with ⟨e1, e2⟩ | hlt
      · subst e1 e2
        obtain ⟨f, r, s', k1, k2⟩ := ihm (h1 xt + h1 yt) (by omega) s1 h1 xt yt w1 r2 r4 hU (Nat.le_refl _)
        exact ⟨f, r, s', k1, k2, Nat.le_refl _⟩
      · obtain ⟨f, r, s', k1, k2⟩ := ihn (US s1) (by omega) (h1 xt + h1 yt) s1 h1 xt yt w1 (by rw [len]; exact r2) (by rw [len]; exact r4) (Nat.le_refl _) (Nat.le_refl _)
        exact ⟨f, r, s', k1, k2, by omega⟩
    obtain ⟨f2, r, s', hj2, J2, hU2⟩ := second
    have hj1 := fjoin_le (Nat.le_trans (Nat.le_max_left f1 f2) (Nat.le_max_right F (max f1 f2))) hj1
    have hj2 := fjoin_le (Nat.le_trans (Nat.le_max_right f1 f2) (Nat.le_max_right F (max f1 f2))) hj2
    have hp := fend_le (Nat.le_max_left F (max f1 f2)) hp
    have hq := fend_le (Nat.le_max_left F (max f1 f2)) hq
    generalize max F (max f1 f2) = G at *
    refine ⟨G + 1, r, s', ?_, fun e => ?_, fun e ρ => ?_, fun e ρ hs e2 => ?_⟩
    · unfold fjoin
      rw [hp, hq]
      simp only
      rw [if_neg hpq, hx, hy]
      simp only
      rw [if_neg c1, if_neg c2, if_neg c3, hxf, hyf]
      simp only
      rw [hj1]
      simp only
      rw [hx1, hy1]
      simp only
      rw [hxt1, hyt1]
      exact hj2
    · obtain ⟨h2, w2, h3⟩ := J2.yes e
      refine ⟨h2, w2, ?_⟩
      rcases h3 with ⟨e1, e2⟩ | h3
      · rcases hU1 with ⟨e3, e4⟩ | hlt
        · exact .inl ⟨e1.trans e3, e2.trans e4⟩
        · exact .inr (by rw [e1]; exact hlt)
      · exact .inr (by omega)
    · rw [J2.sol e ρ, hS1 ρ]
      constructor
      · rintro ⟨⟨k1, k2⟩, k3⟩
        exact ⟨k1, by rw [ex ρ k1, ey ρ k1, k2, k3]⟩
      · rintro ⟨k1, k2⟩
        rw [ex ρ k1, ey ρ k1] at k2
        injection k2 with k2 k3
        exact ⟨⟨k1, k2⟩, k3⟩
    · rw [ex ρ hs, ey ρ hs] at e2
      injection e2 with e3 e4
      exact J2.no e ρ ((hS1 ρ).2 ⟨hs, e3⟩) e4
/-- A join ends, and tells whether the equations and this one hold together. -/
theorem join_ok {s : List KN} {h : Nat → Nat} (w : WF s h) {a b : Nat} (ha : a < s.length) (hb : b < s.length) : ∃ f r s', fjoin f s a b = some (r, s') ∧ Joined s h a b r s' :=
  join_main (US s) (h a + h b) s h a b w ha hb (Nat.le_refl _) (Nat.le_refl _)
end Go.Proofs.Ytfhgoebgnilfaaa.I
namespace Go.Proofs.Ytfhgoebgnilfaaa.I
open Go.RowKit
set_option linter.unusedVariables false
theorem Sol.agree {s : List KN} {h : Nat → Nat} (w : WF s h) {ρ ρ' : Nat → KT} (e : ∀ i, i < s.length → ρ' i = ρ i) (hs : Sol s ρ) : Sol s ρ' := by
  intro i n hn
  have hi : i < s.length := (List.getElem?_eq_some_iff.1 hn).1
  have hr := w.rng i n hn
  refine ⟨fun j hj => ?_, fun hb => ?_, fun a t ha ht => ?_⟩
  · rw [e i hi, e j (hr.1 j hj)]; exact (hs i n hn).1 j hj
  · rw [e i hi]; exact (hs i n hn).2.1 hb
  · rw [e i hi, e a (hr.2.1 a ha), e t (hr.2.2 t ht)]; exact (hs i n hn).2.2 a t ha ht
theorem get_push {s : List KN} {n m : KN} {i : Nat} (h : (s ++ [n])[i]? = some m) : (i < s.length ∧ s[i]? = some m) ∨ (i = s.length ∧ m = n) := by
  by_cases hi : i < s.length
  · rw [List.getElem?_append_left hi] at h
    exact .inl ⟨hi, h⟩
  · have hl : i < (s ++ [n]).length := (List.getElem?_eq_some_iff.1 h).1
    rw [List.length_append] at hl
    simp only [List.length_cons, List.length_nil] at hl
    have hie : i = s.length := by omega
    subst hie
    rw [List.getElem?_append_right (Nat.le_refl _), Nat.sub_self] at h
    injection h with h
    exact .inr ⟨rfl, h.symm⟩
theorem WF.push {s : List KN} {h : Nat → Nat} (w : WF s h) {n : KN} (hl : n.lk = none) (hf : inS s.length n.fr) (ht : inS s.length n.tk) (ha : n.fr = none ↔ n.tk = none) (hb : n.bs = true → n.fr = none) :
    ∃ h', WF (s ++ [n]) h' := by
  refine ⟨fun i => if i < s.length then h i else ((n.fr.map h).getD 0 + (n.tk.map h).getD 0) + 1, ?_, ?_, ?_, ?_, ?_⟩
  · intro i m hm
    have up : ∀ o, inS s.length o → inS (s ++ [n]).length o := fun o ho j hj => by rw [List.length_append]; have := ho j hj; omega
    rcases get_push hm with ⟨hi, hm⟩ | ⟨hi, rfl⟩
    · have := w.rng i m hm
      exact ⟨up _ this.1, up _ this.2.1, up _ this.2.2⟩
    · exact ⟨fun j hj => (by rw [hl] at hj; cases hj), up _ hf, up _ ht⟩
  · intro i m hm
    rcases get_push hm with ⟨hi, hm⟩ | ⟨hi, rfl⟩
    · exact w.arr i m hm
    · exact ha
  · intro i m hm
    rcases get_push hm with ⟨hi, hm⟩ | ⟨hi, rfl⟩
    · exact w.bas i m hm
    · exact hb
  · intro i m hm
    rcases get_push hm with ⟨hi, hm⟩ | ⟨hi, rfl⟩
    · exact w.lnk i m hm
    · exact fun e => absurd hl e
  · intro i m hm
    rcases get_push hm with ⟨hi, hm⟩ | ⟨hi, rfl⟩
    · have hr := w.rng i m hm
      have hd := w.dec i m hm
      rw [if_pos hi]
      exact ⟨fun j hj => by rw [if_pos (hr.1 j hj)]; exact hd.1 j hj, fun j hj => by rw [if_pos (hr.2.1 j hj)]; exact hd.2.1 j hj, fun j hj => by rw [if_pos (hr.2.2 j hj)]; exact hd.2.2 j hj⟩
    · subst hi
      rw [if_neg (Nat.lt_irrefl _)]
      refine ⟨fun j hj => (by rw [hl] at hj; cases hj), fun j hj => ?_, fun j hj => ?_⟩
      · rw [if_pos (hf j hj), hj]; simp only [Option.map_some, Option.getD_some]; omega
      · rw [if_pos (ht j hj), hj]; simp only [Option.map_some, Option.getD_some]; omega
theorem Sol.push {s : List KN} {n : KN} {ρ : Nat → KT} : Sol (s ++ [n]) ρ ↔ Sol s ρ ∧ ((∀ j, n.lk = some j → ρ s.length = ρ j) ∧ (n.bs = true → ρ s.length = .o) ∧ (∀ a t, n.fr = some a → n.tk = some t → ρ s.length = .ar (ρ a) (ρ t))) := by
  constructor
  · intro hs
    refine ⟨fun i m hm => hs i m ?_, hs s.length n ?_⟩
    · rw [List.getElem?_append_left (List.getElem?_eq_some_iff.1 hm).1]; exact hm
    · rw [List.getElem?_append_right (Nat.le_refl _), Nat.sub_self]; rfl
  · rintro ⟨hs, hn⟩ i m hm
    rcases get_push hm with ⟨hi, hm⟩ | ⟨rfl, rfl⟩
    · exact hs i m hm
    · exact hn
/-- s' is s with more kinds, and C tells what more its solutions are. -/
structure Ext (s s' : List KN) : Prop where
  len : s.length ≤ s'.length
  wf : ∃ h', WF s' h'
  down : ∀ ρ, Sol s' ρ → Sol s ρ
theorem Ext.refl {s : List KN} {h : Nat → Nat} (w : WF s h) : Ext s s := ⟨Nat.le_refl _, ⟨h, w⟩, fun _ hs => hs⟩
theorem Ext.trans {s s1 s2 : List KN} (a : Ext s s1) (b : Ext s1 s2) : Ext s s2 := ⟨Nat.le_trans a.len b.len, b.wf, fun ρ hs => a.down ρ (b.down ρ hs)⟩
/-- A new kind that is an arrow. -/
theorem push_arrow {s : List KN} {h : Nat → Nat} (w : WF s h) {a t : Nat} (ha : a < s.length) (ht : t < s.length) :
    Ext s (s ++ [⟨none, false, some a, some t⟩]) ∧ (∀ ρ, Sol (s ++ [⟨none, false, some a, some t⟩]) ρ ↔ Sol s ρ ∧ ρ s.length = .ar (ρ a) (ρ t)) := by
  refine ⟨⟨by rw [List.length_append]; omega, w.push (n := ⟨none, false, some a, some t⟩) rfl (fun j hj => by injection hj with hj; omega) (fun j hj => by injection hj with hj; omega) ⟨fun e => (by cases e), fun e => (by cases e)⟩ (fun e => (by cases e)), fun ρ hs => (Sol.push.1 hs).1⟩, fun ρ => ?_⟩
  rw [Sol.push]
  constructor
  · rintro ⟨h1, h2⟩; exact ⟨h1, h2.2.2 a t rfl rfl⟩
  · rintro ⟨h1, h2⟩
    exact ⟨h1, fun j hj => (by cases hj), fun e => (by cases e), fun a' t' e1 e2 => by injection e1 with e1; injection e2 with e2; subst e1 e2; exact h2⟩
/-- A new open kind. -/
theorem push_bare {s : List KN} {h : Nat → Nat} (w : WF s h) : Ext s (s ++ [kbare]) ∧ (∀ ρ, Sol (s ++ [kbare]) ρ ↔ Sol s ρ) := by
  refine ⟨⟨by rw [List.length_append]; omega, w.push (n := kbare) rfl (fun j hj => (by cases hj)) (fun j hj => (by cases hj)) ⟨fun _ => rfl, fun _ => rfl⟩ (fun e => (by cases e)), fun ρ hs => (Sol.push.1 hs).1⟩, fun ρ => ?_⟩
  rw [Sol.push]
  exact ⟨fun e => e.1, fun e => ⟨e, fun j hj => (by cases hj), fun e => (by cases e), fun a t e1 _ => (by cases e1)⟩⟩
/-- An arrow from some sorts, in order, to another one. -/
def ars : List KT → KT → KT
  | [], t => t
  | a :: l, t => .ar a (ars l t)
theorem ars_snoc (l : List KT) (a t : KT) : ars (l ++ [a]) t = ars l (.ar a t) := by
  induction l with
  | nil => rfl
  | cons b l ih => rw [List.cons_append, ars, ars, ih]
/-- ρ, with one place told anew. -/
def upd (ρ : Nat → KT) (i : Nat) (t : KT) : Nat → KT := fun j => if j = i then t else ρ j
theorem farrowR_ok : ∀ (ps : List Nat) {s : List KN} {h : Nat → Nat} {k : Nat}, WF s h → k < s.length → (∀ p, p ∈ ps → p < s.length) →
    Ext s (farrowR s k ps).2 ∧ (farrowR s k ps).1 < (farrowR s k ps).2.length ∧ (∀ ρ, Sol (farrowR s k ps).2 ρ → ρ (farrowR s k ps).1 = ars (ps.reverse.map ρ) (ρ k)) ∧ (∀ ρ, Sol s ρ → ∃ ρ', (∀ i, i < s.length → ρ' i = ρ i) ∧ Sol (farrowR s k ps).2 ρ')
  | [], s, h, k, w, hk, hp => ⟨Ext.refl w, hk, fun ρ _ => rfl, fun ρ hs => ⟨ρ, fun _ _ => rfl, hs⟩⟩
  | p :: ps, s, h, k, w, hk, hp => by
    have hpl := hp p List.mem_cons_self
    obtain ⟨x1, hS⟩ := push_arrow w hpl hk
    obtain ⟨h1, w1⟩ := x1.wf
    have len1 : (s ++ [(⟨none, false, some p, some k⟩ : KN)]).length = s.length + 1 := by rw [List.length_append]; rfl
    obtain ⟨x2, hk2, hA, hE⟩ := farrowR_ok ps (s := s ++ [⟨none, false, some p, some k⟩]) (k := s.length) w1 (by rw [len1]; omega) (fun q hq => by rw [len1]; have := hp q (List.mem_cons_of_mem _ hq); omega)
    refine ⟨x1.trans x2, hk2, fun ρ hs => ?_, fun ρ hs => ?_⟩
    · show ρ (farrowR (s ++ [⟨none, false, some p, some k⟩]) s.length ps).1 = _
      rw [hA ρ hs, ((hS ρ).1 (x2.down ρ hs)).2, List.reverse_cons, List.map_append, List.map_cons, List.map_nil, ars_snoc]
    · have hs1 : Sol (s ++ [⟨none, false, some p, some k⟩]) (upd ρ s.length (.ar (ρ p) (ρ k))) := by
        rw [hS]
        refine ⟨Sol.agree w (fun i hi => by unfold upd; rw [if_neg (by omega)]) hs, ?_⟩
        unfold upd
        rw [if_pos rfl, if_neg (by omega), if_neg (by omega)]
      obtain ⟨ρ', he, hs'⟩ := hE _ hs1
      exact ⟨ρ', fun i hi => (he i (by rw [len1]; omega)).trans (by unfold upd; rw [if_neg (by omega)]), hs'⟩
theorem farrow_ok (ps : List Nat) {s : List KN} {h : Nat → Nat} {k : Nat} (w : WF s h) (hk : k < s.length) (hp : ∀ p, p ∈ ps → p < s.length) :
    Ext s (farrow s k ps).2 ∧ (farrow s k ps).1 < (farrow s k ps).2.length ∧ (∀ ρ, Sol (farrow s k ps).2 ρ → ρ (farrow s k ps).1 = ars (ps.map ρ) (ρ k)) ∧ (∀ ρ, Sol s ρ → ∃ ρ', (∀ i, i < s.length → ρ' i = ρ i) ∧ Sol (farrow s k ps).2 ρ') := by
  have h := farrowR_ok ps.reverse w hk (fun p hpr => hp p (List.mem_reverse.1 hpr))
  rw [List.reverse_reverse] at h
  exact h
mutual
/-- A term has a sort, the heads having these. -/
def Ty (hd : Int → Int → Option KT) : S44 → KT → Prop
  | ⟨k, n, l⟩, t => ∃ t0, hd k n = some t0 ∧ TyL hd t0 l t
def TyL (hd : Int → Int → Option KT) (t0 : KT) : List S44 → KT → Prop
  | [], t => t = t0
  | x :: xs, t => ∃ a b, t0 = .ar a b ∧ Ty hd x a ∧ TyL hd b xs t
end
/-- The sorts of the heads. -/
def hdE (E : FE) (ρ : Nat → KT) (kd n : Int) : Option KT :=
  if n < 0 then none
  else if kd = 0 then (E.params[n.toNat]?).map ρ
  else if kd = 1 then (E.funs[n.toNat]?).map ρ
  else (E.syms[n.toNat]?).map (fun x => ars (List.replicate x.f1.toNat .o) .o)
structure FEok (E : FE) (s : List KN) : Prop where
  o0 : E.o = 0
  pos : 0 < s.length
  zero : ∀ ρ, Sol s ρ → ρ 0 = .o
  funs : ∀ p, p ∈ E.funs → p < s.length
  params : ∀ p, p ∈ E.params → p < s.length
theorem FEok.ext {E : FE} {s s' : List KN} (e : FEok E s) (x : Ext s s') : FEok E s' :=
  ⟨e.o0, Nat.lt_of_lt_of_le e.pos x.len, fun ρ hs => e.zero ρ (x.down ρ hs), fun p hp => Nat.lt_of_lt_of_le (e.funs p hp) x.len, fun p hp => Nat.lt_of_lt_of_le (e.params p hp) x.len⟩
theorem hdE_agree {E : FE} {s : List KN} (e : FEok E s) {ρ ρ' : Nat → KT} (h : ∀ i, i < s.length → ρ' i = ρ i) : hdE E ρ' = hdE E ρ := by
  funext kd n
  unfold hdE
  by_cases h0 : n < 0
  · rw [if_pos h0, if_pos h0]
  · rw [if_neg h0, if_neg h0]
    by_cases h1 : kd = 0
    · rw [if_pos h1, if_pos h1]
      cases hp : E.params[n.toNat]? with
      | none => rfl
      | some p => simp only [Option.map_some]; rw [h p (e.params p (List.mem_of_getElem? hp))]
    · rw [if_neg h1, if_neg h1]
      by_cases h2 : kd = 1
      · rw [if_pos h2, if_pos h2]
        cases hp : E.funs[n.toNat]? with
        | none => rfl
        | some p => simp only [Option.map_some]; rw [h p (e.funs p (List.mem_of_getElem? hp))]
      · rw [if_neg h2, if_neg h2]
theorem map_replicate_rho {ρ : Nat → KT} {t : KT} {o : Nat} (h : ρ o = t) (m : Nat) : (List.replicate m o).map ρ = List.replicate m t := by rw [List.map_replicate, h]
/-- A head that is known. -/
theorem head_ok {E : FE} {s : List KN} {h : Nat → Nat} (w : WF s h) (e : FEok E s) {kd n : Int} (hn : 0 ≤ n) (hk : (kd = 0 ∧ n < E.params.length) ∨ (kd = 1 ∧ n < E.funs.length) ∨ (kd = 2 ∧ n < E.syms.length)) :
    ∃ k s', fhead E s kd n = some (k, s') ∧ k < s'.length ∧ Ext s s' ∧ (∀ ρ, Sol s' ρ → hdE E ρ kd n = some (ρ k)) ∧ (∀ ρ, Sol s ρ → ∃ ρ', (∀ i, i < s.length → ρ' i = ρ i) ∧ Sol s' ρ') := by
  unfold fhead hdE
  rw [if_neg (by omega)]
  rcases hk with ⟨rfl, hl⟩ | ⟨rfl, hl⟩ | ⟨rfl, hl⟩
  · have hlt : n.toNat < E.params.length := by omega
    have hg := List.getElem?_eq_getElem hlt
    rw [if_pos rfl, hg]
    exact ⟨_, s, rfl, e.params _ (List.getElem_mem hlt), Ext.refl w, fun ρ _ => by rw [if_neg (by omega), if_pos rfl]; rfl, fun ρ hs => ⟨ρ, fun _ _ => rfl, hs⟩⟩
  · have hlt : n.toNat < E.funs.length := by omega
    have hg := List.getElem?_eq_getElem hlt
    rw [if_neg (by decide), if_pos rfl, hg]
    exact ⟨_, s, rfl, e.funs _ (List.getElem_mem hlt), Ext.refl w, fun ρ _ => by rw [if_neg (by omega), if_neg (by decide), if_pos rfl]; rfl, fun ρ hs => ⟨ρ, fun _ _ => rfl, hs⟩⟩
  · have hlt : n.toNat < E.syms.length := by omega
    have hg := List.getElem?_eq_getElem hlt
    rw [if_neg (by decide), if_neg (by decide), hg]
    generalize E.syms[n.toNat] = x at *
    obtain ⟨x1, hk1, hA, hE⟩ := farrow_ok (List.replicate x.f1.toNat E.o) w (k := E.o) (by rw [e.o0]; exact e.pos) (fun p hp => by rw [(List.mem_replicate.1 hp).2, e.o0]; exact e.pos)
    refine ⟨(farrow s E.o (List.replicate x.f1.toNat E.o)).1, (farrow s E.o (List.replicate x.f1.toNat E.o)).2, rfl, hk1, x1, fun ρ hs => ?_, hE⟩
    rw [if_neg (by omega), if_neg (by decide), if_neg (by decide)]
    simp only [Option.map_some]
    have hz : ρ E.o = .o := by rw [e.o0]; exact e.zero ρ (x1.down ρ hs)
    rw [hA ρ hs, map_replicate_rho hz, hz]
/-- What finder.term comes to: the solutions are those at which the term has the sort of its kind; or there are none. -/
structure Termed (E : FE) (s : List KN) (P : (Nat → KT) → KT → Prop) (r : Option Nat) (s' : List KN) : Prop where
  yes : ∀ k, r = some k → k < s'.length ∧ Ext s s' ∧ (∀ ρ, Sol s' ρ → P ρ (ρ k)) ∧ (∀ ρ t, Sol s ρ → P ρ t → ∃ ρ', (∀ i, i < s.length → ρ' i = ρ i) ∧ Sol s' ρ' ∧ ρ' k = t)
  no : r = none → ∀ ρ t, Sol s ρ → ¬ P ρ t
theorem fterm_le {E : FE} {s : List KN} {kd n : Int} {l : List S44} {r : Option Nat × List KN} {f f' : Nat} (hf : f ≤ f') (h : fterm E f s kd n l = some r) : fterm E f' s kd n l = some r := by
  induction hf with
  | refl => exact h
  | step _ ih => exact (fterm_s E _).1 _ _ _ _ _ ih
theorem ftermL_le {E : FE} {s : List KN} {k : Nat} {l : List S44} {r : Option Nat × List KN} {f f' : Nat} (hf : f ≤ f') (h : ftermL E f s k l = some r) : ftermL E f' s k l = some r := by
  induction hf with
  | refl => exact h
  | step _ ih => exact (fterm_s E _).2 _ _ _ _ ih
mutual
theorem term_ok {E : FE} : ∀ (x : S44) {s : List KN} {h : Nat → Nat}, WF s h → FEok E s → knownS x E.params.length E.funs.length E.syms.length = true →
    ∃ f r s', fterm E f s x.f0 x.f1 x.f2 = some (r, s') ∧ Termed E s (fun ρ t => Ty (hdE E ρ) x t) r s'
  | ⟨kd, n, l⟩, s, h, w, e, hk => by
    unfold knownS at hk
    simp only [Bool.and_eq_true, decide_eq_true_eq] at hk
    obtain ⟨⟨hkd, hn, hlt⟩, hkl⟩ := hk
    have hcase : (kd = 0 ∧ n < E.params.length) ∨ (kd = 1 ∧ n < E.funs.length) ∨ (kd = 2 ∧ n < E.syms.length) := by
      unfold isK at hkd
      unfold manyK at hlt
      grind
    obtain ⟨k, s1, hh, hk1, x1, hd, up⟩ := head_ok w e hn hcase
    obtain ⟨h1, w1⟩ := x1.wf
    obtain ⟨f, r, s', hf, T⟩ := termL_ok l w1 (e.ext x1) hk1 hkl
    refine ⟨f + 1, r, s', ?_, ?_, ?_⟩
    · show fterm E (f + 1) s kd n l = _
      unfold fterm
      rw [hh]
      exact hf
    · intro q hq
      obtain ⟨a1, a2, a3, a4⟩ := T.yes q hq
      refine ⟨a1, x1.trans a2, fun ρ hs => ?_, fun ρ t hs ht => ?_⟩
      · unfold Ty
        exact ⟨ρ k, hd ρ (a2.down ρ hs), a3 ρ hs⟩
      · unfold Ty at ht
        obtain ⟨t0, ht0, ht⟩ := ht
        obtain ⟨ρ1, ag, hs1⟩ := up ρ hs
        have e1 := hdE_agree e ag
        have e2 := hd ρ1 hs1
        rw [e1, ht0] at e2
        injection e2 with e2
        obtain ⟨ρ2, ag2, hs2, hq2⟩ := a4 ρ1 t hs1 (by rw [e1, ← e2]; exact ht)
        exact ⟨ρ2, fun i hi => (ag2 i (Nat.lt_of_lt_of_le hi x1.len)).trans (ag i hi), hs2, hq2⟩
    · intro hr ρ t hs ht
      unfold Ty at ht
      obtain ⟨t0, ht0, ht⟩ := ht
      obtain ⟨ρ1, ag, hs1⟩ := up ρ hs
      have e1 := hdE_agree e ag
      have e2 := hd ρ1 hs1
      rw [e1, ht0] at e2
      injection e2 with e2
      exact T.no hr ρ1 t hs1 (by rw [e1, ← e2]; exact ht)
theorem termL_ok {E : FE} : ∀ (l : List S44) {s : List KN} {h : Nat → Nat} {k : Nat}, WF s h → FEok E s → k < s.length → knownL l E.params.length E.funs.length E.syms.length = true →
    ∃ f r s', ftermL E f s k l = some (r, s') ∧ Termed E s (fun ρ t => TyL (hdE E ρ) (ρ k) l t) r s'
  | [], s, h, k, w, e, hk, _ => by
    refine ⟨1, some k, s, rfl, fun q hq => ?_, fun e => (by cases e)⟩
    injection hq with hq
    subst hq
    exact ⟨hk, Ext.refl w, fun ρ hs => rfl, fun ρ t hs ht => ⟨ρ, fun _ _ => rfl, hs, ht.symm⟩⟩
  | x :: xs, s, h, k, w, e, hk, hkn => by
    unfold knownL at hkn
    rw [Bool.and_eq_true] at hkn
    obtain ⟨f1, r1, s1, hf1, T1⟩ := term_ok x w e hkn.1
    cases r1 with
    | none =>
      refine ⟨f1 + 1, none, s1, ?_, fun q hq => (by cases hq), fun _ ρ t hs ht => ?_⟩
      · unfold ftermL
        rw [hf1]
      · unfold TyL at ht
        obtain ⟨a, b, _, ha, _⟩ := ht
        exact T1.no rfl ρ a hs ha
    | some xk =>
      obtain ⟨hxk, x1, down1, up1⟩ := T1.yes xk rfl
      obtain ⟨h1, w1⟩ := x1.wf
      obtain ⟨x2, hS2⟩ := push_bare w1
      obtain ⟨h2, w2⟩ := x2.wf
      have len2 : (s1 ++ [kbare]).length = s1.length + 1 := by rw [List.length_append]; rfl
      obtain ⟨x3, hS3⟩ := push_arrow w2 (a := xk) (t := s1.length) (by rw [len2]; omega) (by rw [len2]; omega)
      obtain ⟨h3, w3⟩ := x3.wf
      have len3 : (s1 ++ [kbare] ++ [(⟨none, false, some xk, some s1.length⟩ : KN)]).length = s1.length + 2 := by rw [List.length_append, len2]; rfl
      have hks1 : k < s1.length := Nat.lt_of_lt_of_le hk x1.len
      obtain ⟨fj, rj, sj, hj, J⟩ := join_ok w3 (a := k) (b := s1.length + 1) (by rw [len3]; omega) (by rw [len3]; omega)
      have x03 := x1.trans (x2.trans x3)
      -- the equations behind the new kinds
      have eqs : ∀ ρ, Sol (s1 ++ [kbare] ++ [⟨none, false, some xk, some s1.length⟩]) ρ ↔ Sol s1 ρ ∧ ρ (s1.length + 1) = .ar (ρ xk) (ρ s1.length) := by
        intro ρ
        rw [hS3, hS2, len2]
      cases rj with
      | false =>
        have hj := fjoin_le (Nat.le_max_right f1 fj) hj
        have hf1 := fterm_le (Nat.le_max_left f1 fj) hf1
        refine ⟨max f1 fj + 1, none, sj, ?_, fun q hq => (by cases hq), fun _ ρ t hs ht => ?_⟩
        · unfold ftermL
          rw [hf1]
          simp only
          have hj' : fjoin (max f1 fj) (s1 ++ [⟨none, false, none, none⟩] ++ [⟨none, false, some xk, some s1.length⟩]) k (s1.length + 1) = some (false, sj) := hj
          rw [hj']
        · unfold TyL at ht
          obtain ⟨a, b, hab, ha, _⟩ := ht
          obtain ⟨ρ1, ag1, hs1, hx1⟩ := up1 ρ a hs ha
          have ag : ∀ i, i < s1.length → upd (upd ρ1 s1.length b) (s1.length + 1) (.ar a b) i = ρ1 i := fun i hi => by unfold upd; rw [if_neg (by omega), if_neg (by omega)]
          refine J.no rfl (upd (upd ρ1 s1.length b) (s1.length + 1) (.ar a b)) ((eqs _).2 ⟨Sol.agree w1 ag hs1, ?_⟩) ?_
          · rw [ag xk hxk, hx1]
            unfold upd
            rw [if_pos rfl, if_neg (by omega), if_pos rfl]
          · rw [ag k hks1, ag1 k hk, hab]
            unfold upd
            rw [if_pos rfl]
      | true =>
        obtain ⟨h4, w4, _⟩ := J.yes rfl
        have hS4 := J.sol rfl
        have lenj : sj.length = s1.length + 2 := by
          have sh := fjoin_shape fj _ k (s1.length + 1) true sj hj
          have g := fun q => congrArg Option.isSome (sh q)
          simp only [Option.isSome_map] at g
          rw [← len3]
          generalize s1 ++ [kbare] ++ [(⟨none, false, some xk, some s1.length⟩ : KN)] = z at *
          by_cases hlt : sj.length < z.length
          · have := g sj.length
            rw [List.getElem?_eq_none (Nat.le_refl _), List.getElem?_eq_getElem hlt] at this
            cases this
          · by_cases hgt : z.length < sj.length
            · have := g z.length
              rw [List.getElem?_eq_none (Nat.le_refl _), List.getElem?_eq_getElem hgt] at this
              cases this
            · omega
        have x4 : Ext s sj := ⟨by rw [lenj]; have := x1.len; omega, ⟨h4, w4⟩, fun ρ hs => x03.down ρ ((hS4 ρ).1 hs).1⟩
        obtain ⟨f2, r, s', hf2, T2⟩ := termL_ok xs (k := s1.length) w4 (e.ext x4) (by rw [lenj]; omega) hkn.2
        have hm1 : f1 ≤ max f1 (max fj f2) := Nat.le_max_left _ _
        have hm2 : fj ≤ max f1 (max fj f2) := Nat.le_trans (Nat.le_max_left _ _) (Nat.le_max_right _ _)
        have hm3 : f2 ≤ max f1 (max fj f2) := Nat.le_trans (Nat.le_max_right _ _) (Nat.le_max_right _ _)
        have hf1 := fterm_le hm1 hf1
        have hj := fjoin_le hm2 hj
        have hf2 := ftermL_le hm3 hf2
        generalize max f1 (max fj f2) = F at *
        refine ⟨F + 1, r, s', ?_, fun q hq => ?_, fun hr ρ t hs ht => ?_⟩
        · unfold ftermL
          rw [hf1]
          simp only
          have hj' : fjoin F (s1 ++ [⟨none, false, none, none⟩] ++ [⟨none, false, some xk, some s1.length⟩]) k (s1.length + 1) = some (true, sj) := hj
          rw [hj']
          exact hf2
        · obtain ⟨a1, a2, a3, a4⟩ := T2.yes q hq
          refine ⟨a1, x4.trans a2, fun ρ hs => ?_, fun ρ t hs ht => ?_⟩
          · have hsj := a2.down ρ hs
            obtain ⟨b1, b2⟩ := (hS4 ρ).1 hsj
            obtain ⟨c1, c2⟩ := (eqs ρ).1 b1
            unfold TyL
            exact ⟨ρ xk, ρ s1.length, by rw [b2, c2], down1 ρ c1, a3 ρ hs⟩
          · unfold TyL at ht
            obtain ⟨a, b, hab, ha, hb⟩ := ht
            obtain ⟨ρ1, ag1, hs1, hx1⟩ := up1 ρ a hs ha
            have ag : ∀ i, i < s1.length → upd (upd ρ1 s1.length b) (s1.length + 1) (.ar a b) i = ρ1 i := fun i hi => by unfold upd; rw [if_neg (by omega), if_neg (by omega)]
            have agS : ∀ i, i < s.length → upd (upd ρ1 s1.length b) (s1.length + 1) (.ar a b) i = ρ i := fun i hi => (ag i (Nat.lt_of_lt_of_le hi x1.len)).trans (ag1 i hi)
            have hsj : Sol sj (upd (upd ρ1 s1.length b) (s1.length + 1) (.ar a b)) := by
              rw [hS4, eqs]
              refine ⟨⟨Sol.agree w1 ag hs1, ?_⟩, ?_⟩
              · rw [ag xk hxk, hx1]
                unfold upd
                rw [if_pos rfl, if_neg (by omega), if_pos rfl]
              · rw [ag k hks1, ag1 k hk, hab]
                unfold upd
                rw [if_pos rfl]
            have hbv : upd (upd ρ1 s1.length b) (s1.length + 1) (.ar a b) s1.length = b := by unfold upd; rw [if_neg (by omega), if_pos rfl]
            obtain ⟨ρ2, ag2, hs2, hq2⟩ := a4 _ t hsj (by rw [hdE_agree e agS, hbv]; exact hb)
            exact ⟨ρ2, fun i hi => (ag2 i (Nat.lt_of_lt_of_le hi x4.len)).trans (agS i hi), hs2, hq2⟩
        · unfold TyL at ht
          obtain ⟨a, b, hab, ha, hb⟩ := ht
          obtain ⟨ρ1, ag1, hs1, hx1⟩ := up1 ρ a hs ha
          have ag : ∀ i, i < s1.length → upd (upd ρ1 s1.length b) (s1.length + 1) (.ar a b) i = ρ1 i := fun i hi => by unfold upd; rw [if_neg (by omega), if_neg (by omega)]
          have agS : ∀ i, i < s.length → upd (upd ρ1 s1.length b) (s1.length + 1) (.ar a b) i = ρ i := fun i hi => (ag i (Nat.lt_of_lt_of_le hi x1.len)).trans (ag1 i hi)
          have hsj : Sol sj (upd (upd ρ1 s1.length b) (s1.length + 1) (.ar a b)) := by
            rw [hS4, eqs]
            refine ⟨⟨Sol.agree w1 ag hs1, ?_⟩, ?_⟩
            · rw [ag xk hxk, hx1]
              unfold upd
              rw [if_pos rfl, if_neg (by omega), if_pos rfl]
            · rw [ag k hks1, ag1 k hk, hab]
              unfold upd
              rw [if_pos rfl]
          have hbv : upd (upd ρ1 s1.length b) (s1.length + 1) (.ar a b) s1.length = b := by unfold upd; rw [if_neg (by omega), if_pos rfl]
          exact T2.no hr _ t hsj (by rw [hdE_agree e agS, hbv]; exact hb)
end
end Go.Proofs.Ytfhgoebgnilfaaa.I
namespace Go.Proofs.Ytfhgoebgnilfaaa.I
open Go.RowKit
set_option linter.unusedVariables false
/-- One sort is another one, with o in the place of some parts. -/
def KT.le : KT → KT → Prop
  | .o, _ => True
  | .ar a b, .ar c d => a.le c ∧ b.le d
  | .ar _ _, .o => False
theorem KT.le_refl : ∀ t : KT, t.le t
  | .o => trivial
  | .ar a b => ⟨a.le_refl, b.le_refl⟩
/-- The reading of a store. -/
def rdF (s : List KN) : Nat → Nat → KT
  | 0, _ => .o
  | f + 1, i => match s[i]? with
    | none => .o
    | some n => match n.lk with
      | some j => rdF s f j
      | none => match n.fr with
        | none => .o
        | some a => match n.tk with
          | none => .o
          | some t => .ar (rdF s f a) (rdF s f t)
theorem rdF_stable {s : List KN} {h : Nat → Nat} (w : WF s h) : ∀ (f f' i : Nat), h i < f → h i < f' → rdF s f i = rdF s f' i
  | 0, f', i, h1, h2 => absurd h1 (by omega)
  | f + 1, 0, i, h1, h2 => absurd h2 (by omega)
  | f + 1, f' + 1, i, h1, h2 => by
    unfold rdF
    cases hn : s[i]? with
    | none => rfl
    | some n =>
      simp only
      have hd := w.dec i n hn
      cases hl : n.lk with
      | some j =>
        have := hd.1 j hl
        exact rdF_stable w f f' j (by omega) (by omega)
      | none =>
        simp only
        cases hf : n.fr with
        | none => rfl
        | some a =>
          simp only
          cases ht : n.tk with
          | none => rfl
          | some t =>
            have h3 := hd.2.1 a hf
            have h4 := hd.2.2 t ht
            simp only
            rw [rdF_stable w f f' a (by omega) (by omega), rdF_stable w f f' t (by omega) (by omega)]
/-- The least solution. -/
def rho (s : List KN) (h : Nat → Nat) (i : Nat) : KT := rdF s (h i + 1) i
theorem rho_eq {s : List KN} {h : Nat → Nat} (w : WF s h) {f i : Nat} (hf : h i < f) : rdF s f i = rho s h i := rdF_stable w _ _ i hf (by omega)
theorem rho_sol {s : List KN} {h : Nat → Nat} (w : WF s h) : Sol s (rho s h) := by
  intro i n hn
  have hd := w.dec i n hn
  have e : rho s h i = match n.lk with
      | some j => rdF s (h i) j
      | none => match n.fr with
        | none => .o
        | some a => match n.tk with
          | none => .o
          | some t => .ar (rdF s (h i) a) (rdF s (h i) t) := by
    unfold rho
    rw [rdF, hn]
  refine ⟨fun j hj => ?_, fun hb => ?_, fun a t ha ht => ?_⟩
  · rw [e, hj]
    exact rho_eq w (hd.1 j hj)
  · rw [e]
    cases hl : n.lk with
    | some j =>
      have := (w.lnk i n hn (by rw [hl]; simp)).1
      rw [hb] at this
      cases this
    | none => simp only; rw [w.bas i n hn hb]
  · rw [e]
    cases hl : n.lk with
    | some j =>
      have := (w.lnk i n hn (by rw [hl]; simp)).2
      rw [ha] at this
      cases this
    | none =>
      simp only
      rw [ha, ht]
      simp only
      rw [rho_eq w (hd.2.1 a ha), rho_eq w (hd.2.2 t ht)]
theorem rdF_least {s : List KN} {ρ : Nat → KT} (hs : Sol s ρ) : ∀ (f i : Nat), (rdF s f i).le (ρ i)
  | 0, i => trivial
  | f + 1, i => by
    unfold rdF
    cases hn : s[i]? with
    | none => exact trivial
    | some n =>
      simp only
      cases hl : n.lk with
      | some j => rw [(hs i n hn).1 j hl]; exact rdF_least hs f j
      | none =>
        simp only
        cases hf : n.fr with
        | none => exact trivial
        | some a =>
          simp only
          cases ht : n.tk with
          | none => exact trivial
          | some t =>
            rw [(hs i n hn).2.2 a t hf ht]
            exact ⟨rdF_least hs f a, rdF_least hs f t⟩
theorem rho_least {s : List KN} {h : Nat → Nat} {ρ : Nat → KT} (hs : Sol s ρ) (i : Nat) : (rho s h i).le (ρ i) := rdF_least hs _ i
/-- Some open kinds more. -/
theorem push_bares (m : Nat) {s : List KN} {h : Nat → Nat} (w : WF s h) : Ext s (s ++ List.replicate m kbare) ∧ (∀ ρ, Sol (s ++ List.replicate m kbare) ρ ↔ Sol s ρ) := by
  induction m with
  | zero => rw [List.replicate_zero, List.append_nil]; exact ⟨Ext.refl w, fun _ => Iff.rfl⟩
  | succ m ih =>
    obtain ⟨x1, hS1⟩ := ih
    obtain ⟨h1, w1⟩ := x1.wf
    obtain ⟨x2, hS2⟩ := push_bare w1
    have e : s ++ List.replicate (m + 1) kbare = s ++ List.replicate m kbare ++ [kbare] := by rw [List.replicate_succ', List.append_assoc]
    rw [e]
    exact ⟨x1.trans x2, fun ρ => by rw [hS2, hS1]⟩
/-- What the heads come to. -/
structure Headed (s : List KN) (l : List S48) (pss : List (List Nat)) (ks : List Nat) (s' : List KN) : Prop where
  ext : Ext s s'
  lp : ∀ ps, ps ∈ pss → ∀ p, p ∈ ps → p < s'.length
  lk : ∀ k, k ∈ ks → k < s'.length
  many : pss.map List.length = l.map (fun x => x.f1.toNat)
  down : ∀ ρ, Sol s' ρ → ks.map ρ = pss.map (fun ps => ars (ps.map ρ) .o)
  up : ∀ ρ (As : List (List KT)), As.map List.length = l.map (fun x => x.f1.toNat) → Sol s ρ → ∃ ρ', (∀ i, i < s.length → ρ' i = ρ i) ∧ Sol s' ρ' ∧ pss.map (fun ps => ps.map ρ') = As
theorem heads_ok : ∀ (l : List S48) {s : List KN} {h : Nat → Nat}, WF s h → 0 < s.length → (∀ ρ, Sol s ρ → ρ 0 = .o) → Headed s l (fheads s l).1.1 (fheads s l).1.2 (fheads s l).2
  | [], s, h, w, hp, hz => ⟨Ext.refl w, (fun ps hp => by cases hp), (fun k hk => by cases hk), rfl, fun _ _ => rfl, fun ρ As hA hs => ⟨ρ, fun _ _ => rfl, hs, by
      cases As with
      | nil => rfl
      | cons a As => cases hA⟩⟩
  | x :: xs, s, h, w, hp, hz => by
    obtain ⟨x1, hS1⟩ := push_bares x.f1.toNat w
    obtain ⟨h1, w1⟩ := x1.wf
    have len1 : (s ++ List.replicate x.f1.toNat kbare).length = s.length + x.f1.toNat := by rw [List.length_append, List.length_replicate]
    have hr : ∀ p, p ∈ List.range' s.length x.f1.toNat → s.length ≤ p ∧ p < s.length + x.f1.toNat := fun p hp => by
      have := List.mem_range'_1.1 hp
      omega
    obtain ⟨x2, hk2, hA2, hE2⟩ := farrow_ok (List.range' s.length x.f1.toNat) w1 (k := 0) (by rw [len1]; omega) (fun p hp => by rw [len1]; exact (hr p hp).2)
    obtain ⟨h2, w2⟩ := x2.wf
    have hz2 : ∀ ρ, Sol (farrow (s ++ List.replicate x.f1.toNat kbare) 0 (List.range' s.length x.f1.toNat)).2 ρ → ρ 0 = .o := fun ρ hs => hz ρ ((hS1 ρ).1 (x2.down ρ hs))
    have I := heads_ok xs w2 (Nat.lt_of_lt_of_le (Nat.lt_of_lt_of_le hp x1.len) x2.len) hz2
    show Headed s (x :: xs) (List.range' s.length x.f1.toNat :: (fheads (farrow (s ++ List.replicate x.f1.toNat kbare) 0 (List.range' s.length x.f1.toNat)).2 xs).1.1) ((farrow (s ++ List.replicate x.f1.toNat kbare) 0 (List.range' s.length x.f1.toNat)).1 :: (fheads (farrow (s ++ List.replicate x.f1.toNat kbare) 0 (List.range' s.length x.f1.toNat)).2 xs).1.2) (fheads (farrow (s ++ List.replicate x.f1.toNat kbare) 0 (List.range' s.length x.f1.toNat)).2 xs).2
    generalize hfa : farrow (s ++ List.replicate x.f1.toNat kbare) 0 (List.range' s.length x.f1.toNat) = fa at *
    generalize fheads fa.2 xs = fh at *
    have l12 := x2.len
    rw [len1] at l12
    refine ⟨x1.trans (x2.trans I.ext), fun ps hps p hpp => ?_, fun k hk => ?_, ?_, fun ρ hs => ?_, fun ρ As hAs hs => ?_⟩
    · rcases List.mem_cons.1 hps with rfl | hps
      · have := (hr p hpp).2; have := I.ext.len; omega
      · exact I.lp ps hps p hpp
    · rcases List.mem_cons.1 hk with rfl | hk
      · exact Nat.lt_of_lt_of_le hk2 I.ext.len
      · exact I.lk k hk
    · rw [List.map_cons, List.map_cons, I.many, List.length_range']
    · have hs2 := I.ext.down ρ hs
      rw [List.map_cons, List.map_cons, I.down ρ hs, hA2 ρ hs2, hz2 ρ hs2]
    · cases As with
      | nil => cases hAs
      | cons A As =>
        rw [List.map_cons, List.map_cons] at hAs
        injection hAs with hA hAs
        have ag : ∀ i, i < s.length → (fun i => if s.length ≤ i then A.getD (i - s.length) .o else ρ i) i = ρ i := fun i hi => if_neg (by omega)
        have hs1 : Sol (s ++ List.replicate x.f1.toNat kbare) (fun i => if s.length ≤ i then A.getD (i - s.length) .o else ρ i) := (hS1 _).2 (Sol.agree w ag hs)
        obtain ⟨ρ2, ag2, hs2⟩ := hE2 _ hs1
        obtain ⟨ρ3, ag3, hs3, hm⟩ := I.up ρ2 As hAs hs2
        refine ⟨ρ3, fun i hi => ?_, hs3, ?_⟩
        · rw [ag3 i (by omega), ag2 i (by rw [len1]; omega)]
          exact ag i hi
        · rw [List.map_cons, hm]
          congr 1
          apply List.ext_getElem
          · rw [List.length_map, List.length_range', hA]
          · intro i h1 h2
            rw [List.getElem_map, List.getElem_range']
            rw [List.length_map, List.length_range'] at h1
            rw [ag3 _ (by omega), ag2 _ (by rw [len1]; omega)]
            rw [if_pos (by omega), show s.length + 1 * i - s.length = i from by omega, List.getD_eq_getElem?_getD, List.getElem?_eq_getElem h2]
            rfl
/-- All bodies have the sort o. -/
def Alls (syms : List S59) (funs : List Nat) (ρ : Nat → KT) : List (List Nat) → List S48 → Prop
  | _, [] => True
  | [], _ :: _ => False
  | ps :: pss, x :: xs => Ty (hdE ⟨0, syms, funs, ps⟩ ρ) x.f2 .o ∧ Alls syms funs ρ pss xs
theorem Alls_agree {syms : List S59} {funs : List Nat} {N : Nat} {ρ ρ' : Nat → KT} (ag : ∀ i, i < N → ρ' i = ρ i) (hf : ∀ p, p ∈ funs → p < N) : ∀ (pss : List (List Nat)) (l : List S48), (∀ ps, ps ∈ pss → ∀ p, p ∈ ps → p < N) → Alls syms funs ρ pss l → Alls syms funs ρ' pss l
  | _, [], _, _ => (by unfold Alls; trivial)
  | [], _ :: _, _, h => h
  | ps :: pss, x :: xs, hp, h => by
    refine ⟨?_, Alls_agree ag hf pss xs (fun q hq => hp q (List.mem_cons_of_mem _ hq)) h.2⟩
    have e : hdE ⟨0, syms, funs, ps⟩ ρ' = hdE ⟨0, syms, funs, ps⟩ ρ := by
      funext kd n
      unfold hdE
      by_cases h0 : n < 0
      · rw [if_pos h0, if_pos h0]
      · rw [if_neg h0, if_neg h0]
        by_cases h1 : kd = 0
        · rw [if_pos h1, if_pos h1]
          cases hq : ps[n.toNat]? with
          | none => rfl
          | some p => simp only [Option.map_some]; rw [ag p (hp ps List.mem_cons_self p (List.mem_of_getElem? hq))]
        · rw [if_neg h1, if_neg h1]
          by_cases h2 : kd = 1
          · rw [if_pos h2, if_pos h2]
            cases hq : funs[n.toNat]? with
            | none => rfl
            | some p => simp only [Option.map_some]; rw [ag p (hf p (List.mem_of_getElem? hq))]
          · rw [if_neg h2, if_neg h2]
    rw [e]
    exact h.1
theorem fbodies_le {syms : List S59} {funs : List Nat} {s : List KN} {pss : List (List Nat)} {l : List S48} {r : Bool × List KN} {f f' : Nat} (hf : f ≤ f') (h : fbodies syms funs f s pss l = some r) : fbodies syms funs f' s pss l = some r := by
  induction hf with
  | refl => exact h
  | step _ ih => exact fbodies_s _ _ _ _ _ _ _ ih
theorem bodies_ok {syms : List S59} {funs : List Nat} : ∀ (l : List S48) (pss : List (List Nat)) {s : List KN} {h : Nat → Nat}, WF s h → 0 < s.length → (∀ ρ, Sol s ρ → ρ 0 = .o) → (∀ p, p ∈ funs → p < s.length) → (∀ ps, ps ∈ pss → ∀ p, p ∈ ps → p < s.length) → pss.map List.length = l.map (fun x => x.f1.toNat) →
    (∀ x, x ∈ l → knownS x.f2 x.f1.toNat funs.length syms.length = true) →
    ∃ f b s', fbodies syms funs f s pss l = some (b, s') ∧ (b = true → Ext s s' ∧ (∀ ρ, Sol s' ρ → Alls syms funs ρ pss l) ∧ (∀ ρ, Sol s ρ → Alls syms funs ρ pss l → ∃ ρ', (∀ i, i < s.length → ρ' i = ρ i) ∧ Sol s' ρ')) ∧ (b = false → ∀ ρ, Sol s ρ → ¬ Alls syms funs ρ pss l)
  | [], pss, s, h, w, hp, hz, hf, hps, hm, hk => ⟨0, true, s, by unfold fbodies; rfl, fun _ => ⟨Ext.refl w, fun _ _ => (by unfold Alls; trivial), fun ρ hs _ => ⟨ρ, fun _ _ => rfl, hs⟩⟩, fun e => (by cases e)⟩
  | x :: xs, [], s, h, w, hp, hz, hf, hps, hm, hk => by cases hm
  | x :: xs, ps :: pss, s, h, w, hp, hz, hf, hps, hm, hk => by
    rw [List.map_cons, List.map_cons] at hm
    injection hm with hm0 hm
    have e : FEok ⟨0, syms, funs, ps⟩ s := ⟨rfl, hp, hz, hf, hps ps List.mem_cons_self⟩
    obtain ⟨f1, r1, s1, hf1, T⟩ := term_ok (E := ⟨0, syms, funs, ps⟩) x.f2 w e (by
      have := hk x List.mem_cons_self
      rw [← hm0] at this
      exact this)
    cases r1 with
    | none =>
      refine ⟨f1, false, s1, ?_, fun e => (by cases e), fun _ ρ hs ha => T.no rfl ρ .o hs ha.1⟩
      unfold fbodies
      rw [hf1]
    | some k =>
      obtain ⟨hk1, x1, d1, u1⟩ := T.yes k rfl
      obtain ⟨h1, w1⟩ := x1.wf
      obtain ⟨fj, rj, sj, hj, J⟩ := join_ok w1 (a := k) (b := 0) hk1 (Nat.lt_of_lt_of_le hp x1.len)
      cases rj with
      | false =>
        refine ⟨max f1 fj, false, sj, ?_, fun e => (by cases e), fun _ ρ hs ha => ?_⟩
        · unfold fbodies
          rw [fterm_le (Nat.le_max_left f1 fj) hf1]
          simp only
          rw [fjoin_le (Nat.le_max_right f1 fj) hj]
        · obtain ⟨ρ', ag, hs', hkt⟩ := u1 ρ .o hs ha.1
          exact J.no rfl ρ' hs' (by rw [hkt, hz ρ' (x1.down ρ' hs')])
      | true =>
        obtain ⟨h2, w2, _⟩ := J.yes rfl
        have hS := J.sol rfl
        have lenj : sj.length = s1.length := by
          have sh := fjoin_shape fj _ k 0 true sj hj
          have g := fun q => congrArg Option.isSome (sh q)
          simp only [Option.isSome_map] at g
          by_cases hlt : sj.length < s1.length
          · have := g sj.length
            rw [List.getElem?_eq_none (Nat.le_refl _), List.getElem?_eq_getElem hlt] at this
            cases this
          · by_cases hgt : s1.length < sj.length
            · have := g s1.length
              rw [List.getElem?_eq_none (Nat.le_refl _), List.getElem?_eq_getElem hgt] at this
              cases this
            · omega
        have x2 : Ext s sj := ⟨by rw [lenj]; exact x1.len, ⟨h2, w2⟩, fun ρ hs => x1.down ρ ((hS ρ).1 hs).1⟩
        have l2 := x2.len
        obtain ⟨f2, b, s', hf2, Y, N⟩ := bodies_ok xs pss w2 (Nat.lt_of_lt_of_le hp l2) (fun ρ hs => hz ρ (x2.down ρ hs)) (fun p hp => Nat.lt_of_lt_of_le (hf p hp) l2) (fun q hq p hp => Nat.lt_of_lt_of_le (hps q (List.mem_cons_of_mem _ hq) p hp) l2) hm (fun y hy => hk y (List.mem_cons_of_mem _ hy))
        have hm1 : f1 ≤ max f1 (max fj f2) := Nat.le_max_left _ _
        have hm2 : fj ≤ max f1 (max fj f2) := Nat.le_trans (Nat.le_max_left _ _) (Nat.le_max_right _ _)
        have hm3 : f2 ≤ max f1 (max fj f2) := Nat.le_trans (Nat.le_max_right _ _) (Nat.le_max_right _ _)
        have step : ∀ ρ, Sol s ρ → Ty (hdE ⟨0, syms, funs, ps⟩ ρ) x.f2 .o → ∃ ρ', (∀ i, i < s.length → ρ' i = ρ i) ∧ Sol sj ρ' := by
          intro ρ hs ht
          obtain ⟨ρ', ag, hs', hkt⟩ := u1 ρ .o hs ht
          exact ⟨ρ', ag, (hS ρ').2 ⟨hs', by rw [hkt, hz ρ' (x1.down ρ' hs')]⟩⟩
        have hpss : ∀ q, q ∈ pss → ∀ p, p ∈ q → p < s.length := fun q hq => hps q (List.mem_cons_of_mem _ hq)
        refine ⟨max f1 (max fj f2), b, s', ?_, fun hb => ?_, fun hb ρ hs ha => ?_⟩
        · unfold fbodies
          rw [fterm_le hm1 hf1]
          simp only
          rw [fjoin_le hm2 hj]
          exact fbodies_le hm3 hf2
        · obtain ⟨y1, y2, y3⟩ := Y hb
          refine ⟨x2.trans y1, fun ρ hs => ⟨?_, y2 ρ hs⟩, fun ρ hs ha => ?_⟩
          · have hs1 := (hS ρ).1 (y1.down ρ hs)
            have := d1 ρ hs1.1
            rw [hs1.2, hz ρ (x1.down ρ hs1.1)] at this
            exact this
          · obtain ⟨ρ1, ag1, hs1⟩ := step ρ hs ha.1
            obtain ⟨ρ2, ag2, hs2⟩ := y3 ρ1 hs1 (Alls_agree ag1 hf pss xs hpss ha.2)
            exact ⟨ρ2, fun i hi => (ag2 i (Nat.lt_of_lt_of_le hi l2)).trans (ag1 i hi), hs2⟩
        · obtain ⟨ρ1, ag1, hs1⟩ := step ρ hs ha.1
          exact N hb ρ1 hs1 (Alls_agree ag1 hf pss xs hpss ha.2)
end Go.Proofs.Ytfhgoebgnilfaaa.I
namespace Go.Proofs.Ytfhgoebgnilfaaa.I
open Go.RowKit
set_option linter.unusedVariables false
/-- The nodes of a sort. -/
def nS : KT → Int
  | .o => 1
  | .ar a b => nS a + nS b
theorem nS_pos : ∀ t : KT, 1 ≤ nS t
  | .o => by simp [nS]
  | .ar a b => by have := nS_pos a; have := nS_pos b; simp only [nS]; omega
/-- The arguments of a sort. -/
def toS : KT → List S41
  | .o => []
  | .ar a b => ⟨toS a⟩ :: toS b
theorem fshown_le {s : List KN} {i : Nat} {l : Int} {r : Option (List S41) × Int} {f f' : Nat} (hf : f ≤ f') (h : fshown s f i l = some r) : fshown s f' i l = some r := by
  induction hf with
  | refl => exact h
  | step _ ih => exact (fshown_s s _).1 _ _ _ ih
theorem fshownL_le {s : List KN} {i : Nat} {acc : List S41} {l : Int} {r : Option (List S41) × Int} {f f' : Nat} (hf : f ≤ f') (h : fshownL s f i acc l = some r) : fshownL s f' i acc l = some r := by
  induction hf with
  | refl => exact h
  | step _ ih => exact (fshown_s s _).2 _ _ _ _ ih
theorem fouts_le {s : List KN} {acc : List S41} {ks : List Nat} {r : Option (List S41)} {f f' : Nat} (hf : f ≤ f') (h : fouts s f acc ks = some r) : fouts s f' acc ks = some r := by
  induction hf with
  | refl => exact h
  | step _ ih => exact fouts_s s _ _ _ _ ih
theorem rho_end {s : List KN} {h : Nat → Nat} (w : WF s h) {f i r : Nat} (e : fend s f i = some r) : rho s h i = rho s h r := (fend_ok e).2.1 _ (rho_sol w)
theorem shown_ok {s : List KN} {h : Nat → Nat} (w : WF s h) : ∀ m : Nat,
    (∀ (i : Nat) (left : Int), h i < m → i < s.length → 0 ≤ left → left ≤ 1000 → ∃ f o l', fshown s f i left = some (o, l') ∧ (nS (rho s h i) ≤ left → o = some (toS (rho s h i)) ∧ l' = left - nS (rho s h i)) ∧ (left < nS (rho s h i) → o = none)) ∧
    (∀ (r : Nat) (n : KN) (acc : List S41) (left : Int), h r < m → s[r]? = some n → n.lk = none → 0 ≤ left → acc.length + left ≤ 1000 → ∃ f o l', fshownL s f r acc left = some (o, l') ∧ (nS (rho s h r) - 1 ≤ left → o = some (acc ++ toS (rho s h r)) ∧ l' = left - (nS (rho s h r) - 1)) ∧ (left < nS (rho s h r) - 1 → o = none)) := by
  intro m
  induction m with
  | zero => exact ⟨fun i left hm => absurd hm (by omega), fun r n acc left hm => absurd hm (by omega)⟩
  | succ m ih =>
    obtain ⟨ihA, ihB⟩ := ih
    have B : ∀ (r : Nat) (n : KN) (acc : List S41) (left : Int), h r < m + 1 → s[r]? = some n → n.lk = none → 0 ≤ left → acc.length + left ≤ 1000 → ∃ f o l', fshownL s f r acc left = some (o, l') ∧ (nS (rho s h r) - 1 ≤ left → o = some (acc ++ toS (rho s h r)) ∧ l' = left - (nS (rho s h r) - 1)) ∧ (left < nS (rho s h r) - 1 → o = none) := by
      intro r n acc left hm hn hl h0 hb
      have hd := w.dec r n hn
      have hr := w.rng r n hn
      cases hf : n.fr with
      | none =>
        have e : rho s h r = .o := by
          unfold rho
          rw [rdF, hn]
          simp only
          rw [hl]
          simp only
          rw [hf]
        refine ⟨1, some acc, left, ?_, fun _ => ?_, fun hlt => ?_⟩
        · unfold fshownL
          rw [hn]
          simp only
          rw [hf]
        · refine ⟨by rw [e, toS, List.append_nil], ?_⟩
          rw [e]
          simp only [nS]
          omega
        · rw [e] at hlt
          simp only [nS] at hlt
          omega
      | some a =>
        cases ht : n.tk with
        | none => exact absurd ((w.arr r n hn).2 ht) (by rw [hf]; simp)
        | some t =>
          have da := hd.2.1 a hf
          have dt := hd.2.2 t ht
          have e : rho s h r = .ar (rho s h a) (rho s h t) := (rho_sol w r n hn).2.2 a t hf ht
          obtain ⟨r2, hr2⟩ := fend_tot w (h t + 1) t (by omega) (hr.2.2 t ht)
          obtain ⟨⟨n2, hn2, hl2⟩, _, hle⟩ := fend_ok hr2
          have hle := hle h w
          have et := rho_end w hr2
          have pa := nS_pos (rho s h a)
          have pt := nS_pos (rho s h t)
          obtain ⟨f1, o1, l1, hs1, y1, n1⟩ := ihA a left (by omega) (hr.2.1 a hf) h0 (by omega)
          by_cases hfit : nS (rho s h a) ≤ left
          · obtain ⟨eo, el⟩ := y1 hfit
            subst eo el
            obtain ⟨f2, o2, l2, hs2, y2, n2'⟩ := ihB r2 n2 (acc ++ [⟨toS (rho s h a)⟩]) (left - nS (rho s h a)) (by omega) hn2 hl2 (by omega) (by rw [List.length_append]; simp only [List.length_cons, List.length_nil]; omega)
            have m1 : f1 ≤ max f1 (max f2 (h t + 1)) := Nat.le_max_left _ _
            have m2 : f2 ≤ max f1 (max f2 (h t + 1)) := Nat.le_trans (Nat.le_max_left _ _) (Nat.le_max_right _ _)
            have m3 : h t + 1 ≤ max f1 (max f2 (h t + 1)) := Nat.le_trans (Nat.le_max_right _ _) (Nat.le_max_right _ _)
            refine ⟨max f1 (max f2 (h t + 1)) + 1, o2, l2, ?_, fun hg => ?_, fun hg => ?_⟩
            · unfold fshownL
              rw [hn]
              simp only
              rw [hf]
              simp only
              rw [fshown_le m1 hs1]
              simp only
              rw [if_pos (by omega), ht]
              simp only
              rw [fend_le m3 hr2]
              exact fshownL_le m2 hs2
            · rw [e] at hg ⊢
              simp only [nS] at hg ⊢
              obtain ⟨z1, z2⟩ := y2 (by rw [← et]; omega)
              rw [← et] at z1 z2
              exact ⟨by rw [z1, toS, List.append_assoc]; rfl, by omega⟩
            · rw [e] at hg
              simp only [nS] at hg
              exact n2' (by rw [← et]; omega)
          · have eo := n1 (by omega)
            subst eo
            refine ⟨f1 + 1, none, l1, ?_, fun hg => ?_, fun _ => rfl⟩
            · unfold fshownL
              rw [hn]
              simp only
              rw [hf]
              simp only
              rw [hs1]
            · rw [e] at hg
              simp only [nS] at hg
              omega
    refine ⟨fun i left hm hi h0 hb => ?_, B⟩
    have p := nS_pos (rho s h i)
    by_cases hz : left - 1 < 0
    · refine ⟨1, none, left - 1, ?_, fun hg => by omega, fun _ => rfl⟩
      unfold fshown
      rw [if_pos hz]
    · obtain ⟨r, hr⟩ := fend_tot w (h i + 1) i (by omega) hi
      obtain ⟨⟨n, hn, hl⟩, _, hle⟩ := fend_ok hr
      have hle := hle h w
      have er := rho_end w hr
      obtain ⟨f, o, l', hs, y, nn⟩ := B r n [] (left - 1) (by omega) hn hl (by omega) (by simp only [List.length_nil]; omega)
      refine ⟨max f (h i + 1) + 1, o, l', ?_, fun hg => ?_, fun hg => ?_⟩
      · unfold fshown
        rw [if_neg hz, fend_le (Nat.le_max_right f (h i + 1)) hr]
        exact fshownL_le (Nat.le_max_left f (h i + 1)) hs
      · rw [er] at hg ⊢
        obtain ⟨z1, z2⟩ := y (by omega)
        exact ⟨by rw [z1, List.nil_append], by omega⟩
      · rw [er] at hg
        exact nn (by omega)
/-- A sort that may be shown. -/
def goodB (t : KT) : Bool := decide (nS t ≤ 60) && decide (sorts_Check.f (toS t) = some 0)
theorem outs_ok {s : List KN} {h : Nat → Nat} (w : WF s h) : ∀ (ks : List Nat) (acc : List S41), (∀ k, k ∈ ks → k < s.length) →
    ∃ f, fouts s f acc ks = some (if (ks.map (rho s h)).all goodB = true then some (acc ++ (ks.map (rho s h)).map (fun t => (⟨toS t⟩ : S41))) else none)
  | [], acc, _ => ⟨0, by unfold fouts; simp⟩
  | k :: ks, acc, hk => by
    obtain ⟨f1, o, l', hs, y, n⟩ := (shown_ok w (h k + 1)).1 k 60 (by omega) (hk k List.mem_cons_self) (by omega) (by omega)
    obtain ⟨f2, h2⟩ := outs_ok w ks (acc ++ [⟨toS (rho s h k)⟩]) (fun q hq => hk q (List.mem_cons_of_mem _ hq))
    rw [List.map_cons, List.all_cons]
    have hc : sorts_Check.f (toS (rho s h k)) = some 0 ∨ sorts_Check.f (toS (rho s h k)) = some 6 := by
      unfold sorts_Check.f
      split
      · exact .inr rfl
      · exact .inl rfl
    by_cases hfit : nS (rho s h k) ≤ 60
    · obtain ⟨eo, _⟩ := y hfit
      subst eo
      rcases hc with hc | hc
      · have g : goodB (rho s h k) = true := by unfold goodB; rw [decide_eq_true hfit, decide_eq_true hc]; rfl
        refine ⟨max f1 f2, ?_⟩
        unfold fouts
        rw [fshown_le (Nat.le_max_left f1 f2) hs]
        simp only
        rw [hc]
        dsimp only
        rw [if_pos rfl, fouts_le (Nat.le_max_right f1 f2) h2, g, Bool.true_and, List.map_cons, List.append_assoc]
        rfl
      · have g : goodB (rho s h k) = false := by unfold goodB; rw [decide_eq_false (p := sorts_Check.f (toS (rho s h k)) = some 0) (by rw [hc]; decide), Bool.and_false]
        refine ⟨f1, ?_⟩
        unfold fouts
        rw [hs]
        simp only
        rw [hc]
        dsimp only
        rw [if_neg (by decide), g, Bool.false_and, if_neg (by simp)]
    · have eo := n (by omega)
      subst eo
      have g : goodB (rho s h k) = false := by unfold goodB; rw [decide_eq_false hfit, Bool.false_and]
      refine ⟨f1, ?_⟩
      unfold fouts
      rw [hs, g, Bool.false_and, if_neg (by simp)]
/-- The sorts of heads, the functions having these sorts and the parameters those. -/
def hdG (syms : List S59) (G vs : List KT) (kd n : Int) : Option KT :=
  if n < 0 then none
  else if kd = 0 then vs[n.toNat]?
  else if kd = 1 then G[n.toNat]?
  else (syms[n.toNat]?).map (fun x => ars (List.replicate x.f1.toNat .o) .o)
def AllT (syms : List S59) (G : List KT) : List (List KT) → List S48 → Prop
  | _, [] => True
  | [], _ :: _ => False
  | vs :: As, x :: xs => Ty (hdG syms G vs) x.f2 .o ∧ AllT syms G As xs
/-- The functions' sorts. -/
def gam (As : List (List KT)) : List KT := As.map (fun vs => ars vs .o)
/-- Sorts of the functions' parameters with which all bodies have the sort o. -/
def Typed (syms : List S59) (l : List S48) (As : List (List KT)) : Prop := As.map List.length = l.map (fun x => x.f1.toNat) ∧ AllT syms (gam As) As l
theorem hdE_hdG (syms : List S59) (funs ps : List Nat) (ρ : Nat → KT) : hdE ⟨0, syms, funs, ps⟩ ρ = hdG syms (funs.map ρ) (ps.map ρ) := by
  funext kd n
  unfold hdE hdG
  rw [List.getElem?_map, List.getElem?_map]
theorem Alls_AllT {syms : List S59} {funs : List Nat} {ρ : Nat → KT} : ∀ (pss : List (List Nat)) (l : List S48), Alls syms funs ρ pss l ↔ AllT syms (funs.map ρ) (pss.map (fun ps => ps.map ρ)) l
  | pss, [] => by
    cases pss <;> (unfold Alls AllT; exact Iff.rfl)
  | [], x :: xs => by unfold Alls; rw [List.map_nil]; unfold AllT; exact Iff.rfl
  | ps :: pss, x :: xs => by
    rw [List.map_cons]
    unfold Alls AllT
    rw [hdE_hdG, Alls_AllT pss xs]
def lesL : List KT → List KT → Prop
  | [], [] => True
  | a :: vs, b :: ws => a.le b ∧ lesL vs ws
  | _, _ => False
theorem lesL_map {ρ ρ' : Nat → KT} (h : ∀ i, (ρ i).le (ρ' i)) : ∀ ks : List Nat, lesL (ks.map ρ) (ks.map ρ')
  | [] => trivial
  | k :: ks => ⟨h k, lesL_map h ks⟩
theorem looseL_known : ∀ (l : List S48) (nf ns : Int) (L : List ByteArray), looseL l nf ns L = true → ∀ x ∈ l, knownS x.f2 x.f1 nf ns = true
  | [], _, _, _, _, x, hx => by cases hx
  | y :: ys, nf, ns, L, h, x, hx => by
    unfold looseL at h
    by_cases hb : looseBad y nf ns L = true
    · rw [if_pos hb] at h; cases h
    · rw [if_neg hb] at h
      rcases List.mem_cons.1 hx with hx | hx
      · subst hx
        unfold looseBad at hb
        simp only [Bool.or_eq_true, not_or, Bool.not_eq_true', Bool.not_eq_true] at hb
        obtain ⟨_, _, _, _, _, _, h7⟩ := hb
        have e : (⟨x.f2.f0, x.f2.f1, x.f2.f2⟩ : S44) = x.f2 := by cases x.f2; rfl
        rw [e] at h7
        simpa using h7
      · exact looseL_known ys nf ns _ h x hx
theorem chkF_known {l0 : List S59} {l1 : List S48} (h : chkF l0 l1 = some 0) : ∀ x ∈ l1, knownS x.f2 x.f1 l1.length l0.length = true := by
  unfold chkF at h
  injection h with h
  split at h
  · cases h
  · split at h
    · cases h
    · split at h
      · rename_i h1 h2 h3
        exact looseL_known _ _ _ _ h3
      · cases h
/-- infer.Sorts. -/
theorem sorts_main (syms : List S59) (l : List S48) (hc : chkF syms l = some 0) :
    (∃ As0, Typed syms l As0 ∧ (∀ As, Typed syms l As → lesL (gam As0) (gam As)) ∧ ∃ f, fsorts f syms l = some (if (gam As0).all goodB = true then ((gam As0).map (fun t => (⟨toS t⟩ : S41)), 0) else ([], 3))) ∨
    ((∀ As, ¬ Typed syms l As) ∧ ∃ f, fsorts f syms l = some ([], 6)) := by
  have hok := fCheck_ok hc
  have w0 : WF [(⟨none, true, none, none⟩ : KN)] (fun _ => 0) := by
    refine ⟨?_, ?_, ?_, ?_, ?_⟩ <;> (intro i n hn; cases i with
      | zero => injection hn with hn; subst hn; simp [inS]
      | succ i => cases hn)
  have hz0 : ∀ ρ, Sol [(⟨none, true, none, none⟩ : KN)] ρ → ρ 0 = .o := fun ρ hs => (hs 0 ⟨none, true, none, none⟩ rfl).2.1 rfl
  have H := heads_ok l w0 (by decide) hz0
  have un : ∀ f, fsorts f syms l = match fbodies syms (fheads [⟨none, true, none, none⟩] l).1.2 f (fheads [⟨none, true, none, none⟩] l).2 (fheads [⟨none, true, none, none⟩] l).1.1 l with
      | none => none
      | some (false, _) => some ([], 6)
      | some (true, s) => match fouts s f [] (fheads [⟨none, true, none, none⟩] l).1.2 with
        | none => none
        | some none => some ([], 3)
        | some (some out) => some (out, 0) := by
    intro f
    unfold fsorts
    rw [hc]
    dsimp only
    rw [if_pos rfl]
    rfl
  generalize fheads [⟨none, true, none, none⟩] l = hd at *
  obtain ⟨h1, w1⟩ := H.ext.wf
  have hks : hd.1.2.length = l.length := by
    have e1 := congrArg List.length (H.down (rho hd.2 h1) (rho_sol w1))
    have e2 := congrArg List.length H.many
    simp only [List.length_map] at e1 e2
    omega
  obtain ⟨f1, b, s', hf1, Y, N⟩ := bodies_ok (syms := syms) (funs := hd.1.2) l hd.1.1 w1 (Nat.lt_of_lt_of_le (by decide) H.ext.len) (fun ρ hs => hz0 ρ (H.ext.down ρ hs)) H.lk H.lp H.many (fun x hx => by
    have h2 := chkF_known hc x hx
    have h3 := (hok.2.2.2.2 x hx).1
    rw [hks, Int.toNat_of_nonneg h3]
    exact h2)
  -- typings are solutions
  have up : ∀ As, Typed syms l As → ∃ ρ, Sol hd.2 ρ ∧ Alls syms hd.1.2 ρ hd.1.1 l ∧ hd.1.2.map ρ = gam As := by
    intro As hT
    obtain ⟨ρ, ag, hs, hm⟩ := H.up (fun _ => .o) As hT.1 (by
      intro i n hn
      cases i with
      | zero => injection hn with hn; subst hn; exact ⟨fun j hj => (by cases hj), fun _ => rfl, fun a t ha _ => (by cases ha)⟩
      | succ i => cases hn)
    have hg : hd.1.2.map ρ = gam As := by
      rw [H.down ρ hs, ← hm]
      unfold gam
      rw [List.map_map]
      rfl
    refine ⟨ρ, hs, ?_, hg⟩
    rw [Alls_AllT, hg, hm]
    exact hT.2
  have down : ∀ ρ, Sol hd.2 ρ → Alls syms hd.1.2 ρ hd.1.1 l → Typed syms l (hd.1.1.map (fun ps => ps.map ρ)) ∧ gam (hd.1.1.map (fun ps => ps.map ρ)) = hd.1.2.map ρ := by
    intro ρ hs ha
    have hg : gam (hd.1.1.map (fun ps => ps.map ρ)) = hd.1.2.map ρ := by
      rw [H.down ρ hs]
      unfold gam
      rw [List.map_map]
      rfl
    refine ⟨⟨?_, ?_⟩, hg⟩
    · rw [← H.many, List.map_map]
      exact List.map_congr_left (fun ps _ => by simp)
    · rw [hg, ← Alls_AllT]
      exact ha
  cases b with
  | false =>
    refine .inr ⟨fun As hT => ?_, f1, ?_⟩
    · obtain ⟨ρ, hs, ha, _⟩ := up As hT
      exact N rfl ρ hs ha
    · rw [un, hf1]
  | true =>
    obtain ⟨x2, d2, u2⟩ := Y rfl
    obtain ⟨h2, w2⟩ := x2.wf
    have hs2 := rho_sol w2
    obtain ⟨hT0, hg0⟩ := down (rho s' h2) (x2.down _ hs2) (d2 _ hs2)
    refine .inl ⟨_, hT0, fun As hT => ?_, ?_⟩
    · obtain ⟨ρ, hs, ha, hg⟩ := up As hT
      obtain ⟨ρ', ag, hs'⟩ := u2 ρ hs ha
      have e : hd.1.2.map ρ' = hd.1.2.map ρ := List.map_congr_left (fun k hk => ag k (H.lk k hk))
      rw [hg0, ← hg, ← e]
      exact lesL_map (fun i => rho_least hs' i) _
    · obtain ⟨f2, ho⟩ := outs_ok w2 hd.1.2 [] (fun k hk => Nat.lt_of_lt_of_le (H.lk k hk) x2.len)
      refine ⟨max f1 f2, ?_⟩
      rw [un, fbodies_le (Nat.le_max_left f1 f2) hf1]
      simp only
      rw [fouts_le (Nat.le_max_right f1 f2) ho, hg0]
      by_cases hgood : (hd.1.2.map (rho s' h2)).all goodB = true
      · rw [if_pos hgood, if_pos hgood, List.nil_append]
      · rw [if_neg hgood, if_neg hgood]
end Go.Proofs.Ytfhgoebgnilfaaa.I
namespace Go.Proofs.Ytfhgoebgnilfaaa.I
open Go.RowKit Go.Proofs.YtfhgoebgnilfaaaW.PrintWords Go.Proofs.YtfhgoebgnilfaaaW.PrintLast Go.Proofs.YtfhgoebgnilfaaaW.PrintMore
attribute [local go_sem] max2_int min2_int max_two min_two max_three min_three max_four min_four   -- for this text's walks alone
set_option linter.unusedVariables false
set_option linter.unusedSimpArgs false
mutual
def virgationref02_Symbols.l0 : Nat → List (S59) → List (S59) → Int → Int → Option (Bool)
  | 0, _, _, _, _ => none
  | k + 1, x0, x10, x11, x12 => if x12 < x11 then (if 0 ≤ x12 then (if x12 < (x10.length : Int) then ((virgationref02_Name.f k ((rd_T59 x10 x12).f0)).bind fun t125 => (if t125 = true then (if ((rd_T59 x10 x12).f1) < 0 then (virgationref02_Symbols.j1 k x0 x12 x10 x11 x12 true ((rd_T59 x10 x12).f0) ((rd_T59 x10 x12).f1)) else (virgationref02_Symbols.j1 k x0 x12 x10 x11 x12 (decide (((rd_T59 x10 x12).f1) > 4)) ((rd_T59 x10 x12).f0) ((rd_T59 x10 x12).f1))) else (virgationref02_Symbols.j1 k x0 x12 x10 x11 x12 true ((rd_T59 x10 x12).f0) ((rd_T59 x10 x12).f1)))) else (none)) else (none)) else (some true)
def virgationref02_Symbols.j1 : Nat → List (S59) → Int → List (S59) → Int → Int → Bool → ByteArray → Int → Option (Bool)
  | 0, _, _, _, _, _, _, _, _ => none
  | k + 1, x0, x3, x10, x11, x12, x30, x125000, x125001 => if x30 = true then (some false) else (if 0 ≤ x3 then (if x3 ≤ (x0.length : Int) then ((some (x0.take (x3 : Int).toNat : List (S59))).bind fun y126 => (virgationref02_Symbols.l1 k x0 x10 x11 x12 y126 (y126.length : Int) 0 x125000 x125001)) else (none)) else (none))
def virgationref02_Symbols.l1 : Nat → List (S59) → List (S59) → Int → Int → List (S59) → Int → Int → ByteArray → Int → Option (Bool)
  | 0, _, _, _, _, _, _, _, _, _ => none
  | k + 1, x0, x10, x11, x12, x33, x34, x35, x125000, x125001 => if x35 < x34 then (if 0 ≤ x35 then (if x35 < (x33.length : Int) then (if x125000.toList = ((rd_T59 x33 x35).f0).toList then (some false) else (virgationref02_Symbols.l1 k x0 x10 x11 x12 x33 x34 (wrap64 (x35 + 1)) x125000 x125001)) else (none)) else (none)) else (virgationref02_Symbols.l0 k x0 x10 x11 (wrap64 (x12 + 1)))
end
def virgationref02_Symbols.f (k : Nat) (l0 : List (S59)) : Option (Bool) := if (l0.length : Int) > 24 then (some false) else (virgationref02_Symbols.l0 k l0 l0 (l0.length : Int) 0)
theorem virgationref02_Symbols.mono_l : ∀ k, (∀ y0 y1 y2 y3, LeO (virgationref02_Symbols.l0 k y0 y1 y2 y3) (virgationref02_Symbols.l0 (k + 1) y0 y1 y2 y3)) ∧ (∀ y0 y1 y2 y3 y4 y5 y6 y7, LeO (virgationref02_Symbols.j1 k y0 y1 y2 y3 y4 y5 y6 y7) (virgationref02_Symbols.j1 (k + 1) y0 y1 y2 y3 y4 y5 y6 y7)) ∧ (∀ y0 y1 y2 y3 y4 y5 y6 y7 y8, LeO (virgationref02_Symbols.l1 k y0 y1 y2 y3 y4 y5 y6 y7 y8) (virgationref02_Symbols.l1 (k + 1) y0 y1 y2 y3 y4 y5 y6 y7 y8))
  | 0 => ⟨fun _ _ _ _ r h => by simp [virgationref02_Symbols.l0] at h, fun _ _ _ _ _ _ _ _ r h => by simp [virgationref02_Symbols.j1] at h, fun _ _ _ _ _ _ _ _ _ r h => by simp [virgationref02_Symbols.l1] at h⟩
  | k + 1 => by
    obtain ⟨ih0, ih1, ih2⟩ := virgationref02_Symbols.mono_l k
    refine ⟨?_, ?_, ?_⟩
    · intro y0 y1 y2 y3
      unfold virgationref02_Symbols.l0
      repeat' first
      | (with_reducible exact ih0 _ _ _ _)
      | (with_reducible exact ih1 _ _ _ _ _ _ _ _)
      | (with_reducible exact ih2 _ _ _ _ _ _ _ _ _)
      | (with_reducible exact virgationref02_Name.mono _ _)
      | (with_reducible exact LeO.refl _)
      | (with_reducible exact LeO.none _)
      | (with_reducible refine LeO.ite ?_ ?_)
      | (with_reducible refine LeO.bind ?_ (fun _ => ?_))
      | exact ih0 _ _ _ _
      | exact ih1 _ _ _ _ _ _ _ _
      | exact ih2 _ _ _ _ _ _ _ _ _
      | exact virgationref02_Name.mono _ _
      | exact LeO.none _
      | refine LeO.ite ?_ ?_
      | refine LeO.bind ?_ (fun _ => ?_)
    · intro y0 y1 y2 y3 y4 y5 y6 y7
      unfold virgationref02_Symbols.j1
      repeat' first
      | (with_reducible exact ih0 _ _ _ _)
      | (with_reducible exact ih1 _ _ _ _ _ _ _ _)
      | (with_reducible exact ih2 _ _ _ _ _ _ _ _ _)
      | (with_reducible exact virgationref02_Name.mono _ _)
      | (with_reducible exact LeO.refl _)
      | (with_reducible exact LeO.none _)
      | (with_reducible refine LeO.ite ?_ ?_)
      | (with_reducible refine LeO.bind ?_ (fun _ => ?_))
      | exact ih0 _ _ _ _
      | exact ih1 _ _ _ _ _ _ _ _
      | exact ih2 _ _ _ _ _ _ _ _ _
      | exact virgationref02_Name.mono _ _
      | exact LeO.none _
      | refine LeO.ite ?_ ?_
      | refine LeO.bind ?_ (fun _ => ?_)
    · intro y0 y1 y2 y3 y4 y5 y6 y7 y8
      unfold virgationref02_Symbols.l1
      repeat' first
      | (with_reducible exact ih0 _ _ _ _)
      | (with_reducible exact ih1 _ _ _ _ _ _ _ _)
      | (with_reducible exact ih2 _ _ _ _ _ _ _ _ _)
      | (with_reducible exact virgationref02_Name.mono _ _)
      | (with_reducible exact LeO.refl _)
      | (with_reducible exact LeO.none _)
      | (with_reducible refine LeO.ite ?_ ?_)
      | (with_reducible refine LeO.bind ?_ (fun _ => ?_))
      | exact ih0 _ _ _ _
      | exact ih1 _ _ _ _ _ _ _ _
      | exact ih2 _ _ _ _ _ _ _ _ _
      | exact virgationref02_Name.mono _ _
      | exact LeO.none _
      | refine LeO.ite ?_ ?_
      | refine LeO.bind ?_ (fun _ => ?_)
theorem virgationref02_Symbols.mono : ∀ a0 k, LeO (virgationref02_Symbols.f k a0) (virgationref02_Symbols.f (k + 1) a0) := by
  intro a0 k
  obtain ⟨ih0, ih1, ih2⟩ := virgationref02_Symbols.mono_l k
  unfold virgationref02_Symbols.f
  repeat' first
      | (with_reducible exact ih0 _ _ _ _)
      | (with_reducible exact ih1 _ _ _ _ _ _ _ _)
      | (with_reducible exact ih2 _ _ _ _ _ _ _ _ _)
      | (with_reducible exact virgationref02_Name.mono _ _)
      | (with_reducible exact LeO.refl _)
      | (with_reducible exact LeO.none _)
      | (with_reducible refine LeO.ite ?_ ?_)
      | (with_reducible refine LeO.bind ?_ (fun _ => ?_))
      | exact ih0 _ _ _ _
      | exact ih1 _ _ _ _ _ _ _ _
      | exact ih2 _ _ _ _ _ _ _ _ _
      | exact virgationref02_Name.mono _ _
      | exact LeO.none _
      | refine LeO.ite ?_ ?_
      | refine LeO.bind ?_ (fun _ => ?_)
set_option maxHeartbeats 8000000 in
set_option maxRecDepth 100000 in
theorem virgationref02_Symbols.calls (k : Nat) (A0 : Option Addr) (c0 : Nat) (l0 : List (S59)) (r : Bool) (w : World) (hr0 : Kd.C k59 w A0 l0.length l0) (hc0 : l0.length ≤ c0) (h : virgationref02_Symbols.f k l0 = some r) :
    Calls Try.prog 32 #[.slice A0 l0.length c0] w fun e w' => e = .returned (.bool r) ∧ Below w.heap.size w w' := by
  have hu59 := Try.underlying59
  have HR0 := Aside0.mk hr0
  have HC0 := Aside0.mk hc0
  clear hr0 hc0
  have HB := Aside0.mk (Below.refl w.heap.size w)
  have H : (if (l0.length : Int) > 24 then (some false) else (virgationref02_Symbols.l0 k l0 l0 (l0.length : Int) 0)) = some r := h
  clear h
  by_cases c2 : (l0.length : Int) > 24
  · rw [if_pos c2] at H
    have c2b0 : decide (24 < (l0.length : Int)) = true := decide_eq_true c2
    have c2b1 : decide (24 < l0.length) = true := decide_eq_true (by omega)
    clear c2
    obtain rfl := Option.some.inj H
    go_enter Try.func32, Try.ntmps32
    go_wp2
    go_ret
    exact ⟨by first | rfl | (simp [errW_none, errW_some] <;> rfl) | (simp [*, errW_none, errW_some] <;> rfl), by repeat (first | (with_reducible first | exact HB.out | apply below_alloc | apply pw_below_drewN | apply below_drew1) | exact HB.out)⟩
  · rw [if_neg c2] at H
    have c2b0 : decide (24 < (l0.length : Int)) = false := decide_eq_false c2
    have c2b1 : decide (24 < l0.length) = false := decide_eq_false (by omega)
    clear c2
    have H' := Aside0.mk H
    clear H
    go_enter Try.func32, Try.ntmps32
    go_wp2
    go_loopg [12] k (fun kq v12 w' => ∃ (x12_1 : Int), v12 = .int .i64 x12_1 ∧ Aside0 (virgationref02_Symbols.l0 kq l0 l0 (l0.length : Int) x12_1 = some r) ∧ Aside0 (kq ≤ k) ∧ Aside0 (Below w.heap.size w w'))
    case atStart => exact ⟨(0), (by first | rfl | (simp; done) | (simp [*]; done)), H', ⟨Nat.le_refl _⟩, ⟨by repeat (first | (with_reducible first | exact HB.out | apply below_alloc | apply pw_below_drewN | apply below_drew1) | exact HB.out)⟩⟩
    case round =>
      clear H'
      try clear c2
      try clear c2b0
      try clear c2b1
      try clear p2
      obtain ⟨x12_1, rfl, HA, HK1, HB⟩ := hrel
      cases gk with
      | zero => exact absurd HA.out (by simp [virgationref02_Symbols.l0])
      | succ k1 =>
        have H := HA.out
        clear HA
        simp only [virgationref02_Symbols.l0] at H
        by_cases c3 : x12_1 < (l0.length : Int)
        · rw [if_pos c3] at H
          have c3b0 : decide (x12_1 < (l0.length : Int)) = true := decide_eq_true c3
          clear c3
          by_cases c4 : 0 ≤ x12_1
          · rw [if_pos c4] at H
            have c4b0 : decide (0 ≤ x12_1) = true := decide_eq_true c4
            clear c4
            by_cases c5 : x12_1 < (l0.length : Int)
            · rw [if_pos c5] at H
              have c5b0 : decide (x12_1 < (l0.length : Int)) = true := decide_eq_true c5
              clear c5
              have HC6 := Aside0.mk H
              clear H
              have p123 : 0 ≤ (x12_1 : Int) := of_decide_eq_true (by first | (with_reducible assumption) | assumption)
              have q123 : x12_1 < (l0.length : Int) := of_decide_eq_true (by first | (with_reducible assumption) | assumption)
              obtain ⟨ad123, e123, hx123_0, hx123_1⟩ := at_T59 HR0.out x12_1 p123 q123
              cases e123
              replace hx123_0 := (HB.out.cell (World.block_lt_of_cell? w _ hx123_0)).trans hx123_0
              replace hx123_1 := (HB.out.cell (World.block_lt_of_cell? w _ hx123_1)).trans hx123_1
              replace p123 := eq_true p123
              replace q123 := eq_true q123
              go_upto_region 6 with (first | ((with_reducible refine gate_dst (N := 4) rfl ?_); refine box_event ?hg (N := 4) ?hd (cs := #[.string (⟨#[]⟩ : ByteArray), .int .i64 0]) (t := 59) ?hr ?_; (case hd => rfl); (case hg => rfl); (case hr => first | (go_simp; done) | (go_simp; rfl)); intro gb124 hg w7 hbox hb; have n0_ := Aside0.mk (below_step (by repeat (first | (with_reducible first | exact HB.out | apply below_alloc | apply pw_below_drewN | apply below_drew1) | exact HB.out)) hb); have n1_ := Aside0.mk (hbox); have n2_ := Aside0.mk ((by rw [hg]; exact (below_size (by repeat (first | (with_reducible first | exact HB.out | apply below_alloc | apply pw_below_drewN | apply below_drew1) | exact HB.out))) : w.heap.size ≤ gb124)); have n3_ := Aside0.mk ((by rw [hg]; exact (below_size (by repeat (first | (with_reducible first | exact HB.out | apply below_alloc | apply pw_below_drewN | apply below_drew1) | exact HB.out))) : w.heap.size ≤ gb124)); clear HB; have HB := n0_; have BK124 := n1_; have GW124 := n2_; have GE124 := n3_; clear n0_ n1_ n2_ n3_; clear hb hbox hg; have hcz8_0 : w7.cell? ⟨gb124, 0, none⟩ = some (.string (⟨#[]⟩ : ByteArray)) := (blk_cell BK124.out 0).trans rfl; have hcz8_1 : w7.cell? ⟨gb124, 1, none⟩ = some (.int .i64 0) := (blk_cell BK124.out 1).trans rfl; have hfz8_0 := blk_frozen BK124.out 0; have hfz8_1 := blk_frozen BK124.out 1))
              (try simp only [Act.put, List.setIfInBounds_toArray, List.set_cons_zero, List.set_cons_succ])
              go_cut [30] (fun v30 wc => ∃ (kq : Nat) (x30_5 : Bool), v30 = .bool x30_5 ∧ Aside0 (virgationref02_Symbols.j1 kq l0 x12_1 l0 (l0.length : Int) x12_1 x30_5 ((rd_T59 l0 x12_1).f0) ((rd_T59 l0 x12_1).f1) = some r) ∧ Aside0 (kq ≤ k1) ∧ Aside0 (wc.heap[gb124]? = some (.cells #[.string ((rd_T59 l0 x12_1).f0), .int .i64 ((rd_T59 l0 x12_1).f1)] 59 (0, 0))) ∧ Aside0 (Below w.heap.size w wc))
              case first =>
                have H := HC6.out
                clear HC6
                replace H := Option.bind_eq_some_iff.mp H
                obtain ⟨t125, A90, H⟩ := H
                replace H : (if t125 = true then (if ((rd_T59 l0 x12_1).f1) < 0 then (virgationref02_Symbols.j1 k1 l0 x12_1 l0 (l0.length : Int) x12_1 true ((rd_T59 l0 x12_1).f0) ((rd_T59 l0 x12_1).f1)) else (virgationref02_Symbols.j1 k1 l0 x12_1 l0 (l0.length : Int) x12_1 (decide (((rd_T59 l0 x12_1).f1) > 4)) ((rd_T59 l0 x12_1).f0) ((rd_T59 l0 x12_1).f1))) else (virgationref02_Symbols.j1 k1 l0 x12_1 l0 (l0.length : Int) x12_1 true ((rd_T59 l0 x12_1).f0) ((rd_T59 l0 x12_1).f1))) = some r := H
                have A9 := Aside0.mk A90
                clear A90
                by_cases c10 : t125 = true
                · subst c10
                  have H1 : (if ((rd_T59 l0 x12_1).f1) < 0 then (virgationref02_Symbols.j1 k1 l0 x12_1 l0 (l0.length : Int) x12_1 true ((rd_T59 l0 x12_1).f0) ((rd_T59 l0 x12_1).f1)) else (virgationref02_Symbols.j1 k1 l0 x12_1 l0 (l0.length : Int) x12_1 (decide (((rd_T59 l0 x12_1).f1) > 4)) ((rd_T59 l0 x12_1).f0) ((rd_T59 l0 x12_1).f1))) = some r := by rw [if_pos rfl] at H; exact H
                  clear H
                  have H := H1
                  clear H1
                  by_cases c11 : ((rd_T59 l0 x12_1).f1) < 0
                  · rw [if_pos c11] at H
                    have c11b0 : decide (((rd_T59 l0 x12_1).f1) < 0) = true := decide_eq_true c11
                    clear c11
                    (first | rw [c11b0] | (simp only [i64_w, i32_w]; rw [c11b0]) | skip)
                    have H' := Aside0.mk H
                    clear H
                    have hcz12_0 : w7.cell? ⟨gb124, 0, none⟩ = some (.string (⟨#[]⟩ : ByteArray)) := (blk_cell BK124.out 0).trans rfl
                    have hcz12_1 : w7.cell? ⟨gb124, 1, none⟩ = some (.int .i64 0) := (blk_cell BK124.out 1).trans rfl
                    have hfz12_0 := blk_frozen BK124.out 0
                    have hfz12_1 := blk_frozen BK124.out 1
                    go_wp2_with (first | ((with_reducible refine gate_callee (f := 33) rfl ?_); refine goesL_ (some 19) rfl rfl Try.func33 (by kernel_rfl) rfl #[.string ((rd_T59 l0 x12_1).f0)] rfl (by (try simp only [List.map_toArray, List.map_cons, List.map_nil]); first | done | rfl | (simp only [List.length_drop, List.length_take]; rfl)) ?_; (with_reducible refine (virgationref02_Name.calls k1 ((rd_T59 l0 x12_1).f0) true _ A9.out).mono ?_); rintro e w' ⟨rfl, ⟨nd, rfl⟩⟩; refine ⟨_, rfl, ?_⟩))
                    go_meet
                    case rel => exact ⟨_, (true), (by first | rfl | (simp; done) | (simp [*]; done)), H', ⟨by have := HK1.out; first | omega | exact Nat.le_refl _⟩, ⟨by (with_reducible repeat (first | refine blk_drewN ?_ _ | refine blk_drew ?_ | refine blk_alloc ?_ _)); refine blk_put (cs := #[.string ((rd_T59 l0 x12_1).f0), .int .i64 0]) ?_ 1 _ rfl; (with_reducible repeat (first | refine blk_drewN ?_ _ | refine blk_drew ?_ | refine blk_alloc ?_ _)); refine blk_put (cs := #[.string (⟨#[]⟩ : ByteArray), .int .i64 0]) ?_ 0 _ rfl; (with_reducible repeat (first | refine blk_drewN ?_ _ | refine blk_drew ?_ | refine blk_alloc ?_ _)); exact BK124.out⟩, ⟨by repeat (first | (with_reducible first | exact HB.out | apply below_alloc | apply pw_below_drewN | apply below_drew1 | refine below_set ?_ GE124.out) | exact HB.out)⟩⟩
                  · rw [if_neg c11] at H
                    have c11b0 : decide (((rd_T59 l0 x12_1).f1) < 0) = false := decide_eq_false c11
                    clear c11
                    (first | rw [c11b0] | (simp only [i64_w, i32_w]; rw [c11b0]) | skip)
                    have H' := Aside0.mk H
                    clear H
                    have hcz13_0 : w7.cell? ⟨gb124, 0, none⟩ = some (.string (⟨#[]⟩ : ByteArray)) := (blk_cell BK124.out 0).trans rfl
                    have hcz13_1 : w7.cell? ⟨gb124, 1, none⟩ = some (.int .i64 0) := (blk_cell BK124.out 1).trans rfl
                    have hfz13_0 := blk_frozen BK124.out 0
                    have hfz13_1 := blk_frozen BK124.out 1
                    go_wp2_with (first | ((with_reducible refine gate_callee (f := 33) rfl ?_); refine goesL_ (some 19) rfl rfl Try.func33 (by kernel_rfl) rfl #[.string ((rd_T59 l0 x12_1).f0)] rfl (by (try simp only [List.map_toArray, List.map_cons, List.map_nil]); first | done | rfl | (simp only [List.length_drop, List.length_take]; rfl)) ?_; (with_reducible refine (virgationref02_Name.calls k1 ((rd_T59 l0 x12_1).f0) true _ A9.out).mono ?_); rintro e w' ⟨rfl, ⟨nd, rfl⟩⟩; refine ⟨_, rfl, ?_⟩))
                    go_meet
                    case rel => exact ⟨_, (decide (((rd_T59 l0 x12_1).f1) > 4)), (by first | rfl | (simp; done) | (simp [*]; done)), H', ⟨by have := HK1.out; first | omega | exact Nat.le_refl _⟩, ⟨by (with_reducible repeat (first | refine blk_drewN ?_ _ | refine blk_drew ?_ | refine blk_alloc ?_ _)); refine blk_put (cs := #[.string ((rd_T59 l0 x12_1).f0), .int .i64 0]) ?_ 1 _ rfl; (with_reducible repeat (first | refine blk_drewN ?_ _ | refine blk_drew ?_ | refine blk_alloc ?_ _)); refine blk_put (cs := #[.string (⟨#[]⟩ : ByteArray), .int .i64 0]) ?_ 0 _ rfl; (with_reducible repeat (first | refine blk_drewN ?_ _ | refine blk_drew ?_ | refine blk_alloc ?_ _)); exact BK124.out⟩, ⟨by repeat (first | (with_reducible first | exact HB.out | apply below_alloc | apply pw_below_drewN | apply below_drew1 | refine below_set ?_ GE124.out) | exact HB.out)⟩⟩
                · replace c10 := Bool.eq_false_iff.mpr c10
                  subst c10
                  have H1 : (virgationref02_Symbols.j1 k1 l0 x12_1 l0 (l0.length : Int) x12_1 true ((rd_T59 l0 x12_1).f0) ((rd_T59 l0 x12_1).f1)) = some r := by rw [if_neg (show ¬ (false = true) by decide)] at H; exact H
                  clear H
                  have H := H1
                  clear H1
                  have H' := Aside0.mk H
                  clear H
                  have hcz14_0 : w7.cell? ⟨gb124, 0, none⟩ = some (.string (⟨#[]⟩ : ByteArray)) := (blk_cell BK124.out 0).trans rfl
                  have hcz14_1 : w7.cell? ⟨gb124, 1, none⟩ = some (.int .i64 0) := (blk_cell BK124.out 1).trans rfl
                  have hfz14_0 := blk_frozen BK124.out 0
                  have hfz14_1 := blk_frozen BK124.out 1
                  go_wp2_with (first | ((with_reducible refine gate_callee (f := 33) rfl ?_); refine goesL_ (some 19) rfl rfl Try.func33 (by kernel_rfl) rfl #[.string ((rd_T59 l0 x12_1).f0)] rfl (by (try simp only [List.map_toArray, List.map_cons, List.map_nil]); first | done | rfl | (simp only [List.length_drop, List.length_take]; rfl)) ?_; (with_reducible refine (virgationref02_Name.calls k1 ((rd_T59 l0 x12_1).f0) false _ A9.out).mono ?_); rintro e w' ⟨rfl, ⟨nd, rfl⟩⟩; refine ⟨_, rfl, ?_⟩))
                  go_meet
                  case rel => exact ⟨_, (true), (by first | rfl | (simp; done) | (simp [*]; done)), H', ⟨by have := HK1.out; first | omega | exact Nat.le_refl _⟩, ⟨by (with_reducible repeat (first | refine blk_drewN ?_ _ | refine blk_drew ?_ | refine blk_alloc ?_ _)); refine blk_put (cs := #[.string ((rd_T59 l0 x12_1).f0), .int .i64 0]) ?_ 1 _ rfl; (with_reducible repeat (first | refine blk_drewN ?_ _ | refine blk_drew ?_ | refine blk_alloc ?_ _)); refine blk_put (cs := #[.string (⟨#[]⟩ : ByteArray), .int .i64 0]) ?_ 0 _ rfl; (with_reducible repeat (first | refine blk_drewN ?_ _ | refine blk_drew ?_ | refine blk_alloc ?_ _)); exact BK124.out⟩, ⟨by repeat (first | (with_reducible first | exact HB.out | apply below_alloc | apply pw_below_drewN | apply below_drew1 | refine below_set ?_ GE124.out) | exact HB.out)⟩⟩
              case rest =>
                clear HC6
                try clear c1
                try clear p1
                try clear q1
                try clear hx1
                try clear c2
                try clear c2b0
                try clear c2b1
                try clear p2
                try clear c3
                try clear c3b0
                try clear c4
                try clear c4b0
                try clear c5
                try clear c5b0
                try clear c10
                try clear c11
                try clear c11b0
                try clear p12
                try clear q12
                try clear hx12
                try clear hcz12_0
                try clear hcz12_1
                try clear hcz13_0
                try clear hcz13_1
                try clear hcz14_0
                try clear hcz14_1
                try clear hcz8_0
                try clear hcz8_1
                try clear hfz12_0
                try clear hfz12_1
                try clear hfz13_0
                try clear hfz13_1
                try clear hfz14_0
                try clear hfz14_1
                try clear hfz8_0
                try clear hfz8_1
                try clear hx123_0
                try clear hx123_1
                try clear p123
                try clear p2
                try clear q123
                obtain ⟨kq, x30_5, rfl, HA, HJ5, BK124, HB⟩ := hcut
                cases kq with
                | zero => exact absurd HA.out (by simp [virgationref02_Symbols.j1])
                | succ kj5 =>
                  have H := HA.out
                  clear HA
                  simp only [virgationref02_Symbols.j1] at H
                  by_cases c15 : x30_5 = true
                  · subst c15
                    have H1 : (some false) = some r := by rw [if_pos rfl] at H; exact H
                    clear H
                    have H := H1
                    clear H1
                    obtain rfl := Option.some.inj H
                    go_wp2
                    go_ret
                    exact ⟨by first | rfl | (simp [errW_none, errW_some] <;> rfl) | (simp [*, errW_none, errW_some] <;> rfl), by repeat (first | (with_reducible first | exact HB.out | apply below_alloc | apply pw_below_drewN | apply below_drew1 | refine below_set ?_ GE124.out) | exact HB.out)⟩
                  · replace c15 := Bool.eq_false_iff.mpr c15
                    subst c15
                    have H1 : (if 0 ≤ x12_1 then (if x12_1 ≤ (l0.length : Int) then ((some (l0.take (x12_1 : Int).toNat : List (S59))).bind fun y126 => (virgationref02_Symbols.l1 kj5 l0 l0 (l0.length : Int) x12_1 y126 (y126.length : Int) 0 ((rd_T59 l0 x12_1).f0) ((rd_T59 l0 x12_1).f1))) else (none)) else (none)) = some r := by rw [if_neg (show ¬ (false = true) by decide)] at H; exact H
                    clear H
                    have H := H1
                    clear H1
                    by_cases c16 : 0 ≤ x12_1
                    · rw [if_pos c16] at H
                      have c16b0 := eq_true c16
                      have c16b1 : decide (0 ≤ x12_1) = true := decide_eq_true c16
                      clear c16
                      by_cases c17 : x12_1 ≤ (l0.length : Int)
                      · rw [if_pos c17] at H
                        have c17b0 := eq_true c17
                        have c17b1 : decide (x12_1 ≤ (l0.length : Int)) = true := decide_eq_true c17
                        clear c17
                        obtain ⟨y126, hy126⟩ : ∃ y_ : List (S59), y_ = (l0.take (x12_1 : Int).toNat) := ⟨_, rfl⟩
                        replace H : (virgationref02_Symbols.l1 kj5 l0 l0 (l0.length : Int) x12_1 y126 (y126.length : Int) 0 ((rd_T59 l0 x12_1).f0) ((rd_T59 l0 x12_1).f1)) = some r := by first | (rw [hy126]; with_reducible exact H) | (have H2_ := (Option.bind_some _ _).symm.trans H; rw [hy126]; with_reducible exact H2_) | (have H2_ := (Option.bind_some _ _).symm.trans H; with_reducible exact H2_) | with_reducible exact H | (rw [hy126]; exact H) | exact H
                        have Ny126 := Aside0.mk hy126
                        clear hy126
                        have H' := Aside0.mk H
                        clear H
                        have q18 : (x12_1 : Int) ≤ ((l0.length : Int) : Int) := of_decide_eq_true (by first | (with_reducible assumption) | assumption)
                        obtain ⟨i018, hi018, _, hsz18, _⟩ := info_parts info59
                        have hroom18 : l0.length ≤ c0 := HC0.out
                        have hC18 : Kd.C k59 _ (some ad123) l0.length l0 := HR0.out
                        have hcut18 := cut_to (P := Try.prog) 22 59 .i64 Try.underlying22 hi018 (some ad123) l0.length c0 x12_1 (of_decide_eq_true (by first | (with_reducible assumption) | assumption)) q18 hroom18
                        have hr18 := Kd.C_take (m := (x12_1 : Int).toNat) hC18 (by omega)
                        have hy18 : y126.length = (x12_1 : Int).toNat := (by rw [Ny126.out, List.length_take]; omega)
                        rw [← Ny126.out] at hr18
                        rw [← hy18] at hcut18
                        have HR129 := Aside0.mk hr18
                        have HC129 := Aside0.mk (show y126.length ≤ c0 from by omega)
                        clear hr18 hC18 hroom18 hi018 hsz18
                        have KY18 := Aside0.mk hy18
                        clear hy18
                        replace q18 := eq_true q18
                        go_wp2
                        go_loopg [35] kj5 (fun kq v35 w' => ∃ (x35_3 : Int), v35 = .int .i64 x35_3 ∧ Aside0 (virgationref02_Symbols.l1 kq l0 l0 (l0.length : Int) x12_1 y126 (y126.length : Int) x35_3 ((rd_T59 l0 x12_1).f0) ((rd_T59 l0 x12_1).f1) = some r) ∧ Aside0 (kq ≤ kj5) ∧ Aside0 (w'.heap[gb124]? = some (.cells #[.string ((rd_T59 l0 x12_1).f0), .int .i64 ((rd_T59 l0 x12_1).f1)] 59 (0, 0))) ∧ Aside0 (Below w.heap.size w w'))
                        case atStart => exact ⟨(0), (by first | rfl | (simp; done) | (simp [*]; done)), H', ⟨Nat.le_refl _⟩, ⟨by (with_reducible repeat (first | refine blk_drewN ?_ _ | refine blk_drew ?_ | refine blk_alloc ?_ _)); exact BK124.out⟩, ⟨by repeat (first | (with_reducible first | exact HB.out | apply below_alloc | apply pw_below_drewN | apply below_drew1 | refine below_set ?_ GE124.out) | exact HB.out)⟩⟩
                        case round =>
                          clear H'
                          try clear c1
                          try clear p1
                          try clear q1
                          try clear hx1
                          try clear c2
                          try clear c2b0
                          try clear c2b1
                          try clear p2
                          try clear c3
                          try clear c3b0
                          try clear c4
                          try clear c4b0
                          try clear c5
                          try clear c5b0
                          try clear c10
                          try clear c11
                          try clear c11b0
                          try clear p12
                          try clear q12
                          try clear hx12
                          try clear c15
                          try clear c16
                          try clear c16b0
                          try clear c16b1
                          try clear c17
                          try clear c17b0
                          try clear c17b1
                          try clear q18
                          try clear hcz12_0
                          try clear hcz12_1
                          try clear hcz13_0
                          try clear hcz13_1
                          try clear hcz14_0
                          try clear hcz14_1
                          try clear hcz8_0
                          try clear hcz8_1
                          try clear hfz12_0
                          try clear hfz12_1
                          try clear hfz13_0
                          try clear hfz13_1
                          try clear hfz14_0
                          try clear hfz14_1
                          try clear hfz8_0
                          try clear hfz8_1
                          try clear hx123_0
                          try clear hx123_1
                          try clear p1
                          try clear p12
                          try clear p123
                          try clear p2
                          try clear q1
                          try clear q12
                          try clear q123
                          try clear q18
                          obtain ⟨x35_3, rfl, HA, HK3, BK124, HB⟩ := hrel
                          cases gk with
                          | zero => exact absurd HA.out (by simp [virgationref02_Symbols.l1])
                          | succ k3 =>
                            have H := HA.out
                            clear HA
                            simp only [virgationref02_Symbols.l1] at H
                            by_cases c19 : x35_3 < (y126.length : Int)
                            · rw [if_pos c19] at H
                              have c19b0 : decide (x35_3 < (y126.length : Int)) = true := decide_eq_true c19
                              clear c19
                              by_cases c20 : 0 ≤ x35_3
                              · rw [if_pos c20] at H
                                have c20b0 : decide (0 ≤ x35_3) = true := decide_eq_true c20
                                clear c20
                                by_cases c21 : x35_3 < (y126.length : Int)
                                · rw [if_pos c21] at H
                                  have c21b0 : decide (x35_3 < (y126.length : Int)) = true := decide_eq_true c21
                                  clear c21
                                  by_cases c22 : ((rd_T59 l0 x12_1).f0).toList = ((rd_T59 y126 x35_3).f0).toList
                                  · rw [if_pos c22] at H
                                    have c22b0 : (((rd_T59 l0 x12_1).f0).toList == ((rd_T59 y126 x35_3).f0).toList) = true := beq_iff_eq.mpr c22
                                    have c22b1 : (((rd_T59 l0 x12_1).f0).toList != ((rd_T59 y126 x35_3).f0).toList) = false := bne_eq_false_iff_eq.mpr c22
                                    clear c22
                                    obtain rfl := Option.some.inj H
                                    have p130 : 0 ≤ (x35_3 : Int) := of_decide_eq_true (by first | (with_reducible assumption) | assumption)
                                    have q130 : x35_3 < (y126.length : Int) := of_decide_eq_true (by first | (with_reducible assumption) | assumption)
                                    obtain ⟨ad130, e130, hx130_0, hx130_1⟩ := at_T59 HR129.out x35_3 p130 q130
                                    obtain rfl : ad123 = ad130 := (by injection e130)
                                    replace hx130_0 := (HB.out.cell (World.block_lt_of_cell? w _ hx130_0)).trans hx130_0
                                    replace hx130_1 := (HB.out.cell (World.block_lt_of_cell? w _ hx130_1)).trans hx130_1
                                    replace p130 := eq_true p130
                                    replace q130 := eq_true q130
                                    go_wp2_with (first | ((with_reducible refine gate_dst (N := 6) rfl ?_); refine box_event ?hg (N := 6) ?hd (cs := #[.string (⟨#[]⟩ : ByteArray), .int .i64 0]) (t := 59) ?hr ?_; (case hd => rfl); (case hg => rfl); (case hr => first | (go_simp; done) | (go_simp; rfl)); intro gb131 hg w23 hbox hb; have n0_ := Aside0.mk (blk_below (g := gb124) (o := .cells #[.string ((rd_T59 l0 x12_1).f0), .int .i64 ((rd_T59 l0 x12_1).f1)] 59 (0, 0)) (by (with_reducible repeat (first | refine blk_drewN ?_ _ | refine blk_drew ?_ | refine blk_alloc ?_ _)); exact BK124.out) hb); have n1_ := Aside0.mk (below_step (by repeat (first | (with_reducible first | exact HB.out | apply below_alloc | apply pw_below_drewN | apply below_drew1 | refine below_set ?_ GE124.out) | exact HB.out)) hb); have n2_ := Aside0.mk (hbox); have n3_ := Aside0.mk ((by rw [hg]; exact (below_size (by repeat (first | (with_reducible first | exact HB.out | apply below_alloc | apply pw_below_drewN | apply below_drew1 | refine below_set ?_ GE124.out) | exact HB.out))) : w.heap.size ≤ gb131)); have n4_ := Aside0.mk ((by rw [hg]; exact (below_size (by repeat (first | (with_reducible first | exact HB.out | apply below_alloc | apply pw_below_drewN | apply below_drew1 | refine below_set ?_ GE124.out) | exact HB.out))) : w.heap.size ≤ gb131)); have n5_ := Aside0.mk ((by rw [hg]; exact Nat.ne_of_lt (blk_lt (g := gb124) (o := .cells #[.string ((rd_T59 l0 x12_1).f0), .int .i64 ((rd_T59 l0 x12_1).f1)] 59 (0, 0)) (by (with_reducible repeat (first | refine blk_drewN ?_ _ | refine blk_drew ?_ | refine blk_alloc ?_ _)); exact BK124.out)) : gb124 ≠ gb131)); have n6_ := Aside0.mk ((by rw [hg]; exact Nat.ne_of_gt (blk_lt (g := gb124) (o := .cells #[.string ((rd_T59 l0 x12_1).f0), .int .i64 ((rd_T59 l0 x12_1).f1)] 59 (0, 0)) (by (with_reducible repeat (first | refine blk_drewN ?_ _ | refine blk_drew ?_ | refine blk_alloc ?_ _)); exact BK124.out)) : gb131 ≠ gb124)); clear BK124; clear HB; have BK124 := n0_; have HB := n1_; have BK131 := n2_; have GW131 := n3_; have GE131 := n4_; have NB124_131 := n5_; have NB131_124 := n6_; clear n0_ n1_ n2_ n3_ n4_ n5_ n6_; clear hb hbox hg; have hnb24 := NB131_124.out; have hnc24 := NB124_131.out; have hcz25_0 : w23.cell? ⟨gb131, 0, none⟩ = some (.string (⟨#[]⟩ : ByteArray)) := (blk_cell BK131.out 0).trans rfl; have hcz25_1 : w23.cell? ⟨gb131, 1, none⟩ = some (.int .i64 0) := (blk_cell BK131.out 1).trans rfl; have hfz25_0 := blk_frozen BK131.out 0; have hfz25_1 := blk_frozen BK131.out 1; have hcz26_0 : w23.cell? ⟨gb124, 0, none⟩ = some (.string ((rd_T59 l0 x12_1).f0)) := (blk_cell BK124.out 0).trans rfl; have hcz26_1 : w23.cell? ⟨gb124, 1, none⟩ = some (.int .i64 ((rd_T59 l0 x12_1).f1)) := (blk_cell BK124.out 1).trans rfl; have hfz26_0 := blk_frozen BK124.out 0; have hfz26_1 := blk_frozen BK124.out 1))
                                    go_ret
                                    exact ⟨by first | rfl | (simp [errW_none, errW_some] <;> rfl) | (simp [*, errW_none, errW_some] <;> rfl), by repeat (first | (with_reducible first | exact HB.out | apply below_alloc | apply pw_below_drewN | apply below_drew1 | refine below_set ?_ GE124.out | refine below_set ?_ GE131.out) | exact HB.out)⟩
                                  · rw [if_neg c22] at H
                                    have c22b0 : (((rd_T59 l0 x12_1).f0).toList == ((rd_T59 y126 x35_3).f0).toList) = false := beq_eq_false_iff_ne.mpr c22
                                    have c22b1 : (((rd_T59 l0 x12_1).f0).toList != ((rd_T59 y126 x35_3).f0).toList) = true := bne_iff_ne.mpr c22
                                    have H' := Aside0.mk H
                                    clear H
                                    have p130 : 0 ≤ (x35_3 : Int) := of_decide_eq_true (by first | (with_reducible assumption) | assumption)
                                    have q130 : x35_3 < (y126.length : Int) := of_decide_eq_true (by first | (with_reducible assumption) | assumption)
                                    obtain ⟨ad130, e130, hx130_0, hx130_1⟩ := at_T59 HR129.out x35_3 p130 q130
                                    obtain rfl : ad123 = ad130 := (by injection e130)
                                    replace hx130_0 := (HB.out.cell (World.block_lt_of_cell? w _ hx130_0)).trans hx130_0
                                    replace hx130_1 := (HB.out.cell (World.block_lt_of_cell? w _ hx130_1)).trans hx130_1
                                    replace p130 := eq_true p130
                                    replace q130 := eq_true q130
                                    go_wp2_with (first | ((with_reducible refine gate_dst (N := 6) rfl ?_); refine box_event ?hg (N := 6) ?hd (cs := #[.string (⟨#[]⟩ : ByteArray), .int .i64 0]) (t := 59) ?hr ?_; (case hd => rfl); (case hg => rfl); (case hr => first | (go_simp; done) | (go_simp; rfl)); intro gb131 hg w27 hbox hb; have n0_ := Aside0.mk (blk_below (g := gb124) (o := .cells #[.string ((rd_T59 l0 x12_1).f0), .int .i64 ((rd_T59 l0 x12_1).f1)] 59 (0, 0)) (by (with_reducible repeat (first | refine blk_drewN ?_ _ | refine blk_drew ?_ | refine blk_alloc ?_ _)); exact BK124.out) hb); have n1_ := Aside0.mk (below_step (by repeat (first | (with_reducible first | exact HB.out | apply below_alloc | apply pw_below_drewN | apply below_drew1 | refine below_set ?_ GE124.out) | exact HB.out)) hb); have n2_ := Aside0.mk (hbox); have n3_ := Aside0.mk ((by rw [hg]; exact (below_size (by repeat (first | (with_reducible first | exact HB.out | apply below_alloc | apply pw_below_drewN | apply below_drew1 | refine below_set ?_ GE124.out) | exact HB.out))) : w.heap.size ≤ gb131)); have n4_ := Aside0.mk ((by rw [hg]; exact (below_size (by repeat (first | (with_reducible first | exact HB.out | apply below_alloc | apply pw_below_drewN | apply below_drew1 | refine below_set ?_ GE124.out) | exact HB.out))) : w.heap.size ≤ gb131)); have n5_ := Aside0.mk ((by rw [hg]; exact Nat.ne_of_lt (blk_lt (g := gb124) (o := .cells #[.string ((rd_T59 l0 x12_1).f0), .int .i64 ((rd_T59 l0 x12_1).f1)] 59 (0, 0)) (by (with_reducible repeat (first | refine blk_drewN ?_ _ | refine blk_drew ?_ | refine blk_alloc ?_ _)); exact BK124.out)) : gb124 ≠ gb131)); have n6_ := Aside0.mk ((by rw [hg]; exact Nat.ne_of_gt (blk_lt (g := gb124) (o := .cells #[.string ((rd_T59 l0 x12_1).f0), .int .i64 ((rd_T59 l0 x12_1).f1)] 59 (0, 0)) (by (with_reducible repeat (first | refine blk_drewN ?_ _ | refine blk_drew ?_ | refine blk_alloc ?_ _)); exact BK124.out)) : gb131 ≠ gb124)); clear BK124; clear HB; have BK124 := n0_; have HB := n1_; have BK131 := n2_; have GW131 := n3_; have GE131 := n4_; have NB124_131 := n5_; have NB131_124 := n6_; clear n0_ n1_ n2_ n3_ n4_ n5_ n6_; clear hb hbox hg; have hnb28 := NB131_124.out; have hnc28 := NB124_131.out; have hcz29_0 : w27.cell? ⟨gb131, 0, none⟩ = some (.string (⟨#[]⟩ : ByteArray)) := (blk_cell BK131.out 0).trans rfl; have hcz29_1 : w27.cell? ⟨gb131, 1, none⟩ = some (.int .i64 0) := (blk_cell BK131.out 1).trans rfl; have hfz29_0 := blk_frozen BK131.out 0; have hfz29_1 := blk_frozen BK131.out 1; have hcz30_0 : w27.cell? ⟨gb124, 0, none⟩ = some (.string ((rd_T59 l0 x12_1).f0)) := (blk_cell BK124.out 0).trans rfl; have hcz30_1 : w27.cell? ⟨gb124, 1, none⟩ = some (.int .i64 ((rd_T59 l0 x12_1).f1)) := (blk_cell BK124.out 1).trans rfl; have hfz30_0 := blk_frozen BK124.out 0; have hfz30_1 := blk_frozen BK124.out 1))
                                    go_roundg k3
                                    case measure => have := HK1.out; have := HJ5.out; have := HK3.out; omega
                                    case rel => exact ⟨(wrap64 (x35_3 + 1)), (by first | rfl | (simp; done) | (simp [*]; done)), H', ⟨by have := HK1.out; have := HJ5.out; have := HK3.out; omega⟩, ⟨by (with_reducible repeat (first | refine blk_drewN ?_ _ | refine blk_drew ?_ | refine blk_alloc ?_ _)); refine blk_far ?_ NB124_131.out _; (with_reducible repeat (first | refine blk_drewN ?_ _ | refine blk_drew ?_ | refine blk_alloc ?_ _)); refine blk_far ?_ NB124_131.out _; (with_reducible repeat (first | refine blk_drewN ?_ _ | refine blk_drew ?_ | refine blk_alloc ?_ _)); exact BK124.out⟩, ⟨by repeat (first | (with_reducible first | exact HB.out | apply below_alloc | apply pw_below_drewN | apply below_drew1 | refine below_set ?_ GE124.out | refine below_set ?_ GE131.out) | exact HB.out)⟩⟩
                                · rw [if_neg c21] at H
                                  exact absurd H (by simp)
                              · rw [if_neg c20] at H
                                exact absurd H (by simp)
                            · rw [if_neg c19] at H
                              have c19b0 : decide (x35_3 < (y126.length : Int)) = false := decide_eq_false c19
                              clear c19
                              have H' := Aside0.mk H
                              clear H
                              go_wp2
                              go_roundg k3
                              case measure => have := HK1.out; have := HJ5.out; have := HK3.out; omega
                              case rel => exact ⟨(wrap64 (x12_1 + 1)), (by first | rfl | (simp; done) | (simp [*]; done)), H', ⟨by have := HK1.out; have := HJ5.out; have := HK3.out; omega⟩, ⟨by repeat (first | (with_reducible first | exact HB.out | apply below_alloc | apply pw_below_drewN | apply below_drew1 | refine below_set ?_ GE124.out) | exact HB.out)⟩⟩
                      · rw [if_neg c17] at H
                        exact absurd H (by simp)
                    · rw [if_neg c16] at H
                      exact absurd H (by simp)
            · rw [if_neg c5] at H
              exact absurd H (by simp)
          · rw [if_neg c4] at H
            exact absurd H (by simp)
        · rw [if_neg c3] at H
          have c3b0 : decide (x12_1 < (l0.length : Int)) = false := decide_eq_false c3
          clear c3
          obtain rfl := Option.some.inj H
          go_wp2
          go_ret
          exact ⟨by first | rfl | (simp [errW_none, errW_some] <;> rfl) | (simp [*, errW_none, errW_some] <;> rfl), by repeat (first | (with_reducible first | exact HB.out | apply below_alloc | apply pw_below_drewN | apply below_drew1) | exact HB.out)⟩
mutual
def virgationref02_Nodes.l0 : Nat → Int → Int → Int → Int → Int → List (S44) → Option (Int)
  | 0, _, _, _, _, _, _ => none
  | k + 1, x1, x5, x6, x133000, x133001, x133002 => if x6 < (x133002.length : Int) then (if x5 ≤ x1 then (if 0 ≤ x6 then ((virgationref02_Nodes.f k ((rd_T44 x133002 x6).f0) ((rd_T44 x133002 x6).f1) ((rd_T44 x133002 x6).f2) (wrap64 (x1 - x5))).bind fun t134 => (virgationref02_Nodes.l0 k x1 (wrap64 (x5 + t134)) (wrap64 (x6 + 1)) x133000 x133001 x133002)) else (none)) else (some x5)) else (some x5)
def virgationref02_Nodes.f : Nat → Int → Int → List (S44) → Int → Option (Int)
  | 0, _, _, _, _ => none
  | k + 1, a0_0, a0_1, l0_2, a1 => virgationref02_Nodes.l0 k a1 1 0 a0_0 a0_1 l0_2
end
theorem virgationref02_Nodes.mono_l : ∀ k, (∀ y0 y1 y2 y3, LeO (virgationref02_Nodes.f k y0 y1 y2 y3) (virgationref02_Nodes.f (k + 1) y0 y1 y2 y3)) ∧ (∀ y0 y1 y2 y3 y4 y5, LeO (virgationref02_Nodes.l0 k y0 y1 y2 y3 y4 y5) (virgationref02_Nodes.l0 (k + 1) y0 y1 y2 y3 y4 y5))
  | 0 => ⟨fun _ _ _ _ r h => by simp [virgationref02_Nodes.f] at h, fun _ _ _ _ _ _ r h => by simp [virgationref02_Nodes.l0] at h⟩
  | k + 1 => by
    obtain ⟨ih0, ih1⟩ := virgationref02_Nodes.mono_l k
    refine ⟨?_, ?_⟩
    · intro y0 y1 y2 y3
      unfold virgationref02_Nodes.f
      repeat' first
      | (with_reducible exact ih0 _ _ _ _)
      | (with_reducible exact ih1 _ _ _ _ _ _)
      | (with_reducible exact LeO.refl _)
      | (with_reducible exact LeO.none _)
      | (with_reducible refine LeO.ite ?_ ?_)
      | (with_reducible refine LeO.bind ?_ (fun _ => ?_))
      | exact ih0 _ _ _ _
      | exact ih1 _ _ _ _ _ _
      | exact LeO.none _
      | refine LeO.ite ?_ ?_
      | refine LeO.bind ?_ (fun _ => ?_)
    · intro y0 y1 y2 y3 y4 y5
      unfold virgationref02_Nodes.l0
      repeat' first
      | (with_reducible exact ih0 _ _ _ _)
      | (with_reducible exact ih1 _ _ _ _ _ _)
      | (with_reducible exact LeO.refl _)
      | (with_reducible exact LeO.none _)
      | (with_reducible refine LeO.ite ?_ ?_)
      | (with_reducible refine LeO.bind ?_ (fun _ => ?_))
      | exact ih0 _ _ _ _
      | exact ih1 _ _ _ _ _ _
      | exact LeO.none _
      | refine LeO.ite ?_ ?_
      | refine LeO.bind ?_ (fun _ => ?_)
theorem virgationref02_Nodes.mono : ∀ a0 a1 a2 a3 k, LeO (virgationref02_Nodes.f k a0 a1 a2 a3) (virgationref02_Nodes.f (k + 1) a0 a1 a2 a3) := by
  intro a0 a1 a2 a3 k
  obtain ⟨ih0, ih1⟩ := virgationref02_Nodes.mono_l k
  exact ih0 a0 a1 a2 a3
set_option maxHeartbeats 8000000 in
set_option maxRecDepth 100000 in
theorem virgationref02_Nodes.calls (k : Nat) : ∀ (a0_0 : Int) (a0_1 : Int) (A0_2 : Option Addr) (c0_2 : Nat) (l0_2 : List (S44)) (a1 : Int) (r : Int) (w : World) (hr0_2 : Kd.C k44 w A0_2 l0_2.length l0_2) (hc0_2 : l0_2.length ≤ c0_2) (h : virgationref02_Nodes.f k a0_0 a0_1 l0_2 a1 = some r),
    Calls Try.prog 34 #[.agg #[.int .i64 a0_0, .int .i64 a0_1, .slice A0_2 l0_2.length c0_2], .int .i64 a1] w fun e w' => e = .returned (.int .i64 r) ∧ Below w.heap.size w w' := by
  induction k using Nat.strongRecOn with
  | _ k ih =>
  intro a0_0 a0_1 A0_2 c0_2 l0_2 a1 r w hr0_2 hc0_2 h
  cases k with
  | zero => exact absurd h (by simp [virgationref02_Nodes.f])
  | succ k =>
  simp only [virgationref02_Nodes.f] at h
  have hu44 := Try.underlying44
  have HR0_2 := Aside0.mk hr0_2
  have HC0_2 := Aside0.mk hc0_2
  clear hr0_2 hc0_2
  have HB := Aside0.mk (Below.refl w.heap.size w)
  have H : (virgationref02_Nodes.l0 k a1 1 0 a0_0 a0_1 l0_2) = some r := h
  clear h
  have H' := Aside0.mk H
  clear H
  go_enter Try.func34, Try.ntmps34
  go_wp2_with (first | ((with_reducible refine gate_dst (N := 2) rfl ?_); refine box_event ?hg (N := 2) ?hd (cs := #[.int .i64 a0_0, .int .i64 a0_1, .slice A0_2 l0_2.length c0_2]) (t := 44) ?hr ?_; (case hd => rfl); (case hg => rfl); (case hr => first | (go_simp; done) | (go_simp; rfl)); intro gb132 hg w3 hbox hb; have n0_ := Aside0.mk (below_step (by repeat (first | (with_reducible first | exact HB.out | apply below_alloc | apply pw_below_drewN | apply below_drew1) | exact HB.out)) hb); have n1_ := Aside0.mk (hbox); have n2_ := Aside0.mk ((by rw [hg]; exact (below_size (by repeat (first | (with_reducible first | exact HB.out | apply below_alloc | apply pw_below_drewN | apply below_drew1) | exact HB.out))) : w.heap.size ≤ gb132)); have n3_ := Aside0.mk ((by rw [hg]; exact (below_size (by repeat (first | (with_reducible first | exact HB.out | apply below_alloc | apply pw_below_drewN | apply below_drew1) | exact HB.out))) : w.heap.size ≤ gb132)); clear HB; have HB := n0_; have BK132 := n1_; have GW132 := n2_; have GE132 := n3_; clear n0_ n1_ n2_ n3_; clear hb hbox hg))
  go_loopg [5, 6] k (fun kq v5 v6 w' => ∃ (x5_1 : Int) (x6_1 : Int), v5 = .int .i64 x5_1 ∧ v6 = .int .i64 x6_1 ∧ Aside0 (virgationref02_Nodes.l0 kq a1 x5_1 x6_1 a0_0 a0_1 l0_2 = some r) ∧ Aside0 (kq ≤ k) ∧ Aside0 (w'.heap[gb132]? = some (.cells #[.int .i64 a0_0, .int .i64 a0_1, (.slice A0_2 l0_2.length c0_2)] 44 (0, 0))) ∧ Aside0 (Below w.heap.size w w'))
  case atStart => exact ⟨(1), (0), (by first | rfl | (simp; done) | (simp [*]; done)), (by first | rfl | (simp; done) | (simp [*]; done)), H', ⟨Nat.le_refl _⟩, ⟨by (with_reducible repeat (first | refine blk_drewN ?_ _ | refine blk_drew ?_ | refine blk_alloc ?_ _)); exact BK132.out⟩, ⟨by repeat (first | (with_reducible first | exact HB.out | apply below_alloc | apply pw_below_drewN | apply below_drew1 | refine below_set ?_ GE132.out) | exact HB.out)⟩⟩
  case round =>
    clear H'
    try clear p2
    try clear c3
    obtain ⟨x5_1, x6_1, rfl, rfl, HA, HK1, BK132, HB⟩ := hrel
    cases gk with
    | zero => exact absurd HA.out (by simp [virgationref02_Nodes.l0])
    | succ k1 =>
      have H := HA.out
      clear HA
      simp only [virgationref02_Nodes.l0] at H
      by_cases c4 : x6_1 < (l0_2.length : Int)
      · rw [if_pos c4] at H
        have c4b0 : decide (x6_1 < (l0_2.length : Int)) = true := decide_eq_true c4
        clear c4
        by_cases c5 : x5_1 ≤ a1
        · rw [if_pos c5] at H
          have c5b0 : decide (x5_1 ≤ a1) = true := decide_eq_true c5
          clear c5
          by_cases c6 : 0 ≤ x6_1
          · rw [if_pos c6] at H
            have c6b0 : decide (0 ≤ x6_1) = true := decide_eq_true c6
            clear c6
            replace H := Option.bind_eq_some_iff.mp H
            obtain ⟨t134, A70, H⟩ := H
            replace H : (virgationref02_Nodes.l0 k1 a1 (wrap64 (x5_1 + t134)) (wrap64 (x6_1 + 1)) a0_0 a0_1 l0_2) = some r := H
            have A7 := Aside0.mk A70
            clear A70
            have H' := Aside0.mk H
            clear H
            have hcz8_0 : wr.cell? ⟨gb132, 0, none⟩ = some (.int .i64 a0_0) := (blk_cell BK132.out 0).trans rfl
            have hcz8_1 : wr.cell? ⟨gb132, 1, none⟩ = some (.int .i64 a0_1) := (blk_cell BK132.out 1).trans rfl
            have hcz8_2 : wr.cell? ⟨gb132, 2, none⟩ = some (.slice A0_2 l0_2.length c0_2) := (blk_cell BK132.out 2).trans rfl
            have hfz8_0 := blk_frozen BK132.out 0
            have hfz8_1 := blk_frozen BK132.out 1
            have hfz8_2 := blk_frozen BK132.out 2
            have p133 : 0 ≤ (x6_1 : Int) := of_decide_eq_true (by first | (with_reducible assumption) | assumption)
            have q133 : x6_1 < (l0_2.length : Int) := of_decide_eq_true (by first | (with_reducible assumption) | assumption)
            obtain ⟨ad133, A133_2, c133_2, e133, hx133_0, hx133_1, hx133_2, hl133_2, hi133_2⟩ := at_T44 HR0_2.out x6_1 p133 q133
            cases e133
            replace hx133_0 := (HB.out.cell (World.block_lt_of_cell? w _ hx133_0)).trans hx133_0
            replace hx133_1 := (HB.out.cell (World.block_lt_of_cell? w _ hx133_1)).trans hx133_1
            replace hx133_2 := (HB.out.cell (World.block_lt_of_cell? w _ hx133_2)).trans hx133_2
            have HR133_2 := Aside0.mk hi133_2
            have HC133_2 := Aside0.mk hl133_2
            clear hi133_2 hl133_2
            replace p133 := eq_true p133
            replace q133 := eq_true q133
            go_wp2_with (first | ((with_reducible refine gate_callee (f := 34) rfl ?_); refine goesL_ (some 28) rfl rfl Try.func34 (by kernel_rfl) rfl #[.agg #[.int .i64 ((rd_T44 l0_2 x6_1).f0), .int .i64 ((rd_T44 l0_2 x6_1).f1), .slice A133_2 ((rd_T44 l0_2 x6_1).f2).length c133_2], .int .i64 (wrap64 (a1 - x5_1))] rfl (by (try simp only [List.map_toArray, List.map_cons, List.map_nil]); first | done | rfl | (simp only [List.length_drop, List.length_take]; rfl)) ?_; (with_reducible refine (ih k1 (by have := HK1.out; omega) ((rd_T44 l0_2 x6_1).f0) ((rd_T44 l0_2 x6_1).f1) _ _ ((rd_T44 l0_2 x6_1).f2) (wrap64 (a1 - x5_1)) t134 _ ?side1 ?side2 A7.out).mono ?_); (case side1 => repeat (first | exact (Kd.C_below HR133_2.out HB.out) | (with_reducible refine Kd.C_alloc ?_ _) | (with_reducible refine Kd.C_drewN ?_ _) | (with_reducible refine Kd.C_drew ?_))); (case side2 => exact HC133_2.out); rintro e w9 ⟨rfl, hb⟩; refine ⟨_, rfl, ?_⟩; have n0_ := Aside0.mk (blk_below (g := gb132) (o := .cells #[.int .i64 a0_0, .int .i64 a0_1, .slice (some ad133) l0_2.length c0_2] 44 (0, 0)) (by (with_reducible repeat (first | refine blk_drewN ?_ _ | refine blk_drew ?_ | refine blk_alloc ?_ _)); exact BK132.out) hb); have n1_ := Aside0.mk (below_step (by repeat (first | (with_reducible first | exact HB.out | apply below_alloc | apply pw_below_drewN | apply below_drew1 | refine below_set ?_ GE132.out) | exact HB.out)) hb); clear BK132; clear HB; have BK132 := n0_; have HB := n1_; clear n0_ n1_; (try clear hb); (try clear hb2); (try clear hk); (try clear hi)))
            go_roundg k1
            case measure => have := HK1.out; omega
            case rel => exact ⟨(wrap64 (x5_1 + t134)), (wrap64 (x6_1 + 1)), (by first | rfl | (simp; done) | (simp [*]; done)), (by first | rfl | (simp; done) | (simp [*]; done)), H', ⟨by have := HK1.out; omega⟩, ⟨by (with_reducible repeat (first | refine blk_drewN ?_ _ | refine blk_drew ?_ | refine blk_alloc ?_ _)); exact BK132.out⟩, ⟨by repeat (first | (with_reducible first | exact HB.out | apply below_alloc | apply pw_below_drewN | apply below_drew1 | refine below_set ?_ GE132.out) | exact HB.out)⟩⟩
          · rw [if_neg c6] at H
            exact absurd H (by simp)
        · rw [if_neg c5] at H
          have c5b0 : decide (x5_1 ≤ a1) = false := decide_eq_false c5
          clear c5
          obtain rfl := Option.some.inj H
          have hcz10_0 : wr.cell? ⟨gb132, 0, none⟩ = some (.int .i64 a0_0) := (blk_cell BK132.out 0).trans rfl
          have hcz10_1 : wr.cell? ⟨gb132, 1, none⟩ = some (.int .i64 a0_1) := (blk_cell BK132.out 1).trans rfl
          have hcz10_2 : wr.cell? ⟨gb132, 2, none⟩ = some (.slice A0_2 l0_2.length c0_2) := (blk_cell BK132.out 2).trans rfl
          have hfz10_0 := blk_frozen BK132.out 0
          have hfz10_1 := blk_frozen BK132.out 1
          have hfz10_2 := blk_frozen BK132.out 2
          go_wp2
          go_ret
          exact ⟨by first | rfl | (simp [errW_none, errW_some] <;> rfl) | (simp [*, errW_none, errW_some] <;> rfl), by repeat (first | (with_reducible first | exact HB.out | apply below_alloc | apply pw_below_drewN | apply below_drew1 | refine below_set ?_ GE132.out) | exact HB.out)⟩
      · rw [if_neg c4] at H
        have c4b0 : decide (x6_1 < (l0_2.length : Int)) = false := decide_eq_false c4
        clear c4
        obtain rfl := Option.some.inj H
        have hcz11_0 : wr.cell? ⟨gb132, 0, none⟩ = some (.int .i64 a0_0) := (blk_cell BK132.out 0).trans rfl
        have hcz11_1 : wr.cell? ⟨gb132, 1, none⟩ = some (.int .i64 a0_1) := (blk_cell BK132.out 1).trans rfl
        have hcz11_2 : wr.cell? ⟨gb132, 2, none⟩ = some (.slice A0_2 l0_2.length c0_2) := (blk_cell BK132.out 2).trans rfl
        have hfz11_0 := blk_frozen BK132.out 0
        have hfz11_1 := blk_frozen BK132.out 1
        have hfz11_2 := blk_frozen BK132.out 2
        go_wp2
        go_ret
        exact ⟨by first | rfl | (simp [errW_none, errW_some] <;> rfl) | (simp [*, errW_none, errW_some] <;> rfl), by repeat (first | (with_reducible first | exact HB.out | apply below_alloc | apply pw_below_drewN | apply below_drew1 | refine below_set ?_ GE132.out) | exact HB.out)⟩
mutual
def virgationref02_Depth.l0 : Nat → Int → List (S44) → Int → Int → Option (Int)
  | 0, _, _, _, _ => none
  | k + 1, x3, x7, x8, x9 => if x9 < x8 then (if 0 ≤ x9 then (if x9 < (x7.length : Int) then ((virgationref02_Depth.f k ((rd_T44 x7 x9).f0) ((rd_T44 x7 x9).f1) ((rd_T44 x7 x9).f2)).bind fun t138 => (virgationref02_Depth.l0 k (mx x3 t138) x7 x8 (wrap64 (x9 + 1)))) else (none)) else (none)) else (some (wrap64 (x3 + 1)))
def virgationref02_Depth.f : Nat → Int → Int → List (S44) → Option (Int)
  | 0, _, _, _ => none
  | k + 1, a0_0, a0_1, l0_2 => virgationref02_Depth.l0 k 0 l0_2 (l0_2.length : Int) 0
end
theorem virgationref02_Depth.mono_l : ∀ k, (∀ y0 y1 y2, LeO (virgationref02_Depth.f k y0 y1 y2) (virgationref02_Depth.f (k + 1) y0 y1 y2)) ∧ (∀ y0 y1 y2 y3, LeO (virgationref02_Depth.l0 k y0 y1 y2 y3) (virgationref02_Depth.l0 (k + 1) y0 y1 y2 y3))
  | 0 => ⟨fun _ _ _ r h => by simp [virgationref02_Depth.f] at h, fun _ _ _ _ r h => by simp [virgationref02_Depth.l0] at h⟩
  | k + 1 => by
    obtain ⟨ih0, ih1⟩ := virgationref02_Depth.mono_l k
    refine ⟨?_, ?_⟩
    · intro y0 y1 y2
      unfold virgationref02_Depth.f
      repeat' first
      | (with_reducible exact ih0 _ _ _)
      | (with_reducible exact ih1 _ _ _ _)
      | (with_reducible exact LeO.refl _)
      | (with_reducible exact LeO.none _)
      | (with_reducible refine LeO.ite ?_ ?_)
      | (with_reducible refine LeO.bind ?_ (fun _ => ?_))
      | exact ih0 _ _ _
      | exact ih1 _ _ _ _
      | exact LeO.none _
      | refine LeO.ite ?_ ?_
      | refine LeO.bind ?_ (fun _ => ?_)
    · intro y0 y1 y2 y3
      unfold virgationref02_Depth.l0
      repeat' first
      | (with_reducible exact ih0 _ _ _)
      | (with_reducible exact ih1 _ _ _ _)
      | (with_reducible exact LeO.refl _)
      | (with_reducible exact LeO.none _)
      | (with_reducible refine LeO.ite ?_ ?_)
      | (with_reducible refine LeO.bind ?_ (fun _ => ?_))
      | exact ih0 _ _ _
      | exact ih1 _ _ _ _
      | exact LeO.none _
      | refine LeO.ite ?_ ?_
      | refine LeO.bind ?_ (fun _ => ?_)
theorem virgationref02_Depth.mono : ∀ a0 a1 a2 k, LeO (virgationref02_Depth.f k a0 a1 a2) (virgationref02_Depth.f (k + 1) a0 a1 a2) := by
  intro a0 a1 a2 k
  obtain ⟨ih0, ih1⟩ := virgationref02_Depth.mono_l k
  exact ih0 a0 a1 a2
set_option maxHeartbeats 8000000 in
set_option maxRecDepth 100000 in
theorem virgationref02_Depth.calls (k : Nat) : ∀ (a0_0 : Int) (a0_1 : Int) (A0_2 : Option Addr) (c0_2 : Nat) (l0_2 : List (S44)) (r : Int) (w : World) (hr0_2 : Kd.C k44 w A0_2 l0_2.length l0_2) (hc0_2 : l0_2.length ≤ c0_2) (h : virgationref02_Depth.f k a0_0 a0_1 l0_2 = some r),
    Calls Try.prog 35 #[.agg #[.int .i64 a0_0, .int .i64 a0_1, .slice A0_2 l0_2.length c0_2]] w fun e w' => e = .returned (.int .i64 r) ∧ Below w.heap.size w w' := by
  induction k using Nat.strongRecOn with
  | _ k ih =>
  intro a0_0 a0_1 A0_2 c0_2 l0_2 r w hr0_2 hc0_2 h
  cases k with
  | zero => exact absurd h (by simp [virgationref02_Depth.f])
  | succ k =>
  simp only [virgationref02_Depth.f] at h
  have hu44 := Try.underlying44
  have HR0_2 := Aside0.mk hr0_2
  have HC0_2 := Aside0.mk hc0_2
  clear hr0_2 hc0_2
  have HB := Aside0.mk (Below.refl w.heap.size w)
  have H : (virgationref02_Depth.l0 k 0 l0_2 (l0_2.length : Int) 0) = some r := h
  clear h
  have H' := Aside0.mk H
  clear H
  go_enter Try.func35, Try.ntmps35
  go_wp2_with (first | ((with_reducible refine gate_dst (N := 1) rfl ?_); refine box_event ?hg (N := 1) ?hd (cs := #[.int .i64 a0_0, .int .i64 a0_1, .slice A0_2 l0_2.length c0_2]) (t := 44) ?hr ?_; (case hd => rfl); (case hg => rfl); (case hr => first | (go_simp; done) | (go_simp; rfl)); intro gb135 hg w2 hbox hb; have n0_ := Aside0.mk (below_step (by repeat (first | (with_reducible first | exact HB.out | apply below_alloc | apply pw_below_drewN | apply below_drew1) | exact HB.out)) hb); have n1_ := Aside0.mk (hbox); have n2_ := Aside0.mk ((by rw [hg]; exact (below_size (by repeat (first | (with_reducible first | exact HB.out | apply below_alloc | apply pw_below_drewN | apply below_drew1) | exact HB.out))) : w.heap.size ≤ gb135)); have n3_ := Aside0.mk ((by rw [hg]; exact (below_size (by repeat (first | (with_reducible first | exact HB.out | apply below_alloc | apply pw_below_drewN | apply below_drew1) | exact HB.out))) : w.heap.size ≤ gb135)); clear HB; have HB := n0_; have BK135 := n1_; have GW135 := n2_; have GE135 := n3_; clear n0_ n1_ n2_ n3_; clear hb hbox hg; have hcz3_0 : w2.cell? ⟨gb135, 0, none⟩ = some (.int .i64 a0_0) := (blk_cell BK135.out 0).trans rfl; have hcz3_1 : w2.cell? ⟨gb135, 1, none⟩ = some (.int .i64 a0_1) := (blk_cell BK135.out 1).trans rfl; have hcz3_2 : w2.cell? ⟨gb135, 2, none⟩ = some (.slice A0_2 l0_2.length c0_2) := (blk_cell BK135.out 2).trans rfl; have hfz3_0 := blk_frozen BK135.out 0; have hfz3_1 := blk_frozen BK135.out 1; have hfz3_2 := blk_frozen BK135.out 2))
  go_loopg [3, 9] k (fun kq v3 v9 w' => ∃ (x3_1 : Int) (x9_1 : Int), v3 = .int .i64 x3_1 ∧ v9 = .int .i64 x9_1 ∧ Aside0 (virgationref02_Depth.l0 kq x3_1 l0_2 (l0_2.length : Int) x9_1 = some r) ∧ Aside0 (kq ≤ k) ∧ Aside0 (w'.heap[gb135]? = some (.cells #[.int .i64 a0_0, .int .i64 a0_1, (.slice A0_2 l0_2.length c0_2)] 44 (0, 0))) ∧ Aside0 (Below w.heap.size w w'))
  case atStart => exact ⟨(0), (0), (by first | rfl | (simp; done) | (simp [*]; done)), (by first | rfl | (simp; done) | (simp [*]; done)), H', ⟨Nat.le_refl _⟩, ⟨by (with_reducible repeat (first | refine blk_drewN ?_ _ | refine blk_drew ?_ | refine blk_alloc ?_ _)); exact BK135.out⟩, ⟨by repeat (first | (with_reducible first | exact HB.out | apply below_alloc | apply pw_below_drewN | apply below_drew1 | refine below_set ?_ GE135.out) | exact HB.out)⟩⟩
  case round =>
    clear H'
    try clear p2
    try clear c3
    try clear hcz3_0
    try clear hcz3_1
    try clear hcz3_2
    try clear hfz3_0
    try clear hfz3_1
    try clear hfz3_2
    obtain ⟨x3_1, x9_1, rfl, rfl, HA, HK1, BK135, HB⟩ := hrel
    cases gk with
    | zero => exact absurd HA.out (by simp [virgationref02_Depth.l0])
    | succ k1 =>
      have H := HA.out
      clear HA
      simp only [virgationref02_Depth.l0] at H
      by_cases c4 : x9_1 < (l0_2.length : Int)
      · rw [if_pos c4] at H
        have c4b0 : decide (x9_1 < (l0_2.length : Int)) = true := decide_eq_true c4
        clear c4
        by_cases c5 : 0 ≤ x9_1
        · rw [if_pos c5] at H
          have c5b0 : decide (0 ≤ x9_1) = true := decide_eq_true c5
          clear c5
          by_cases c6 : x9_1 < (l0_2.length : Int)
          · rw [if_pos c6] at H
            have c6b0 : decide (x9_1 < (l0_2.length : Int)) = true := decide_eq_true c6
            clear c6
            replace H := Option.bind_eq_some_iff.mp H
            obtain ⟨t138, A70, H⟩ := H
            replace H : (virgationref02_Depth.l0 k1 (mx x3_1 t138) l0_2 (l0_2.length : Int) (wrap64 (x9_1 + 1))) = some r := H
            have A7 := Aside0.mk A70
            clear A70
            obtain ⟨ji8, hji8⟩ : ∃ j_ : Int, (mx x3_1 t138) = j_ := ⟨_, rfl⟩
            replace H : (virgationref02_Depth.l0 k1 ji8 l0_2 (l0_2.length : Int) (wrap64 (x9_1 + 1))) = some r := by first | (rw [hji8] at H; exact H) | (simp only [hji8] at H ⊢; exact H)
            (try rw [hji8] at A7)
            have hji8_ : (if x3_1 < t138 then t138 else x3_1) = ji8 := hji8
            have H' := Aside0.mk H
            clear H
            have p136 : 0 ≤ (x9_1 : Int) := of_decide_eq_true (by first | (with_reducible assumption) | assumption)
            have q136 : x9_1 < (l0_2.length : Int) := of_decide_eq_true (by first | (with_reducible assumption) | assumption)
            obtain ⟨ad136, A136_2, c136_2, e136, hx136_0, hx136_1, hx136_2, hl136_2, hi136_2⟩ := at_T44 HR0_2.out x9_1 p136 q136
            cases e136
            replace hx136_0 := (HB.out.cell (World.block_lt_of_cell? w _ hx136_0)).trans hx136_0
            replace hx136_1 := (HB.out.cell (World.block_lt_of_cell? w _ hx136_1)).trans hx136_1
            replace hx136_2 := (HB.out.cell (World.block_lt_of_cell? w _ hx136_2)).trans hx136_2
            have HR136_2 := Aside0.mk hi136_2
            have HC136_2 := Aside0.mk hl136_2
            clear hi136_2 hl136_2
            replace p136 := eq_true p136
            replace q136 := eq_true q136
            go_wp2_with (first | ((with_reducible refine gate_dst (N := 5) rfl ?_); refine box_event ?hg (N := 5) ?hd (cs := #[.int .i64 0, .int .i64 0, .slice none 0 0]) (t := 44) ?hr ?_; (case hd => rfl); (case hg => rfl); (case hr => first | (go_simp; done) | (go_simp; rfl)); intro gb137 hg w9 hbox hb; have n0_ := Aside0.mk (blk_below (g := gb135) (o := .cells #[.int .i64 a0_0, .int .i64 a0_1, .slice (some ad136) l0_2.length c0_2] 44 (0, 0)) (by (with_reducible repeat (first | refine blk_drewN ?_ _ | refine blk_drew ?_ | refine blk_alloc ?_ _)); exact BK135.out) hb); have n1_ := Aside0.mk (below_step (by repeat (first | (with_reducible first | exact HB.out | apply below_alloc | apply pw_below_drewN | apply below_drew1 | refine below_set ?_ GE135.out) | exact HB.out)) hb); have n2_ := Aside0.mk (hbox); have n3_ := Aside0.mk ((by rw [hg]; exact (below_size (by repeat (first | (with_reducible first | exact HB.out | apply below_alloc | apply pw_below_drewN | apply below_drew1 | refine below_set ?_ GE135.out) | exact HB.out))) : w.heap.size ≤ gb137)); have n4_ := Aside0.mk ((by rw [hg]; exact (below_size (by repeat (first | (with_reducible first | exact HB.out | apply below_alloc | apply pw_below_drewN | apply below_drew1 | refine below_set ?_ GE135.out) | exact HB.out))) : w.heap.size ≤ gb137)); have n5_ := Aside0.mk ((by rw [hg]; exact Nat.ne_of_lt (blk_lt (g := gb135) (o := .cells #[.int .i64 a0_0, .int .i64 a0_1, .slice (some ad136) l0_2.length c0_2] 44 (0, 0)) (by (with_reducible repeat (first | refine blk_drewN ?_ _ | refine blk_drew ?_ | refine blk_alloc ?_ _)); exact BK135.out)) : gb135 ≠ gb137)); have n6_ := Aside0.mk ((by rw [hg]; exact Nat.ne_of_gt (blk_lt (g := gb135) (o := .cells #[.int .i64 a0_0, .int .i64 a0_1, .slice (some ad136) l0_2.length c0_2] 44 (0, 0)) (by (with_reducible repeat (first | refine blk_drewN ?_ _ | refine blk_drew ?_ | refine blk_alloc ?_ _)); exact BK135.out)) : gb137 ≠ gb135)); clear BK135; clear HB; have BK135 := n0_; have HB := n1_; have BK137 := n2_; have GW137 := n3_; have GE137 := n4_; have NB135_137 := n5_; have NB137_135 := n6_; clear n0_ n1_ n2_ n3_ n4_ n5_ n6_; clear hb hbox hg; have hnb10 := NB137_135.out; have hnc10 := NB135_137.out; have hcz11_0 : w9.cell? ⟨gb137, 0, none⟩ = some (.int .i64 0) := (blk_cell BK137.out 0).trans rfl; have hcz11_1 : w9.cell? ⟨gb137, 1, none⟩ = some (.int .i64 0) := (blk_cell BK137.out 1).trans rfl; have hcz11_2 : w9.cell? ⟨gb137, 2, none⟩ = some (.slice none 0 0) := (blk_cell BK137.out 2).trans rfl; have hfz11_0 := blk_frozen BK137.out 0; have hfz11_1 := blk_frozen BK137.out 1; have hfz11_2 := blk_frozen BK137.out 2) | ((with_reducible refine gate_callee (f := 35) rfl ?_); refine goesL_ (some 15) rfl rfl Try.func35 (by kernel_rfl) rfl #[.agg #[.int .i64 ((rd_T44 l0_2 x9_1).f0), .int .i64 ((rd_T44 l0_2 x9_1).f1), .slice A136_2 ((rd_T44 l0_2 x9_1).f2).length c136_2]] rfl (by (try simp only [List.map_toArray, List.map_cons, List.map_nil]); first | done | rfl | (simp only [List.length_drop, List.length_take]; rfl)) ?_; (with_reducible refine (ih k1 (by have := HK1.out; omega) ((rd_T44 l0_2 x9_1).f0) ((rd_T44 l0_2 x9_1).f1) _ _ ((rd_T44 l0_2 x9_1).f2) t138 _ ?side1 ?side2 A7.out).mono ?_); (case side1 => exact Kd.C_below HR136_2.out (by repeat (first | (with_reducible first | exact HB.out | apply below_alloc | apply pw_below_drewN | apply below_drew1 | refine below_set ?_ GE135.out | refine below_set ?_ GE137.out) | exact HB.out))); (case side2 => exact HC136_2.out); rintro e w12 ⟨rfl, hb⟩; refine ⟨_, rfl, ?_⟩; have n0_ := Aside0.mk (blk_below (g := gb135) (o := .cells #[.int .i64 a0_0, .int .i64 a0_1, .slice (some ad136) l0_2.length c0_2] 44 (0, 0)) (by (with_reducible repeat (first | refine blk_drewN ?_ _ | refine blk_drew ?_ | refine blk_alloc ?_ _)); refine blk_far ?_ NB135_137.out _; (with_reducible repeat (first | refine blk_drewN ?_ _ | refine blk_drew ?_ | refine blk_alloc ?_ _)); refine blk_far ?_ NB135_137.out _; (with_reducible repeat (first | refine blk_drewN ?_ _ | refine blk_drew ?_ | refine blk_alloc ?_ _)); refine blk_far ?_ NB135_137.out _; (with_reducible repeat (first | refine blk_drewN ?_ _ | refine blk_drew ?_ | refine blk_alloc ?_ _)); exact BK135.out) hb); have n1_ := Aside0.mk (blk_below (g := gb137) (o := .cells #[.int .i64 ((rd_T44 l0_2 x9_1).f0), .int .i64 ((rd_T44 l0_2 x9_1).f1), .slice A136_2 ((rd_T44 l0_2 x9_1).f2).length c136_2] 44 (0, 0)) (by (with_reducible repeat (first | refine blk_drewN ?_ _ | refine blk_drew ?_ | refine blk_alloc ?_ _)); refine blk_put (cs := #[.int .i64 ((rd_T44 l0_2 x9_1).f0), .int .i64 ((rd_T44 l0_2 x9_1).f1), .slice none 0 0]) ?_ 2 _ rfl; (with_reducible repeat (first | refine blk_drewN ?_ _ | refine blk_drew ?_ | refine blk_alloc ?_ _)); refine blk_put (cs := #[.int .i64 ((rd_T44 l0_2 x9_1).f0), .int .i64 0, .slice none 0 0]) ?_ 1 _ rfl; (with_reducible repeat (first | refine blk_drewN ?_ _ | refine blk_drew ?_ | refine blk_alloc ?_ _)); refine blk_put (cs := #[.int .i64 0, .int .i64 0, .slice none 0 0]) ?_ 0 _ rfl; (with_reducible repeat (first | refine blk_drewN ?_ _ | refine blk_drew ?_ | refine blk_alloc ?_ _)); exact BK137.out) hb); have n2_ := Aside0.mk (below_step (by repeat (first | (with_reducible first | exact HB.out | apply below_alloc | apply pw_below_drewN | apply below_drew1 | refine below_set ?_ GE135.out | refine below_set ?_ GE137.out) | exact HB.out)) hb); clear BK135; clear BK137; clear HB; have BK135 := n0_; have BK137 := n1_; have HB := n2_; clear n0_ n1_ n2_; (try clear hb); (try clear hb2); (try clear hk); (try clear hi)))
            go_roundg k1
            case measure => have := HK1.out; omega
            case rel => exact ⟨(ji8), (wrap64 (x9_1 + 1)), (by first | rfl | (simp; done) | (simp only [← hji8] <;> (first | rfl | simp)) | (simp [*]; done)), (by first | rfl | (simp; done) | (simp [*]; done)), H', ⟨by have := HK1.out; omega⟩, ⟨by (with_reducible repeat (first | refine blk_drewN ?_ _ | refine blk_drew ?_ | refine blk_alloc ?_ _)); exact BK135.out⟩, ⟨by repeat (first | (with_reducible first | exact HB.out | apply below_alloc | apply pw_below_drewN | apply below_drew1 | refine below_set ?_ GE135.out | refine below_set ?_ GE137.out) | exact HB.out)⟩⟩
          · rw [if_neg c6] at H
            exact absurd H (by simp)
        · rw [if_neg c5] at H
          exact absurd H (by simp)
      · rw [if_neg c4] at H
        have c4b0 : decide (x9_1 < (l0_2.length : Int)) = false := decide_eq_false c4
        clear c4
        obtain rfl := Option.some.inj H
        go_wp2
        go_ret
        exact ⟨by first | rfl | (simp [errW_none, errW_some] <;> rfl) | (simp [*, errW_none, errW_some] <;> rfl), by repeat (first | (with_reducible first | exact HB.out | apply below_alloc | apply pw_below_drewN | apply below_drew1 | refine below_set ?_ GE135.out) | exact HB.out)⟩
end Go.Proofs.Ytfhgoebgnilfaaa.I
namespace Go.Proofs.Ytfhgoebgnilfaaa.I
open Go.RowKit Go.Proofs.YtfhgoebgnilfaaaW.PrintWords Go.Proofs.YtfhgoebgnilfaaaW.PrintLast Go.Proofs.YtfhgoebgnilfaaaW.PrintMore
attribute [local go_sem] max2_int min2_int max_two min_two max_three min_three max_four min_four   -- for this text's walks alone
set_option linter.unusedVariables false
set_option linter.unusedSimpArgs false
mutual
def virgationref04_exist.j0 : Nat → Int → Int → Int → Int → Int → Int → List (S44) → Option (Bool)
  | 0, _, _, _, _, _, _, _ => none
  | k + 1, x1, x2, x3, x9, x140000, x140001, x140002 => if x140001 < 0 then (virgationref04_exist.j1 k x1 x2 x3 true x140000 x140001 x140002) else (virgationref04_exist.j1 k x1 x2 x3 (decide (x140001 ≥ x9)) x140000 x140001 x140002)
def virgationref04_exist.j1 : Nat → Int → Int → Int → Bool → Int → Int → List (S44) → Option (Bool)
  | 0, _, _, _, _, _, _, _ => none
  | k + 1, x1, x2, x3, x31, x140000, x140001, x140002 => if x31 = true then (some false) else (virgationref04_exist.l0 k x1 x2 x3 x140002 (x140002.length : Int) 0)
def virgationref04_exist.l0 : Nat → Int → Int → Int → List (S44) → Int → Int → Option (Bool)
  | 0, _, _, _, _, _, _ => none
  | k + 1, x1, x2, x3, x33, x34, x35 => if x35 < x34 then (if 0 ≤ x35 then (if x35 < (x33.length : Int) then ((virgationref04_exist.f k ((rd_T44 x33 x35).f0) ((rd_T44 x33 x35).f1) ((rd_T44 x33 x35).f2) x1 x2 x3).bind fun t142 => (if t142 = true then (virgationref04_exist.l0 k x1 x2 x3 x33 x34 (wrap64 (x35 + 1))) else (some false))) else (none)) else (none)) else (some true)
def virgationref04_exist.f : Nat → Int → Int → List (S44) → Int → Int → Int → Option (Bool)
  | 0, _, _, _, _, _, _ => none
  | k + 1, a0_0, a0_1, l0_2, a1, a2, a3 => if a0_0 = 0 then (virgationref04_exist.j0 k a1 a2 a3 a1 a0_0 a0_1 l0_2) else (if a0_0 = 1 then (virgationref04_exist.j0 k a1 a2 a3 a2 a0_0 a0_1 l0_2) else (if a0_0 = 2 then (virgationref04_exist.j0 k a1 a2 a3 a3 a0_0 a0_1 l0_2) else (virgationref04_exist.j0 k a1 a2 a3 0 a0_0 a0_1 l0_2)))
end
theorem virgationref04_exist.mono_l : ∀ k, (∀ y0 y1 y2 y3 y4 y5, LeO (virgationref04_exist.f k y0 y1 y2 y3 y4 y5) (virgationref04_exist.f (k + 1) y0 y1 y2 y3 y4 y5)) ∧ (∀ y0 y1 y2 y3 y4 y5 y6, LeO (virgationref04_exist.j0 k y0 y1 y2 y3 y4 y5 y6) (virgationref04_exist.j0 (k + 1) y0 y1 y2 y3 y4 y5 y6)) ∧ (∀ y0 y1 y2 y3 y4 y5 y6, LeO (virgationref04_exist.j1 k y0 y1 y2 y3 y4 y5 y6) (virgationref04_exist.j1 (k + 1) y0 y1 y2 y3 y4 y5 y6)) ∧ (∀ y0 y1 y2 y3 y4 y5, LeO (virgationref04_exist.l0 k y0 y1 y2 y3 y4 y5) (virgationref04_exist.l0 (k + 1) y0 y1 y2 y3 y4 y5))
  | 0 => ⟨fun _ _ _ _ _ _ r h => by simp [virgationref04_exist.f] at h, fun _ _ _ _ _ _ _ r h => by simp [virgationref04_exist.j0] at h, fun _ _ _ _ _ _ _ r h => by simp [virgationref04_exist.j1] at h, fun _ _ _ _ _ _ r h => by simp [virgationref04_exist.l0] at h⟩
  | k + 1 => by
    obtain ⟨ih0, ih1, ih2, ih3⟩ := virgationref04_exist.mono_l k
    refine ⟨?_, ?_, ?_, ?_⟩
    · intro y0 y1 y2 y3 y4 y5
      unfold virgationref04_exist.f
      repeat' first
      | (with_reducible exact ih0 _ _ _ _ _ _)
      | (with_reducible exact ih1 _ _ _ _ _ _ _)
      | (with_reducible exact ih2 _ _ _ _ _ _ _)
      | (with_reducible exact ih3 _ _ _ _ _ _)
      | (with_reducible exact LeO.refl _)
      | (with_reducible exact LeO.none _)
      | (with_reducible refine LeO.ite ?_ ?_)
      | (with_reducible refine LeO.bind ?_ (fun _ => ?_))
      | exact ih0 _ _ _ _ _ _
      | exact ih1 _ _ _ _ _ _ _
      | exact ih2 _ _ _ _ _ _ _
      | exact ih3 _ _ _ _ _ _
      | exact LeO.none _
      | refine LeO.ite ?_ ?_
      | refine LeO.bind ?_ (fun _ => ?_)
    · intro y0 y1 y2 y3 y4 y5 y6
      unfold virgationref04_exist.j0
      repeat' first
      | (with_reducible exact ih0 _ _ _ _ _ _)
      | (with_reducible exact ih1 _ _ _ _ _ _ _)
      | (with_reducible exact ih2 _ _ _ _ _ _ _)
      | (with_reducible exact ih3 _ _ _ _ _ _)
      | (with_reducible exact LeO.refl _)
      | (with_reducible exact LeO.none _)
      | (with_reducible refine LeO.ite ?_ ?_)
      | (with_reducible refine LeO.bind ?_ (fun _ => ?_))
      | exact ih0 _ _ _ _ _ _
      | exact ih1 _ _ _ _ _ _ _
      | exact ih2 _ _ _ _ _ _ _
      | exact ih3 _ _ _ _ _ _
      | exact LeO.none _
      | refine LeO.ite ?_ ?_
      | refine LeO.bind ?_ (fun _ => ?_)
    · intro y0 y1 y2 y3 y4 y5 y6
      unfold virgationref04_exist.j1
      repeat' first
      | (with_reducible exact ih0 _ _ _ _ _ _)
      | (with_reducible exact ih1 _ _ _ _ _ _ _)
      | (with_reducible exact ih2 _ _ _ _ _ _ _)
      | (with_reducible exact ih3 _ _ _ _ _ _)
      | (with_reducible exact LeO.refl _)
      | (with_reducible exact LeO.none _)
      | (with_reducible refine LeO.ite ?_ ?_)
      | (with_reducible refine LeO.bind ?_ (fun _ => ?_))
      | exact ih0 _ _ _ _ _ _
      | exact ih1 _ _ _ _ _ _ _
      | exact ih2 _ _ _ _ _ _ _
      | exact ih3 _ _ _ _ _ _
      | exact LeO.none _
      | refine LeO.ite ?_ ?_
      | refine LeO.bind ?_ (fun _ => ?_)
    · intro y0 y1 y2 y3 y4 y5
      unfold virgationref04_exist.l0
      repeat' first
      | (with_reducible exact ih0 _ _ _ _ _ _)
      | (with_reducible exact ih1 _ _ _ _ _ _ _)
      | (with_reducible exact ih2 _ _ _ _ _ _ _)
      | (with_reducible exact ih3 _ _ _ _ _ _)
      | (with_reducible exact LeO.refl _)
      | (with_reducible exact LeO.none _)
      | (with_reducible refine LeO.ite ?_ ?_)
      | (with_reducible refine LeO.bind ?_ (fun _ => ?_))
      | exact ih0 _ _ _ _ _ _
      | exact ih1 _ _ _ _ _ _ _
      | exact ih2 _ _ _ _ _ _ _
      | exact ih3 _ _ _ _ _ _
      | exact LeO.none _
      | refine LeO.ite ?_ ?_
      | refine LeO.bind ?_ (fun _ => ?_)
theorem virgationref04_exist.mono : ∀ a0 a1 a2 a3 a4 a5 k, LeO (virgationref04_exist.f k a0 a1 a2 a3 a4 a5) (virgationref04_exist.f (k + 1) a0 a1 a2 a3 a4 a5) := by
  intro a0 a1 a2 a3 a4 a5 k
  obtain ⟨ih0, ih1, ih2, ih3⟩ := virgationref04_exist.mono_l k
  exact ih0 a0 a1 a2 a3 a4 a5
set_option maxHeartbeats 8000000 in
set_option maxRecDepth 100000 in
theorem virgationref04_exist.calls (k : Nat) : ∀ (a0_0 : Int) (a0_1 : Int) (A0_2 : Option Addr) (c0_2 : Nat) (l0_2 : List (S44)) (a1 : Int) (a2 : Int) (a3 : Int) (r : Bool) (w : World) (hr0_2 : Kd.C k44 w A0_2 l0_2.length l0_2) (hc0_2 : l0_2.length ≤ c0_2) (h : virgationref04_exist.f k a0_0 a0_1 l0_2 a1 a2 a3 = some r),
    Calls Try.prog 36 #[.agg #[.int .i64 a0_0, .int .i64 a0_1, .slice A0_2 l0_2.length c0_2], .int .i64 a1, .int .i64 a2, .int .i64 a3] w fun e w' => e = .returned (.bool r) ∧ Below w.heap.size w w' := by
  induction k using Nat.strongRecOn with
  | _ k ih =>
  intro a0_0 a0_1 A0_2 c0_2 l0_2 a1 a2 a3 r w hr0_2 hc0_2 h
  cases k with
  | zero => exact absurd h (by simp [virgationref04_exist.f])
  | succ k =>
  simp only [virgationref04_exist.f] at h
  have hu44 := Try.underlying44
  have HR0_2 := Aside0.mk hr0_2
  have HC0_2 := Aside0.mk hc0_2
  clear hr0_2 hc0_2
  have HB := Aside0.mk (Below.refl w.heap.size w)
  have H : (if a0_0 = 0 then (virgationref04_exist.j0 k a1 a2 a3 a1 a0_0 a0_1 l0_2) else (if a0_0 = 1 then (virgationref04_exist.j0 k a1 a2 a3 a2 a0_0 a0_1 l0_2) else (if a0_0 = 2 then (virgationref04_exist.j0 k a1 a2 a3 a3 a0_0 a0_1 l0_2) else (virgationref04_exist.j0 k a1 a2 a3 0 a0_0 a0_1 l0_2)))) = some r := h
  clear h
  have HC5 := Aside0.mk H
  clear H
  go_enter Try.func36, Try.ntmps36
  go_upto_block 0 with (first | ((with_reducible refine gate_dst (N := 4) rfl ?_); refine box_event ?hg (N := 4) ?hd (cs := #[.int .i64 a0_0, .int .i64 a0_1, .slice A0_2 l0_2.length c0_2]) (t := 44) ?hr ?_; (case hd => rfl); (case hg => rfl); (case hr => first | (go_simp; done) | (go_simp; rfl)); intro gb139 hg w6 hbox hb; have n0_ := Aside0.mk (below_step (by repeat (first | (with_reducible first | exact HB.out | apply below_alloc | apply pw_below_drewN | apply below_drew1) | exact HB.out)) hb); have n1_ := Aside0.mk (hbox); have n2_ := Aside0.mk ((by rw [hg]; exact (below_size (by repeat (first | (with_reducible first | exact HB.out | apply below_alloc | apply pw_below_drewN | apply below_drew1) | exact HB.out))) : w.heap.size ≤ gb139)); have n3_ := Aside0.mk ((by rw [hg]; exact (below_size (by repeat (first | (with_reducible first | exact HB.out | apply below_alloc | apply pw_below_drewN | apply below_drew1) | exact HB.out))) : w.heap.size ≤ gb139)); clear HB; have HB := n0_; have BK139 := n1_; have GW139 := n2_; have GE139 := n3_; clear n0_ n1_ n2_ n3_; clear hb hbox hg; have hcz7_0 : w6.cell? ⟨gb139, 0, none⟩ = some (.int .i64 a0_0) := (blk_cell BK139.out 0).trans rfl; have hcz7_1 : w6.cell? ⟨gb139, 1, none⟩ = some (.int .i64 a0_1) := (blk_cell BK139.out 1).trans rfl; have hcz7_2 : w6.cell? ⟨gb139, 2, none⟩ = some (.slice A0_2 l0_2.length c0_2) := (blk_cell BK139.out 2).trans rfl; have hfz7_0 := blk_frozen BK139.out 0; have hfz7_1 := blk_frozen BK139.out 1; have hfz7_2 := blk_frozen BK139.out 2))
  (try simp only [Act.put, List.setIfInBounds_toArray, List.set_cons_zero, List.set_cons_succ])
  go_cut [9] (fun v9 wc => ∃ (kq : Nat) (x9_4 : Int), v9 = .int .i64 x9_4 ∧ Aside0 (virgationref04_exist.j0 kq a1 a2 a3 x9_4 a0_0 a0_1 l0_2 = some r) ∧ Aside0 (kq ≤ k) ∧ Aside0 (wc.heap[gb139]? = some (.cells #[.int .i64 a0_0, .int .i64 a0_1, (.slice A0_2 l0_2.length c0_2)] 44 (0, 0))) ∧ Aside0 (Below w.heap.size w wc))
  case first =>
    have H := HC5.out
    clear HC5
    by_cases c8 : a0_0 = 0
    · rw [if_pos c8] at H
      have c8b0 : (a0_0 == 0) = true := beq_iff_eq.mpr c8
      have c8b1 : (a0_0 != 0) = false := bne_eq_false_iff_eq.mpr c8
      clear c8
      (first | rw [c8b0] | (simp only [i64_w, i32_w]; rw [c8b0]) | skip)
      have H' := Aside0.mk H
      clear H
      go_wp2
      go_meet
      case rel => exact ⟨_, (a1), (by first | rfl | (simp; done) | (simp [*]; done)), H', ⟨by first | omega | exact Nat.le_refl _⟩, ⟨by (with_reducible repeat (first | refine blk_drewN ?_ _ | refine blk_drew ?_ | refine blk_alloc ?_ _)); exact BK139.out⟩, ⟨by repeat (first | (with_reducible first | exact HB.out | apply below_alloc | apply pw_below_drewN | apply below_drew1 | refine below_set ?_ GE139.out) | exact HB.out)⟩⟩
    · rw [if_neg c8] at H
      have c8b0 : (a0_0 == 0) = false := beq_eq_false_iff_ne.mpr c8
      have c8b1 : (a0_0 != 0) = true := bne_iff_ne.mpr c8
      (first | rw [c8b0] | (simp only [i64_w, i32_w]; rw [c8b0]) | skip)
      by_cases c9 : a0_0 = 1
      · rw [if_pos c9] at H
        have c9b0 : (a0_0 == 1) = true := beq_iff_eq.mpr c9
        have c9b1 : (a0_0 != 1) = false := bne_eq_false_iff_eq.mpr c9
        clear c9
        have H' := Aside0.mk H
        clear H
        go_wp2
        go_meet
        case rel => exact ⟨_, (a2), (by first | rfl | (simp; done) | (simp [*]; done)), H', ⟨by first | omega | exact Nat.le_refl _⟩, ⟨by (with_reducible repeat (first | refine blk_drewN ?_ _ | refine blk_drew ?_ | refine blk_alloc ?_ _)); exact BK139.out⟩, ⟨by repeat (first | (with_reducible first | exact HB.out | apply below_alloc | apply pw_below_drewN | apply below_drew1 | refine below_set ?_ GE139.out) | exact HB.out)⟩⟩
      · rw [if_neg c9] at H
        have c9b0 : (a0_0 == 1) = false := beq_eq_false_iff_ne.mpr c9
        have c9b1 : (a0_0 != 1) = true := bne_iff_ne.mpr c9
        by_cases c10 : a0_0 = 2
        · rw [if_pos c10] at H
          have c10b0 : (a0_0 == 2) = true := beq_iff_eq.mpr c10
          have c10b1 : (a0_0 != 2) = false := bne_eq_false_iff_eq.mpr c10
          clear c10
          have H' := Aside0.mk H
          clear H
          go_wp2
          go_meet
          case rel => exact ⟨_, (a3), (by first | rfl | (simp; done) | (simp [*]; done)), H', ⟨by first | omega | exact Nat.le_refl _⟩, ⟨by (with_reducible repeat (first | refine blk_drewN ?_ _ | refine blk_drew ?_ | refine blk_alloc ?_ _)); exact BK139.out⟩, ⟨by repeat (first | (with_reducible first | exact HB.out | apply below_alloc | apply pw_below_drewN | apply below_drew1 | refine below_set ?_ GE139.out) | exact HB.out)⟩⟩
        · rw [if_neg c10] at H
          have c10b0 : (a0_0 == 2) = false := beq_eq_false_iff_ne.mpr c10
          have c10b1 : (a0_0 != 2) = true := bne_iff_ne.mpr c10
          have H' := Aside0.mk H
          clear H
          go_wp2
          go_meet
          case rel => exact ⟨_, (0), (by first | rfl | (simp; done) | (simp [*]; done)), H', ⟨by first | omega | exact Nat.le_refl _⟩, ⟨by (with_reducible repeat (first | refine blk_drewN ?_ _ | refine blk_drew ?_ | refine blk_alloc ?_ _)); exact BK139.out⟩, ⟨by repeat (first | (with_reducible first | exact HB.out | apply below_alloc | apply pw_below_drewN | apply below_drew1 | refine below_set ?_ GE139.out) | exact HB.out)⟩⟩
  case rest =>
    clear HC5
    try clear c1
    try clear p2
    try clear c3
    try clear c8
    try clear c8b0
    try clear c8b1
    try clear c9
    try clear c9b0
    try clear c9b1
    try clear c10
    try clear c10b0
    try clear c10b1
    try clear hcz7_0
    try clear hcz7_1
    try clear hcz7_2
    try clear hfz7_0
    try clear hfz7_1
    try clear hfz7_2
    obtain ⟨kq, x9_4, rfl, HA, HJ4, BK139, HB⟩ := hcut
    cases kq with
    | zero => exact absurd HA.out (by simp [virgationref04_exist.j0])
    | succ kj4 =>
      have H := HA.out
      clear HA
      simp only [virgationref04_exist.j0] at H
      have HC11 := Aside0.mk H
      clear H
      go_upto_region 9 with (fail)
      go_cut [31] (fun v31 wc => ∃ (kq : Nat) (x31_10 : Bool), v31 = .bool x31_10 ∧ Aside0 (virgationref04_exist.j1 kq a1 a2 a3 x31_10 a0_0 a0_1 l0_2 = some r) ∧ Aside0 (kq ≤ kj4) ∧ Aside0 (wc.heap[gb139]? = some (.cells #[.int .i64 a0_0, .int .i64 a0_1, (.slice A0_2 l0_2.length c0_2)] 44 (0, 0))) ∧ Aside0 (Below w.heap.size w wc))
      case first =>
        have H := HC11.out
        clear HC11
        by_cases c12 : a0_1 < 0
        · rw [if_pos c12] at H
          have c12b0 : decide (a0_1 < 0) = true := decide_eq_true c12
          clear c12
          (first | rw [c12b0] | (simp only [i64_w, i32_w]; rw [c12b0]) | skip)
          have H' := Aside0.mk H
          clear H
          have hcz13_0 : wc.cell? ⟨gb139, 0, none⟩ = some (.int .i64 a0_0) := (blk_cell BK139.out 0).trans rfl
          have hcz13_1 : wc.cell? ⟨gb139, 1, none⟩ = some (.int .i64 a0_1) := (blk_cell BK139.out 1).trans rfl
          have hcz13_2 : wc.cell? ⟨gb139, 2, none⟩ = some (.slice A0_2 l0_2.length c0_2) := (blk_cell BK139.out 2).trans rfl
          have hfz13_0 := blk_frozen BK139.out 0
          have hfz13_1 := blk_frozen BK139.out 1
          have hfz13_2 := blk_frozen BK139.out 2
          go_wp2
          go_meet
          case rel => exact ⟨_, (true), (by first | rfl | (simp; done) | (simp [*]; done)), H', ⟨by have := HJ4.out; first | omega | exact Nat.le_refl _⟩, ⟨by (with_reducible repeat (first | refine blk_drewN ?_ _ | refine blk_drew ?_ | refine blk_alloc ?_ _)); exact BK139.out⟩, ⟨by repeat (first | (with_reducible first | exact HB.out | apply below_alloc | apply pw_below_drewN | apply below_drew1 | refine below_set ?_ GE139.out) | exact HB.out)⟩⟩
        · rw [if_neg c12] at H
          have c12b0 : decide (a0_1 < 0) = false := decide_eq_false c12
          clear c12
          (first | rw [c12b0] | (simp only [i64_w, i32_w]; rw [c12b0]) | skip)
          have H' := Aside0.mk H
          clear H
          have hcz14_0 : wc.cell? ⟨gb139, 0, none⟩ = some (.int .i64 a0_0) := (blk_cell BK139.out 0).trans rfl
          have hcz14_1 : wc.cell? ⟨gb139, 1, none⟩ = some (.int .i64 a0_1) := (blk_cell BK139.out 1).trans rfl
          have hcz14_2 : wc.cell? ⟨gb139, 2, none⟩ = some (.slice A0_2 l0_2.length c0_2) := (blk_cell BK139.out 2).trans rfl
          have hfz14_0 := blk_frozen BK139.out 0
          have hfz14_1 := blk_frozen BK139.out 1
          have hfz14_2 := blk_frozen BK139.out 2
          go_wp2
          go_meet
          case rel => exact ⟨_, (decide (a0_1 ≥ x9_4)), (by first | rfl | (simp; done) | (simp [*]; done)), H', ⟨by have := HJ4.out; first | omega | exact Nat.le_refl _⟩, ⟨by (with_reducible repeat (first | refine blk_drewN ?_ _ | refine blk_drew ?_ | refine blk_alloc ?_ _)); exact BK139.out⟩, ⟨by repeat (first | (with_reducible first | exact HB.out | apply below_alloc | apply pw_below_drewN | apply below_drew1 | refine below_set ?_ GE139.out) | exact HB.out)⟩⟩
      case rest =>
        clear HC11
        try clear c1
        try clear p2
        try clear c3
        try clear c8
        try clear c8b0
        try clear c8b1
        try clear c9
        try clear c9b0
        try clear c9b1
        try clear c10
        try clear c10b0
        try clear c10b1
        try clear c12
        try clear c12b0
        try clear hcz13_0
        try clear hcz13_1
        try clear hcz13_2
        try clear hcz14_0
        try clear hcz14_1
        try clear hcz14_2
        try clear hcz7_0
        try clear hcz7_1
        try clear hcz7_2
        try clear hfz13_0
        try clear hfz13_1
        try clear hfz13_2
        try clear hfz14_0
        try clear hfz14_1
        try clear hfz14_2
        try clear hfz7_0
        try clear hfz7_1
        try clear hfz7_2
        try clear p2
        obtain ⟨kq, x31_10, rfl, HA, HJ10, BK139, HB⟩ := hcut
        cases kq with
        | zero => exact absurd HA.out (by simp [virgationref04_exist.j1])
        | succ kj10 =>
          have H := HA.out
          clear HA
          simp only [virgationref04_exist.j1] at H
          by_cases c15 : x31_10 = true
          · subst c15
            have H1 : (some false) = some r := by rw [if_pos rfl] at H; exact H
            clear H
            have H := H1
            clear H1
            obtain rfl := Option.some.inj H
            go_wp2
            go_ret
            exact ⟨by first | rfl | (simp [errW_none, errW_some] <;> rfl) | (simp [*, errW_none, errW_some] <;> rfl), by repeat (first | (with_reducible first | exact HB.out | apply below_alloc | apply pw_below_drewN | apply below_drew1 | refine below_set ?_ GE139.out) | exact HB.out)⟩
          · replace c15 := Bool.eq_false_iff.mpr c15
            subst c15
            have H1 : (virgationref04_exist.l0 kj10 a1 a2 a3 l0_2 (l0_2.length : Int) 0) = some r := by rw [if_neg (show ¬ (false = true) by decide)] at H; exact H
            clear H
            have H := H1
            clear H1
            have H' := Aside0.mk H
            clear H
            have hcz16_0 : wc.cell? ⟨gb139, 0, none⟩ = some (.int .i64 a0_0) := (blk_cell BK139.out 0).trans rfl
            have hcz16_1 : wc.cell? ⟨gb139, 1, none⟩ = some (.int .i64 a0_1) := (blk_cell BK139.out 1).trans rfl
            have hcz16_2 : wc.cell? ⟨gb139, 2, none⟩ = some (.slice A0_2 l0_2.length c0_2) := (blk_cell BK139.out 2).trans rfl
            have hfz16_0 := blk_frozen BK139.out 0
            have hfz16_1 := blk_frozen BK139.out 1
            have hfz16_2 := blk_frozen BK139.out 2
            go_wp2
            go_loopg [35] kj10 (fun kq v35 w' => ∃ (x35_3 : Int), v35 = .int .i64 x35_3 ∧ Aside0 (virgationref04_exist.l0 kq a1 a2 a3 l0_2 (l0_2.length : Int) x35_3 = some r) ∧ Aside0 (kq ≤ kj10) ∧ Aside0 (w'.heap[gb139]? = some (.cells #[.int .i64 a0_0, .int .i64 a0_1, (.slice A0_2 l0_2.length c0_2)] 44 (0, 0))) ∧ Aside0 (Below w.heap.size w w'))
            case atStart => exact ⟨(0), (by first | rfl | (simp; done) | (simp [*]; done)), H', ⟨Nat.le_refl _⟩, ⟨by (with_reducible repeat (first | refine blk_drewN ?_ _ | refine blk_drew ?_ | refine blk_alloc ?_ _)); exact BK139.out⟩, ⟨by repeat (first | (with_reducible first | exact HB.out | apply below_alloc | apply pw_below_drewN | apply below_drew1 | refine below_set ?_ GE139.out) | exact HB.out)⟩⟩
            case round =>
              clear H'
              try clear c1
              try clear p2
              try clear c3
              try clear c8
              try clear c8b0
              try clear c8b1
              try clear c9
              try clear c9b0
              try clear c9b1
              try clear c10
              try clear c10b0
              try clear c10b1
              try clear c12
              try clear c12b0
              try clear c15
              try clear hcz13_0
              try clear hcz13_1
              try clear hcz13_2
              try clear hcz14_0
              try clear hcz14_1
              try clear hcz14_2
              try clear hcz16_0
              try clear hcz16_1
              try clear hcz16_2
              try clear hcz7_0
              try clear hcz7_1
              try clear hcz7_2
              try clear hfz13_0
              try clear hfz13_1
              try clear hfz13_2
              try clear hfz14_0
              try clear hfz14_1
              try clear hfz14_2
              try clear hfz16_0
              try clear hfz16_1
              try clear hfz16_2
              try clear hfz7_0
              try clear hfz7_1
              try clear hfz7_2
              try clear p2
              obtain ⟨x35_3, rfl, HA, HK3, BK139, HB⟩ := hrel
              cases gk with
              | zero => exact absurd HA.out (by simp [virgationref04_exist.l0])
              | succ k3 =>
                have H := HA.out
                clear HA
                simp only [virgationref04_exist.l0] at H
                by_cases c17 : x35_3 < (l0_2.length : Int)
                · rw [if_pos c17] at H
                  have c17b0 : decide (x35_3 < (l0_2.length : Int)) = true := decide_eq_true c17
                  clear c17
                  by_cases c18 : 0 ≤ x35_3
                  · rw [if_pos c18] at H
                    have c18b0 : decide (0 ≤ x35_3) = true := decide_eq_true c18
                    clear c18
                    by_cases c19 : x35_3 < (l0_2.length : Int)
                    · rw [if_pos c19] at H
                      have c19b0 : decide (x35_3 < (l0_2.length : Int)) = true := decide_eq_true c19
                      clear c19
                      replace H := Option.bind_eq_some_iff.mp H
                      obtain ⟨t142, A200, H⟩ := H
                      replace H : (if t142 = true then (virgationref04_exist.l0 k3 a1 a2 a3 l0_2 (l0_2.length : Int) (wrap64 (x35_3 + 1))) else (some false)) = some r := H
                      have A20 := Aside0.mk A200
                      clear A200
                      by_cases c21 : t142 = true
                      · subst c21
                        have H1 : (virgationref04_exist.l0 k3 a1 a2 a3 l0_2 (l0_2.length : Int) (wrap64 (x35_3 + 1))) = some r := by rw [if_pos rfl] at H; exact H
                        clear H
                        have H := H1
                        clear H1
                        have H' := Aside0.mk H
                        clear H
                        have p140 : 0 ≤ (x35_3 : Int) := of_decide_eq_true (by first | (with_reducible assumption) | assumption)
                        have q140 : x35_3 < (l0_2.length : Int) := of_decide_eq_true (by first | (with_reducible assumption) | assumption)
                        obtain ⟨ad140, A140_2, c140_2, e140, hx140_0, hx140_1, hx140_2, hl140_2, hi140_2⟩ := at_T44 HR0_2.out x35_3 p140 q140
                        cases e140
                        replace hx140_0 := (HB.out.cell (World.block_lt_of_cell? w _ hx140_0)).trans hx140_0
                        replace hx140_1 := (HB.out.cell (World.block_lt_of_cell? w _ hx140_1)).trans hx140_1
                        replace hx140_2 := (HB.out.cell (World.block_lt_of_cell? w _ hx140_2)).trans hx140_2
                        have HR140_2 := Aside0.mk hi140_2
                        have HC140_2 := Aside0.mk hl140_2
                        clear hi140_2 hl140_2
                        replace p140 := eq_true p140
                        replace q140 := eq_true q140
                        go_wp2_with (first | ((with_reducible refine gate_dst (N := 11) rfl ?_); refine box_event ?hg (N := 11) ?hd (cs := #[.int .i64 0, .int .i64 0, .slice none 0 0]) (t := 44) ?hr ?_; (case hd => rfl); (case hg => rfl); (case hr => first | (go_simp; done) | (go_simp; rfl)); intro gb141 hg w22 hbox hb; have n0_ := Aside0.mk (blk_below (g := gb139) (o := .cells #[.int .i64 a0_0, .int .i64 a0_1, .slice (some ad140) l0_2.length c0_2] 44 (0, 0)) (by (with_reducible repeat (first | refine blk_drewN ?_ _ | refine blk_drew ?_ | refine blk_alloc ?_ _)); exact BK139.out) hb); have n1_ := Aside0.mk (below_step (by repeat (first | (with_reducible first | exact HB.out | apply below_alloc | apply pw_below_drewN | apply below_drew1 | refine below_set ?_ GE139.out) | exact HB.out)) hb); have n2_ := Aside0.mk (hbox); have n3_ := Aside0.mk ((by rw [hg]; exact (below_size (by repeat (first | (with_reducible first | exact HB.out | apply below_alloc | apply pw_below_drewN | apply below_drew1 | refine below_set ?_ GE139.out) | exact HB.out))) : w.heap.size ≤ gb141)); have n4_ := Aside0.mk ((by rw [hg]; exact (below_size (by repeat (first | (with_reducible first | exact HB.out | apply below_alloc | apply pw_below_drewN | apply below_drew1 | refine below_set ?_ GE139.out) | exact HB.out))) : w.heap.size ≤ gb141)); have n5_ := Aside0.mk ((by rw [hg]; exact Nat.ne_of_lt (blk_lt (g := gb139) (o := .cells #[.int .i64 a0_0, .int .i64 a0_1, .slice (some ad140) l0_2.length c0_2] 44 (0, 0)) (by (with_reducible repeat (first | refine blk_drewN ?_ _ | refine blk_drew ?_ | refine blk_alloc ?_ _)); exact BK139.out)) : gb139 ≠ gb141)); have n6_ := Aside0.mk ((by rw [hg]; exact Nat.ne_of_gt (blk_lt (g := gb139) (o := .cells #[.int .i64 a0_0, .int .i64 a0_1, .slice (some ad140) l0_2.length c0_2] 44 (0, 0)) (by (with_reducible repeat (first | refine blk_drewN ?_ _ | refine blk_drew ?_ | refine blk_alloc ?_ _)); exact BK139.out)) : gb141 ≠ gb139)); clear BK139; clear HB; have BK139 := n0_; have HB := n1_; have BK141 := n2_; have GW141 := n3_; have GE141 := n4_; have NB139_141 := n5_; have NB141_139 := n6_; clear n0_ n1_ n2_ n3_ n4_ n5_ n6_; clear hb hbox hg; have hnb23 := NB141_139.out; have hnc23 := NB139_141.out; have hcz24_0 : w22.cell? ⟨gb141, 0, none⟩ = some (.int .i64 0) := (blk_cell BK141.out 0).trans rfl; have hcz24_1 : w22.cell? ⟨gb141, 1, none⟩ = some (.int .i64 0) := (blk_cell BK141.out 1).trans rfl; have hcz24_2 : w22.cell? ⟨gb141, 2, none⟩ = some (.slice none 0 0) := (blk_cell BK141.out 2).trans rfl; have hfz24_0 := blk_frozen BK141.out 0; have hfz24_1 := blk_frozen BK141.out 1; have hfz24_2 := blk_frozen BK141.out 2) | ((with_reducible refine gate_callee (f := 36) rfl ?_); refine goesL_ (some 43) rfl rfl Try.func36 (by kernel_rfl) rfl #[.agg #[.int .i64 ((rd_T44 l0_2 x35_3).f0), .int .i64 ((rd_T44 l0_2 x35_3).f1), .slice A140_2 ((rd_T44 l0_2 x35_3).f2).length c140_2], .int .i64 a1, .int .i64 a2, .int .i64 a3] rfl (by (try simp only [List.map_toArray, List.map_cons, List.map_nil]); first | done | rfl | (simp only [List.length_drop, List.length_take]; rfl)) ?_; (with_reducible refine (ih k3 (by have := HJ4.out; have := HJ10.out; have := HK3.out; omega) ((rd_T44 l0_2 x35_3).f0) ((rd_T44 l0_2 x35_3).f1) _ _ ((rd_T44 l0_2 x35_3).f2) a1 a2 a3 true _ ?side1 ?side2 A20.out).mono ?_); (case side1 => exact Kd.C_below HR140_2.out (by repeat (first | (with_reducible first | exact HB.out | apply below_alloc | apply pw_below_drewN | apply below_drew1 | refine below_set ?_ GE139.out | refine below_set ?_ GE141.out) | exact HB.out))); (case side2 => exact HC140_2.out); rintro e w25 ⟨rfl, hb⟩; refine ⟨_, rfl, ?_⟩; have n0_ := Aside0.mk (blk_below (g := gb139) (o := .cells #[.int .i64 a0_0, .int .i64 a0_1, .slice (some ad140) l0_2.length c0_2] 44 (0, 0)) (by (with_reducible repeat (first | refine blk_drewN ?_ _ | refine blk_drew ?_ | refine blk_alloc ?_ _)); refine blk_far ?_ NB139_141.out _; (with_reducible repeat (first | refine blk_drewN ?_ _ | refine blk_drew ?_ | refine blk_alloc ?_ _)); refine blk_far ?_ NB139_141.out _; (with_reducible repeat (first | refine blk_drewN ?_ _ | refine blk_drew ?_ | refine blk_alloc ?_ _)); refine blk_far ?_ NB139_141.out _; (with_reducible repeat (first | refine blk_drewN ?_ _ | refine blk_drew ?_ | refine blk_alloc ?_ _)); exact BK139.out) hb); have n1_ := Aside0.mk (blk_below (g := gb141) (o := .cells #[.int .i64 ((rd_T44 l0_2 x35_3).f0), .int .i64 ((rd_T44 l0_2 x35_3).f1), .slice A140_2 ((rd_T44 l0_2 x35_3).f2).length c140_2] 44 (0, 0)) (by (with_reducible repeat (first | refine blk_drewN ?_ _ | refine blk_drew ?_ | refine blk_alloc ?_ _)); refine blk_put (cs := #[.int .i64 ((rd_T44 l0_2 x35_3).f0), .int .i64 ((rd_T44 l0_2 x35_3).f1), .slice none 0 0]) ?_ 2 _ rfl; (with_reducible repeat (first | refine blk_drewN ?_ _ | refine blk_drew ?_ | refine blk_alloc ?_ _)); refine blk_put (cs := #[.int .i64 ((rd_T44 l0_2 x35_3).f0), .int .i64 0, .slice none 0 0]) ?_ 1 _ rfl; (with_reducible repeat (first | refine blk_drewN ?_ _ | refine blk_drew ?_ | refine blk_alloc ?_ _)); refine blk_put (cs := #[.int .i64 0, .int .i64 0, .slice none 0 0]) ?_ 0 _ rfl; (with_reducible repeat (first | refine blk_drewN ?_ _ | refine blk_drew ?_ | refine blk_alloc ?_ _)); exact BK141.out) hb); have n2_ := Aside0.mk (below_step (by repeat (first | (with_reducible first | exact HB.out | apply below_alloc | apply pw_below_drewN | apply below_drew1 | refine below_set ?_ GE139.out | refine below_set ?_ GE141.out) | exact HB.out)) hb); clear BK139; clear BK141; clear HB; have BK139 := n0_; have BK141 := n1_; have HB := n2_; clear n0_ n1_ n2_; (try clear hb); (try clear hb2); (try clear hk); (try clear hi)))
                        go_roundg k3
                        case measure => have := HJ4.out; have := HJ10.out; have := HK3.out; omega
                        case rel => exact ⟨(wrap64 (x35_3 + 1)), (by first | rfl | (simp; done) | (simp [*]; done)), H', ⟨by have := HJ4.out; have := HJ10.out; have := HK3.out; omega⟩, ⟨by (with_reducible repeat (first | refine blk_drewN ?_ _ | refine blk_drew ?_ | refine blk_alloc ?_ _)); exact BK139.out⟩, ⟨by repeat (first | (with_reducible first | exact HB.out | apply below_alloc | apply pw_below_drewN | apply below_drew1 | refine below_set ?_ GE139.out | refine below_set ?_ GE141.out) | exact HB.out)⟩⟩
                      · replace c21 := Bool.eq_false_iff.mpr c21
                        subst c21
                        have H1 : (some false) = some r := by rw [if_neg (show ¬ (false = true) by decide)] at H; exact H
                        clear H
                        have H := H1
                        clear H1
                        obtain rfl := Option.some.inj H
                        have p140 : 0 ≤ (x35_3 : Int) := of_decide_eq_true (by first | (with_reducible assumption) | assumption)
                        have q140 : x35_3 < (l0_2.length : Int) := of_decide_eq_true (by first | (with_reducible assumption) | assumption)
                        obtain ⟨ad140, A140_2, c140_2, e140, hx140_0, hx140_1, hx140_2, hl140_2, hi140_2⟩ := at_T44 HR0_2.out x35_3 p140 q140
                        cases e140
                        replace hx140_0 := (HB.out.cell (World.block_lt_of_cell? w _ hx140_0)).trans hx140_0
                        replace hx140_1 := (HB.out.cell (World.block_lt_of_cell? w _ hx140_1)).trans hx140_1
                        replace hx140_2 := (HB.out.cell (World.block_lt_of_cell? w _ hx140_2)).trans hx140_2
                        have HR140_2 := Aside0.mk hi140_2
                        have HC140_2 := Aside0.mk hl140_2
                        clear hi140_2 hl140_2
                        replace p140 := eq_true p140
                        replace q140 := eq_true q140
                        go_wp2_with (first | ((with_reducible refine gate_dst (N := 11) rfl ?_); refine box_event ?hg (N := 11) ?hd (cs := #[.int .i64 0, .int .i64 0, .slice none 0 0]) (t := 44) ?hr ?_; (case hd => rfl); (case hg => rfl); (case hr => first | (go_simp; done) | (go_simp; rfl)); intro gb141 hg w26 hbox hb; have n0_ := Aside0.mk (blk_below (g := gb139) (o := .cells #[.int .i64 a0_0, .int .i64 a0_1, .slice (some ad140) l0_2.length c0_2] 44 (0, 0)) (by (with_reducible repeat (first | refine blk_drewN ?_ _ | refine blk_drew ?_ | refine blk_alloc ?_ _)); exact BK139.out) hb); have n1_ := Aside0.mk (below_step (by repeat (first | (with_reducible first | exact HB.out | apply below_alloc | apply pw_below_drewN | apply below_drew1 | refine below_set ?_ GE139.out) | exact HB.out)) hb); have n2_ := Aside0.mk (hbox); have n3_ := Aside0.mk ((by rw [hg]; exact (below_size (by repeat (first | (with_reducible first | exact HB.out | apply below_alloc | apply pw_below_drewN | apply below_drew1 | refine below_set ?_ GE139.out) | exact HB.out))) : w.heap.size ≤ gb141)); have n4_ := Aside0.mk ((by rw [hg]; exact (below_size (by repeat (first | (with_reducible first | exact HB.out | apply below_alloc | apply pw_below_drewN | apply below_drew1 | refine below_set ?_ GE139.out) | exact HB.out))) : w.heap.size ≤ gb141)); have n5_ := Aside0.mk ((by rw [hg]; exact Nat.ne_of_lt (blk_lt (g := gb139) (o := .cells #[.int .i64 a0_0, .int .i64 a0_1, .slice (some ad140) l0_2.length c0_2] 44 (0, 0)) (by (with_reducible repeat (first | refine blk_drewN ?_ _ | refine blk_drew ?_ | refine blk_alloc ?_ _)); exact BK139.out)) : gb139 ≠ gb141)); have n6_ := Aside0.mk ((by rw [hg]; exact Nat.ne_of_gt (blk_lt (g := gb139) (o := .cells #[.int .i64 a0_0, .int .i64 a0_1, .slice (some ad140) l0_2.length c0_2] 44 (0, 0)) (by (with_reducible repeat (first | refine blk_drewN ?_ _ | refine blk_drew ?_ | refine blk_alloc ?_ _)); exact BK139.out)) : gb141 ≠ gb139)); clear BK139; clear HB; have BK139 := n0_; have HB := n1_; have BK141 := n2_; have GW141 := n3_; have GE141 := n4_; have NB139_141 := n5_; have NB141_139 := n6_; clear n0_ n1_ n2_ n3_ n4_ n5_ n6_; clear hb hbox hg; have hnb27 := NB141_139.out; have hnc27 := NB139_141.out; have hcz28_0 : w26.cell? ⟨gb141, 0, none⟩ = some (.int .i64 0) := (blk_cell BK141.out 0).trans rfl; have hcz28_1 : w26.cell? ⟨gb141, 1, none⟩ = some (.int .i64 0) := (blk_cell BK141.out 1).trans rfl; have hcz28_2 : w26.cell? ⟨gb141, 2, none⟩ = some (.slice none 0 0) := (blk_cell BK141.out 2).trans rfl; have hfz28_0 := blk_frozen BK141.out 0; have hfz28_1 := blk_frozen BK141.out 1; have hfz28_2 := blk_frozen BK141.out 2) | ((with_reducible refine gate_callee (f := 36) rfl ?_); refine goesL_ (some 43) rfl rfl Try.func36 (by kernel_rfl) rfl #[.agg #[.int .i64 ((rd_T44 l0_2 x35_3).f0), .int .i64 ((rd_T44 l0_2 x35_3).f1), .slice A140_2 ((rd_T44 l0_2 x35_3).f2).length c140_2], .int .i64 a1, .int .i64 a2, .int .i64 a3] rfl (by (try simp only [List.map_toArray, List.map_cons, List.map_nil]); first | done | rfl | (simp only [List.length_drop, List.length_take]; rfl)) ?_; (with_reducible refine (ih k3 (by have := HJ4.out; have := HJ10.out; have := HK3.out; omega) ((rd_T44 l0_2 x35_3).f0) ((rd_T44 l0_2 x35_3).f1) _ _ ((rd_T44 l0_2 x35_3).f2) a1 a2 a3 false _ ?side1 ?side2 A20.out).mono ?_); (case side1 => exact Kd.C_below HR140_2.out (by repeat (first | (with_reducible first | exact HB.out | apply below_alloc | apply pw_below_drewN | apply below_drew1 | refine below_set ?_ GE139.out | refine below_set ?_ GE141.out) | exact HB.out))); (case side2 => exact HC140_2.out); rintro e w29 ⟨rfl, hb⟩; refine ⟨_, rfl, ?_⟩; have n0_ := Aside0.mk (blk_below (g := gb139) (o := .cells #[.int .i64 a0_0, .int .i64 a0_1, .slice (some ad140) l0_2.length c0_2] 44 (0, 0)) (by (with_reducible repeat (first | refine blk_drewN ?_ _ | refine blk_drew ?_ | refine blk_alloc ?_ _)); refine blk_far ?_ NB139_141.out _; (with_reducible repeat (first | refine blk_drewN ?_ _ | refine blk_drew ?_ | refine blk_alloc ?_ _)); refine blk_far ?_ NB139_141.out _; (with_reducible repeat (first | refine blk_drewN ?_ _ | refine blk_drew ?_ | refine blk_alloc ?_ _)); refine blk_far ?_ NB139_141.out _; (with_reducible repeat (first | refine blk_drewN ?_ _ | refine blk_drew ?_ | refine blk_alloc ?_ _)); exact BK139.out) hb); have n1_ := Aside0.mk (blk_below (g := gb141) (o := .cells #[.int .i64 ((rd_T44 l0_2 x35_3).f0), .int .i64 ((rd_T44 l0_2 x35_3).f1), .slice A140_2 ((rd_T44 l0_2 x35_3).f2).length c140_2] 44 (0, 0)) (by (with_reducible repeat (first | refine blk_drewN ?_ _ | refine blk_drew ?_ | refine blk_alloc ?_ _)); refine blk_put (cs := #[.int .i64 ((rd_T44 l0_2 x35_3).f0), .int .i64 ((rd_T44 l0_2 x35_3).f1), .slice none 0 0]) ?_ 2 _ rfl; (with_reducible repeat (first | refine blk_drewN ?_ _ | refine blk_drew ?_ | refine blk_alloc ?_ _)); refine blk_put (cs := #[.int .i64 ((rd_T44 l0_2 x35_3).f0), .int .i64 0, .slice none 0 0]) ?_ 1 _ rfl; (with_reducible repeat (first | refine blk_drewN ?_ _ | refine blk_drew ?_ | refine blk_alloc ?_ _)); refine blk_put (cs := #[.int .i64 0, .int .i64 0, .slice none 0 0]) ?_ 0 _ rfl; (with_reducible repeat (first | refine blk_drewN ?_ _ | refine blk_drew ?_ | refine blk_alloc ?_ _)); exact BK141.out) hb); have n2_ := Aside0.mk (below_step (by repeat (first | (with_reducible first | exact HB.out | apply below_alloc | apply pw_below_drewN | apply below_drew1 | refine below_set ?_ GE139.out | refine below_set ?_ GE141.out) | exact HB.out)) hb); clear BK139; clear BK141; clear HB; have BK139 := n0_; have BK141 := n1_; have HB := n2_; clear n0_ n1_ n2_; (try clear hb); (try clear hb2); (try clear hk); (try clear hi)))
                        go_ret
                        exact ⟨by first | rfl | (simp [errW_none, errW_some] <;> rfl) | (simp [*, errW_none, errW_some] <;> rfl), by repeat (first | (with_reducible first | exact HB.out | apply below_alloc | apply pw_below_drewN | apply below_drew1 | refine below_set ?_ GE139.out | refine below_set ?_ GE141.out) | exact HB.out)⟩
                    · rw [if_neg c19] at H
                      exact absurd H (by simp)
                  · rw [if_neg c18] at H
                    exact absurd H (by simp)
                · rw [if_neg c17] at H
                  have c17b0 : decide (x35_3 < (l0_2.length : Int)) = false := decide_eq_false c17
                  clear c17
                  obtain rfl := Option.some.inj H
                  go_wp2
                  go_ret
                  exact ⟨by first | rfl | (simp [errW_none, errW_some] <;> rfl) | (simp [*, errW_none, errW_some] <;> rfl), by repeat (first | (with_reducible first | exact HB.out | apply below_alloc | apply pw_below_drewN | apply below_drew1 | refine below_set ?_ GE139.out) | exact HB.out)⟩
end Go.Proofs.Ytfhgoebgnilfaaa.I
namespace Go.Proofs.Ytfhgoebgnilfaaa.I
open Go.RowKit Go.Proofs.YtfhgoebgnilfaaaW.PrintWords Go.Proofs.YtfhgoebgnilfaaaW.PrintLast Go.Proofs.YtfhgoebgnilfaaaW.PrintMore
set_option linter.unusedVariables false
set_option maxRecDepth 100000
set_option linter.unusedSimpArgs false
mutual
def tcnt : S44 → Int
  | ⟨_, _, l⟩ => 1 + tcntL l
def tcntL : List S44 → Int
  | [] => 0
  | x :: xs => tcnt x + tcntL xs
end
mutual
def tdep : S44 → Int
  | ⟨_, _, l⟩ => 1 + tdepL l
def tdepL : List S44 → Int
  | [] => 0
  | x :: xs => max (tdep x) (tdepL xs)
end
mutual
theorem tcnt_ge : ∀ x : S44, 1 ≤ tcnt x
  | ⟨_, _, l⟩ => by have := tcntL_ge l; unfold tcnt; omega
theorem tcntL_ge : ∀ l : List S44, (l.length : Int) ≤ tcntL l
  | [] => by simp [tcntL]
  | x :: xs => by have h1 := tcnt_ge x; have h2 := tcntL_ge xs; unfold tcntL; simp only [List.length_cons]; omega
end
mutual
theorem tdep_bd : ∀ x : S44, 1 ≤ tdep x ∧ tdep x ≤ tcnt x
  | ⟨_, _, l⟩ => by have := tdepL_bd l; unfold tdep tcnt; omega
theorem tdepL_bd : ∀ l : List S44, 0 ≤ tdepL l ∧ tdepL l ≤ tcntL l
  | [] => by simp [tdepL, tcntL]
  | x :: xs => by have h1 := tdep_bd x; have h2 := tdepL_bd xs; have h3 := tcnt_ge x; have h4 := tcntL_ge xs; unfold tdepL tcntL; omega
end
theorem tcnt_f2 (x : S44) : tcnt x = 1 + tcntL x.f2 := by cases x; rfl
theorem tdep_f2 (x : S44) : tdep x = 1 + tdepL x.f2 := by cases x; rfl
theorem tdrop_cnt (l : List S44) (i : Nat) (h : i < l.length) : tcntL (l.drop i) = 1 + tcntL (rd_T44 l (i : Int)).f2 + tcntL (l.drop (i + 1)) := by
  rw [rd_T44_drop l i h]; show tcnt _ + tcntL _ = _; rw [tcnt_f2]
theorem tdrop_dep (l : List S44) (i : Nat) (h : i < l.length) : tdepL (l.drop i) = max (1 + tdepL (rd_T44 l (i : Int)).f2) (tdepL (l.drop (i + 1))) := by
  rw [rd_T44_drop l i h]; show max (tdep _) (tdepL _) = _; rw [tdep_f2]
theorem tdrop_cnt_le : ∀ (l : List S44) (i : Nat), tcntL (l.drop i) ≤ tcntL l
  | [], i => by simp
  | x :: xs, 0 => by simp
  | x :: xs, i + 1 => by have h1 := tdrop_cnt_le xs i; have h2 := tcnt_ge x; rw [List.drop_succ_cons]; show tcntL (xs.drop i) ≤ tcnt x + tcntL xs; omega
theorem tcnt_child (l : List S44) (i : Nat) (h : i < l.length) : tcntL (rd_T44 l (i : Int)).f2 < tcntL l := by
  have h1 := tdrop_cnt l i h; have h2 := tdrop_cnt_le l i; have h3 := tcntL_ge (l.drop (i + 1)); omega
theorem mx_max (a b : Int) : mx a b = max a b := by unfold mx; split <;> omega
mutual
theorem tmeas_eq : ∀ (x : S44) (left : Int), 0 ≤ left → (if tcnt x ≤ left then tmeas x left = (tdep x, left - tcnt x) else (tmeas x left).2 < 0)
  | ⟨_, _, l⟩, left, h => by
    have := tmeasL_eq l (left - 1) 0 (by omega) (by omega)
    unfold tcnt tmeas tdep
    split at this
    · rw [if_pos (by omega), this]
      have h1 := tdepL_bd l
      rw [show max 0 (tdepL l) + 1 = 1 + tdepL l from by omega, show left - 1 - tcntL l = left - (1 + tcntL l) from by omega]
    · rw [if_neg (by omega)]; exact this
theorem tmeasL_eq : ∀ (l : List S44) (left d : Int), -1 ≤ left → 0 ≤ d → (if tcntL l ≤ left then tmeasL l left d = (max d (tdepL l) + 1, left - tcntL l) else (tmeasL l left d).2 < 0)
  | [], left, d, h, hd => by
    unfold tcntL tmeasL tdepL
    split
    · rw [show max d 0 = d from by omega, show left - 0 = left from by omega]
    · simp only; omega
  | x :: xs, left, d, h, hd => by
    have hc := tcnt_ge x
    have hl := tcntL_ge xs
    unfold tcntL tmeasL tdepL
    by_cases hn : left < 0
    · rw [if_pos hn, if_neg (by omega)]; exact hn
    · rw [if_neg hn]
      have h1 := tmeas_eq x left (by omega)
      have hb := tmeas_bd x left (by omega)
      have h2 := tmeasL_eq xs (tmeas x left).2 (mx d (tmeas x left).1) (by omega) (by rw [mx_max]; omega)
      split at h1
      · rw [h1] at h2
        simp only at h2
        rw [h1]
        simp only
        split at h2
        · rw [if_pos (by omega), h2, mx_max, show max (max d (tdep x)) (tdepL xs) = max d (max (tdep x) (tdepL xs)) from by omega, show left - tcnt x - tcntL xs = left - (tcnt x + tcntL xs) from by omega]
        · rw [if_neg (by omega)]; exact h2
      · rw [if_neg (by omega)]
        rw [if_neg (by omega)] at h2
        exact h2
end
/-- Is a body too great? -/
def big (x : S44) : Bool := decide (400 < tcnt x) || decide (30 < tdep x)
theorem szT_big (x : S44) : (decide (400 < (szT x).1) || decide (30 < (szT x).2)) = big x := by
  have h := tmeas_eq x 100000 (by omega)
  unfold szT big
  by_cases hc : tcnt x ≤ 100000
  · rw [if_pos hc] at h
    rw [h]
    simp only
    rw [if_neg (by omega)]
    simp only
    rw [show 100000 - (100000 - tcnt x) = tcnt x from by omega]
  · rw [if_neg hc] at h
    rw [if_pos h]
    rw [decide_eq_true (by omega : (400 : Int) < 100001), decide_eq_true (by omega : 400 < tcnt x)]
    rfl
theorem tnodes_ev (N : Nat) : ∀ (a b : Int) (l : List S44) (most : Int), SizeOf.sizeOf l < N → 0 ≤ most → most ≤ 1000 → Ev (fun k => virgationref02_Nodes.f k a b l most) (min (1 + tcntL l) (most + 1)) := by
  induction N with
  | zero => intro a b l most h; omega
  | succ N ih =>
  intro a b l most hN h0 h1
  have loop : ∀ (n i : Nat) (x5 : Int), l.length - i = n → i ≤ l.length → 1 ≤ x5 → x5 ≤ most + 1 → (i : Int) ≤ x5 → Ev (fun k => virgationref02_Nodes.l0 k most x5 (i : Int) a b l) (min (x5 + tcntL (l.drop i)) (most + 1)) := by
    intro n
    induction n with
    | zero =>
      intro i x5 hn hi h2 h3 h4
      have hd : l.drop i = [] := List.drop_eq_nil_of_le (by omega)
      rw [hd, show min (x5 + tcntL []) (most + 1) = x5 from by unfold tcntL; omega]
      exact Ev.step (fun k => by rw [virgationref02_Nodes.l0, if_neg (by omega)]) (Ev.now _)
    | succ n ihn =>
      intro i x5 hn hi h2 h3 h4
      have hil : i < l.length := by omega
      have hc := tcntL_ge (l.drop (i + 1))
      have hx := tcntL_ge (rd_T44 l (i : Int)).f2
      by_cases hm : x5 ≤ most
      · refine Ev.step (fun k => by rw [virgationref02_Nodes.l0, if_pos (by omega), if_pos hm, if_pos (by omega)]) ?_
        refine Ev.bind (a := min (1 + tcntL (rd_T44 l (i : Int)).f2) (most - x5 + 1)) ?_ ?_
        · rw [w64 (most - x5) (by omega)]
          exact ih _ _ _ _ (by have := rd_T44_mem l i hil; omega) (by omega) (by omega)
        · rw [w64 _ (by omega), w64 _ (by omega)]
          have := ihn (i + 1) (x5 + min (1 + tcntL (rd_T44 l (i : Int)).f2) (most - x5 + 1)) (by omega) (by omega) (by omega) (by omega) (by omega)
          rw [tdrop_cnt l i hil]
          rw [show ((i + 1 : Nat) : Int) = (i : Int) + 1 from rfl] at this
          rw [show min (x5 + (1 + tcntL (rd_T44 l (i : Int)).f2 + tcntL (l.drop (i + 1)))) (most + 1) = min (x5 + min (1 + tcntL (rd_T44 l (i : Int)).f2) (most - x5 + 1) + tcntL (l.drop (i + 1))) (most + 1) from by omega]
          exact this
      · rw [show min (x5 + tcntL (l.drop i)) (most + 1) = x5 from by have := tcntL_ge (l.drop i); omega]
        exact Ev.step (fun k => by rw [virgationref02_Nodes.l0, if_pos (by omega), if_neg hm]) (Ev.now _)
  refine Ev.step (fun k => by rw [virgationref02_Nodes.f]) ?_
  have := loop l.length 0 1 (by omega) (by omega) (by omega) (by omega) (by omega)
  rw [List.drop_zero] at this
  exact this
theorem tdepth_ev (N : Nat) : ∀ (a b : Int) (l : List S44), SizeOf.sizeOf l < N → tcntL l ≤ 1000 → Ev (fun k => virgationref02_Depth.f k a b l) (1 + tdepL l) := by
  induction N with
  | zero => intro a b l h; omega
  | succ N ih =>
  intro a b l hN h1
  have hlen := tcntL_ge l
  have loop : ∀ (n i : Nat) (x3 : Int), l.length - i = n → i ≤ l.length → 0 ≤ x3 → x3 ≤ 1000 → Ev (fun k => virgationref02_Depth.l0 k x3 l (l.length : Int) (i : Int)) (1 + max x3 (tdepL (l.drop i))) := by
    intro n
    induction n with
    | zero =>
      intro i x3 hn hi h2 h3
      have hd : l.drop i = [] := List.drop_eq_nil_of_le (by omega)
      rw [hd, show 1 + max x3 (tdepL []) = x3 + 1 from by unfold tdepL; omega]
      exact Ev.step (fun k => by rw [virgationref02_Depth.l0, if_neg (by omega), w64 _ (by omega)]) (Ev.now _)
    | succ n ihn =>
      intro i x3 hn hi h2 h3
      have hil : i < l.length := by omega
      have hch := tcnt_child l i hil
      have hdb := tdepL_bd (rd_T44 l (i : Int)).f2
      refine Ev.step (fun k => by rw [virgationref02_Depth.l0, if_pos (by omega), if_pos (by omega), if_pos (by omega)]) ?_
      refine Ev.bind (a := 1 + tdepL (rd_T44 l (i : Int)).f2) ?_ ?_
      · exact ih _ _ _ (by have := rd_T44_mem l i hil; omega) (by omega)
      · rw [w64 _ (by omega), mx_max, tdrop_dep l i hil]
        have := ihn (i + 1) (max x3 (1 + tdepL (rd_T44 l (i : Int)).f2)) (by omega) (by omega) (by omega) (by omega)
        rw [show ((i + 1 : Nat) : Int) = (i : Int) + 1 from rfl] at this
        rw [show 1 + max x3 (max (1 + tdepL (rd_T44 l (i : Int)).f2) (tdepL (l.drop (i + 1)))) = 1 + max (max x3 (1 + tdepL (rd_T44 l (i : Int)).f2)) (tdepL (l.drop (i + 1))) from by omega]
        exact this
  refine Ev.step (fun k => by rw [virgationref02_Depth.f]) ?_
  have := loop l.length 0 0 (by omega) (by omega) (by omega) (by omega)
  rw [List.drop_zero, show max 0 (tdepL l) = tdepL l from by have := tdepL_bd l; omega] at this
  exact this
end Go.Proofs.Ytfhgoebgnilfaaa.I
