/- More rounds give the same answer: the functions over the store of kinds. -/
import Derived.Test.YtfhgoebgnilfaaaIK7
namespace Go.Proofs.Ytfhgoebgnilfaaa.I
open Go.RowKit
set_option linter.unusedVariables false
theorem fend_s (s : List KN) : ∀ (k i r : Nat), fend s k i = some r → fend s (k + 1) i = some r := by
  intro k
  induction k with
  | zero => intro i r h; simp [fend] at h
  | succ k ih =>
    intro i r h
    unfold fend at h ⊢
    grind
theorem fwithin_s (s : List KN) : ∀ (f k i : Nat) (r : Bool), fwithin s f k i = some r → fwithin s (f + 1) k i = some r := by
  intro f
  induction f with
  | zero => intro k i r h; simp [fwithin] at h
  | succ f ih =>
    intro k i r h
    have := fend_s s f
    unfold fwithin at h ⊢
    cases h1 : fend s f i with
    | none => rw [h1] at h; cases h
    | some t =>
      rw [h1] at h
      rw [this _ _ h1]
      simp only at h ⊢
      by_cases hk : k = t
      · rw [if_pos hk] at h ⊢; exact h
      · rw [if_neg hk] at h ⊢
        cases h2 : s[t]? with
        | none => rw [h2] at h; cases h
        | some n =>
          rw [h2] at h
          simp only at h ⊢
          cases h3 : n.fr with
          | none => rw [h3] at h; exact h
          | some a =>
            rw [h3] at h
            simp only at h ⊢
            cases h4 : fwithin s f k a with
            | none => rw [h4] at h; cases h
            | some b =>
              rw [h4] at h
              rw [ih _ _ _ h4]
              cases b with
              | true => exact h
              | false =>
                simp only at h ⊢
                cases h5 : n.tk with
                | none => rw [h5] at h; cases h
                | some u => rw [h5] at h; exact ih _ _ _ h
theorem fjoin_s : ∀ (f : Nat) (s : List KN) (a b : Nat) (r : Bool × List KN), fjoin f s a b = some r → fjoin (f + 1) s a b = some r := by
  intro f
  induction f with
  | zero => intro s a b r h; simp [fjoin] at h
  | succ f ih =>
    intro s a b r h
    unfold fjoin at h ⊢
    cases c0 : fend s f a with
    | none => rw [c0] at h; cases h
    | some p =>
      rw [c0] at h
      rw [fend_s s f _ _ c0]
      simp only at h ⊢
      cases c1 : fend s f b with
      | none => rw [c1] at h; cases h
      | some q =>
        rw [c1] at h
        rw [fend_s s f _ _ c1]
        simp only at h ⊢
        by_cases e0 : p = q
        · rw [if_pos e0] at h ⊢; exact h
        · rw [if_neg e0] at h ⊢
          cases c2 : s[p]? with
          | none => rw [c2] at h; cases h
          | some x =>
            rw [c2] at h
            simp only at h ⊢
            cases c3 : s[q]? with
            | none => rw [c3] at h; cases h
            | some y =>
              rw [c3] at h
              simp only at h ⊢
              by_cases e1 : x.bs = false ∧ x.fr = none
              · rw [if_pos e1] at h ⊢
                cases w1 : fwithin s f p q with
                | none => rw [w1] at h; cases h
                | some b =>
                  rw [w1] at h
                  rw [fwithin_s s f _ _ _ w1]
                  exact h
              · rw [if_neg e1] at h ⊢
                by_cases e2 : y.bs = false ∧ y.fr = none
                · rw [if_pos e2] at h ⊢; exact ih _ _ _ _ h
                · rw [if_neg e2] at h ⊢
                  by_cases e3 : x.bs = true ∨ y.bs = true
                  · rw [if_pos e3] at h ⊢; exact h
                  · rw [if_neg e3] at h ⊢
                    cases c4 : x.fr with
                    | none => rw [c4] at h; cases h
                    | some xf =>
                      rw [c4] at h
                      simp only at h ⊢
                      cases c4b : y.fr with
                      | none => rw [c4b] at h; cases h
                      | some yf =>
                        rw [c4b] at h
                        simp only at h ⊢
                        cases c5 : fjoin f s xf yf with
                        | none => rw [c5] at h; cases h
                        | some w =>
                          rw [c5] at h
                          rw [ih _ _ _ _ c5]
                          obtain ⟨bb, s1⟩ := w
                          cases bb with
                          | false => exact h
                          | true =>
                            simp only at h ⊢
                            cases c6 : s1[p]? with
                            | none => rw [c6] at h; cases h
                            | some x1 =>
                              rw [c6] at h
                              simp only at h ⊢
                              cases c6b : s1[q]? with
                              | none => rw [c6b] at h; cases h
                              | some y1 =>
                                rw [c6b] at h
                                simp only at h ⊢
                                cases c7 : x1.tk with
                                | none => rw [c7] at h; cases h
                                | some xt =>
                                  rw [c7] at h
                                  simp only at h ⊢
                                  cases c8 : y1.tk with
                                  | none => rw [c8] at h; cases h
                                  | some yt =>
                                    rw [c8] at h
                                    simp only at h ⊢
                                    exact ih _ _ _ _ h
theorem fterm_s (E : FE) : ∀ (f : Nat), (∀ s kd n l r, fterm E f s kd n l = some r → fterm E (f + 1) s kd n l = some r) ∧ (∀ s k l r, ftermL E f s k l = some r → ftermL E (f + 1) s k l = some r) := by
  intro f
  induction f with
  | zero => exact ⟨fun s kd n l r h => by simp [fterm] at h, fun s k l r h => by simp [ftermL] at h⟩
  | succ f ih =>
    obtain ⟨i1, i2⟩ := ih
    refine ⟨fun s kd n l r h => ?_, fun s k l r h => ?_⟩
    · unfold fterm at h ⊢
      grind
    · have h2 := fjoin_s f
      cases l with
      | nil => unfold ftermL at h ⊢; exact h
      | cons x xs =>
        unfold ftermL at h ⊢
        grind
theorem fshown_s (s : List KN) : ∀ (f : Nat), (∀ i l r, fshown s f i l = some r → fshown s (f + 1) i l = some r) ∧ (∀ q acc l r, fshownL s f q acc l = some r → fshownL s (f + 1) q acc l = some r) := by
  intro f
  induction f with
  | zero => exact ⟨fun i l r h => by simp [fshown] at h, fun q acc l r h => by simp [fshownL] at h⟩
  | succ f ih =>
    obtain ⟨i1, i2⟩ := ih
    have h1 := fend_s s f
    refine ⟨fun i l r h => ?_, fun q acc l r h => ?_⟩
    · unfold fshown at h ⊢
      grind
    · unfold fshownL at h ⊢
      cases c1 : s[q]? with
      | none => rw [c1] at h; cases h
      | some n =>
        rw [c1] at h
        simp only at h ⊢
        cases c2 : n.fr with
        | none => rw [c2] at h; exact h
        | some a =>
          rw [c2] at h
          simp only at h ⊢
          cases c3 : fshown s f a l with
          | none => rw [c3] at h; cases h
          | some w =>
            rw [c3] at h
            rw [i1 _ _ _ c3]
            obtain ⟨o, l1⟩ := w
            cases o with
            | none => exact h
            | some x =>
              simp only at h ⊢
              by_cases hl : acc.length < 5864062014805
              · rw [if_pos hl] at h ⊢
                cases c4 : n.tk with
                | none => rw [c4] at h; cases h
                | some t =>
                  rw [c4] at h
                  simp only at h ⊢
                  cases c5 : fend s f t with
                  | none => rw [c5] at h; cases h
                  | some r2 =>
                    rw [c5] at h
                    rw [h1 _ _ c5]
                    exact i2 _ _ _ _ h
              · rw [if_neg hl] at h; cases h
theorem fbodies_s (syms : List S59) (funs : List Nat) (f : Nat) : ∀ (l : List S48) (s : List KN) (pss : List (List Nat)) (r : Bool × List KN), fbodies syms funs f s pss l = some r → fbodies syms funs (f + 1) s pss l = some r := by
  intro l
  induction l with
  | nil => intro s pss r h; unfold fbodies at h ⊢; exact h
  | cons x xs ih =>
    intro s pss r h
    cases pss with
    | nil => unfold fbodies at h; cases h
    | cons ps pss =>
      unfold fbodies at h ⊢
      cases h1 : fterm ⟨0, syms, funs, ps⟩ f s x.f2.f0 x.f2.f1 x.f2.f2 with
      | none => rw [h1] at h; cases h
      | some q =>
        rw [h1] at h
        rw [(fterm_s ⟨0, syms, funs, ps⟩ f).1 _ _ _ _ _ h1]
        obtain ⟨o, s1⟩ := q
        cases o with
        | none => exact h
        | some k =>
          simp only at h ⊢
          cases h2 : fjoin f s1 k 0 with
          | none => rw [h2] at h; cases h
          | some q2 =>
            rw [h2] at h
            rw [fjoin_s f _ _ _ _ h2]
            obtain ⟨b, s2⟩ := q2
            cases b with
            | false => exact h
            | true => exact ih _ _ _ h
theorem fouts_s (s : List KN) (f : Nat) : ∀ (ks : List Nat) (acc : List S41) (r : Option (List S41)), fouts s f acc ks = some r → fouts s (f + 1) acc ks = some r := by
  intro ks
  induction ks with
  | nil => intro acc r h; unfold fouts at h ⊢; exact h
  | cons k ks ih =>
    intro acc r h
    unfold fouts at h ⊢
    cases h1 : fshown s f k 60 with
    | none => rw [h1] at h; cases h
    | some q =>
      rw [h1] at h
      rw [(fshown_s s f).1 _ _ _ h1]
      obtain ⟨o, l1⟩ := q
      cases o with
      | none => exact h
      | some x =>
        simp only at h ⊢
        cases h2 : sorts_Check.f x with
        | none => rw [h2] at h; cases h
        | some e =>
          rw [h2] at h
          simp only at h ⊢
          by_cases h0 : e = 0
          · rw [if_pos h0] at h ⊢; exact ih _ _ h
          · rw [if_neg h0] at h ⊢; exact h
theorem fsorts_s (f : Nat) (syms : List S59) (l : List S48) (r : List S41 × Int) (h : fsorts f syms l = some r) : fsorts (f + 1) syms l = some r := by
  have h1 := fbodies_s syms (fheads [⟨none, true, none, none⟩] l).1.2 f l (fheads [⟨none, true, none, none⟩] l).2 (fheads [⟨none, true, none, none⟩] l).1.1
  have h2 := fun s => fouts_s s f (fheads [⟨none, true, none, none⟩] l).1.2 []
  unfold fsorts at h ⊢
  generalize fheads [⟨none, true, none, none⟩] l = hd at *
  cases hc : chkF syms l with
  | none => rw [hc] at h; cases h
  | some e =>
    rw [hc] at h
    simp only at h ⊢
    by_cases h0 : e = 0
    · rw [if_pos h0] at h ⊢
      cases h3 : fbodies syms hd.1.2 f hd.2 hd.1.1 l with
      | none => rw [h3] at h; cases h
      | some q =>
        rw [h3] at h
        rw [h1 _ h3]
        obtain ⟨b, s⟩ := q
        cases b with
        | false => exact h
        | true =>
          simp only at h ⊢
          cases h4 : fouts s f [] hd.1.2 with
          | none => rw [h4] at h; cases h
          | some o => rw [h4] at h; rw [h2 s _ h4]; exact h
    · rw [if_neg h0] at h ⊢; exact h
end Go.Proofs.Ytfhgoebgnilfaaa.I
