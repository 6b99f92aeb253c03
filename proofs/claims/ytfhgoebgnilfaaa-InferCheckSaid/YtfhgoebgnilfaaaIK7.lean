/- What infer.Sorts computes, over the store of kinds. -/
import Derived.Test.YtfhgoebgnilfaaaIK6
import Derived.Test.YtfhgoebgnilfaaaIH6
import Derived.Test.YtfhgoebgnilfaaaIH2
namespace Go.Proofs.Ytfhgoebgnilfaaa.I
open Go.RowKit
set_option linter.unusedVariables false
def kbare : KN := ⟨none, false, none, none⟩
/-- The kinds of the functions: each one's parameters, its arrow. -/
def fheads : List KN → List S48 → (List (List Nat) × List Nat) × List KN
  | s, [] => (([], []), s)
  | s, x :: xs =>
    let a := farrow (s ++ List.replicate x.f1.toNat kbare) 0 (List.range' s.length x.f1.toNat)
    let r := fheads a.2 xs
    ((List.range' s.length x.f1.toNat :: r.1.1, a.1 :: r.1.2), r.2)
/-- The bodies, one after another: false: one has no kind, or its kind isn't o. -/
def fbodies (syms : List S59) (funs : List Nat) (f : Nat) : List KN → List (List Nat) → List S48 → Option (Bool × List KN)
  | s, _, [] => some (true, s)
  | s, [], _ :: _ => none
  | s, ps :: pss, x :: xs => match fterm ⟨0, syms, funs, ps⟩ f s x.f2.f0 x.f2.f1 x.f2.f2 with
    | none => none
    | some (none, s1) => some (false, s1)
    | some (some k, s1) => match fjoin f s1 k 0 with
      | none => none
      | some (false, s2) => some (false, s2)
      | some (true, s2) => fbodies syms funs f s2 pss xs
/-- The sorts that are shown; none inside: one has too many nodes, or fails its check. -/
def fouts (s : List KN) (f : Nat) : List S41 → List Nat → Option (Option (List S41))
  | acc, [] => some (some acc)
  | acc, k :: ks => match fshown s f k 60 with
    | none => none
    | some (none, _) => some none
    | some (some l, _) => match sorts_Check.f l with
      | none => none
      | some e => if e = 0 then fouts s f (acc ++ [⟨l⟩]) ks else some none
/-- infer.Sorts. -/
def fsorts (f : Nat) (syms : List S59) (l : List S48) : Option (List S41 × Int) :=
  match chkF syms l with
  | none => none
  | some e => if e = 0 then
      match fbodies syms (fheads [⟨none, true, none, none⟩] l).1.2 f (fheads [⟨none, true, none, none⟩] l).2 (fheads [⟨none, true, none, none⟩] l).1.1 l with
      | none => none
      | some (false, _) => some ([], 6)
      | some (true, s) => match fouts s f [] (fheads [⟨none, true, none, none⟩] l).1.2 with
        | none => none
        | some none => some ([], 3)
        | some (some out) => some (out, 0)
    else some ([], e)
theorem looseL_le : ∀ (l : List S48) (nf ns : Int) (L : List ByteArray), looseL l nf ns L = true → ∀ x ∈ l, 0 ≤ x.f1 ∧ x.f1 ≤ 8
  | [], _, _, _, _, x, hx => by cases hx
  | y :: ys, nf, ns, L, h, x, hx => by
    unfold looseL at h
    by_cases hb : looseBad y nf ns L = true
    · rw [if_pos hb] at h; cases h
    · rw [if_neg hb] at h
      rcases List.mem_cons.1 hx with hx | hx
      · subst hx
        unfold looseBad at hb
        simp only [Bool.or_eq_true, decide_eq_true_eq, not_or] at hb
        exact ⟨by have := hb.2.2.1; omega, by have := hb.2.2.2.1; omega⟩
      · exact looseL_le ys nf ns _ h x hx
theorem symsL_le : ∀ (l : List S59) (L : List ByteArray), symsL l L = true → ∀ x ∈ l, 0 ≤ x.f1 ∧ x.f1 ≤ 4
  | [], _, _, x, hx => by cases hx
  | y :: ys, L, h, x, hx => by
    unfold symsL at h
    by_cases hb : symBad y L = true
    · rw [if_pos hb] at h; cases h
    · rw [if_neg hb] at h
      rcases List.mem_cons.1 hx with hx | hx
      · subst hx
        unfold symBad at hb
        simp only [Bool.or_eq_true, decide_eq_true_eq, not_or] at hb
        exact ⟨by have := hb.2.2.1; omega, by have := hb.2.2.2; omega⟩
      · exact symsL_le ys _ h x hx
theorem fCheck_ok {l0 : List S59} {l1 : List S48} (h : chkF l0 l1 = some 0) : symsL l0 [] = true ∧ l0.length ≤ 24 ∧ 0 < l1.length ∧ l1.length ≤ 64 ∧ ∀ x ∈ l1, 0 ≤ x.f1 ∧ x.f1 ≤ 8 := by
  unfold chkF at h
  injection h with h
  split at h
  · cases h
  · split at h
    · cases h
    · split at h
      · rename_i h1 h2 h3
        refine ⟨by cases hs : symsL l0 [] <;> simp_all, by omega, by omega, by omega, looseL_le _ _ _ _ h3⟩
      · cases h
end Go.Proofs.Ytfhgoebgnilfaaa.I
