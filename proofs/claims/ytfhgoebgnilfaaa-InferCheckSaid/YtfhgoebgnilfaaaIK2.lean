/- Contract of infer.within, by hand. -/
import Derived.Test.YtfhgoebgnilfaaaIK1
namespace Go.Proofs.Ytfhgoebgnilfaaa.I
open Go.RowKit Go.Proofs.YtfhgoebgnilfaaaW.PrintWords Go.Proofs.YtfhgoebgnilfaaaW.PrintLast Go.Proofs.YtfhgoebgnilfaaaW.PrintMore
attribute [local go_sem] max2_int min2_int max_two min_two max_three min_three max_four min_four
set_option linter.unusedVariables false
set_option maxRecDepth 100000
set_option linter.unusedSimpArgs false
/-- Is a kind in another one? -/
def fwithin (s : List KN) : Nat → Nat → Nat → Option Bool
  | 0, _, _ => none
  | f + 1, k, i => match fend s f i with
    | none => none
    | some r => if k = r then some true else match s[r]? with
      | none => none
      | some n => match n.fr with
        | none => some false
        | some a => match fwithin s f k a with
          | none => none
          | some true => some true
          | some false => match n.tk with
            | none => none
            | some t => fwithin s f k t
set_option maxHeartbeats 4000000 in
theorem within_calls (B : Nat) (s : List KN) (ad : List Nat) (f : Nat) : ∀ (k i : Nat) (r : Bool) (w : World) (hH : Held B s ad w) (hk : k < s.length) (h : fwithin s f k i = some r),
    Calls Try.prog 59 #[pk ad k, pk ad i] w fun e w' => e = .returned (.bool r) ∧ w' = w := by
  induction f using Nat.strongRecOn with
  | _ f ih =>
  intro k i r w hH hk h
  have hu74 := Try.underlying74
  cases f with
  | zero => exact absurd h (by simp [fwithin])
  | succ f =>
  unfold fwithin at h
  cases hr : fend s f i with
  | none => rw [hr] at h; cases h
  | some q =>
  rw [hr] at h
  simp only at h
  have HH := Aside0.mk hH
  have HE := Aside0.mk hr
  have hq := fend_lt hr
  have hinj := hH.inj hk hq
  have IH := Aside0.mk ih
  obtain ⟨n, hn, hc⟩ := hH.at hq
  have hok := hH.ok q n hn
  have hc2 : w.cell? ⟨bk ad q, 2, none⟩ = some (pv ad n.fr) := (blk_cell hc 2).trans rfl
  have hc3 : w.cell? ⟨bk ad q, 3, none⟩ = some (pv ad n.tk) := (blk_cell hc 3).trans rfl
  rw [hn] at h
  simp only at h
  clear hH hr ih hc hn
  go_enter Try.func59, Try.ntmps59
  go_wp2_with fail
  (with_reducible refine (kend_calls B s ad f i q w HH.out HE.out).mono ?_)
  rintro e w1 ⟨rfl, rfl⟩
  have hpe := peq_run HH.out hk hq
  by_cases hkq : k = q
  · rw [if_pos hkq] at h
    injection h with h
    subst h
    rw [decide_eq_true hkq] at hpe
    clear hkq hinj
    try simp only [pk]
    go_wp2_with fail
    go_ret
    exact ⟨rfl, rfl⟩
  · rw [if_neg hkq] at h
    rw [decide_eq_false hkq] at hpe
    clear hkq hinj
    try simp only [pk]
    cases hf : n.fr with
    | none =>
      rw [hf] at h hc2
      injection h with h
      subst h
      simp only [pv] at hc2
      clear hc3 hok hf
      go_wp2_with fail
      go_ret
      exact ⟨rfl, rfl⟩
    | some a =>
      rw [hf] at h hc2
      simp only at h
      simp only [pv, pk] at hc2
      cases hwa : fwithin s f k a with
      | none => rw [hwa] at h; cases h
      | some ba =>
      rw [hwa] at h
      have HWa := Aside0.mk hwa
      clear hwa hf
      go_wp2_with fail
      (with_reducible refine (IH.out f (Nat.lt_succ_self f) k a ba w1 HH.out hk HWa.out).mono ?_)
      rintro e w2 ⟨rfl, rfl⟩
      cases ba with
      | true =>
        injection h with h
        subst h
        go_wp2_with fail
        go_ret
        exact ⟨rfl, rfl⟩
      | false =>
        simp only at h
        cases ht : n.tk with
        | none => rw [ht] at h; cases h
        | some t =>
        rw [ht] at h hc3
        simp only at h
        simp only [pv, pk] at hc3
        have HWt := Aside0.mk h
        clear h ht
        go_wp2_with fail
        (with_reducible refine (IH.out f (Nat.lt_succ_self f) k t r w2 HH.out hk HWt.out).mono ?_)
        rintro e w3 ⟨rfl, rfl⟩
        go_wp2_with fail
        go_ret
        exact ⟨rfl, rfl⟩
end Go.Proofs.Ytfhgoebgnilfaaa.I
