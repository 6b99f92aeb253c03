/- Kinds: the store of them, and the contract of kind.end, by hand. -/
import Derived.Test.YtfhgoebgnilfaaaI0
import Derived.LaidEqlPtr
import Derived.Laws.Pointers
namespace Go.Proofs.Ytfhgoebgnilfaaa.I
open Go.RowKit Go.Proofs.YtfhgoebgnilfaaaW.PrintWords Go.Proofs.YtfhgoebgnilfaaaW.PrintLast Go.Proofs.YtfhgoebgnilfaaaW.PrintMore
attribute [local go_sem] max2_int min2_int max_two min_two max_three min_three max_four min_four
set_option linter.unusedVariables false
set_option maxRecDepth 100000
set_option linter.unusedSimpArgs false
/-- A kind; its pointers are places in the list of all of them. -/
structure KN where
  lk : Option Nat
  bs : Bool
  fr : Option Nat
  tk : Option Nat
/-- The block of the kind at a place. -/
def bk (ad : List Nat) (i : Nat) : Nat := ad.getD i 0
/-- A pointer to the kind at a place. -/
abbrev pk (ad : List Nat) (i : Nat) : Value := .pointer (some ⟨bk ad i, 0, none⟩)
def pv (ad : List Nat) : Option Nat → Value
  | none => .pointer none
  | some i => pk ad i
def kcells (ad : List Nat) (n : KN) : Array Value := #[pv ad n.lk, .bool n.bs, pv ad n.fr, pv ad n.tk]
def inS (m : Nat) (o : Option Nat) : Prop := ∀ j, o = some j → j < m
/-- The kinds lie in memory, each in a block of its own from B on. -/
structure Held (B : Nat) (s : List KN) (ad : List Nat) (w : World) : Prop where
  len : ad.length = s.length
  nodup : ad.Nodup
  ge : ∀ b, b ∈ ad → B ≤ b
  cell : ∀ (i : Nat) (n : KN), s[i]? = some n → w.heap[bk ad i]? = some (.cells (kcells ad n) 74 (0, 0))
  ok : ∀ (i : Nat) (n : KN), s[i]? = some n → inS s.length n.lk ∧ inS s.length n.fr ∧ inS s.length n.tk
theorem Held.below {B : Nat} {s : List KN} {ad : List Nat} {w w1 : World} (h : Held B s ad w) (hb : Below w.heap.size w w1) : Held B s ad w1 :=
  ⟨h.len, h.nodup, h.ge, fun i n hn => blk_below (h.cell i n hn) hb, h.ok⟩
theorem Held.at {B : Nat} {s : List KN} {ad : List Nat} {w : World} (h : Held B s ad w) {i : Nat} (hi : i < s.length) : ∃ n, s[i]? = some n ∧ w.heap[bk ad i]? = some (.cells (kcells ad n) 74 (0, 0)) :=
  ⟨s[i], List.getElem?_eq_getElem hi, h.cell i _ (List.getElem?_eq_getElem hi)⟩
theorem Held.inj {B : Nat} {s : List KN} {ad : List Nat} {w : World} (h : Held B s ad w) {i j : Nat} (hi : i < s.length) (hj : j < s.length) : bk ad i = bk ad j ↔ i = j := by
  have hi' : i < ad.length := by rw [h.len]; exact hi
  have hj' : j < ad.length := by rw [h.len]; exact hj
  unfold bk
  rw [List.getD_eq_getElem?_getD, List.getD_eq_getElem?_getD, List.getElem?_eq_getElem hi', List.getElem?_eq_getElem hj']
  simp only [Option.getD_some]
  constructor
  · intro e
    have hp := List.pairwise_iff_getElem.1 h.nodup
    rcases Nat.lt_trichotomy i j with hij | hij | hij
    · exact absurd e (hp i j hi' hj' hij)
    · exact hij
    · exact absurd e.symm (hp j i hj' hi' hij)
  · rintro rfl
    rfl
theorem info74 : ∃ j, Try.prog.info? 74 = some j ∧ j.size = 4 := by
  have h : (Try.prog.info? 74).map (fun i => i.size) = some 4 := by kernel_rfl
  obtain ⟨j, hj, hs⟩ := Option.map_eq_some_iff.1 h
  exact ⟨j, hj, hs⟩
/-- Two pointers to kinds are the same just if the places are. -/
theorem peq_run {B : Nat} {s : List KN} {ad : List Nat} {w : World} (h : Held B s ad w) {i j : Nat} (hi : i < s.length) (hj : j < s.length) :
    (binOp .eql 72 (.pointer (some ⟨bk ad i, 0, none⟩)) (.pointer (some ⟨bk ad j, 0, none⟩))).run Try.prog w = .ok (.bool (decide (i = j))) w := by
  obtain ⟨t, ht, hs⟩ := info74
  by_cases hij : i = j
  · subst hij
    rw [decide_eq_true rfl]
    exact run_eql_ptr_same w _ Try.underlying72 ht
  · rw [decide_eq_false hij]
    obtain ⟨n, _, hn⟩ := h.at hi
    obtain ⟨m, _, hm⟩ := h.at hj
    exact run_eql_ptr_other w Try.underlying72 ht (by rw [hs]; decide) (fun e => hij ((h.inj hi hj).1 (by injection e))) hn hm
/-- Following links. -/
def fend (s : List KN) : Nat → Nat → Option Nat
  | 0, _ => none
  | k + 1, i => match s[i]? with
    | none => none
    | some n => match n.lk with
      | none => some i
      | some j => fend s k j
theorem fend_lt {s : List KN} : ∀ {k i r : Nat}, fend s k i = some r → r < s.length
  | 0, i, r, h => by simp [fend] at h
  | k + 1, i, r, h => by
    unfold fend at h
    cases hn : s[i]? with
    | none => rw [hn] at h; cases h
    | some n =>
      rw [hn] at h
      simp only at h
      cases hl : n.lk with
      | none => rw [hl] at h; injection h with h; subst h; exact (List.getElem?_eq_some_iff.1 hn).1
      | some j => rw [hl] at h; exact fend_lt h
set_option maxHeartbeats 4000000 in
theorem kend_calls (B : Nat) (s : List KN) (ad : List Nat) (k i r : Nat) (w : World) (hH : Held B s ad w) (h : fend s k i = some r) :
    Calls Try.prog 58 #[pk ad i] w fun e w' => e = .returned (pk ad r) ∧ w' = w := by
  have hu74 := Try.underlying74
  have HH := Aside0.mk hH
  have H := Aside0.mk h
  clear hH h
  go_enter Try.func58, Try.ntmps58
  go_wp2_with fail
  go_loopg [0] k (fun kq v0 wr => ∃ (i : Nat), v0 = pk ad i ∧ Aside0 (fend s kq i = some r) ∧ wr = w)
  case atStart => exact ⟨i, rfl, H, rfl⟩
  case round =>
    obtain ⟨i, rfl, HF, rfl⟩ := hrel
    have hf := HF.out
    cases gk with
    | zero => exact absurd hf (by simp [fend])
    | succ k1 =>
      unfold fend at hf
      cases hn : s[i]? with
      | none => rw [hn] at hf; cases hf
      | some n =>
        rw [hn] at hf
        simp only at hf
        have hc := HH.out.cell i n hn
        have hc0 : wr.cell? ⟨bk ad i, 0, none⟩ = some (pv ad n.lk) := (blk_cell hc 0).trans rfl
        clear hc HF hn
        cases hl : n.lk with
        | none =>
          rw [hl] at hf hc0
          injection hf with hf
          subst hf
          simp only [pv] at hc0
          try simp only [pk]
          go_wp2_with fail
          go_ret
          exact ⟨rfl, rfl⟩
        | some j =>
          rw [hl] at hf hc0
          simp only at hf
          have HF2 := Aside0.mk hf
          clear hf
          simp only [pv, pk] at hc0
          try simp only [pk]
          go_wp2_with fail
          go_roundg k1
          case measure => omega
          case rel => exact ⟨j, rfl, HF2, rfl⟩
end Go.Proofs.Ytfhgoebgnilfaaa.I
