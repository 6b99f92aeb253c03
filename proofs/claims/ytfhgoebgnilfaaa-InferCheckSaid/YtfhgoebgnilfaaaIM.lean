/- Sets of strings that a call makes: map[string]bool. -/
import Derived.Test.YtfhgoebgnilfaaaI0
import Derived.Maps.OwnOps
import Derived.Maps.Views
namespace Go.Proofs.Ytfhgoebgnilfaaa.I
open Go.RowKit Go.Proofs.YtfhgoebgnilfaaaW.PrintWords Go.Proofs.YtfhgoebgnilfaaaW.PrintLast Go.Proofs.YtfhgoebgnilfaaaW.PrintMore
open Go.WideShapes Go.Maps Go.ChangeMaps Go.WideMaps
set_option linter.unusedVariables false
set_option maxRecDepth 100000
set_option linter.unusedSimpArgs false
def lits (L : List ByteArray) : List Lit := L.map (fun s => Lit.string s.data.toList)
/-- Is a string on a list? -/
def isIn (L : List ByteArray) (s : ByteArray) : Bool := L.any (fun x => x.data.toList == s.data.toList)
/-- A block that holds a set of strings. -/
def Seen (w : World) (b n : Nat) (L : List ByteArray) : Prop := w.ownsMap (H := Unit) Try.prog 9 (plainElem Try.prog 4) b n (setOf (.lit (.bool true)) (lits L))
theorem seen_made (w : World) : Seen (w.alloc (.map #[] 0)) w.heap.size 0 [] := World.ownsMap_made w Try.prog 9 _
theorem bool_inv {e : TypeId} (he : Try.prog.underlying e = some .bool) {v : Value} {z : DataW Unit × List MemPlace} (h : plainElem Try.prog e v = some z) : ∃ x, v = .bool x ∧ z = (.lit (.bool x), []) := by
  unfold plainElem at h
  rw [he] at h
  cases v <;> simp at h
  exact ⟨_, rfl, h.symm⟩
theorem iskey (x : ByteArray) : WideAt.IsKeyLit (Lit.string x.data.toList) := trivial
theorem atKey_set (L : List ByteArray) (s : ByteArray) : (setOf (H := Unit) (.lit (.bool true)) (lits L)).atKey (.string s.data.toList) (.lit (.bool false)) = .lit (.bool (isIn L s)) := by
  have gen : ∀ (M : List ByteArray), (setOf (H := Unit) (.lit (.bool true)) (lits M.reverse)).atKey (.string s.data.toList) (.lit (.bool false)) = .lit (.bool (isIn M s)) := by
    intro M
    induction M with
    | nil => rfl
    | cons x M ih =>
      have e : lits (x :: M).reverse = lits M.reverse ++ [Lit.string x.data.toList] := by simp [lits]
      have hk : ∀ y ∈ lits M.reverse, WideAt.IsKeyLit y := by
        intro y hy
        obtain ⟨z, _, rfl⟩ := List.mem_map.1 hy
        exact iskey z
      rw [e, setOf_snoc]
      by_cases hx : x.data.toList = s.data.toList
      · rw [hx, atKey_put_same (tidy_setOf _ _ hk).isMap (iskey s)]
        have : (x.data.toList == s.data.toList) = true := beq_iff_eq.2 hx
        unfold isIn
        rw [List.any_cons, this]
        rfl
      · have hne : Lit.string s.data.toList ≠ Lit.string x.data.toList := by
          intro h
          injection h with h
          exact hx h.symm
        rw [atKey_put_other hne, ih]
        have : (x.data.toList == s.data.toList) = false := beq_eq_false_iff_ne.2 hx
        unfold isIn
        rw [List.any_cons, this]
        rfl
  have := gen L.reverse
  rw [List.reverse_reverse] at this
  rw [this]
  simp [isIn, List.any_reverse]
theorem law9 : Keyed Try.prog 9 := string_keyed Try.underlying9
theorem zero4 (w : World) : (zeroValue 4).run Try.prog w = .ok (.bool false) w := by kernel_rfl
theorem seen_look {w : World} {b n : Nat} {L : List ByteArray} (h : Seen w b n L) (s : ByteArray) (hs : s.size ≤ maxLen) : (Instr.lookup 64 (.map (some b)) (.string s) false).run Try.prog w = .ok (.bool (isIn L s)) w := by
  obtain ⟨v, ps, hrun, hv⟩ := World.ownsMap.lookup (t := 64) h law9 Try.underlying64 (zero4 w) (plainElem_bool Try.underlying4 false) (keyOf_string_mk Try.underlying9 hs)
  obtain ⟨x, rfl, hx⟩ := bool_inv Try.underlying4 hv
  injection hx with hx _
  rw [atKey_set] at hx
  injection hx with hx
  injection hx with hx
  rw [hrun, hx]
theorem Seen.grown {w w1 : World} {b n : Nat} {L : List ByteArray} (h : Seen w b n L) (hb : Below w.heap.size w w1) : Seen w1 b n L :=
  World.ownsMap.kept (row := none) h ⟨hb.os, hb.tape, hb.output, hb.size, fun i hi _ => hb.block i hi⟩ (by simp)
theorem Seen.set {w : World} {b n : Nat} {L : List ByteArray} (h : Seen w b n L) {p : Addr} (hp : b ≠ p.block) (u : Value) : Seen (w.setCell p u) b n L := by
  obtain ⟨es, clock, hb, r⟩ := h
  exact ⟨es, clock, by rw [Below.heap_setCell _ _ _ _ hp]; exact hb, r⟩
theorem Seen.lt {w : World} {b n : Nat} {L : List ByteArray} (h : Seen w b n L) : b < w.heap.size := World.ownsMap.lt h
theorem seen_put {b n : Nat} {L : List ByteArray} {s : ByteArray} {w' : World} (h : w'.ownsMap (H := Unit) Try.prog 9 (plainElem Try.prog 4) b (n + 1) ((setOf (.lit (.bool true)) (lits L)).put (.string s.data.toList) (.lit (.bool true)))) : Seen w' b (n + 1) (L ++ [s]) := by
  unfold Seen
  rw [show lits (L ++ [s]) = lits L ++ [Lit.string s.data.toList] from by simp [lits], setOf_snoc]
  exact h
end Go.Proofs.Ytfhgoebgnilfaaa.I
