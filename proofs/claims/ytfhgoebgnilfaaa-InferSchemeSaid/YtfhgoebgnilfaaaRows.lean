/-
  NARROWER THAN 'FOR EVERY INPUT', by the rows' own cells (each row's printed sentence says how): InferCheck: loops · InferSorts: loops · InferFinds: loops · InferScheme: loops · InferValid: loops · InferOwn: loops.
  DERIVED. THE GIVEN ROWS OF THIS SEAT. 6 by the template 'for every input the law returns true; each argument reads behind the call as it read before'; 0 by the template 'total and deterministic' (their statements: YtfhgoebgnilfaaaTotals.lean).
  GIVEN WITH THE SEED: the statements are not yours to turn. If you find one false, say at which input.
  Laid BY PROGRAM, IN A SANDBOX (cutbox-rows.mjs): the forced cells as the released guide's own fill.sh prints them over the translation 82ab35600ec5c5ad… (all of the seat's roots in one cut). By AI agents, Wed Nov 11 2026. No macro, syntax, notation, axiom, sorry.
-/
import Derived.Test.YtfhgoebgnilfaaaChecked
import GoSem.Claim
import GoSem.ClaimJoined
import GoSem.ClaimMapViews
import Derived.JoinedTies
import Derived.KernelRfl
namespace Go.Proofs.Ytfhgoebgnilfaaa
/- THE CELL 'sum', in the pinned program and in every row, IS THE sha256 OF THE DUMP (.gsa) THAT YtfhgoebgnilfaaaProg.lean LOADS. Nothing in Lean hashes anything: it is a label: what it is worth is what the hold of that sum in a sandbox is worth. -/
noncomputable def Try.pinned : Pinned := { name := "ytfhgoebgnilfaaa", sum := "82ab35600ec5c5ad74d6117e8b45d1ba8254b4a86244cb471f28dbfb8ce3ca18", checked := Try.checked }
namespace Rows
def none {H : Type} : Left H := { results := [], args := [] }

/-- 'virgationlaw04.InferCheck': WHATEVER THE INPUT: true; the input reads as it did. -/
def inferCheckSpec : ChangeSpec := { name := "inferCheck", fn := fun _ => fun
  | [d1, d2] => { results := [.lit (.bool true)], args := [d1, d2] }
  | _ => none }
def inferCheckRow : OpenClaim := { program := "ytfhgoebgnilfaaa", sum := "82ab35600ec5c5ad74d6117e8b45d1ba8254b4a86244cb471f28dbfb8ce3ca18", func := "virgation/virgationlaw04.InferCheck", spec := "inferCheck", unfollowed := true, recurses := true, loops := true, apart := false }
def InferCheckSaid : Prop := inferCheckRow.holds Try.pinned (OpenSpec.ofChange inferCheckSpec)

/-- ITS FALSE NEIGHBOUR: 'it returns false'. Refute it at one input. -/
def inferCheckWrong : ChangeSpec := { name := "inferCheck", fn := fun _ => fun
  | [d1, d2] => { results := [.lit (.bool false)], args := [d1, d2] }
  | _ => none }
def InferCheckWrongFalsely : Prop := inferCheckRow.holds Try.pinned (OpenSpec.ofChange inferCheckWrong)

/-- 'virgationlaw04.InferSorts': WHATEVER THE INPUT: true; the input reads as it did. -/
def inferSortsSpec : ChangeSpec := { name := "inferSorts", fn := fun _ => fun
  | [d1, d2] => { results := [.lit (.bool true)], args := [d1, d2] }
  | _ => none }
def inferSortsRow : OpenClaim := { program := "ytfhgoebgnilfaaa", sum := "82ab35600ec5c5ad74d6117e8b45d1ba8254b4a86244cb471f28dbfb8ce3ca18", func := "virgation/virgationlaw04.InferSorts", spec := "inferSorts", unfollowed := true, recurses := true, loops := true, apart := false }
def InferSortsSaid : Prop := inferSortsRow.holds Try.pinned (OpenSpec.ofChange inferSortsSpec)

/-- ITS FALSE NEIGHBOUR: 'it returns false'. Refute it at one input. -/
def inferSortsWrong : ChangeSpec := { name := "inferSorts", fn := fun _ => fun
  | [d1, d2] => { results := [.lit (.bool false)], args := [d1, d2] }
  | _ => none }
def InferSortsWrongFalsely : Prop := inferSortsRow.holds Try.pinned (OpenSpec.ofChange inferSortsWrong)

/-- 'virgationlaw04.InferFinds': WHATEVER THE INPUT: true; the input reads as it did. -/
def inferFindsSpec : ChangeSpec := { name := "inferFinds", fn := fun _ => fun
  | [d] => { results := [.lit (.bool true)], args := [d] }
  | _ => none }
def inferFindsRow : OpenClaim := { program := "ytfhgoebgnilfaaa", sum := "82ab35600ec5c5ad74d6117e8b45d1ba8254b4a86244cb471f28dbfb8ce3ca18", func := "virgation/virgationlaw04.InferFinds", spec := "inferFinds", unfollowed := true, recurses := true, loops := true, apart := false }
def InferFindsSaid : Prop := inferFindsRow.holds Try.pinned (OpenSpec.ofChange inferFindsSpec)

/-- ITS FALSE NEIGHBOUR: 'it returns false'. Refute it at one input. -/
def inferFindsWrong : ChangeSpec := { name := "inferFinds", fn := fun _ => fun
  | [d] => { results := [.lit (.bool false)], args := [d] }
  | _ => none }
def InferFindsWrongFalsely : Prop := inferFindsRow.holds Try.pinned (OpenSpec.ofChange inferFindsWrong)

/-- 'virgationlaw04.InferScheme': WHATEVER THE INPUT: true; the input reads as it did. -/
def inferSchemeSpec : ChangeSpec := { name := "inferScheme", fn := fun _ => fun
  | [d1, d2] => { results := [.lit (.bool true)], args := [d1, d2] }
  | _ => none }
def inferSchemeRow : OpenClaim := { program := "ytfhgoebgnilfaaa", sum := "82ab35600ec5c5ad74d6117e8b45d1ba8254b4a86244cb471f28dbfb8ce3ca18", func := "virgation/virgationlaw04.InferScheme", spec := "inferScheme", unfollowed := true, recurses := true, loops := true, apart := false }
def InferSchemeSaid : Prop := inferSchemeRow.holds Try.pinned (OpenSpec.ofChange inferSchemeSpec)

/-- ITS FALSE NEIGHBOUR: 'it returns false'. Refute it at one input. -/
def inferSchemeWrong : ChangeSpec := { name := "inferScheme", fn := fun _ => fun
  | [d1, d2] => { results := [.lit (.bool false)], args := [d1, d2] }
  | _ => none }
def InferSchemeWrongFalsely : Prop := inferSchemeRow.holds Try.pinned (OpenSpec.ofChange inferSchemeWrong)

/-- 'virgationlaw04.InferValid': WHATEVER THE INPUT: true; the input reads as it did. -/
def inferValidSpec : ChangeSpec := { name := "inferValid", fn := fun _ => fun
  | [d1, d2] => { results := [.lit (.bool true)], args := [d1, d2] }
  | _ => none }
def inferValidRow : OpenClaim := { program := "ytfhgoebgnilfaaa", sum := "82ab35600ec5c5ad74d6117e8b45d1ba8254b4a86244cb471f28dbfb8ce3ca18", func := "virgation/virgationlaw04.InferValid", spec := "inferValid", unfollowed := true, recurses := true, loops := true, apart := false }
def InferValidSaid : Prop := inferValidRow.holds Try.pinned (OpenSpec.ofChange inferValidSpec)

/-- ITS FALSE NEIGHBOUR: 'it returns false'. Refute it at one input. -/
def inferValidWrong : ChangeSpec := { name := "inferValid", fn := fun _ => fun
  | [d1, d2] => { results := [.lit (.bool false)], args := [d1, d2] }
  | _ => none }
def InferValidWrongFalsely : Prop := inferValidRow.holds Try.pinned (OpenSpec.ofChange inferValidWrong)

/-- 'virgationlaw04.InferOwn': WHATEVER THE INPUT: true; the input reads as it did. -/
def inferOwnSpec : ChangeSpec := { name := "inferOwn", fn := fun _ => fun
  | [d1, d2] => { results := [.lit (.bool true)], args := [d1, d2] }
  | _ => none }
def inferOwnRow : OpenClaim := { program := "ytfhgoebgnilfaaa", sum := "82ab35600ec5c5ad74d6117e8b45d1ba8254b4a86244cb471f28dbfb8ce3ca18", func := "virgation/virgationlaw04.InferOwn", spec := "inferOwn", unfollowed := true, recurses := true, loops := true, apart := false }
def InferOwnSaid : Prop := inferOwnRow.holds Try.pinned (OpenSpec.ofChange inferOwnSpec)

/-- ITS FALSE NEIGHBOUR: 'it returns false'. Refute it at one input. -/
def inferOwnWrong : ChangeSpec := { name := "inferOwn", fn := fun _ => fun
  | [d1, d2] => { results := [.lit (.bool false)], args := [d1, d2] }
  | _ => none }
def InferOwnWrongFalsely : Prop := inferOwnRow.holds Try.pinned (OpenSpec.ofChange inferOwnWrong)

/- THE SECOND FORM. 'bulk': how many values and letters a reading holds, each counted each time it is reached (what is shared counts as often as it is met; a slice's spare places count too). A statement '..UptoSaid' is the law's where the arguments, and the package variables that the reading takes, are together of bulk at most 1048576: NARROWER than '..Said'. Prove '..Said' where nothing that the law and all that it calls make is longer than what came in: it says more and counts as full. Else prove '..UptoSaid'. A law counts once. -/
mutual
def uptoBulk {H : Type} : DataW H → Nat
  | .lit (.string bytes) => bytes.length + 1
  | .lit _ => 1
  | .nil => 1
  | .ptr d => uptoBulk d + 1
  | .slice elems spare => uptoBulkAll elems + uptoBulkAll spare + 1
  | .agg parts => uptoBulkAll parts + 1
  | .iface _ d => uptoBulk d + 1
  | .map entries => uptoBulkEntries entries + 1
  | .held _ => 1
def uptoBulkAll {H : Type} : List (DataW H) → Nat
  | [] => 0
  | d :: r => uptoBulk d + uptoBulkAll r
def uptoBulkEntries {H : Type} : List (Lit × DataW H) → Nat
  | [] => 0
  | x :: r => uptoBulkEntry x + uptoBulkEntries r
def uptoBulkEntry {H : Type} : Lit × DataW H → Nat
  | (.string bytes, d) => bytes.length + uptoBulk d + 1
  | (_, d) => uptoBulk d + 1
 end
def uptoSmall : (H : Type) → List (DataW H) → Bool := fun _ ds => decide (uptoBulkAll ds ≤ 1048576)
def OpenSpec.upto (s : _root_.Go.ChangeSpec) : _root_.Go.OpenSpec := { _root_.Go.OpenSpec.ofChange s with cond := some uptoSmall }

/-- 'virgationlaw04.InferCheck', WHERE WHAT IT READS IS OF BULK AT MOST 1048576: true; the input reads as it did. -/
def inferCheckUptoRow : OpenClaim := { program := "ytfhgoebgnilfaaa", sum := "82ab35600ec5c5ad74d6117e8b45d1ba8254b4a86244cb471f28dbfb8ce3ca18", func := "virgation/virgationlaw04.InferCheck", spec := "inferCheck", unfollowed := true, recurses := true, loops := true, apart := false, narrowed := true }
def InferCheckUptoSaid : Prop := inferCheckUptoRow.holds Try.pinned (OpenSpec.upto inferCheckSpec)

/-- 'virgationlaw04.InferSorts', WHERE WHAT IT READS IS OF BULK AT MOST 1048576: true; the input reads as it did. -/
def inferSortsUptoRow : OpenClaim := { program := "ytfhgoebgnilfaaa", sum := "82ab35600ec5c5ad74d6117e8b45d1ba8254b4a86244cb471f28dbfb8ce3ca18", func := "virgation/virgationlaw04.InferSorts", spec := "inferSorts", unfollowed := true, recurses := true, loops := true, apart := false, narrowed := true }
def InferSortsUptoSaid : Prop := inferSortsUptoRow.holds Try.pinned (OpenSpec.upto inferSortsSpec)

/-- 'virgationlaw04.InferFinds', WHERE WHAT IT READS IS OF BULK AT MOST 1048576: true; the input reads as it did. -/
def inferFindsUptoRow : OpenClaim := { program := "ytfhgoebgnilfaaa", sum := "82ab35600ec5c5ad74d6117e8b45d1ba8254b4a86244cb471f28dbfb8ce3ca18", func := "virgation/virgationlaw04.InferFinds", spec := "inferFinds", unfollowed := true, recurses := true, loops := true, apart := false, narrowed := true }
def InferFindsUptoSaid : Prop := inferFindsUptoRow.holds Try.pinned (OpenSpec.upto inferFindsSpec)

/-- 'virgationlaw04.InferScheme', WHERE WHAT IT READS IS OF BULK AT MOST 1048576: true; the input reads as it did. -/
def inferSchemeUptoRow : OpenClaim := { program := "ytfhgoebgnilfaaa", sum := "82ab35600ec5c5ad74d6117e8b45d1ba8254b4a86244cb471f28dbfb8ce3ca18", func := "virgation/virgationlaw04.InferScheme", spec := "inferScheme", unfollowed := true, recurses := true, loops := true, apart := false, narrowed := true }
def InferSchemeUptoSaid : Prop := inferSchemeUptoRow.holds Try.pinned (OpenSpec.upto inferSchemeSpec)

/-- 'virgationlaw04.InferValid', WHERE WHAT IT READS IS OF BULK AT MOST 1048576: true; the input reads as it did. -/
def inferValidUptoRow : OpenClaim := { program := "ytfhgoebgnilfaaa", sum := "82ab35600ec5c5ad74d6117e8b45d1ba8254b4a86244cb471f28dbfb8ce3ca18", func := "virgation/virgationlaw04.InferValid", spec := "inferValid", unfollowed := true, recurses := true, loops := true, apart := false, narrowed := true }
def InferValidUptoSaid : Prop := inferValidUptoRow.holds Try.pinned (OpenSpec.upto inferValidSpec)

/-- 'virgationlaw04.InferOwn', WHERE WHAT IT READS IS OF BULK AT MOST 1048576: true; the input reads as it did. -/
def inferOwnUptoRow : OpenClaim := { program := "ytfhgoebgnilfaaa", sum := "82ab35600ec5c5ad74d6117e8b45d1ba8254b4a86244cb471f28dbfb8ce3ca18", func := "virgation/virgationlaw04.InferOwn", spec := "inferOwn", unfollowed := true, recurses := true, loops := true, apart := false, narrowed := true }
def InferOwnUptoSaid : Prop := inferOwnUptoRow.holds Try.pinned (OpenSpec.upto inferOwnSpec)

end Rows
end Go.Proofs.Ytfhgoebgnilfaaa
