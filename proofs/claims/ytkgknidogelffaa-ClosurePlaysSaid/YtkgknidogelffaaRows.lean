/-
  NARROWER THAN 'FOR EVERY INPUT', by the rows' own cells (each row's printed sentence says how): ClosureOwn: loops · ClosurePlays: loops · ClosureGoes: loops · ClosureTree: loops.
  DERIVED. THE GIVEN ROWS OF THIS SEAT. 5 by the template 'for every input the law returns true; each argument reads behind the call as it read before'; 0 by the template 'total and deterministic' (their statements: YtkgknidogelffaaTotals.lean).
  GIVEN WITH THE SEED: the statements are not yours to turn. If you find one false, say at which input.
  Laid BY PROGRAM, IN A SANDBOX (cutbox-rows.mjs): the forced cells as the released guide's own fill.sh prints them over the translation 082c6629ddf80049… (all of the seat's roots in one cut). By AI agents, Wed Nov 11 2026. No macro, syntax, notation, axiom, sorry.
-/
import Derived.Test.YtkgknidogelffaaChecked
import GoSem.Claim
import GoSem.ClaimJoined
import GoSem.ClaimMapViews
import Derived.JoinedTies
import Derived.KernelRfl
namespace Go.Proofs.Ytkgknidogelffaa
/- THE CELL 'sum', in the pinned program and in every row, IS THE sha256 OF THE DUMP (.gsa) THAT YtkgknidogelffaaProg.lean LOADS. Nothing in Lean hashes anything: it is a label: what it is worth is what the hold of that sum in a sandbox is worth. -/
noncomputable def Try.pinned : Pinned := { name := "ytkgknidogelffaa", sum := "082c6629ddf80049cf47c95890f3d2ae98ea505580b4bed4cc734faa4f7d9531", checked := Try.checked }
namespace Rows
def none {H : Type} : Left H := { results := [], args := [] }

/-- 'virgationlaw08.ClosureOwn': WHATEVER THE INPUT: true; the input reads as it did. -/
def closureOwnSpec : ChangeSpec := { name := "closureOwn", fn := fun _ => fun
  | [d1, d2, d3] => { results := [.lit (.bool true)], args := [d1, d2, d3] }
  | _ => none }
def closureOwnRow : OpenClaim := { program := "ytkgknidogelffaa", sum := "082c6629ddf80049cf47c95890f3d2ae98ea505580b4bed4cc734faa4f7d9531", func := "virgation/virgationlaw08.ClosureOwn", spec := "closureOwn", unfollowed := true, recurses := true, loops := true, apart := false }
def ClosureOwnSaid : Prop := closureOwnRow.holds Try.pinned (OpenSpec.ofChange closureOwnSpec)

/-- ITS FALSE NEIGHBOUR: 'it returns false'. Refute it at one input. -/
def closureOwnWrong : ChangeSpec := { name := "closureOwn", fn := fun _ => fun
  | [d1, d2, d3] => { results := [.lit (.bool false)], args := [d1, d2, d3] }
  | _ => none }
def ClosureOwnWrongFalsely : Prop := closureOwnRow.holds Try.pinned (OpenSpec.ofChange closureOwnWrong)

/-- 'virgationlaw08.ClosurePlays': WHATEVER THE INPUT: true; the input reads as it did. -/
def closurePlaysSpec : ChangeSpec := { name := "closurePlays", fn := fun _ => fun
  | [d1, d2] => { results := [.lit (.bool true)], args := [d1, d2] }
  | _ => none }
def closurePlaysRow : OpenClaim := { program := "ytkgknidogelffaa", sum := "082c6629ddf80049cf47c95890f3d2ae98ea505580b4bed4cc734faa4f7d9531", func := "virgation/virgationlaw08.ClosurePlays", spec := "closurePlays", unfollowed := true, recurses := true, loops := true, apart := false }
def ClosurePlaysSaid : Prop := closurePlaysRow.holds Try.pinned (OpenSpec.ofChange closurePlaysSpec)

/-- ITS FALSE NEIGHBOUR: 'it returns false'. Refute it at one input. -/
def closurePlaysWrong : ChangeSpec := { name := "closurePlays", fn := fun _ => fun
  | [d1, d2] => { results := [.lit (.bool false)], args := [d1, d2] }
  | _ => none }
def ClosurePlaysWrongFalsely : Prop := closurePlaysRow.holds Try.pinned (OpenSpec.ofChange closurePlaysWrong)

/-- 'virgationlaw08.ClosureGoes': WHATEVER THE INPUT: true; the input reads as it did. -/
def closureGoesSpec : ChangeSpec := { name := "closureGoes", fn := fun _ => fun
  | [d1, d2, d3, d4] => { results := [.lit (.bool true)], args := [d1, d2, d3, d4] }
  | _ => none }
def closureGoesRow : OpenClaim := { program := "ytkgknidogelffaa", sum := "082c6629ddf80049cf47c95890f3d2ae98ea505580b4bed4cc734faa4f7d9531", func := "virgation/virgationlaw08.ClosureGoes", spec := "closureGoes", unfollowed := true, recurses := true, loops := true, apart := false }
def ClosureGoesSaid : Prop := closureGoesRow.holds Try.pinned (OpenSpec.ofChange closureGoesSpec)

/-- ITS FALSE NEIGHBOUR: 'it returns false'. Refute it at one input. -/
def closureGoesWrong : ChangeSpec := { name := "closureGoes", fn := fun _ => fun
  | [d1, d2, d3, d4] => { results := [.lit (.bool false)], args := [d1, d2, d3, d4] }
  | _ => none }
def ClosureGoesWrongFalsely : Prop := closureGoesRow.holds Try.pinned (OpenSpec.ofChange closureGoesWrong)

/-- 'virgationlaw08.ClosureNil': WHATEVER THE INPUT: true; the input reads as it did. -/
def closureNilSpec : ChangeSpec := { name := "closureNil", fn := fun _ => fun
  | [d1, d2] => { results := [.lit (.bool true)], args := [d1, d2] }
  | _ => none }
def closureNilRow : OpenClaim := { program := "ytkgknidogelffaa", sum := "082c6629ddf80049cf47c95890f3d2ae98ea505580b4bed4cc734faa4f7d9531", func := "virgation/virgationlaw08.ClosureNil", spec := "closureNil", unfollowed := true, recurses := true, apart := false }
def ClosureNilSaid : Prop := closureNilRow.holds Try.pinned (OpenSpec.ofChange closureNilSpec)

/-- ITS FALSE NEIGHBOUR: 'it returns false'. Refute it at one input. -/
def closureNilWrong : ChangeSpec := { name := "closureNil", fn := fun _ => fun
  | [d1, d2] => { results := [.lit (.bool false)], args := [d1, d2] }
  | _ => none }
def ClosureNilWrongFalsely : Prop := closureNilRow.holds Try.pinned (OpenSpec.ofChange closureNilWrong)

/-- 'virgationlaw08.ClosureTree': WHATEVER THE INPUT: true; the input reads as it did. -/
def closureTreeSpec : ChangeSpec := { name := "closureTree", fn := fun _ => fun
  | [d1, d2, d3] => { results := [.lit (.bool true)], args := [d1, d2, d3] }
  | _ => none }
def closureTreeRow : OpenClaim := { program := "ytkgknidogelffaa", sum := "082c6629ddf80049cf47c95890f3d2ae98ea505580b4bed4cc734faa4f7d9531", func := "virgation/virgationlaw08.ClosureTree", spec := "closureTree", unfollowed := true, recurses := true, loops := true, apart := false }
def ClosureTreeSaid : Prop := closureTreeRow.holds Try.pinned (OpenSpec.ofChange closureTreeSpec)

/-- ITS FALSE NEIGHBOUR: 'it returns false'. Refute it at one input. -/
def closureTreeWrong : ChangeSpec := { name := "closureTree", fn := fun _ => fun
  | [d1, d2, d3] => { results := [.lit (.bool false)], args := [d1, d2, d3] }
  | _ => none }
def ClosureTreeWrongFalsely : Prop := closureTreeRow.holds Try.pinned (OpenSpec.ofChange closureTreeWrong)

/- THE SECOND FORM. 'bulk': how many values and letters a reading holds, each counted each time it is reached (what is shared counts as often as it is met; a slice's spare places count too). A statement '..UptoSaid' is the law's where the arguments, and the package variables that the reading takes, are together of bulk at most 1048576: NARROWER than '..Said'. Prove '..Said' where nothing that the law and all that it calls make is longer than what came in: it says more and counts as full. Else prove '..UptoSaid'. A law counts once. -/
mutual
def uptoBulk {H : Type} : DataW H → Nat
  | .lit (.string bytes) => bytes.length + 1
  | .lit _ => 1
  | .nil => 1
  | .ptr d => uptoBulk d + 1
  | .slice elems spare => uptoBulkAll elems + uptoBulkAll spare + 1
  | .agg parts => uptoBulkAll parts + 1
  | .iface _ d => uptoBulk d + 1
  | .map entries => uptoBulkEntries entries + 1
  | .held _ => 1
def uptoBulkAll {H : Type} : List (DataW H) → Nat
  | [] => 0
  | d :: r => uptoBulk d + uptoBulkAll r
def uptoBulkEntries {H : Type} : List (Lit × DataW H) → Nat
  | [] => 0
  | x :: r => uptoBulkEntry x + uptoBulkEntries r
def uptoBulkEntry {H : Type} : Lit × DataW H → Nat
  | (.string bytes, d) => bytes.length + uptoBulk d + 1
  | (_, d) => uptoBulk d + 1
 end
def uptoSmall : (H : Type) → List (DataW H) → Bool := fun _ ds => decide (uptoBulkAll ds ≤ 1048576)
def OpenSpec.upto (s : _root_.Go.ChangeSpec) : _root_.Go.OpenSpec := { _root_.Go.OpenSpec.ofChange s with cond := some uptoSmall }

/-- 'virgationlaw08.ClosureOwn', WHERE WHAT IT READS IS OF BULK AT MOST 1048576: true; the input reads as it did. -/
def closureOwnUptoRow : OpenClaim := { program := "ytkgknidogelffaa", sum := "082c6629ddf80049cf47c95890f3d2ae98ea505580b4bed4cc734faa4f7d9531", func := "virgation/virgationlaw08.ClosureOwn", spec := "closureOwn", unfollowed := true, recurses := true, loops := true, apart := false, narrowed := true }
def ClosureOwnUptoSaid : Prop := closureOwnUptoRow.holds Try.pinned (OpenSpec.upto closureOwnSpec)

/-- 'virgationlaw08.ClosurePlays', WHERE WHAT IT READS IS OF BULK AT MOST 1048576: true; the input reads as it did. -/
def closurePlaysUptoRow : OpenClaim := { program := "ytkgknidogelffaa", sum := "082c6629ddf80049cf47c95890f3d2ae98ea505580b4bed4cc734faa4f7d9531", func := "virgation/virgationlaw08.ClosurePlays", spec := "closurePlays", unfollowed := true, recurses := true, loops := true, apart := false, narrowed := true }
def ClosurePlaysUptoSaid : Prop := closurePlaysUptoRow.holds Try.pinned (OpenSpec.upto closurePlaysSpec)

/-- 'virgationlaw08.ClosureGoes', WHERE WHAT IT READS IS OF BULK AT MOST 1048576: true; the input reads as it did. -/
def closureGoesUptoRow : OpenClaim := { program := "ytkgknidogelffaa", sum := "082c6629ddf80049cf47c95890f3d2ae98ea505580b4bed4cc734faa4f7d9531", func := "virgation/virgationlaw08.ClosureGoes", spec := "closureGoes", unfollowed := true, recurses := true, loops := true, apart := false, narrowed := true }
def ClosureGoesUptoSaid : Prop := closureGoesUptoRow.holds Try.pinned (OpenSpec.upto closureGoesSpec)

/-- 'virgationlaw08.ClosureNil', WHERE WHAT IT READS IS OF BULK AT MOST 1048576: true; the input reads as it did. -/
def closureNilUptoRow : OpenClaim := { program := "ytkgknidogelffaa", sum := "082c6629ddf80049cf47c95890f3d2ae98ea505580b4bed4cc734faa4f7d9531", func := "virgation/virgationlaw08.ClosureNil", spec := "closureNil", unfollowed := true, recurses := true, apart := false, narrowed := true }
def ClosureNilUptoSaid : Prop := closureNilUptoRow.holds Try.pinned (OpenSpec.upto closureNilSpec)

/-- 'virgationlaw08.ClosureTree', WHERE WHAT IT READS IS OF BULK AT MOST 1048576: true; the input reads as it did. -/
def closureTreeUptoRow : OpenClaim := { program := "ytkgknidogelffaa", sum := "082c6629ddf80049cf47c95890f3d2ae98ea505580b4bed4cc734faa4f7d9531", func := "virgation/virgationlaw08.ClosureTree", spec := "closureTree", unfollowed := true, recurses := true, loops := true, apart := false, narrowed := true }
def ClosureTreeUptoSaid : Prop := closureTreeUptoRow.holds Try.pinned (OpenSpec.upto closureTreeSpec)

end Rows
end Go.Proofs.Ytkgknidogelffaa
