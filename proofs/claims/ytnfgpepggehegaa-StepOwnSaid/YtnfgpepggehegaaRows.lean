/-
  NARROWER THAN 'FOR EVERY INPUT', by the rows' own cells (each row's printed sentence says how): StepCheck: loops · StepOnce: loops · StepRun: loops · StepStays: loops · StepRuns: loops · StepMore: loops · StepHeads: loops · StepOwn: loops.
  DERIVED. THE GIVEN ROWS OF THIS SEAT. 8 by the template 'for every input the law returns true; each argument reads behind the call as it read before'; 0 by the template 'total and deterministic' (their statements: YtnfgpepggehegaaTotals.lean).
  GIVEN WITH THE SEED: the statements are not yours to turn. If you find one false, say at which input.
  Laid BY PROGRAM, IN A SANDBOX (cutbox-rows.mjs): the forced cells as the released guide's own fill.sh prints them over the translation b8d051748cfd07d4… (all of the seat's roots in one cut). By AI agents, Wed Nov 11 2026. No macro, syntax, notation, axiom, sorry.
-/
import Derived.Test.YtnfgpepggehegaaChecked
import GoSem.Claim
import GoSem.ClaimJoined
import GoSem.ClaimMapViews
import Derived.JoinedTies
import Derived.KernelRfl
namespace Go.Proofs.Ytnfgpepggehegaa
/- THE CELL 'sum', in the pinned program and in every row, IS THE sha256 OF THE DUMP (.gsa) THAT YtnfgpepggehegaaProg.lean LOADS. Nothing in Lean hashes anything: it is a label: what it is worth is what the hold of that sum in a sandbox is worth. -/
noncomputable def Try.pinned : Pinned := { name := "ytnfgpepggehegaa", sum := "b8d051748cfd07d47fa5c05875a338f0baa8a06ed898e0456ca59e2ea8112319", checked := Try.checked }
namespace Rows
def none {H : Type} : Left H := { results := [], args := [] }

/-- 'virgationlaw05.StepCheck': WHATEVER THE INPUT: true; the input reads as it did. -/
def stepCheckSpec : ChangeSpec := { name := "stepCheck", fn := fun _ => fun
  | [d1, d2] => { results := [.lit (.bool true)], args := [d1, d2] }
  | _ => none }
def stepCheckRow : OpenClaim := { program := "ytnfgpepggehegaa", sum := "b8d051748cfd07d47fa5c05875a338f0baa8a06ed898e0456ca59e2ea8112319", func := "virgation/virgationlaw05.StepCheck", spec := "stepCheck", unfollowed := true, recurses := true, loops := true, apart := false }
def StepCheckSaid : Prop := stepCheckRow.holds Try.pinned (OpenSpec.ofChange stepCheckSpec)

/-- ITS FALSE NEIGHBOUR: 'it returns false'. Refute it at one input. -/
def stepCheckWrong : ChangeSpec := { name := "stepCheck", fn := fun _ => fun
  | [d1, d2] => { results := [.lit (.bool false)], args := [d1, d2] }
  | _ => none }
def StepCheckWrongFalsely : Prop := stepCheckRow.holds Try.pinned (OpenSpec.ofChange stepCheckWrong)

/-- 'virgationlaw05.StepOnce': WHATEVER THE INPUT: true; the input reads as it did. -/
def stepOnceSpec : ChangeSpec := { name := "stepOnce", fn := fun _ => fun
  | [d1, d2] => { results := [.lit (.bool true)], args := [d1, d2] }
  | _ => none }
def stepOnceRow : OpenClaim := { program := "ytnfgpepggehegaa", sum := "b8d051748cfd07d47fa5c05875a338f0baa8a06ed898e0456ca59e2ea8112319", func := "virgation/virgationlaw05.StepOnce", spec := "stepOnce", unfollowed := true, recurses := true, loops := true, apart := false }
def StepOnceSaid : Prop := stepOnceRow.holds Try.pinned (OpenSpec.ofChange stepOnceSpec)

/-- ITS FALSE NEIGHBOUR: 'it returns false'. Refute it at one input. -/
def stepOnceWrong : ChangeSpec := { name := "stepOnce", fn := fun _ => fun
  | [d1, d2] => { results := [.lit (.bool false)], args := [d1, d2] }
  | _ => none }
def StepOnceWrongFalsely : Prop := stepOnceRow.holds Try.pinned (OpenSpec.ofChange stepOnceWrong)

/-- 'virgationlaw05.StepRun': WHATEVER THE INPUT: true; the input reads as it did. -/
def stepRunSpec : ChangeSpec := { name := "stepRun", fn := fun _ => fun
  | [d1, d2, d3] => { results := [.lit (.bool true)], args := [d1, d2, d3] }
  | _ => none }
def stepRunRow : OpenClaim := { program := "ytnfgpepggehegaa", sum := "b8d051748cfd07d47fa5c05875a338f0baa8a06ed898e0456ca59e2ea8112319", func := "virgation/virgationlaw05.StepRun", spec := "stepRun", unfollowed := true, recurses := true, loops := true, apart := false }
def StepRunSaid : Prop := stepRunRow.holds Try.pinned (OpenSpec.ofChange stepRunSpec)

/-- ITS FALSE NEIGHBOUR: 'it returns false'. Refute it at one input. -/
def stepRunWrong : ChangeSpec := { name := "stepRun", fn := fun _ => fun
  | [d1, d2, d3] => { results := [.lit (.bool false)], args := [d1, d2, d3] }
  | _ => none }
def StepRunWrongFalsely : Prop := stepRunRow.holds Try.pinned (OpenSpec.ofChange stepRunWrong)

/-- 'virgationlaw05.StepStays': WHATEVER THE INPUT: true; the input reads as it did. -/
def stepStaysSpec : ChangeSpec := { name := "stepStays", fn := fun _ => fun
  | [d1, d2] => { results := [.lit (.bool true)], args := [d1, d2] }
  | _ => none }
def stepStaysRow : OpenClaim := { program := "ytnfgpepggehegaa", sum := "b8d051748cfd07d47fa5c05875a338f0baa8a06ed898e0456ca59e2ea8112319", func := "virgation/virgationlaw05.StepStays", spec := "stepStays", unfollowed := true, recurses := true, loops := true, apart := false }
def StepStaysSaid : Prop := stepStaysRow.holds Try.pinned (OpenSpec.ofChange stepStaysSpec)

/-- ITS FALSE NEIGHBOUR: 'it returns false'. Refute it at one input. -/
def stepStaysWrong : ChangeSpec := { name := "stepStays", fn := fun _ => fun
  | [d1, d2] => { results := [.lit (.bool false)], args := [d1, d2] }
  | _ => none }
def StepStaysWrongFalsely : Prop := stepStaysRow.holds Try.pinned (OpenSpec.ofChange stepStaysWrong)

/-- 'virgationlaw05.StepRuns': WHATEVER THE INPUT: true; the input reads as it did. -/
def stepRunsSpec : ChangeSpec := { name := "stepRuns", fn := fun _ => fun
  | [d1, d2, d3] => { results := [.lit (.bool true)], args := [d1, d2, d3] }
  | _ => none }
def stepRunsRow : OpenClaim := { program := "ytnfgpepggehegaa", sum := "b8d051748cfd07d47fa5c05875a338f0baa8a06ed898e0456ca59e2ea8112319", func := "virgation/virgationlaw05.StepRuns", spec := "stepRuns", unfollowed := true, recurses := true, loops := true, apart := false }
def StepRunsSaid : Prop := stepRunsRow.holds Try.pinned (OpenSpec.ofChange stepRunsSpec)

/-- ITS FALSE NEIGHBOUR: 'it returns false'. Refute it at one input. -/
def stepRunsWrong : ChangeSpec := { name := "stepRuns", fn := fun _ => fun
  | [d1, d2, d3] => { results := [.lit (.bool false)], args := [d1, d2, d3] }
  | _ => none }
def StepRunsWrongFalsely : Prop := stepRunsRow.holds Try.pinned (OpenSpec.ofChange stepRunsWrong)

/-- 'virgationlaw05.StepMore': WHATEVER THE INPUT: true; the input reads as it did. -/
def stepMoreSpec : ChangeSpec := { name := "stepMore", fn := fun _ => fun
  | [d1, d2, d3, d4, d5] => { results := [.lit (.bool true)], args := [d1, d2, d3, d4, d5] }
  | _ => none }
def stepMoreRow : OpenClaim := { program := "ytnfgpepggehegaa", sum := "b8d051748cfd07d47fa5c05875a338f0baa8a06ed898e0456ca59e2ea8112319", func := "virgation/virgationlaw05.StepMore", spec := "stepMore", unfollowed := true, recurses := true, loops := true, apart := false }
def StepMoreSaid : Prop := stepMoreRow.holds Try.pinned (OpenSpec.ofChange stepMoreSpec)

/-- ITS FALSE NEIGHBOUR: 'it returns false'. Refute it at one input. -/
def stepMoreWrong : ChangeSpec := { name := "stepMore", fn := fun _ => fun
  | [d1, d2, d3, d4, d5] => { results := [.lit (.bool false)], args := [d1, d2, d3, d4, d5] }
  | _ => none }
def StepMoreWrongFalsely : Prop := stepMoreRow.holds Try.pinned (OpenSpec.ofChange stepMoreWrong)

/-- 'virgationlaw05.StepHeads': WHATEVER THE INPUT: true; the input reads as it did. -/
def stepHeadsSpec : ChangeSpec := { name := "stepHeads", fn := fun _ => fun
  | [d1, d2, d3] => { results := [.lit (.bool true)], args := [d1, d2, d3] }
  | _ => none }
def stepHeadsRow : OpenClaim := { program := "ytnfgpepggehegaa", sum := "b8d051748cfd07d47fa5c05875a338f0baa8a06ed898e0456ca59e2ea8112319", func := "virgation/virgationlaw05.StepHeads", spec := "stepHeads", unfollowed := true, recurses := true, loops := true, apart := false }
def StepHeadsSaid : Prop := stepHeadsRow.holds Try.pinned (OpenSpec.ofChange stepHeadsSpec)

/-- ITS FALSE NEIGHBOUR: 'it returns false'. Refute it at one input. -/
def stepHeadsWrong : ChangeSpec := { name := "stepHeads", fn := fun _ => fun
  | [d1, d2, d3] => { results := [.lit (.bool false)], args := [d1, d2, d3] }
  | _ => none }
def StepHeadsWrongFalsely : Prop := stepHeadsRow.holds Try.pinned (OpenSpec.ofChange stepHeadsWrong)

/-- 'virgationlaw05.StepOwn': WHATEVER THE INPUT: true; the input reads as it did. -/
def stepOwnSpec : ChangeSpec := { name := "stepOwn", fn := fun _ => fun
  | [d1, d2, d3] => { results := [.lit (.bool true)], args := [d1, d2, d3] }
  | _ => none }
def stepOwnRow : OpenClaim := { program := "ytnfgpepggehegaa", sum := "b8d051748cfd07d47fa5c05875a338f0baa8a06ed898e0456ca59e2ea8112319", func := "virgation/virgationlaw05.StepOwn", spec := "stepOwn", unfollowed := true, recurses := true, loops := true, apart := false }
def StepOwnSaid : Prop := stepOwnRow.holds Try.pinned (OpenSpec.ofChange stepOwnSpec)

/-- ITS FALSE NEIGHBOUR: 'it returns false'. Refute it at one input. -/
def stepOwnWrong : ChangeSpec := { name := "stepOwn", fn := fun _ => fun
  | [d1, d2, d3] => { results := [.lit (.bool false)], args := [d1, d2, d3] }
  | _ => none }
def StepOwnWrongFalsely : Prop := stepOwnRow.holds Try.pinned (OpenSpec.ofChange stepOwnWrong)

/- THE SECOND FORM. 'bulk': how many values and letters a reading holds, each counted each time it is reached (what is shared counts as often as it is met; a slice's spare places count too). A statement '..UptoSaid' is the law's where the arguments, and the package variables that the reading takes, are together of bulk at most 1048576: NARROWER than '..Said'. Prove '..Said' where nothing that the law and all that it calls make is longer than what came in: it says more and counts as full. Else prove '..UptoSaid'. A law counts once. -/
mutual
def uptoBulk {H : Type} : DataW H → Nat
  | .lit (.string bytes) => bytes.length + 1
  | .lit _ => 1
  | .nil => 1
  | .ptr d => uptoBulk d + 1
  | .slice elems spare => uptoBulkAll elems + uptoBulkAll spare + 1
  | .agg parts => uptoBulkAll parts + 1
  | .iface _ d => uptoBulk d + 1
  | .map entries => uptoBulkEntries entries + 1
  | .held _ => 1
def uptoBulkAll {H : Type} : List (DataW H) → Nat
  | [] => 0
  | d :: r => uptoBulk d + uptoBulkAll r
def uptoBulkEntries {H : Type} : List (Lit × DataW H) → Nat
  | [] => 0
  | x :: r => uptoBulkEntry x + uptoBulkEntries r
def uptoBulkEntry {H : Type} : Lit × DataW H → Nat
  | (.string bytes, d) => bytes.length + uptoBulk d + 1
  | (_, d) => uptoBulk d + 1
 end
def uptoSmall : (H : Type) → List (DataW H) → Bool := fun _ ds => decide (uptoBulkAll ds ≤ 1048576)
def OpenSpec.upto (s : _root_.Go.ChangeSpec) : _root_.Go.OpenSpec := { _root_.Go.OpenSpec.ofChange s with cond := some uptoSmall }

/-- 'virgationlaw05.StepCheck', WHERE WHAT IT READS IS OF BULK AT MOST 1048576: true; the input reads as it did. -/
def stepCheckUptoRow : OpenClaim := { program := "ytnfgpepggehegaa", sum := "b8d051748cfd07d47fa5c05875a338f0baa8a06ed898e0456ca59e2ea8112319", func := "virgation/virgationlaw05.StepCheck", spec := "stepCheck", unfollowed := true, recurses := true, loops := true, apart := false, narrowed := true }
def StepCheckUptoSaid : Prop := stepCheckUptoRow.holds Try.pinned (OpenSpec.upto stepCheckSpec)

/-- 'virgationlaw05.StepOnce', WHERE WHAT IT READS IS OF BULK AT MOST 1048576: true; the input reads as it did. -/
def stepOnceUptoRow : OpenClaim := { program := "ytnfgpepggehegaa", sum := "b8d051748cfd07d47fa5c05875a338f0baa8a06ed898e0456ca59e2ea8112319", func := "virgation/virgationlaw05.StepOnce", spec := "stepOnce", unfollowed := true, recurses := true, loops := true, apart := false, narrowed := true }
def StepOnceUptoSaid : Prop := stepOnceUptoRow.holds Try.pinned (OpenSpec.upto stepOnceSpec)

/-- 'virgationlaw05.StepRun', WHERE WHAT IT READS IS OF BULK AT MOST 1048576: true; the input reads as it did. -/
def stepRunUptoRow : OpenClaim := { program := "ytnfgpepggehegaa", sum := "b8d051748cfd07d47fa5c05875a338f0baa8a06ed898e0456ca59e2ea8112319", func := "virgation/virgationlaw05.StepRun", spec := "stepRun", unfollowed := true, recurses := true, loops := true, apart := false, narrowed := true }
def StepRunUptoSaid : Prop := stepRunUptoRow.holds Try.pinned (OpenSpec.upto stepRunSpec)

/-- 'virgationlaw05.StepStays', WHERE WHAT IT READS IS OF BULK AT MOST 1048576: true; the input reads as it did. -/
def stepStaysUptoRow : OpenClaim := { program := "ytnfgpepggehegaa", sum := "b8d051748cfd07d47fa5c05875a338f0baa8a06ed898e0456ca59e2ea8112319", func := "virgation/virgationlaw05.StepStays", spec := "stepStays", unfollowed := true, recurses := true, loops := true, apart := false, narrowed := true }
def StepStaysUptoSaid : Prop := stepStaysUptoRow.holds Try.pinned (OpenSpec.upto stepStaysSpec)

/-- 'virgationlaw05.StepRuns', WHERE WHAT IT READS IS OF BULK AT MOST 1048576: true; the input reads as it did. -/
def stepRunsUptoRow : OpenClaim := { program := "ytnfgpepggehegaa", sum := "b8d051748cfd07d47fa5c05875a338f0baa8a06ed898e0456ca59e2ea8112319", func := "virgation/virgationlaw05.StepRuns", spec := "stepRuns", unfollowed := true, recurses := true, loops := true, apart := false, narrowed := true }
def StepRunsUptoSaid : Prop := stepRunsUptoRow.holds Try.pinned (OpenSpec.upto stepRunsSpec)

/-- 'virgationlaw05.StepMore', WHERE WHAT IT READS IS OF BULK AT MOST 1048576: true; the input reads as it did. -/
def stepMoreUptoRow : OpenClaim := { program := "ytnfgpepggehegaa", sum := "b8d051748cfd07d47fa5c05875a338f0baa8a06ed898e0456ca59e2ea8112319", func := "virgation/virgationlaw05.StepMore", spec := "stepMore", unfollowed := true, recurses := true, loops := true, apart := false, narrowed := true }
def StepMoreUptoSaid : Prop := stepMoreUptoRow.holds Try.pinned (OpenSpec.upto stepMoreSpec)

/-- 'virgationlaw05.StepHeads', WHERE WHAT IT READS IS OF BULK AT MOST 1048576: true; the input reads as it did. -/
def stepHeadsUptoRow : OpenClaim := { program := "ytnfgpepggehegaa", sum := "b8d051748cfd07d47fa5c05875a338f0baa8a06ed898e0456ca59e2ea8112319", func := "virgation/virgationlaw05.StepHeads", spec := "stepHeads", unfollowed := true, recurses := true, loops := true, apart := false, narrowed := true }
def StepHeadsUptoSaid : Prop := stepHeadsUptoRow.holds Try.pinned (OpenSpec.upto stepHeadsSpec)

/-- 'virgationlaw05.StepOwn', WHERE WHAT IT READS IS OF BULK AT MOST 1048576: true; the input reads as it did. -/
def stepOwnUptoRow : OpenClaim := { program := "ytnfgpepggehegaa", sum := "b8d051748cfd07d47fa5c05875a338f0baa8a06ed898e0456ca59e2ea8112319", func := "virgation/virgationlaw05.StepOwn", spec := "stepOwn", unfollowed := true, recurses := true, loops := true, apart := false, narrowed := true }
def StepOwnUptoSaid : Prop := stepOwnUptoRow.holds Try.pinned (OpenSpec.upto stepOwnSpec)

end Rows
end Go.Proofs.Ytnfgpepggehegaa
