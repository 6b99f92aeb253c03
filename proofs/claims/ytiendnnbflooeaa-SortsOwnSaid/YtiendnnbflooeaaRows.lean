/-
  NARROWER THAN 'FOR EVERY INPUT', by the rows' own cells (each row's printed sentence says how): SortsCheck: loops · SortsOrder: loops · SortsBehind: loops · SortsPut: loops · SortsSame: loops · SortsOrders: loops · SortsOwn: loops · SortsRound: loops.
  DERIVED. THE GIVEN ROWS OF THIS SEAT. 10 by the template 'for every input the law returns true; each argument reads behind the call as it read before'; 0 by the template 'total and deterministic' (their statements: YtiendnnbflooeaaTotals.lean).
  GIVEN WITH THE SEED: the statements are not yours to turn. If you find one false, say at which input.
  Laid BY PROGRAM, IN A SANDBOX (cutbox-rows.mjs): the forced cells as the released guide's own fill.sh prints them over the translation c4130c6466f67750… (all of the seat's roots in one cut). By AI agents, Wed Nov 11 2026. No macro, syntax, notation, axiom, sorry.
-/
import Derived.Test.YtiendnnbflooeaaChecked
import GoSem.Claim
import GoSem.ClaimJoined
import GoSem.ClaimMapViews
import Derived.JoinedTies
import Derived.KernelRfl
namespace Go.Proofs.Ytiendnnbflooeaa
/- THE CELL 'sum', in the pinned program and in every row, IS THE sha256 OF THE DUMP (.gsa) THAT YtiendnnbflooeaaProg.lean LOADS. Nothing in Lean hashes anything: it is a label: what it is worth is what the hold of that sum in a sandbox is worth. -/
noncomputable def Try.pinned : Pinned := { name := "ytiendnnbflooeaa", sum := "c4130c6466f67750272ba14fcff9430ef56dd41c878b143a1a7e4ab80c6af1fa", checked := Try.checked }
namespace Rows
def none {H : Type} : Left H := { results := [], args := [] }

/-- 'virgationlaw01.SortsCheck': WHATEVER THE INPUT: true; the input reads as it did. -/
def sortsCheckSpec : ChangeSpec := { name := "sortsCheck", fn := fun _ => fun
  | [d] => { results := [.lit (.bool true)], args := [d] }
  | _ => none }
def sortsCheckRow : OpenClaim := { program := "ytiendnnbflooeaa", sum := "c4130c6466f67750272ba14fcff9430ef56dd41c878b143a1a7e4ab80c6af1fa", func := "virgation/virgationlaw01.SortsCheck", spec := "sortsCheck", inPlace := ["internal/abi.NoEscape"], unfollowed := true, recurses := true, loops := true, apart := false }
def SortsCheckSaid : Prop := sortsCheckRow.holds Try.pinned (OpenSpec.ofChange sortsCheckSpec)

/-- ITS FALSE NEIGHBOUR: 'it returns false'. Refute it at one input. -/
def sortsCheckWrong : ChangeSpec := { name := "sortsCheck", fn := fun _ => fun
  | [d] => { results := [.lit (.bool false)], args := [d] }
  | _ => none }
def SortsCheckWrongFalsely : Prop := sortsCheckRow.holds Try.pinned (OpenSpec.ofChange sortsCheckWrong)

/-- 'virgationlaw01.SortsOrder': WHATEVER THE INPUT: true; the input reads as it did. -/
def sortsOrderSpec : ChangeSpec := { name := "sortsOrder", fn := fun _ => fun
  | [d] => { results := [.lit (.bool true)], args := [d] }
  | _ => none }
def sortsOrderRow : OpenClaim := { program := "ytiendnnbflooeaa", sum := "c4130c6466f67750272ba14fcff9430ef56dd41c878b143a1a7e4ab80c6af1fa", func := "virgation/virgationlaw01.SortsOrder", spec := "sortsOrder", inPlace := ["internal/abi.NoEscape"], unfollowed := true, recurses := true, loops := true, apart := false }
def SortsOrderSaid : Prop := sortsOrderRow.holds Try.pinned (OpenSpec.ofChange sortsOrderSpec)

/-- ITS FALSE NEIGHBOUR: 'it returns false'. Refute it at one input. -/
def sortsOrderWrong : ChangeSpec := { name := "sortsOrder", fn := fun _ => fun
  | [d] => { results := [.lit (.bool false)], args := [d] }
  | _ => none }
def SortsOrderWrongFalsely : Prop := sortsOrderRow.holds Try.pinned (OpenSpec.ofChange sortsOrderWrong)

/-- 'virgationlaw01.SortsBehind': WHATEVER THE INPUT: true; the input reads as it did. -/
def sortsBehindSpec : ChangeSpec := { name := "sortsBehind", fn := fun _ => fun
  | [d1, d2] => { results := [.lit (.bool true)], args := [d1, d2] }
  | _ => none }
def sortsBehindRow : OpenClaim := { program := "ytiendnnbflooeaa", sum := "c4130c6466f67750272ba14fcff9430ef56dd41c878b143a1a7e4ab80c6af1fa", func := "virgation/virgationlaw01.SortsBehind", spec := "sortsBehind", inPlace := ["internal/abi.NoEscape"], unfollowed := true, recurses := true, loops := true, apart := false }
def SortsBehindSaid : Prop := sortsBehindRow.holds Try.pinned (OpenSpec.ofChange sortsBehindSpec)

/-- ITS FALSE NEIGHBOUR: 'it returns false'. Refute it at one input. -/
def sortsBehindWrong : ChangeSpec := { name := "sortsBehind", fn := fun _ => fun
  | [d1, d2] => { results := [.lit (.bool false)], args := [d1, d2] }
  | _ => none }
def SortsBehindWrongFalsely : Prop := sortsBehindRow.holds Try.pinned (OpenSpec.ofChange sortsBehindWrong)

/-- 'virgationlaw01.SortsPut': WHATEVER THE INPUT: true; the input reads as it did. -/
def sortsPutSpec : ChangeSpec := { name := "sortsPut", fn := fun _ => fun
  | [d] => { results := [.lit (.bool true)], args := [d] }
  | _ => none }
def sortsPutRow : OpenClaim := { program := "ytiendnnbflooeaa", sum := "c4130c6466f67750272ba14fcff9430ef56dd41c878b143a1a7e4ab80c6af1fa", func := "virgation/virgationlaw01.SortsPut", spec := "sortsPut", inPlace := ["internal/abi.NoEscape"], unfollowed := true, recurses := true, loops := true, apart := false }
def SortsPutSaid : Prop := sortsPutRow.holds Try.pinned (OpenSpec.ofChange sortsPutSpec)

/-- ITS FALSE NEIGHBOUR: 'it returns false'. Refute it at one input. -/
def sortsPutWrong : ChangeSpec := { name := "sortsPut", fn := fun _ => fun
  | [d] => { results := [.lit (.bool false)], args := [d] }
  | _ => none }
def SortsPutWrongFalsely : Prop := sortsPutRow.holds Try.pinned (OpenSpec.ofChange sortsPutWrong)

/-- 'virgationlaw01.SortsSame': WHATEVER THE INPUT: true; the input reads as it did. -/
def sortsSameSpec : ChangeSpec := { name := "sortsSame", fn := fun _ => fun
  | [d1, d2] => { results := [.lit (.bool true)], args := [d1, d2] }
  | _ => none }
def sortsSameRow : OpenClaim := { program := "ytiendnnbflooeaa", sum := "c4130c6466f67750272ba14fcff9430ef56dd41c878b143a1a7e4ab80c6af1fa", func := "virgation/virgationlaw01.SortsSame", spec := "sortsSame", inPlace := ["internal/abi.NoEscape"], unfollowed := true, recurses := true, loops := true, apart := false }
def SortsSameSaid : Prop := sortsSameRow.holds Try.pinned (OpenSpec.ofChange sortsSameSpec)

/-- ITS FALSE NEIGHBOUR: 'it returns false'. Refute it at one input. -/
def sortsSameWrong : ChangeSpec := { name := "sortsSame", fn := fun _ => fun
  | [d1, d2] => { results := [.lit (.bool false)], args := [d1, d2] }
  | _ => none }
def SortsSameWrongFalsely : Prop := sortsSameRow.holds Try.pinned (OpenSpec.ofChange sortsSameWrong)

/-- 'virgationlaw01.SortsOrders': WHATEVER THE INPUT: true; the input reads as it did. -/
def sortsOrdersSpec : ChangeSpec := { name := "sortsOrders", fn := fun _ => fun
  | [d1, d2, d3] => { results := [.lit (.bool true)], args := [d1, d2, d3] }
  | _ => none }
def sortsOrdersRow : OpenClaim := { program := "ytiendnnbflooeaa", sum := "c4130c6466f67750272ba14fcff9430ef56dd41c878b143a1a7e4ab80c6af1fa", func := "virgation/virgationlaw01.SortsOrders", spec := "sortsOrders", inPlace := ["internal/abi.NoEscape"], unfollowed := true, recurses := true, loops := true, apart := false }
def SortsOrdersSaid : Prop := sortsOrdersRow.holds Try.pinned (OpenSpec.ofChange sortsOrdersSpec)

/-- ITS FALSE NEIGHBOUR: 'it returns false'. Refute it at one input. -/
def sortsOrdersWrong : ChangeSpec := { name := "sortsOrders", fn := fun _ => fun
  | [d1, d2, d3] => { results := [.lit (.bool false)], args := [d1, d2, d3] }
  | _ => none }
def SortsOrdersWrongFalsely : Prop := sortsOrdersRow.holds Try.pinned (OpenSpec.ofChange sortsOrdersWrong)

/-- 'virgationlaw01.SortsOwn': WHATEVER THE INPUT: true; the input reads as it did. -/
def sortsOwnSpec : ChangeSpec := { name := "sortsOwn", fn := fun _ => fun
  | [d1, d2] => { results := [.lit (.bool true)], args := [d1, d2] }
  | _ => none }
def sortsOwnRow : OpenClaim := { program := "ytiendnnbflooeaa", sum := "c4130c6466f67750272ba14fcff9430ef56dd41c878b143a1a7e4ab80c6af1fa", func := "virgation/virgationlaw01.SortsOwn", spec := "sortsOwn", inPlace := ["internal/abi.NoEscape"], unfollowed := true, recurses := true, loops := true, apart := false }
def SortsOwnSaid : Prop := sortsOwnRow.holds Try.pinned (OpenSpec.ofChange sortsOwnSpec)

/-- ITS FALSE NEIGHBOUR: 'it returns false'. Refute it at one input. -/
def sortsOwnWrong : ChangeSpec := { name := "sortsOwn", fn := fun _ => fun
  | [d1, d2] => { results := [.lit (.bool false)], args := [d1, d2] }
  | _ => none }
def SortsOwnWrongFalsely : Prop := sortsOwnRow.holds Try.pinned (OpenSpec.ofChange sortsOwnWrong)

/-- 'virgationlaw01.SortsGet': WHATEVER THE INPUT: true; the input reads as it did. -/
def sortsGetSpec : ChangeSpec := { name := "sortsGet", fn := fun _ => fun
  | [d] => { results := [.lit (.bool true)], args := [d] }
  | _ => none }
def sortsGetRow : OpenClaim := { program := "ytiendnnbflooeaa", sum := "c4130c6466f67750272ba14fcff9430ef56dd41c878b143a1a7e4ab80c6af1fa", func := "virgation/virgationlaw01.SortsGet", spec := "sortsGet", inPlace := ["internal/abi.NoEscape"], unfollowed := true, recurses := true, apart := false }
def SortsGetSaid : Prop := sortsGetRow.holds Try.pinned (OpenSpec.ofChange sortsGetSpec)

/-- ITS FALSE NEIGHBOUR: 'it returns false'. Refute it at one input. -/
def sortsGetWrong : ChangeSpec := { name := "sortsGet", fn := fun _ => fun
  | [d] => { results := [.lit (.bool false)], args := [d] }
  | _ => none }
def SortsGetWrongFalsely : Prop := sortsGetRow.holds Try.pinned (OpenSpec.ofChange sortsGetWrong)

/-- 'virgationlaw01.SortsRound': WHATEVER THE INPUT: true; the input reads as it did. -/
def sortsRoundSpec : ChangeSpec := { name := "sortsRound", fn := fun _ => fun
  | [d] => { results := [.lit (.bool true)], args := [d] }
  | _ => none }
def sortsRoundRow : OpenClaim := { program := "ytiendnnbflooeaa", sum := "c4130c6466f67750272ba14fcff9430ef56dd41c878b143a1a7e4ab80c6af1fa", func := "virgation/virgationlaw01.SortsRound", spec := "sortsRound", inPlace := ["internal/abi.NoEscape"], unfollowed := true, recurses := true, loops := true, apart := false }
def SortsRoundSaid : Prop := sortsRoundRow.holds Try.pinned (OpenSpec.ofChange sortsRoundSpec)

/-- ITS FALSE NEIGHBOUR: 'it returns false'. Refute it at one input. -/
def sortsRoundWrong : ChangeSpec := { name := "sortsRound", fn := fun _ => fun
  | [d] => { results := [.lit (.bool false)], args := [d] }
  | _ => none }
def SortsRoundWrongFalsely : Prop := sortsRoundRow.holds Try.pinned (OpenSpec.ofChange sortsRoundWrong)

/-- 'virgationlaw01.SortsTexts': WHATEVER THE INPUT: true; the input reads as it did. -/
def sortsTextsSpec : ChangeSpec := { name := "sortsTexts", fn := fun _ => fun
  | [d] => { results := [.lit (.bool true)], args := [d] }
  | _ => none }
def sortsTextsRow : OpenClaim := { program := "ytiendnnbflooeaa", sum := "c4130c6466f67750272ba14fcff9430ef56dd41c878b143a1a7e4ab80c6af1fa", func := "virgation/virgationlaw01.SortsTexts", spec := "sortsTexts", inPlace := ["internal/abi.NoEscape"], unfollowed := true, recurses := true, apart := false }
def SortsTextsSaid : Prop := sortsTextsRow.holds Try.pinned (OpenSpec.ofChange sortsTextsSpec)

/-- ITS FALSE NEIGHBOUR: 'it returns false'. Refute it at one input. -/
def sortsTextsWrong : ChangeSpec := { name := "sortsTexts", fn := fun _ => fun
  | [d] => { results := [.lit (.bool false)], args := [d] }
  | _ => none }
def SortsTextsWrongFalsely : Prop := sortsTextsRow.holds Try.pinned (OpenSpec.ofChange sortsTextsWrong)

/- THE SECOND FORM. 'bulk': how many values and letters a reading holds, each counted each time it is reached (what is shared counts as often as it is met; a slice's spare places count too). A statement '..UptoSaid' is the law's where the arguments, and the package variables that the reading takes, are together of bulk at most 1048576: NARROWER than '..Said'. Prove '..Said' where nothing that the law and all that it calls make is longer than what came in: it says more and counts as full. Else prove '..UptoSaid'. A law counts once. -/
mutual
def uptoBulk {H : Type} : DataW H → Nat
  | .lit (.string bytes) => bytes.length + 1
  | .lit _ => 1
  | .nil => 1
  | .ptr d => uptoBulk d + 1
  | .slice elems spare => uptoBulkAll elems + uptoBulkAll spare + 1
  | .agg parts => uptoBulkAll parts + 1
  | .iface _ d => uptoBulk d + 1
  | .map entries => uptoBulkEntries entries + 1
  | .held _ => 1
def uptoBulkAll {H : Type} : List (DataW H) → Nat
  | [] => 0
  | d :: r => uptoBulk d + uptoBulkAll r
def uptoBulkEntries {H : Type} : List (Lit × DataW H) → Nat
  | [] => 0
  | x :: r => uptoBulkEntry x + uptoBulkEntries r
def uptoBulkEntry {H : Type} : Lit × DataW H → Nat
  | (.string bytes, d) => bytes.length + uptoBulk d + 1
  | (_, d) => uptoBulk d + 1
 end
def uptoSmall : (H : Type) → List (DataW H) → Bool := fun _ ds => decide (uptoBulkAll ds ≤ 1048576)
def OpenSpec.upto (s : _root_.Go.ChangeSpec) : _root_.Go.OpenSpec := { _root_.Go.OpenSpec.ofChange s with cond := some uptoSmall }

/-- 'virgationlaw01.SortsCheck', WHERE WHAT IT READS IS OF BULK AT MOST 1048576: true; the input reads as it did. -/
def sortsCheckUptoRow : OpenClaim := { program := "ytiendnnbflooeaa", sum := "c4130c6466f67750272ba14fcff9430ef56dd41c878b143a1a7e4ab80c6af1fa", func := "virgation/virgationlaw01.SortsCheck", spec := "sortsCheck", inPlace := ["internal/abi.NoEscape"], unfollowed := true, recurses := true, loops := true, apart := false, narrowed := true }
def SortsCheckUptoSaid : Prop := sortsCheckUptoRow.holds Try.pinned (OpenSpec.upto sortsCheckSpec)

/-- 'virgationlaw01.SortsOrder', WHERE WHAT IT READS IS OF BULK AT MOST 1048576: true; the input reads as it did. -/
def sortsOrderUptoRow : OpenClaim := { program := "ytiendnnbflooeaa", sum := "c4130c6466f67750272ba14fcff9430ef56dd41c878b143a1a7e4ab80c6af1fa", func := "virgation/virgationlaw01.SortsOrder", spec := "sortsOrder", inPlace := ["internal/abi.NoEscape"], unfollowed := true, recurses := true, loops := true, apart := false, narrowed := true }
def SortsOrderUptoSaid : Prop := sortsOrderUptoRow.holds Try.pinned (OpenSpec.upto sortsOrderSpec)

/-- 'virgationlaw01.SortsBehind', WHERE WHAT IT READS IS OF BULK AT MOST 1048576: true; the input reads as it did. -/
def sortsBehindUptoRow : OpenClaim := { program := "ytiendnnbflooeaa", sum := "c4130c6466f67750272ba14fcff9430ef56dd41c878b143a1a7e4ab80c6af1fa", func := "virgation/virgationlaw01.SortsBehind", spec := "sortsBehind", inPlace := ["internal/abi.NoEscape"], unfollowed := true, recurses := true, loops := true, apart := false, narrowed := true }
def SortsBehindUptoSaid : Prop := sortsBehindUptoRow.holds Try.pinned (OpenSpec.upto sortsBehindSpec)

/-- 'virgationlaw01.SortsPut', WHERE WHAT IT READS IS OF BULK AT MOST 1048576: true; the input reads as it did. -/
def sortsPutUptoRow : OpenClaim := { program := "ytiendnnbflooeaa", sum := "c4130c6466f67750272ba14fcff9430ef56dd41c878b143a1a7e4ab80c6af1fa", func := "virgation/virgationlaw01.SortsPut", spec := "sortsPut", inPlace := ["internal/abi.NoEscape"], unfollowed := true, recurses := true, loops := true, apart := false, narrowed := true }
def SortsPutUptoSaid : Prop := sortsPutUptoRow.holds Try.pinned (OpenSpec.upto sortsPutSpec)

/-- 'virgationlaw01.SortsSame', WHERE WHAT IT READS IS OF BULK AT MOST 1048576: true; the input reads as it did. -/
def sortsSameUptoRow : OpenClaim := { program := "ytiendnnbflooeaa", sum := "c4130c6466f67750272ba14fcff9430ef56dd41c878b143a1a7e4ab80c6af1fa", func := "virgation/virgationlaw01.SortsSame", spec := "sortsSame", inPlace := ["internal/abi.NoEscape"], unfollowed := true, recurses := true, loops := true, apart := false, narrowed := true }
def SortsSameUptoSaid : Prop := sortsSameUptoRow.holds Try.pinned (OpenSpec.upto sortsSameSpec)

/-- 'virgationlaw01.SortsOrders', WHERE WHAT IT READS IS OF BULK AT MOST 1048576: true; the input reads as it did. -/
def sortsOrdersUptoRow : OpenClaim := { program := "ytiendnnbflooeaa", sum := "c4130c6466f67750272ba14fcff9430ef56dd41c878b143a1a7e4ab80c6af1fa", func := "virgation/virgationlaw01.SortsOrders", spec := "sortsOrders", inPlace := ["internal/abi.NoEscape"], unfollowed := true, recurses := true, loops := true, apart := false, narrowed := true }
def SortsOrdersUptoSaid : Prop := sortsOrdersUptoRow.holds Try.pinned (OpenSpec.upto sortsOrdersSpec)

/-- 'virgationlaw01.SortsOwn', WHERE WHAT IT READS IS OF BULK AT MOST 1048576: true; the input reads as it did. -/
def sortsOwnUptoRow : OpenClaim := { program := "ytiendnnbflooeaa", sum := "c4130c6466f67750272ba14fcff9430ef56dd41c878b143a1a7e4ab80c6af1fa", func := "virgation/virgationlaw01.SortsOwn", spec := "sortsOwn", inPlace := ["internal/abi.NoEscape"], unfollowed := true, recurses := true, loops := true, apart := false, narrowed := true }
def SortsOwnUptoSaid : Prop := sortsOwnUptoRow.holds Try.pinned (OpenSpec.upto sortsOwnSpec)

/-- 'virgationlaw01.SortsGet', WHERE WHAT IT READS IS OF BULK AT MOST 1048576: true; the input reads as it did. -/
def sortsGetUptoRow : OpenClaim := { program := "ytiendnnbflooeaa", sum := "c4130c6466f67750272ba14fcff9430ef56dd41c878b143a1a7e4ab80c6af1fa", func := "virgation/virgationlaw01.SortsGet", spec := "sortsGet", inPlace := ["internal/abi.NoEscape"], unfollowed := true, recurses := true, apart := false, narrowed := true }
def SortsGetUptoSaid : Prop := sortsGetUptoRow.holds Try.pinned (OpenSpec.upto sortsGetSpec)

/-- 'virgationlaw01.SortsRound', WHERE WHAT IT READS IS OF BULK AT MOST 1048576: true; the input reads as it did. -/
def sortsRoundUptoRow : OpenClaim := { program := "ytiendnnbflooeaa", sum := "c4130c6466f67750272ba14fcff9430ef56dd41c878b143a1a7e4ab80c6af1fa", func := "virgation/virgationlaw01.SortsRound", spec := "sortsRound", inPlace := ["internal/abi.NoEscape"], unfollowed := true, recurses := true, loops := true, apart := false, narrowed := true }
def SortsRoundUptoSaid : Prop := sortsRoundUptoRow.holds Try.pinned (OpenSpec.upto sortsRoundSpec)

/-- 'virgationlaw01.SortsTexts', WHERE WHAT IT READS IS OF BULK AT MOST 1048576: true; the input reads as it did. -/
def sortsTextsUptoRow : OpenClaim := { program := "ytiendnnbflooeaa", sum := "c4130c6466f67750272ba14fcff9430ef56dd41c878b143a1a7e4ab80c6af1fa", func := "virgation/virgationlaw01.SortsTexts", spec := "sortsTexts", inPlace := ["internal/abi.NoEscape"], unfollowed := true, recurses := true, apart := false, narrowed := true }
def SortsTextsUptoSaid : Prop := sortsTextsUptoRow.holds Try.pinned (OpenSpec.upto sortsTextsSpec)

end Rows
end Go.Proofs.Ytiendnnbflooeaa
