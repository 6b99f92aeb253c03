-- PRINTED by print.py (a twelfth state) out of the translation. Not trusted: Lean checks it.
import Derived.Test.YtiendnnbflooeaaProg
import Derived.Below
import Derived.Deep.Draws
import Derived.Deep.AppendLies
import Derived.Maps.AppendAt
import Derived.OwnWalk
import Derived.Laws.BytesArg
import Derived.Laws.MakeOwn
import Derived.Laws.OwnMore
import Derived.Deep.OwnRows
import Derived.Tactics
import Derived.Lib.ConvBytes
import Derived.Laws.Slices
import Derived.WalkKit
import Derived.KernelRfl
import Derived.RowKit3
import Derived.Deep.LoopGhost
import Derived.Deep.QuietTactic
import Derived.BigQuiet
import Derived.WideLaws
import Derived.Deep.DeepCutAuto
import Derived.Deep.CutBlock
import Derived.Deep.RegionHeld3
import Derived.Laws.Rows
import Derived.Lib.AppendStr
import Derived.ArgAppend
import Derived.Laws.IdiomCopy
import Derived.OrdersHeld
import Derived.Laws.BitsLemmas
import Derived.RowKit
import Derived.Test.YtiendnnbflooeaaWWords
import Derived.Test.YtiendnnbflooeaaWLast
import Derived.Test.YtiendnnbflooeaaWTab
import Derived.Test.YtiendnnbflooeaaWFour
import Derived.Test.YtiendnnbflooeaaWQPut
import Derived.Test.YtiendnnbflooeaaWApart
import Derived.Test.YtiendnnbflooeaaWArr
import Derived.Test.YtiendnnbflooeaaWZeros
import Derived.Test.YtiendnnbflooeaaWFoot
import Derived.Test.YtiendnnbflooeaaWKept
import Derived.Test.YtiendnnbflooeaaWShare
import Derived.Test.YtiendnnbflooeaaWN
import Derived.Test.YtiendnnbflooeaaWFootNe
import Derived.Test.YtiendnnbflooeaaWAt
import Derived.Test.YtiendnnbflooeaaWEqStruct
import Derived.Test.YtiendnnbflooeaaWRepsOne
import Derived.Test.YtiendnnbflooeaaWInv
import Derived.Test.YtiendnnbflooeaaWInvWords
import Derived.Test.YtiendnnbflooeaaWGuard
import Derived.Test.YtiendnnbflooeaaWNEv
import Derived.Test.YtiendnnbflooeaaWMore
namespace Go.Proofs.Ytiendnnbflooeaa.T
open Go.RowKit Go.Proofs.YtiendnnbflooeaaW.PrintWords Go.Proofs.YtiendnnbflooeaaW.PrintLast Go.Proofs.YtiendnnbflooeaaW.PrintMore
attribute [local go_sem] max2_int min2_int max_two min_two max_three min_three max_four min_four   -- for this text's walks alone
set_option linter.unusedVariables false
set_option linter.unusedSimpArgs false



def errW : Option Int → Value
  | none => .nilIface
  | some c => .iface 0 (.int .i64 c)
theorem errW_none : errW none = .nilIface := rfl
theorem errW_some (c : Int) : errW (some c) = .iface 0 (.int .i64 c) := rfl

-- the values' own types

end Go.Proofs.Ytiendnnbflooeaa.T
