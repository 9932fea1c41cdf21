/- Written by a program of this session (wip/xprint) out of Lean's own print of the given functions: each function as a plain Lean function, and the proof that the call answers it. -/
import Derived.Test.YtcepccbffochiaaProg
import Derived.Below
import Derived.Deep.Draws
import Derived.Deep.AppendLies
import Derived.Maps.AppendAt
import Derived.OwnWalk
import Derived.Laws.BytesArg
import Derived.Laws.MakeOwn
import Derived.Laws.OwnMore
import Derived.Deep.OwnRows
import Derived.Tactics
import Derived.Lib.ConvBytes
import Derived.Laws.Slices
import Derived.WalkKit
import Derived.KernelRfl
import Derived.RowKit3
import Derived.Deep.LoopGhost
import Derived.Deep.QuietTactic
import Derived.BigQuiet
import Derived.WideLaws
import Derived.Deep.DeepCutAuto
import Derived.Deep.CutBlock
import Derived.Deep.RegionHeld3
import Derived.Laws.Rows
import Derived.Lib.AppendStr
import Derived.ArgAppend
import Derived.Laws.IdiomCopy
import Derived.OrdersHeld
import Derived.Laws.BitsLemmas
import Derived.RowKit
import Derived.Test.YtcepccbffochiaaWWords
import Derived.Test.YtcepccbffochiaaWLast
import Derived.Test.YtcepccbffochiaaWTab
import Derived.Test.YtcepccbffochiaaWFour
import Derived.Test.YtcepccbffochiaaWQPut
import Derived.Test.YtcepccbffochiaaWApart
import Derived.Test.YtcepccbffochiaaWArr
import Derived.Test.YtcepccbffochiaaWZeros
import Derived.Test.YtcepccbffochiaaWFoot
import Derived.Test.YtcepccbffochiaaWKept
import Derived.Test.YtcepccbffochiaaWShare
import Derived.Test.YtcepccbffochiaaWN
import Derived.Test.YtcepccbffochiaaWFootNe
import Derived.Test.YtcepccbffochiaaWAt
import Derived.Test.YtcepccbffochiaaWEqStruct
import Derived.Test.YtcepccbffochiaaWRepsOne
import Derived.Test.YtcepccbffochiaaWInv
import Derived.Test.YtcepccbffochiaaWInvWords
import Derived.Test.YtcepccbffochiaaWGuard
import Derived.Test.YtcepccbffochiaaWNEv
import Derived.Test.YtcepccbffochiaaWMore
namespace Go.Proofs.Ytcepccbffochiaa.PFnExactWrongMean
open Go.RowKit Go.Proofs.YtcepccbffochiaaW.PrintWords Go.Proofs.YtcepccbffochiaaW.PrintLast Go.Proofs.YtcepccbffochiaaW.PrintMore
attribute [local go_sem] max2_int min2_int max_two min_two max_three min_three max_four min_four   -- for this text's walks alone
set_option linter.unusedVariables false
set_option linter.unusedSimpArgs false



def errW : Option Int → Value
  | none => .nilIface
  | some c => .iface 0 (.int .i64 c)
theorem errW_none : errW none = .nilIface := rfl
theorem errW_some (c : Int) : errW (some c) = .iface 0 (.int .i64 c) := rfl

-- the values' own types

end Go.Proofs.Ytcepccbffochiaa.PFnExactWrongMean
