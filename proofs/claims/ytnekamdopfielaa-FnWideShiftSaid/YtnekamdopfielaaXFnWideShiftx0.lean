/- Functions that FnWideShift comes to, as Lean functions with their contracts: written by the prover's own program (wip/tpl/myprint.py) over the kit's printer, some contracts by hand. Conditions: none. -/
import Derived.Test.YtnekamdopfielaaProg
import Derived.Below
import Derived.Deep.Draws
import Derived.Deep.AppendLies
import Derived.Maps.AppendAt
import Derived.OwnWalk
import Derived.Laws.BytesArg
import Derived.Laws.MakeOwn
import Derived.Laws.OwnMore
import Derived.Deep.OwnRows
import Derived.Tactics
import Derived.Lib.ConvBytes
import Derived.Laws.Slices
import Derived.WalkKit
import Derived.KernelRfl
import Derived.RowKit3
import Derived.Deep.LoopGhost
import Derived.Deep.QuietTactic
import Derived.BigQuiet
import Derived.WideLaws
import Derived.Deep.DeepCutAuto
import Derived.Deep.CutBlock
import Derived.Deep.RegionHeld3
import Derived.Laws.Rows
import Derived.Lib.AppendStr
import Derived.ArgAppend
import Derived.Laws.IdiomCopy
import Derived.OrdersHeld
import Derived.Laws.BitsLemmas
import Derived.RowKit
import Derived.Test.YtnekamdopfielaaHandX
import Derived.Test.YtnekamdopfielaaHandShelf
import Derived.Test.YtnekamdopfielaaWWords
import Derived.Test.YtnekamdopfielaaWLast
import Derived.Test.YtnekamdopfielaaWTab
import Derived.Test.YtnekamdopfielaaWFour
import Derived.Test.YtnekamdopfielaaWQPut
import Derived.Test.YtnekamdopfielaaWApart
import Derived.Test.YtnekamdopfielaaWArr
import Derived.Test.YtnekamdopfielaaWZeros
import Derived.Test.YtnekamdopfielaaWFoot
import Derived.Test.YtnekamdopfielaaWKept
import Derived.Test.YtnekamdopfielaaWShare
import Derived.Test.YtnekamdopfielaaWN
import Derived.Test.YtnekamdopfielaaWFootNe
import Derived.Test.YtnekamdopfielaaWAt
import Derived.Test.YtnekamdopfielaaWEqStruct
import Derived.Test.YtnekamdopfielaaWRepsOne
import Derived.Test.YtnekamdopfielaaWInv
import Derived.Test.YtnekamdopfielaaWInvWords
import Derived.Test.YtnekamdopfielaaWGuard
import Derived.Test.YtnekamdopfielaaWNEv
import Derived.Test.YtnekamdopfielaaWMore
namespace Go.Proofs.Ytnekamdopfielaa.XFnWideShift
open Go.RowKit Go.Proofs.YtnekamdopfielaaW.PrintWords Go.Proofs.YtnekamdopfielaaW.PrintLast Go.Proofs.YtnekamdopfielaaW.PrintMore
attribute [local go_sem] max2_int min2_int max_two min_two max_three min_three max_four min_four   -- for this text's walks alone
set_option linter.unusedVariables false
set_option linter.unusedSimpArgs false



def errW : Option Int → Value
  | none => .nilIface
  | some c => .iface 0 (.int .i64 c)
theorem errW_none : errW none = .nilIface := rfl
theorem errW_some (c : Int) : errW (some c) = .iface 0 (.int .i64 c) := rfl

-- the values' own types

end Go.Proofs.Ytnekamdopfielaa.XFnWideShift
