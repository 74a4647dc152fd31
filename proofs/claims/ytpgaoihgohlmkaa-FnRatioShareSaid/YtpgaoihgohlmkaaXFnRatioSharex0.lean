/- Functions that FnRatioShare comes to, as Lean functions with their contracts: written by the prover's own program (wip/tpl/myprint.py) over the kit's printer, some contracts by hand. Conditions: none. -/
import Derived.Test.YtpgaoihgohlmkaaProg
import Derived.Below
import Derived.Deep.Draws
import Derived.Deep.AppendLies
import Derived.Maps.AppendAt
import Derived.OwnWalk
import Derived.Laws.BytesArg
import Derived.Laws.MakeOwn
import Derived.Laws.OwnMore
import Derived.Deep.OwnRows
import Derived.Tactics
import Derived.Lib.ConvBytes
import Derived.Laws.Slices
import Derived.WalkKit
import Derived.KernelRfl
import Derived.RowKit3
import Derived.Deep.LoopGhost
import Derived.Deep.QuietTactic
import Derived.BigQuiet
import Derived.WideLaws
import Derived.Deep.DeepCutAuto
import Derived.Deep.CutBlock
import Derived.Deep.RegionHeld3
import Derived.Laws.Rows
import Derived.Lib.AppendStr
import Derived.ArgAppend
import Derived.Laws.IdiomCopy
import Derived.OrdersHeld
import Derived.Laws.BitsLemmas
import Derived.RowKit
import Derived.Test.YtpgaoihgohlmkaaHandX
import Derived.Test.YtpgaoihgohlmkaaHandShelf
import Derived.Test.YtpgaoihgohlmkaaWWords
import Derived.Test.YtpgaoihgohlmkaaWLast
import Derived.Test.YtpgaoihgohlmkaaWTab
import Derived.Test.YtpgaoihgohlmkaaWFour
import Derived.Test.YtpgaoihgohlmkaaWQPut
import Derived.Test.YtpgaoihgohlmkaaWApart
import Derived.Test.YtpgaoihgohlmkaaWArr
import Derived.Test.YtpgaoihgohlmkaaWZeros
import Derived.Test.YtpgaoihgohlmkaaWFoot
import Derived.Test.YtpgaoihgohlmkaaWKept
import Derived.Test.YtpgaoihgohlmkaaWShare
import Derived.Test.YtpgaoihgohlmkaaWN
import Derived.Test.YtpgaoihgohlmkaaWFootNe
import Derived.Test.YtpgaoihgohlmkaaWAt
import Derived.Test.YtpgaoihgohlmkaaWEqStruct
import Derived.Test.YtpgaoihgohlmkaaWRepsOne
import Derived.Test.YtpgaoihgohlmkaaWInv
import Derived.Test.YtpgaoihgohlmkaaWInvWords
import Derived.Test.YtpgaoihgohlmkaaWGuard
import Derived.Test.YtpgaoihgohlmkaaWNEv
import Derived.Test.YtpgaoihgohlmkaaWMore
namespace Go.Proofs.Ytpgaoihgohlmkaa.XFnRatioShare
open Go.RowKit Go.Proofs.YtpgaoihgohlmkaaW.PrintWords Go.Proofs.YtpgaoihgohlmkaaW.PrintLast Go.Proofs.YtpgaoihgohlmkaaW.PrintMore
attribute [local go_sem] max2_int min2_int max_two min_two max_three min_three max_four min_four   -- for this text's walks alone
set_option linter.unusedVariables false
set_option linter.unusedSimpArgs false



def errW : Option Int → Value
  | none => .nilIface
  | some c => .iface 0 (.int .i64 c)
theorem errW_none : errW none = .nilIface := rfl
theorem errW_some (c : Int) : errW (some c) = .iface 0 (.int .i64 c) := rfl

theorem info2 : (Try.prog.info? 2).map (fun i => (i.zero, i.size, i.bytes)) = some (some (.int .i64 0), 1, 8) := by kernel_rfl
-- the values' own types

end Go.Proofs.Ytpgaoihgohlmkaa.XFnRatioShare
