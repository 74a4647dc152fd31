/- Functions that FnExactWideSub comes to, as Lean functions with their contracts: written by the prover's own program (wip/tpl/myprint.py) over the kit's printer, some contracts by hand. Conditions: none. -/
import Derived.Test.YtjfkamhnmbamnabProg
import Derived.Below
import Derived.Deep.Draws
import Derived.Deep.AppendLies
import Derived.Maps.AppendAt
import Derived.OwnWalk
import Derived.Laws.BytesArg
import Derived.Laws.MakeOwn
import Derived.Laws.OwnMore
import Derived.Deep.OwnRows
import Derived.Tactics
import Derived.Lib.ConvBytes
import Derived.Laws.Slices
import Derived.WalkKit
import Derived.KernelRfl
import Derived.RowKit3
import Derived.Deep.LoopGhost
import Derived.Deep.QuietTactic
import Derived.BigQuiet
import Derived.WideLaws
import Derived.Deep.DeepCutAuto
import Derived.Deep.CutBlock
import Derived.Deep.RegionHeld3
import Derived.Laws.Rows
import Derived.Lib.AppendStr
import Derived.ArgAppend
import Derived.Laws.IdiomCopy
import Derived.OrdersHeld
import Derived.Laws.BitsLemmas
import Derived.RowKit
import Derived.Test.YtjfkamhnmbamnabHandX
import Derived.Test.YtjfkamhnmbamnabWWords
import Derived.Test.YtjfkamhnmbamnabWLast
import Derived.Test.YtjfkamhnmbamnabWTab
import Derived.Test.YtjfkamhnmbamnabWFour
import Derived.Test.YtjfkamhnmbamnabWQPut
import Derived.Test.YtjfkamhnmbamnabWApart
import Derived.Test.YtjfkamhnmbamnabWArr
import Derived.Test.YtjfkamhnmbamnabWZeros
import Derived.Test.YtjfkamhnmbamnabWFoot
import Derived.Test.YtjfkamhnmbamnabWKept
import Derived.Test.YtjfkamhnmbamnabWShare
import Derived.Test.YtjfkamhnmbamnabWN
import Derived.Test.YtjfkamhnmbamnabWFootNe
import Derived.Test.YtjfkamhnmbamnabWAt
import Derived.Test.YtjfkamhnmbamnabWEqStruct
import Derived.Test.YtjfkamhnmbamnabWRepsOne
import Derived.Test.YtjfkamhnmbamnabWInv
import Derived.Test.YtjfkamhnmbamnabWInvWords
import Derived.Test.YtjfkamhnmbamnabWGuard
import Derived.Test.YtjfkamhnmbamnabWNEv
import Derived.Test.YtjfkamhnmbamnabWMore
namespace Go.Proofs.Ytjfkamhnmbamnab.XFnExactWideSub
open Go.RowKit Go.Proofs.YtjfkamhnmbamnabW.PrintWords Go.Proofs.YtjfkamhnmbamnabW.PrintLast Go.Proofs.YtjfkamhnmbamnabW.PrintMore
attribute [local go_sem] max2_int min2_int max_two min_two max_three min_three max_four min_four   -- for this text's walks alone
set_option linter.unusedVariables false
set_option linter.unusedSimpArgs false



def errW : Option Int → Value
  | none => .nilIface
  | some c => .iface 0 (.int .i64 c)
theorem errW_none : errW none = .nilIface := rfl
theorem errW_some (c : Int) : errW (some c) = .iface 0 (.int .i64 c) := rfl

-- the values' own types

end Go.Proofs.Ytjfkamhnmbamnab.XFnExactWideSub
