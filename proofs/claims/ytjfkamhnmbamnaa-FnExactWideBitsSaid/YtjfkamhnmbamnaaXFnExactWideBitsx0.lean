/- Functions that FnExactWideBits comes to, as Lean functions with their contracts: written by the prover's own program (wip/tpl/myprint.py) over the kit's printer, some contracts by hand. Conditions: none. -/
import Derived.Test.YtjfkamhnmbamnaaProg
import Derived.Below
import Derived.Deep.Draws
import Derived.Deep.AppendLies
import Derived.Maps.AppendAt
import Derived.OwnWalk
import Derived.Laws.BytesArg
import Derived.Laws.MakeOwn
import Derived.Laws.OwnMore
import Derived.Deep.OwnRows
import Derived.Tactics
import Derived.Lib.ConvBytes
import Derived.Laws.Slices
import Derived.WalkKit
import Derived.KernelRfl
import Derived.RowKit3
import Derived.Deep.LoopGhost
import Derived.Deep.QuietTactic
import Derived.BigQuiet
import Derived.WideLaws
import Derived.Deep.DeepCutAuto
import Derived.Deep.CutBlock
import Derived.Deep.RegionHeld3
import Derived.Laws.Rows
import Derived.Lib.AppendStr
import Derived.ArgAppend
import Derived.Laws.IdiomCopy
import Derived.OrdersHeld
import Derived.Laws.BitsLemmas
import Derived.RowKit
import Derived.Test.YtjfkamhnmbamnaaHandX
import Derived.Test.YtjfkamhnmbamnaaHandShelf
import Derived.Test.YtjfkamhnmbamnaaWWords
import Derived.Test.YtjfkamhnmbamnaaWLast
import Derived.Test.YtjfkamhnmbamnaaWTab
import Derived.Test.YtjfkamhnmbamnaaWFour
import Derived.Test.YtjfkamhnmbamnaaWQPut
import Derived.Test.YtjfkamhnmbamnaaWApart
import Derived.Test.YtjfkamhnmbamnaaWArr
import Derived.Test.YtjfkamhnmbamnaaWZeros
import Derived.Test.YtjfkamhnmbamnaaWFoot
import Derived.Test.YtjfkamhnmbamnaaWKept
import Derived.Test.YtjfkamhnmbamnaaWShare
import Derived.Test.YtjfkamhnmbamnaaWN
import Derived.Test.YtjfkamhnmbamnaaWFootNe
import Derived.Test.YtjfkamhnmbamnaaWAt
import Derived.Test.YtjfkamhnmbamnaaWEqStruct
import Derived.Test.YtjfkamhnmbamnaaWRepsOne
import Derived.Test.YtjfkamhnmbamnaaWInv
import Derived.Test.YtjfkamhnmbamnaaWInvWords
import Derived.Test.YtjfkamhnmbamnaaWGuard
import Derived.Test.YtjfkamhnmbamnaaWNEv
import Derived.Test.YtjfkamhnmbamnaaWMore
namespace Go.Proofs.Ytjfkamhnmbamnaa.XFnExactWideBits
open Go.RowKit Go.Proofs.YtjfkamhnmbamnaaW.PrintWords Go.Proofs.YtjfkamhnmbamnaaW.PrintLast Go.Proofs.YtjfkamhnmbamnaaW.PrintMore
attribute [local go_sem] max2_int min2_int max_two min_two max_three min_three max_four min_four   -- for this text's walks alone
set_option linter.unusedVariables false
set_option linter.unusedSimpArgs false



def errW : Option Int → Value
  | none => .nilIface
  | some c => .iface 0 (.int .i64 c)
theorem errW_none : errW none = .nilIface := rfl
theorem errW_some (c : Int) : errW (some c) = .iface 0 (.int .i64 c) := rfl

-- the values' own types

end Go.Proofs.Ytjfkamhnmbamnaa.XFnExactWideBits
