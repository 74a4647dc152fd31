/- The row of FnExactWideSub: every argument that reads as data is a value of the printed kinds, so the printed walk serves; what is left is the statement 'laws_FnExactWideSub.Pure' over numbers and lists. Conditions: none beyond the statement's own reach. -/
import Derived.Test.YtjfkamhnmbamnabRows
import Derived.Test.YtjfkamhnmbamnabXFnExactWideSubx2
import Derived.Test.YtjfkamhnmbamnabTake
import Derived.WalkKit
import Derived.ProofKit
import Derived.OpenShut
import Derived.ShutString
import Derived.ChangeOld
import Derived.Below
import Derived.SizedLaws
import Derived.KernelRfl
namespace Go.Proofs.Ytjfkamhnmbamnab.BridgeFnExactWideSub
open Go.RowKit Go.ChangeShapes Go.WideShapes Go.Proofs.Ytjfkamhnmbamnab.XFnExactWideSub Go.Proofs.Ytjfkamhnmbamnab.Take Go.Proofs.YtjfkamhnmbamnabW.PrintWords Go.Proofs.YtjfkamhnmbamnabW.PrintLast
set_option linter.unusedVariables false
/-- THE PURE STATEMENT of FnExactWideSub. -/
def Pure : Prop := ∀ (a0_0 : Int) (a0_1 : Int) (a1_0 : Int) (a1_1 : Int), (Lit.int .u64 a0_0).wf = true → (Lit.int .u64 a0_1).wf = true → (Lit.int .u64 a1_0).wf = true → (Lit.int .u64 a1_1).wf = true → laws_FnExactWideSub.f a0_0 a0_1 a1_0 a1_1 = some true
end Go.Proofs.Ytjfkamhnmbamnab.BridgeFnExactWideSub
