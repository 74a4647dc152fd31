/- The row of FnExactEditRight: every argument that reads as data is a value of the printed kinds, so the printed walk serves; what is left is the statement 'laws_FnExactEditRight.Pure' over numbers and lists. Conditions: none beyond the statement's own reach. -/
import Derived.Test.YtjfkamhnmbamnabRows
import Derived.Test.YtjfkamhnmbamnabXFnExactEditRightx5
import Derived.Test.YtjfkamhnmbamnabTake
import Derived.WalkKit
import Derived.ProofKit
import Derived.OpenShut
import Derived.ShutString
import Derived.ChangeOld
import Derived.Below
import Derived.SizedLaws
import Derived.KernelRfl
namespace Go.Proofs.Ytjfkamhnmbamnab.BridgeFnExactEditRight
open Go.RowKit Go.ChangeShapes Go.WideShapes Go.Proofs.Ytjfkamhnmbamnab.XFnExactEditRight Go.Proofs.Ytjfkamhnmbamnab.Take Go.Proofs.YtjfkamhnmbamnabW.PrintWords Go.Proofs.YtjfkamhnmbamnabW.PrintLast
set_option linter.unusedVariables false
/-- THE PURE STATEMENT of FnExactEditRight. -/
def Pure : Prop := ∀ (a0_0 : Int) (a0_1 : Int) (a0_2 : Int) (a0_3 : Int) (a0_4 : Int), (Lit.int .i64 a0_0).wf = true → (Lit.int .i64 a0_1).wf = true → (Lit.int .i64 a0_2).wf = true → (Lit.int .i64 a0_3).wf = true → (Lit.int .i64 a0_4).wf = true → ∃ k, laws_FnExactEditRight.f k a0_0 a0_1 a0_2 a0_3 a0_4 = some true
end Go.Proofs.Ytjfkamhnmbamnab.BridgeFnExactEditRight
