/- The row of FnExactItemRight: every argument that reads as data is a value of the printed kinds, so the printed walk serves; what is left is the statement 'laws_FnExactItemRight.Pure' over numbers and lists. Conditions: none beyond the statement's own reach. -/
import Derived.Test.YtjfkamhnmbamnaaRows
import Derived.Test.YtjfkamhnmbamnaaPFnExactItemRightx1
import Derived.Test.YtjfkamhnmbamnaaTake
import Derived.WalkKit
import Derived.ProofKit
import Derived.OpenShut
import Derived.ShutString
import Derived.ChangeOld
import Derived.Below
import Derived.SizedLaws
import Derived.KernelRfl
namespace Go.Proofs.Ytjfkamhnmbamnaa.BridgeFnExactItemRight
open Go.RowKit Go.ChangeShapes Go.WideShapes Go.Proofs.Ytjfkamhnmbamnaa.PFnExactItemRight Go.Proofs.Ytjfkamhnmbamnaa.Take Go.Proofs.YtjfkamhnmbamnaaW.PrintWords Go.Proofs.YtjfkamhnmbamnaaW.PrintLast
set_option linter.unusedVariables false
/-- THE PURE STATEMENT of FnExactItemRight. -/
def Pure : Prop := ∀ (a0_0 : Int) (a0_1 : Int) (a0_2 : Int), (Lit.int .i64 a0_0).wf = true → (Lit.int .i64 a0_1).wf = true → (Lit.int .i64 a0_2).wf = true → laws_FnExactItemRight.f a0_0 a0_1 a0_2 = some true
end Go.Proofs.Ytjfkamhnmbamnaa.BridgeFnExactItemRight
