/- The row of FnExactRatioCmp: every argument that reads as data is a value of the printed kinds, so the printed walk serves; what is left is the statement 'laws_FnExactRatioCmp.Pure' over numbers and lists. Conditions: none beyond the statement's own reach. -/
import Derived.Test.YtnekamdopfielaaRows
import Derived.Test.YtnekamdopfielaaXFnExactRatioCmpx4
import Derived.Test.YtnekamdopfielaaTake
import Derived.WalkKit
import Derived.ProofKit
import Derived.OpenShut
import Derived.ShutString
import Derived.ChangeOld
import Derived.Below
import Derived.SizedLaws
import Derived.KernelRfl
namespace Go.Proofs.Ytnekamdopfielaa.BridgeFnExactRatioCmp
open Go.RowKit Go.ChangeShapes Go.WideShapes Go.Proofs.Ytnekamdopfielaa.XFnExactRatioCmp Go.Proofs.Ytnekamdopfielaa.Take Go.Proofs.YtnekamdopfielaaW.PrintWords Go.Proofs.YtnekamdopfielaaW.PrintLast
set_option linter.unusedVariables false
/-- THE PURE STATEMENT of FnExactRatioCmp. -/
def Pure : Prop := ∀ (a0_0 : Int) (a0_1 : Int) (a0_2 : Int) (a1_0 : Int) (a1_1 : Int) (a1_2 : Int), (Lit.int .i64 a0_0).wf = true → (Lit.int .i64 a0_1).wf = true → (Lit.int .i64 a0_2).wf = true → (Lit.int .i64 a1_0).wf = true → (Lit.int .i64 a1_1).wf = true → (Lit.int .i64 a1_2).wf = true → ∃ k, laws_FnExactRatioCmp.f k a0_0 a0_1 a0_2 a1_0 a1_1 a1_2 = some true
end Go.Proofs.Ytnekamdopfielaa.BridgeFnExactRatioCmp
