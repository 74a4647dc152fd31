/- The row of FnExactRatioShare: every argument that reads as data is a value of the printed kinds, so the printed walk serves; what is left is the statement 'laws_FnExactRatioShare.Pure' over numbers and lists. Conditions: none beyond the statement's own reach. -/
import Derived.Test.YtpgaoihgohlmkaaRows
import Derived.Test.YtpgaoihgohlmkaaXFnExactRatioSharex4
import Derived.Test.YtpgaoihgohlmkaaTake
import Derived.WalkKit
import Derived.ProofKit
import Derived.OpenShut
import Derived.ShutString
import Derived.ChangeOld
import Derived.Below
import Derived.SizedLaws
import Derived.KernelRfl
namespace Go.Proofs.Ytpgaoihgohlmkaa.BridgeFnExactRatioShare
open Go.RowKit Go.ChangeShapes Go.WideShapes Go.Proofs.Ytpgaoihgohlmkaa.XFnExactRatioShare Go.Proofs.Ytpgaoihgohlmkaa.Take Go.Proofs.YtpgaoihgohlmkaaW.PrintWords Go.Proofs.YtpgaoihgohlmkaaW.PrintLast
set_option linter.unusedVariables false
/-- THE PURE STATEMENT of FnExactRatioShare. -/
def Pure : Prop := ∀ (a0 : Int) (a1 : Int) (a2 : Int), (Lit.int .i64 a0).wf = true → (Lit.int .i64 a1).wf = true → (Lit.int .i64 a2).wf = true → ∃ k, laws_FnExactRatioShare.f k a0 a1 a2 = some true
end Go.Proofs.Ytpgaoihgohlmkaa.BridgeFnExactRatioShare
