/- The row of FnExactWideCmp: every argument that reads as data is a value of the printed kinds, so the printed walk serves; what is left is the statement 'laws_FnExactWideCmp.Pure' over numbers and lists. Conditions: none beyond the statement's own reach. -/
import Derived.Test.YtjfkamhnmbamnabRows
import Derived.Test.YtjfkamhnmbamnabPFnExactWideCmpx2
import Derived.Test.YtjfkamhnmbamnabTake
import Derived.WalkKit
import Derived.ProofKit
import Derived.OpenShut
import Derived.ShutString
import Derived.ChangeOld
import Derived.Below
import Derived.SizedLaws
import Derived.KernelRfl
namespace Go.Proofs.Ytjfkamhnmbamnab.BridgeFnExactWideCmp
open Go.RowKit Go.ChangeShapes Go.WideShapes Go.Proofs.Ytjfkamhnmbamnab.PFnExactWideCmp Go.Proofs.Ytjfkamhnmbamnab.Take Go.Proofs.YtjfkamhnmbamnabW.PrintWords Go.Proofs.YtjfkamhnmbamnabW.PrintLast
set_option linter.unusedVariables false
/-- THE PURE STATEMENT of FnExactWideCmp. -/
def Pure : Prop := ∀ (a0_0 : Int) (a0_1 : Int) (a1_0 : Int) (a1_1 : Int), (Lit.int .u64 a0_0).wf = true → (Lit.int .u64 a0_1).wf = true → (Lit.int .u64 a1_0).wf = true → (Lit.int .u64 a1_1).wf = true → ∃ k, laws_FnExactWideCmp.f k a0_0 a0_1 a1_0 a1_1 = some true
end Go.Proofs.Ytjfkamhnmbamnab.BridgeFnExactWideCmp
