/- The row of FnExactWideBits: every argument that reads as data is a value of the printed kinds, so the printed walk serves; what is left is the statement 'laws_FnExactWideBits.Pure' over numbers and lists. Conditions: none beyond the statement's own reach. -/
import Derived.Test.YtjfkamhnmbamnaaRows
import Derived.Test.YtjfkamhnmbamnaaXFnExactWideBitsx1
import Derived.Test.YtjfkamhnmbamnaaTake
import Derived.WalkKit
import Derived.ProofKit
import Derived.OpenShut
import Derived.ShutString
import Derived.ChangeOld
import Derived.Below
import Derived.SizedLaws
import Derived.KernelRfl
namespace Go.Proofs.Ytjfkamhnmbamnaa.BridgeFnExactWideBits
open Go.RowKit Go.ChangeShapes Go.WideShapes Go.Proofs.Ytjfkamhnmbamnaa.XFnExactWideBits Go.Proofs.Ytjfkamhnmbamnaa.Take Go.Proofs.YtjfkamhnmbamnaaW.PrintWords Go.Proofs.YtjfkamhnmbamnaaW.PrintLast
set_option linter.unusedVariables false
/-- THE PURE STATEMENT of FnExactWideBits. -/
def Pure : Prop := ∀ (a0_0 : Int) (a0_1 : Int), (Lit.int .u64 a0_0).wf = true → (Lit.int .u64 a0_1).wf = true → ∃ k, laws_FnExactWideBits.f k a0_0 a0_1 = some true
end Go.Proofs.Ytjfkamhnmbamnaa.BridgeFnExactWideBits
