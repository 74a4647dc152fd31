/- The row of FnExactFillSum: every argument that reads as data is a value of the printed kinds, so the printed walk serves; what is left is the statement 'laws_FnExactFillSum.Pure' over numbers and lists. Conditions: none beyond the statement's own reach. -/
import Derived.Test.YtnekamdopfielaaRows
import Derived.Test.YtnekamdopfielaaPFnExactFillSumx5
import Derived.Test.YtnekamdopfielaaTake
import Derived.WalkKit
import Derived.ProofKit
import Derived.OpenShut
import Derived.ShutString
import Derived.ChangeOld
import Derived.Below
import Derived.SizedLaws
import Derived.KernelRfl
namespace Go.Proofs.Ytnekamdopfielaa.BridgeFnExactFillSum
open Go.RowKit Go.ChangeShapes Go.WideShapes Go.Proofs.Ytnekamdopfielaa.PFnExactFillSum Go.Proofs.Ytnekamdopfielaa.Take Go.Proofs.YtnekamdopfielaaW.PrintWords Go.Proofs.YtnekamdopfielaaW.PrintLast
set_option linter.unusedVariables false
def ok76 (x : S76) : Prop := (Lit.int .i64 x.f0).wf = true ∧ (Lit.int .i64 x.f1).wf = true ∧ (Lit.int .i64 x.f2).wf = true
theorem take_76 {H : Type} {enc : TypeId × Value → H} {w : World} : Takes enc Try.prog w 76 k76 ok76 :=
  take_iso (take_struct Try.underlying76 (by kernel_rfl) (takeF_cons rfl (take_int Try.underlying2 (by kernel_rfl)) (takeF_cons rfl (take_int Try.underlying2 (by kernel_rfl)) (takeF_one rfl (take_int Try.underlying2 (by kernel_rfl)))))) (fun x : S76 => (x.f0, x.f1, x.f2)) (fun y => ⟨y.1, y.2.1, y.2.2⟩) (fun _ => rfl)
/-- THE PURE STATEMENT of FnExactFillSum. -/
def Pure : Prop := ∀ (l0 : List (S76)), l0.length * 24 ≤ 140737488351232 → (∀ x76 ∈ l0, ok76 x76) → ∃ k, laws_FnExactFillSum.f k l0 = some true
end Go.Proofs.Ytnekamdopfielaa.BridgeFnExactFillSum
