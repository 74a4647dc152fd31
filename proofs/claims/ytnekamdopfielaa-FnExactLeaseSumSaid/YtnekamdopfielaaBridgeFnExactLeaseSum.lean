/- The row of FnExactLeaseSum: every argument that reads as data is a value of the printed kinds, so the printed walk serves; what is left is the statement 'laws_FnExactLeaseSum.Pure' over numbers and lists. Conditions: none beyond the statement's own reach. -/
import Derived.Test.YtnekamdopfielaaRows
import Derived.Test.YtnekamdopfielaaPFnExactLeaseSumx5
import Derived.Test.YtnekamdopfielaaTake
import Derived.WalkKit
import Derived.ProofKit
import Derived.OpenShut
import Derived.ShutString
import Derived.ChangeOld
import Derived.Below
import Derived.SizedLaws
import Derived.KernelRfl
namespace Go.Proofs.Ytnekamdopfielaa.BridgeFnExactLeaseSum
open Go.RowKit Go.ChangeShapes Go.WideShapes Go.Proofs.Ytnekamdopfielaa.PFnExactLeaseSum Go.Proofs.Ytnekamdopfielaa.Take Go.Proofs.YtnekamdopfielaaW.PrintWords Go.Proofs.YtnekamdopfielaaW.PrintLast
set_option linter.unusedVariables false
def ok96 (x : S96) : Prop := (Lit.int .i64 x.f0).wf = true ∧ (Lit.int .i64 x.f1).wf = true ∧ (Lit.int .i64 x.f2).wf = true
theorem take_96 {H : Type} {enc : TypeId × Value → H} {w : World} : Takes enc Try.prog w 96 k96 ok96 :=
  take_iso (take_struct Try.underlying96 (by kernel_rfl) (takeF_cons rfl (take_int Try.underlying2 (by kernel_rfl)) (takeF_cons rfl (take_int Try.underlying2 (by kernel_rfl)) (takeF_one rfl (take_int Try.underlying2 (by kernel_rfl)))))) (fun x : S96 => (x.f0, x.f1, x.f2)) (fun y => ⟨y.1, y.2.1, y.2.2⟩) (fun _ => rfl)
/-- THE PURE STATEMENT of FnExactLeaseSum. -/
def Pure : Prop := ∀ (l0 : List (S96)) (a1 : Int), l0.length * 24 ≤ 140737488351232 → (∀ x96 ∈ l0, ok96 x96) → (Lit.int .i64 a1).wf = true → ∃ k, laws_FnExactLeaseSum.f k l0 a1 = some true
end Go.Proofs.Ytnekamdopfielaa.BridgeFnExactLeaseSum
