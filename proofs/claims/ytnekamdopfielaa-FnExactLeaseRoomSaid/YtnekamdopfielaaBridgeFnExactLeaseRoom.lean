/- The row of FnExactLeaseRoom: every argument that reads as data is a value of the printed kinds, so the printed walk serves; what is left is the statement 'laws_FnExactLeaseRoom.Pure' over numbers and lists. Conditions: none beyond the statement's own reach. -/
import Derived.Test.YtnekamdopfielaaRows
import Derived.Test.YtnekamdopfielaaPFnExactLeaseRoomx5
import Derived.Test.YtnekamdopfielaaTake
import Derived.WalkKit
import Derived.ProofKit
import Derived.OpenShut
import Derived.ShutString
import Derived.ChangeOld
import Derived.Below
import Derived.SizedLaws
import Derived.KernelRfl
namespace Go.Proofs.Ytnekamdopfielaa.BridgeFnExactLeaseRoom
open Go.RowKit Go.ChangeShapes Go.WideShapes Go.Proofs.Ytnekamdopfielaa.PFnExactLeaseRoom Go.Proofs.Ytnekamdopfielaa.Take Go.Proofs.YtnekamdopfielaaW.PrintWords Go.Proofs.YtnekamdopfielaaW.PrintLast
set_option linter.unusedVariables false
def ok96 (x : S96) : Prop := (Lit.int .i64 x.f0).wf = true ∧ (Lit.int .i64 x.f1).wf = true ∧ (Lit.int .i64 x.f2).wf = true
theorem take_96 {H : Type} {enc : TypeId × Value → H} {w : World} : Takes enc Try.prog w 96 k96 ok96 :=
  take_iso (take_struct Try.underlying96 (by kernel_rfl) (takeF_cons rfl (take_int Try.underlying2 (by kernel_rfl)) (takeF_cons rfl (take_int Try.underlying2 (by kernel_rfl)) (takeF_one rfl (take_int Try.underlying2 (by kernel_rfl)))))) (fun x : S96 => (x.f0, x.f1, x.f2)) (fun y => ⟨y.1, y.2.1, y.2.2⟩) (fun _ => rfl)
/-- THE PURE STATEMENT of FnExactLeaseRoom. -/
def Pure : Prop := ∀ (l0 : List (S96)) (a1 : Int) (a2 : Int) (a3 : Int), l0.length * 24 ≤ 140737488351232 → (∀ x96 ∈ l0, ok96 x96) → (Lit.int .i64 a1).wf = true → (Lit.int .i64 a2).wf = true → (Lit.int .i64 a3).wf = true → ∃ k, laws_FnExactLeaseRoom.f k l0 a1 a2 a3 = some true
end Go.Proofs.Ytnekamdopfielaa.BridgeFnExactLeaseRoom
