/- The row of FnExactMostOf: every argument that reads as data is a value of the printed kinds, so the printed walk serves; what is left is the statement 'laws_FnExactMostOf.Pure' over numbers and lists. Conditions: none beyond the statement's own reach. -/
import Derived.Test.YtnekamdopfielaaRows
import Derived.Test.YtnekamdopfielaaXFnExactMostOfx4
import Derived.Test.YtnekamdopfielaaTake
import Derived.WalkKit
import Derived.ProofKit
import Derived.OpenShut
import Derived.ShutString
import Derived.ChangeOld
import Derived.Below
import Derived.SizedLaws
import Derived.KernelRfl
namespace Go.Proofs.Ytnekamdopfielaa.BridgeFnExactMostOf
open Go.RowKit Go.ChangeShapes Go.WideShapes Go.Proofs.Ytnekamdopfielaa.XFnExactMostOf Go.Proofs.Ytnekamdopfielaa.Take Go.Proofs.YtnekamdopfielaaW.PrintWords Go.Proofs.YtnekamdopfielaaW.PrintLast
set_option linter.unusedVariables false
def ok104 (x : S104) : Prop := (Lit.int .i64 x.f0).wf = true ∧ (Lit.int .i64 x.f1).wf = true
theorem take_104 {H : Type} {enc : TypeId × Value → H} {w : World} : Takes enc Try.prog w 104 k104 ok104 :=
  take_iso (take_struct Try.underlying104 (by kernel_rfl) (takeF_cons rfl (take_int Try.underlying2 (by kernel_rfl)) (takeF_one rfl (take_int Try.underlying2 (by kernel_rfl))))) (fun x : S104 => (x.f0, x.f1)) (fun y => ⟨y.1, y.2⟩) (fun _ => rfl)
/-- THE PURE STATEMENT of FnExactMostOf. -/
def Pure : Prop := ∀ (l0 : List (S104)) (a1 : Int) (a2 : Int), l0.length * 16 ≤ 140737488351232 → (∀ x104 ∈ l0, ok104 x104) → (Lit.int .i64 a1).wf = true → (Lit.int .i64 a2).wf = true → ∃ k, laws_FnExactMostOf.f k l0 a1 a2 = some true
end Go.Proofs.Ytnekamdopfielaa.BridgeFnExactMostOf
