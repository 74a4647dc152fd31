/- The row of FnExactWindowPut: every argument that reads as data is a value of the printed kinds, so the printed walk serves; what is left is the statement 'laws_FnExactWindowPut.Pure' over numbers and lists. Conditions: none beyond the statement's own reach. -/
import Derived.Test.YtpgaoihgohlmkaaRows
import Derived.Test.YtpgaoihgohlmkaaXFnExactWindowPutx9
import Derived.Test.YtpgaoihgohlmkaaHandFnExactWindowPutTake
import Derived.WalkKit
import Derived.ProofKit
import Derived.OpenShut
import Derived.ShutString
import Derived.ChangeOld
import Derived.Below
import Derived.SizedLaws
import Derived.KernelRfl
namespace Go.Proofs.Ytpgaoihgohlmkaa.BridgeFnExactWindowPut
open Go.RowKit Go.ChangeShapes Go.WideShapes Go.Proofs.Ytpgaoihgohlmkaa.XFnExactWindowPut Go.Proofs.Ytpgaoihgohlmkaa.Take Go.Proofs.YtpgaoihgohlmkaaW.PrintWords Go.Proofs.YtpgaoihgohlmkaaW.PrintLast
set_option linter.unusedVariables false
def ok26 (x : S26) : Prop := (Lit.int .i64 x.f0).wf = true ∧ (Lit.int .i64 x.f1).wf = true
theorem take_26 {H : Type} {enc : TypeId × Value → H} {w : World} : Takes enc Try.prog w 26 k26 ok26 :=
  take_iso (take_struct Try.underlying26 (by kernel_rfl) (takeF_cons rfl (take_int Try.underlying2 (by kernel_rfl)) (takeF_one rfl (take_int Try.underlying2 (by kernel_rfl))))) (fun x : S26 => (x.f0, x.f1)) (fun y => ⟨y.1, y.2⟩) (fun _ => rfl)
/-- THE PURE STATEMENT of FnExactWindowPut. -/
def Pure : Prop := ∀ (a0_0 : Int) (a0_1 : Int) (a0_2 : Int) (l0_3 : List (S26)) (a1_0 : Int) (a1_1 : Int), (Lit.int .i64 a0_0).wf = true → (Lit.int .i64 a0_1).wf = true → (Lit.int .i64 a0_2).wf = true → l0_3.length * 16 ≤ 140737488351232 → (∀ x26 ∈ l0_3, ok26 x26) → (Lit.int .i64 a1_0).wf = true → (Lit.int .i64 a1_1).wf = true → ∃ k, laws_FnExactWindowPut.f k a0_0 a0_1 a0_2 l0_3 a1_0 a1_1 = some true
end Go.Proofs.Ytpgaoihgohlmkaa.BridgeFnExactWindowPut
