/- The row of FnExactWindowOf: every argument that reads as data is a value of the printed kinds, so the printed walk serves; what is left is the statement 'laws_FnExactWindowOf.Pure' over numbers and lists. Conditions: none beyond the statement's own reach. -/
import Derived.Test.YtpgaoihgohlmkaaRows
import Derived.Test.YtpgaoihgohlmkaaXFnExactWindowOfx8
import Derived.Test.YtpgaoihgohlmkaaHandFnExactWindowOfTake
import Derived.WalkKit
import Derived.ProofKit
import Derived.OpenShut
import Derived.ShutString
import Derived.ChangeOld
import Derived.Below
import Derived.SizedLaws
import Derived.KernelRfl
namespace Go.Proofs.Ytpgaoihgohlmkaa.BridgeFnExactWindowOf
open Go.RowKit Go.ChangeShapes Go.WideShapes Go.Proofs.Ytpgaoihgohlmkaa.XFnExactWindowOf Go.Proofs.Ytpgaoihgohlmkaa.Take Go.Proofs.YtpgaoihgohlmkaaW.PrintWords Go.Proofs.YtpgaoihgohlmkaaW.PrintLast
set_option linter.unusedVariables false
def ok26 (x : S26) : Prop := (Lit.int .i64 x.f0).wf = true ∧ (Lit.int .i64 x.f1).wf = true
theorem take_26 {H : Type} {enc : TypeId × Value → H} {w : World} : Takes enc Try.prog w 26 k26 ok26 :=
  take_iso (take_struct Try.underlying26 (by kernel_rfl) (takeF_cons rfl (take_int Try.underlying2 (by kernel_rfl)) (takeF_one rfl (take_int Try.underlying2 (by kernel_rfl))))) (fun x : S26 => (x.f0, x.f1)) (fun y => ⟨y.1, y.2⟩) (fun _ => rfl)
/-- THE PURE STATEMENT of FnExactWindowOf. -/
def Pure : Prop := ∀ (a0 : Int) (l1 : List (S26)), (Lit.int .i64 a0).wf = true → l1.length * 16 ≤ 140737488351232 → (∀ x26 ∈ l1, ok26 x26) → ∃ k, laws_FnExactWindowOf.f k a0 l1 = some true
end Go.Proofs.Ytpgaoihgohlmkaa.BridgeFnExactWindowOf
