/- The row of FnExactWheelDrop: every argument that reads as data is a value of the printed kinds, so the printed walk serves; what is left is the statement 'laws_FnExactWheelDrop.Pure' over numbers and lists. Conditions: none beyond the statement's own reach. -/
import Derived.Test.YtenlceojmjkbkaaRows
import Derived.Test.YtenlceojmjkbkaaXFnExactWheelDropx11
import Derived.Test.YtenlceojmjkbkaaHandFnExactWheelDropTake
import Derived.WalkKit
import Derived.ProofKit
import Derived.OpenShut
import Derived.ShutString
import Derived.ChangeOld
import Derived.Below
import Derived.SizedLaws
import Derived.KernelRfl
namespace Go.Proofs.Ytenlceojmjkbkaa.BridgeFnExactWheelDrop
open Go.RowKit Go.ChangeShapes Go.WideShapes Go.Proofs.Ytenlceojmjkbkaa.XFnExactWheelDrop Go.Proofs.Ytenlceojmjkbkaa.Take Go.Proofs.YtenlceojmjkbkaaW.PrintWords Go.Proofs.YtenlceojmjkbkaaW.PrintLast
set_option linter.unusedVariables false
def ok150 (x : S150) : Prop := (Lit.int .i64 x.f0).wf = true ∧ (Lit.int .i64 x.f1).wf = true
theorem take_150 {H : Type} {enc : TypeId × Value → H} {w : World} : Takes enc Try.prog w 150 k150 ok150 :=
  take_iso (take_struct Try.underlying150 (by kernel_rfl) (takeF_cons rfl (take_int Try.underlying2 (by kernel_rfl)) (takeF_one rfl (take_int Try.underlying2 (by kernel_rfl))))) (fun x : S150 => (x.f0, x.f1)) (fun y => ⟨y.1, y.2⟩) (fun _ => rfl)
/-- THE PURE STATEMENT of FnExactWheelDrop. -/
def Pure : Prop := ∀ (a0_0 : Int) (l0_1 : List (List (S150))) (l0_2 : List (S150)) (a1 : Int), (Lit.int .i64 a0_0).wf = true → l0_1.length * 24 ≤ 140737488351232 → (∀ x37 ∈ l0_1, (x37.length * 16 ≤ 140737488351232 ∧ ∀ x150 ∈ x37, ok150 x150)) → l0_2.length * 16 ≤ 140737488351232 → (∀ x150 ∈ l0_2, ok150 x150) → (Lit.int .i64 a1).wf = true → ∃ k, laws_FnExactWheelDrop.f k a0_0 l0_1 l0_2 a1 = some true
end Go.Proofs.Ytenlceojmjkbkaa.BridgeFnExactWheelDrop
