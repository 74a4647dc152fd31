/- The row of FnExactTreeTake: every argument that reads as data is a value of the printed kinds, so the printed walk serves; what is left is the statement 'laws_FnExactTreeTake.Pure' over numbers and lists. Conditions: none beyond the statement's own reach. -/
import Derived.Test.YtenlceojmjkbkaaGreatRows
import Derived.Test.YtenlceojmjkbkaaGreatXFnExactTreeTakex14
import Derived.Test.YtenlceojmjkbkaaGreatHandFnExactTreeTakeTake
import Derived.WalkKit
import Derived.ProofKit
import Derived.OpenShut
import Derived.ShutString
import Derived.ChangeOld
import Derived.Below
import Derived.SizedLaws
import Derived.KernelRfl
namespace Go.Proofs.YtenlceojmjkbkaaGreat.BridgeFnExactTreeTake
open Go.RowKit Go.ChangeShapes Go.WideShapes Go.Proofs.YtenlceojmjkbkaaGreat.XFnExactTreeTake Go.Proofs.YtenlceojmjkbkaaGreat.Take Go.Proofs.YtenlceojmjkbkaaGreatW.PrintWords Go.Proofs.YtenlceojmjkbkaaGreatW.PrintLast
set_option linter.unusedVariables false
def ok26 (x : S26) : Prop := (Lit.int .i64 x.f0).wf = true ∧ (Lit.int .i64 x.f1).wf = true ∧ (Lit.int .i64 x.f2).wf = true
theorem take_26 {H : Type} {enc : TypeId × Value → H} {w : World} : Takes enc Tryz.prog w 26 k26 ok26 :=
  take_iso (take_struct Tryz.underlying26 (by kernel_rfl) (takeF_cons rfl (take_int Tryz.underlying2 (by kernel_rfl)) (takeF_cons rfl (take_int Tryz.underlying2 (by kernel_rfl)) (takeF_one rfl (take_int Tryz.underlying2 (by kernel_rfl)))))) (fun x : S26 => (x.f0, x.f1, x.f2)) (fun y => ⟨y.1, y.2.1, y.2.2⟩) (fun _ => rfl)
def ok81 (x : S81) : Prop := ok26 x.f0 ∧ (Lit.int .i64 x.f1).wf = true
theorem take_81 {H : Type} {enc : TypeId × Value → H} {w : World} : Takes enc Tryz.prog w 81 k81 ok81 :=
  take_iso (take_struct Tryz.underlying81 (by kernel_rfl) (takeF_cons rfl take_26 (takeF_one rfl (take_int Tryz.underlying2 (by kernel_rfl))))) (fun x : S81 => (x.f0, x.f1)) (fun y => ⟨y.1, y.2⟩) (fun _ => rfl)
/-- THE PURE STATEMENT of FnExactTreeTake. -/
def Pure : Prop := ∀ (l0_0 : List (S81)) (a1_0 : Int) (a1_1 : Int) (a1_2 : Int), l0_0.length * 32 ≤ 140737488351232 → (∀ x81 ∈ l0_0, ok81 x81) → (Lit.int .i64 a1_0).wf = true → (Lit.int .i64 a1_1).wf = true → (Lit.int .i64 a1_2).wf = true → ∃ k, laws_FnExactTreeTake.f k l0_0 a1_0 a1_1 a1_2 = some true
end Go.Proofs.YtenlceojmjkbkaaGreat.BridgeFnExactTreeTake
