/- The row of FnExactTreeBelow: every argument that reads as data is a value of the printed kinds, so the printed walk serves; what is left is the statement 'laws_FnExactTreeBelow.Pure' over numbers and lists. Conditions: none beyond the statement's own reach. -/
import Derived.Test.YtenlceojmjkbkaaRows
import Derived.Test.YtenlceojmjkbkaaXFnExactTreeBelowx13
import Derived.Test.YtenlceojmjkbkaaHandFnExactTreeBelowTake
import Derived.WalkKit
import Derived.ProofKit
import Derived.OpenShut
import Derived.ShutString
import Derived.ChangeOld
import Derived.Below
import Derived.SizedLaws
import Derived.KernelRfl
namespace Go.Proofs.Ytenlceojmjkbkaa.BridgeFnExactTreeBelow
open Go.RowKit Go.ChangeShapes Go.WideShapes Go.Proofs.Ytenlceojmjkbkaa.XFnExactTreeBelow Go.Proofs.Ytenlceojmjkbkaa.Take Go.Proofs.YtenlceojmjkbkaaW.PrintWords Go.Proofs.YtenlceojmjkbkaaW.PrintLast
set_option linter.unusedVariables false
def ok71 (x : S71) : Prop := (Lit.int .i64 x.f0).wf = true ∧ (Lit.int .i64 x.f1).wf = true ∧ (Lit.int .i64 x.f2).wf = true
theorem take_71 {H : Type} {enc : TypeId × Value → H} {w : World} : Takes enc Try.prog w 71 k71 ok71 :=
  take_iso (take_struct Try.underlying71 (by kernel_rfl) (takeF_cons rfl (take_int Try.underlying2 (by kernel_rfl)) (takeF_cons rfl (take_int Try.underlying2 (by kernel_rfl)) (takeF_one rfl (take_int Try.underlying2 (by kernel_rfl)))))) (fun x : S71 => (x.f0, x.f1, x.f2)) (fun y => ⟨y.1, y.2.1, y.2.2⟩) (fun _ => rfl)
def ok160 (x : S160) : Prop := ok71 x.f0 ∧ (Lit.int .i64 x.f1).wf = true
theorem take_160 {H : Type} {enc : TypeId × Value → H} {w : World} : Takes enc Try.prog w 160 k160 ok160 :=
  take_iso (take_struct Try.underlying160 (by kernel_rfl) (takeF_cons rfl take_71 (takeF_one rfl (take_int Try.underlying2 (by kernel_rfl))))) (fun x : S160 => (x.f0, x.f1)) (fun y => ⟨y.1, y.2⟩) (fun _ => rfl)
/-- THE PURE STATEMENT of FnExactTreeBelow. -/
def Pure : Prop := ∀ (l0_0 : List (S160)) (a1_0 : Int) (a1_1 : Int) (a1_2 : Int), l0_0.length * 32 ≤ 140737488351232 → (∀ x160 ∈ l0_0, ok160 x160) → (Lit.int .i64 a1_0).wf = true → (Lit.int .i64 a1_1).wf = true → (Lit.int .i64 a1_2).wf = true → ∃ k, laws_FnExactTreeBelow.f k l0_0 a1_0 a1_1 a1_2 = some true
end Go.Proofs.Ytenlceojmjkbkaa.BridgeFnExactTreeBelow
