/- The row of FnExactRatioSort: every argument that reads as data is a value of the printed kinds, so the printed walk serves; what is left is the statement 'laws_FnExactRatioSort.Pure' over numbers and lists. Conditions: none beyond the statement's own reach. -/
import Derived.Test.YtenlceojmjkbkaaRows
import Derived.Test.YtenlceojmjkbkaaXFnExactRatioSortx10
import Derived.Test.YtenlceojmjkbkaaTake
import Derived.WalkKit
import Derived.ProofKit
import Derived.OpenShut
import Derived.ShutString
import Derived.ChangeOld
import Derived.Below
import Derived.SizedLaws
import Derived.KernelRfl
namespace Go.Proofs.Ytenlceojmjkbkaa.BridgeFnExactRatioSort
open Go.RowKit Go.ChangeShapes Go.WideShapes Go.Proofs.Ytenlceojmjkbkaa.XFnExactRatioSort Go.Proofs.Ytenlceojmjkbkaa.Take Go.Proofs.YtenlceojmjkbkaaW.PrintWords Go.Proofs.YtenlceojmjkbkaaW.PrintLast
set_option linter.unusedVariables false
def ok71 (x : S71) : Prop := (Lit.int .i64 x.f0).wf = true ∧ (Lit.int .i64 x.f1).wf = true ∧ (Lit.int .i64 x.f2).wf = true
theorem take_71 {H : Type} {enc : TypeId × Value → H} {w : World} : Takes enc Try.prog w 71 k71 ok71 :=
  take_iso (take_struct Try.underlying71 (by kernel_rfl) (takeF_cons rfl (take_int Try.underlying2 (by kernel_rfl)) (takeF_cons rfl (take_int Try.underlying2 (by kernel_rfl)) (takeF_one rfl (take_int Try.underlying2 (by kernel_rfl)))))) (fun x : S71 => (x.f0, x.f1, x.f2)) (fun y => ⟨y.1, y.2.1, y.2.2⟩) (fun _ => rfl)
/-- THE PURE STATEMENT of FnExactRatioSort. -/
def Pure : Prop := ∀ (l0 : List (S71)), l0.length * 24 ≤ 140737488351232 → (∀ x71 ∈ l0, ok71 x71) → ∃ k, laws_FnExactRatioSort.f k l0 = some true
end Go.Proofs.Ytenlceojmjkbkaa.BridgeFnExactRatioSort
