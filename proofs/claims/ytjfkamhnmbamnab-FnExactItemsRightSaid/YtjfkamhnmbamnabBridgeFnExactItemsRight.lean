/- The row of FnExactItemsRight: every argument that reads as data is a value of the printed kinds, so the printed walk serves; what is left is the statement 'laws_FnExactItemsRight.Pure' over numbers and lists. Conditions: none beyond the statement's own reach. -/
import Derived.Test.YtjfkamhnmbamnabRows
import Derived.Test.YtjfkamhnmbamnabPFnExactItemsRightx5
import Derived.Test.YtjfkamhnmbamnabTake
import Derived.WalkKit
import Derived.ProofKit
import Derived.OpenShut
import Derived.ShutString
import Derived.ChangeOld
import Derived.Below
import Derived.SizedLaws
import Derived.KernelRfl
namespace Go.Proofs.Ytjfkamhnmbamnab.BridgeFnExactItemsRight
open Go.RowKit Go.ChangeShapes Go.WideShapes Go.Proofs.Ytjfkamhnmbamnab.PFnExactItemsRight Go.Proofs.Ytjfkamhnmbamnab.Take Go.Proofs.YtjfkamhnmbamnabW.PrintWords Go.Proofs.YtjfkamhnmbamnabW.PrintLast
set_option linter.unusedVariables false
def ok67 (x : S67) : Prop := (Lit.int .i64 x.f0).wf = true ∧ (Lit.int .i64 x.f1).wf = true ∧ (Lit.int .i64 x.f2).wf = true
theorem take_67 {H : Type} {enc : TypeId × Value → H} {w : World} : Takes enc Try.prog w 67 k67 ok67 :=
  take_iso (take_struct Try.underlying67 (by kernel_rfl) (takeF_cons rfl (take_int Try.underlying2 (by kernel_rfl)) (takeF_cons rfl (take_int Try.underlying2 (by kernel_rfl)) (takeF_one rfl (take_int Try.underlying2 (by kernel_rfl)))))) (fun x : S67 => (x.f0, x.f1, x.f2)) (fun y => ⟨y.1, y.2.1, y.2.2⟩) (fun _ => rfl)
/-- THE PURE STATEMENT of FnExactItemsRight. -/
def Pure : Prop := ∀ (l0 : List (S67)), l0.length * 24 ≤ 140737488351232 → (∀ x67 ∈ l0, ok67 x67) → ∃ k, laws_FnExactItemsRight.f k l0 = some true
end Go.Proofs.Ytjfkamhnmbamnab.BridgeFnExactItemsRight
