/- The row of FnExactLeasesRight: every argument that reads as data is a value of the printed kinds, so the printed walk serves; what is left is the statement 'laws_FnExactLeasesRight.Pure' over numbers and lists. Conditions: none beyond the statement's own reach. -/
import Derived.Test.YtjfkamhnmbamnabRows
import Derived.Test.YtjfkamhnmbamnabPFnExactLeasesRightx5
import Derived.Test.YtjfkamhnmbamnabTake
import Derived.WalkKit
import Derived.ProofKit
import Derived.OpenShut
import Derived.ShutString
import Derived.ChangeOld
import Derived.Below
import Derived.SizedLaws
import Derived.KernelRfl
namespace Go.Proofs.Ytjfkamhnmbamnab.BridgeFnExactLeasesRight
open Go.RowKit Go.ChangeShapes Go.WideShapes Go.Proofs.Ytjfkamhnmbamnab.PFnExactLeasesRight Go.Proofs.Ytjfkamhnmbamnab.Take Go.Proofs.YtjfkamhnmbamnabW.PrintWords Go.Proofs.YtjfkamhnmbamnabW.PrintLast
set_option linter.unusedVariables false
def ok73 (x : S73) : Prop := (Lit.int .i64 x.f0).wf = true ∧ (Lit.int .i64 x.f1).wf = true ∧ (Lit.int .i64 x.f2).wf = true
theorem take_73 {H : Type} {enc : TypeId × Value → H} {w : World} : Takes enc Try.prog w 73 k73 ok73 :=
  take_iso (take_struct Try.underlying73 (by kernel_rfl) (takeF_cons rfl (take_int Try.underlying2 (by kernel_rfl)) (takeF_cons rfl (take_int Try.underlying2 (by kernel_rfl)) (takeF_one rfl (take_int Try.underlying2 (by kernel_rfl)))))) (fun x : S73 => (x.f0, x.f1, x.f2)) (fun y => ⟨y.1, y.2.1, y.2.2⟩) (fun _ => rfl)
/-- THE PURE STATEMENT of FnExactLeasesRight. -/
def Pure : Prop := ∀ (l0 : List (S73)), l0.length * 24 ≤ 140737488351232 → (∀ x73 ∈ l0, ok73 x73) → ∃ k, laws_FnExactLeasesRight.f k l0 = some true
end Go.Proofs.Ytjfkamhnmbamnab.BridgeFnExactLeasesRight
