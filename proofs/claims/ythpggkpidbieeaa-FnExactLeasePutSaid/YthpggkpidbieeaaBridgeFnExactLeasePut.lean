/- The row of FnExactLeasePut: every argument that reads as data is a value of the printed kinds, so the printed walk serves; what is left is the statement 'laws_FnExactLeasePut.Pure' over numbers and lists. Conditions: none beyond the statement's own reach. -/
import Derived.Test.YthpggkpidbieeaaRows
import Derived.Test.YthpggkpidbieeaaXFnExactLeasePutx8
import Derived.Test.YthpggkpidbieeaaTake
import Derived.WalkKit
import Derived.ProofKit
import Derived.OpenShut
import Derived.ShutString
import Derived.ChangeOld
import Derived.Below
import Derived.SizedLaws
import Derived.KernelRfl
namespace Go.Proofs.Ythpggkpidbieeaa.BridgeFnExactLeasePut
open Go.RowKit Go.ChangeShapes Go.WideShapes Go.Proofs.Ythpggkpidbieeaa.XFnExactLeasePut Go.Proofs.Ythpggkpidbieeaa.Take Go.Proofs.YthpggkpidbieeaaW.PrintWords Go.Proofs.YthpggkpidbieeaaW.PrintLast
set_option linter.unusedVariables false
def ok31 (x : S31) : Prop := (Lit.int .i64 x.f0).wf = true ∧ (Lit.int .i64 x.f1).wf = true ∧ (Lit.int .i64 x.f2).wf = true
theorem take_31 {H : Type} {enc : TypeId × Value → H} {w : World} : Takes enc Try.prog w 31 k31 ok31 :=
  take_iso (take_struct Try.underlying31 (by kernel_rfl) (takeF_cons rfl (take_int Try.underlying2 (by kernel_rfl)) (takeF_cons rfl (take_int Try.underlying2 (by kernel_rfl)) (takeF_one rfl (take_int Try.underlying2 (by kernel_rfl)))))) (fun x : S31 => (x.f0, x.f1, x.f2)) (fun y => ⟨y.1, y.2.1, y.2.2⟩) (fun _ => rfl)
/-- THE PURE STATEMENT of FnExactLeasePut. -/
def Pure : Prop := ∀ (l0 : List (S31)) (a1_0 : Int) (a1_1 : Int) (a1_2 : Int), l0.length * 24 ≤ 140737488351232 → (∀ x31 ∈ l0, ok31 x31) → (Lit.int .i64 a1_0).wf = true → (Lit.int .i64 a1_1).wf = true → (Lit.int .i64 a1_2).wf = true → ∃ k, laws_FnExactLeasePut.f k l0 a1_0 a1_1 a1_2 = some true
end Go.Proofs.Ythpggkpidbieeaa.BridgeFnExactLeasePut
