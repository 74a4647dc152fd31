/- The row of FnExactFarmPath: every argument that reads as data is a value of the printed kinds, so the printed walk serves; what is left is the statement 'laws_FnExactFarmPath.Pure' over numbers and lists. Conditions: none beyond the statement's own reach. -/
import Derived.Test.YthpggkpidbieeaaRows
import Derived.Test.YthpggkpidbieeaaXFnExactFarmPathx9
import Derived.Test.YthpggkpidbieeaaTake
import Derived.WalkKit
import Derived.ProofKit
import Derived.OpenShut
import Derived.ShutString
import Derived.ChangeOld
import Derived.Below
import Derived.SizedLaws
import Derived.KernelRfl
namespace Go.Proofs.Ythpggkpidbieeaa.BridgeFnExactFarmPath
open Go.RowKit Go.ChangeShapes Go.WideShapes Go.Proofs.Ythpggkpidbieeaa.XFnExactFarmPath Go.Proofs.Ythpggkpidbieeaa.Take Go.Proofs.YthpggkpidbieeaaW.PrintWords Go.Proofs.YthpggkpidbieeaaW.PrintLast
set_option linter.unusedVariables false
def ok101 (x : S101) : Prop := (Lit.int .i64 x.f0).wf = true ∧ (Lit.int .i64 x.f1).wf = true ∧ (Lit.int .i64 x.f2).wf = true ∧ (Lit.int .i64 x.f3).wf = true
theorem take_101 {H : Type} {enc : TypeId × Value → H} {w : World} : Takes enc Try.prog w 101 k101 ok101 :=
  take_iso (take_struct Try.underlying101 (by kernel_rfl) (takeF_cons rfl (take_int Try.underlying2 (by kernel_rfl)) (takeF_cons rfl (take_int Try.underlying2 (by kernel_rfl)) (takeF_cons rfl (take_int Try.underlying2 (by kernel_rfl)) (takeF_one rfl (take_int Try.underlying2 (by kernel_rfl))))))) (fun x : S101 => (x.f0, x.f1, x.f2, x.f3)) (fun y => ⟨y.1, y.2.1, y.2.2.1, y.2.2.2⟩) (fun _ => rfl)
def ok103 (x : S103) : Prop := (Lit.int .i64 x.f0).wf = true ∧ (Lit.int .i64 x.f1).wf = true ∧ (Lit.int .i64 x.f2).wf = true ∧ (Lit.int .i64 x.f3).wf = true
theorem take_103 {H : Type} {enc : TypeId × Value → H} {w : World} : Takes enc Try.prog w 103 k103 ok103 :=
  take_iso (take_struct Try.underlying103 (by kernel_rfl) (takeF_cons rfl (take_int Try.underlying2 (by kernel_rfl)) (takeF_cons rfl (take_int Try.underlying2 (by kernel_rfl)) (takeF_cons rfl (take_int Try.underlying2 (by kernel_rfl)) (takeF_one rfl (take_int Try.underlying2 (by kernel_rfl))))))) (fun x : S103 => (x.f0, x.f1, x.f2, x.f3)) (fun y => ⟨y.1, y.2.1, y.2.2.1, y.2.2.2⟩) (fun _ => rfl)
/-- THE PURE STATEMENT of FnExactFarmPath. -/
def Pure : Prop := ∀ (a0_0 : Int) (l0_1 : List (S101)) (l0_2 : List (S103)) (a1 : Int), (Lit.int .i64 a0_0).wf = true → l0_1.length * 32 ≤ 140737488351232 → (∀ x101 ∈ l0_1, ok101 x101) → l0_2.length * 32 ≤ 140737488351232 → (∀ x103 ∈ l0_2, ok103 x103) → (Lit.int .i64 a1).wf = true → ∃ k, laws_FnExactFarmPath.f k a0_0 l0_1 l0_2 a1 = some true
end Go.Proofs.Ythpggkpidbieeaa.BridgeFnExactFarmPath
