/- The row of FnExactFillFair: every argument that reads as data is a value of the printed kinds, so the printed walk serves; what is left is the statement 'laws_FnExactFillFair.Pure' over numbers and lists. Conditions: none beyond the statement's own reach. -/
import Derived.Test.YtpgaoihgohlmkaaRows
import Derived.Test.YtpgaoihgohlmkaaXFnExactFillFairx10
import Derived.Test.YtpgaoihgohlmkaaTake
import Derived.WalkKit
import Derived.ProofKit
import Derived.OpenShut
import Derived.ShutString
import Derived.ChangeOld
import Derived.Below
import Derived.SizedLaws
import Derived.KernelRfl
namespace Go.Proofs.Ytpgaoihgohlmkaa.BridgeFnExactFillFair
open Go.RowKit Go.ChangeShapes Go.WideShapes Go.Proofs.Ytpgaoihgohlmkaa.XFnExactFillFair Go.Proofs.Ytpgaoihgohlmkaa.Take Go.Proofs.YtpgaoihgohlmkaaW.PrintWords Go.Proofs.YtpgaoihgohlmkaaW.PrintLast
set_option linter.unusedVariables false
def ok91 (x : S91) : Prop := (Lit.int .i64 x.f0).wf = true ∧ (Lit.int .i64 x.f1).wf = true ∧ (Lit.int .i64 x.f2).wf = true
theorem take_91 {H : Type} {enc : TypeId × Value → H} {w : World} : Takes enc Try.prog w 91 k91 ok91 :=
  take_iso (take_struct Try.underlying91 (by kernel_rfl) (takeF_cons rfl (take_int Try.underlying2 (by kernel_rfl)) (takeF_cons rfl (take_int Try.underlying2 (by kernel_rfl)) (takeF_one rfl (take_int Try.underlying2 (by kernel_rfl)))))) (fun x : S91 => (x.f0, x.f1, x.f2)) (fun y => ⟨y.1, y.2.1, y.2.2⟩) (fun _ => rfl)
def ok93 (x : S93) : Prop := (Lit.int .i64 x.f0).wf = true ∧ (Lit.int .i64 x.f1).wf = true
theorem take_93 {H : Type} {enc : TypeId × Value → H} {w : World} : Takes enc Try.prog w 93 k93 ok93 :=
  take_iso (take_struct Try.underlying93 (by kernel_rfl) (takeF_cons rfl (take_int Try.underlying2 (by kernel_rfl)) (takeF_one rfl (take_int Try.underlying2 (by kernel_rfl))))) (fun x : S93 => (x.f0, x.f1)) (fun y => ⟨y.1, y.2⟩) (fun _ => rfl)
/-- THE PURE STATEMENT of FnExactFillFair. -/
def Pure : Prop := ∀ (l0 : List (S91)) (l1 : List (S93)), l0.length * 24 ≤ 140737488351232 → (∀ x91 ∈ l0, ok91 x91) → l1.length * 16 ≤ 140737488351232 → (∀ x93 ∈ l1, ok93 x93) → ∃ k, laws_FnExactFillFair.f k l0 l1 = some true
end Go.Proofs.Ytpgaoihgohlmkaa.BridgeFnExactFillFair
