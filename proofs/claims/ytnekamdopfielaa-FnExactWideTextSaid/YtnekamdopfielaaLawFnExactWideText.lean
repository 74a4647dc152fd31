/- The row of FnExactWideText, out of its pure statement. -/
import Derived.Test.YtnekamdopfielaaBridgeFnExactWideText
import Derived.Test.YtnekamdopfielaaPureFnExactWideText
namespace Go.Proofs.Ytnekamdopfielaa.fnExactWideText
open Go.ChangeShapes Go.WideShapes Go.ChangeAt Go.RowKit Go.Proofs.Ytnekamdopfielaa.XFnExactWideText Go.Proofs.Ytnekamdopfielaa.Take Go.Proofs.YtnekamdopfielaaW.PrintWords Go.Proofs.Ytnekamdopfielaa.BridgeFnExactWideText
set_option linter.unusedVariables false
theorem own : ownKnob Try.prog.godebug = none := by kernel_rfl
theorem laidOut : laidOutB Try.prog = true := by kernel_rfl
set_option maxRecDepth 100000 in
theorem lifted (os : Os) (started : os.Started) (H : Type) (enc : TypeId × Value → H) :
    ReturnsInHanded {} Try.checked os 14 .any (Rows.fnExactWideTextSpec.pre6 enc Try.prog Try.f14 Rows.fnExactWideTextRow.domain false) (Rows.fnExactWideTextSpec.post enc Try.prog Try.f14 false true false false) := by
  refine returnsInHanded_of_change_sized (C := Try.checked) own started (by kernel_rfl) Try.func14
    (ChangeSpec.witness6 (enc := enc) (C := Try.checked) false ⟨#[], #[.agg #[.int .u64 0, .int .u64 0]], []⟩ 8 (by kernel_rfl) (by kernel_rfl) (by kernel_rfl) (by kernel_rfl)) ?_
  intro W base args ds gs before hval0 hW hcnd hsz0 _
  have hsz : (DataW.weightsEach Try.prog (Try.f14.params.toList ++ Rows.fnExactWideTextSpec.plain.varTypes Try.prog) (ds ++ gs)).all (· ≤ reachBytes) = true := hsz0
  have hval : ∀ (j : Nat) t v, Try.f14.params[j]? = some t → args[j]? = some v → Value.okWide Try.prog W .any base t v := hval0
  have hW' := hW
  obtain ⟨p, q, hA0, hV, rfl, hfz, hnd⟩ := hW
  have hA : DataW.TrodAll enc Try.prog W 0 (fun _ => true) true Try.f14.params.toList args.toList ds p := hA0
  rw [Try.params14] at hA hval hsz
  obtain ⟨v0, vs0, d0, ds0, p0, q0, hargs, rfl, rfl, h0, r0⟩ := trodAll_cons hA
  obtain ⟨rfl, rfl, rfl⟩ := trodAll_nil r0
  obtain rfl : args = #[v0] := by cases args; simp_all
  obtain ⟨rfl, rfl⟩ := trodVars_none hV
  have k0 := h0
  have lt0 : ∀ x ∈ p0, x.block < W.heap.size := by obtain ⟨m, hm⟩ := k0; exact DataW.trod_lt m _ _ _ hm
  have tk0 : Takes enc Try.prog W 81 (Kd.pair (Kd.int .u64) (Kd.int .u64)) _ := take_struct Try.underlying81 (by kernel_rfl) (takeF_cons rfl (take_int Try.underlying55 (by kernel_rfl)) (takeF_one rfl (take_int Try.underlying55 (by kernel_rfl))))
  obtain ⟨cs0, ⟨a0_0, a0_1⟩, rfl, hK0, ⟨g0_0, g0_1⟩⟩ := arg_struct Try.underlying81 tk0 (hval 0 81 v0 rfl rfl) h0 (small_of hsz (j := 0) (t := 81) rfl rfl)
  obtain ⟨_, _, rfl, rfl, rfl⟩ := hK0
  clear hA0 hval0 hsz0 hsz
  obtain ⟨k, hp⟩ := Pure.FnExactWideText a0_0 a0_1 g0_0 g0_1
  refine (laws_FnExactWideText.calls k a0_0 a0_1 true W  hp).mono fun e W' ⟨he, bel0⟩ => ?_
  have bel : Below W.heap.size W W' := bel0
  subst he
  exact ⟨_, rfl, _, _, _, [], _, [], hW', trodAll_mk1 (shut_bool Try.underlying4 _), (trodAll_cons_mk (Below.trod laidOut (by kernel_rfl) (of_decide_eq_true (by kernel_rfl)) k0 bel lt0) trodAll_mk0), rfl, bel.frame _, fun h => by cases h⟩
theorem over : Rows.fnExactWideTextRow.holds Try.pinned (OpenSpec.ofChange Rows.fnExactWideTextSpec) :=
  OpenClaim.holds_of_wide 14 Try.f14 rfl rfl rfl rfl rfl rfl rfl ⟨rfl, rfl, rfl, rfl, rfl⟩ rfl rfl rfl rfl rfl (by kernel_rfl) Try.func14 (by kernel_rfl)
    (of_decide_eq_true (by kernel_rfl)) (by unfold Func.isWrapper; first | (rw [if_pos (by decide +kernel)]; kernel_rfl) | (rw [if_neg (by decide +kernel)]; exact ⟨rfl, rfl⟩))
    (fun os started H enc _ => lifted os started H enc)
theorem proved : Rows.FnExactWideTextSaid := over
end Go.Proofs.Ytnekamdopfielaa.fnExactWideText
namespace Go.Proofs.Ytnekamdopfielaa
/-- The row, under a short name, for the claim. -/
theorem fnExactWideText_holds : Rows.FnExactWideTextSaid := fnExactWideText.proved
#print axioms fnExactWideText_holds
end Go.Proofs.Ytnekamdopfielaa
