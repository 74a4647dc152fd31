/- The row of FnExactWideDiv, out of its pure statement. -/
import Derived.Test.YtnekamdopfielaaBridgeFnExactWideDiv
import Derived.Test.YtnekamdopfielaaPureFnExactWideDiv
namespace Go.Proofs.Ytnekamdopfielaa.fnExactWideDiv
open Go.ChangeShapes Go.WideShapes Go.ChangeAt Go.RowKit Go.Proofs.Ytnekamdopfielaa.XFnExactWideDiv Go.Proofs.Ytnekamdopfielaa.Take Go.Proofs.YtnekamdopfielaaW.PrintWords Go.Proofs.Ytnekamdopfielaa.BridgeFnExactWideDiv
set_option linter.unusedVariables false
theorem own : ownKnob Try.prog.godebug = none := by kernel_rfl
theorem laidOut : laidOutB Try.prog = true := by kernel_rfl
set_option maxRecDepth 100000 in
theorem lifted (os : Os) (started : os.Started) (H : Type) (enc : TypeId × Value → H) :
    ReturnsInHanded {} Try.checked os 13 .any (Rows.fnExactWideDivSpec.pre6 enc Try.prog Try.f13 Rows.fnExactWideDivRow.domain false) (Rows.fnExactWideDivSpec.post enc Try.prog Try.f13 false true false false) := by
  refine returnsInHanded_of_change_sized (C := Try.checked) own started (by kernel_rfl) Try.func13
    (ChangeSpec.witness6 (enc := enc) (C := Try.checked) false ⟨#[], #[.agg #[.int .u64 0, .int .u64 0], .int .u64 0], []⟩ 8 (by kernel_rfl) (by kernel_rfl) (by kernel_rfl) (by kernel_rfl)) ?_
  intro W base args ds gs before hval0 hW hcnd hsz0 _
  have hsz : (DataW.weightsEach Try.prog (Try.f13.params.toList ++ Rows.fnExactWideDivSpec.plain.varTypes Try.prog) (ds ++ gs)).all (· ≤ reachBytes) = true := hsz0
  have hval : ∀ (j : Nat) t v, Try.f13.params[j]? = some t → args[j]? = some v → Value.okWide Try.prog W .any base t v := hval0
  have hW' := hW
  obtain ⟨p, q, hA0, hV, rfl, hfz, hnd⟩ := hW
  have hA : DataW.TrodAll enc Try.prog W 0 (fun _ => true) true Try.f13.params.toList args.toList ds p := hA0
  rw [Try.params13] at hA hval hsz
  obtain ⟨v0, vs0, d0, ds0, p0, q0, hargs, rfl, rfl, h0, r0⟩ := trodAll_cons hA
  obtain ⟨v1, vs1, d1, ds1, p1, q1, rfl, rfl, rfl, h1, r1⟩ := trodAll_cons r0
  obtain ⟨rfl, rfl, rfl⟩ := trodAll_nil r1
  obtain rfl : args = #[v0, v1] := by cases args; simp_all
  obtain ⟨rfl, rfl⟩ := trodVars_none hV
  have k0 := h0
  have lt0 : ∀ x ∈ p0, x.block < W.heap.size := by obtain ⟨m, hm⟩ := k0; exact DataW.trod_lt m _ _ _ hm
  have tk0 : Takes enc Try.prog W 81 (Kd.pair (Kd.int .u64) (Kd.int .u64)) _ := take_struct Try.underlying81 (by kernel_rfl) (takeF_cons rfl (take_int Try.underlying55 (by kernel_rfl)) (takeF_one rfl (take_int Try.underlying55 (by kernel_rfl))))
  obtain ⟨cs0, ⟨a0_0, a0_1⟩, rfl, hK0, ⟨g0_0, g0_1⟩⟩ := arg_struct Try.underlying81 tk0 (hval 0 81 v0 rfl rfl) h0 (small_of hsz (j := 0) (t := 81) rfl rfl)
  obtain ⟨_, _, rfl, rfl, rfl⟩ := hK0
  have k1 := h1
  have lt1 : ∀ x ∈ p1, x.block < W.heap.size := by obtain ⟨m, hm⟩ := k1; exact DataW.trod_lt m _ _ _ hm
  obtain ⟨a1, rfl, g1⟩ := arg_int Try.underlying55 (hval 1 55 v1 rfl rfl) h1
  clear hA0 hval0 hsz0 hsz
  obtain ⟨k, hp⟩ := Pure.FnExactWideDiv a0_0 a0_1 a1 g0_0 g0_1 g1
  refine (laws_FnExactWideDiv.calls k a0_0 a0_1 a1 true W  hp).mono fun e W' ⟨he, bel0⟩ => ?_
  have bel : Below W.heap.size W W' := bel0
  subst he
  exact ⟨_, rfl, _, _, _, [], _, [], hW', trodAll_mk1 (shut_bool Try.underlying4 _), (trodAll_cons_mk (Below.trod laidOut (by kernel_rfl) (of_decide_eq_true (by kernel_rfl)) k0 bel lt0) (trodAll_cons_mk (Below.trod laidOut (by kernel_rfl) (of_decide_eq_true (by kernel_rfl)) k1 bel lt1) trodAll_mk0)), rfl, bel.frame _, fun h => by cases h⟩
theorem over : Rows.fnExactWideDivRow.holds Try.pinned (OpenSpec.ofChange Rows.fnExactWideDivSpec) :=
  OpenClaim.holds_of_wide 13 Try.f13 rfl rfl rfl rfl rfl rfl rfl ⟨rfl, rfl, rfl, rfl, rfl⟩ rfl rfl rfl rfl rfl (by kernel_rfl) Try.func13 (by kernel_rfl)
    (of_decide_eq_true (by kernel_rfl)) (by unfold Func.isWrapper; first | (rw [if_pos (by decide +kernel)]; kernel_rfl) | (rw [if_neg (by decide +kernel)]; exact ⟨rfl, rfl⟩))
    (fun os started H enc _ => lifted os started H enc)
theorem proved : Rows.FnExactWideDivSaid := over
end Go.Proofs.Ytnekamdopfielaa.fnExactWideDiv
namespace Go.Proofs.Ytnekamdopfielaa
/-- The row, under a short name, for the claim. -/
theorem fnExactWideDiv_holds : Rows.FnExactWideDivSaid := fnExactWideDiv.proved
#print axioms fnExactWideDiv_holds
end Go.Proofs.Ytnekamdopfielaa
