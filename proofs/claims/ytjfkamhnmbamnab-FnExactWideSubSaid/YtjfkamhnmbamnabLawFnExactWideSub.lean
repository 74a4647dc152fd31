/- The row of FnExactWideSub, out of its pure statement. -/
import Derived.Test.YtjfkamhnmbamnabBridgeFnExactWideSub
import Derived.Test.YtjfkamhnmbamnabPureFnExactWideSub
namespace Go.Proofs.Ytjfkamhnmbamnab.fnExactWideSub
open Go.ChangeShapes Go.WideShapes Go.ChangeAt Go.RowKit Go.Proofs.Ytjfkamhnmbamnab.XFnExactWideSub Go.Proofs.Ytjfkamhnmbamnab.Take Go.Proofs.YtjfkamhnmbamnabW.PrintWords Go.Proofs.Ytjfkamhnmbamnab.BridgeFnExactWideSub
set_option linter.unusedVariables false
theorem own : ownKnob Try.prog.godebug = none := by kernel_rfl
theorem laidOut : laidOutB Try.prog = true := by kernel_rfl
set_option maxRecDepth 100000 in
theorem lifted (os : Os) (started : os.Started) (H : Type) (enc : TypeId × Value → H) :
    ReturnsInHanded {} Try.checked os 6 .any (Rows.fnExactWideSubSpec.pre6 enc Try.prog Try.f6 Rows.fnExactWideSubRow.domain false) (Rows.fnExactWideSubSpec.post enc Try.prog Try.f6 false true false false) := by
  refine returnsInHanded_of_change_sized (C := Try.checked) own started (by kernel_rfl) Try.func6
    (ChangeSpec.witness6 (enc := enc) (C := Try.checked) false ⟨#[], #[.agg #[.int .u64 0, .int .u64 0], .agg #[.int .u64 0, .int .u64 0]], []⟩ 8 (by kernel_rfl) (by kernel_rfl) (by kernel_rfl) (by kernel_rfl)) ?_
  intro W base args ds gs before hval0 hW hcnd hsz0 _
  have hsz : (DataW.weightsEach Try.prog (Try.f6.params.toList ++ Rows.fnExactWideSubSpec.plain.varTypes Try.prog) (ds ++ gs)).all (· ≤ reachBytes) = true := hsz0
  have hval : ∀ (j : Nat) t v, Try.f6.params[j]? = some t → args[j]? = some v → Value.okWide Try.prog W .any base t v := hval0
  have hW' := hW
  obtain ⟨p, q, hA0, hV, rfl, hfz, hnd⟩ := hW
  have hA : DataW.TrodAll enc Try.prog W 0 (fun _ => true) true Try.f6.params.toList args.toList ds p := hA0
  rw [Try.params6] at hA hval hsz
  obtain ⟨v0, vs0, d0, ds0, p0, q0, hargs, rfl, rfl, h0, r0⟩ := trodAll_cons hA
  obtain ⟨v1, vs1, d1, ds1, p1, q1, rfl, rfl, rfl, h1, r1⟩ := trodAll_cons r0
  obtain ⟨rfl, rfl, rfl⟩ := trodAll_nil r1
  obtain rfl : args = #[v0, v1] := by cases args; simp_all
  obtain ⟨rfl, rfl⟩ := trodVars_none hV
  have k0 := h0
  have lt0 : ∀ x ∈ p0, x.block < W.heap.size := by obtain ⟨m, hm⟩ := k0; exact DataW.trod_lt m _ _ _ hm
  have tk0 : Takes enc Try.prog W 30 (Kd.pair (Kd.int .u64) (Kd.int .u64)) _ := take_struct Try.underlying30 (by kernel_rfl) (takeF_cons rfl (take_int Try.underlying28 (by kernel_rfl)) (takeF_one rfl (take_int Try.underlying28 (by kernel_rfl))))
  obtain ⟨cs0, ⟨a0_0, a0_1⟩, rfl, hK0, ⟨g0_0, g0_1⟩⟩ := arg_struct Try.underlying30 tk0 (hval 0 30 v0 rfl rfl) h0 (small_of hsz (j := 0) (t := 30) rfl rfl)
  obtain ⟨_, _, rfl, rfl, rfl⟩ := hK0
  have k1 := h1
  have lt1 : ∀ x ∈ p1, x.block < W.heap.size := by obtain ⟨m, hm⟩ := k1; exact DataW.trod_lt m _ _ _ hm
  have tk1 : Takes enc Try.prog W 30 (Kd.pair (Kd.int .u64) (Kd.int .u64)) _ := take_struct Try.underlying30 (by kernel_rfl) (takeF_cons rfl (take_int Try.underlying28 (by kernel_rfl)) (takeF_one rfl (take_int Try.underlying28 (by kernel_rfl))))
  obtain ⟨cs1, ⟨a1_0, a1_1⟩, rfl, hK1, ⟨g1_0, g1_1⟩⟩ := arg_struct Try.underlying30 tk1 (hval 1 30 v1 rfl rfl) h1 (small_of hsz (j := 1) (t := 30) rfl rfl)
  obtain ⟨_, _, rfl, rfl, rfl⟩ := hK1
  clear hA0 hval0 hsz0 hsz
  have hp := Pure.FnExactWideSub a0_0 a0_1 a1_0 a1_1 g0_0 g0_1 g1_0 g1_1
  refine (laws_FnExactWideSub.calls a0_0 a0_1 a1_0 a1_1 true W  hp).mono fun e W' ⟨he, bel0⟩ => ?_
  have bel : Below W.heap.size W W' := bel0
  subst he
  exact ⟨_, rfl, _, _, _, [], _, [], hW', trodAll_mk1 (shut_bool Try.underlying4 _), (trodAll_cons_mk (Below.trod laidOut (by kernel_rfl) (of_decide_eq_true (by kernel_rfl)) k0 bel lt0) (trodAll_cons_mk (Below.trod laidOut (by kernel_rfl) (of_decide_eq_true (by kernel_rfl)) k1 bel lt1) trodAll_mk0)), rfl, bel.frame _, fun h => by cases h⟩
theorem over : Rows.fnExactWideSubRow.holds Try.pinned (OpenSpec.ofChange Rows.fnExactWideSubSpec) :=
  OpenClaim.holds_of_wide 6 Try.f6 rfl rfl rfl rfl rfl rfl rfl ⟨rfl, rfl, rfl, rfl, rfl⟩ rfl rfl rfl rfl rfl (by kernel_rfl) Try.func6 (by kernel_rfl)
    (of_decide_eq_true (by kernel_rfl)) (by unfold Func.isWrapper; first | (rw [if_pos (by decide +kernel)]; kernel_rfl) | (rw [if_neg (by decide +kernel)]; exact ⟨rfl, rfl⟩))
    (fun os started H enc _ => lifted os started H enc)
theorem proved : Rows.FnExactWideSubSaid := over
end Go.Proofs.Ytjfkamhnmbamnab.fnExactWideSub
namespace Go.Proofs.Ytjfkamhnmbamnab
/-- The row, under a short name, for the claim. -/
theorem fnExactWideSub_holds : Rows.FnExactWideSubSaid := fnExactWideSub.proved
#print axioms fnExactWideSub_holds
end Go.Proofs.Ytjfkamhnmbamnab
