/- The row of FnExactTreeBelow, out of its pure statement. -/
import Derived.Test.YtenlceojmjkbkaaBridgeFnExactTreeBelow
import Derived.Test.YtenlceojmjkbkaaPureFnExactTreeBelow
namespace Go.Proofs.Ytenlceojmjkbkaa.fnExactTreeBelow
open Go.ChangeShapes Go.WideShapes Go.ChangeAt Go.RowKit Go.Proofs.Ytenlceojmjkbkaa.XFnExactTreeBelow Go.Proofs.Ytenlceojmjkbkaa.Take Go.Proofs.YtenlceojmjkbkaaW.PrintWords Go.Proofs.Ytenlceojmjkbkaa.BridgeFnExactTreeBelow
set_option linter.unusedVariables false
theorem own : ownKnob Try.prog.godebug = none := by kernel_rfl
theorem laidOut : laidOutB Try.prog = true := by kernel_rfl
set_option maxRecDepth 100000 in
theorem lifted (os : Os) (started : os.Started) (H : Type) (enc : TypeId × Value → H) :
    ReturnsInHanded {} Try.checked os 11 .any (Rows.fnExactTreeBelowSpec.pre6 enc Try.prog Try.f11 Rows.fnExactTreeBelowRow.domain false) (Rows.fnExactTreeBelowSpec.post enc Try.prog Try.f11 false true false false) := by
  refine returnsInHanded_of_change_sized (C := Try.checked) own started (by kernel_rfl) Try.func11
    (ChangeSpec.witness6 (enc := enc) (C := Try.checked) false ⟨#[], #[.agg #[.slice none 0 0], .agg #[.int .i64 0, .int .i64 0, .int .i64 0]], []⟩ 8 (by kernel_rfl) (by kernel_rfl) (by kernel_rfl) (by kernel_rfl)) ?_
  intro W base args ds gs before hval0 hW hcnd hsz0 _
  have hsz : (DataW.weightsEach Try.prog (Try.f11.params.toList ++ Rows.fnExactTreeBelowSpec.plain.varTypes Try.prog) (ds ++ gs)).all (· ≤ reachBytes) = true := hsz0
  have hval : ∀ (j : Nat) t v, Try.f11.params[j]? = some t → args[j]? = some v → Value.okWide Try.prog W .any base t v := hval0
  have hW' := hW
  obtain ⟨p, q, hA0, hV, rfl, hfz, hnd⟩ := hW
  have hA : DataW.TrodAll enc Try.prog W 0 (fun _ => true) true Try.f11.params.toList args.toList ds p := hA0
  rw [Try.params11] at hA hval hsz
  obtain ⟨v0, vs0, d0, ds0, p0, q0, hargs, rfl, rfl, h0, r0⟩ := trodAll_cons hA
  obtain ⟨v1, vs1, d1, ds1, p1, q1, rfl, rfl, rfl, h1, r1⟩ := trodAll_cons r0
  obtain ⟨rfl, rfl, rfl⟩ := trodAll_nil r1
  obtain rfl : args = #[v0, v1] := by cases args; simp_all
  obtain ⟨rfl, rfl⟩ := trodVars_none hV
  have k0 := h0
  have lt0 : ∀ x ∈ p0, x.block < W.heap.size := by obtain ⟨m, hm⟩ := k0; exact DataW.trod_lt m _ _ _ hm
  have tk0 : Takes enc Try.prog W 59 (Kd.slice 160 k160) _ := take_struct Try.underlying59 (by kernel_rfl) (takeF_one rfl (take_slice (B := 32) Try.underlying57 (by kernel_rfl) (by kernel_rfl) take_160))
  obtain ⟨cs0, l0_0, rfl, hK0, ⟨y0_0, g0_0⟩⟩ := arg_struct Try.underlying59 tk0 (hval 0 59 v0 rfl rfl) h0 (small_of hsz (j := 0) (t := 59) rfl rfl)
  obtain ⟨A0_0, c0_0, rfl, hc0_0, hr0_0⟩ := hK0
  have k1 := h1
  have lt1 : ∀ x ∈ p1, x.block < W.heap.size := by obtain ⟨m, hm⟩ := k1; exact DataW.trod_lt m _ _ _ hm
  have tk1 : Takes enc Try.prog W 71 (Kd.pair (Kd.int .i64) (Kd.pair (Kd.int .i64) (Kd.int .i64))) _ := take_struct Try.underlying71 (by kernel_rfl) (takeF_cons rfl (take_int Try.underlying2 (by kernel_rfl)) (takeF_cons rfl (take_int Try.underlying2 (by kernel_rfl)) (takeF_one rfl (take_int Try.underlying2 (by kernel_rfl)))))
  obtain ⟨cs1, ⟨a1_0, a1_1, a1_2⟩, rfl, hK1, ⟨g1_0, g1_1, g1_2⟩⟩ := arg_struct Try.underlying71 tk1 (hval 1 71 v1 rfl rfl) h1 (small_of hsz (j := 1) (t := 71) rfl rfl)
  obtain ⟨_, _, rfl, rfl, ⟨_, _, rfl, rfl, rfl⟩⟩ := hK1
  clear hA0 hval0 hsz0 hsz
  obtain ⟨k, hp⟩ := Pure.FnExactTreeBelow l0_0 a1_0 a1_1 a1_2 y0_0 g0_0 g1_0 g1_1 g1_2
  refine (laws_FnExactTreeBelow.calls k _ _ l0_0 a1_0 a1_1 a1_2 true W hr0_0 hc0_0 hp rfl).mono fun e W' ⟨he, bel0⟩ => ?_
  have bel : Below W.heap.size W W' := bel0
  subst he
  exact ⟨_, rfl, _, _, _, [], _, [], hW', trodAll_mk1 (shut_bool Try.underlying4 _), (trodAll_cons_mk (Below.trod laidOut (by kernel_rfl) (of_decide_eq_true (by kernel_rfl)) k0 bel lt0) (trodAll_cons_mk (Below.trod laidOut (by kernel_rfl) (of_decide_eq_true (by kernel_rfl)) k1 bel lt1) trodAll_mk0)), rfl, bel.frame _, fun h => by cases h⟩
theorem over : Rows.fnExactTreeBelowRow.holds Try.pinned (OpenSpec.ofChange Rows.fnExactTreeBelowSpec) :=
  OpenClaim.holds_of_wide 11 Try.f11 rfl rfl rfl rfl rfl rfl rfl ⟨rfl, rfl, rfl, rfl, rfl⟩ rfl rfl rfl rfl rfl (by kernel_rfl) Try.func11 (by kernel_rfl)
    (of_decide_eq_true (by kernel_rfl)) (by unfold Func.isWrapper; first | (rw [if_pos (by decide +kernel)]; kernel_rfl) | (rw [if_neg (by decide +kernel)]; exact ⟨rfl, rfl⟩))
    (fun os started H enc _ => lifted os started H enc)
theorem proved : Rows.FnExactTreeBelowSaid := over
end Go.Proofs.Ytenlceojmjkbkaa.fnExactTreeBelow
namespace Go.Proofs.Ytenlceojmjkbkaa
/-- The row, under a short name, for the claim. -/
theorem fnExactTreeBelow_holds : Rows.FnExactTreeBelowSaid := fnExactTreeBelow.proved
#print axioms fnExactTreeBelow_holds
end Go.Proofs.Ytenlceojmjkbkaa
