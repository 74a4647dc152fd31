/- The row of FnExactWheelDrop, out of its pure statement. -/
import Derived.Test.YtenlceojmjkbkaaBridgeFnExactWheelDrop
import Derived.Test.YtenlceojmjkbkaaPureFnExactWheelDrop
namespace Go.Proofs.Ytenlceojmjkbkaa.fnExactWheelDrop
open Go.ChangeShapes Go.WideShapes Go.ChangeAt Go.RowKit Go.Proofs.Ytenlceojmjkbkaa.XFnExactWheelDrop Go.Proofs.Ytenlceojmjkbkaa.Take Go.Proofs.YtenlceojmjkbkaaW.PrintWords Go.Proofs.Ytenlceojmjkbkaa.BridgeFnExactWheelDrop
set_option linter.unusedVariables false
theorem own : ownKnob Try.prog.godebug = none := by kernel_rfl
theorem laidOut : laidOutB Try.prog = true := by kernel_rfl
set_option maxRecDepth 100000 in
theorem lifted (os : Os) (started : os.Started) (H : Type) (enc : TypeId × Value → H) :
    ReturnsInHanded {} Try.checked os 7 .any (Rows.fnExactWheelDropSpec.pre6 enc Try.prog Try.f7 Rows.fnExactWheelDropRow.domain false) (Rows.fnExactWheelDropSpec.post enc Try.prog Try.f7 false true false false) := by
  refine returnsInHanded_of_change_sized (C := Try.checked) own started (by kernel_rfl) Try.func7
    (ChangeSpec.witness6 (enc := enc) (C := Try.checked) false ⟨#[], #[.agg #[.int .i64 0, .slice none 0 0, .slice none 0 0], .int .i64 0], []⟩ 8 (by kernel_rfl) (by kernel_rfl) (by kernel_rfl) (by kernel_rfl)) ?_
  intro W base args ds gs before hval0 hW hcnd hsz0 _
  have hsz : (DataW.weightsEach Try.prog (Try.f7.params.toList ++ Rows.fnExactWheelDropSpec.plain.varTypes Try.prog) (ds ++ gs)).all (· ≤ reachBytes) = true := hsz0
  have hval : ∀ (j : Nat) t v, Try.f7.params[j]? = some t → args[j]? = some v → Value.okWide Try.prog W .any base t v := hval0
  have hW' := hW
  obtain ⟨p, q, hA0, hV, rfl, hfz, hnd⟩ := hW
  have hA : DataW.TrodAll enc Try.prog W 0 (fun _ => true) true Try.f7.params.toList args.toList ds p := hA0
  rw [Try.params7] at hA hval hsz
  obtain ⟨v0, vs0, d0, ds0, p0, q0, hargs, rfl, rfl, h0, r0⟩ := trodAll_cons hA
  obtain ⟨v1, vs1, d1, ds1, p1, q1, rfl, rfl, rfl, h1, r1⟩ := trodAll_cons r0
  obtain ⟨rfl, rfl, rfl⟩ := trodAll_nil r1
  obtain rfl : args = #[v0, v1] := by cases args; simp_all
  obtain ⟨rfl, rfl⟩ := trodVars_none hV
  have k0 := h0
  have lt0 : ∀ x ∈ p0, x.block < W.heap.size := by obtain ⟨m, hm⟩ := k0; exact DataW.trod_lt m _ _ _ hm
  have tk0 : Takes enc Try.prog W 39 (Kd.pair (Kd.int .i64) (Kd.pair (Kd.slice 37 (Kd.slice 150 k150)) (Kd.slice 150 k150))) _ := take_struct Try.underlying39 (by kernel_rfl) (takeF_cons rfl (take_int Try.underlying2 (by kernel_rfl)) (takeF_cons rfl (take_slice (B := 24) Try.underlying36 (by kernel_rfl) (by kernel_rfl) (take_slice (B := 16) Try.underlying37 (by kernel_rfl) (by kernel_rfl) take_150)) (takeF_one rfl (take_slice (B := 16) Try.underlying37 (by kernel_rfl) (by kernel_rfl) take_150))))
  obtain ⟨cs0, ⟨a0_0, l0_1, l0_2⟩, rfl, hK0, ⟨g0_0, ⟨y0_1, g0_1⟩, ⟨y0_2, g0_2⟩⟩⟩ := arg_struct Try.underlying39 tk0 (hval 0 39 v0 rfl rfl) h0 (small_of hsz (j := 0) (t := 39) rfl rfl)
  obtain ⟨_, _, rfl, rfl, ⟨_, _, rfl, ⟨A0_1, c0_1, rfl, hc0_1, hr0_1⟩, ⟨A0_2, c0_2, rfl, hc0_2, hr0_2⟩⟩⟩ := hK0
  have k1 := h1
  have lt1 : ∀ x ∈ p1, x.block < W.heap.size := by obtain ⟨m, hm⟩ := k1; exact DataW.trod_lt m _ _ _ hm
  obtain ⟨a1, rfl, g1⟩ := arg_int Try.underlying2 (hval 1 2 v1 rfl rfl) h1
  clear hA0 hval0 hsz0 hsz
  obtain ⟨k, hp⟩ := Pure.FnExactWheelDrop a0_0 l0_1 l0_2 a1 g0_0 y0_1 g0_1 y0_2 g0_2 g1
  refine (laws_FnExactWheelDrop.calls k a0_0 _ _ l0_1 _ _ l0_2 a1 true W hr0_1 hc0_1 hr0_2 hc0_2 hp rfl).mono fun e W' ⟨he, bel0⟩ => ?_
  have bel : Below W.heap.size W W' := bel0
  subst he
  exact ⟨_, rfl, _, _, _, [], _, [], hW', trodAll_mk1 (shut_bool Try.underlying4 _), (trodAll_cons_mk (Below.trod laidOut (by kernel_rfl) (of_decide_eq_true (by kernel_rfl)) k0 bel lt0) (trodAll_cons_mk (Below.trod laidOut (by kernel_rfl) (of_decide_eq_true (by kernel_rfl)) k1 bel lt1) trodAll_mk0)), rfl, bel.frame _, fun h => by cases h⟩
theorem over : Rows.fnExactWheelDropRow.holds Try.pinned (OpenSpec.ofChange Rows.fnExactWheelDropSpec) :=
  OpenClaim.holds_of_wide 7 Try.f7 rfl rfl rfl rfl rfl rfl rfl ⟨rfl, rfl, rfl, rfl, rfl⟩ rfl rfl rfl rfl rfl (by kernel_rfl) Try.func7 (by kernel_rfl)
    (of_decide_eq_true (by kernel_rfl)) (by unfold Func.isWrapper; first | (rw [if_pos (by decide +kernel)]; kernel_rfl) | (rw [if_neg (by decide +kernel)]; exact ⟨rfl, rfl⟩))
    (fun os started H enc _ => lifted os started H enc)
theorem proved : Rows.FnExactWheelDropSaid := over
end Go.Proofs.Ytenlceojmjkbkaa.fnExactWheelDrop
namespace Go.Proofs.Ytenlceojmjkbkaa
/-- The row, under a short name, for the claim. -/
theorem fnExactWheelDrop_holds : Rows.FnExactWheelDropSaid := fnExactWheelDrop.proved
#print axioms fnExactWheelDrop_holds
end Go.Proofs.Ytenlceojmjkbkaa
