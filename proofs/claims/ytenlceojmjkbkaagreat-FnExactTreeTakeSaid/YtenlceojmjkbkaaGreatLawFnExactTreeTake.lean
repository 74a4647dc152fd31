/- The row of FnExactTreeTake, out of its pure statement. -/
import Derived.Test.YtenlceojmjkbkaaGreatBridgeFnExactTreeTake
import Derived.Test.YtenlceojmjkbkaaGreatPureFnExactTreeTake
namespace Go.Proofs.YtenlceojmjkbkaaGreat.fnExactTreeTake
open Go.ChangeShapes Go.WideShapes Go.ChangeAt Go.RowKit Go.Proofs.YtenlceojmjkbkaaGreat.XFnExactTreeTake Go.Proofs.YtenlceojmjkbkaaGreat.Take Go.Proofs.YtenlceojmjkbkaaGreatW.PrintWords Go.Proofs.YtenlceojmjkbkaaGreat.BridgeFnExactTreeTake
set_option linter.unusedVariables false
theorem own : ownKnob Tryz.prog.godebug = none := by kernel_rfl
theorem laidOut : laidOutB Tryz.prog = true := by kernel_rfl
set_option maxRecDepth 100000 in
theorem lifted (os : Os) (started : os.Started) (H : Type) (enc : TypeId × Value → H) :
    ReturnsInHanded {} Tryz.checked os 3 .any (Rows.fnExactTreeTakeSpec.pre6 enc Tryz.prog Tryz.f3 Rows.fnExactTreeTakeRow.domain false) (Rows.fnExactTreeTakeSpec.post enc Tryz.prog Tryz.f3 false true false false) := by
  refine returnsInHanded_of_change_sized (C := Tryz.checked) own started (by kernel_rfl) Tryz.func3
    (ChangeSpec.witness6 (enc := enc) (C := Tryz.checked) false ⟨#[], #[.agg #[.slice none 0 0], .agg #[.int .i64 0, .int .i64 0, .int .i64 0]], []⟩ 8 (by kernel_rfl) (by kernel_rfl) (by kernel_rfl) (by kernel_rfl)) ?_
  intro W base args ds gs before hval0 hW hcnd hsz0 _
  have hsz : (DataW.weightsEach Tryz.prog (Tryz.f3.params.toList ++ Rows.fnExactTreeTakeSpec.plain.varTypes Tryz.prog) (ds ++ gs)).all (· ≤ reachBytes) = true := hsz0
  have hval : ∀ (j : Nat) t v, Tryz.f3.params[j]? = some t → args[j]? = some v → Value.okWide Tryz.prog W .any base t v := hval0
  have hW' := hW
  obtain ⟨p, q, hA0, hV, rfl, hfz, hnd⟩ := hW
  have hA : DataW.TrodAll enc Tryz.prog W 0 (fun _ => true) true Tryz.f3.params.toList args.toList ds p := hA0
  rw [Tryz.params3] at hA hval hsz
  obtain ⟨v0, vs0, d0, ds0, p0, q0, hargs, rfl, rfl, h0, r0⟩ := trodAll_cons hA
  obtain ⟨v1, vs1, d1, ds1, p1, q1, rfl, rfl, rfl, h1, r1⟩ := trodAll_cons r0
  obtain ⟨rfl, rfl, rfl⟩ := trodAll_nil r1
  obtain rfl : args = #[v0, v1] := by cases args; simp_all
  obtain ⟨rfl, rfl⟩ := trodVars_none hV
  have k0 := h0
  have lt0 : ∀ x ∈ p0, x.block < W.heap.size := by obtain ⟨m, hm⟩ := k0; exact DataW.trod_lt m _ _ _ hm
  have tk0 : Takes enc Tryz.prog W 24 (Kd.slice 81 k81) _ := take_struct Tryz.underlying24 (by kernel_rfl) (takeF_one rfl (take_slice (B := 32) Tryz.underlying22 (by kernel_rfl) (by kernel_rfl) take_81))
  obtain ⟨cs0, l0_0, rfl, hK0, ⟨y0_0, g0_0⟩⟩ := arg_struct Tryz.underlying24 tk0 (hval 0 24 v0 rfl rfl) h0 (small_of hsz (j := 0) (t := 24) rfl rfl)
  obtain ⟨A0_0, c0_0, rfl, hc0_0, hr0_0⟩ := hK0
  have k1 := h1
  have lt1 : ∀ x ∈ p1, x.block < W.heap.size := by obtain ⟨m, hm⟩ := k1; exact DataW.trod_lt m _ _ _ hm
  have tk1 : Takes enc Tryz.prog W 26 (Kd.pair (Kd.int .i64) (Kd.pair (Kd.int .i64) (Kd.int .i64))) _ := take_struct Tryz.underlying26 (by kernel_rfl) (takeF_cons rfl (take_int Tryz.underlying2 (by kernel_rfl)) (takeF_cons rfl (take_int Tryz.underlying2 (by kernel_rfl)) (takeF_one rfl (take_int Tryz.underlying2 (by kernel_rfl)))))
  obtain ⟨cs1, ⟨a1_0, a1_1, a1_2⟩, rfl, hK1, ⟨g1_0, g1_1, g1_2⟩⟩ := arg_struct Tryz.underlying26 tk1 (hval 1 26 v1 rfl rfl) h1 (small_of hsz (j := 1) (t := 26) rfl rfl)
  obtain ⟨_, _, rfl, rfl, ⟨_, _, rfl, rfl, rfl⟩⟩ := hK1
  clear hA0 hval0 hsz0 hsz
  obtain ⟨k, hp⟩ := Pure.FnExactTreeTake l0_0 a1_0 a1_1 a1_2 y0_0 g0_0 g1_0 g1_1 g1_2
  refine (laws_FnExactTreeTake.calls k _ _ l0_0 a1_0 a1_1 a1_2 true W hr0_0 hc0_0 hp rfl).mono fun e W' ⟨he, bel0⟩ => ?_
  have bel : Below W.heap.size W W' := bel0
  subst he
  exact ⟨_, rfl, _, _, _, [], _, [], hW', trodAll_mk1 (shut_bool Tryz.underlying4 _), (trodAll_cons_mk (Below.trod laidOut (by kernel_rfl) (of_decide_eq_true (by kernel_rfl)) k0 bel lt0) (trodAll_cons_mk (Below.trod laidOut (by kernel_rfl) (of_decide_eq_true (by kernel_rfl)) k1 bel lt1) trodAll_mk0)), rfl, bel.frame _, fun h => by cases h⟩
theorem over : Rows.fnExactTreeTakeRow.holds Tryz.pinned (OpenSpec.ofChange Rows.fnExactTreeTakeSpec) :=
  OpenClaim.holds_of_wide 3 Tryz.f3 rfl rfl rfl rfl rfl rfl rfl ⟨rfl, rfl, rfl, rfl, rfl⟩ rfl rfl rfl rfl rfl (by kernel_rfl) Tryz.func3 (by kernel_rfl)
    (of_decide_eq_true (by kernel_rfl)) (by unfold Func.isWrapper; first | (rw [if_pos (by decide +kernel)]; kernel_rfl) | (rw [if_neg (by decide +kernel)]; exact ⟨rfl, rfl⟩))
    (fun os started H enc _ => lifted os started H enc)
theorem proved : Rows.FnExactTreeTakeSaid := over
end Go.Proofs.YtenlceojmjkbkaaGreat.fnExactTreeTake
namespace Go.Proofs.YtenlceojmjkbkaaGreat
/-- The row, under a short name, for the claim. -/
theorem fnExactTreeTake_holds : Rows.FnExactTreeTakeSaid := fnExactTreeTake.proved
#print axioms fnExactTreeTake_holds
end Go.Proofs.YtenlceojmjkbkaaGreat
