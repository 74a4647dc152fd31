/- The row of FnExactWideBits, out of its pure statement. -/
import Derived.Test.YtjfkamhnmbamnaaBridgeFnExactWideBits
import Derived.Test.YtjfkamhnmbamnaaPureFnExactWideBits
namespace Go.Proofs.Ytjfkamhnmbamnaa.fnExactWideBits
open Go.ChangeShapes Go.WideShapes Go.ChangeAt Go.RowKit Go.Proofs.Ytjfkamhnmbamnaa.XFnExactWideBits Go.Proofs.Ytjfkamhnmbamnaa.Take Go.Proofs.YtjfkamhnmbamnaaW.PrintWords Go.Proofs.Ytjfkamhnmbamnaa.BridgeFnExactWideBits
set_option linter.unusedVariables false
theorem own : ownKnob Try.prog.godebug = none := by kernel_rfl
theorem laidOut : laidOutB Try.prog = true := by kernel_rfl
set_option maxRecDepth 100000 in
theorem lifted (os : Os) (started : os.Started) (H : Type) (enc : TypeId × Value → H) :
    ReturnsInHanded {} Try.checked os 7 .any (Rows.fnExactWideBitsSpec.pre6 enc Try.prog Try.f7 Rows.fnExactWideBitsRow.domain false) (Rows.fnExactWideBitsSpec.post enc Try.prog Try.f7 false true false false) := by
  refine returnsInHanded_of_change_sized (C := Try.checked) own started (by kernel_rfl) Try.func7
    (ChangeSpec.witness6 (enc := enc) (C := Try.checked) false ⟨#[], #[.agg #[.int .u64 0, .int .u64 0]], []⟩ 8 (by kernel_rfl) (by kernel_rfl) (by kernel_rfl) (by kernel_rfl)) ?_
  intro W base args ds gs before hval0 hW hcnd hsz0 _
  have hsz : (DataW.weightsEach Try.prog (Try.f7.params.toList ++ Rows.fnExactWideBitsSpec.plain.varTypes Try.prog) (ds ++ gs)).all (· ≤ reachBytes) = true := hsz0
  have hval : ∀ (j : Nat) t v, Try.f7.params[j]? = some t → args[j]? = some v → Value.okWide Try.prog W .any base t v := hval0
  have hW' := hW
  obtain ⟨p, q, hA0, hV, rfl, hfz, hnd⟩ := hW
  have hA : DataW.TrodAll enc Try.prog W 0 (fun _ => true) true Try.f7.params.toList args.toList ds p := hA0
  rw [Try.params7] at hA hval hsz
  obtain ⟨v0, vs0, d0, ds0, p0, q0, hargs, rfl, rfl, h0, r0⟩ := trodAll_cons hA
  obtain ⟨rfl, rfl, rfl⟩ := trodAll_nil r0
  obtain rfl : args = #[v0] := by cases args; simp_all
  obtain ⟨rfl, rfl⟩ := trodVars_none hV
  have k0 := h0
  have lt0 : ∀ x ∈ p0, x.block < W.heap.size := by obtain ⟨m, hm⟩ := k0; exact DataW.trod_lt m _ _ _ hm
  have tk0 : Takes enc Try.prog W 31 (Kd.pair (Kd.int .u64) (Kd.int .u64)) _ := take_struct Try.underlying31 (by kernel_rfl) (takeF_cons rfl (take_int Try.underlying29 (by kernel_rfl)) (takeF_one rfl (take_int Try.underlying29 (by kernel_rfl))))
  obtain ⟨cs0, ⟨a0_0, a0_1⟩, rfl, hK0, ⟨g0_0, g0_1⟩⟩ := arg_struct Try.underlying31 tk0 (hval 0 31 v0 rfl rfl) h0 (small_of hsz (j := 0) (t := 31) rfl rfl)
  obtain ⟨_, _, rfl, rfl, rfl⟩ := hK0
  clear hA0 hval0 hsz0 hsz
  obtain ⟨k, hp⟩ := Pure.FnExactWideBits a0_0 a0_1 g0_0 g0_1
  refine (laws_FnExactWideBits.calls k a0_0 a0_1 true W  hp).mono fun e W' ⟨he, bel0⟩ => ?_
  have bel : Below W.heap.size W W' := bel0
  subst he
  exact ⟨_, rfl, _, _, _, [], _, [], hW', trodAll_mk1 (shut_bool Try.underlying4 _), (trodAll_cons_mk (Below.trod laidOut (by kernel_rfl) (of_decide_eq_true (by kernel_rfl)) k0 bel lt0) trodAll_mk0), rfl, bel.frame _, fun h => by cases h⟩
theorem over : Rows.fnExactWideBitsRow.holds Try.pinned (OpenSpec.ofChange Rows.fnExactWideBitsSpec) :=
  OpenClaim.holds_of_wide 7 Try.f7 rfl rfl rfl rfl rfl rfl rfl ⟨rfl, rfl, rfl, rfl, rfl⟩ rfl rfl rfl rfl rfl (by kernel_rfl) Try.func7 (by kernel_rfl)
    (of_decide_eq_true (by kernel_rfl)) (by unfold Func.isWrapper; first | (rw [if_pos (by decide +kernel)]; kernel_rfl) | (rw [if_neg (by decide +kernel)]; exact ⟨rfl, rfl⟩))
    (fun os started H enc _ => lifted os started H enc)
theorem proved : Rows.FnExactWideBitsSaid := over
end Go.Proofs.Ytjfkamhnmbamnaa.fnExactWideBits
namespace Go.Proofs.Ytjfkamhnmbamnaa
/-- The row, under a short name, for the claim. -/
theorem fnExactWideBits_holds : Rows.FnExactWideBitsSaid := fnExactWideBits.proved
#print axioms fnExactWideBits_holds
end Go.Proofs.Ytjfkamhnmbamnaa
