/- EditRight answers as the reference does, for every Edit. Conditions: none beyond the statement's own bounds. -/
import Derived.Test.YtjfkamhnmbamnabBridgeFnExactEditRight
namespace Go.Proofs.Ytjfkamhnmbamnab.Pure
open Go.RowKit Go.Proofs.Ytjfkamhnmbamnab.XFnExactEditRight Go.Proofs.Ytjfkamhnmbamnab.BridgeFnExactEditRight Go.Proofs.YtjfkamhnmbamnabW.PrintWords Go.Proofs.YtjfkamhnmbamnabW.PrintLast Go.Proofs.YtjfkamhnmbamnabW.PrintMore
set_option linter.unusedVariables false
set_option linter.unusedSimpArgs false

theorem in_eq (a b c : Int) : impl_in.f a b c = some (decide (b ≤ a ∧ a ≤ c)) := by
  unfold impl_in.f
  by_cases h : b ≤ a <;> simp [h]

theorem isId_eq (a : Int) : impl_isId.f a = some (decide (1 ≤ a ∧ a ≤ 1000000)) := by simp [impl_isId.f, in_eq]
theorem isWant_eq (a : Int) : impl_isWant.f a = some (decide (0 ≤ a ∧ a ≤ 1125899906842624)) := by simp [impl_isWant.f, in_eq]
theorem l02Id_eq (a : Int) : spec_l02Id.f a = some (decide (1 ≤ a ∧ a ≤ 1000000)) := by
  unfold spec_l02Id.f
  by_cases h : a ≥ 1
  · rw [if_pos h]; simp; omega
  · rw [if_neg h]; simp; omega
theorem l02Want_eq (a : Int) : spec_l02Want.f a = some (decide (0 ≤ a ∧ a ≤ 1125899906842624)) := by
  unfold spec_l02Want.f
  by_cases h : a ≥ 0
  · rw [if_pos h]; simp; omega
  · rw [if_neg h]; simp; omega

theorem isWeight_eq (a : Int) : impl_isWeight.f a = some (decide (1 ≤ a ∧ a ≤ 1073741824)) := by simp [impl_isWeight.f, in_eq]
theorem l02Weight_eq (a : Int) : spec_l02Weight.f a = some (decide (1 ≤ a ∧ a ≤ 1073741824)) := by
  unfold spec_l02Weight.f
  by_cases h : a ≥ 1
  · rw [if_pos h]; simp; omega
  · rw [if_neg h]; simp; omega

theorem FnExactEditRight : BridgeFnExactEditRight.Pure := by
  intro kd id gr a b _ _ _ _ _
  refine ⟨10, ?_⟩
  simp only [laws_FnExactEditRight.f, laws_toEdit.f, Option.bind_some, spec_EditRight.f, impl_EditRight.f, l02Id_eq, isId_eq]
  generalize hI : decide (1 ≤ id ∧ id ≤ 1000000) = I
  generalize hG : decide (1 ≤ gr ∧ gr ≤ 1000000) = G
  generalize hA : decide (0 ≤ a ∧ a ≤ 1125899906842624) = A1
  have hA' : decide (0 ≤ a ∧ a ≤ 1125899906842624) = A1 := hA
  simp only [spec_EditRight.j0, spec_EditRight.j1, spec_EditRight.j2, spec_EditRight.j3, impl_EditRight.j0, impl_EditRight.j1, impl_EditRight.j2, l02Want_eq, l02Weight_eq, isWant_eq, isWeight_eq, isId_eq, hI, hG, hA]
  by_cases k1 : kd = 1
  · subst k1; cases I <;> by_cases g0 : gr = 0 <;> cases G <;> cases A1 <;> simp [g0]
  by_cases k6 : kd = 6
  · subst k6; cases I <;> by_cases g0 : gr = 0 <;> cases G <;> cases A1 <;> simp [g0]
  by_cases k2 : kd = 2
  · subst k2; cases I <;> by_cases g0 : gr = 0 <;> cases G <;> by_cases a0 : a = 0 <;> simp [g0, a0]
  by_cases k7 : kd = 7
  · subst k7; cases I <;> by_cases g0 : gr = 0 <;> cases G <;> by_cases a0 : a = 0 <;> simp [g0, a0]
  by_cases k3 : kd = 3
  · subst k3; cases I <;> by_cases g0 : gr = 0 <;> cases G <;> cases A1 <;> simp [g0]
  by_cases k8 : kd = 8
  · subst k8; cases I <;> by_cases i0 : id = 0 <;> by_cases g0 : gr = 0 <;> cases G <;> cases A1 <;> simp [g0, i0]
  by_cases k4 : kd = 4
  · subst k4; cases I <;> by_cases g0 : gr = 0 <;> cases G <;> by_cases w : 1 ≤ a ∧ a ≤ 1073741824 <;> simp [g0, w]
  by_cases k5 : kd = 5
  · subst k5; cases I <;> by_cases g0 : gr = 0 <;> cases G <;> by_cases a0 : a = 0 <;> simp [g0, a0]
  · cases I <;> by_cases g0 : gr = 0 <;> cases G <;> simp [g0, k1, k2, k3, k4, k5, k6, k7, k8]

end Go.Proofs.Ytjfkamhnmbamnab.Pure
