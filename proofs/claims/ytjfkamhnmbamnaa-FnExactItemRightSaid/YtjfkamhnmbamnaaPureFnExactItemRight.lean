/- ItemRight answers as the reference does, for every Item. Conditions: none beyond the statement's own bounds. -/
import Derived.Test.YtjfkamhnmbamnaaBridgeFnExactItemRight
namespace Go.Proofs.Ytjfkamhnmbamnaa.Pure
open Go.RowKit Go.Proofs.Ytjfkamhnmbamnaa.PFnExactItemRight Go.Proofs.Ytjfkamhnmbamnaa.BridgeFnExactItemRight Go.Proofs.YtjfkamhnmbamnaaW.PrintWords Go.Proofs.YtjfkamhnmbamnaaW.PrintLast

theorem in_eq (a b c : Int) : impl_in.f a b c = some (decide (b ≤ a ∧ a ≤ c)) := by
  unfold impl_in.f
  by_cases h : b ≤ a <;> simp [h]

theorem isId_eq (a : Int) : impl_isId.f a = some (decide (1 ≤ a ∧ a ≤ 1000000)) := by simp [impl_isId.f, in_eq]
theorem isWant_eq (a : Int) : impl_isWant.f a = some (decide (0 ≤ a ∧ a ≤ 1125899906842624)) := by simp [impl_isWant.f, in_eq]
theorem l02Id_eq (a : Int) : spec_l02Id.f a = some (decide (1 ≤ a ∧ a ≤ 1000000)) := by
  unfold spec_l02Id.f
  by_cases h : a ≥ 1
  · rw [if_pos h]; simp; omega
  · rw [if_neg h]; simp; omega
theorem l02Want_eq (a : Int) : spec_l02Want.f a = some (decide (0 ≤ a ∧ a ≤ 1125899906842624)) := by
  unfold spec_l02Want.f
  by_cases h : a ≥ 0
  · rw [if_pos h]; simp; omega
  · rw [if_neg h]; simp; omega

theorem isWeight_eq (a : Int) : impl_isWeight.f a = some (decide (1 ≤ a ∧ a ≤ 1073741824)) := by simp [impl_isWeight.f, in_eq]
theorem l02Weight_eq (a : Int) : spec_l02Weight.f a = some (decide (1 ≤ a ∧ a ≤ 1073741824)) := by
  unfold spec_l02Weight.f
  by_cases h : a ≥ 1
  · rw [if_pos h]; simp; omega
  · rw [if_neg h]; simp; omega

/-- A right Item. -/
def okItem (a b c : Int) : Bool := decide (1 ≤ a ∧ a ≤ 1000000) && (decide (0 ≤ b ∧ b ≤ 1125899906842624) && decide (1 ≤ c ∧ c ≤ 1073741824))
theorem spec_item_eq (a b c : Int) : spec_ItemRight.f a b c = some (okItem a b c) := by
  unfold spec_ItemRight.f okItem
  rw [l02Id_eq, l02Want_eq, l02Weight_eq]
  by_cases h1 : 1 ≤ a ∧ a ≤ 1000000 <;> by_cases h2 : 0 ≤ b ∧ b ≤ 1125899906842624 <;> simp [h1, h2]
theorem impl_item_eq (a b c : Int) : impl_ItemRight.f a b c = some (okItem a b c) := by
  unfold impl_ItemRight.f okItem
  rw [isId_eq, isWant_eq, isWeight_eq]
  by_cases h1 : 1 ≤ a ∧ a ≤ 1000000 <;> by_cases h2 : 0 ≤ b ∧ b ≤ 1125899906842624 <;> simp [h1, h2]

theorem FnExactItemRight : BridgeFnExactItemRight.Pure := by
  intro a b c _ _ _
  unfold laws_FnExactItemRight.f
  simp [laws_toItem.f, spec_item_eq, impl_item_eq]

end Go.Proofs.Ytjfkamhnmbamnaa.Pure
