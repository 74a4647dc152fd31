/- WheelNew answers as the reference does, for every number; its answer owns its memory. Conditions: none beyond the statement's own bounds. -/
import Derived.Test.YtnekamdopfielaaXFnExactWheelNewx4
namespace Go.Proofs.Ytnekamdopfielaa.Pure
open Go.RowKit Go.Proofs.Ytnekamdopfielaa.XFnExactWheelNew Go.Proofs.YtnekamdopfielaaW.PrintWords Go.Proofs.YtnekamdopfielaaW.PrintLast
set_option maxRecDepth 100000
def nears : List (List S134) := List.replicate 16 []
theorem eq_full (a : Int) : laws_eqWheel.f 60 a nears [] a nears [] = some true := by
  unfold laws_eqWheel.f
  rw [if_pos rfl, show laws_eqTimerSS.f 60 nears nears = some true from by kernel_rfl]
  rfl
theorem eq_none (a : Int) : laws_eqWheel.f 60 a [] [] a [] [] = some true := by
  unfold laws_eqWheel.f
  rw [if_pos rfl]
  rfl
theorem mark_full (a : Int) : laws_markWheel.f 60 a nears [] 1 = some (1, []) := by kernel_rfl
theorem mark_none (a : Int) : laws_markWheel.f 60 a [] [] 1 = some (1, []) := by kernel_rfl
theorem held_full (a : Int) : laws_heldWheel.f 60 a nears [] 1 = some 1 := by kernel_rfl
theorem held_none (a : Int) : laws_heldWheel.f 60 a [] [] 1 = some 1 := by kernel_rfl
theorem spec_new (a : Int) : spec_WheelNew.f a = some (if 0 ≤ a ∧ a ≤ 1000000 then (a, nears, []) else (0, [], [])) := by
  unfold spec_WheelNew.f spec_l07Time.f nears
  by_cases h0 : a ≥ 0
  · rw [if_pos h0]
    by_cases h1 : a ≤ 1000000
    · simp [h1, h0]
    · simp [h1]
  · rw [if_neg h0]
    simp [show ¬ 0 ≤ a from h0]
theorem impl_new (a : Int) : impl_WheelNew.f a = some (if 0 ≤ a ∧ a ≤ 1000000 then (a, nears, []) else (0, [], [])) := by
  unfold impl_WheelNew.f impl_isTime.f impl_in.f nears
  by_cases h0 : 0 ≤ a
  · rw [if_pos h0]
    by_cases h1 : a ≤ 1000000
    · simp [h1, h0]
    · simp [h1]
  · rw [if_neg h0]
    simp [h0]
theorem FnExactWheelNew : laws_FnExactWheelNew.Pure := by
  intro a _
  refine ⟨60, ?_⟩
  unfold laws_FnExactWheelNew.f
  rw [spec_new, impl_new]
  by_cases h : 0 ≤ a ∧ a ≤ 1000000
  · simp only [Option.bind_some, h, and_self, if_true, eq_full, mark_full, held_full]
    rfl
  · simp only [Option.bind_some, h, if_false, eq_none, mark_none, held_none]
    rfl
end Go.Proofs.Ytnekamdopfielaa.Pure
