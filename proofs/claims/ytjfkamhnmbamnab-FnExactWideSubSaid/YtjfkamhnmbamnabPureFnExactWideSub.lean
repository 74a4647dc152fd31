/- WideSub answers as the reference does, for every two wide numbers. Conditions: none beyond the statement's own bounds. -/
import Derived.Test.YtjfkamhnmbamnabBridgeFnExactWideSub
namespace Go.Proofs.Ytjfkamhnmbamnab.Pure
open Go.RowKit Go.Proofs.Ytjfkamhnmbamnab.XFnExactWideSub Go.Proofs.Ytjfkamhnmbamnab.BridgeFnExactWideSub Go.Proofs.YtjfkamhnmbamnabW.PrintWords Go.Proofs.YtjfkamhnmbamnabW.PrintLast Go.Proofs.YtjfkamhnmbamnabW.PrintMore
set_option linter.unusedVariables false
set_option linter.unusedSimpArgs false

theorem wrap_small {x : Int} (h0 : -9223372036854775808 ≤ x) (h1 : x ≤ 9223372036854775807) : wrap64 x = x := by
  unfold wrap64
  omega
theorem i64_range {x : Int} (h : (Lit.int .i64 x).wf = true) : -9223372036854775808 ≤ x ∧ x ≤ 9223372036854775807 := by
  simp [Lit.wf, IntKind.min, IntKind.max, IntKind.bits, IntKind.signed] at h
  omega
theorem u64_range {x : Int} (h : (Lit.int .u64 x).wf = true) : 0 ≤ x ∧ x < 18446744073709551616 := by
  simp [Lit.wf, IntKind.min, IntKind.max, IntKind.bits, IntKind.signed] at h
  omega

theorem w64 (x : Int) : IntKind.u64.wrap x = x % 18446744073709551616 := by simp [IntKind.wrap, IntKind.bits, IntKind.signed]
/-- The two words of a wide number's value. -/
def hiW (v : Int) : Int := v / 18446744073709551616
def loW (v : Int) : Int := v % 18446744073709551616
theorem hi_of (a b : Int) (h0 : 0 ≤ b) (h1 : b < 18446744073709551616) : hiW (a * 18446744073709551616 + b) = a := by unfold hiW; omega
theorem lo_of (a b : Int) (h0 : 0 ≤ b) (h1 : b < 18446744073709551616) : loW (a * 18446744073709551616 + b) = b := by unfold loW; omega
theorem val_of (a b : Int) (ha0 : 0 ≤ a) (ha1 : a < 18446744073709551616) (hb0 : 0 ≤ b) (hb1 : b < 18446744073709551616) : 0 ≤ a * 18446744073709551616 + b ∧ a * 18446744073709551616 + b < 340282366920938463463374607431768211456 := by omega
theorem hiW_range (v : Int) (h0 : 0 ≤ v) (h1 : v < 340282366920938463463374607431768211456) : 0 ≤ hiW v ∧ hiW v < 18446744073709551616 := by unfold hiW; omega
theorem loW_range (v : Int) : 0 ≤ loW v ∧ loW v < 18446744073709551616 := by unfold loW; omega
theorem val_eq (v : Int) : hiW v * 18446744073709551616 + loW v = v := by unfold hiW loW; omega
theorem hiW_zero : hiW 0 = 0 := rfl
theorem loW_zero : loW 0 = 0 := rfl
theorem hiW_small (x : Int) (h0 : 0 ≤ x) (h1 : x < 18446744073709551616) : hiW x = 0 := by unfold hiW; omega
theorem loW_small (x : Int) (h0 : 0 ≤ x) (h1 : x < 18446744073709551616) : loW x = x := by unfold loW; omega
theorem emod_le' (b m : Int) (hb : 0 ≤ b) (hm : 0 < m) : b % m ≤ b := by
  have h1 := Int.emod_def b m
  have h2 := Int.mul_nonneg (Int.le_of_lt hm) (Int.ediv_nonneg hb (Int.le_of_lt hm))
  omega
theorem pow_pos' (j : Nat) : (0 : Int) < 2 ^ j := Int.pow_pos (by decide)
theorem emod_pow_succ (b : Int) (j : Nat) (hb : 0 ≤ b) : b % 2 ^ (j + 1) = b % 2 ^ j + 2 ^ j * (b / 2 ^ j % 2) := by
  obtain ⟨n, rfl⟩ := Int.eq_ofNat_of_zero_le hb
  have h := Nat.mod_mul (a := 2 ^ j) (b := 2) (x := n)
  rw [Int.pow_succ]
  exact_mod_cast h
theorem emod_mul_left (a b m : Int) : (a % m * b) % m = (a * b) % m := by rw [Int.mul_emod, Int.emod_emod, ← Int.mul_emod]

/-- -1, 0, 1. -/
def cmpInt (x y : Int) : Int := if x < y then -1 else if y < x then 1 else 0
theorem spec_cmp_eq (v u : Int) : spec_WideCmp.f (hiW v) (loW v) (hiW u) (loW u) = some (cmpInt v u) := by
  have r1 := loW_range v
  have r2 := loW_range u
  have e1 := val_eq v
  have e2 := val_eq u
  unfold spec_WideCmp.f cmpInt
  generalize hiW v = a at *
  generalize loW v = b at *
  generalize hiW u = c at *
  generalize loW u = d at *
  (repeat' split) <;> first | rfl | (exfalso; omega)

theorem spec_sub_eq (v u : Int) (hv0 : 0 ≤ v) (hv1 : v < 340282366920938463463374607431768211456) (hu0 : 0 ≤ u) (hu1 : u < 340282366920938463463374607431768211456) : spec_WideSub.f (hiW v) (loW v) (hiW u) (loW u) = some (hiW ((v - u) % 340282366920938463463374607431768211456), loW ((v - u) % 340282366920938463463374607431768211456), decide (v < u), 0) := by
  have ra := hiW_range v hv0 hv1
  have rb := loW_range v
  have rc := hiW_range u hu0 hu1
  have rd := loW_range u
  unfold spec_WideSub.f
  rw [spec_cmp_eq]
  simp only [Option.bind_some, w64]
  have hc : decide (cmpInt v u < 0) = decide (v < u) := by
    unfold cmpInt
    (repeat' split) <;> simp <;> omega
  rw [hc]
  unfold hiW loW at *
  by_cases h : v % 18446744073709551616 < u % 18446744073709551616
  · rw [if_pos h]
    simp only [Option.some.injEq, Prod.mk.injEq]
    exact ⟨by omega, by omega, by simp⟩
  · rw [if_neg h]
    simp only [Option.some.injEq, Prod.mk.injEq]
    exact ⟨by omega, by omega, by simp⟩
theorem impl_sub_eq (v u : Int) (hv0 : 0 ≤ v) (hv1 : v < 340282366920938463463374607431768211456) (hu0 : 0 ≤ u) (hu1 : u < 340282366920938463463374607431768211456) : impl_WideSub.f (hiW v) (loW v) (hiW u) (loW u) = some (hiW ((v - u) % 340282366920938463463374607431768211456), loW ((v - u) % 340282366920938463463374607431768211456), decide (v < u), 0) := by
  have ra := hiW_range v hv0 hv1
  have rb := loW_range v
  have rc := hiW_range u hu0 hu1
  have rd := loW_range u
  unfold impl_WideSub.f bits_Sub64.f HandX.sub64
  rw [if_pos (by omega)]
  simp only [Option.bind_some]
  have hb : (if loW v < loW u + 0 then (1 : Int) else 0) = if loW v < loW u then 1 else 0 := by simp
  rw [hb]
  by_cases c1 : loW v < loW u
  · rw [if_pos c1, if_pos (by omega)]
    simp only [Option.bind_some, Option.some.injEq, Prod.mk.injEq]
    unfold hiW loW at *
    refine ⟨by omega, by omega, ?_, trivial⟩
    by_cases h : v < u
    · rw [if_pos (by omega), decide_eq_true h]; rfl
    · rw [if_neg (by omega), decide_eq_false h]; rfl
  · rw [if_neg c1, if_pos (by omega)]
    simp only [Option.bind_some, Option.some.injEq, Prod.mk.injEq]
    unfold hiW loW at *
    refine ⟨by omega, by omega, ?_, trivial⟩
    by_cases h : v < u
    · rw [if_pos (by omega), decide_eq_true h]; rfl
    · rw [if_neg (by omega), decide_eq_false h]; rfl

theorem FnExactWideSub : BridgeFnExactWideSub.Pure := by
  intro a b c d ha hb hc hd
  obtain ⟨ha0, ha1⟩ := u64_range ha
  obtain ⟨hb0, hb1⟩ := u64_range hb
  obtain ⟨hc0, hc1⟩ := u64_range hc
  obtain ⟨hd0, hd1⟩ := u64_range hd
  have hv := val_of a b ha0 ha1 hb0 hb1
  have hu := val_of c d hc0 hc1 hd0 hd1
  have h1 := spec_sub_eq (a * 18446744073709551616 + b) (c * 18446744073709551616 + d) hv.1 hv.2 hu.1 hu.2
  have h2 := impl_sub_eq (a * 18446744073709551616 + b) (c * 18446744073709551616 + d) hv.1 hv.2 hu.1 hu.2
  rw [hi_of a b hb0 hb1, lo_of a b hb0 hb1, hi_of c d hd0 hd1, lo_of c d hd0 hd1] at h1 h2
  simp only [laws_FnExactWideSub.f, laws_toWide.f, Option.bind_some]
  rw [h1, h2]
  simp [laws_eqWideOut.f, laws_eqWide.f]

end Go.Proofs.Ytjfkamhnmbamnab.Pure
