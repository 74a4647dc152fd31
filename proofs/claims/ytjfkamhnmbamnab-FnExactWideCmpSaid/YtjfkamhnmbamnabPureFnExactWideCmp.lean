/- WideCmp answers as the reference does, for every two wide numbers. Conditions: none beyond the statement's own bounds. -/
import Derived.Test.YtjfkamhnmbamnabBridgeFnExactWideCmp
namespace Go.Proofs.Ytjfkamhnmbamnab.Pure
open Go.RowKit Go.Proofs.Ytjfkamhnmbamnab.PFnExactWideCmp Go.Proofs.Ytjfkamhnmbamnab.BridgeFnExactWideCmp Go.Proofs.YtjfkamhnmbamnabW.PrintWords Go.Proofs.YtjfkamhnmbamnabW.PrintLast Go.Proofs.YtjfkamhnmbamnabW.PrintMore
set_option linter.unusedVariables false
set_option linter.unusedSimpArgs false

theorem wrap_small {x : Int} (h0 : -9223372036854775808 ≤ x) (h1 : x ≤ 9223372036854775807) : wrap64 x = x := by
  unfold wrap64
  omega
theorem i64_range {x : Int} (h : (Lit.int .i64 x).wf = true) : -9223372036854775808 ≤ x ∧ x ≤ 9223372036854775807 := by
  simp [Lit.wf, IntKind.min, IntKind.max, IntKind.bits, IntKind.signed] at h
  omega
theorem u64_range {x : Int} (h : (Lit.int .u64 x).wf = true) : 0 ≤ x ∧ x < 18446744073709551616 := by
  simp [Lit.wf, IntKind.min, IntKind.max, IntKind.bits, IntKind.signed] at h
  omega

theorem w64 (x : Int) : IntKind.u64.wrap x = x % 18446744073709551616 := by simp [IntKind.wrap, IntKind.bits, IntKind.signed]
/-- The two words of a wide number's value. -/
def hiW (v : Int) : Int := v / 18446744073709551616
def loW (v : Int) : Int := v % 18446744073709551616
theorem hi_of (a b : Int) (h0 : 0 ≤ b) (h1 : b < 18446744073709551616) : hiW (a * 18446744073709551616 + b) = a := by unfold hiW; omega
theorem lo_of (a b : Int) (h0 : 0 ≤ b) (h1 : b < 18446744073709551616) : loW (a * 18446744073709551616 + b) = b := by unfold loW; omega
theorem val_of (a b : Int) (ha0 : 0 ≤ a) (ha1 : a < 18446744073709551616) (hb0 : 0 ≤ b) (hb1 : b < 18446744073709551616) : 0 ≤ a * 18446744073709551616 + b ∧ a * 18446744073709551616 + b < 340282366920938463463374607431768211456 := by omega
theorem hiW_range (v : Int) (h0 : 0 ≤ v) (h1 : v < 340282366920938463463374607431768211456) : 0 ≤ hiW v ∧ hiW v < 18446744073709551616 := by unfold hiW; omega
theorem loW_range (v : Int) : 0 ≤ loW v ∧ loW v < 18446744073709551616 := by unfold loW; omega
theorem val_eq (v : Int) : hiW v * 18446744073709551616 + loW v = v := by unfold hiW loW; omega
theorem hiW_zero : hiW 0 = 0 := rfl
theorem loW_zero : loW 0 = 0 := rfl
theorem hiW_small (x : Int) (h0 : 0 ≤ x) (h1 : x < 18446744073709551616) : hiW x = 0 := by unfold hiW; omega
theorem loW_small (x : Int) (h0 : 0 ≤ x) (h1 : x < 18446744073709551616) : loW x = x := by unfold loW; omega
theorem emod_le' (b m : Int) (hb : 0 ≤ b) (hm : 0 < m) : b % m ≤ b := by
  have h1 := Int.emod_def b m
  have h2 := Int.mul_nonneg (Int.le_of_lt hm) (Int.ediv_nonneg hb (Int.le_of_lt hm))
  omega
theorem pow_pos' (j : Nat) : (0 : Int) < 2 ^ j := Int.pow_pos (by decide)
theorem emod_pow_succ (b : Int) (j : Nat) (hb : 0 ≤ b) : b % 2 ^ (j + 1) = b % 2 ^ j + 2 ^ j * (b / 2 ^ j % 2) := by
  obtain ⟨n, rfl⟩ := Int.eq_ofNat_of_zero_le hb
  have h := Nat.mod_mul (a := 2 ^ j) (b := 2) (x := n)
  rw [Int.pow_succ]
  exact_mod_cast h
theorem emod_mul_left (a b m : Int) : (a % m * b) % m = (a * b) % m := by rw [Int.mul_emod, Int.emod_emod, ← Int.mul_emod]

/-- -1, 0, 1. -/
def cmpInt (x y : Int) : Int := if x < y then -1 else if y < x then 1 else 0
theorem spec_cmp_eq (v u : Int) : spec_WideCmp.f (hiW v) (loW v) (hiW u) (loW u) = some (cmpInt v u) := by
  have r1 := loW_range v
  have r2 := loW_range u
  have e1 := val_eq v
  have e2 := val_eq u
  unfold spec_WideCmp.f cmpInt
  generalize hiW v = a at *
  generalize loW v = b at *
  generalize hiW u = c at *
  generalize loW u = d at *
  (repeat' split) <;> first | rfl | (exfalso; omega)

theorem or_eq (x y : Int) (k : Nat) (hk : 3 < k) : cmp_Or_int.f k ([x, y] : List Int) = some (if x = 0 then y else x) := by
  obtain ⟨k, rfl⟩ : ∃ m, k = m + 4 := ⟨k - 4, by omega⟩
  unfold cmp_Or_int.f
  by_cases hx : x = 0
  · by_cases hy : y = 0
    · simp [cmp_Or_int.l0, rd, wrap64, hx, hy]
    · simp [cmp_Or_int.l0, rd, wrap64, hx, hy]
  · simp [cmp_Or_int.l0, rd, wrap64, hx]
theorem cmpu_eq (x y : Int) : cmp_Compare_uint64.f x y = some (cmpInt x y) := by
  unfold cmp_Compare_uint64.f cmpInt
  by_cases h1 : x < y
  · simp [cmp_isNaN_uint64.f, h1]
  · by_cases h2 : y < x
    · simp [cmp_isNaN_uint64.f, h1, h2]
    · simp [cmp_isNaN_uint64.f, h1, h2]
theorem impl_cmp_eq (v u : Int) (k : Nat) (hk : 3 < k) : impl_WideCmp.f k (hiW v) (loW v) (hiW u) (loW u) = some (cmpInt v u) := by
  unfold impl_WideCmp.f
  rw [cmpu_eq, cmpu_eq]
  simp only [Option.bind_some]
  rw [or_eq _ _ k hk]
  have r1 := loW_range v
  have r2 := loW_range u
  have e1 := val_eq v
  have e2 := val_eq u
  unfold cmpInt
  generalize hiW v = a at *
  generalize loW v = b at *
  generalize hiW u = c at *
  generalize loW u = d at *
  simp only [Option.bind_some, Option.some.injEq]
  (repeat' split) <;> first | rfl | (exfalso; omega)

theorem FnExactWideCmp : BridgeFnExactWideCmp.Pure := by
  intro a b c d ha hb hc hd
  obtain ⟨hb0, hb1⟩ := u64_range hb
  obtain ⟨hd0, hd1⟩ := u64_range hd
  refine ⟨4, ?_⟩
  have h1 := spec_cmp_eq (a * 18446744073709551616 + b) (c * 18446744073709551616 + d)
  have h2 := impl_cmp_eq (a * 18446744073709551616 + b) (c * 18446744073709551616 + d) 4 (by omega)
  rw [hi_of a b hb0 hb1, lo_of a b hb0 hb1, hi_of c d hd0 hd1, lo_of c d hd0 hd1] at h1 h2
  simp [laws_FnExactWideCmp.f, laws_toWide.f, h1, h2]

end Go.Proofs.Ytjfkamhnmbamnab.Pure
