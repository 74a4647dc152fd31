/- Drawn wide numbers come back by the opposite call. Conditions: none beyond the statement's own bounds. -/
import Derived.Test.YtpgaoihgohlmkaaDoorXFnWidex10
import Derived.Lib.ItoaNum
import Derived.Laws.BytesArg
import Derived.Lib.SlTrimSet
namespace Go.Proofs.YtpgaoihgohlmkaaDoor.Pure
open Go.RowKit Go.Proofs.YtpgaoihgohlmkaaDoor.XFnWide Go.Proofs.YtpgaoihgohlmkaaDoorW.PrintWords Go.Proofs.YtpgaoihgohlmkaaDoorW.PrintLast Go.Proofs.YtpgaoihgohlmkaaDoorW.PrintMore
set_option linter.unusedVariables false
set_option linter.unusedSimpArgs false

theorem wrap_small {x : Int} (h0 : -9223372036854775808 ≤ x) (h1 : x ≤ 9223372036854775807) : wrap64 x = x := by
  unfold wrap64
  omega
theorem i64_range {x : Int} (h : (Lit.int .i64 x).wf = true) : -9223372036854775808 ≤ x ∧ x ≤ 9223372036854775807 := by
  simp [Lit.wf, IntKind.min, IntKind.max, IntKind.bits, IntKind.signed] at h
  omega
theorem u64_range {x : Int} (h : (Lit.int .u64 x).wf = true) : 0 ≤ x ∧ x < 18446744073709551616 := by
  simp [Lit.wf, IntKind.min, IntKind.max, IntKind.bits, IntKind.signed] at h
  omega

theorem in_eq (a b c : Int) : impl_in.f a b c = some (decide (b ≤ a ∧ a ≤ c)) := by
  unfold impl_in.f
  by_cases h : b ≤ a <;> simp [h]

theorem w64 (x : Int) : IntKind.u64.wrap x = x % 18446744073709551616 := by simp [IntKind.wrap, IntKind.bits, IntKind.signed]
/-- The two words of a wide number's value. -/
def hiW (v : Int) : Int := v / 18446744073709551616
def loW (v : Int) : Int := v % 18446744073709551616
theorem hi_of (a b : Int) (h0 : 0 ≤ b) (h1 : b < 18446744073709551616) : hiW (a * 18446744073709551616 + b) = a := by unfold hiW; omega
theorem lo_of (a b : Int) (h0 : 0 ≤ b) (h1 : b < 18446744073709551616) : loW (a * 18446744073709551616 + b) = b := by unfold loW; omega
theorem val_of (a b : Int) (ha0 : 0 ≤ a) (ha1 : a < 18446744073709551616) (hb0 : 0 ≤ b) (hb1 : b < 18446744073709551616) : 0 ≤ a * 18446744073709551616 + b ∧ a * 18446744073709551616 + b < 340282366920938463463374607431768211456 := by omega
theorem hiW_range (v : Int) (h0 : 0 ≤ v) (h1 : v < 340282366920938463463374607431768211456) : 0 ≤ hiW v ∧ hiW v < 18446744073709551616 := by unfold hiW; omega
theorem loW_range (v : Int) : 0 ≤ loW v ∧ loW v < 18446744073709551616 := by unfold loW; omega
theorem val_eq (v : Int) : hiW v * 18446744073709551616 + loW v = v := by unfold hiW loW; omega
theorem hiW_zero : hiW 0 = 0 := rfl
theorem loW_zero : loW 0 = 0 := rfl
theorem hiW_small (x : Int) (h0 : 0 ≤ x) (h1 : x < 18446744073709551616) : hiW x = 0 := by unfold hiW; omega
theorem loW_small (x : Int) (h0 : 0 ≤ x) (h1 : x < 18446744073709551616) : loW x = x := by unfold loW; omega
theorem emod_le' (b m : Int) (hb : 0 ≤ b) (hm : 0 < m) : b % m ≤ b := by
  have h1 := Int.emod_def b m
  have h2 := Int.mul_nonneg (Int.le_of_lt hm) (Int.ediv_nonneg hb (Int.le_of_lt hm))
  omega
theorem pow_pos' (j : Nat) : (0 : Int) < 2 ^ j := Int.pow_pos (by decide)
theorem emod_pow_succ (b : Int) (j : Nat) (hb : 0 ≤ b) : b % 2 ^ (j + 1) = b % 2 ^ j + 2 ^ j * (b / 2 ^ j % 2) := by
  obtain ⟨n, rfl⟩ := Int.eq_ofNat_of_zero_le hb
  have h := Nat.mod_mul (a := 2 ^ j) (b := 2) (x := n)
  rw [Int.pow_succ]
  exact_mod_cast h
theorem emod_mul_left (a b m : Int) : (a % m * b) % m = (a * b) % m := by rw [Int.mul_emod, Int.emod_emod, ← Int.mul_emod]

theorem wraps_u64 : ∀ n : Int, 0 ≤ n → n < 2 ^ 64 → IntKind.u64.wrap n = n := fun n h0 h1 => by rw [w64]; omega
theorem and_one (x : Int) (h0 : 0 ≤ x) (h1 : x < 18446744073709551616) : Go.bits .and .u64 x 1 = x % 2 := bits_mask .u64 64 (by decide) wraps_u64 1 (by decide) x h0 (by omega)
theorem and_low (x : Int) (h0 : 0 ≤ x) (h1 : x < 18446744073709551616) : Go.bits .and .u64 x 4294967295 = x % 4294967296 := bits_mask .u64 64 (by decide) wraps_u64 32 (by decide) x h0 (by omega)

/-- -1, 0, 1. -/
def cmpInt (x y : Int) : Int := if x < y then -1 else if y < x then 1 else 0

theorem or_eq (x y : Int) (k : Nat) (hk : 3 < k) : cmp_Or_int.f k ([x, y] : List Int) = some (if x = 0 then y else x) := by
  obtain ⟨k, rfl⟩ : ∃ m, k = m + 4 := ⟨k - 4, by omega⟩
  unfold cmp_Or_int.f
  by_cases hx : x = 0
  · by_cases hy : y = 0
    · simp [cmp_Or_int.l0, rd, wrap64, hx, hy]
    · simp [cmp_Or_int.l0, rd, wrap64, hx, hy]
  · simp [cmp_Or_int.l0, rd, wrap64, hx]
theorem cmpu_eq (x y : Int) : cmp_Compare_uint64.f x y = some (cmpInt x y) := by
  unfold cmp_Compare_uint64.f cmpInt
  by_cases h1 : x < y
  · simp [cmp_isNaN_uint64.f, h1]
  · by_cases h2 : y < x
    · simp [cmp_isNaN_uint64.f, h1, h2]
    · simp [cmp_isNaN_uint64.f, h1, h2]
theorem impl_cmp_eq (v u : Int) (k : Nat) (hk : 3 < k) : impl_WideCmp.f k (hiW v) (loW v) (hiW u) (loW u) = some (cmpInt v u) := by
  unfold impl_WideCmp.f
  rw [cmpu_eq, cmpu_eq]
  simp only [Option.bind_some]
  rw [or_eq _ _ k hk]
  have r1 := loW_range v
  have r2 := loW_range u
  have e1 := val_eq v
  have e2 := val_eq u
  unfold cmpInt
  generalize hiW v = a at *
  generalize loW v = b at *
  generalize hiW u = c at *
  generalize loW u = d at *
  simp only [Option.bind_some, Option.some.injEq]
  (repeat' split) <;> first | rfl | (exfalso; omega)

theorem mul64_eq (a b : Int) (ha0 : 0 ≤ a) (ha1 : a < 18446744073709551616) (hb0 : 0 ≤ b) (hb1 : b < 18446744073709551616) : bits_Mul64.f a b = some (hiW (a * b), loW (a * b)) := by
  unfold bits_Mul64.f
  rw [and_low a ha0 ha1, and_low b hb0 hb1]
  generalize ea : a / 4294967296 = x1
  generalize ea0 : a % 4294967296 = x0
  generalize eb : b / 4294967296 = y1
  generalize eb0 : b % 4294967296 = y0
  have a_eq : a = x1 * 4294967296 + x0 := by omega
  have b_eq : b = y1 * 4294967296 + y0 := by omega
  have hx1 : 0 ≤ x1 ∧ x1 ≤ 4294967295 := by omega
  have hx0 : 0 ≤ x0 ∧ x0 ≤ 4294967295 := by omega
  have hy1 : 0 ≤ y1 ∧ y1 ≤ 4294967295 := by omega
  have hy0 : 0 ≤ y0 ∧ y0 ≤ 4294967295 := by omega
  have bd : ∀ p q : Int, 0 ≤ p ∧ p ≤ 4294967295 → 0 ≤ q ∧ q ≤ 4294967295 → 0 ≤ p * q ∧ p * q ≤ 18446744065119617025 := fun p q hp hq =>
    ⟨Int.mul_nonneg hp.1 hq.1, Int.le_trans (Int.mul_le_mul hp.2 hq.2 hq.1 (by omega)) (by omega)⟩
  have b11 := bd x1 y1 hx1 hy1
  have b10 := bd x1 y0 hx1 hy0
  have b01 := bd x0 y1 hx0 hy1
  have b00 := bd x0 y0 hx0 hy0
  have prod : a * b = x1 * y1 * 18446744073709551616 + (x1 * y0 + x0 * y1) * 4294967296 + x0 * y0 := by
    rw [a_eq, b_eq, Int.add_mul, Int.mul_add, Int.mul_add]
    have e1 : x1 * 4294967296 * (y1 * 4294967296) = x1 * y1 * 18446744073709551616 := by
      rw [Int.mul_assoc, ← Int.mul_assoc 4294967296, Int.mul_comm 4294967296 y1, Int.mul_assoc y1, ← Int.mul_assoc x1]
      rfl
    have e2 : x1 * 4294967296 * y0 = x1 * y0 * 4294967296 := by rw [Int.mul_assoc, Int.mul_comm 4294967296 y0, ← Int.mul_assoc]
    have e3 : x0 * (y1 * 4294967296) = x0 * y1 * 4294967296 := by rw [← Int.mul_assoc]
    rw [e1, e2, e3, Int.add_mul]
    omega
  have hab : a * b < 340282366920938463463374607431768211456 := by
    have h2 : a * b ≤ a * 18446744073709551615 := Int.mul_le_mul_of_nonneg_left (by omega) ha0
    omega
  rw [prod] at hab
  rw [prod]
  generalize x1 * y1 = p11 at *
  generalize x1 * y0 = p10 at *
  generalize x0 * y1 = p01 at *
  generalize x0 * y0 = p00 at *
  simp only [w64]
  have m11 : p11 % 18446744073709551616 = p11 := Int.emod_eq_of_lt b11.1 (by omega)
  have m10 : p10 % 18446744073709551616 = p10 := Int.emod_eq_of_lt b10.1 (by omega)
  have m01 : p01 % 18446744073709551616 = p01 := Int.emod_eq_of_lt b01.1 (by omega)
  have m00 : p00 % 18446744073709551616 = p00 := Int.emod_eq_of_lt b00.1 (by omega)
  rw [and_low _ (by omega) (by omega)]
  simp only [m11, m10, m01, m00]
  clear m11 m10 m01 m00 bd prod a_eq b_eq hx1 hx0 hy1 hy0 ea ea0 eb eb0
  have hr : 0 ≤ p00 - p00 / 4294967296 * 4294967296 ∧ p00 - p00 / 4294967296 * 4294967296 < 4294967296 := by omega
  have hqb : 0 ≤ p00 / 4294967296 ∧ p00 / 4294967296 ≤ 4294967294 := by omega
  generalize p00 / 4294967296 = q at *
  have mt : (p10 + q) % 18446744073709551616 = p10 + q := Int.emod_eq_of_lt (by omega) (by omega)
  simp only [mt]
  have ht : 0 ≤ (p10 + q) / 4294967296 ∧ (p10 + q) / 4294967296 ≤ 4294967295 := by omega
  have ht0 : (p10 + q) % 4294967296 = (p10 + q) - (p10 + q) / 4294967296 * 4294967296 ∧ 0 ≤ (p10 + q) % 4294967296 ∧ (p10 + q) % 4294967296 < 4294967296 := by omega
  generalize (p10 + q) / 4294967296 = t1 at *
  generalize (p10 + q) % 4294967296 = t0 at *
  have mw : (t0 + p01) % 18446744073709551616 = t0 + p01 := Int.emod_eq_of_lt (by omega) (by omega)
  simp only [mw]
  have hw1 : 0 ≤ (t0 + p01) / 4294967296 ∧ (t0 + p01) / 4294967296 ≤ 4294967295 := by omega
  have hw0 : 0 ≤ (t0 + p01) - (t0 + p01) / 4294967296 * 4294967296 ∧ (t0 + p01) - (t0 + p01) / 4294967296 * 4294967296 < 4294967296 := by omega
  generalize (t0 + p01) / 4294967296 = w1 at *
  have total : p11 * 18446744073709551616 + (p10 + p01) * 4294967296 + p00 = (p11 + t1 + w1) * 18446744073709551616 + ((t0 + p01 - w1 * 4294967296) * 4294967296 + (p00 - q * 4294967296)) := by omega
  have low : 0 ≤ (t0 + p01 - w1 * 4294967296) * 4294967296 + (p00 - q * 4294967296) ∧ (t0 + p01 - w1 * 4294967296) * 4294967296 + (p00 - q * 4294967296) < 18446744073709551616 := by omega
  rw [total]
  rw [total] at hab
  clear total
  generalize (t0 + p01 - w1 * 4294967296) * 4294967296 + (p00 - q * 4294967296) = z at *
  have hS : p11 + t1 + w1 < 18446744073709551616 := by omega
  have hS1 : (p11 + t1) % 18446744073709551616 = p11 + t1 := Int.emod_eq_of_lt (by omega) (by omega)
  have hS2 : (p11 + t1 + w1) % 18446744073709551616 = p11 + t1 + w1 := Int.emod_eq_of_lt (by omega) hS
  have hD : ((p11 + t1 + w1) * 18446744073709551616 + z) / 18446744073709551616 = p11 + t1 + w1 := by
    rw [Int.add_comm, Int.add_mul_ediv_right _ _ (by decide), Int.ediv_eq_zero_of_lt low.1 low.2, Int.zero_add]
  unfold hiW loW
  rw [hS1, hS2, hD]
theorem impl_mul_eq (a b : Int) (ha0 : 0 ≤ a) (ha1 : a < 18446744073709551616) (hb0 : 0 ≤ b) (hb1 : b < 18446744073709551616) : impl_WideMul.f a b = some (hiW (a * b), loW (a * b)) := by
  unfold impl_WideMul.f
  rw [mul64_eq a b ha0 ha1 hb0 hb1]
  rfl

theorem shl64 (x : Int) (n : Nat) (hn : n ≤ 64) : shl .u64 x (n : Int) = x * 2 ^ n % 18446744073709551616 := by
  unfold shl
  rw [w64, show min (n : Int).toNat (IntKind.bits .u64) = n by simp [IntKind.bits]; omega]
theorem shr64 (x : Int) (n : Nat) (hn : n ≤ 64) : shr .u64 x (n : Int) = x / 2 ^ n := by
  unfold shr
  rw [show min (n : Int).toNat (IntKind.bits .u64) = n by simp [IntKind.bits]; omega]
theorem pow_split (n : Nat) (hn : n ≤ 64) : (2 : Int) ^ n * 2 ^ (64 - n) = 18446744073709551616 := by
  rw [← Int.pow_add, show n + (64 - n) = 64 by omega]
  rfl
theorem pow_le64 (n : Nat) (hn : n ≤ 64) : (1 : Int) ≤ 2 ^ n ∧ (2 : Int) ^ n ≤ 18446744073709551616 := by
  have h1 := pow_pos' n
  have h2 := pow_pos' (64 - n)
  have h3 := pow_split n hn
  refine ⟨by omega, ?_⟩
  rw [← h3]
  have h4 := Int.mul_le_mul_of_nonneg_left (show (1 : Int) ≤ 2 ^ (64 - n) by omega) (Int.le_of_lt h1)
  rw [Int.mul_one] at h4
  exact h4
/-- Two words whose bits do not meet. -/
theorem or_join (x y : Int) (i : Nat) (hi : i ≤ 64) (hx0 : 0 ≤ x) (hx1 : x < 18446744073709551616) (hm : x % 2 ^ i = 0) (hy0 : 0 ≤ y) (hy1 : y < 2 ^ i) : Go.bits .or .u64 x y = x + y :=
  bits_join .u64 64 (by decide) wraps_u64 i x y hx0 hm (by omega) hy0 hy1 (by have := (pow_le64 i hi).2; omega)
theorem or_join' (x y : Int) (i : Nat) (hi : i ≤ 64) (hx0 : 0 ≤ x) (hx1 : x < 18446744073709551616) (hm : x % 2 ^ i = 0) (hy0 : 0 ≤ y) (hy1 : y < 2 ^ i) : Go.bits .or .u64 y x = x + y := by
  have h := or_join x y i hi hx0 hx1 hm hy0 hy1
  have hy2 : y < 2 ^ 64 := by have := (pow_le64 i hi).2; omega
  obtain ⟨a, rfl⟩ := Int.eq_ofNat_of_zero_le hx0
  obtain ⟨b, rfl⟩ := Int.eq_ofNat_of_zero_le hy0
  have ha : a < 2 ^ 64 := by omega
  have hb : b < 2 ^ 64 := by omega
  rw [(bits_nat .u64 64 (by decide) wraps_u64 a b ha hb).2] at h
  rw [(bits_nat .u64 64 (by decide) wraps_u64 b a hb ha).2, Nat.or_comm]
  exact h
theorem impl_shl_eq (v : Int) (n : Nat) (hn : n ≤ 127) (h0 : 0 ≤ v) (h1 : v < 340282366920938463463374607431768211456) : impl_WideShl.f (hiW v) (loW v) (n : Int) = some (hiW (v * 2 ^ n % 340282366920938463463374607431768211456), loW (v * 2 ^ n % 340282366920938463463374607431768211456)) := by
  have ra := hiW_range v h0 h1
  have rb := loW_range v
  have ev := val_eq v
  unfold impl_WideShl.f
  rw [in_eq]
  have hd : decide ((0 : Int) ≤ (n : Int) ∧ (n : Int) ≤ 127) = true := decide_eq_true (by omega)
  simp only [Option.bind_some, hd, if_true]
  generalize ha : hiW v = a at *
  generalize hb : loW v = b at *
  by_cases c : (n : Int) ≥ 64
  · obtain ⟨m, rfl⟩ : ∃ m, n = 64 + m := ⟨n - 64, by omega⟩
    have e : wrap64 (((64 + m : Nat) : Int) - 64) = (m : Int) := by unfold wrap64; omega
    rw [if_pos c, e, if_pos (by omega), shl64 b m (by omega)]
    have ep : v * 2 ^ (64 + m) = a * 2 ^ m * 340282366920938463463374607431768211456 + b * 2 ^ m * 18446744073709551616 := by
      rw [← ev, Int.pow_add, show (2 : Int) ^ 64 = 18446744073709551616 from rfl, Int.add_mul]
      generalize (2 : Int) ^ m = P
      have e1 : a * 18446744073709551616 * (18446744073709551616 * P) = a * P * 340282366920938463463374607431768211456 := by
        rw [Int.mul_comm 18446744073709551616 P, Int.mul_assoc a, ← Int.mul_assoc 18446744073709551616 P, Int.mul_comm 18446744073709551616 P, Int.mul_assoc P, ← Int.mul_assoc a]
        rfl
      have e2 : b * (18446744073709551616 * P) = b * P * 18446744073709551616 := by rw [Int.mul_comm 18446744073709551616 P, ← Int.mul_assoc]
      rw [e1, e2]
    rw [ep]
    generalize a * 2 ^ m = x
    generalize b * 2 ^ m = y
    have hm : (x * 340282366920938463463374607431768211456 + y * 18446744073709551616) % 340282366920938463463374607431768211456 = y % 18446744073709551616 * 18446744073709551616 := by omega
    rw [hm]
    have hy0 : 0 ≤ y % 18446744073709551616 ∧ y % 18446744073709551616 < 18446744073709551616 := by omega
    generalize y % 18446744073709551616 = z at *
    have h1 := hi_of z 0 (by omega) (by omega)
    have h2 := lo_of z 0 (by omega) (by omega)
    rw [Int.add_zero] at h1 h2
    rw [h1, h2]
  · have hn6 : n ≤ 64 := by omega
    have e : wrap64 (64 - (n : Int)) = ((64 - n : Nat) : Int) := by unfold wrap64; omega
    rw [if_neg c, if_pos (by omega), e, if_pos (by omega), shl64 a n hn6, shl64 b n hn6, shr64 b (64 - n) (by omega)]
    have hPR := pow_split n hn6
    have hP := pow_pos' n
    have hR := pow_pos' (64 - n)
    rw [← ev]
    have key : ∀ P R : Int, P * R = 18446744073709551616 → 0 < P → 0 < R → ∃ f c d e : Int, a * P % 18446744073709551616 = c * P ∧ b / R = d ∧ b * P % 18446744073709551616 = e * P ∧ 0 ≤ c * P ∧ c * P + P ≤ 18446744073709551616 ∧ 0 ≤ d ∧ d < P ∧ 0 ≤ e * P ∧ e * P < 18446744073709551616 ∧ (a * 18446744073709551616 + b) * P = f * 340282366920938463463374607431768211456 + ((c * P + d) * 18446744073709551616 + e * P) := fun P R hPR hP hR => by
      have ma : a * P % 18446744073709551616 = a % R * P := by rw [← hPR, Int.mul_comm a P, Int.mul_emod_mul_of_pos _ _ hP, Int.mul_comm]
      have mb : b * P % 18446744073709551616 = b % R * P := by rw [← hPR, Int.mul_comm b P, Int.mul_emod_mul_of_pos _ _ hP, Int.mul_comm]
      have hc0 := Int.emod_nonneg a (Int.ne_of_gt hR)
      have hc1 := Int.emod_lt_of_pos a hR
      have he0 := Int.emod_nonneg b (Int.ne_of_gt hR)
      have he1 := Int.emod_lt_of_pos b hR
      have hda := Int.emod_def a R
      have hdb := Int.emod_def b R
      have hd0 : 0 ≤ b / R := Int.ediv_nonneg rb.1 (Int.le_of_lt hR)
      have hd1 : b / R < P := Int.ediv_lt_of_lt_mul hR (by rw [hPR]; exact rb.2)
      refine ⟨a / R, a % R, b / R, b % R, ma, rfl, mb, Int.mul_nonneg hc0 (Int.le_of_lt hP), ?_, hd0, hd1, Int.mul_nonneg he0 (Int.le_of_lt hP), ?_, ?_⟩
      · have : (a % R + 1) * P ≤ R * P := Int.mul_le_mul_of_nonneg_right (by omega) (Int.le_of_lt hP)
        rw [Int.add_mul, Int.one_mul, Int.mul_comm R P, hPR] at this
        exact this
      · have : (b % R + 1) * P ≤ R * P := Int.mul_le_mul_of_nonneg_right (by omega) (Int.le_of_lt hP)
        rw [Int.add_mul, Int.one_mul, Int.mul_comm R P, hPR] at this
        omega
      · have e1 : a * P = a / R * 18446744073709551616 + a % R * P := by
          rw [hda, Int.sub_mul, ← hPR, Int.mul_comm R (a / R), Int.mul_assoc (a / R), Int.mul_comm R P]
          omega
        have e2 : b * P = b / R * 18446744073709551616 + b % R * P := by
          rw [hdb, Int.sub_mul, ← hPR, Int.mul_comm R (b / R), Int.mul_assoc (b / R), Int.mul_comm R P]
          omega
        rw [Int.add_mul, Int.mul_assoc, Int.mul_comm 18446744073709551616 P, ← Int.mul_assoc, e1, e2]
        generalize a % R * P = x
        generalize b % R * P = y
        generalize a / R = z
        generalize b / R = t
        omega
    obtain ⟨f, c', d, e', k1, k2, k3, k4, k5, k6, k7, k8, k9, k10⟩ := key _ _ hPR hP hR
    have hm0 : c' * 2 ^ n % 2 ^ n = 0 := Int.mul_emod_left _ _
    rw [k1, k2, k3, k10, or_join _ _ n hn6 k4 (by omega) hm0 k6 k7]
    generalize c' * 2 ^ n = x at *
    generalize e' * 2 ^ n = y at *
    have hm : (f * 340282366920938463463374607431768211456 + ((x + d) * 18446744073709551616 + y)) % 340282366920938463463374607431768211456 = (x + d) * 18446744073709551616 + y := by omega
    rw [hm, hi_of _ _ k8 k9, lo_of _ _ k8 k9]

theorem impl_add_eq (v u : Int) (hv0 : 0 ≤ v) (hv1 : v < 340282366920938463463374607431768211456) (hu0 : 0 ≤ u) (hu1 : u < 340282366920938463463374607431768211456) : impl_WideAdd.f (hiW v) (loW v) (hiW u) (loW u) = some (hiW ((v + u) % 340282366920938463463374607431768211456), loW ((v + u) % 340282366920938463463374607431768211456), decide (340282366920938463463374607431768211456 ≤ v + u), 0) := by
  have ra := hiW_range v hv0 hv1
  have rb := loW_range v
  have rc := hiW_range u hu0 hu1
  have rd := loW_range u
  unfold impl_WideAdd.f bits_Add64.f HandX.add64
  rw [if_pos (by omega)]
  simp only [Option.bind_some]
  rw [if_pos (by omega)]
  unfold hiW loW at *
  simp only [Option.bind_some, Option.some.injEq, Prod.mk.injEq]
  refine ⟨by omega, by omega, ?_, trivial⟩
  by_cases h : 340282366920938463463374607431768211456 ≤ v + u
  · rw [decide_eq_true h]
    simp
    omega
  · rw [decide_eq_false h]
    simp
    omega
theorem impl_sub_eq (v u : Int) (hv0 : 0 ≤ v) (hv1 : v < 340282366920938463463374607431768211456) (hu0 : 0 ≤ u) (hu1 : u < 340282366920938463463374607431768211456) : impl_WideSub.f (hiW v) (loW v) (hiW u) (loW u) = some (hiW ((v - u) % 340282366920938463463374607431768211456), loW ((v - u) % 340282366920938463463374607431768211456), decide (v < u), 0) := by
  have ra := hiW_range v hv0 hv1
  have rb := loW_range v
  have rc := hiW_range u hu0 hu1
  have rd := loW_range u
  unfold impl_WideSub.f bits_Sub64.f HandX.sub64
  rw [if_pos (by omega)]
  simp only [Option.bind_some]
  have hb : (if loW v < loW u + 0 then (1 : Int) else 0) = if loW v < loW u then 1 else 0 := by simp
  rw [hb]
  by_cases c1 : loW v < loW u
  · rw [if_pos c1, if_pos (by omega)]
    simp only [Option.bind_some, Option.some.injEq, Prod.mk.injEq]
    unfold hiW loW at *
    refine ⟨by omega, by omega, ?_, trivial⟩
    by_cases h : v < u
    · rw [if_pos (by omega), decide_eq_true h]; rfl
    · rw [if_neg (by omega), decide_eq_false h]; rfl
  · rw [if_neg c1, if_pos (by omega)]
    simp only [Option.bind_some, Option.some.injEq, Prod.mk.injEq]
    unfold hiW loW at *
    refine ⟨by omega, by omega, ?_, trivial⟩
    by_cases h : v < u
    · rw [if_pos (by omega), decide_eq_true h]; rfl
    · rw [if_neg (by omega), decide_eq_false h]; rfl

/-! One digit of the long division: Y = yn1 * 2^32 + yn0, un < Y, d the next half word. -/
theorem digit_iff (yn1 yn0 un d qh rh : Int) (hY0 : 0 < yn1 * 4294967296 + yn0) (h : qh * yn1 + rh = un) : (un * 4294967296 + d) / (yn1 * 4294967296 + yn0) < qh ↔ rh * 4294967296 + d < qh * yn0 := by
  have e : qh * (yn1 * 4294967296 + yn0) = (qh * yn1) * 4294967296 + qh * yn0 := by rw [Int.mul_add, Int.mul_assoc]
  have h1 : (un * 4294967296 + d) / (yn1 * 4294967296 + yn0) < qh ↔ un * 4294967296 + d < qh * (yn1 * 4294967296 + yn0) := Int.ediv_lt_iff_lt_mul hY0
  rw [h1, e]
  generalize qh * yn1 = p1 at *
  generalize qh * yn0 = p0 at *
  omega
theorem digit_start (yn1 yn0 un d : Int) (h1 : 2147483648 ≤ yn1) (h1' : yn1 < 4294967296) (h0 : 0 ≤ yn0) (h0' : yn0 < 4294967296) (hu0 : 0 ≤ un) (hu : un < yn1 * 4294967296 + yn0) (hd0 : 0 ≤ d) (hd1 : d < 4294967296) :
    (un * 4294967296 + d) / (yn1 * 4294967296 + yn0) ≤ un / yn1 ∧ un / yn1 ≤ 4294967297 ∧ un / yn1 * yn1 + (un - un / yn1 * yn1) = un ∧ 0 ≤ un - un / yn1 * yn1 ∧ un - un / yn1 * yn1 < 4294967296 ∧ 0 ≤ (un * 4294967296 + d) / (yn1 * 4294967296 + yn0) ∧ (un * 4294967296 + d) / (yn1 * 4294967296 + yn0) < 4294967296 ∧ un / yn1 * yn1 ≤ un ∧ 0 ≤ un / yn1 * yn1 := by
  have hY0 : 0 < yn1 * 4294967296 + yn0 := by omega
  have hy : 0 < yn1 := by omega
  have hU0 : 0 ≤ un * 4294967296 + d := by omega
  have q0 : 0 ≤ (un * 4294967296 + d) / (yn1 * 4294967296 + yn0) := Int.ediv_nonneg hU0 (by omega)
  have qB : (un * 4294967296 + d) / (yn1 * 4294967296 + yn0) < 4294967296 := Int.ediv_lt_of_lt_mul hY0 (by rw [Int.mul_comm 4294967296]; omega)
  have m1 : (un * 4294967296 + d) / (yn1 * 4294967296 + yn0) * (yn1 * 4294967296 + yn0) ≤ un * 4294967296 + d := Int.ediv_mul_le _ (by omega)
  have e1 := Int.emod_def un yn1
  have e2 := Int.emod_nonneg un (Int.ne_of_gt hy)
  have e3 := Int.emod_lt_of_pos un hy
  have e4 : yn1 * (un / yn1) = un / yn1 * yn1 := Int.mul_comm _ _
  have n0 : 0 ≤ un / yn1 := Int.ediv_nonneg hu0 (by omega)
  have n1 : un / yn1 < 4294967298 := Int.ediv_lt_of_lt_mul hy (by omega)
  have n2 : 0 ≤ un / yn1 * yn1 := Int.mul_nonneg n0 (by omega)
  refine ⟨?_, by omega, by omega, by omega, by omega, q0, qB, by omega, n2⟩
  refine Int.le_ediv_of_mul_le hy ?_
  generalize (un * 4294967296 + d) / (yn1 * 4294967296 + yn0) = q at *
  have e5 : q * (yn1 * 4294967296 + yn0) = q * yn1 * 4294967296 + q * yn0 := by rw [Int.mul_add, Int.mul_assoc]
  have e6 : 0 ≤ q * yn0 := Int.mul_nonneg q0 h0
  rw [e5] at m1
  generalize q * yn1 = p1 at *
  generalize q * yn0 = p0 at *
  omega
theorem digit_test (yn1 yn0 un d qh rh : Int) (h1 : 2147483648 ≤ yn1) (h0 : 0 ≤ yn0) (h0' : yn0 < 4294967296) (hd0 : 0 ≤ d) (hd1 : d < 4294967296) (h : qh * yn1 + rh = un) (hq0 : 0 ≤ qh) (hq1 : qh < 4294967296) (hr0 : 0 ≤ rh) (hr1 : rh < 4294967296) :
    decide ((IntKind.u64.wrap (qh * yn0)) > (IntKind.u64.wrap ((IntKind.u64.wrap (4294967296 * rh)) + d))) = decide ((un * 4294967296 + d) / (yn1 * 4294967296 + yn0) < qh) := by
  have hi := digit_iff yn1 yn0 un d qh rh (by omega) h
  have b1 : 0 ≤ qh * yn0 := Int.mul_nonneg hq0 h0
  have b2 : qh * yn0 ≤ 4294967295 * 4294967295 := Int.mul_le_mul (by omega) (by omega) h0 (by omega)
  have s1 : IntKind.u64.wrap (qh * yn0) = qh * yn0 := by rw [w64]; exact Int.emod_eq_of_lt b1 (by omega)
  have s2 : IntKind.u64.wrap ((IntKind.u64.wrap (4294967296 * rh)) + d) = rh * 4294967296 + d := by simp only [w64]; omega
  rw [s1, s2]
  exact decide_eq_decide.2 ⟨fun g => hi.2 g, fun g => hi.1 g⟩
/-- At a break: the digit is found. -/
theorem digit_break (yn1 yn0 un d qh rh : Int) (h1 : 2147483648 ≤ yn1) (h0 : 0 ≤ yn0) (h0' : yn0 < 4294967296) (hd0 : 0 ≤ d) (h : qh * yn1 + rh = un) (hq0 : 0 ≤ qh) (hq1 : qh ≤ 4294967296) (hr : 4294967296 ≤ rh) : qh ≤ (un * 4294967296 + d) / (yn1 * 4294967296 + yn0) := by
  have hi := digit_iff yn1 yn0 un d qh rh (by omega) h
  have b2 : qh * yn0 ≤ 4294967296 * 4294967295 := Int.mul_le_mul hq1 (by omega) h0 (by omega)
  refine Int.not_lt.1 fun g => ?_
  have := hi.1 g
  omega
section
variable (Y s yn1 yn0 un d un0 : Int) (h1 : 2147483648 ≤ yn1) (h1' : yn1 < 4294967296) (h0 : 0 ≤ yn0) (h0' : yn0 < 4294967296) (hd0 : 0 ≤ d) (hd1 : d < 4294967296)
include h1 h1' h0 h0' hd0 hd1
theorem div_l0 (q : Int) (hq : (un * 4294967296 + d) / (yn1 * 4294967296 + yn0) = q) (q0 : 0 ≤ q) (qB : q < 4294967296) (R : Option (Int × Int)) (K : Nat) (hK : ∀ k, K ≤ k → bits_Div64.j2 k Y s yn1 yn0 un d un0 q = R) :
    ∀ (n : Nat) (qh rh : Int), qh = q + n → qh ≤ 4294967297 → qh * yn1 + rh = un → 0 ≤ rh → rh < 4294967296 → ∃ K', ∀ k, K' ≤ k → bits_Div64.l0 k Y s yn1 yn0 un d un0 qh rh = R := by
  intro n
  induction n with
  | zero =>
    intro qh rh e hqb h hr0 hr1
    refine ⟨K + 2, fun k hk => ?_⟩
    obtain ⟨k, rfl⟩ : ∃ m, k = m + 2 := ⟨k - 2, by omega⟩
    have e' : qh = q := by omega
    have t := digit_test yn1 yn0 un d qh rh h1 h0 h0' hd0 hd1 h (by omega) (by omega) hr0 hr1
    rw [hq, decide_eq_false (show ¬ q < qh by omega)] at t
    simp only [bits_Div64.l0]
    rw [if_neg (show ¬ qh ≥ 4294967296 by omega), t]
    simp only [bits_Div64.j1, Bool.false_eq_true, if_false]
    rw [e']
    exact hK k (by omega)
  | succ n ih =>
    intro qh rh e hqb h hr0 hr1
    have e1 : IntKind.u64.wrap (qh - 1) = qh - 1 := by rw [w64]; omega
    have e2 : IntKind.u64.wrap (rh + yn1) = rh + yn1 := by rw [w64]; omega
    have h' : (qh - 1) * yn1 + (rh + yn1) = un := by
      rw [Int.sub_mul, Int.one_mul, ← h]
      generalize qh * yn1 = p
      omega
    have hbrk : ∀ k, K ≤ k → (rh + yn1 ≥ 4294967296) → bits_Div64.j2 k Y s yn1 yn0 un d un0 (qh - 1) = R := fun k hk hb => by
      have := digit_break yn1 yn0 un d (qh - 1) (rh + yn1) h1 h0 h0' hd0 h' (by omega) (by omega) hb
      rw [show qh - 1 = q by omega]
      exact hK k hk
    by_cases hb : rh + yn1 ≥ 4294967296
    · refine ⟨K + 2, fun k hk => ?_⟩
      obtain ⟨k, rfl⟩ : ∃ m, k = m + 2 := ⟨k - 2, by omega⟩
      simp only [bits_Div64.l0]
      by_cases hB : qh ≥ 4294967296
      · rw [if_pos hB]
        simp only [bits_Div64.j1, if_true, e1, e2]
        rw [if_pos hb]
        exact hbrk k (by omega) hb
      · have t := digit_test yn1 yn0 un d qh rh h1 h0 h0' hd0 hd1 h (by omega) (by omega) hr0 hr1
        rw [hq, decide_eq_true (show q < qh by omega)] at t
        rw [if_neg hB, t]
        simp only [bits_Div64.j1, if_true, e1, e2]
        rw [if_pos hb]
        exact hbrk k (by omega) hb
    · obtain ⟨K', hK'⟩ := ih (qh - 1) (rh + yn1) (by omega) (by omega) h' (by omega) (by omega)
      refine ⟨K' + 2, fun k hk => ?_⟩
      obtain ⟨k, rfl⟩ : ∃ m, k = m + 2 := ⟨k - 2, by omega⟩
      have hk' := hK' k (by omega)
      clear hK' ih
      by_cases hB : qh ≥ 4294967296
      · rw [show bits_Div64.l0 (k + 2) Y s yn1 yn0 un d un0 qh rh = bits_Div64.j1 (k + 1) Y s yn1 yn0 un d un0 qh rh true by rw [bits_Div64.l0, if_pos hB]]
        simp only [bits_Div64.j1, if_true, e1, e2]
        rw [if_neg hb]
        exact hk'
      · have t := digit_test yn1 yn0 un d qh rh h1 h0 h0' hd0 hd1 h (by omega) (by omega) hr0 hr1
        rw [hq, decide_eq_true (show q < qh by omega)] at t
        rw [show bits_Div64.l0 (k + 2) Y s yn1 yn0 un d un0 qh rh = bits_Div64.j1 (k + 1) Y s yn1 yn0 un d un0 qh rh true by rw [bits_Div64.l0, if_neg hB, t]]
        simp only [bits_Div64.j1, if_true, e1, e2]
        rw [if_neg hb]
        exact hk'
theorem div_l1 (hs : 0 ≤ s) (q1 : Int) (q : Int) (hq : (un * 4294967296 + d) / (yn1 * 4294967296 + yn0) = q) (q0 : 0 ≤ q) (qB : q < 4294967296) (R : Option (Int × Int)) (hR : some (IntKind.u64.wrap ((IntKind.u64.wrap (q1 * 4294967296)) + q), shr .u64 (IntKind.u64.wrap ((IntKind.u64.wrap ((IntKind.u64.wrap (un * 4294967296)) + d)) - (IntKind.u64.wrap (q * Y)))) s) = R) :
    ∀ (n : Nat) (qh rh : Int), qh = q + n → qh ≤ 4294967297 → qh * yn1 + rh = un → 0 ≤ rh → rh < 4294967296 → ∃ K', ∀ k, K' ≤ k → bits_Div64.l1 k Y s yn1 yn0 d q1 rh un qh = R := by
  intro n
  induction n with
  | zero =>
    intro qh rh e hqb h hr0 hr1
    refine ⟨2, fun k hk => ?_⟩
    obtain ⟨k, rfl⟩ : ∃ m, k = m + 2 := ⟨k - 2, by omega⟩
    have e' : qh = q := by omega
    have t := digit_test yn1 yn0 un d qh rh h1 h0 h0' hd0 hd1 h (by omega) (by omega) hr0 hr1
    rw [hq, decide_eq_false (show ¬ q < qh by omega)] at t
    simp only [bits_Div64.l1]
    rw [if_neg (show ¬ qh ≥ 4294967296 by omega), t]
    simp only [bits_Div64.j4, Bool.false_eq_true, if_false]
    rw [if_pos hs, e']
    exact hR
  | succ n ih =>
    intro qh rh e hqb h hr0 hr1
    have e1 : IntKind.u64.wrap (qh - 1) = qh - 1 := by rw [w64]; omega
    have e2 : IntKind.u64.wrap (rh + yn1) = rh + yn1 := by rw [w64]; omega
    have h' : (qh - 1) * yn1 + (rh + yn1) = un := by
      rw [Int.sub_mul, Int.one_mul, ← h]
      generalize qh * yn1 = p
      omega
    by_cases hb : rh + yn1 ≥ 4294967296
    · have hx : qh - 1 = q := by
        have := digit_break yn1 yn0 un d (qh - 1) (rh + yn1) h1 h0 h0' hd0 h' (by omega) (by omega) hb
        omega
      refine ⟨2, fun k hk => ?_⟩
      obtain ⟨k, rfl⟩ : ∃ m, k = m + 2 := ⟨k - 2, by omega⟩
      by_cases hB : qh ≥ 4294967296
      · rw [show bits_Div64.l1 (k + 2) Y s yn1 yn0 d q1 rh un qh = bits_Div64.j4 (k + 1) Y s yn1 yn0 d q1 rh un qh true by rw [bits_Div64.l1, if_pos hB]]
        simp only [bits_Div64.j4, if_true, e1, e2]
        rw [if_pos hb, if_pos hs, hx]
        exact hR
      · have t := digit_test yn1 yn0 un d qh rh h1 h0 h0' hd0 hd1 h (by omega) (by omega) hr0 hr1
        rw [hq, decide_eq_true (show q < qh by omega)] at t
        rw [show bits_Div64.l1 (k + 2) Y s yn1 yn0 d q1 rh un qh = bits_Div64.j4 (k + 1) Y s yn1 yn0 d q1 rh un qh true by rw [bits_Div64.l1, if_neg hB, t]]
        simp only [bits_Div64.j4, if_true, e1, e2]
        rw [if_pos hb, if_pos hs, hx]
        exact hR
    · obtain ⟨K', hK'⟩ := ih (qh - 1) (rh + yn1) (by omega) (by omega) h' (by omega) (by omega)
      refine ⟨K' + 2, fun k hk => ?_⟩
      obtain ⟨k, rfl⟩ : ∃ m, k = m + 2 := ⟨k - 2, by omega⟩
      have hk' := hK' k (by omega)
      clear hK' ih
      by_cases hB : qh ≥ 4294967296
      · rw [show bits_Div64.l1 (k + 2) Y s yn1 yn0 d q1 rh un qh = bits_Div64.j4 (k + 1) Y s yn1 yn0 d q1 rh un qh true by rw [bits_Div64.l1, if_pos hB]]
        simp only [bits_Div64.j4, if_true, e1, e2]
        rw [if_neg hb]
        exact hk'
      · have t := digit_test yn1 yn0 un d qh rh h1 h0 h0' hd0 hd1 h (by omega) (by omega) hr0 hr1
        rw [hq, decide_eq_true (show q < qh by omega)] at t
        rw [show bits_Div64.l1 (k + 2) Y s yn1 yn0 d q1 rh un qh = bits_Div64.j4 (k + 1) Y s yn1 yn0 d q1 rh un qh true by rw [bits_Div64.l1, if_neg hB, t]]
        simp only [bits_Div64.j4, if_true, e1, e2]
        rw [if_neg hb]
        exact hk'
end
/-- Both digits: the whole division of (un, un10) by the normalized Y. -/
theorem div_norm (Y s un un1 un0 : Int) (hs : 0 ≤ s) (hY : 9223372036854775808 ≤ Y) (hY' : Y < 18446744073709551616) (hu0 : 0 ≤ un) (hu : un < Y) (h1 : 0 ≤ un1) (h1' : un1 < 4294967296) (h0 : 0 ≤ un0) (h0' : un0 < 4294967296) :
    ∃ K, ∀ k, K ≤ k → bits_Div64.l0 k Y s (Y / 4294967296) (Y % 4294967296) un un1 un0 (IntKind.u64.wrap (Int.tdiv un (Y / 4294967296))) (IntKind.u64.wrap (un - (IntKind.u64.wrap ((IntKind.u64.wrap (Int.tdiv un (Y / 4294967296))) * (Y / 4294967296))))) =
      some ((un * 18446744073709551616 + un1 * 4294967296 + un0) / Y, shr .u64 ((un * 18446744073709551616 + un1 * 4294967296 + un0) % Y) s) := by
  have y1 : 2147483648 ≤ Y / 4294967296 ∧ Y / 4294967296 < 4294967296 := by omega
  have y0 : 0 ≤ Y % 4294967296 ∧ Y % 4294967296 < 4294967296 := by omega
  have ye : Y / 4294967296 * 4294967296 + Y % 4294967296 = Y := by omega
  have td : Int.tdiv un (Y / 4294967296) = un / (Y / 4294967296) := Int.tdiv_eq_ediv_of_nonneg hu0
  rw [td]
  obtain ⟨f1, f2, f3, f4, f5, f6, f7, f8, f9⟩ := digit_start (Y / 4294967296) (Y % 4294967296) un un1 y1.1 y1.2 y0.1 y0.2 hu0 (by omega) h1 h1'
  rw [ye] at f1 f6 f7
  have w1 : IntKind.u64.wrap (un / (Y / 4294967296)) = un / (Y / 4294967296) := by rw [w64]; exact Int.emod_eq_of_lt (Int.ediv_nonneg hu0 (by omega)) (by omega)
  rw [w1]
  have w2 : IntKind.u64.wrap (un / (Y / 4294967296) * (Y / 4294967296)) = un / (Y / 4294967296) * (Y / 4294967296) := by rw [w64]; exact Int.emod_eq_of_lt f9 (by omega)
  rw [w2]
  have w3 : IntKind.u64.wrap (un - un / (Y / 4294967296) * (Y / 4294967296)) = un - un / (Y / 4294967296) * (Y / 4294967296) := by rw [w64]; exact Int.emod_eq_of_lt f4 (by omega)
  rw [w3]
  -- the first digit q and what is left, r
  have dm := Int.emod_def (un * 4294967296 + un1) Y
  have r0 := Int.emod_nonneg (un * 4294967296 + un1) (show Y ≠ 0 by omega)
  have r1 := Int.emod_lt_of_pos (un * 4294967296 + un1) (show 0 < Y by omega)
  have q_e : (un * 4294967296 + un1) / Y = (un * 4294967296 + un1) / (Y / 4294967296 * 4294967296 + Y % 4294967296) := by rw [ye]
  generalize hqq : (un * 4294967296 + un1) / Y = q at *
  generalize hrr : (un * 4294967296 + un1) % Y = r at *
  have comm : Y * q = q * Y := Int.mul_comm _ _
  -- the second digit
  obtain ⟨g1, g2, g3, g4, g5, g6, g7, g8, g9⟩ := digit_start (Y / 4294967296) (Y % 4294967296) r un0 y1.1 y1.2 y0.1 y0.2 r0 (by omega) h0 h0'
  rw [ye] at g1 g6 g7
  have dm2 := Int.emod_def (r * 4294967296 + un0) Y
  have t0 := Int.emod_nonneg (r * 4294967296 + un0) (show Y ≠ 0 by omega)
  have t1 := Int.emod_lt_of_pos (r * 4294967296 + un0) (show 0 < Y by omega)
  have p_e : (r * 4294967296 + un0) / Y = (r * 4294967296 + un0) / (Y / 4294967296 * 4294967296 + Y % 4294967296) := by rw [ye]
  generalize hpp : (r * 4294967296 + un0) / Y = p at *
  generalize htt : (r * 4294967296 + un0) % Y = t at *
  have comm2 : Y * p = p * Y := Int.mul_comm _ _
  -- what both are together
  have total : un * 18446744073709551616 + un1 * 4294967296 + un0 = t + Y * (q * 4294967296 + p) := by
    have e1 : Y * (q * 4294967296 + p) = q * Y * 4294967296 + p * Y := by rw [Int.mul_add, ← Int.mul_assoc, comm, comm2]
    rw [e1]
    generalize q * Y = qy at *
    generalize p * Y = py at *
    omega
  have hdiv : (un * 18446744073709551616 + un1 * 4294967296 + un0) / Y = q * 4294967296 + p := by
    rw [total, Int.add_mul_ediv_left _ _ (by omega), Int.ediv_eq_zero_of_lt t0 t1, Int.zero_add]
  have hmod : (un * 18446744073709551616 + un1 * 4294967296 + un0) % Y = t := by
    rw [total, Int.add_mul_emod_self_left, Int.emod_eq_of_lt t0 t1]
  rw [hdiv, hmod]
  -- the second loop, and what goes into it
  have wr : IntKind.u64.wrap ((IntKind.u64.wrap ((IntKind.u64.wrap (un * 4294967296)) + un1)) - (IntKind.u64.wrap (q * Y))) = r := by
    simp only [w64]
    generalize q * Y = qy at *
    omega
  have wt : IntKind.u64.wrap ((IntKind.u64.wrap ((IntKind.u64.wrap (r * 4294967296)) + un0)) - (IntKind.u64.wrap (p * Y))) = t := by
    simp only [w64]
    generalize p * Y = py at *
    omega
  have wq : IntKind.u64.wrap ((IntKind.u64.wrap (q * 4294967296)) + p) = q * 4294967296 + p := by simp only [w64]; omega
  obtain ⟨K1, hK1⟩ := div_l1 Y s (Y / 4294967296) (Y % 4294967296) r un0 y1.1 y1.2 y0.1 y0.2 h0 h0' hs q p p_e.symm g6 g7 (some (q * 4294967296 + p, shr .u64 t s)) (by rw [wq, wt]) (r / (Y / 4294967296) - p).toNat (r / (Y / 4294967296)) (r - r / (Y / 4294967296) * (Y / 4294967296)) (by omega) g2 g3 g4 g5
  have td2 : Int.tdiv r (Y / 4294967296) = r / (Y / 4294967296) := Int.tdiv_eq_ediv_of_nonneg r0
  have v1 : IntKind.u64.wrap (r / (Y / 4294967296)) = r / (Y / 4294967296) := by rw [w64]; exact Int.emod_eq_of_lt (Int.ediv_nonneg r0 (by omega)) (by omega)
  have v2 : IntKind.u64.wrap (r / (Y / 4294967296) * (Y / 4294967296)) = r / (Y / 4294967296) * (Y / 4294967296) := by rw [w64]; exact Int.emod_eq_of_lt g9 (by omega)
  have v3 : IntKind.u64.wrap (r - r / (Y / 4294967296) * (Y / 4294967296)) = r - r / (Y / 4294967296) * (Y / 4294967296) := by rw [w64]; exact Int.emod_eq_of_lt g4 (by omega)
  have hj2 : ∀ k, K1 + 1 ≤ k → bits_Div64.j2 k Y s (Y / 4294967296) (Y % 4294967296) un un1 un0 q = some (q * 4294967296 + p, shr .u64 t s) := fun k hk => by
    obtain ⟨k, rfl⟩ : ∃ m, k = m + 1 := ⟨k - 1, by omega⟩
    simp only [bits_Div64.j2]
    rw [if_neg (show ¬ Y / 4294967296 = 0 by omega), wr, td2, v1, v2, v3]
    exact hK1 k (by omega)
  exact div_l0 Y s (Y / 4294967296) (Y % 4294967296) un un1 un0 y1.1 y1.2 y0.1 y0.2 h1 h1' q q_e.symm f6 f7 _ (K1 + 1) hj2 (un / (Y / 4294967296) - q).toNat (un / (Y / 4294967296)) (un - un / (Y / 4294967296) * (Y / 4294967296)) (by omega) f2 f3 f4 f5

theorem lz_eq (y : Int) (h0 : 0 < y) (h1 : y < 18446744073709551616) : ∃ n : Nat, n ≤ 63 ∧ 9223372036854775808 ≤ y * 2 ^ n ∧ y * 2 ^ n < 18446744073709551616 ∧ bits_LeadingZeros64.f y = some (n : Int) := by
  obtain ⟨m, rfl⟩ : ∃ m : Nat, y = (m : Int) := ⟨y.toNat, by omega⟩
  have b := Lib.bitLenAux_bounds 64 m (by omega) (by omega)
  have c : Lib.bitLenAux 64 m ≤ 64 := Lib.bitLenAux_le 64 m 64 (by omega)
  have e : Lib.bitLen m = Lib.bitLenAux 64 m := rfl
  obtain ⟨b1, b2, b3⟩ := b
  generalize Lib.bitLenAux 64 m = l at *
  have p1 : 2 ^ (l - 1) * 2 ^ (64 - l) = 9223372036854775808 := by rw [← Nat.pow_add, show l - 1 + (64 - l) = 63 by omega]
  have p2 : 2 ^ l * 2 ^ (64 - l) = 18446744073709551616 := by rw [← Nat.pow_add, show l + (64 - l) = 64 by omega]
  have q1 : 9223372036854775808 ≤ m * 2 ^ (64 - l) := p1 ▸ Nat.mul_le_mul_right _ b2
  have q2 : m * 2 ^ (64 - l) < 18446744073709551616 := p2 ▸ Nat.mul_lt_mul_of_pos_right b3 (Nat.pow_pos (by decide))
  have cast : (m : Int) * 2 ^ (64 - l) = ((m * 2 ^ (64 - l) : Nat) : Int) := by simp
  refine ⟨64 - l, by omega, by rw [cast]; omega, by rw [cast]; omega, ?_⟩
  unfold bits_LeadingZeros64.f bits_Len64.f
  rw [if_pos (by omega), Option.bind_some, Int.toNat_natCast, e, wrap_small (by omega) (by omega)]
  congr 1
  omega
theorem div64_eq (hi lo y : Int) (h0 : 0 ≤ hi) (h1 : hi < y) (h2 : y < 18446744073709551616) (l0 : 0 ≤ lo) (l1 : lo < 18446744073709551616) : ∃ K, ∀ k, K ≤ k → bits_Div64.f k hi lo y = some ((hi * 18446744073709551616 + lo) / y, (hi * 18446744073709551616 + lo) % y) := by
  by_cases hz : hi = 0
  · refine ⟨0, fun k _ => ?_⟩
    unfold bits_Div64.f
    rw [if_neg (by omega), if_neg (by omega), if_pos hz, hz, Int.zero_mul, Int.zero_add, w64, Int.tdiv_eq_ediv_of_nonneg l0, Int.tmod_eq_emod_of_nonneg l0]
    have a := Int.ediv_nonneg l0 (show 0 ≤ y by omega)
    have b := Int.ediv_le_self y l0
    rw [Int.emod_eq_of_lt a (by omega)]
  · obtain ⟨n, hn, y1, y2, hlz⟩ := lz_eq y (by omega) h2
    have sp := pow_split n (by omega)
    have pp := pow_le64 n (by omega)
    have pm := pow_pos' (64 - n)
    have wn : IntKind.u64.wrap (n : Int) = (n : Int) := by rw [w64]; omega
    have wm : IntKind.u64.wrap (64 - (n : Int)) = ((64 - n : Nat) : Int) := by rw [w64]; omega
    have step : hi * 2 ^ n + 2 ^ n ≤ y * 2 ^ n := by
      have := Int.mul_le_mul_of_nonneg_right (show hi + 1 ≤ y by omega) (show (0 : Int) ≤ 2 ^ n by omega)
      rw [Int.add_mul, Int.one_mul] at this
      exact this
    have hin : 0 ≤ hi * 2 ^ n := Int.mul_nonneg h0 (by omega)
    have yb : shl .u64 y (n : Int) = y * 2 ^ n := by rw [shl64 y n (by omega)]; exact Int.emod_eq_of_lt (by omega) y2
    have hb : shl .u64 hi (n : Int) = hi * 2 ^ n := by rw [shl64 hi n (by omega)]; exact Int.emod_eq_of_lt hin (by omega)
    have lt0 : 0 ≤ lo / 2 ^ (64 - n) := Int.ediv_nonneg l0 (by omega)
    have lt1 : lo / 2 ^ (64 - n) < 2 ^ n := Int.ediv_lt_of_lt_mul pm (by rw [sp]; exact l1)
    have or_e : Go.bits .or .u64 (shl .u64 hi (n : Int)) (shr .u64 lo ((64 - n : Nat) : Int)) = hi * 2 ^ n + lo / 2 ^ (64 - n) := by
      rw [hb, shr64 lo (64 - n) (by omega)]
      exact or_join _ _ n (by omega) hin (by omega) (Int.mul_emod_left _ _) lt0 lt1
    have lb0 : 0 ≤ lo * 2 ^ n % 18446744073709551616 := Int.emod_nonneg _ (by decide)
    have lb1 : lo * 2 ^ n % 18446744073709551616 < 18446744073709551616 := Int.emod_lt_of_pos _ (by decide)
    have total : (hi * 18446744073709551616 + lo) * 2 ^ n = (hi * 2 ^ n + lo / 2 ^ (64 - n)) * 18446744073709551616 + lo * 2 ^ n % 18446744073709551616 := by
      have e1 : lo * 2 ^ n / 18446744073709551616 = lo / 2 ^ (64 - n) := by
        rw [← sp, Int.mul_comm lo]
        exact Int.mul_ediv_mul_of_pos _ _ (by omega)
      have e2 := Int.emod_def (lo * 2 ^ n) 18446744073709551616
      rw [e1] at e2
      have e3 : (hi * 18446744073709551616 + lo) * 2 ^ n = hi * 2 ^ n * 18446744073709551616 + lo * 2 ^ n := by rw [Int.add_mul, Int.mul_assoc, Int.mul_comm 18446744073709551616, ← Int.mul_assoc]
      rw [e3]
      generalize hi * 2 ^ n = a at *
      generalize lo * 2 ^ n = b at *
      generalize lo / 2 ^ (64 - n) = c at *
      omega
    obtain ⟨K, hK⟩ := div_norm (y * 2 ^ n) (n : Int) (hi * 2 ^ n + lo / 2 ^ (64 - n)) (lo * 2 ^ n % 18446744073709551616 / 4294967296) (lo * 2 ^ n % 18446744073709551616 % 4294967296) (by omega) y1 y2 (by omega) (by omega) (by omega) (by omega) (by omega) (by omega)
    refine ⟨K, fun k hk => ?_⟩
    have h := hK k hk
    unfold bits_Div64.f
    rw [if_neg (by omega), if_neg (by omega), if_neg hz, hlz, Option.bind_some]
    simp only [wn, wm]
    rw [if_pos (by omega), if_pos (by omega), yb, if_neg (by omega), or_e, and_low _ (by omega) y2, shl64 lo n (by omega), and_low _ lb0 lb1, h]
    have join : (hi * 2 ^ n + lo / 2 ^ (64 - n)) * 18446744073709551616 + lo * 2 ^ n % 18446744073709551616 / 4294967296 * 4294967296 + lo * 2 ^ n % 18446744073709551616 % 4294967296 = (hi * 18446744073709551616 + lo) * 2 ^ n := by rw [total]; omega
    rw [join, Int.mul_ediv_mul_of_pos_left _ _ (by omega)]
    have md : (hi * 18446744073709551616 + lo) * 2 ^ n % (y * 2 ^ n) = (hi * 18446744073709551616 + lo) % y * 2 ^ n := by
      rw [Int.mul_comm _ (2 ^ n), Int.mul_comm y, Int.mul_emod_mul_of_pos _ _ (by omega), Int.mul_comm]
    rw [md, shr64 _ n (by omega), Int.mul_ediv_cancel _ (by omega)]
theorem impl_div_eq (v d : Int) (h0 : 0 ≤ v) (h1 : v < 340282366920938463463374607431768211456) (d0 : 0 < d) (d1 : d < 18446744073709551616) : ∃ K, ∀ k, K ≤ k → impl_WideDiv.f k (hiW v) (loW v) d = some (hiW (v / d), loW (v / d), v % d) := by
  obtain ⟨a0, a1⟩ := hiW_range v h0 h1
  obtain ⟨b0, b1⟩ := loW_range v
  have e := val_eq v
  have m0 := Int.emod_nonneg (hiW v) (show d ≠ 0 by omega)
  have m1 := Int.emod_lt_of_pos (hiW v) d0
  have md := Int.emod_def (hiW v) d
  obtain ⟨K, hK⟩ := div64_eq (hiW v % d) (loW v) d m0 m1 d1 b0 b1
  refine ⟨K, fun k hk => ?_⟩
  unfold impl_WideDiv.f
  rw [if_neg (by omega), Int.tmod_eq_emod_of_nonneg a0, hK k hk, Int.tdiv_eq_ediv_of_nonneg a0, w64]
  simp only [Option.bind_some]
  have q0 := Int.ediv_nonneg a0 (show 0 ≤ d by omega)
  have q1 := Int.ediv_le_self d a0
  rw [Int.emod_eq_of_lt q0 (by omega)]
  have t0 : 0 ≤ (hiW v % d * 18446744073709551616 + loW v) / d := Int.ediv_nonneg (by omega) (by omega)
  have t1 : (hiW v % d * 18446744073709551616 + loW v) / d < 18446744073709551616 := Int.ediv_lt_of_lt_mul d0 (by omega)
  have vv : v = (hiW v % d * 18446744073709551616 + loW v) + d * (hiW v / d * 18446744073709551616) := by
    rw [← Int.mul_assoc]
    generalize d * (hiW v / d) = z at *
    omega
  have dv : v / d = hiW v / d * 18446744073709551616 + (hiW v % d * 18446744073709551616 + loW v) / d := by
    conv => lhs; rw [vv]
    rw [Int.add_mul_ediv_left _ _ (by omega), Int.add_comm]
  have mv : v % d = (hiW v % d * 18446744073709551616 + loW v) % d := by
    conv => lhs; rw [vv]
    rw [Int.add_mul_emod_self_left]
  rw [dv, mv, hi_of _ _ t0 t1, lo_of _ _ t0 t1]
/-- The numeral's next digit. -/
def dig (v : Int) : ByteArray := strOfNums [(IntKind.u64.wrap (48 + v % 10)) % 256]
theorem dig_size (v : Int) : (dig v).size = 1 := by simp [dig, strOfNums_size]
theorem dig_app (v : Int) (x : ByteArray) : (dig v ++ x).size = 1 + x.size := by rw [ByteArray.size_append, dig_size]
theorem not_empty (x : ByteArray) (h : 1 ≤ x.size) : ¬ x.toList = ([] : List UInt8) := by
  rw [ByteArray.toList_eq]
  intro g
  have : x.data.toList.length = x.size := rfl
  rw [g] at this
  simp at this
  omega
theorem impl_text_step (v : Int) (h0 : 0 ≤ v) (h1 : v < 340282366920938463463374607431768211456) : ∃ K, ∀ k, K ≤ k → ∀ x : ByteArray, x.size ≤ 100 → impl_WideText.l0 (k + 1) x (hiW v) (loW v) = if v / 10 = 0 then some (dig v ++ x) else impl_WideText.l0 k (dig v ++ x) (hiW (v / 10)) (loW (v / 10)) := by
  obtain ⟨K, hK⟩ := impl_div_eq v 10 h0 h1 (by omega) (by omega)
  refine ⟨K, fun k hk x hx => ?_⟩
  have hs : (dig v).size + x.size ≤ 9223372036854775807 := by rw [dig_size]; omega
  rw [impl_WideText.l0, hK k hk]
  simp only [Option.bind_some]
  refine (if_pos hs).trans ?_
  have e := val_eq (v / 10)
  by_cases hz : v / 10 = 0
  · rw [if_pos hz, hz, hiW_zero, loW_zero]
    rfl
  · have c : ¬ (hiW (v / 10) == 0 && loW (v / 10) == 0) = true := by
      intro g
      simp only [Bool.and_eq_true, beq_iff_eq] at g
      rw [g.1, g.2] at e
      omega
    rw [if_neg hz, if_neg c]
    rfl

abbrev Dg : List UInt8 := [48, 49, 50, 51, 52, 53, 54, 55, 56, 57]
theorem digit8 (b : UInt8) : Dg.contains b = true ↔ 48 ≤ b.toNat ∧ b.toNat ≤ 57 := by
  constructor
  · intro h
    have h2 : b ∈ Dg := by simpa using h
    simp only [Dg, List.mem_cons, List.not_mem_nil, or_false] at h2
    rcases h2 with rfl | rfl | rfl | rfl | rfl | rfl | rfl | rfl | rfl | rfl <;> decide
  · rintro ⟨h1, h2⟩
    have e : b = UInt8.ofNat b.toNat := by simp
    generalize b.toNat = n at *
    subst e
    have : n = 48 ∨ n = 49 ∨ n = 50 ∨ n = 51 ∨ n = 52 ∨ n = 53 ∨ n = 54 ∨ n = 55 ∨ n = 56 ∨ n = 57 := by omega
    rcases this with rfl | rfl | rfl | rfl | rfl | rfl | rfl | rfl | rfl | rfl <;> decide
theorem dw_nil {p : UInt8 → Bool} : ∀ {l : List UInt8}, (∀ x ∈ l, p x = true) → l.dropWhile p = []
  | [], _ => rfl
  | a :: l, h => by rw [List.dropWhile_cons, if_pos (h a (by simp))]; exact dw_nil (fun x hx => h x (by simp [hx]))
theorem dw_all {p : UInt8 → Bool} : ∀ {l : List UInt8}, (∀ x ∈ l.dropWhile p, p x = true) → ∀ x ∈ l, p x = true
  | [], _ => fun x hx => absurd hx (by simp)
  | a :: l, h => by
    by_cases c : p a = true
    · rw [List.dropWhile_cons, if_pos c] at h
      intro x hx
      rcases List.mem_cons.1 hx with rfl | hx
      · exact c
      · exact dw_all h x hx
    · rw [List.dropWhile_cons, if_neg c] at h
      exact h
theorem dw_of_nil {p : UInt8 → Bool} {l : List UInt8} (h : l.dropWhile p = []) : ∀ x ∈ l, p x = true := dw_all (by rw [h]; intro x hx; exact absurd hx (by simp))
theorem trim_nil (l : List UInt8) : Lib.trimS l Dg = [] ↔ ∀ x ∈ l, Dg.contains x = true := by
  unfold Lib.trimS Lib.trimLeftS Lib.trimRightS
  constructor
  · intro h x hx
    have h1 := dw_of_nil h
    have h2 := dw_all (p := (Dg.contains ·)) (l := l.reverse) (fun y hy => h1 y (by simpa using hy))
    exact h2 x (by simpa using hx)
  · intro h
    refine dw_nil (fun x hx => ?_)
    have h3 : l.reverse.dropWhile (Dg.contains ·) = [] := dw_nil (fun y hy => h y (by simpa using hy))
    rw [h3] at hx
    exact absurd hx (by simp)
def IsD (s : ByteArray) (i : Nat) : Prop := 48 ≤ bt s (i : Int) ∧ bt s (i : Int) ≤ 57
instance (s : ByteArray) (i : Nat) : Decidable (IsD s i) := by unfold IsD; exact inferInstance
theorem bt_get (s : ByteArray) (i : Nat) (h : i < s.size) : bt s (i : Int) = ((s.data.toList[i]'h).toNat : Int) := by
  unfold bt
  rw [dif_pos (by simpa using h)]
  rfl
theorem all_digits (s : ByteArray) : (∀ x ∈ s.data.toList, Dg.contains x = true) ↔ ∀ i, i < s.size → IsD s i := by
  constructor
  · intro h i hi
    have := (digit8 _).1 (h (s.data.toList[i]'hi) (List.getElem_mem _))
    unfold IsD
    rw [bt_get s i hi]
    omega
  · intro h x hx
    obtain ⟨i, hi, rfl⟩ := List.mem_iff_getElem.1 hx
    have := h i hi
    unfold IsD at this
    rw [bt_get s i hi] at this
    exact (digit8 _).2 (by omega)
/-- The number that is read, a byte at a time. -/
def rd10 (s : ByteArray) : Nat → Int
  | 0 => 0
  | i + 1 => (rd10 s i * 10 + (bt s (i : Int) - 48)) % 340282366920938463463374607431768211456
theorem rd10_range (s : ByteArray) (i : Nat) : 0 ≤ rd10 s i ∧ rd10 s i < 340282366920938463463374607431768211456 := by
  cases i with
  | zero => exact ⟨Int.le_refl 0, show (0 : Int) < 340282366920938463463374607431768211456 by decide⟩
  | succ i => exact ⟨Int.emod_nonneg _ (by decide), Int.emod_lt_of_pos _ (by decide)⟩
/-- What is told at the end. -/
def told (s r : ByteArray) (v : Int) : Int × Int × Bool × Int := if r.toList = s.toList then (hiW v, loW v, false, 0) else (0, 0, false, 3)
theorem ten_eq (v d : Int) : ((v * 2 ^ 3 % 340282366920938463463374607431768211456 + v * 2 ^ 1 % 340282366920938463463374607431768211456) % 340282366920938463463374607431768211456 + d) % 340282366920938463463374607431768211456 = (v * 10 + d) % 340282366920938463463374607431768211456 := by omega
theorem impl_step (s : ByteArray) (v : Int) (i k : Nat) (h0 : 0 ≤ v) (h1 : v < 340282366920938463463374607431768211456) (hi : i < s.size) (hs : s.size ≤ 20000) (d : IsD s i) :
    impl_WideRead.l0 (k + 1) s (s.size : Int) (i : Int) (hiW v) (loW v) = impl_WideRead.l0 k s (s.size : Int) ((i + 1 : Nat) : Int) (hiW ((v * 10 + (bt s (i : Int) - 48)) % 340282366920938463463374607431768211456)) (loW ((v * 10 + (bt s (i : Int) - 48)) % 340282366920938463463374607431768211456)) := by
  have b0 : 0 ≤ (i : Int) := by omega
  have b1 : (i : Int) < (s.size : Int) := by omega
  have wi : wrap64 ((i : Int) + 1) = ((i + 1 : Nat) : Int) := wrap_small (x := (i : Int) + 1) (by omega) (by omega)
  unfold IsD at d
  have d0 : 0 ≤ bt s (i : Int) - 48 := by omega
  have d1 : bt s (i : Int) - 48 < 18446744073709551616 := by omega
  have d2 : bt s (i : Int) - 48 < 340282366920938463463374607431768211456 := by omega
  have e1 : ((bt s (i : Int)) - 48) % 256 = bt s (i : Int) - 48 := by omega
  have e2 := impl_add_eq (v * 2 ^ 3 % 340282366920938463463374607431768211456) (v * 2 ^ 1 % 340282366920938463463374607431768211456) (Int.emod_nonneg _ (by decide)) (Int.emod_lt_of_pos _ (by decide)) (Int.emod_nonneg _ (by decide)) (Int.emod_lt_of_pos _ (by decide))
  have e3 := impl_add_eq ((v * 2 ^ 3 % 340282366920938463463374607431768211456 + v * 2 ^ 1 % 340282366920938463463374607431768211456) % 340282366920938463463374607431768211456) (bt s (i : Int) - 48) (Int.emod_nonneg _ (by decide)) (Int.emod_lt_of_pos _ (by decide)) d0 d2
  rw [hiW_small _ d0 d1, loW_small _ d0 d1] at e3
  rw [ten_eq] at e3
  have s3 := impl_shl_eq v 3 (by decide) h0 h1
  have s1 := impl_shl_eq v 1 (by decide) h0 h1
  rw [show ((3 : Nat) : Int) = 3 from rfl] at s3
  rw [show ((1 : Nat) : Int) = 1 from rfl] at s1
  rw [impl_WideRead.l0, if_pos b1, s3, Option.bind_some, s1, Option.bind_some, e2, Option.bind_some, if_pos b0, if_pos b1, e1, e3, Option.bind_some, wi]
theorem impl_good (s : ByteArray) (hs : s.size ≤ 20000) (hd : ∀ i, i < s.size → IsD s i) (r : ByteArray) (K : Nat) (hr : ∀ k, K ≤ k → impl_WideText.f k (hiW (rd10 s s.size)) (loW (rd10 s s.size)) = some r) :
    ∀ (d i k : Nat), s.size - i = d → i ≤ s.size → d + K + 10 ≤ k → impl_WideRead.l0 k s (s.size : Int) (i : Int) (hiW (rd10 s i)) (loW (rd10 s i)) = some (told s r (rd10 s s.size)) := by
  intro d
  induction d with
  | zero =>
    intro i k hd' hi hk
    obtain ⟨k, rfl⟩ : ∃ m, k = m + 1 := ⟨k - 1, by omega⟩
    have ei : i = s.size := by omega
    rw [ei, impl_WideRead.l0, if_neg (by omega), hr k (by omega), Option.bind_some]
    unfold told
    split <;> rfl
  | succ d ih =>
    intro i k hd' hi hk
    obtain ⟨k, rfl⟩ : ∃ m, k = m + 1 := ⟨k - 1, by omega⟩
    have rg := rd10_range s i
    rw [impl_step s (rd10 s i) i k rg.1 rg.2 (by omega) hs (hd i (by omega))]
    exact ih (i + 1) k (by omega) (by omega) (by omega)
theorem trim_eq (s : ByteArray) (hs : s.size ≤ 20000) : strings_Trim.f s (⟨#[48, 49, 50, 51, 52, 53, 54, 55, 56, 57]⟩ : ByteArray) = some ⟨(Lib.trimS s.data.toList Dg).toArray⟩ := by
  unfold strings_Trim.f
  rw [if_pos ⟨by omega, rfl⟩]

/-! The drawn numbers: whatever the code, each draw answers, within its bounds. -/
def St (l : List Int) (a : Int) : Prop := l.length ≤ 140737488351232 ∧ 0 ≤ a ∧ a ≤ 140737488351232
theorem u64w (x : Int) : 0 ≤ IntKind.u64.wrap x ∧ IntKind.u64.wrap x < 18446744073709551616 := by rw [w64]; omega
theorem n_ok {l : List Int} {a : Int} (h : St l a) (m z t : Int) (ht : t ≤ 4611686018427387904) : ∃ r a' m', spec_l01Src_n.f l a m z t = some (r, a', m', z) ∧ St l a' ∧ 0 ≤ r ∧ (r = 0 ∨ r < t) := by
  unfold St at h
  obtain ⟨h1, h2, h3⟩ := h
  unfold spec_l01Src_n.f
  by_cases c1 : t ≤ 1
  · rw [if_pos c1]
    exact ⟨0, a, m, rfl, ⟨h1, h2, h3⟩, by omega, Or.inl rfl⟩
  · rw [if_neg c1]
    have wt : IntKind.u64.wrap t = t := by rw [w64]; omega
    have hr : ∀ x, 0 ≤ wrap64 (Int.tmod (IntKind.u64.wrap x) t) ∧ wrap64 (Int.tmod (IntKind.u64.wrap x) t) < t := fun x => by
      have b := u64w x
      generalize IntKind.u64.wrap x = y at *
      rw [Int.tmod_eq_emod_of_nonneg b.1]
      have e1 := Int.emod_nonneg y (show t ≠ 0 by omega)
      have e2 := Int.emod_lt_of_pos y (show 0 < t by omega)
      rw [wrap_small (by omega) (by omega)]
      exact ⟨e1, e2⟩
    by_cases c2 : a < (l.length : Int)
    · rw [if_pos c2, if_pos h2, wt, if_neg (show ¬ t = 0 by omega)]
      have e := wrap_small (x := a + 1) (by omega) (by omega)
      exact ⟨_, _, _, rfl, ⟨h1, by rw [e]; omega, by rw [e]; omega⟩, (hr _).1, Or.inr (hr _).2⟩
    · rw [if_neg c2, wt, if_neg (show ¬ t = 0 by omega)]
      exact ⟨_, _, _, rfl, ⟨h1, h2, h3⟩, (hr _).1, Or.inr (hr _).2⟩
theorem one_ok {l : List Int} {a : Int} (h : St l a) (m z t : Int) (ht : t ≤ 4611686018427387904) : ∃ b a' m', spec_l01Src_one.f l a m z t = some (b, a', m', z) ∧ St l a' := by
  obtain ⟨r, a', m', e, h', _, _⟩ := n_ok h m z t ht
  unfold spec_l01Src_one.f
  rw [e]
  exact ⟨_, _, _, rfl, h'⟩
theorem source_loop (l : List Int) : ∀ (d i k : Nat) (m : Int), 64 - i = d → i ≤ 64 → d < k → ∃ m' z, spec_l01Source.l0 k l (i : Int) l 0 m 0 = some (l, 0, m', z) := by
  intro d
  induction d with
  | zero =>
    intro i k m hd hi hk
    obtain ⟨k, rfl⟩ : ∃ j, k = j + 1 := ⟨k - 1, by omega⟩
    rw [spec_l01Source.l0, if_neg (show ¬ (i : Int) < 64 by omega)]
    (repeat' split) <;> exact ⟨_, _, rfl⟩
  | succ d ih =>
    intro i k m hd hi hk
    obtain ⟨k, rfl⟩ : ∃ j, k = j + 1 := ⟨k - 1, by omega⟩
    rw [spec_l01Source.l0, if_pos (show (i : Int) < 64 by omega), if_pos (show 0 ≤ (i : Int) by omega), wrap_small (show -9223372036854775808 ≤ (i : Int) + 1 by omega) (show (i : Int) + 1 ≤ 9223372036854775807 by omega)]
    by_cases c : (i : Int) < (l.length : Int)
    · rw [if_pos c]
      exact ih (i + 1) k _ (by omega) (by omega) (by omega)
    · rw [if_neg c]
      (repeat' split) <;> exact ⟨_, _, rfl⟩
theorem source_ok (l : List Int) (k : Nat) (hk : 70 < k) : ∃ m z, spec_l01Source.f k l = some (l, 0, m, z) := source_loop l 64 0 k _ rfl (by omega) (by omega)

theorem shl_range (x : Int) (n : Nat) (hn : n ≤ 64) : 0 ≤ shl .u64 x (n : Int) ∧ shl .u64 x (n : Int) < 18446744073709551616 := by rw [shl64 x n hn]; omega
theorem shr_range (x : Int) (n : Nat) (hn : n ≤ 64) (h0 : 0 ≤ x) (h1 : x < 18446744073709551616) : 0 ≤ shr .u64 x (n : Int) ∧ shr .u64 x (n : Int) < 18446744073709551616 := by
  rw [shr64 x n hn]
  have a := Int.ediv_nonneg h0 (Int.le_of_lt (pow_pos' n))
  have b := Int.ediv_le_self (2 ^ n) h0
  omega
theorem u64_loop {l : List Int} (z : Int) : ∀ (d j k : Nat) (x a m : Int), 8 - j = d → j ≤ 8 → d < k → St l a → 0 ≤ x → x < 18446744073709551616 → ∃ v a' m', spec_l01Src_u64.l0 k x (j : Int) l a m z = some (v, a', m', z) ∧ St l a' ∧ 0 ≤ v ∧ v < 18446744073709551616 := by
  intro d
  induction d with
  | zero =>
    intro j k x a m hd hj hk h h0 h1
    obtain ⟨k, rfl⟩ : ∃ i, k = i + 1 := ⟨k - 1, by omega⟩
    obtain ⟨r, a', m', e, h', r0, r1⟩ := n_ok h m z 64 (by omega)
    have wr : IntKind.u64.wrap r = ((r.toNat : Nat) : Int) := by rw [w64]; omega
    rw [spec_l01Src_u64.l0, if_neg (show ¬ (j : Int) < 8 by omega), e]
    simp only [Option.bind_some, wr]
    rw [if_pos (by omega)]
    have b := shr_range x r.toNat (by omega) h0 h1
    exact ⟨_, _, _, rfl, h', b.1, b.2⟩
  | succ d ih =>
    intro j k x a m hd hj hk h h0 h1
    obtain ⟨k, rfl⟩ : ∃ i, k = i + 1 := ⟨k - 1, by omega⟩
    obtain ⟨r, a', m', e, h', r0, r1⟩ := n_ok h m z 256 (by omega)
    rw [spec_l01Src_u64.l0, if_pos (show (j : Int) < 8 by omega), e]
    simp only [Option.bind_some]
    rw [wrap_small (show -9223372036854775808 ≤ (j : Int) + 1 by omega) (show (j : Int) + 1 ≤ 9223372036854775807 by omega)]
    have b := u64w (IntKind.u64.wrap (x * 256) + IntKind.u64.wrap r)
    exact ih (j + 1) k _ a' m' (by omega) (by omega) (by omega) h' b.1 b.2
theorem u64_ok {l : List Int} {a : Int} (h : St l a) (m z : Int) (k : Nat) (hk : 20 < k) : ∃ v a' m', spec_l01Src_u64.f k l a m z = some (v, a', m', z) ∧ St l a' ∧ 0 ≤ v ∧ v < 18446744073709551616 := by
  obtain ⟨r, a1, m1, e, h', r0, r1⟩ := n_ok h m z 6 (by omega)
  unfold spec_l01Src_u64.f
  rw [e]
  simp only [Option.bind_some]
  by_cases c0 : r = 0
  · obtain ⟨r2, a2, m2, e2, h2, _, _⟩ := n_ok h' m1 z 20 (by omega)
    rw [if_pos c0, e2]
    exact ⟨_, _, _, rfl, h2, (u64w _).1, (u64w _).2⟩
  rw [if_neg c0]
  by_cases c1 : r = 1
  · obtain ⟨r2, a2, m2, e2, h2, _, _⟩ := n_ok h' m1 z 20 (by omega)
    rw [if_pos c1, e2]
    exact ⟨_, _, _, rfl, h2, (u64w _).1, (u64w _).2⟩
  rw [if_neg c1]
  by_cases c2 : r = 2
  · obtain ⟨r2, a2, m2, e2, h2, p0, p1⟩ := n_ok h' m1 z 64 (by omega)
    have wr : IntKind.u64.wrap r2 = ((r2.toNat : Nat) : Int) := by rw [w64]; omega
    rw [if_pos c2, e2]
    simp only [Option.bind_some, wr]
    rw [if_pos (by omega)]
    have b := shl_range 1 r2.toNat (by omega)
    exact ⟨_, _, _, rfl, h2, b.1, b.2⟩
  rw [if_neg c2]
  exact u64_loop z 8 0 k 0 a1 m1 rfl (by omega) (by omega) h' (by omega) (by omega)
theorem wide_ok {l : List Int} {a : Int} (h : St l a) (m z : Int) (k : Nat) (hk : 20 < k) : ∃ hi lo a' m', spec_l01Src_wide.f k l a m z = some (hi, lo, a', m', z) ∧ St l a' ∧ (0 ≤ hi ∧ hi < 18446744073709551616) ∧ (0 ≤ lo ∧ lo < 18446744073709551616) := by
  obtain ⟨v, a1, m1, e1, h1, v0, v1⟩ := u64_ok h m z k hk
  obtain ⟨b, a2, m2, e2, h2⟩ := one_ok h1 m1 z 3 (by omega)
  obtain ⟨u, a3, m3, e3, h3, u0, u1⟩ := u64_ok h2 m2 z k hk
  unfold spec_l01Src_wide.f
  rw [e1]
  simp only [Option.bind_some, e2]
  cases b with
  | true => rw [if_pos rfl, e3]; exact ⟨_, _, _, _, rfl, h3, ⟨by omega, by omega⟩, u0, u1⟩
  | false => rw [if_neg (by decide), e3]; exact ⟨_, _, _, _, rfl, h3, ⟨v0, v1⟩, u0, u1⟩
theorem as_wide (hi lo : Int) (h : 0 ≤ hi ∧ hi < 18446744073709551616) (g : 0 ≤ lo ∧ lo < 18446744073709551616) : ∃ v, 0 ≤ v ∧ v < 340282366920938463463374607431768211456 ∧ hi = hiW v ∧ lo = loW v :=
  ⟨hi * 18446744073709551616 + lo, (val_of hi lo h.1 h.2 g.1 g.2).1, (val_of hi lo h.1 h.2 g.1 g.2).2, (hi_of hi lo g.1 g.2).symm, (lo_of hi lo g.1 g.2).symm⟩
theorem up {α : Type} {f : Nat → Option α} (hm : ∀ k, LeO (f k) (f (k + 1))) {K : Nat} {r : α} (h : f K = some r) : ∀ k, K ≤ k → f k = some r := by
  intro k hk
  obtain ⟨d, rfl⟩ : ∃ d, k = K + d := ⟨k - K, by omega⟩
  clear hk
  induction d with
  | zero => exact h
  | succ d ih => exact hm _ _ ih

theorem hi_of' (a : Int) (h0 : 0 ≤ a) (h1 : a < 18446744073709551616) : hiW (a * 18446744073709551616) = a := by unfold hiW; omega
theorem lo_of' (a : Int) : loW (a * 18446744073709551616) = 0 := by unfold loW; omega
/-! The text, read again. -/
theorem bt_byte (s : ByteArray) (i : Nat) : bt s (i : Int) = ((s.data.toList[i]?.map fun b => (b.toNat : Int)).getD 0) := by
  by_cases h : i < s.size
  · rw [bt_get s i h, List.getElem?_eq_getElem h]
    rfl
  · have h' : s.data.toList[i]? = none := List.getElem?_eq_none (by have : s.data.toList.length = s.size := rfl; omega)
    rw [h']
    unfold bt
    rw [dif_neg (by simpa using h)]
    rfl
theorem app_list (a b : ByteArray) : (a ++ b).data.toList = a.data.toList ++ b.data.toList := by simp [ByteArray.data_append]
theorem dig_list (v : Int) : (dig v).data.toList = [UInt8.ofNat (((IntKind.u64.wrap (48 + v % 10)) % 256).toNat)] := rfl
theorem dig_byte (v : Int) (x : ByteArray) : bt (dig v ++ x) ((0 : Nat) : Int) = 48 + v % 10 := by
  rw [bt_byte, app_list, dig_list]
  have e : IntKind.u64.wrap (48 + v % 10) % 256 = 48 + v % 10 := by rw [w64]; omega
  rw [e]
  have e2 : ((48 + v % 10).toNat : Int) = 48 + v % 10 := by omega
  have e3 : (48 + v % 10).toNat < 256 := by omega
  simp only [List.cons_append, List.nil_append, List.getElem?_cons_zero, Option.map_some, Option.getD_some]
  generalize (48 + v % 10).toNat = n at *
  have e4 : (UInt8.ofNat n).toNat = n := by simp [UInt8.toNat_ofNat]; omega
  rw [e4]
  exact e2
theorem dig_rest (v : Int) (x : ByteArray) (j : Nat) : bt (dig v ++ x) ((j + 1 : Nat) : Int) = bt x (j : Int) := by
  rw [bt_byte, bt_byte, app_list, dig_list]
  simp only [List.cons_append, List.nil_append, List.getElem?_cons_succ]
/-- The digits of v ahead of x. -/
def Reads (v : Int) (x r : ByteArray) (n : Nat) : Prop := ∃ m, r.size = m + x.size ∧ m ≤ n ∧ rd10 r m = v ∧ (∀ i, i < m → IsD r i) ∧ ∀ j, bt r ((m + j : Nat) : Int) = bt x (j : Int)
theorem reads_one (v : Int) (x : ByteArray) (n : Nat) (h0 : 0 ≤ v) (h1 : v < 10) : Reads v x (dig v ++ x) (n + 1) := by
  have b0 := dig_byte v x
  refine ⟨1, dig_app v x, by omega, ?_, ?_, ?_⟩
  · show (rd10 (dig v ++ x) 0 * 10 + (bt (dig v ++ x) ((0 : Nat) : Int) - 48)) % 340282366920938463463374607431768211456 = v
    rw [b0]
    show ((0 : Int) * 10 + (48 + v % 10 - 48)) % 340282366920938463463374607431768211456 = v
    omega
  · intro i hi
    obtain rfl : i = 0 := by omega
    unfold IsD
    rw [b0]
    omega
  · intro j
    rw [Nat.add_comm 1 j]
    exact dig_rest v x j
theorem reads_more (v : Int) (x r : ByteArray) (n : Nat) (h0 : 0 ≤ v) (h1 : v < 340282366920938463463374607431768211456) (h : Reads (v / 10) (dig v ++ x) r n) : Reads v x r (n + 1) := by
  obtain ⟨m, g1, g2, g3, g4, g5⟩ := h
  have b0 : bt r (m : Int) = 48 + v % 10 := by
    have := g5 0
    rw [dig_byte, Nat.add_zero] at this
    exact this
  refine ⟨m + 1, by rw [dig_app] at g1; omega, by omega, ?_, ?_, ?_⟩
  · show (rd10 r m * 10 + (bt r (m : Int) - 48)) % 340282366920938463463374607431768211456 = v
    rw [g3, b0]
    omega
  · intro i hi
    by_cases c : i < m
    · exact g4 i c
    · obtain rfl : i = m := by omega
      unfold IsD
      rw [b0]
      omega
  · intro j
    have := g5 (j + 1)
    rw [dig_rest] at this
    rw [show m + 1 + j = m + (j + 1) by omega]
    exact this
theorem text_reads : ∀ (n : Nat) (v : Int) (x : ByteArray), 1 ≤ v → v < 10 ^ n → v < 340282366920938463463374607431768211456 → x.size + n ≤ 100 → ∃ K r, Reads v x r n ∧ ∀ k, K ≤ k → impl_WideText.l0 k x (hiW v) (loW v) = some r := by
  intro n
  induction n with
  | zero => intro v x h0 h1; rw [Int.pow_zero] at h1; omega
  | succ n ih =>
    intro v x h0 h1 h2 hx
    obtain ⟨K1, hK1⟩ := impl_text_step v (by omega) h2
    by_cases hz : v / 10 = 0
    · refine ⟨K1 + 1, dig v ++ x, reads_one v x n (by omega) (by omega), fun k hk => ?_⟩
      obtain ⟨k, rfl⟩ : ∃ m, k = m + 1 := ⟨k - 1, by omega⟩
      rw [hK1 k (by omega) x (by omega), if_pos hz]
    · rw [Int.pow_succ] at h1
      obtain ⟨K, r, hr, hk'⟩ := ih (v / 10) (dig v ++ x) (by omega) (by omega) (by omega) (by rw [dig_app]; omega)
      refine ⟨K + K1 + 1, r, reads_more v x r n (by omega) h2 hr, fun k hk => ?_⟩
      obtain ⟨k, rfl⟩ : ∃ m, k = m + 1 := ⟨k - 1, by omega⟩
      rw [hK1 k (by omega) x (by omega), if_neg hz]
      exact hk' k (by omega)
theorem text_read (w : Int) (h0 : 0 ≤ w) (h1 : w < 340282366920938463463374607431768211456) : ∃ K r, r.size ≤ 39 ∧ rd10 r r.size = w ∧ (∀ i, i < r.size → IsD r i) ∧ ∀ k, K ≤ k → impl_WideText.f k (hiW w) (loW w) = some r := by
  have e0 : (⟨#[]⟩ : ByteArray).size = 0 := rfl
  by_cases hz : w = 0
  · subst hz
    obtain ⟨K, hK⟩ := impl_text_step 0 (by omega) (by omega)
    obtain ⟨m, g1, g2, g3, g4, g5⟩ := reads_one 0 ⟨#[]⟩ 0 (by omega) (by omega)
    have gm : (dig 0 ++ ⟨#[]⟩ : ByteArray).size = m := by omega
    refine ⟨K + 1, dig 0 ++ ⟨#[]⟩, by omega, by rw [gm]; exact g3, by rw [gm]; exact g4, fun k hk => ?_⟩
    obtain ⟨k, rfl⟩ : ∃ m, k = m + 1 := ⟨k - 1, by omega⟩
    unfold impl_WideText.f
    rw [hK k (by omega) _ (by decide), if_pos (by decide)]
  · obtain ⟨K, r, ⟨m, g1, g2, g3, g4, g5⟩, hk'⟩ := text_reads 39 w ⟨#[]⟩ (by omega) (by omega) h1 (by omega)
    have gm : r.size = m := by omega
    exact ⟨K, r, by omega, by rw [gm]; exact g3, by rw [gm]; exact g4, hk'⟩
theorem read_back (w : Int) (h0 : 0 ≤ w) (h1 : w < 340282366920938463463374607431768211456) : ∃ K r, ∀ k, K ≤ k → impl_WideText.f k (hiW w) (loW w) = some r ∧ impl_WideRead.f k r = some (hiW w, loW w, false, 0) := by
  obtain ⟨K, r, g1, g2, g3, hK⟩ := text_read w h0 h1
  refine ⟨K + 100, r, fun k hk => ⟨hK k (by omega), ?_⟩⟩
  have tr : Lib.trimS r.data.toList Dg = [] := (trim_nil _).2 ((all_digits r).2 g3)
  unfold impl_WideRead.f
  rw [if_neg (by omega), if_neg (by omega), trim_eq r (by omega), Option.bind_some, tr]
  obtain ⟨k, rfl⟩ : ∃ m, k = m + 1 := ⟨k - 1, by omega⟩
  rw [show ((⟨([] : List UInt8).toArray⟩ : ByteArray).toList != ([] : List UInt8)) = false by rw [ByteArray.toList_eq]; rfl, impl_WideRead.j0, if_neg (by decide)]
  have h := impl_good r (by omega) g3 r K (fun k hk => by rw [g2]; exact hK k hk) (r.size - 0) 0 k rfl (by omega) (by omega)
  rw [g2] at h
  unfold told at h
  rw [if_pos rfl] at h
  exact h
theorem same_back (w : Int) (r : Option Bool) (h : r = some ((hiW w == hiW w && (loW w == loW w)) && (!false && ((0 : Int) == 0)))) : r = some true := by
  rw [h]; simp
theorem law_j3 (w : Int) (h0 : 0 ≤ w) (h1 : w < 340282366920938463463374607431768211456) : ∃ K, ∀ k, K ≤ k → laws_FnWide.j3 (k + 1) false (hiW w) (loW w) = some true := by
  obtain ⟨K, r, hK⟩ := read_back w h0 h1
  refine ⟨K, fun k hk => ?_⟩
  rw [laws_FnWide.j3, if_neg (by decide), (hK k hk).1, Option.bind_some, (hK k hk).2]
  simp
theorem law_j2 (l : List Int) (K0 : Nat) (w n : Int) (hd : ∀ k, K0 ≤ k → spec_DrawWideDiv.f k l = some (hiW w, loW w, n)) (h0 : 0 ≤ w) (h1 : w < 340282366920938463463374607431768211456) (n0 : 0 ≤ n) (n1 : n < 18446744073709551616) : ∃ K, ∀ k, K ≤ k → laws_FnWide.j2 (k + 1) l false = some true := by
  obtain ⟨K3, hK3⟩ := law_j3 w h0 h1
  obtain ⟨K1, r, hK1⟩ := read_back w h0 h1
  by_cases hz : n = 0
  · refine ⟨K0 + K1, fun k hk => ?_⟩
    rw [laws_FnWide.j2, if_neg (by decide), hd k (by omega)]
    simp only [Option.bind_some]
    rw [if_pos hz, (hK1 k (by omega)).1, Option.bind_some, (hK1 k (by omega)).2]
    simp
  · obtain ⟨K2, hK2⟩ := impl_div_eq w n h0 h1 (by omega) n1
    refine ⟨K0 + K2 + K3 + 1, fun k hk => ?_⟩
    have em := Int.emod_def w n
    have m0 := Int.emod_nonneg w hz
    have m1 := Int.emod_lt_of_pos w (show 0 < n by omega)
    have q0 : 0 ≤ w / n := Int.ediv_nonneg h0 n0
    have q1 : w / n ≤ w := Int.ediv_le_self _ h0
    have q2 : w / n < 340282366920938463463374607431768211456 := by omega
    obtain ⟨a0, a1⟩ := hiW_range (w / n) q0 q2
    obtain ⟨b0, b1⟩ := loW_range (w / n)
    have ve := val_eq (w / n)
    have dist : n * (w / n) = hiW (w / n) * n * 18446744073709551616 + loW (w / n) * n := by
      conv => lhs; rw [← ve]
      rw [Int.mul_add, Int.mul_comm n (loW (w / n)), Int.mul_comm (hiW (w / n)) n, Int.mul_assoc]
    have ph : 0 ≤ hiW (w / n) * n := Int.mul_nonneg a0 n0
    have pl : 0 ≤ loW (w / n) * n := Int.mul_nonneg b0 n0
    rw [dist] at em
    have hmul := impl_mul_eq (hiW (w / n)) n a0 a1 n0 n1
    have lmul := impl_mul_eq (loW (w / n)) n b0 b1 n0 n1
    generalize hiW (w / n) * n = ph' at *
    generalize loW (w / n) * n = pl' at *
    have ph1 : ph' < 18446744073709551616 := by omega
    have pl1 : pl' < 340282366920938463463374607431768211456 := by omega
    have add1 := impl_add_eq pl' (ph' * 18446744073709551616) pl pl1 (by omega) (by omega)
    rw [hi_of' ph' ph ph1, lo_of' ph', Int.emod_eq_of_lt (show 0 ≤ pl' + ph' * 18446744073709551616 by omega) (by omega)] at add1
    have add2 := impl_add_eq (pl' + ph' * 18446744073709551616) (w % n) (by omega) (by omega) m0 (by omega)
    rw [hiW_small (w % n) m0 (by omega), loW_small (w % n) m0 (by omega), show pl' + ph' * 18446744073709551616 + w % n = w by omega, Int.emod_eq_of_lt h0 h1] at add2
    rw [laws_FnWide.j2, if_neg (by decide), hd k (by omega)]
    simp only [Option.bind_some]
    rw [if_neg hz, hK2 k (by omega)]
    simp only [Option.bind_some]
    rw [lmul, Option.bind_some, hmul]
    simp only [Option.bind_some]
    rw [loW_small ph' ph ph1, add1, Option.bind_some, if_neg (by omega), add2]
    simp only [Option.bind_some, beq_self_eq_true, Bool.not_true, Bool.or_self]
    obtain ⟨k, rfl⟩ : ∃ m, k = m + 1 := ⟨k - 1, by omega⟩
    exact hK3 k (by omega)
theorem cmp_neg (v u : Int) : cmpInt v u = wrap64 (-(cmpInt u v)) := by
  unfold cmpInt
  rcases Int.lt_trichotomy v u with h | h | h
  · rw [if_pos h, if_neg (by omega), if_pos h, wrap_small (by omega) (by omega)]
  · subst h; simp only [Int.lt_irrefl, if_false]; rw [wrap_small (by omega) (by omega)]; rfl
  · rw [if_neg (by omega), if_pos h, if_pos h, wrap_small (by omega) (by omega)]; rfl
theorem law_j1 (l : List Int) (v u : Int) (h0 : 0 ≤ v) (h1 : v < 340282366920938463463374607431768211456) (g0 : 0 ≤ u) (g1 : u < 340282366920938463463374607431768211456) (k : Nat) (hk : 3 < k) (h : laws_FnWide.j2 k l false = some true) : laws_FnWide.j1 (k + 1) l false (hiW v) (loW v) (hiW u) (loW u) = some true := by
  have lt : decide (cmpInt v u < 0) = decide (v < u) := by
    unfold cmpInt
    refine decide_eq_decide.2 ?_
    (repeat' split) <;> constructor <;> intro h_ <;> omega
  rw [laws_FnWide.j1, if_neg (by decide), impl_cmp_eq v u k hk, impl_cmp_eq u v k hk, impl_sub_eq v u h0 h1 g0 g1]
  simp only [Option.bind_some]
  rw [lt, ← cmp_neg v u]
  simpa using h
theorem law_j0 (l m : List Int) (v u : Int) (h0 : 0 ≤ v) (h1 : v < 340282366920938463463374607431768211456) (g0 : 0 ≤ u) (g1 : u < 340282366920938463463374607431768211456) (k : Nat) (hd : spec_DrawWideAdd.f k l = some (hiW v, loW v, hiW u, loW u)) (h : laws_FnWide.j1 k m false (hiW v) (loW v) (hiW u) (loW u) = some true) : laws_FnWide.j0 (k + 1) l m false = some true := by
  have s0 : 0 ≤ (v + u) % 340282366920938463463374607431768211456 := Int.emod_nonneg _ (by decide)
  have s1 : (v + u) % 340282366920938463463374607431768211456 < 340282366920938463463374607431768211456 := Int.emod_lt_of_pos _ (by decide)
  have e1 : ((v + u) % 340282366920938463463374607431768211456 - u) % 340282366920938463463374607431768211456 = v := by omega
  have e2 : decide ((v + u) % 340282366920938463463374607431768211456 < u) = decide (340282366920938463463374607431768211456 ≤ v + u) := decide_eq_decide.2 (by omega)
  have sub := impl_sub_eq ((v + u) % 340282366920938463463374607431768211456) u s0 s1 g0 g1
  rw [e1, e2] at sub
  have add2 := impl_add_eq u v g0 g1 h0 h1
  rw [Int.add_comm u v] at add2
  rw [laws_FnWide.j0, if_neg (by decide), hd]
  simp only [Option.bind_some]
  rw [impl_add_eq v u h0 h1 g0 g1]
  simp only [Option.bind_some]
  rw [sub, add2]
  simpa using h
theorem draw_add (l : List Int) (hl : l.length ≤ 140737488351232) : ∃ v u, (0 ≤ v ∧ v < 340282366920938463463374607431768211456) ∧ (0 ≤ u ∧ u < 340282366920938463463374607431768211456) ∧ spec_DrawWideAdd.f 100 l = some (hiW v, loW v, hiW u, loW u) := by
  obtain ⟨m, z, e0⟩ := source_ok l 100 (by omega)
  obtain ⟨hi, lo, a1, m1, e1, h1, b1, b2⟩ := wide_ok (l := l) (a := 0) ⟨hl, by omega, by omega⟩ m z 100 (by omega)
  obtain ⟨b, a2, m2, e2, h2⟩ := one_ok h1 m1 z 6 (by omega)
  obtain ⟨hi', lo', a3, m3, e3, h3, b3, b4⟩ := wide_ok h2 m2 z 100 (by omega)
  obtain ⟨v, v0, v1, rfl, rfl⟩ := as_wide hi lo b1 b2
  obtain ⟨u, u0, u1, rfl, rfl⟩ := as_wide hi' lo' b3 b4
  unfold spec_DrawWideAdd.f spec_l01Two.f
  rw [e0]
  simp only [Option.bind_some, e1, e2]
  cases b with
  | true => exact ⟨v, v, ⟨v0, v1⟩, ⟨v0, v1⟩, rfl⟩
  | false => rw [if_neg (by decide), e3]; exact ⟨v, u, ⟨v0, v1⟩, ⟨u0, u1⟩, rfl⟩
theorem draw_div (l : List Int) (hl : l.length ≤ 140737488351232) : ∃ w n, (0 ≤ w ∧ w < 340282366920938463463374607431768211456) ∧ (0 ≤ n ∧ n < 18446744073709551616) ∧ spec_DrawWideDiv.f 100 l = some (hiW w, loW w, n) := by
  obtain ⟨m, z, e0⟩ := source_ok l 100 (by omega)
  obtain ⟨hi, lo, a1, m1, e1, h1, b1, b2⟩ := wide_ok (l := l) (a := 0) ⟨hl, by omega, by omega⟩ m z 100 (by omega)
  obtain ⟨n, a2, m2, e2, h2, n0, n1⟩ := u64_ok h1 m1 z 100 (by omega)
  obtain ⟨w, w0, w1, rfl, rfl⟩ := as_wide hi lo b1 b2
  refine ⟨w, n, ⟨w0, w1⟩, ⟨n0, n1⟩, ?_⟩
  unfold spec_DrawWideDiv.f
  rw [e0]
  simp only [Option.bind_some, e1, e2]
theorem FnWide : laws_FnWide.Pure := by
  intro l m hl _ _ hm _ _
  have stop : ∀ k, laws_FnWide.j0 (k + 1) l m true = some true := fun k => by rw [laws_FnWide.j0, if_pos rfl]
  by_cases big : (l.length : Int) > 1048576
  · refine ⟨1, ?_⟩
    unfold laws_FnWide.f
    rw [if_pos big]
    exact stop 0
  by_cases big2 : (m.length : Int) > 1048576
  · refine ⟨1, ?_⟩
    unfold laws_FnWide.f
    rw [if_neg big, decide_eq_true big2]
    exact stop 0
  obtain ⟨v, u, hv, hu, e1⟩ := draw_add l (by omega)
  obtain ⟨w, n, hw, hn, e2⟩ := draw_div m (by omega)
  have e1' := up (spec_DrawWideAdd.mono l) e1
  have e2' := up (spec_DrawWideDiv.mono m) e2
  obtain ⟨K, hK⟩ := law_j2 m 100 w n e2' hw.1 hw.2 hn.1 hn.2
  refine ⟨K + 200 + 3, ?_⟩
  unfold laws_FnWide.f
  rw [if_neg big, decide_eq_false big2]
  exact law_j0 l m v u hv.1 hv.2 hu.1 hu.2 (K + 200 + 2) (e1' _ (by omega)) (law_j1 m v u hv.1 hv.2 hu.1 hu.2 (K + 200 + 1) (by omega) (hK (K + 200) (by omega)))

end Go.Proofs.YtpgaoihgohlmkaaDoor.Pure
