/- A drawn share times all weights is at most the amount times its weight, and one more is not. Conditions: none beyond the statement's own bounds. -/
import Derived.Test.YtpgaoihgohlmkaaXFnRatioSharex5
import Derived.Lib.ItoaNum
namespace Go.Proofs.Ytpgaoihgohlmkaa.Pure
open Go.RowKit Go.Proofs.Ytpgaoihgohlmkaa.XFnRatioShare Go.Proofs.YtpgaoihgohlmkaaW.PrintWords Go.Proofs.YtpgaoihgohlmkaaW.PrintLast Go.Proofs.YtpgaoihgohlmkaaW.PrintMore
set_option linter.unusedVariables false
set_option linter.unusedSimpArgs false

theorem wrap_small {x : Int} (h0 : -9223372036854775808 ≤ x) (h1 : x ≤ 9223372036854775807) : wrap64 x = x := by
  unfold wrap64
  omega
theorem i64_range {x : Int} (h : (Lit.int .i64 x).wf = true) : -9223372036854775808 ≤ x ∧ x ≤ 9223372036854775807 := by
  simp [Lit.wf, IntKind.min, IntKind.max, IntKind.bits, IntKind.signed] at h
  omega
theorem u64_range {x : Int} (h : (Lit.int .u64 x).wf = true) : 0 ≤ x ∧ x < 18446744073709551616 := by
  simp [Lit.wf, IntKind.min, IntKind.max, IntKind.bits, IntKind.signed] at h
  omega

theorem in_eq (a b c : Int) : impl_in.f a b c = some (decide (b ≤ a ∧ a ≤ c)) := by
  unfold impl_in.f
  by_cases h : b ≤ a <;> simp [h]

theorem isWeight_eq (a : Int) : impl_isWeight.f a = some (decide (1 ≤ a ∧ a ≤ 1073741824)) := by simp [impl_isWeight.f, in_eq]

theorem w64 (x : Int) : IntKind.u64.wrap x = x % 18446744073709551616 := by simp [IntKind.wrap, IntKind.bits, IntKind.signed]
/-- The two words of a wide number's value. -/
def hiW (v : Int) : Int := v / 18446744073709551616
def loW (v : Int) : Int := v % 18446744073709551616
theorem hi_of (a b : Int) (h0 : 0 ≤ b) (h1 : b < 18446744073709551616) : hiW (a * 18446744073709551616 + b) = a := by unfold hiW; omega
theorem lo_of (a b : Int) (h0 : 0 ≤ b) (h1 : b < 18446744073709551616) : loW (a * 18446744073709551616 + b) = b := by unfold loW; omega
theorem val_of (a b : Int) (ha0 : 0 ≤ a) (ha1 : a < 18446744073709551616) (hb0 : 0 ≤ b) (hb1 : b < 18446744073709551616) : 0 ≤ a * 18446744073709551616 + b ∧ a * 18446744073709551616 + b < 340282366920938463463374607431768211456 := by omega
theorem hiW_range (v : Int) (h0 : 0 ≤ v) (h1 : v < 340282366920938463463374607431768211456) : 0 ≤ hiW v ∧ hiW v < 18446744073709551616 := by unfold hiW; omega
theorem loW_range (v : Int) : 0 ≤ loW v ∧ loW v < 18446744073709551616 := by unfold loW; omega
theorem val_eq (v : Int) : hiW v * 18446744073709551616 + loW v = v := by unfold hiW loW; omega
theorem hiW_zero : hiW 0 = 0 := rfl
theorem loW_zero : loW 0 = 0 := rfl
theorem hiW_small (x : Int) (h0 : 0 ≤ x) (h1 : x < 18446744073709551616) : hiW x = 0 := by unfold hiW; omega
theorem loW_small (x : Int) (h0 : 0 ≤ x) (h1 : x < 18446744073709551616) : loW x = x := by unfold loW; omega
theorem emod_le' (b m : Int) (hb : 0 ≤ b) (hm : 0 < m) : b % m ≤ b := by
  have h1 := Int.emod_def b m
  have h2 := Int.mul_nonneg (Int.le_of_lt hm) (Int.ediv_nonneg hb (Int.le_of_lt hm))
  omega
theorem pow_pos' (j : Nat) : (0 : Int) < 2 ^ j := Int.pow_pos (by decide)
theorem emod_pow_succ (b : Int) (j : Nat) (hb : 0 ≤ b) : b % 2 ^ (j + 1) = b % 2 ^ j + 2 ^ j * (b / 2 ^ j % 2) := by
  obtain ⟨n, rfl⟩ := Int.eq_ofNat_of_zero_le hb
  have h := Nat.mod_mul (a := 2 ^ j) (b := 2) (x := n)
  rw [Int.pow_succ]
  exact_mod_cast h
theorem emod_mul_left (a b m : Int) : (a % m * b) % m = (a * b) % m := by rw [Int.mul_emod, Int.emod_emod, ← Int.mul_emod]

theorem wide_add (v u : Int) (hv0 : 0 ≤ v) (hv1 : v < 340282366920938463463374607431768211456) (hu0 : 0 ≤ u) (hu1 : u < 340282366920938463463374607431768211456) : spec_WideAdd.f (hiW v) (loW v) (hiW u) (loW u) = some (hiW ((v + u) % 340282366920938463463374607431768211456), loW ((v + u) % 340282366920938463463374607431768211456), decide (340282366920938463463374607431768211456 ≤ v + u), 0) := by
  unfold spec_WideAdd.f hiW loW
  simp only [w64]
  by_cases c1 : (v % 18446744073709551616 + u % 18446744073709551616) % 18446744073709551616 < v % 18446744073709551616
  · rw [if_pos c1]
    by_cases c2 : (v / 18446744073709551616 + u / 18446744073709551616) % 18446744073709551616 < v / 18446744073709551616
    · rw [if_pos c2]
      simp only [Option.some.injEq, Prod.mk.injEq]
      exact ⟨by omega, by omega, (decide_eq_true (by omega)).symm, trivial⟩
    · rw [if_neg c2]
      simp only [Option.some.injEq, Prod.mk.injEq]
      exact ⟨by omega, by omega, decide_eq_decide.2 (by omega), trivial⟩
  · rw [if_neg c1]
    by_cases c2 : (v / 18446744073709551616 + u / 18446744073709551616) % 18446744073709551616 < v / 18446744073709551616
    · rw [if_pos c2]
      simp only [Option.some.injEq, Prod.mk.injEq]
      exact ⟨by omega, by omega, (decide_eq_true (by omega)).symm, trivial⟩
    · rw [if_neg c2]
      simp only [Option.some.injEq, Prod.mk.injEq]
      exact ⟨by omega, by omega, decide_eq_decide.2 (by omega), trivial⟩

theorem wide_shl_loop : ∀ (n k : Nat) (v : Int), n < k → n ≤ 127 → 0 ≤ v → v < 340282366920938463463374607431768211456 → spec_WideShl.l0 k (n : Int) (hiW v) (loW v) = some (hiW (v * 2 ^ n % 340282366920938463463374607431768211456), loW (v * 2 ^ n % 340282366920938463463374607431768211456)) := by
  intro n
  induction n with
  | zero =>
    intro k v hk _ h0 h1
    obtain ⟨k, rfl⟩ : ∃ m, k = m + 1 := ⟨k - 1, by omega⟩
    simp only [spec_WideShl.l0]
    rw [if_neg (by omega), show v * 2 ^ 0 % 340282366920938463463374607431768211456 = v by omega]
  | succ n ih =>
    intro k v hk hn h0 h1
    obtain ⟨k, rfl⟩ : ∃ m, k = m + 1 := ⟨k - 1, by omega⟩
    simp only [spec_WideShl.l0]
    rw [if_pos (by omega), wide_add v v h0 h1 h0 h1]
    simp only [Option.bind_some]
    rw [show wrap64 (((n + 1 : Nat) : Int) - 1) = (n : Int) by unfold wrap64; omega, ih k _ (by omega) (by omega) (by omega) (by omega), emod_mul_left, show (v + v) * 2 ^ n = v * 2 ^ (n + 1) by rw [Int.pow_succ, ← Int.mul_assoc, Int.add_mul]; omega]
theorem wide_shl (n k : Nat) (v : Int) (hk : n + 1 < k) (hn : n ≤ 127) (h0 : 0 ≤ v) (h1 : v < 340282366920938463463374607431768211456) : spec_WideShl.f k (hiW v) (loW v) (n : Int) = some (hiW (v * 2 ^ n % 340282366920938463463374607431768211456), loW (v * 2 ^ n % 340282366920938463463374607431768211456)) := by
  obtain ⟨k, rfl⟩ : ∃ m, k = m + 1 := ⟨k - 1, by omega⟩
  unfold spec_WideShl.f
  rw [if_neg (by omega)]
  have hd : decide ((n : Int) > 127) = false := decide_eq_false (by omega)
  simp only [spec_WideShl.j0, hd]
  exact wide_shl_loop n k v (by omega) hn h0 h1
theorem wide_shl_out (n : Int) (k : Nat) (a b : Int) (hk : 0 < k) (hn : n < 0 ∨ 127 < n) : spec_WideShl.f k a b n = some (0, 0) := by
  obtain ⟨k, rfl⟩ : ∃ m, k = m + 1 := ⟨k - 1, by omega⟩
  unfold spec_WideShl.f
  by_cases h : n < 0
  · rw [if_pos h]; simp only [spec_WideShl.j0, if_true]
  · rw [if_neg h]
    have hd : decide (n > 127) = true := decide_eq_true (by omega)
    simp only [spec_WideShl.j0, hd, if_true]

theorem wraps_u64 : ∀ n : Int, 0 ≤ n → n < 2 ^ 64 → IntKind.u64.wrap n = n := fun n h0 h1 => by rw [w64]; omega
theorem and_one (x : Int) (h0 : 0 ≤ x) (h1 : x < 18446744073709551616) : Go.bits .and .u64 x 1 = x % 2 := bits_mask .u64 64 (by decide) wraps_u64 1 (by decide) x h0 (by omega)
theorem and_low (x : Int) (h0 : 0 ≤ x) (h1 : x < 18446744073709551616) : Go.bits .and .u64 x 4294967295 = x % 4294967296 := bits_mask .u64 64 (by decide) wraps_u64 32 (by decide) x h0 (by omega)

theorem wide_mul_loop (a b : Int) (ha0 : 0 ≤ a) (ha1 : a < 18446744073709551616) (hb0 : 0 ≤ b) (hb1 : b < 18446744073709551616) : ∀ (d j k : Nat), 64 - j = d → j ≤ 64 → d + 130 < k → spec_WideMul.l0 k a b (j : Int) (hiW (a * (b % 2 ^ j))) (loW (a * (b % 2 ^ j))) = some (hiW (a * b), loW (a * b)) := by
  intro d
  induction d with
  | zero =>
    intro j k hd hj hk
    obtain ⟨k, rfl⟩ : ∃ m, k = m + 1 := ⟨k - 1, by omega⟩
    obtain rfl : j = 64 := by omega
    simp only [spec_WideMul.l0]
    rw [if_neg (by omega), show b % 2 ^ 64 = b by omega]
  | succ d ih =>
    intro j k hd hj hk
    obtain ⟨k, rfl⟩ : ∃ m, k = m + 1 := ⟨k - 1, by omega⟩
    have a1 : (j : Int) < 64 := by omega
    have a2 : (0 : Int) ≤ (j : Int) := by omega
    have ej : wrap64 ((j : Int) + 1) = ((j + 1 : Nat) : Int) := by unfold wrap64; omega
    have hw : IntKind.u64.wrap (j : Int) = j := by rw [w64]; omega
    have nxt := ih (j + 1) k (by omega) (by omega) (by omega)
    have hk2 : j + 1 < k := by omega
    have hj2 : j ≤ 127 := by omega
    have hp := pow_pos' j
    have hsh : shr .u64 b (j : Int) = b / 2 ^ j := by
      unfold shr
      rw [show min (j : Int).toNat (IntKind.bits .u64) = j by simp [IntKind.bits]; omega]
    have hq0 : 0 ≤ b / 2 ^ j := Int.ediv_nonneg hb0 (Int.le_of_lt hp)
    have hq1 : b / 2 ^ j < 18446744073709551616 := Int.lt_of_le_of_lt (Int.ediv_le_self _ hb0) hb1
    have hm0 : 0 ≤ b % 2 ^ j := Int.emod_nonneg _ (Int.ne_of_gt hp)
    have hm1 : b % 2 ^ j ≤ b := emod_le' b _ hb0 hp
    have step := emod_pow_succ b j hb0
    have hm2 : b % 2 ^ (j + 1) ≤ b := emod_le' b _ hb0 (pow_pos' _)
    have hm3 : 0 ≤ b % 2 ^ (j + 1) := Int.emod_nonneg _ (Int.ne_of_gt (pow_pos' _))
    have s := wide_shl j k a hk2 hj2 ha0 (by omega)
    rw [hiW_small a ha0 ha1, loW_small a ha0 ha1] at s
    simp only [spec_WideMul.l0, hw, a1, a2, if_true, hsh, and_one _ hq0 hq1, ej]
    clear hw ej hsh ih hk hk2 hj2 a1 a2 hd hj
    generalize hP : (2 : Int) ^ j = P at *
    generalize hP2 : b % 2 ^ (j + 1) = B at *
    generalize hB0 : b % P = C at *
    generalize hB1 : b / P = D at *
    by_cases hbit : D % 2 = 1
    · rw [if_pos hbit]
      rw [hbit, Int.mul_one] at step
      have bd : ∀ x : Int, 0 ≤ x → x ≤ b → 0 ≤ a * x ∧ a * x < 340282366920938463463374607431768211456 := fun x h0 h1 => by
        have h2 : a * x ≤ a * 18446744073709551615 := Int.mul_le_mul_of_nonneg_left (by omega) ha0
        have h3 := Int.mul_nonneg ha0 h0
        exact ⟨h3, by omega⟩
      have b1 := bd P (Int.le_of_lt hp) (by omega)
      have b2 := bd C hm0 hm1
      have b3 := bd B hm3 hm2
      have hsum : a * C + a * P = a * B := by rw [step, Int.mul_add]
      rw [Int.emod_eq_of_lt b1.1 b1.2] at s
      rw [s]
      simp only [Option.bind_some]
      rw [wide_add _ _ b2.1 b2.2 b1.1 b1.2]
      simp only [Option.bind_some]
      rw [hsum, Int.emod_eq_of_lt b3.1 b3.2]
      exact nxt
    · rw [if_neg hbit]
      have h0 : D % 2 = 0 := by omega
      rw [h0, Int.mul_zero, Int.add_zero] at step
      rw [← step]
      exact nxt
theorem wide_mul (a b : Int) (k : Nat) (hk : 200 < k) (ha0 : 0 ≤ a) (ha1 : a < 18446744073709551616) (hb0 : 0 ≤ b) (hb1 : b < 18446744073709551616) : spec_WideMul.f k a b = some (hiW (a * b), loW (a * b)) := by
  have h := wide_mul_loop a b ha0 ha1 hb0 hb1 64 0 k (by omega) (by omega) (by omega)
  have e : a * (b % 2 ^ 0) = 0 := by simp
  rw [e] at h
  exact h

theorem mul64_eq (a b : Int) (ha0 : 0 ≤ a) (ha1 : a < 18446744073709551616) (hb0 : 0 ≤ b) (hb1 : b < 18446744073709551616) : bits_Mul64.f a b = some (hiW (a * b), loW (a * b)) := by
  unfold bits_Mul64.f
  rw [and_low a ha0 ha1, and_low b hb0 hb1]
  generalize ea : a / 4294967296 = x1
  generalize ea0 : a % 4294967296 = x0
  generalize eb : b / 4294967296 = y1
  generalize eb0 : b % 4294967296 = y0
  have a_eq : a = x1 * 4294967296 + x0 := by omega
  have b_eq : b = y1 * 4294967296 + y0 := by omega
  have hx1 : 0 ≤ x1 ∧ x1 ≤ 4294967295 := by omega
  have hx0 : 0 ≤ x0 ∧ x0 ≤ 4294967295 := by omega
  have hy1 : 0 ≤ y1 ∧ y1 ≤ 4294967295 := by omega
  have hy0 : 0 ≤ y0 ∧ y0 ≤ 4294967295 := by omega
  have bd : ∀ p q : Int, 0 ≤ p ∧ p ≤ 4294967295 → 0 ≤ q ∧ q ≤ 4294967295 → 0 ≤ p * q ∧ p * q ≤ 18446744065119617025 := fun p q hp hq =>
    ⟨Int.mul_nonneg hp.1 hq.1, Int.le_trans (Int.mul_le_mul hp.2 hq.2 hq.1 (by omega)) (by omega)⟩
  have b11 := bd x1 y1 hx1 hy1
  have b10 := bd x1 y0 hx1 hy0
  have b01 := bd x0 y1 hx0 hy1
  have b00 := bd x0 y0 hx0 hy0
  have prod : a * b = x1 * y1 * 18446744073709551616 + (x1 * y0 + x0 * y1) * 4294967296 + x0 * y0 := by
    rw [a_eq, b_eq, Int.add_mul, Int.mul_add, Int.mul_add]
    have e1 : x1 * 4294967296 * (y1 * 4294967296) = x1 * y1 * 18446744073709551616 := by
      rw [Int.mul_assoc, ← Int.mul_assoc 4294967296, Int.mul_comm 4294967296 y1, Int.mul_assoc y1, ← Int.mul_assoc x1]
      rfl
    have e2 : x1 * 4294967296 * y0 = x1 * y0 * 4294967296 := by rw [Int.mul_assoc, Int.mul_comm 4294967296 y0, ← Int.mul_assoc]
    have e3 : x0 * (y1 * 4294967296) = x0 * y1 * 4294967296 := by rw [← Int.mul_assoc]
    rw [e1, e2, e3, Int.add_mul]
    omega
  have hab : a * b < 340282366920938463463374607431768211456 := by
    have h2 : a * b ≤ a * 18446744073709551615 := Int.mul_le_mul_of_nonneg_left (by omega) ha0
    omega
  rw [prod] at hab
  rw [prod]
  generalize x1 * y1 = p11 at *
  generalize x1 * y0 = p10 at *
  generalize x0 * y1 = p01 at *
  generalize x0 * y0 = p00 at *
  simp only [w64]
  have m11 : p11 % 18446744073709551616 = p11 := Int.emod_eq_of_lt b11.1 (by omega)
  have m10 : p10 % 18446744073709551616 = p10 := Int.emod_eq_of_lt b10.1 (by omega)
  have m01 : p01 % 18446744073709551616 = p01 := Int.emod_eq_of_lt b01.1 (by omega)
  have m00 : p00 % 18446744073709551616 = p00 := Int.emod_eq_of_lt b00.1 (by omega)
  rw [and_low _ (by omega) (by omega)]
  simp only [m11, m10, m01, m00]
  clear m11 m10 m01 m00 bd prod a_eq b_eq hx1 hx0 hy1 hy0 ea ea0 eb eb0
  have hr : 0 ≤ p00 - p00 / 4294967296 * 4294967296 ∧ p00 - p00 / 4294967296 * 4294967296 < 4294967296 := by omega
  have hqb : 0 ≤ p00 / 4294967296 ∧ p00 / 4294967296 ≤ 4294967294 := by omega
  generalize p00 / 4294967296 = q at *
  have mt : (p10 + q) % 18446744073709551616 = p10 + q := Int.emod_eq_of_lt (by omega) (by omega)
  simp only [mt]
  have ht : 0 ≤ (p10 + q) / 4294967296 ∧ (p10 + q) / 4294967296 ≤ 4294967295 := by omega
  have ht0 : (p10 + q) % 4294967296 = (p10 + q) - (p10 + q) / 4294967296 * 4294967296 ∧ 0 ≤ (p10 + q) % 4294967296 ∧ (p10 + q) % 4294967296 < 4294967296 := by omega
  generalize (p10 + q) / 4294967296 = t1 at *
  generalize (p10 + q) % 4294967296 = t0 at *
  have mw : (t0 + p01) % 18446744073709551616 = t0 + p01 := Int.emod_eq_of_lt (by omega) (by omega)
  simp only [mw]
  have hw1 : 0 ≤ (t0 + p01) / 4294967296 ∧ (t0 + p01) / 4294967296 ≤ 4294967295 := by omega
  have hw0 : 0 ≤ (t0 + p01) - (t0 + p01) / 4294967296 * 4294967296 ∧ (t0 + p01) - (t0 + p01) / 4294967296 * 4294967296 < 4294967296 := by omega
  generalize (t0 + p01) / 4294967296 = w1 at *
  have total : p11 * 18446744073709551616 + (p10 + p01) * 4294967296 + p00 = (p11 + t1 + w1) * 18446744073709551616 + ((t0 + p01 - w1 * 4294967296) * 4294967296 + (p00 - q * 4294967296)) := by omega
  have low : 0 ≤ (t0 + p01 - w1 * 4294967296) * 4294967296 + (p00 - q * 4294967296) ∧ (t0 + p01 - w1 * 4294967296) * 4294967296 + (p00 - q * 4294967296) < 18446744073709551616 := by omega
  rw [total]
  rw [total] at hab
  clear total
  generalize (t0 + p01 - w1 * 4294967296) * 4294967296 + (p00 - q * 4294967296) = z at *
  have hS : p11 + t1 + w1 < 18446744073709551616 := by omega
  have hS1 : (p11 + t1) % 18446744073709551616 = p11 + t1 := Int.emod_eq_of_lt (by omega) (by omega)
  have hS2 : (p11 + t1 + w1) % 18446744073709551616 = p11 + t1 + w1 := Int.emod_eq_of_lt (by omega) hS
  have hD : ((p11 + t1 + w1) * 18446744073709551616 + z) / 18446744073709551616 = p11 + t1 + w1 := by
    rw [Int.add_comm, Int.add_mul_ediv_right _ _ (by decide), Int.ediv_eq_zero_of_lt low.1 low.2, Int.zero_add]
  unfold hiW loW
  rw [hS1, hS2, hD]
theorem impl_mul_eq (a b : Int) (ha0 : 0 ≤ a) (ha1 : a < 18446744073709551616) (hb0 : 0 ≤ b) (hb1 : b < 18446744073709551616) : impl_WideMul.f a b = some (hiW (a * b), loW (a * b)) := by
  unfold impl_WideMul.f
  rw [mul64_eq a b ha0 ha1 hb0 hb1]
  rfl

/-- -1, 0, 1. -/
def cmpInt (x y : Int) : Int := if x < y then -1 else if y < x then 1 else 0
theorem spec_cmp_eq (v u : Int) : spec_WideCmp.f (hiW v) (loW v) (hiW u) (loW u) = some (cmpInt v u) := by
  have r1 := loW_range v
  have r2 := loW_range u
  have e1 := val_eq v
  have e2 := val_eq u
  unfold spec_WideCmp.f cmpInt
  generalize hiW v = a at *
  generalize loW v = b at *
  generalize hiW u = c at *
  generalize loW u = d at *
  (repeat' split) <;> first | rfl | (exfalso; omega)

theorem shl64 (x : Int) (n : Nat) (hn : n ≤ 64) : shl .u64 x (n : Int) = x * 2 ^ n % 18446744073709551616 := by
  unfold shl
  rw [w64, show min (n : Int).toNat (IntKind.bits .u64) = n by simp [IntKind.bits]; omega]
theorem shr64 (x : Int) (n : Nat) (hn : n ≤ 64) : shr .u64 x (n : Int) = x / 2 ^ n := by
  unfold shr
  rw [show min (n : Int).toNat (IntKind.bits .u64) = n by simp [IntKind.bits]; omega]
theorem pow_split (n : Nat) (hn : n ≤ 64) : (2 : Int) ^ n * 2 ^ (64 - n) = 18446744073709551616 := by
  rw [← Int.pow_add, show n + (64 - n) = 64 by omega]
  rfl
theorem pow_le64 (n : Nat) (hn : n ≤ 64) : (1 : Int) ≤ 2 ^ n ∧ (2 : Int) ^ n ≤ 18446744073709551616 := by
  have h1 := pow_pos' n
  have h2 := pow_pos' (64 - n)
  have h3 := pow_split n hn
  refine ⟨by omega, ?_⟩
  rw [← h3]
  have h4 := Int.mul_le_mul_of_nonneg_left (show (1 : Int) ≤ 2 ^ (64 - n) by omega) (Int.le_of_lt h1)
  rw [Int.mul_one] at h4
  exact h4
/-- Two words whose bits do not meet. -/
theorem or_join (x y : Int) (i : Nat) (hi : i ≤ 64) (hx0 : 0 ≤ x) (hx1 : x < 18446744073709551616) (hm : x % 2 ^ i = 0) (hy0 : 0 ≤ y) (hy1 : y < 2 ^ i) : Go.bits .or .u64 x y = x + y :=
  bits_join .u64 64 (by decide) wraps_u64 i x y hx0 hm (by omega) hy0 hy1 (by have := (pow_le64 i hi).2; omega)
theorem or_join' (x y : Int) (i : Nat) (hi : i ≤ 64) (hx0 : 0 ≤ x) (hx1 : x < 18446744073709551616) (hm : x % 2 ^ i = 0) (hy0 : 0 ≤ y) (hy1 : y < 2 ^ i) : Go.bits .or .u64 y x = x + y := by
  have h := or_join x y i hi hx0 hx1 hm hy0 hy1
  have hy2 : y < 2 ^ 64 := by have := (pow_le64 i hi).2; omega
  obtain ⟨a, rfl⟩ := Int.eq_ofNat_of_zero_le hx0
  obtain ⟨b, rfl⟩ := Int.eq_ofNat_of_zero_le hy0
  have ha : a < 2 ^ 64 := by omega
  have hb : b < 2 ^ 64 := by omega
  rw [(bits_nat .u64 64 (by decide) wraps_u64 a b ha hb).2] at h
  rw [(bits_nat .u64 64 (by decide) wraps_u64 b a hb ha).2, Nat.or_comm]
  exact h

/-! One digit of the long division: Y = yn1 * 2^32 + yn0, un < Y, d the next half word. -/
theorem digit_iff (yn1 yn0 un d qh rh : Int) (hY0 : 0 < yn1 * 4294967296 + yn0) (h : qh * yn1 + rh = un) : (un * 4294967296 + d) / (yn1 * 4294967296 + yn0) < qh ↔ rh * 4294967296 + d < qh * yn0 := by
  have e : qh * (yn1 * 4294967296 + yn0) = (qh * yn1) * 4294967296 + qh * yn0 := by rw [Int.mul_add, Int.mul_assoc]
  have h1 : (un * 4294967296 + d) / (yn1 * 4294967296 + yn0) < qh ↔ un * 4294967296 + d < qh * (yn1 * 4294967296 + yn0) := Int.ediv_lt_iff_lt_mul hY0
  rw [h1, e]
  generalize qh * yn1 = p1 at *
  generalize qh * yn0 = p0 at *
  omega
theorem digit_start (yn1 yn0 un d : Int) (h1 : 2147483648 ≤ yn1) (h1' : yn1 < 4294967296) (h0 : 0 ≤ yn0) (h0' : yn0 < 4294967296) (hu0 : 0 ≤ un) (hu : un < yn1 * 4294967296 + yn0) (hd0 : 0 ≤ d) (hd1 : d < 4294967296) :
    (un * 4294967296 + d) / (yn1 * 4294967296 + yn0) ≤ un / yn1 ∧ un / yn1 ≤ 4294967297 ∧ un / yn1 * yn1 + (un - un / yn1 * yn1) = un ∧ 0 ≤ un - un / yn1 * yn1 ∧ un - un / yn1 * yn1 < 4294967296 ∧ 0 ≤ (un * 4294967296 + d) / (yn1 * 4294967296 + yn0) ∧ (un * 4294967296 + d) / (yn1 * 4294967296 + yn0) < 4294967296 ∧ un / yn1 * yn1 ≤ un ∧ 0 ≤ un / yn1 * yn1 := by
  have hY0 : 0 < yn1 * 4294967296 + yn0 := by omega
  have hy : 0 < yn1 := by omega
  have hU0 : 0 ≤ un * 4294967296 + d := by omega
  have q0 : 0 ≤ (un * 4294967296 + d) / (yn1 * 4294967296 + yn0) := Int.ediv_nonneg hU0 (by omega)
  have qB : (un * 4294967296 + d) / (yn1 * 4294967296 + yn0) < 4294967296 := Int.ediv_lt_of_lt_mul hY0 (by rw [Int.mul_comm 4294967296]; omega)
  have m1 : (un * 4294967296 + d) / (yn1 * 4294967296 + yn0) * (yn1 * 4294967296 + yn0) ≤ un * 4294967296 + d := Int.ediv_mul_le _ (by omega)
  have e1 := Int.emod_def un yn1
  have e2 := Int.emod_nonneg un (Int.ne_of_gt hy)
  have e3 := Int.emod_lt_of_pos un hy
  have e4 : yn1 * (un / yn1) = un / yn1 * yn1 := Int.mul_comm _ _
  have n0 : 0 ≤ un / yn1 := Int.ediv_nonneg hu0 (by omega)
  have n1 : un / yn1 < 4294967298 := Int.ediv_lt_of_lt_mul hy (by omega)
  have n2 : 0 ≤ un / yn1 * yn1 := Int.mul_nonneg n0 (by omega)
  refine ⟨?_, by omega, by omega, by omega, by omega, q0, qB, by omega, n2⟩
  refine Int.le_ediv_of_mul_le hy ?_
  generalize (un * 4294967296 + d) / (yn1 * 4294967296 + yn0) = q at *
  have e5 : q * (yn1 * 4294967296 + yn0) = q * yn1 * 4294967296 + q * yn0 := by rw [Int.mul_add, Int.mul_assoc]
  have e6 : 0 ≤ q * yn0 := Int.mul_nonneg q0 h0
  rw [e5] at m1
  generalize q * yn1 = p1 at *
  generalize q * yn0 = p0 at *
  omega
theorem digit_test (yn1 yn0 un d qh rh : Int) (h1 : 2147483648 ≤ yn1) (h0 : 0 ≤ yn0) (h0' : yn0 < 4294967296) (hd0 : 0 ≤ d) (hd1 : d < 4294967296) (h : qh * yn1 + rh = un) (hq0 : 0 ≤ qh) (hq1 : qh < 4294967296) (hr0 : 0 ≤ rh) (hr1 : rh < 4294967296) :
    decide ((IntKind.u64.wrap (qh * yn0)) > (IntKind.u64.wrap ((IntKind.u64.wrap (4294967296 * rh)) + d))) = decide ((un * 4294967296 + d) / (yn1 * 4294967296 + yn0) < qh) := by
  have hi := digit_iff yn1 yn0 un d qh rh (by omega) h
  have b1 : 0 ≤ qh * yn0 := Int.mul_nonneg hq0 h0
  have b2 : qh * yn0 ≤ 4294967295 * 4294967295 := Int.mul_le_mul (by omega) (by omega) h0 (by omega)
  have s1 : IntKind.u64.wrap (qh * yn0) = qh * yn0 := by rw [w64]; exact Int.emod_eq_of_lt b1 (by omega)
  have s2 : IntKind.u64.wrap ((IntKind.u64.wrap (4294967296 * rh)) + d) = rh * 4294967296 + d := by simp only [w64]; omega
  rw [s1, s2]
  exact decide_eq_decide.2 ⟨fun g => hi.2 g, fun g => hi.1 g⟩
/-- At a break: the digit is found. -/
theorem digit_break (yn1 yn0 un d qh rh : Int) (h1 : 2147483648 ≤ yn1) (h0 : 0 ≤ yn0) (h0' : yn0 < 4294967296) (hd0 : 0 ≤ d) (h : qh * yn1 + rh = un) (hq0 : 0 ≤ qh) (hq1 : qh ≤ 4294967296) (hr : 4294967296 ≤ rh) : qh ≤ (un * 4294967296 + d) / (yn1 * 4294967296 + yn0) := by
  have hi := digit_iff yn1 yn0 un d qh rh (by omega) h
  have b2 : qh * yn0 ≤ 4294967296 * 4294967295 := Int.mul_le_mul hq1 (by omega) h0 (by omega)
  refine Int.not_lt.1 fun g => ?_
  have := hi.1 g
  omega
section
variable (Y s yn1 yn0 un d un0 : Int) (h1 : 2147483648 ≤ yn1) (h1' : yn1 < 4294967296) (h0 : 0 ≤ yn0) (h0' : yn0 < 4294967296) (hd0 : 0 ≤ d) (hd1 : d < 4294967296)
include h1 h1' h0 h0' hd0 hd1
theorem div_l0 (q : Int) (hq : (un * 4294967296 + d) / (yn1 * 4294967296 + yn0) = q) (q0 : 0 ≤ q) (qB : q < 4294967296) (R : Option (Int × Int)) (K : Nat) (hK : ∀ k, K ≤ k → bits_Div64.j2 k Y s yn1 yn0 un d un0 q = R) :
    ∀ (n : Nat) (qh rh : Int), qh = q + n → qh ≤ 4294967297 → qh * yn1 + rh = un → 0 ≤ rh → rh < 4294967296 → ∃ K', ∀ k, K' ≤ k → bits_Div64.l0 k Y s yn1 yn0 un d un0 qh rh = R := by
  intro n
  induction n with
  | zero =>
    intro qh rh e hqb h hr0 hr1
    refine ⟨K + 2, fun k hk => ?_⟩
    obtain ⟨k, rfl⟩ : ∃ m, k = m + 2 := ⟨k - 2, by omega⟩
    have e' : qh = q := by omega
    have t := digit_test yn1 yn0 un d qh rh h1 h0 h0' hd0 hd1 h (by omega) (by omega) hr0 hr1
    rw [hq, decide_eq_false (show ¬ q < qh by omega)] at t
    simp only [bits_Div64.l0]
    rw [if_neg (show ¬ qh ≥ 4294967296 by omega), t]
    simp only [bits_Div64.j1, Bool.false_eq_true, if_false]
    rw [e']
    exact hK k (by omega)
  | succ n ih =>
    intro qh rh e hqb h hr0 hr1
    have e1 : IntKind.u64.wrap (qh - 1) = qh - 1 := by rw [w64]; omega
    have e2 : IntKind.u64.wrap (rh + yn1) = rh + yn1 := by rw [w64]; omega
    have h' : (qh - 1) * yn1 + (rh + yn1) = un := by
      rw [Int.sub_mul, Int.one_mul, ← h]
      generalize qh * yn1 = p
      omega
    have hbrk : ∀ k, K ≤ k → (rh + yn1 ≥ 4294967296) → bits_Div64.j2 k Y s yn1 yn0 un d un0 (qh - 1) = R := fun k hk hb => by
      have := digit_break yn1 yn0 un d (qh - 1) (rh + yn1) h1 h0 h0' hd0 h' (by omega) (by omega) hb
      rw [show qh - 1 = q by omega]
      exact hK k hk
    by_cases hb : rh + yn1 ≥ 4294967296
    · refine ⟨K + 2, fun k hk => ?_⟩
      obtain ⟨k, rfl⟩ : ∃ m, k = m + 2 := ⟨k - 2, by omega⟩
      simp only [bits_Div64.l0]
      by_cases hB : qh ≥ 4294967296
      · rw [if_pos hB]
        simp only [bits_Div64.j1, if_true, e1, e2]
        rw [if_pos hb]
        exact hbrk k (by omega) hb
      · have t := digit_test yn1 yn0 un d qh rh h1 h0 h0' hd0 hd1 h (by omega) (by omega) hr0 hr1
        rw [hq, decide_eq_true (show q < qh by omega)] at t
        rw [if_neg hB, t]
        simp only [bits_Div64.j1, if_true, e1, e2]
        rw [if_pos hb]
        exact hbrk k (by omega) hb
    · obtain ⟨K', hK'⟩ := ih (qh - 1) (rh + yn1) (by omega) (by omega) h' (by omega) (by omega)
      refine ⟨K' + 2, fun k hk => ?_⟩
      obtain ⟨k, rfl⟩ : ∃ m, k = m + 2 := ⟨k - 2, by omega⟩
      have hk' := hK' k (by omega)
      clear hK' ih
      by_cases hB : qh ≥ 4294967296
      · rw [show bits_Div64.l0 (k + 2) Y s yn1 yn0 un d un0 qh rh = bits_Div64.j1 (k + 1) Y s yn1 yn0 un d un0 qh rh true by rw [bits_Div64.l0, if_pos hB]]
        simp only [bits_Div64.j1, if_true, e1, e2]
        rw [if_neg hb]
        exact hk'
      · have t := digit_test yn1 yn0 un d qh rh h1 h0 h0' hd0 hd1 h (by omega) (by omega) hr0 hr1
        rw [hq, decide_eq_true (show q < qh by omega)] at t
        rw [show bits_Div64.l0 (k + 2) Y s yn1 yn0 un d un0 qh rh = bits_Div64.j1 (k + 1) Y s yn1 yn0 un d un0 qh rh true by rw [bits_Div64.l0, if_neg hB, t]]
        simp only [bits_Div64.j1, if_true, e1, e2]
        rw [if_neg hb]
        exact hk'
theorem div_l1 (hs : 0 ≤ s) (q1 : Int) (q : Int) (hq : (un * 4294967296 + d) / (yn1 * 4294967296 + yn0) = q) (q0 : 0 ≤ q) (qB : q < 4294967296) (R : Option (Int × Int)) (hR : some (IntKind.u64.wrap ((IntKind.u64.wrap (q1 * 4294967296)) + q), shr .u64 (IntKind.u64.wrap ((IntKind.u64.wrap ((IntKind.u64.wrap (un * 4294967296)) + d)) - (IntKind.u64.wrap (q * Y)))) s) = R) :
    ∀ (n : Nat) (qh rh : Int), qh = q + n → qh ≤ 4294967297 → qh * yn1 + rh = un → 0 ≤ rh → rh < 4294967296 → ∃ K', ∀ k, K' ≤ k → bits_Div64.l1 k Y s yn1 yn0 d q1 rh un qh = R := by
  intro n
  induction n with
  | zero =>
    intro qh rh e hqb h hr0 hr1
    refine ⟨2, fun k hk => ?_⟩
    obtain ⟨k, rfl⟩ : ∃ m, k = m + 2 := ⟨k - 2, by omega⟩
    have e' : qh = q := by omega
    have t := digit_test yn1 yn0 un d qh rh h1 h0 h0' hd0 hd1 h (by omega) (by omega) hr0 hr1
    rw [hq, decide_eq_false (show ¬ q < qh by omega)] at t
    simp only [bits_Div64.l1]
    rw [if_neg (show ¬ qh ≥ 4294967296 by omega), t]
    simp only [bits_Div64.j4, Bool.false_eq_true, if_false]
    rw [if_pos hs, e']
    exact hR
  | succ n ih =>
    intro qh rh e hqb h hr0 hr1
    have e1 : IntKind.u64.wrap (qh - 1) = qh - 1 := by rw [w64]; omega
    have e2 : IntKind.u64.wrap (rh + yn1) = rh + yn1 := by rw [w64]; omega
    have h' : (qh - 1) * yn1 + (rh + yn1) = un := by
      rw [Int.sub_mul, Int.one_mul, ← h]
      generalize qh * yn1 = p
      omega
    by_cases hb : rh + yn1 ≥ 4294967296
    · have hx : qh - 1 = q := by
        have := digit_break yn1 yn0 un d (qh - 1) (rh + yn1) h1 h0 h0' hd0 h' (by omega) (by omega) hb
        omega
      refine ⟨2, fun k hk => ?_⟩
      obtain ⟨k, rfl⟩ : ∃ m, k = m + 2 := ⟨k - 2, by omega⟩
      by_cases hB : qh ≥ 4294967296
      · rw [show bits_Div64.l1 (k + 2) Y s yn1 yn0 d q1 rh un qh = bits_Div64.j4 (k + 1) Y s yn1 yn0 d q1 rh un qh true by rw [bits_Div64.l1, if_pos hB]]
        simp only [bits_Div64.j4, if_true, e1, e2]
        rw [if_pos hb, if_pos hs, hx]
        exact hR
      · have t := digit_test yn1 yn0 un d qh rh h1 h0 h0' hd0 hd1 h (by omega) (by omega) hr0 hr1
        rw [hq, decide_eq_true (show q < qh by omega)] at t
        rw [show bits_Div64.l1 (k + 2) Y s yn1 yn0 d q1 rh un qh = bits_Div64.j4 (k + 1) Y s yn1 yn0 d q1 rh un qh true by rw [bits_Div64.l1, if_neg hB, t]]
        simp only [bits_Div64.j4, if_true, e1, e2]
        rw [if_pos hb, if_pos hs, hx]
        exact hR
    · obtain ⟨K', hK'⟩ := ih (qh - 1) (rh + yn1) (by omega) (by omega) h' (by omega) (by omega)
      refine ⟨K' + 2, fun k hk => ?_⟩
      obtain ⟨k, rfl⟩ : ∃ m, k = m + 2 := ⟨k - 2, by omega⟩
      have hk' := hK' k (by omega)
      clear hK' ih
      by_cases hB : qh ≥ 4294967296
      · rw [show bits_Div64.l1 (k + 2) Y s yn1 yn0 d q1 rh un qh = bits_Div64.j4 (k + 1) Y s yn1 yn0 d q1 rh un qh true by rw [bits_Div64.l1, if_pos hB]]
        simp only [bits_Div64.j4, if_true, e1, e2]
        rw [if_neg hb]
        exact hk'
      · have t := digit_test yn1 yn0 un d qh rh h1 h0 h0' hd0 hd1 h (by omega) (by omega) hr0 hr1
        rw [hq, decide_eq_true (show q < qh by omega)] at t
        rw [show bits_Div64.l1 (k + 2) Y s yn1 yn0 d q1 rh un qh = bits_Div64.j4 (k + 1) Y s yn1 yn0 d q1 rh un qh true by rw [bits_Div64.l1, if_neg hB, t]]
        simp only [bits_Div64.j4, if_true, e1, e2]
        rw [if_neg hb]
        exact hk'
end
/-- Both digits: the whole division of (un, un10) by the normalized Y. -/
theorem div_norm (Y s un un1 un0 : Int) (hs : 0 ≤ s) (hY : 9223372036854775808 ≤ Y) (hY' : Y < 18446744073709551616) (hu0 : 0 ≤ un) (hu : un < Y) (h1 : 0 ≤ un1) (h1' : un1 < 4294967296) (h0 : 0 ≤ un0) (h0' : un0 < 4294967296) :
    ∃ K, ∀ k, K ≤ k → bits_Div64.l0 k Y s (Y / 4294967296) (Y % 4294967296) un un1 un0 (IntKind.u64.wrap (Int.tdiv un (Y / 4294967296))) (IntKind.u64.wrap (un - (IntKind.u64.wrap ((IntKind.u64.wrap (Int.tdiv un (Y / 4294967296))) * (Y / 4294967296))))) =
      some ((un * 18446744073709551616 + un1 * 4294967296 + un0) / Y, shr .u64 ((un * 18446744073709551616 + un1 * 4294967296 + un0) % Y) s) := by
  have y1 : 2147483648 ≤ Y / 4294967296 ∧ Y / 4294967296 < 4294967296 := by omega
  have y0 : 0 ≤ Y % 4294967296 ∧ Y % 4294967296 < 4294967296 := by omega
  have ye : Y / 4294967296 * 4294967296 + Y % 4294967296 = Y := by omega
  have td : Int.tdiv un (Y / 4294967296) = un / (Y / 4294967296) := Int.tdiv_eq_ediv_of_nonneg hu0
  rw [td]
  obtain ⟨f1, f2, f3, f4, f5, f6, f7, f8, f9⟩ := digit_start (Y / 4294967296) (Y % 4294967296) un un1 y1.1 y1.2 y0.1 y0.2 hu0 (by omega) h1 h1'
  rw [ye] at f1 f6 f7
  have w1 : IntKind.u64.wrap (un / (Y / 4294967296)) = un / (Y / 4294967296) := by rw [w64]; exact Int.emod_eq_of_lt (Int.ediv_nonneg hu0 (by omega)) (by omega)
  rw [w1]
  have w2 : IntKind.u64.wrap (un / (Y / 4294967296) * (Y / 4294967296)) = un / (Y / 4294967296) * (Y / 4294967296) := by rw [w64]; exact Int.emod_eq_of_lt f9 (by omega)
  rw [w2]
  have w3 : IntKind.u64.wrap (un - un / (Y / 4294967296) * (Y / 4294967296)) = un - un / (Y / 4294967296) * (Y / 4294967296) := by rw [w64]; exact Int.emod_eq_of_lt f4 (by omega)
  rw [w3]
  -- the first digit q and what is left, r
  have dm := Int.emod_def (un * 4294967296 + un1) Y
  have r0 := Int.emod_nonneg (un * 4294967296 + un1) (show Y ≠ 0 by omega)
  have r1 := Int.emod_lt_of_pos (un * 4294967296 + un1) (show 0 < Y by omega)
  have q_e : (un * 4294967296 + un1) / Y = (un * 4294967296 + un1) / (Y / 4294967296 * 4294967296 + Y % 4294967296) := by rw [ye]
  generalize hqq : (un * 4294967296 + un1) / Y = q at *
  generalize hrr : (un * 4294967296 + un1) % Y = r at *
  have comm : Y * q = q * Y := Int.mul_comm _ _
  -- the second digit
  obtain ⟨g1, g2, g3, g4, g5, g6, g7, g8, g9⟩ := digit_start (Y / 4294967296) (Y % 4294967296) r un0 y1.1 y1.2 y0.1 y0.2 r0 (by omega) h0 h0'
  rw [ye] at g1 g6 g7
  have dm2 := Int.emod_def (r * 4294967296 + un0) Y
  have t0 := Int.emod_nonneg (r * 4294967296 + un0) (show Y ≠ 0 by omega)
  have t1 := Int.emod_lt_of_pos (r * 4294967296 + un0) (show 0 < Y by omega)
  have p_e : (r * 4294967296 + un0) / Y = (r * 4294967296 + un0) / (Y / 4294967296 * 4294967296 + Y % 4294967296) := by rw [ye]
  generalize hpp : (r * 4294967296 + un0) / Y = p at *
  generalize htt : (r * 4294967296 + un0) % Y = t at *
  have comm2 : Y * p = p * Y := Int.mul_comm _ _
  -- what both are together
  have total : un * 18446744073709551616 + un1 * 4294967296 + un0 = t + Y * (q * 4294967296 + p) := by
    have e1 : Y * (q * 4294967296 + p) = q * Y * 4294967296 + p * Y := by rw [Int.mul_add, ← Int.mul_assoc, comm, comm2]
    rw [e1]
    generalize q * Y = qy at *
    generalize p * Y = py at *
    omega
  have hdiv : (un * 18446744073709551616 + un1 * 4294967296 + un0) / Y = q * 4294967296 + p := by
    rw [total, Int.add_mul_ediv_left _ _ (by omega), Int.ediv_eq_zero_of_lt t0 t1, Int.zero_add]
  have hmod : (un * 18446744073709551616 + un1 * 4294967296 + un0) % Y = t := by
    rw [total, Int.add_mul_emod_self_left, Int.emod_eq_of_lt t0 t1]
  rw [hdiv, hmod]
  -- the second loop, and what goes into it
  have wr : IntKind.u64.wrap ((IntKind.u64.wrap ((IntKind.u64.wrap (un * 4294967296)) + un1)) - (IntKind.u64.wrap (q * Y))) = r := by
    simp only [w64]
    generalize q * Y = qy at *
    omega
  have wt : IntKind.u64.wrap ((IntKind.u64.wrap ((IntKind.u64.wrap (r * 4294967296)) + un0)) - (IntKind.u64.wrap (p * Y))) = t := by
    simp only [w64]
    generalize p * Y = py at *
    omega
  have wq : IntKind.u64.wrap ((IntKind.u64.wrap (q * 4294967296)) + p) = q * 4294967296 + p := by simp only [w64]; omega
  obtain ⟨K1, hK1⟩ := div_l1 Y s (Y / 4294967296) (Y % 4294967296) r un0 y1.1 y1.2 y0.1 y0.2 h0 h0' hs q p p_e.symm g6 g7 (some (q * 4294967296 + p, shr .u64 t s)) (by rw [wq, wt]) (r / (Y / 4294967296) - p).toNat (r / (Y / 4294967296)) (r - r / (Y / 4294967296) * (Y / 4294967296)) (by omega) g2 g3 g4 g5
  have td2 : Int.tdiv r (Y / 4294967296) = r / (Y / 4294967296) := Int.tdiv_eq_ediv_of_nonneg r0
  have v1 : IntKind.u64.wrap (r / (Y / 4294967296)) = r / (Y / 4294967296) := by rw [w64]; exact Int.emod_eq_of_lt (Int.ediv_nonneg r0 (by omega)) (by omega)
  have v2 : IntKind.u64.wrap (r / (Y / 4294967296) * (Y / 4294967296)) = r / (Y / 4294967296) * (Y / 4294967296) := by rw [w64]; exact Int.emod_eq_of_lt g9 (by omega)
  have v3 : IntKind.u64.wrap (r - r / (Y / 4294967296) * (Y / 4294967296)) = r - r / (Y / 4294967296) * (Y / 4294967296) := by rw [w64]; exact Int.emod_eq_of_lt g4 (by omega)
  have hj2 : ∀ k, K1 + 1 ≤ k → bits_Div64.j2 k Y s (Y / 4294967296) (Y % 4294967296) un un1 un0 q = some (q * 4294967296 + p, shr .u64 t s) := fun k hk => by
    obtain ⟨k, rfl⟩ : ∃ m, k = m + 1 := ⟨k - 1, by omega⟩
    simp only [bits_Div64.j2]
    rw [if_neg (show ¬ Y / 4294967296 = 0 by omega), wr, td2, v1, v2, v3]
    exact hK1 k (by omega)
  exact div_l0 Y s (Y / 4294967296) (Y % 4294967296) un un1 un0 y1.1 y1.2 y0.1 y0.2 h1 h1' q q_e.symm f6 f7 _ (K1 + 1) hj2 (un / (Y / 4294967296) - q).toNat (un / (Y / 4294967296)) (un - un / (Y / 4294967296) * (Y / 4294967296)) (by omega) f2 f3 f4 f5

theorem lz_eq (y : Int) (h0 : 0 < y) (h1 : y < 18446744073709551616) : ∃ n : Nat, n ≤ 63 ∧ 9223372036854775808 ≤ y * 2 ^ n ∧ y * 2 ^ n < 18446744073709551616 ∧ bits_LeadingZeros64.f y = some (n : Int) := by
  obtain ⟨m, rfl⟩ : ∃ m : Nat, y = (m : Int) := ⟨y.toNat, by omega⟩
  have b := Lib.bitLenAux_bounds 64 m (by omega) (by omega)
  have c : Lib.bitLenAux 64 m ≤ 64 := Lib.bitLenAux_le 64 m 64 (by omega)
  have e : Lib.bitLen m = Lib.bitLenAux 64 m := rfl
  obtain ⟨b1, b2, b3⟩ := b
  generalize Lib.bitLenAux 64 m = l at *
  have p1 : 2 ^ (l - 1) * 2 ^ (64 - l) = 9223372036854775808 := by rw [← Nat.pow_add, show l - 1 + (64 - l) = 63 by omega]
  have p2 : 2 ^ l * 2 ^ (64 - l) = 18446744073709551616 := by rw [← Nat.pow_add, show l + (64 - l) = 64 by omega]
  have q1 : 9223372036854775808 ≤ m * 2 ^ (64 - l) := p1 ▸ Nat.mul_le_mul_right _ b2
  have q2 : m * 2 ^ (64 - l) < 18446744073709551616 := p2 ▸ Nat.mul_lt_mul_of_pos_right b3 (Nat.pow_pos (by decide))
  have cast : (m : Int) * 2 ^ (64 - l) = ((m * 2 ^ (64 - l) : Nat) : Int) := by simp
  refine ⟨64 - l, by omega, by rw [cast]; omega, by rw [cast]; omega, ?_⟩
  unfold bits_LeadingZeros64.f bits_Len64.f
  rw [if_pos (by omega), Option.bind_some, Int.toNat_natCast, e, wrap_small (by omega) (by omega)]
  congr 1
  omega
theorem div64_eq (hi lo y : Int) (h0 : 0 ≤ hi) (h1 : hi < y) (h2 : y < 18446744073709551616) (l0 : 0 ≤ lo) (l1 : lo < 18446744073709551616) : ∃ K, ∀ k, K ≤ k → bits_Div64.f k hi lo y = some ((hi * 18446744073709551616 + lo) / y, (hi * 18446744073709551616 + lo) % y) := by
  by_cases hz : hi = 0
  · refine ⟨0, fun k _ => ?_⟩
    unfold bits_Div64.f
    rw [if_neg (by omega), if_neg (by omega), if_pos hz, hz, Int.zero_mul, Int.zero_add, w64, Int.tdiv_eq_ediv_of_nonneg l0, Int.tmod_eq_emod_of_nonneg l0]
    have a := Int.ediv_nonneg l0 (show 0 ≤ y by omega)
    have b := Int.ediv_le_self y l0
    rw [Int.emod_eq_of_lt a (by omega)]
  · obtain ⟨n, hn, y1, y2, hlz⟩ := lz_eq y (by omega) h2
    have sp := pow_split n (by omega)
    have pp := pow_le64 n (by omega)
    have pm := pow_pos' (64 - n)
    have wn : IntKind.u64.wrap (n : Int) = (n : Int) := by rw [w64]; omega
    have wm : IntKind.u64.wrap (64 - (n : Int)) = ((64 - n : Nat) : Int) := by rw [w64]; omega
    have step : hi * 2 ^ n + 2 ^ n ≤ y * 2 ^ n := by
      have := Int.mul_le_mul_of_nonneg_right (show hi + 1 ≤ y by omega) (show (0 : Int) ≤ 2 ^ n by omega)
      rw [Int.add_mul, Int.one_mul] at this
      exact this
    have hin : 0 ≤ hi * 2 ^ n := Int.mul_nonneg h0 (by omega)
    have yb : shl .u64 y (n : Int) = y * 2 ^ n := by rw [shl64 y n (by omega)]; exact Int.emod_eq_of_lt (by omega) y2
    have hb : shl .u64 hi (n : Int) = hi * 2 ^ n := by rw [shl64 hi n (by omega)]; exact Int.emod_eq_of_lt hin (by omega)
    have lt0 : 0 ≤ lo / 2 ^ (64 - n) := Int.ediv_nonneg l0 (by omega)
    have lt1 : lo / 2 ^ (64 - n) < 2 ^ n := Int.ediv_lt_of_lt_mul pm (by rw [sp]; exact l1)
    have or_e : Go.bits .or .u64 (shl .u64 hi (n : Int)) (shr .u64 lo ((64 - n : Nat) : Int)) = hi * 2 ^ n + lo / 2 ^ (64 - n) := by
      rw [hb, shr64 lo (64 - n) (by omega)]
      exact or_join _ _ n (by omega) hin (by omega) (Int.mul_emod_left _ _) lt0 lt1
    have lb0 : 0 ≤ lo * 2 ^ n % 18446744073709551616 := Int.emod_nonneg _ (by decide)
    have lb1 : lo * 2 ^ n % 18446744073709551616 < 18446744073709551616 := Int.emod_lt_of_pos _ (by decide)
    have total : (hi * 18446744073709551616 + lo) * 2 ^ n = (hi * 2 ^ n + lo / 2 ^ (64 - n)) * 18446744073709551616 + lo * 2 ^ n % 18446744073709551616 := by
      have e1 : lo * 2 ^ n / 18446744073709551616 = lo / 2 ^ (64 - n) := by
        rw [← sp, Int.mul_comm lo]
        exact Int.mul_ediv_mul_of_pos _ _ (by omega)
      have e2 := Int.emod_def (lo * 2 ^ n) 18446744073709551616
      rw [e1] at e2
      have e3 : (hi * 18446744073709551616 + lo) * 2 ^ n = hi * 2 ^ n * 18446744073709551616 + lo * 2 ^ n := by rw [Int.add_mul, Int.mul_assoc, Int.mul_comm 18446744073709551616, ← Int.mul_assoc]
      rw [e3]
      generalize hi * 2 ^ n = a at *
      generalize lo * 2 ^ n = b at *
      generalize lo / 2 ^ (64 - n) = c at *
      omega
    obtain ⟨K, hK⟩ := div_norm (y * 2 ^ n) (n : Int) (hi * 2 ^ n + lo / 2 ^ (64 - n)) (lo * 2 ^ n % 18446744073709551616 / 4294967296) (lo * 2 ^ n % 18446744073709551616 % 4294967296) (by omega) y1 y2 (by omega) (by omega) (by omega) (by omega) (by omega) (by omega)
    refine ⟨K, fun k hk => ?_⟩
    have h := hK k hk
    unfold bits_Div64.f
    rw [if_neg (by omega), if_neg (by omega), if_neg hz, hlz, Option.bind_some]
    simp only [wn, wm]
    rw [if_pos (by omega), if_pos (by omega), yb, if_neg (by omega), or_e, and_low _ (by omega) y2, shl64 lo n (by omega), and_low _ lb0 lb1, h]
    have join : (hi * 2 ^ n + lo / 2 ^ (64 - n)) * 18446744073709551616 + lo * 2 ^ n % 18446744073709551616 / 4294967296 * 4294967296 + lo * 2 ^ n % 18446744073709551616 % 4294967296 = (hi * 18446744073709551616 + lo) * 2 ^ n := by rw [total]; omega
    rw [join, Int.mul_ediv_mul_of_pos_left _ _ (by omega)]
    have md : (hi * 18446744073709551616 + lo) * 2 ^ n % (y * 2 ^ n) = (hi * 18446744073709551616 + lo) % y * 2 ^ n := by
      rw [Int.mul_comm _ (2 ^ n), Int.mul_comm y, Int.mul_emod_mul_of_pos _ _ (by omega), Int.mul_comm]
    rw [md, shr64 _ n (by omega), Int.mul_ediv_cancel _ (by omega)]
theorem impl_div_eq (v d : Int) (h0 : 0 ≤ v) (h1 : v < 340282366920938463463374607431768211456) (d0 : 0 < d) (d1 : d < 18446744073709551616) : ∃ K, ∀ k, K ≤ k → impl_WideDiv.f k (hiW v) (loW v) d = some (hiW (v / d), loW (v / d), v % d) := by
  obtain ⟨a0, a1⟩ := hiW_range v h0 h1
  obtain ⟨b0, b1⟩ := loW_range v
  have e := val_eq v
  have m0 := Int.emod_nonneg (hiW v) (show d ≠ 0 by omega)
  have m1 := Int.emod_lt_of_pos (hiW v) d0
  have md := Int.emod_def (hiW v) d
  obtain ⟨K, hK⟩ := div64_eq (hiW v % d) (loW v) d m0 m1 d1 b0 b1
  refine ⟨K, fun k hk => ?_⟩
  unfold impl_WideDiv.f
  rw [if_neg (by omega), Int.tmod_eq_emod_of_nonneg a0, hK k hk, Int.tdiv_eq_ediv_of_nonneg a0, w64]
  simp only [Option.bind_some]
  have q0 := Int.ediv_nonneg a0 (show 0 ≤ d by omega)
  have q1 := Int.ediv_le_self d a0
  rw [Int.emod_eq_of_lt q0 (by omega)]
  have t0 : 0 ≤ (hiW v % d * 18446744073709551616 + loW v) / d := Int.ediv_nonneg (by omega) (by omega)
  have t1 : (hiW v % d * 18446744073709551616 + loW v) / d < 18446744073709551616 := Int.ediv_lt_of_lt_mul d0 (by omega)
  have vv : v = (hiW v % d * 18446744073709551616 + loW v) + d * (hiW v / d * 18446744073709551616) := by
    rw [← Int.mul_assoc]
    generalize d * (hiW v / d) = z at *
    omega
  have dv : v / d = hiW v / d * 18446744073709551616 + (hiW v % d * 18446744073709551616 + loW v) / d := by
    conv => lhs; rw [vv]
    rw [Int.add_mul_ediv_left _ _ (by omega), Int.add_comm]
  have mv : v % d = (hiW v % d * 18446744073709551616 + loW v) % d := by
    conv => lhs; rw [vv]
    rw [Int.add_mul_emod_self_left]
  rw [dv, mv, hi_of _ _ t0 t1, lo_of _ _ t0 t1]

theorem product_eq (a b : Int) (ha : 0 ≤ a ∧ a < 18446744073709551616) (hb : 0 ≤ b ∧ b < 18446744073709551616) : impl_product.f a b = some (hiW (a * b), loW (a * b)) := by
  unfold impl_product.f
  simp only [w64]
  rw [Int.emod_eq_of_lt ha.1 ha.2, Int.emod_eq_of_lt hb.1 hb.2, impl_mul_eq a b ha.1 ha.2 hb.1 hb.2]
  rfl

/-! The drawn numbers: whatever the code, each draw answers, within its bounds. -/
def St (l : List Int) (a : Int) : Prop := l.length ≤ 140737488351232 ∧ 0 ≤ a ∧ a ≤ 140737488351232
theorem u64w (x : Int) : 0 ≤ IntKind.u64.wrap x ∧ IntKind.u64.wrap x < 18446744073709551616 := by rw [w64]; omega
theorem n_ok {l : List Int} {a : Int} (h : St l a) (m z t : Int) (ht : t ≤ 4611686018427387904) : ∃ r a' m', spec_l01Src_n.f l a m z t = some (r, a', m', z) ∧ St l a' ∧ 0 ≤ r ∧ (r = 0 ∨ r < t) := by
  unfold St at h
  obtain ⟨h1, h2, h3⟩ := h
  unfold spec_l01Src_n.f
  by_cases c1 : t ≤ 1
  · rw [if_pos c1]
    exact ⟨0, a, m, rfl, ⟨h1, h2, h3⟩, by omega, Or.inl rfl⟩
  · rw [if_neg c1]
    have wt : IntKind.u64.wrap t = t := by rw [w64]; omega
    have hr : ∀ x, 0 ≤ wrap64 (Int.tmod (IntKind.u64.wrap x) t) ∧ wrap64 (Int.tmod (IntKind.u64.wrap x) t) < t := fun x => by
      have b := u64w x
      generalize IntKind.u64.wrap x = y at *
      rw [Int.tmod_eq_emod_of_nonneg b.1]
      have e1 := Int.emod_nonneg y (show t ≠ 0 by omega)
      have e2 := Int.emod_lt_of_pos y (show 0 < t by omega)
      rw [wrap_small (by omega) (by omega)]
      exact ⟨e1, e2⟩
    by_cases c2 : a < (l.length : Int)
    · rw [if_pos c2, if_pos h2, wt, if_neg (show ¬ t = 0 by omega)]
      have e := wrap_small (x := a + 1) (by omega) (by omega)
      exact ⟨_, _, _, rfl, ⟨h1, by rw [e]; omega, by rw [e]; omega⟩, (hr _).1, Or.inr (hr _).2⟩
    · rw [if_neg c2, wt, if_neg (show ¬ t = 0 by omega)]
      exact ⟨_, _, _, rfl, ⟨h1, h2, h3⟩, (hr _).1, Or.inr (hr _).2⟩
theorem one_ok {l : List Int} {a : Int} (h : St l a) (m z t : Int) (ht : t ≤ 4611686018427387904) : ∃ b a' m', spec_l01Src_one.f l a m z t = some (b, a', m', z) ∧ St l a' := by
  obtain ⟨r, a', m', e, h', _, _⟩ := n_ok h m z t ht
  unfold spec_l01Src_one.f
  rw [e]
  exact ⟨_, _, _, rfl, h'⟩
theorem source_loop (l : List Int) : ∀ (d i k : Nat) (m : Int), 64 - i = d → i ≤ 64 → d < k → ∃ m' z, spec_l01Source.l0 k l (i : Int) l 0 m 0 = some (l, 0, m', z) := by
  intro d
  induction d with
  | zero =>
    intro i k m hd hi hk
    obtain ⟨k, rfl⟩ : ∃ j, k = j + 1 := ⟨k - 1, by omega⟩
    rw [spec_l01Source.l0, if_neg (show ¬ (i : Int) < 64 by omega)]
    (repeat' split) <;> exact ⟨_, _, rfl⟩
  | succ d ih =>
    intro i k m hd hi hk
    obtain ⟨k, rfl⟩ : ∃ j, k = j + 1 := ⟨k - 1, by omega⟩
    rw [spec_l01Source.l0, if_pos (show (i : Int) < 64 by omega), if_pos (show 0 ≤ (i : Int) by omega), wrap_small (show -9223372036854775808 ≤ (i : Int) + 1 by omega) (show (i : Int) + 1 ≤ 9223372036854775807 by omega)]
    by_cases c : (i : Int) < (l.length : Int)
    · rw [if_pos c]
      exact ih (i + 1) k _ (by omega) (by omega) (by omega)
    · rw [if_neg c]
      (repeat' split) <;> exact ⟨_, _, rfl⟩
theorem source_ok (l : List Int) (k : Nat) (hk : 70 < k) : ∃ m z, spec_l01Source.f k l = some (l, 0, m, z) := source_loop l 64 0 k _ rfl (by omega) (by omega)

def okPart (a b c : Int) : Bool := decide (0 ≤ a ∧ a ≤ 67553994410557440 ∧ 1 ≤ b ∧ b ≤ 1073741824 ∧ b ≤ c ∧ c ≤ 64424509440)
theorem part_eq (a b c : Int) : impl_isPart.f a b c = some (okPart a b c) := by
  unfold impl_isPart.f okPart
  simp only [isWeight_eq, in_eq, Option.bind_some, decide_eq_true_eq]
  (repeat' split) <;> simp only [Option.some.injEq, decide_eq_decide, eq_comm (a := false), decide_eq_false_iff_not] <;> omega

theorem up {α : Type} {f : Nat → Option α} (hm : ∀ k, LeO (f k) (f (k + 1))) {K : Nat} {r : α} (h : f K = some r) : ∀ k, K ≤ k → f k = some r := by
  intro k hk
  obtain ⟨d, rfl⟩ : ∃ d, k = K + d := ⟨k - K, by omega⟩
  clear hk
  induction d with
  | zero => exact h
  | succ d ih => exact hm _ _ ih
theorem weightOf_ok {l : List Int} {a : Int} (h : St l a) (m z : Int) : ∃ r a' m', spec_l01Src_l02WeightOf.f l a m z = some (r, a', m', z) ∧ St l a' := by
  obtain ⟨r, a1, m1, e, h1, _, _⟩ := n_ok h m z 14 (by omega)
  unfold spec_l01Src_l02WeightOf.f
  rw [e]
  simp only [Option.bind_some]
  obtain ⟨r2, a2, m2, e2, h2, _, _⟩ := n_ok h1 m1 z 1073741824 (by omega)
  obtain ⟨r3, a3, m3, e3, h3, _, _⟩ := n_ok h1 m1 z 6 (by omega)
  rw [e2, e3]
  (repeat' split) <;> first | exact ⟨_, _, _, rfl, h1⟩ | exact ⟨_, _, _, rfl, h2⟩ | exact ⟨_, _, _, rfl, h3⟩
theorem wantOf_ok {l : List Int} {a : Int} (h : St l a) (m z : Int) : ∃ r a' m', spec_l01Src_l02WantOf.f l a m z = some (r, a', m', z) ∧ St l a' := by
  obtain ⟨r, a1, m1, e, h1, _, _⟩ := n_ok h m z 12 (by omega)
  unfold spec_l01Src_l02WantOf.f
  rw [e]
  simp only [Option.bind_some]
  obtain ⟨r2, a2, m2, e2, h2, _, _⟩ := n_ok h1 m1 z 1125899906842624 (by omega)
  obtain ⟨r3, a3, m3, e3, h3, _, _⟩ := n_ok h1 m1 z 60 (by omega)
  rw [e2, e3]
  (repeat' split) <;> first | exact ⟨_, _, _, rfl, h1⟩ | exact ⟨_, _, _, rfl, h2⟩ | exact ⟨_, _, _, rfl, h3⟩
theorem edge_ok {l : List Int} {a : Int} (h : St l a) (m z : Int) : ∃ r a' m', spec_l01Src_edge.f l a m z = some (r, a', m', z) ∧ St l a' := by
  obtain ⟨r, a1, m1, e, h1, r0, r1⟩ := n_ok h m z 14 (by omega)
  unfold spec_l01Src_edge.f
  rw [e]
  simp only [Option.bind_some]
  rw [if_pos r0, if_pos (show r < _ from by simp only [List.length_cons, List.length_nil]; omega)]
  exact ⟨_, _, _, rfl, h1⟩
theorem draw_ok (l : List Int) (hl : l.length ≤ 140737488351232) : ∃ a w c, spec_DrawRatioShare.f 100 l = some (a, w, c) := by
  obtain ⟨m, z, e0⟩ := source_ok l 100 (by omega)
  obtain ⟨w, a1, m1, e1, h1⟩ := weightOf_ok (l := l) (a := 0) ⟨hl, by omega, by omega⟩ m z
  obtain ⟨r, a2, m2, e2, h2, _, _⟩ := n_ok h1 m1 z 20 (by omega)
  obtain ⟨b, a3, m3, e3, h3⟩ := one_ok h2 m2 z 6 (by omega)
  have hj : ∀ x6 x7, ∃ a w c, spec_DrawRatioShare.j0 100 x6 x7 l a3 m3 z = some (a, w, c) := fun x6 x7 => by
    obtain ⟨c, a4, m4, e4, h4⟩ := one_ok h3 m3 z 15 (by omega)
    rw [show (100 : Nat) = 99 + 1 from rfl, spec_DrawRatioShare.j0, e4]
    simp only [Option.bind_some]
    cases c with
    | true =>
      obtain ⟨r5, a5, m5, e5, h5⟩ := edge_ok h4 m4 z
      obtain ⟨r6, a6, m6, e6, h6⟩ := edge_ok h5 m5 z
      obtain ⟨r7, a7, m7, e7, h7⟩ := edge_ok h6 m6 z
      rw [if_pos rfl, e5]
      simp only [Option.bind_some, e6, e7]
      exact ⟨_, _, _, rfl⟩
    | false =>
      obtain ⟨r5, a5, m5, e5, h5⟩ := wantOf_ok h4 m4 z
      obtain ⟨r6, a6, m6, e6, h6, _, _⟩ := n_ok h5 m5 z 60 (by omega)
      rw [if_neg (by decide), e5]
      simp only [Option.bind_some, e6]
      exact ⟨_, _, _, rfl⟩
  unfold spec_DrawRatioShare.f
  rw [e0]
  simp only [Option.bind_some, e1, e2, e3]
  split
  · exact hj _ _
  · exact hj _ _
theorem law_out (a w c : Int) (k : Nat) (h : okPart a w c = false) : laws_FnRatioShare.j0 (k + 1) a w c true = some true := by
  rw [laws_FnRatioShare.j0, if_pos rfl]
  unfold impl_RatioShare.f
  rw [part_eq, h]
  rfl
theorem law_in (a w c : Int) (h : okPart a w c = true) : ∃ K, ∀ k, K ≤ k → laws_FnRatioShare.j0 (k + 1) a w c false = some true := by
  have ok : 0 ≤ a ∧ a ≤ 67553994410557440 ∧ 1 ≤ w ∧ w ≤ 1073741824 ∧ w ≤ c ∧ c ≤ 64424509440 := by simpa [okPart] using h
  have wa : IntKind.u64.wrap a = a := by rw [w64]; omega
  have ww : IntKind.u64.wrap w = w := by rw [w64]; omega
  have wc : IntKind.u64.wrap c = c := by rw [w64]; omega
  have p0 : 0 ≤ a * w := Int.mul_nonneg (by omega) (by omega)
  have p1 : a * w ≤ 67553994410557440 * 1073741824 := Int.mul_le_mul (by omega) (by omega) (by omega) (by omega)
  have p2 : a * w ≤ a * c := Int.mul_le_mul_of_nonneg_left (by omega) (by omega)
  have hc : 0 < c := by omega
  have q0 : 0 ≤ a * w / c := Int.ediv_nonneg p0 (by omega)
  have q1 : a * w / c ≤ a := by
    have := Int.ediv_le_ediv hc p2
    rw [Int.mul_ediv_cancel _ (by omega)] at this
    exact this
  have q2 : a * w / c * c ≤ a * w := Int.ediv_mul_le _ (by omega)
  have q3 : a * w < (a * w / c + 1) * c := Int.lt_ediv_add_one_mul_self _ hc
  obtain ⟨K, hK⟩ := impl_div_eq (a * w) c p0 (by omega) (by omega) (by omega)
  refine ⟨K + 500, fun k hk => ?_⟩
  have e : impl_RatioShare.f k a w c = some (a * w / c) := by
    unfold impl_RatioShare.f impl_share.f
    rw [part_eq, h, Option.bind_some, if_pos rfl, product_eq a w (by omega) (by omega), wc]
    simp only [Option.bind_some]
    rw [hK _ (by omega)]
    simp only [Option.bind_some]
    rw [loW_small _ q0 (by omega), wrap_small (by omega) (by omega)]
  rw [laws_FnRatioShare.j0, if_neg (by decide), e]
  simp only [Option.bind_some]
  generalize a * w / c = q at *
  have wq : IntKind.u64.wrap q = q := by rw [w64]; omega
  have wq1 : IntKind.u64.wrap (wrap64 (q + 1)) = q + 1 := by rw [wrap_small (by omega) (by omega), w64]; omega
  rw [if_neg (by omega), wa, ww, wc, wq, wq1, wide_mul a w k (by omega) (by omega) (by omega) (by omega) (by omega), wide_mul q c k (by omega) (by omega) (by omega) (by omega) (by omega), wide_mul (q + 1) c k (by omega) (by omega) (by omega) (by omega) (by omega)]
  simp only [Option.bind_some]
  rw [spec_cmp_eq, spec_cmp_eq]
  simp only [Option.bind_some]
  have c1 : cmpInt (q * c) (a * w) ≤ 0 := by unfold cmpInt; (repeat' split) <;> omega
  have c2 : cmpInt ((q + 1) * c) (a * w) > 0 := by unfold cmpInt; (repeat' split) <;> omega
  rw [if_pos c1, decide_eq_true c2]
theorem FnRatioShare : laws_FnRatioShare.Pure := by
  intro l hl hl2 hx
  by_cases big : (l.length : Int) > 1048576
  · refine ⟨0, ?_⟩
    unfold laws_FnRatioShare.f
    rw [if_pos big]
  obtain ⟨a, w, c, e⟩ := draw_ok l (by omega)
  have e' := up (spec_DrawRatioShare.mono l) e
  cases h : okPart a w c with
  | true =>
    obtain ⟨K, hK⟩ := law_in a w c h
    have ok : 0 ≤ a ∧ a ≤ 67553994410557440 ∧ 1 ≤ w ∧ w ≤ 1073741824 ∧ w ≤ c ∧ c ≤ 64424509440 := by simpa [okPart] using h
    refine ⟨K + 100 + 1, ?_⟩
    unfold laws_FnRatioShare.f
    rw [if_neg big, e' _ (by omega)]
    simp only [Option.bind_some]
    rw [if_neg (by omega), if_neg (by omega), if_neg (by omega), if_neg (by omega), if_neg (by omega), decide_eq_false (by omega)]
    exact hK _ (by omega)
  | false =>
    have no : ¬ (0 ≤ a ∧ a ≤ 67553994410557440 ∧ 1 ≤ w ∧ w ≤ 1073741824 ∧ w ≤ c ∧ c ≤ 64424509440) := by simpa [okPart] using h
    refine ⟨101, ?_⟩
    unfold laws_FnRatioShare.f
    rw [if_neg big, e' _ (by omega)]
    simp only [Option.bind_some]
    have out := law_out a w c 100 h
    by_cases c1 : a < 0
    · rw [if_pos c1]; exact out
    rw [if_neg c1]
    by_cases c2 : a > 67553994410557440
    · rw [if_pos c2]; exact out
    rw [if_neg c2]
    by_cases c3 : w < 1
    · rw [if_pos c3]; exact out
    rw [if_neg c3]
    by_cases c4 : w > 1073741824
    · rw [if_pos c4]; exact out
    rw [if_neg c4]
    by_cases c5 : c < w
    · rw [if_pos c5]; exact out
    rw [if_neg c5, decide_eq_true (by omega)]
    exact out

end Go.Proofs.Ytpgaoihgohlmkaa.Pure
