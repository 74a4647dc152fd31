/- WideShr answers as the reference does, for every wide number and every count. Conditions: none beyond the statement's own bounds. -/
import Derived.Test.YtjfkamhnmbamnaaBridgeFnExactWideShr
namespace Go.Proofs.Ytjfkamhnmbamnaa.Pure
open Go.RowKit Go.Proofs.Ytjfkamhnmbamnaa.PFnExactWideShr Go.Proofs.Ytjfkamhnmbamnaa.BridgeFnExactWideShr Go.Proofs.YtjfkamhnmbamnaaW.PrintWords Go.Proofs.YtjfkamhnmbamnaaW.PrintLast Go.Proofs.YtjfkamhnmbamnaaW.PrintMore
set_option linter.unusedVariables false
set_option linter.unusedSimpArgs false

theorem wrap_small {x : Int} (h0 : -9223372036854775808 ≤ x) (h1 : x ≤ 9223372036854775807) : wrap64 x = x := by
  unfold wrap64
  omega
theorem i64_range {x : Int} (h : (Lit.int .i64 x).wf = true) : -9223372036854775808 ≤ x ∧ x ≤ 9223372036854775807 := by
  simp [Lit.wf, IntKind.min, IntKind.max, IntKind.bits, IntKind.signed] at h
  omega
theorem u64_range {x : Int} (h : (Lit.int .u64 x).wf = true) : 0 ≤ x ∧ x < 18446744073709551616 := by
  simp [Lit.wf, IntKind.min, IntKind.max, IntKind.bits, IntKind.signed] at h
  omega

theorem in_eq (a b c : Int) : impl_in.f a b c = some (decide (b ≤ a ∧ a ≤ c)) := by
  unfold impl_in.f
  by_cases h : b ≤ a <;> simp [h]

theorem w64 (x : Int) : IntKind.u64.wrap x = x % 18446744073709551616 := by simp [IntKind.wrap, IntKind.bits, IntKind.signed]
/-- The two words of a wide number's value. -/
def hiW (v : Int) : Int := v / 18446744073709551616
def loW (v : Int) : Int := v % 18446744073709551616
theorem hi_of (a b : Int) (h0 : 0 ≤ b) (h1 : b < 18446744073709551616) : hiW (a * 18446744073709551616 + b) = a := by unfold hiW; omega
theorem lo_of (a b : Int) (h0 : 0 ≤ b) (h1 : b < 18446744073709551616) : loW (a * 18446744073709551616 + b) = b := by unfold loW; omega
theorem val_of (a b : Int) (ha0 : 0 ≤ a) (ha1 : a < 18446744073709551616) (hb0 : 0 ≤ b) (hb1 : b < 18446744073709551616) : 0 ≤ a * 18446744073709551616 + b ∧ a * 18446744073709551616 + b < 340282366920938463463374607431768211456 := by omega
theorem hiW_range (v : Int) (h0 : 0 ≤ v) (h1 : v < 340282366920938463463374607431768211456) : 0 ≤ hiW v ∧ hiW v < 18446744073709551616 := by unfold hiW; omega
theorem loW_range (v : Int) : 0 ≤ loW v ∧ loW v < 18446744073709551616 := by unfold loW; omega
theorem val_eq (v : Int) : hiW v * 18446744073709551616 + loW v = v := by unfold hiW loW; omega
theorem hiW_zero : hiW 0 = 0 := rfl
theorem loW_zero : loW 0 = 0 := rfl
theorem hiW_small (x : Int) (h0 : 0 ≤ x) (h1 : x < 18446744073709551616) : hiW x = 0 := by unfold hiW; omega
theorem loW_small (x : Int) (h0 : 0 ≤ x) (h1 : x < 18446744073709551616) : loW x = x := by unfold loW; omega
theorem emod_le' (b m : Int) (hb : 0 ≤ b) (hm : 0 < m) : b % m ≤ b := by
  have h1 := Int.emod_def b m
  have h2 := Int.mul_nonneg (Int.le_of_lt hm) (Int.ediv_nonneg hb (Int.le_of_lt hm))
  omega
theorem pow_pos' (j : Nat) : (0 : Int) < 2 ^ j := Int.pow_pos (by decide)
theorem emod_pow_succ (b : Int) (j : Nat) (hb : 0 ≤ b) : b % 2 ^ (j + 1) = b % 2 ^ j + 2 ^ j * (b / 2 ^ j % 2) := by
  obtain ⟨n, rfl⟩ := Int.eq_ofNat_of_zero_le hb
  have h := Nat.mod_mul (a := 2 ^ j) (b := 2) (x := n)
  rw [Int.pow_succ]
  exact_mod_cast h
theorem emod_mul_left (a b m : Int) : (a % m * b) % m = (a * b) % m := by rw [Int.mul_emod, Int.emod_emod, ← Int.mul_emod]

theorem wide_half (v : Int) (h0 : 0 ≤ v) (h1 : v < 340282366920938463463374607431768211456) : (IntKind.u64.wrap (Int.tdiv (hiW v) 2)) = hiW (v / 2) ∧ (IntKind.u64.wrap ((IntKind.u64.wrap (Int.tdiv (loW v) 2)) + (IntKind.u64.wrap ((Int.tmod (hiW v) 2) * 9223372036854775808)))) = loW (v / 2) := by
  have r1 := hiW_range v h0 h1
  have r2 := loW_range v
  rw [Int.tdiv_eq_ediv_of_nonneg r1.1, Int.tdiv_eq_ediv_of_nonneg r2.1, Int.tmod_eq_emod_of_nonneg r1.1]
  simp only [w64]
  unfold hiW loW at *
  constructor <;> omega
theorem wide_shr_loop : ∀ (n k : Nat) (v : Int), n < k → n ≤ 127 → 0 ≤ v → v < 340282366920938463463374607431768211456 → spec_WideShr.l0 k (n : Int) (hiW v) (loW v) = some (hiW (v / 2 ^ n), loW (v / 2 ^ n)) := by
  intro n
  induction n with
  | zero =>
    intro k v hk _ h0 h1
    obtain ⟨k, rfl⟩ : ∃ m, k = m + 1 := ⟨k - 1, by omega⟩
    simp only [spec_WideShr.l0]
    rw [if_neg (by omega), show v / 2 ^ 0 = v by simp]
  | succ n ih =>
    intro k v hk hn h0 h1
    obtain ⟨k, rfl⟩ : ∃ m, k = m + 1 := ⟨k - 1, by omega⟩
    simp only [spec_WideShr.l0]
    rw [if_pos (by omega), (wide_half v h0 h1).1, (wide_half v h0 h1).2, show wrap64 (((n + 1 : Nat) : Int) - 1) = (n : Int) by unfold wrap64; omega, ih k _ (by omega) (by omega) (by omega) (by omega)]
    have e : v / 2 / 2 ^ n = v / 2 ^ (n + 1) := by rw [Int.ediv_ediv_of_nonneg (by omega), Int.pow_succ, Int.mul_comm]
    rw [e]
theorem wide_shr (n k : Nat) (v : Int) (hk : n + 1 < k) (hn : n ≤ 127) (h0 : 0 ≤ v) (h1 : v < 340282366920938463463374607431768211456) : spec_WideShr.f k (hiW v) (loW v) (n : Int) = some (hiW (v / 2 ^ n), loW (v / 2 ^ n)) := by
  obtain ⟨k, rfl⟩ : ∃ m, k = m + 1 := ⟨k - 1, by omega⟩
  unfold spec_WideShr.f
  rw [if_neg (by omega)]
  have hd : decide ((n : Int) > 127) = false := decide_eq_false (by omega)
  simp only [spec_WideShr.j0, hd]
  exact wide_shr_loop n k v (by omega) hn h0 h1
theorem wide_shr_out (n : Int) (k : Nat) (a b : Int) (hk : 0 < k) (hn : n < 0 ∨ 127 < n) : spec_WideShr.f k a b n = some (0, 0) := by
  obtain ⟨k, rfl⟩ : ∃ m, k = m + 1 := ⟨k - 1, by omega⟩
  unfold spec_WideShr.f
  by_cases h : n < 0
  · rw [if_pos h]; simp only [spec_WideShr.j0, if_true]
  · rw [if_neg h]
    have hd : decide (n > 127) = true := decide_eq_true (by omega)
    simp only [spec_WideShr.j0, hd, if_true]

theorem wraps_u64 : ∀ n : Int, 0 ≤ n → n < 2 ^ 64 → IntKind.u64.wrap n = n := fun n h0 h1 => by rw [w64]; omega
theorem and_one (x : Int) (h0 : 0 ≤ x) (h1 : x < 18446744073709551616) : Go.bits .and .u64 x 1 = x % 2 := bits_mask .u64 64 (by decide) wraps_u64 1 (by decide) x h0 (by omega)
theorem and_low (x : Int) (h0 : 0 ≤ x) (h1 : x < 18446744073709551616) : Go.bits .and .u64 x 4294967295 = x % 4294967296 := bits_mask .u64 64 (by decide) wraps_u64 32 (by decide) x h0 (by omega)

theorem shl64 (x : Int) (n : Nat) (hn : n ≤ 64) : shl .u64 x (n : Int) = x * 2 ^ n % 18446744073709551616 := by
  unfold shl
  rw [w64, show min (n : Int).toNat (IntKind.bits .u64) = n by simp [IntKind.bits]; omega]
theorem shr64 (x : Int) (n : Nat) (hn : n ≤ 64) : shr .u64 x (n : Int) = x / 2 ^ n := by
  unfold shr
  rw [show min (n : Int).toNat (IntKind.bits .u64) = n by simp [IntKind.bits]; omega]
theorem pow_split (n : Nat) (hn : n ≤ 64) : (2 : Int) ^ n * 2 ^ (64 - n) = 18446744073709551616 := by
  rw [← Int.pow_add, show n + (64 - n) = 64 by omega]
  rfl
theorem pow_le64 (n : Nat) (hn : n ≤ 64) : (1 : Int) ≤ 2 ^ n ∧ (2 : Int) ^ n ≤ 18446744073709551616 := by
  have h1 := pow_pos' n
  have h2 := pow_pos' (64 - n)
  have h3 := pow_split n hn
  refine ⟨by omega, ?_⟩
  rw [← h3]
  have h4 := Int.mul_le_mul_of_nonneg_left (show (1 : Int) ≤ 2 ^ (64 - n) by omega) (Int.le_of_lt h1)
  rw [Int.mul_one] at h4
  exact h4
/-- Two words whose bits do not meet. -/
theorem or_join (x y : Int) (i : Nat) (hi : i ≤ 64) (hx0 : 0 ≤ x) (hx1 : x < 18446744073709551616) (hm : x % 2 ^ i = 0) (hy0 : 0 ≤ y) (hy1 : y < 2 ^ i) : Go.bits .or .u64 x y = x + y :=
  bits_join .u64 64 (by decide) wraps_u64 i x y hx0 hm (by omega) hy0 hy1 (by have := (pow_le64 i hi).2; omega)
theorem or_join' (x y : Int) (i : Nat) (hi : i ≤ 64) (hx0 : 0 ≤ x) (hx1 : x < 18446744073709551616) (hm : x % 2 ^ i = 0) (hy0 : 0 ≤ y) (hy1 : y < 2 ^ i) : Go.bits .or .u64 y x = x + y := by
  have h := or_join x y i hi hx0 hx1 hm hy0 hy1
  have hy2 : y < 2 ^ 64 := by have := (pow_le64 i hi).2; omega
  obtain ⟨a, rfl⟩ := Int.eq_ofNat_of_zero_le hx0
  obtain ⟨b, rfl⟩ := Int.eq_ofNat_of_zero_le hy0
  have ha : a < 2 ^ 64 := by omega
  have hb : b < 2 ^ 64 := by omega
  rw [(bits_nat .u64 64 (by decide) wraps_u64 a b ha hb).2] at h
  rw [(bits_nat .u64 64 (by decide) wraps_u64 b a hb ha).2, Nat.or_comm]
  exact h

theorem impl_shr_eq (v : Int) (n : Nat) (hn : n ≤ 127) (h0 : 0 ≤ v) (h1 : v < 340282366920938463463374607431768211456) : impl_WideShr.f (hiW v) (loW v) (n : Int) = some (hiW (v / 2 ^ n), loW (v / 2 ^ n)) := by
  have ra := hiW_range v h0 h1
  have rb := loW_range v
  have ev := val_eq v
  unfold impl_WideShr.f
  rw [in_eq]
  have hd : decide ((0 : Int) ≤ (n : Int) ∧ (n : Int) ≤ 127) = true := decide_eq_true (by omega)
  simp only [Option.bind_some, hd, if_true]
  by_cases c : (n : Int) ≥ 64
  · obtain ⟨m, rfl⟩ : ∃ m, n = 64 + m := ⟨n - 64, by omega⟩
    have e : wrap64 (((64 + m : Nat) : Int) - 64) = (m : Int) := by unfold wrap64; omega
    rw [if_pos c, e, if_pos (by omega), shr64 _ m (by omega)]
    have ep : v / 2 ^ (64 + m) = hiW v / 2 ^ m := by
      rw [Int.pow_add, ← Int.ediv_ediv_of_nonneg (by decide)]
      rfl
    have hq0 : 0 ≤ hiW v / 2 ^ m := Int.ediv_nonneg ra.1 (Int.le_of_lt (pow_pos' m))
    have hq1 : hiW v / 2 ^ m < 18446744073709551616 := Int.lt_of_le_of_lt (Int.ediv_le_self _ ra.1) ra.2
    rw [ep, hiW_small _ hq0 hq1, loW_small _ hq0 hq1]
  · have hn6 : n ≤ 64 := by omega
    have e : wrap64 (64 - (n : Int)) = ((64 - n : Nat) : Int) := by unfold wrap64; omega
    generalize ha : hiW v = a at *
    generalize hb : loW v = b at *
    rw [if_neg c, if_pos (by omega), e, if_pos (by omega), shr64 a n hn6, shr64 b n hn6, shl64 a (64 - n) (by omega)]
    have hPR := pow_split n hn6
    have hP := pow_pos' n
    have hR := pow_pos' (64 - n)
    rw [← ev]
    have key : ∀ P R : Int, P * R = 18446744073709551616 → 0 < P → 0 < R → ∃ f c d : Int, a / P = f ∧ b / P = d ∧ a * R % 18446744073709551616 = c * R ∧ 0 ≤ c * R ∧ c * R + R ≤ 18446744073709551616 ∧ 0 ≤ d ∧ d < R ∧ (a * 18446744073709551616 + b) / P = f * 18446744073709551616 + (c * R + d) := fun P R hPR hP hR => by
      have ma : a * R % 18446744073709551616 = a % P * R := by rw [← hPR, Int.mul_comm a R, Int.mul_comm P R, Int.mul_emod_mul_of_pos _ _ hR, Int.mul_comm]
      have hc0 := Int.emod_nonneg a (Int.ne_of_gt hP)
      have hc1 := Int.emod_lt_of_pos a hP
      have hda := Int.emod_def a P
      have hd0 : 0 ≤ b / P := Int.ediv_nonneg rb.1 (Int.le_of_lt hP)
      have hd1 : b / P < R := Int.ediv_lt_of_lt_mul hP (by rw [Int.mul_comm R P, hPR]; exact rb.2)
      refine ⟨a / P, a % P, b / P, rfl, rfl, ma, Int.mul_nonneg hc0 (Int.le_of_lt hR), ?_, hd0, hd1, ?_⟩
      · have : (a % P + 1) * R ≤ P * R := Int.mul_le_mul_of_nonneg_right (by omega) (Int.le_of_lt hR)
        rw [Int.add_mul, Int.one_mul, hPR] at this
        exact this
      · have e1 : a * 18446744073709551616 + b = b + P * (a * R) := by
          rw [← hPR, ← Int.mul_assoc, Int.mul_comm a P, Int.mul_assoc, Int.add_comm]
        have e2 : a * R = a / P * 18446744073709551616 + a % P * R := by
          rw [hda, Int.sub_mul, ← hPR, Int.mul_comm P (a / P), Int.mul_assoc (a / P)]
          omega
        rw [e1, Int.add_mul_ediv_left _ _ (Int.ne_of_gt hP), e2]
        omega
    obtain ⟨f, c', d, k1, k2, k3, k4, k5, k6, k7, k8⟩ := key _ _ hPR hP hR
    have hm0 : c' * 2 ^ (64 - n) % 2 ^ (64 - n) = 0 := Int.mul_emod_left _ _
    rw [k1, k2, k3, k8, or_join' _ _ (64 - n) (by omega) k4 (by omega) hm0 k6 k7]
    generalize c' * 2 ^ (64 - n) = x at *
    rw [hi_of _ _ (by omega) (by omega), lo_of _ _ (by omega) (by omega)]

theorem impl_shr_out (a b n : Int) (hn : n < 0 ∨ 127 < n) : impl_WideShr.f a b n = some (0, 0) := by
  unfold impl_WideShr.f
  rw [in_eq]
  have hd : decide ((0 : Int) ≤ n ∧ n ≤ 127) = false := decide_eq_false (by omega)
  simp [hd]
theorem FnExactWideShr : BridgeFnExactWideShr.Pure := by
  intro a b n ha hb hn
  obtain ⟨ha0, ha1⟩ := u64_range ha
  obtain ⟨hb0, hb1⟩ := u64_range hb
  refine ⟨200, ?_⟩
  by_cases h : n < 0 ∨ 127 < n
  · simp [laws_FnExactWideShr.f, laws_toWide.f, wide_shr_out n 200 a b (by omega) h, impl_shr_out a b n h, laws_eqWide.f]
  · obtain ⟨m, rfl⟩ := Int.eq_ofNat_of_zero_le (show 0 ≤ n by omega)
    have hv := val_of a b ha0 ha1 hb0 hb1
    have h1 := wide_shr m 200 (a * 18446744073709551616 + b) (by omega) (by omega) hv.1 hv.2
    have h2 := impl_shr_eq (a * 18446744073709551616 + b) m (by omega) hv.1 hv.2
    rw [hi_of a b hb0 hb1, lo_of a b hb0 hb1] at h1 h2
    simp only [laws_FnExactWideShr.f, laws_toWide.f, Option.bind_some]
    rw [h1, h2]
    simp [laws_eqWide.f]

end Go.Proofs.Ytjfkamhnmbamnaa.Pure
