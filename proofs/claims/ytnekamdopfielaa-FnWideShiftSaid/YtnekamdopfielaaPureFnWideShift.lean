/- A drawn wide number moved up and down again is itself, with as many bits more. Conditions: none beyond the statement's own bounds. -/
import Derived.Test.YtnekamdopfielaaXFnWideShiftx6
import Derived.Lib.ItoaNum
namespace Go.Proofs.Ytnekamdopfielaa.Pure
open Go.RowKit Go.Proofs.Ytnekamdopfielaa.XFnWideShift Go.Proofs.YtnekamdopfielaaW.PrintWords Go.Proofs.YtnekamdopfielaaW.PrintLast Go.Proofs.YtnekamdopfielaaW.PrintMore
set_option linter.unusedVariables false
set_option linter.unusedSimpArgs false

theorem wrap_small {x : Int} (h0 : -9223372036854775808 ≤ x) (h1 : x ≤ 9223372036854775807) : wrap64 x = x := by
  unfold wrap64
  omega
theorem i64_range {x : Int} (h : (Lit.int .i64 x).wf = true) : -9223372036854775808 ≤ x ∧ x ≤ 9223372036854775807 := by
  simp [Lit.wf, IntKind.min, IntKind.max, IntKind.bits, IntKind.signed] at h
  omega
theorem u64_range {x : Int} (h : (Lit.int .u64 x).wf = true) : 0 ≤ x ∧ x < 18446744073709551616 := by
  simp [Lit.wf, IntKind.min, IntKind.max, IntKind.bits, IntKind.signed] at h
  omega

theorem in_eq (a b c : Int) : impl_in.f a b c = some (decide (b ≤ a ∧ a ≤ c)) := by
  unfold impl_in.f
  by_cases h : b ≤ a <;> simp [h]

theorem w64 (x : Int) : IntKind.u64.wrap x = x % 18446744073709551616 := by simp [IntKind.wrap, IntKind.bits, IntKind.signed]
/-- The two words of a wide number's value. -/
def hiW (v : Int) : Int := v / 18446744073709551616
def loW (v : Int) : Int := v % 18446744073709551616
theorem hi_of (a b : Int) (h0 : 0 ≤ b) (h1 : b < 18446744073709551616) : hiW (a * 18446744073709551616 + b) = a := by unfold hiW; omega
theorem lo_of (a b : Int) (h0 : 0 ≤ b) (h1 : b < 18446744073709551616) : loW (a * 18446744073709551616 + b) = b := by unfold loW; omega
theorem val_of (a b : Int) (ha0 : 0 ≤ a) (ha1 : a < 18446744073709551616) (hb0 : 0 ≤ b) (hb1 : b < 18446744073709551616) : 0 ≤ a * 18446744073709551616 + b ∧ a * 18446744073709551616 + b < 340282366920938463463374607431768211456 := by omega
theorem hiW_range (v : Int) (h0 : 0 ≤ v) (h1 : v < 340282366920938463463374607431768211456) : 0 ≤ hiW v ∧ hiW v < 18446744073709551616 := by unfold hiW; omega
theorem loW_range (v : Int) : 0 ≤ loW v ∧ loW v < 18446744073709551616 := by unfold loW; omega
theorem val_eq (v : Int) : hiW v * 18446744073709551616 + loW v = v := by unfold hiW loW; omega
theorem hiW_zero : hiW 0 = 0 := rfl
theorem loW_zero : loW 0 = 0 := rfl
theorem hiW_small (x : Int) (h0 : 0 ≤ x) (h1 : x < 18446744073709551616) : hiW x = 0 := by unfold hiW; omega
theorem loW_small (x : Int) (h0 : 0 ≤ x) (h1 : x < 18446744073709551616) : loW x = x := by unfold loW; omega
theorem emod_le' (b m : Int) (hb : 0 ≤ b) (hm : 0 < m) : b % m ≤ b := by
  have h1 := Int.emod_def b m
  have h2 := Int.mul_nonneg (Int.le_of_lt hm) (Int.ediv_nonneg hb (Int.le_of_lt hm))
  omega
theorem pow_pos' (j : Nat) : (0 : Int) < 2 ^ j := Int.pow_pos (by decide)
theorem emod_pow_succ (b : Int) (j : Nat) (hb : 0 ≤ b) : b % 2 ^ (j + 1) = b % 2 ^ j + 2 ^ j * (b / 2 ^ j % 2) := by
  obtain ⟨n, rfl⟩ := Int.eq_ofNat_of_zero_le hb
  have h := Nat.mod_mul (a := 2 ^ j) (b := 2) (x := n)
  rw [Int.pow_succ]
  exact_mod_cast h
theorem emod_mul_left (a b m : Int) : (a % m * b) % m = (a * b) % m := by rw [Int.mul_emod, Int.emod_emod, ← Int.mul_emod]

theorem wide_half (v : Int) (h0 : 0 ≤ v) (h1 : v < 340282366920938463463374607431768211456) : (IntKind.u64.wrap (Int.tdiv (hiW v) 2)) = hiW (v / 2) ∧ (IntKind.u64.wrap ((IntKind.u64.wrap (Int.tdiv (loW v) 2)) + (IntKind.u64.wrap ((Int.tmod (hiW v) 2) * 9223372036854775808)))) = loW (v / 2) := by
  have r1 := hiW_range v h0 h1
  have r2 := loW_range v
  rw [Int.tdiv_eq_ediv_of_nonneg r1.1, Int.tdiv_eq_ediv_of_nonneg r2.1, Int.tmod_eq_emod_of_nonneg r1.1]
  simp only [w64]
  unfold hiW loW at *
  constructor <;> omega
theorem wide_shr_loop : ∀ (n k : Nat) (v : Int), n < k → n ≤ 127 → 0 ≤ v → v < 340282366920938463463374607431768211456 → spec_WideShr.l0 k (n : Int) (hiW v) (loW v) = some (hiW (v / 2 ^ n), loW (v / 2 ^ n)) := by
  intro n
  induction n with
  | zero =>
    intro k v hk _ h0 h1
    obtain ⟨k, rfl⟩ : ∃ m, k = m + 1 := ⟨k - 1, by omega⟩
    simp only [spec_WideShr.l0]
    rw [if_neg (by omega), show v / 2 ^ 0 = v by simp]
  | succ n ih =>
    intro k v hk hn h0 h1
    obtain ⟨k, rfl⟩ : ∃ m, k = m + 1 := ⟨k - 1, by omega⟩
    simp only [spec_WideShr.l0]
    rw [if_pos (by omega), (wide_half v h0 h1).1, (wide_half v h0 h1).2, show wrap64 (((n + 1 : Nat) : Int) - 1) = (n : Int) by unfold wrap64; omega, ih k _ (by omega) (by omega) (by omega) (by omega)]
    have e : v / 2 / 2 ^ n = v / 2 ^ (n + 1) := by rw [Int.ediv_ediv_of_nonneg (by omega), Int.pow_succ, Int.mul_comm]
    rw [e]
theorem wide_shr (n k : Nat) (v : Int) (hk : n + 1 < k) (hn : n ≤ 127) (h0 : 0 ≤ v) (h1 : v < 340282366920938463463374607431768211456) : spec_WideShr.f k (hiW v) (loW v) (n : Int) = some (hiW (v / 2 ^ n), loW (v / 2 ^ n)) := by
  obtain ⟨k, rfl⟩ : ∃ m, k = m + 1 := ⟨k - 1, by omega⟩
  unfold spec_WideShr.f
  rw [if_neg (by omega)]
  have hd : decide ((n : Int) > 127) = false := decide_eq_false (by omega)
  simp only [spec_WideShr.j0, hd]
  exact wide_shr_loop n k v (by omega) hn h0 h1
theorem wide_shr_out (n : Int) (k : Nat) (a b : Int) (hk : 0 < k) (hn : n < 0 ∨ 127 < n) : spec_WideShr.f k a b n = some (0, 0) := by
  obtain ⟨k, rfl⟩ : ∃ m, k = m + 1 := ⟨k - 1, by omega⟩
  unfold spec_WideShr.f
  by_cases h : n < 0
  · rw [if_pos h]; simp only [spec_WideShr.j0, if_true]
  · rw [if_neg h]
    have hd : decide (n > 127) = true := decide_eq_true (by omega)
    simp only [spec_WideShr.j0, hd, if_true]

theorem wraps_u64 : ∀ n : Int, 0 ≤ n → n < 2 ^ 64 → IntKind.u64.wrap n = n := fun n h0 h1 => by rw [w64]; omega
theorem and_one (x : Int) (h0 : 0 ≤ x) (h1 : x < 18446744073709551616) : Go.bits .and .u64 x 1 = x % 2 := bits_mask .u64 64 (by decide) wraps_u64 1 (by decide) x h0 (by omega)
theorem and_low (x : Int) (h0 : 0 ≤ x) (h1 : x < 18446744073709551616) : Go.bits .and .u64 x 4294967295 = x % 4294967296 := bits_mask .u64 64 (by decide) wraps_u64 32 (by decide) x h0 (by omega)
theorem spec_bit_eq (v : Int) (j k : Nat) (hj : j ≤ 127) (hk : j + 1 < k) (h0 : 0 ≤ v) (h1 : v < 340282366920938463463374607431768211456) : spec_l01Bit.f k (hiW v) (loW v) (j : Int) = some (v / 2 ^ j % 2) := by
  unfold spec_l01Bit.f
  rw [wide_shr j k v hk hj h0 h1]
  obtain ⟨b0, b1⟩ := loW_range (v / 2 ^ j)
  simp only [Option.bind_some]
  rw [and_one _ b0 b1]
  unfold loW
  congr 1
  omega
theorem pow_mono {a b : Nat} (h : a ≤ b) : (2 : Int) ^ a ≤ 2 ^ b := by exact_mod_cast Nat.pow_le_pow_right (n := 2) (by decide) h
/-- n is the number of bits of v. -/
def IsBits (v : Int) (n : Nat) : Prop := n ≤ 128 ∧ v < 2 ^ n ∧ (n = 0 ∨ 2 ^ (n - 1) ≤ v)
theorem IsBits.one {v : Int} {n m : Nat} (h1 : IsBits v n) (h2 : IsBits v m) : n = m := by
  obtain ⟨_, a1, a2⟩ := h1
  obtain ⟨_, b1, b2⟩ := h2
  rcases Nat.lt_trichotomy n m with h | h | h
  · have := pow_mono (show n ≤ m - 1 by omega)
    omega
  · exact h
  · have := pow_mono (show m ≤ n - 1 by omega)
    omega
theorem spec_bits_loop (v : Int) (h0 : 0 ≤ v) (h1 : v < 340282366920938463463374607431768211456) : ∀ (d j m k : Nat), 128 - j = d → j ≤ 128 → d + 200 < k → m ≤ j → v % 2 ^ j < 2 ^ m → (m = 0 ∨ 2 ^ (m - 1) ≤ v % 2 ^ j) →
    ∃ n, IsBits v n ∧ spec_WideBits.l0 k (m : Int) (j : Int) (hiW v) (loW v) = some (n : Int) := by
  intro d
  induction d with
  | zero =>
    intro j m k hd hj hk hm hl hr
    obtain ⟨k, rfl⟩ : ∃ i, k = i + 1 := ⟨k - 1, by omega⟩
    have e : v % 2 ^ j = v := by
      rw [show j = 128 by omega]
      exact Int.emod_eq_of_lt h0 (by omega)
    rw [e] at hl hr
    exact ⟨m, ⟨by omega, hl, hr⟩, by rw [spec_WideBits.l0, if_neg (by omega)]⟩
  | succ d ih =>
    intro j m k hd hj hk hm hl hr
    obtain ⟨k, rfl⟩ : ∃ i, k = i + 1 := ⟨k - 1, by omega⟩
    have hj' : (j : Int) < 128 := by omega
    have wj : wrap64 ((j : Int) + 1) = ((j + 1 : Nat) : Int) := by rw [wrap_small (by omega) (by omega)]; omega
    have hd' : 128 - (j + 1) = d := by omega
    have hj1 : j + 1 ≤ 128 := by omega
    have hk' : d + 200 < k := by omega
    have hm' : m ≤ j + 1 := by omega
    have bit := spec_bit_eq v j k (by omega) (by omega) h0 h1
    have ps := emod_pow_succ v j h0
    have nn : 0 ≤ v % 2 ^ j := Int.emod_nonneg _ (Int.ne_of_gt (pow_pos' j))
    have lt : v % 2 ^ (j + 1) < 2 ^ (j + 1) := Int.emod_lt_of_pos _ (pow_pos' _)
    rw [spec_WideBits.l0, if_pos hj', bit, Option.bind_some, wj]
    have two : v / 2 ^ j % 2 = 0 ∨ v / 2 ^ j % 2 = 1 := Int.emod_two_eq _
    clear bit
    rcases two with hb | hb
    · rw [hb, Int.mul_zero, Int.add_zero] at ps
      rw [hb, if_neg (by decide)]
      exact ih (j + 1) m k hd' hj1 hk' hm' (by rw [ps]; exact hl) (by rw [ps]; exact hr)
    · rw [hb, Int.mul_one] at ps
      rw [hb, if_pos rfl]
      exact ih (j + 1) (j + 1) k hd' hj1 hk' (Nat.le_refl _) lt (Or.inr (by rw [ps, Nat.add_sub_cancel]; exact Int.le_add_of_nonneg_left nn))
theorem len_eq (x : Int) (h0 : 0 < x) (h1 : x < 18446744073709551616) : ∃ n : Nat, 1 ≤ n ∧ n ≤ 64 ∧ x < 2 ^ n ∧ 2 ^ (n - 1) ≤ x ∧ bits_Len64.f x = some (n : Int) := by
  obtain ⟨m, rfl⟩ : ∃ m : Nat, x = (m : Int) := ⟨x.toNat, by omega⟩
  have b := Lib.bitLenAux_bounds 64 m (by omega) (by omega)
  have c : Lib.bitLenAux 64 m ≤ 64 := Lib.bitLenAux_le 64 m 64 (by omega)
  refine ⟨Lib.bitLenAux 64 m, b.1, c, by exact_mod_cast b.2.2, by exact_mod_cast b.2.1, ?_⟩
  unfold bits_Len64.f
  rw [if_pos (by omega), Int.toNat_natCast]
  rfl
theorem impl_bits (v : Int) (h0 : 0 ≤ v) (h1 : v < 340282366920938463463374607431768211456) : ∃ n, IsBits v n ∧ impl_WideBits.f (hiW v) (loW v) = some (n : Int) := by
  obtain ⟨a0, a1⟩ := hiW_range v h0 h1
  obtain ⟨b0, b1⟩ := loW_range v
  have e := val_eq v
  generalize hiW v = x at *
  generalize loW v = y at *
  unfold impl_WideBits.f
  by_cases hx : x > 0
  · obtain ⟨n, n0, n1, n2, n3, n4⟩ := len_eq x hx a1
    rw [if_pos hx, n4, Option.bind_some, wrap_small (by omega) (by omega)]
    have p1 : (2 : Int) ^ (64 + n) = 18446744073709551616 * 2 ^ n := by rw [Int.pow_add]; rfl
    have p2 : (2 : Int) ^ (64 + n - 1) = 18446744073709551616 * 2 ^ (n - 1) := by rw [show 64 + n - 1 = 64 + (n - 1) by omega, Int.pow_add]; rfl
    refine ⟨64 + n, ⟨by omega, by rw [p1]; omega, Or.inr (by rw [p2]; omega)⟩, by congr 1⟩
  · rw [if_neg hx]
    by_cases hy : y = 0
    · refine ⟨0, ⟨by omega, by rw [Int.pow_zero]; omega, Or.inl rfl⟩, ?_⟩
      rw [hy]
      rfl
    · obtain ⟨n, n0, n1, n2, n3, n4⟩ := len_eq y (by omega) b1
      rw [n4, Option.bind_some]
      exact ⟨n, ⟨by omega, by omega, Or.inr (by omega)⟩, rfl⟩

theorem shl64 (x : Int) (n : Nat) (hn : n ≤ 64) : shl .u64 x (n : Int) = x * 2 ^ n % 18446744073709551616 := by
  unfold shl
  rw [w64, show min (n : Int).toNat (IntKind.bits .u64) = n by simp [IntKind.bits]; omega]
theorem shr64 (x : Int) (n : Nat) (hn : n ≤ 64) : shr .u64 x (n : Int) = x / 2 ^ n := by
  unfold shr
  rw [show min (n : Int).toNat (IntKind.bits .u64) = n by simp [IntKind.bits]; omega]
theorem pow_split (n : Nat) (hn : n ≤ 64) : (2 : Int) ^ n * 2 ^ (64 - n) = 18446744073709551616 := by
  rw [← Int.pow_add, show n + (64 - n) = 64 by omega]
  rfl
theorem pow_le64 (n : Nat) (hn : n ≤ 64) : (1 : Int) ≤ 2 ^ n ∧ (2 : Int) ^ n ≤ 18446744073709551616 := by
  have h1 := pow_pos' n
  have h2 := pow_pos' (64 - n)
  have h3 := pow_split n hn
  refine ⟨by omega, ?_⟩
  rw [← h3]
  have h4 := Int.mul_le_mul_of_nonneg_left (show (1 : Int) ≤ 2 ^ (64 - n) by omega) (Int.le_of_lt h1)
  rw [Int.mul_one] at h4
  exact h4
/-- Two words whose bits do not meet. -/
theorem or_join (x y : Int) (i : Nat) (hi : i ≤ 64) (hx0 : 0 ≤ x) (hx1 : x < 18446744073709551616) (hm : x % 2 ^ i = 0) (hy0 : 0 ≤ y) (hy1 : y < 2 ^ i) : Go.bits .or .u64 x y = x + y :=
  bits_join .u64 64 (by decide) wraps_u64 i x y hx0 hm (by omega) hy0 hy1 (by have := (pow_le64 i hi).2; omega)
theorem or_join' (x y : Int) (i : Nat) (hi : i ≤ 64) (hx0 : 0 ≤ x) (hx1 : x < 18446744073709551616) (hm : x % 2 ^ i = 0) (hy0 : 0 ≤ y) (hy1 : y < 2 ^ i) : Go.bits .or .u64 y x = x + y := by
  have h := or_join x y i hi hx0 hx1 hm hy0 hy1
  have hy2 : y < 2 ^ 64 := by have := (pow_le64 i hi).2; omega
  obtain ⟨a, rfl⟩ := Int.eq_ofNat_of_zero_le hx0
  obtain ⟨b, rfl⟩ := Int.eq_ofNat_of_zero_le hy0
  have ha : a < 2 ^ 64 := by omega
  have hb : b < 2 ^ 64 := by omega
  rw [(bits_nat .u64 64 (by decide) wraps_u64 a b ha hb).2] at h
  rw [(bits_nat .u64 64 (by decide) wraps_u64 b a hb ha).2, Nat.or_comm]
  exact h
theorem impl_shl_eq (v : Int) (n : Nat) (hn : n ≤ 127) (h0 : 0 ≤ v) (h1 : v < 340282366920938463463374607431768211456) : impl_WideShl.f (hiW v) (loW v) (n : Int) = some (hiW (v * 2 ^ n % 340282366920938463463374607431768211456), loW (v * 2 ^ n % 340282366920938463463374607431768211456)) := by
  have ra := hiW_range v h0 h1
  have rb := loW_range v
  have ev := val_eq v
  unfold impl_WideShl.f
  rw [in_eq]
  have hd : decide ((0 : Int) ≤ (n : Int) ∧ (n : Int) ≤ 127) = true := decide_eq_true (by omega)
  simp only [Option.bind_some, hd, if_true]
  generalize ha : hiW v = a at *
  generalize hb : loW v = b at *
  by_cases c : (n : Int) ≥ 64
  · obtain ⟨m, rfl⟩ : ∃ m, n = 64 + m := ⟨n - 64, by omega⟩
    have e : wrap64 (((64 + m : Nat) : Int) - 64) = (m : Int) := by unfold wrap64; omega
    rw [if_pos c, e, if_pos (by omega), shl64 b m (by omega)]
    have ep : v * 2 ^ (64 + m) = a * 2 ^ m * 340282366920938463463374607431768211456 + b * 2 ^ m * 18446744073709551616 := by
      rw [← ev, Int.pow_add, show (2 : Int) ^ 64 = 18446744073709551616 from rfl, Int.add_mul]
      generalize (2 : Int) ^ m = P
      have e1 : a * 18446744073709551616 * (18446744073709551616 * P) = a * P * 340282366920938463463374607431768211456 := by
        rw [Int.mul_comm 18446744073709551616 P, Int.mul_assoc a, ← Int.mul_assoc 18446744073709551616 P, Int.mul_comm 18446744073709551616 P, Int.mul_assoc P, ← Int.mul_assoc a]
        rfl
      have e2 : b * (18446744073709551616 * P) = b * P * 18446744073709551616 := by rw [Int.mul_comm 18446744073709551616 P, ← Int.mul_assoc]
      rw [e1, e2]
    rw [ep]
    generalize a * 2 ^ m = x
    generalize b * 2 ^ m = y
    have hm : (x * 340282366920938463463374607431768211456 + y * 18446744073709551616) % 340282366920938463463374607431768211456 = y % 18446744073709551616 * 18446744073709551616 := by omega
    rw [hm]
    have hy0 : 0 ≤ y % 18446744073709551616 ∧ y % 18446744073709551616 < 18446744073709551616 := by omega
    generalize y % 18446744073709551616 = z at *
    have h1 := hi_of z 0 (by omega) (by omega)
    have h2 := lo_of z 0 (by omega) (by omega)
    rw [Int.add_zero] at h1 h2
    rw [h1, h2]
  · have hn6 : n ≤ 64 := by omega
    have e : wrap64 (64 - (n : Int)) = ((64 - n : Nat) : Int) := by unfold wrap64; omega
    rw [if_neg c, if_pos (by omega), e, if_pos (by omega), shl64 a n hn6, shl64 b n hn6, shr64 b (64 - n) (by omega)]
    have hPR := pow_split n hn6
    have hP := pow_pos' n
    have hR := pow_pos' (64 - n)
    rw [← ev]
    have key : ∀ P R : Int, P * R = 18446744073709551616 → 0 < P → 0 < R → ∃ f c d e : Int, a * P % 18446744073709551616 = c * P ∧ b / R = d ∧ b * P % 18446744073709551616 = e * P ∧ 0 ≤ c * P ∧ c * P + P ≤ 18446744073709551616 ∧ 0 ≤ d ∧ d < P ∧ 0 ≤ e * P ∧ e * P < 18446744073709551616 ∧ (a * 18446744073709551616 + b) * P = f * 340282366920938463463374607431768211456 + ((c * P + d) * 18446744073709551616 + e * P) := fun P R hPR hP hR => by
      have ma : a * P % 18446744073709551616 = a % R * P := by rw [← hPR, Int.mul_comm a P, Int.mul_emod_mul_of_pos _ _ hP, Int.mul_comm]
      have mb : b * P % 18446744073709551616 = b % R * P := by rw [← hPR, Int.mul_comm b P, Int.mul_emod_mul_of_pos _ _ hP, Int.mul_comm]
      have hc0 := Int.emod_nonneg a (Int.ne_of_gt hR)
      have hc1 := Int.emod_lt_of_pos a hR
      have he0 := Int.emod_nonneg b (Int.ne_of_gt hR)
      have he1 := Int.emod_lt_of_pos b hR
      have hda := Int.emod_def a R
      have hdb := Int.emod_def b R
      have hd0 : 0 ≤ b / R := Int.ediv_nonneg rb.1 (Int.le_of_lt hR)
      have hd1 : b / R < P := Int.ediv_lt_of_lt_mul hR (by rw [hPR]; exact rb.2)
      refine ⟨a / R, a % R, b / R, b % R, ma, rfl, mb, Int.mul_nonneg hc0 (Int.le_of_lt hP), ?_, hd0, hd1, Int.mul_nonneg he0 (Int.le_of_lt hP), ?_, ?_⟩
      · have : (a % R + 1) * P ≤ R * P := Int.mul_le_mul_of_nonneg_right (by omega) (Int.le_of_lt hP)
        rw [Int.add_mul, Int.one_mul, Int.mul_comm R P, hPR] at this
        exact this
      · have : (b % R + 1) * P ≤ R * P := Int.mul_le_mul_of_nonneg_right (by omega) (Int.le_of_lt hP)
        rw [Int.add_mul, Int.one_mul, Int.mul_comm R P, hPR] at this
        omega
      · have e1 : a * P = a / R * 18446744073709551616 + a % R * P := by
          rw [hda, Int.sub_mul, ← hPR, Int.mul_comm R (a / R), Int.mul_assoc (a / R), Int.mul_comm R P]
          omega
        have e2 : b * P = b / R * 18446744073709551616 + b % R * P := by
          rw [hdb, Int.sub_mul, ← hPR, Int.mul_comm R (b / R), Int.mul_assoc (b / R), Int.mul_comm R P]
          omega
        rw [Int.add_mul, Int.mul_assoc, Int.mul_comm 18446744073709551616 P, ← Int.mul_assoc, e1, e2]
        generalize a % R * P = x
        generalize b % R * P = y
        generalize a / R = z
        generalize b / R = t
        omega
    obtain ⟨f, c', d, e', k1, k2, k3, k4, k5, k6, k7, k8, k9, k10⟩ := key _ _ hPR hP hR
    have hm0 : c' * 2 ^ n % 2 ^ n = 0 := Int.mul_emod_left _ _
    rw [k1, k2, k3, k10, or_join _ _ n hn6 k4 (by omega) hm0 k6 k7]
    generalize c' * 2 ^ n = x at *
    generalize e' * 2 ^ n = y at *
    have hm : (f * 340282366920938463463374607431768211456 + ((x + d) * 18446744073709551616 + y)) % 340282366920938463463374607431768211456 = (x + d) * 18446744073709551616 + y := by omega
    rw [hm, hi_of _ _ k8 k9, lo_of _ _ k8 k9]

theorem impl_shr_eq (v : Int) (n : Nat) (hn : n ≤ 127) (h0 : 0 ≤ v) (h1 : v < 340282366920938463463374607431768211456) : impl_WideShr.f (hiW v) (loW v) (n : Int) = some (hiW (v / 2 ^ n), loW (v / 2 ^ n)) := by
  have ra := hiW_range v h0 h1
  have rb := loW_range v
  have ev := val_eq v
  unfold impl_WideShr.f
  rw [in_eq]
  have hd : decide ((0 : Int) ≤ (n : Int) ∧ (n : Int) ≤ 127) = true := decide_eq_true (by omega)
  simp only [Option.bind_some, hd, if_true]
  by_cases c : (n : Int) ≥ 64
  · obtain ⟨m, rfl⟩ : ∃ m, n = 64 + m := ⟨n - 64, by omega⟩
    have e : wrap64 (((64 + m : Nat) : Int) - 64) = (m : Int) := by unfold wrap64; omega
    rw [if_pos c, e, if_pos (by omega), shr64 _ m (by omega)]
    have ep : v / 2 ^ (64 + m) = hiW v / 2 ^ m := by
      rw [Int.pow_add, ← Int.ediv_ediv_of_nonneg (by decide)]
      rfl
    have hq0 : 0 ≤ hiW v / 2 ^ m := Int.ediv_nonneg ra.1 (Int.le_of_lt (pow_pos' m))
    have hq1 : hiW v / 2 ^ m < 18446744073709551616 := Int.lt_of_le_of_lt (Int.ediv_le_self _ ra.1) ra.2
    rw [ep, hiW_small _ hq0 hq1, loW_small _ hq0 hq1]
  · have hn6 : n ≤ 64 := by omega
    have e : wrap64 (64 - (n : Int)) = ((64 - n : Nat) : Int) := by unfold wrap64; omega
    generalize ha : hiW v = a at *
    generalize hb : loW v = b at *
    rw [if_neg c, if_pos (by omega), e, if_pos (by omega), shr64 a n hn6, shr64 b n hn6, shl64 a (64 - n) (by omega)]
    have hPR := pow_split n hn6
    have hP := pow_pos' n
    have hR := pow_pos' (64 - n)
    rw [← ev]
    have key : ∀ P R : Int, P * R = 18446744073709551616 → 0 < P → 0 < R → ∃ f c d : Int, a / P = f ∧ b / P = d ∧ a * R % 18446744073709551616 = c * R ∧ 0 ≤ c * R ∧ c * R + R ≤ 18446744073709551616 ∧ 0 ≤ d ∧ d < R ∧ (a * 18446744073709551616 + b) / P = f * 18446744073709551616 + (c * R + d) := fun P R hPR hP hR => by
      have ma : a * R % 18446744073709551616 = a % P * R := by rw [← hPR, Int.mul_comm a R, Int.mul_comm P R, Int.mul_emod_mul_of_pos _ _ hR, Int.mul_comm]
      have hc0 := Int.emod_nonneg a (Int.ne_of_gt hP)
      have hc1 := Int.emod_lt_of_pos a hP
      have hda := Int.emod_def a P
      have hd0 : 0 ≤ b / P := Int.ediv_nonneg rb.1 (Int.le_of_lt hP)
      have hd1 : b / P < R := Int.ediv_lt_of_lt_mul hP (by rw [Int.mul_comm R P, hPR]; exact rb.2)
      refine ⟨a / P, a % P, b / P, rfl, rfl, ma, Int.mul_nonneg hc0 (Int.le_of_lt hR), ?_, hd0, hd1, ?_⟩
      · have : (a % P + 1) * R ≤ P * R := Int.mul_le_mul_of_nonneg_right (by omega) (Int.le_of_lt hR)
        rw [Int.add_mul, Int.one_mul, hPR] at this
        exact this
      · have e1 : a * 18446744073709551616 + b = b + P * (a * R) := by
          rw [← hPR, ← Int.mul_assoc, Int.mul_comm a P, Int.mul_assoc, Int.add_comm]
        have e2 : a * R = a / P * 18446744073709551616 + a % P * R := by
          rw [hda, Int.sub_mul, ← hPR, Int.mul_comm P (a / P), Int.mul_assoc (a / P)]
          omega
        rw [e1, Int.add_mul_ediv_left _ _ (Int.ne_of_gt hP), e2]
        omega
    obtain ⟨f, c', d, k1, k2, k3, k4, k5, k6, k7, k8⟩ := key _ _ hPR hP hR
    have hm0 : c' * 2 ^ (64 - n) % 2 ^ (64 - n) = 0 := Int.mul_emod_left _ _
    rw [k1, k2, k3, k8, or_join' _ _ (64 - n) (by omega) k4 (by omega) hm0 k6 k7]
    generalize c' * 2 ^ (64 - n) = x at *
    rw [hi_of _ _ (by omega) (by omega), lo_of _ _ (by omega) (by omega)]
theorem impl_shl_out (a b n : Int) (hn : n < 0 ∨ 127 < n) : impl_WideShl.f a b n = some (0, 0) := by
  unfold impl_WideShl.f
  rw [in_eq]
  have hd : decide ((0 : Int) ≤ n ∧ n ≤ 127) = false := decide_eq_false (by omega)
  simp [hd]
theorem impl_shr_out (a b n : Int) (hn : n < 0 ∨ 127 < n) : impl_WideShr.f a b n = some (0, 0) := by
  unfold impl_WideShr.f
  rw [in_eq]
  have hd : decide ((0 : Int) ≤ n ∧ n ≤ 127) = false := decide_eq_false (by omega)
  simp [hd]

/-! The drawn numbers: whatever the code, each draw answers, within its bounds. -/
def St (l : List Int) (a : Int) : Prop := l.length ≤ 140737488351232 ∧ 0 ≤ a ∧ a ≤ 140737488351232
theorem u64w (x : Int) : 0 ≤ IntKind.u64.wrap x ∧ IntKind.u64.wrap x < 18446744073709551616 := by rw [w64]; omega
theorem n_ok {l : List Int} {a : Int} (h : St l a) (m z t : Int) (ht : t ≤ 4611686018427387904) : ∃ r a' m', spec_l01Src_n.f l a m z t = some (r, a', m', z) ∧ St l a' ∧ 0 ≤ r ∧ (r = 0 ∨ r < t) := by
  unfold St at h
  obtain ⟨h1, h2, h3⟩ := h
  unfold spec_l01Src_n.f
  by_cases c1 : t ≤ 1
  · rw [if_pos c1]
    exact ⟨0, a, m, rfl, ⟨h1, h2, h3⟩, by omega, Or.inl rfl⟩
  · rw [if_neg c1]
    have wt : IntKind.u64.wrap t = t := by rw [w64]; omega
    have hr : ∀ x, 0 ≤ wrap64 (Int.tmod (IntKind.u64.wrap x) t) ∧ wrap64 (Int.tmod (IntKind.u64.wrap x) t) < t := fun x => by
      have b := u64w x
      generalize IntKind.u64.wrap x = y at *
      rw [Int.tmod_eq_emod_of_nonneg b.1]
      have e1 := Int.emod_nonneg y (show t ≠ 0 by omega)
      have e2 := Int.emod_lt_of_pos y (show 0 < t by omega)
      rw [wrap_small (by omega) (by omega)]
      exact ⟨e1, e2⟩
    by_cases c2 : a < (l.length : Int)
    · rw [if_pos c2, if_pos h2, wt, if_neg (show ¬ t = 0 by omega)]
      have e := wrap_small (x := a + 1) (by omega) (by omega)
      exact ⟨_, _, _, rfl, ⟨h1, by rw [e]; omega, by rw [e]; omega⟩, (hr _).1, Or.inr (hr _).2⟩
    · rw [if_neg c2, wt, if_neg (show ¬ t = 0 by omega)]
      exact ⟨_, _, _, rfl, ⟨h1, h2, h3⟩, (hr _).1, Or.inr (hr _).2⟩
theorem one_ok {l : List Int} {a : Int} (h : St l a) (m z t : Int) (ht : t ≤ 4611686018427387904) : ∃ b a' m', spec_l01Src_one.f l a m z t = some (b, a', m', z) ∧ St l a' := by
  obtain ⟨r, a', m', e, h', _, _⟩ := n_ok h m z t ht
  unfold spec_l01Src_one.f
  rw [e]
  exact ⟨_, _, _, rfl, h'⟩
theorem source_loop (l : List Int) : ∀ (d i k : Nat) (m : Int), 64 - i = d → i ≤ 64 → d < k → ∃ m' z, spec_l01Source.l0 k l (i : Int) l 0 m 0 = some (l, 0, m', z) := by
  intro d
  induction d with
  | zero =>
    intro i k m hd hi hk
    obtain ⟨k, rfl⟩ : ∃ j, k = j + 1 := ⟨k - 1, by omega⟩
    rw [spec_l01Source.l0, if_neg (show ¬ (i : Int) < 64 by omega)]
    (repeat' split) <;> exact ⟨_, _, rfl⟩
  | succ d ih =>
    intro i k m hd hi hk
    obtain ⟨k, rfl⟩ : ∃ j, k = j + 1 := ⟨k - 1, by omega⟩
    rw [spec_l01Source.l0, if_pos (show (i : Int) < 64 by omega), if_pos (show 0 ≤ (i : Int) by omega), wrap_small (show -9223372036854775808 ≤ (i : Int) + 1 by omega) (show (i : Int) + 1 ≤ 9223372036854775807 by omega)]
    by_cases c : (i : Int) < (l.length : Int)
    · rw [if_pos c]
      exact ih (i + 1) k _ (by omega) (by omega) (by omega)
    · rw [if_neg c]
      (repeat' split) <;> exact ⟨_, _, rfl⟩
theorem source_ok (l : List Int) (k : Nat) (hk : 70 < k) : ∃ m z, spec_l01Source.f k l = some (l, 0, m, z) := source_loop l 64 0 k _ rfl (by omega) (by omega)

theorem shl_range (x : Int) (n : Nat) (hn : n ≤ 64) : 0 ≤ shl .u64 x (n : Int) ∧ shl .u64 x (n : Int) < 18446744073709551616 := by rw [shl64 x n hn]; omega
theorem shr_range (x : Int) (n : Nat) (hn : n ≤ 64) (h0 : 0 ≤ x) (h1 : x < 18446744073709551616) : 0 ≤ shr .u64 x (n : Int) ∧ shr .u64 x (n : Int) < 18446744073709551616 := by
  rw [shr64 x n hn]
  have a := Int.ediv_nonneg h0 (Int.le_of_lt (pow_pos' n))
  have b := Int.ediv_le_self (2 ^ n) h0
  omega
theorem u64_loop {l : List Int} (z : Int) : ∀ (d j k : Nat) (x a m : Int), 8 - j = d → j ≤ 8 → d < k → St l a → 0 ≤ x → x < 18446744073709551616 → ∃ v a' m', spec_l01Src_u64.l0 k x (j : Int) l a m z = some (v, a', m', z) ∧ St l a' ∧ 0 ≤ v ∧ v < 18446744073709551616 := by
  intro d
  induction d with
  | zero =>
    intro j k x a m hd hj hk h h0 h1
    obtain ⟨k, rfl⟩ : ∃ i, k = i + 1 := ⟨k - 1, by omega⟩
    obtain ⟨r, a', m', e, h', r0, r1⟩ := n_ok h m z 64 (by omega)
    have wr : IntKind.u64.wrap r = ((r.toNat : Nat) : Int) := by rw [w64]; omega
    rw [spec_l01Src_u64.l0, if_neg (show ¬ (j : Int) < 8 by omega), e]
    simp only [Option.bind_some, wr]
    rw [if_pos (by omega)]
    have b := shr_range x r.toNat (by omega) h0 h1
    exact ⟨_, _, _, rfl, h', b.1, b.2⟩
  | succ d ih =>
    intro j k x a m hd hj hk h h0 h1
    obtain ⟨k, rfl⟩ : ∃ i, k = i + 1 := ⟨k - 1, by omega⟩
    obtain ⟨r, a', m', e, h', r0, r1⟩ := n_ok h m z 256 (by omega)
    rw [spec_l01Src_u64.l0, if_pos (show (j : Int) < 8 by omega), e]
    simp only [Option.bind_some]
    rw [wrap_small (show -9223372036854775808 ≤ (j : Int) + 1 by omega) (show (j : Int) + 1 ≤ 9223372036854775807 by omega)]
    have b := u64w (IntKind.u64.wrap (x * 256) + IntKind.u64.wrap r)
    exact ih (j + 1) k _ a' m' (by omega) (by omega) (by omega) h' b.1 b.2
theorem u64_ok {l : List Int} {a : Int} (h : St l a) (m z : Int) (k : Nat) (hk : 20 < k) : ∃ v a' m', spec_l01Src_u64.f k l a m z = some (v, a', m', z) ∧ St l a' ∧ 0 ≤ v ∧ v < 18446744073709551616 := by
  obtain ⟨r, a1, m1, e, h', r0, r1⟩ := n_ok h m z 6 (by omega)
  unfold spec_l01Src_u64.f
  rw [e]
  simp only [Option.bind_some]
  by_cases c0 : r = 0
  · obtain ⟨r2, a2, m2, e2, h2, _, _⟩ := n_ok h' m1 z 20 (by omega)
    rw [if_pos c0, e2]
    exact ⟨_, _, _, rfl, h2, (u64w _).1, (u64w _).2⟩
  rw [if_neg c0]
  by_cases c1 : r = 1
  · obtain ⟨r2, a2, m2, e2, h2, _, _⟩ := n_ok h' m1 z 20 (by omega)
    rw [if_pos c1, e2]
    exact ⟨_, _, _, rfl, h2, (u64w _).1, (u64w _).2⟩
  rw [if_neg c1]
  by_cases c2 : r = 2
  · obtain ⟨r2, a2, m2, e2, h2, p0, p1⟩ := n_ok h' m1 z 64 (by omega)
    have wr : IntKind.u64.wrap r2 = ((r2.toNat : Nat) : Int) := by rw [w64]; omega
    rw [if_pos c2, e2]
    simp only [Option.bind_some, wr]
    rw [if_pos (by omega)]
    have b := shl_range 1 r2.toNat (by omega)
    exact ⟨_, _, _, rfl, h2, b.1, b.2⟩
  rw [if_neg c2]
  exact u64_loop z 8 0 k 0 a1 m1 rfl (by omega) (by omega) h' (by omega) (by omega)
theorem wide_ok {l : List Int} {a : Int} (h : St l a) (m z : Int) (k : Nat) (hk : 20 < k) : ∃ hi lo a' m', spec_l01Src_wide.f k l a m z = some (hi, lo, a', m', z) ∧ St l a' ∧ (0 ≤ hi ∧ hi < 18446744073709551616) ∧ (0 ≤ lo ∧ lo < 18446744073709551616) := by
  obtain ⟨v, a1, m1, e1, h1, v0, v1⟩ := u64_ok h m z k hk
  obtain ⟨b, a2, m2, e2, h2⟩ := one_ok h1 m1 z 3 (by omega)
  obtain ⟨u, a3, m3, e3, h3, u0, u1⟩ := u64_ok h2 m2 z k hk
  unfold spec_l01Src_wide.f
  rw [e1]
  simp only [Option.bind_some, e2]
  cases b with
  | true => rw [if_pos rfl, e3]; exact ⟨_, _, _, _, rfl, h3, ⟨by omega, by omega⟩, u0, u1⟩
  | false => rw [if_neg (by decide), e3]; exact ⟨_, _, _, _, rfl, h3, ⟨v0, v1⟩, u0, u1⟩
theorem as_wide (hi lo : Int) (h : 0 ≤ hi ∧ hi < 18446744073709551616) (g : 0 ≤ lo ∧ lo < 18446744073709551616) : ∃ v, 0 ≤ v ∧ v < 340282366920938463463374607431768211456 ∧ hi = hiW v ∧ lo = loW v :=
  ⟨hi * 18446744073709551616 + lo, (val_of hi lo h.1 h.2 g.1 g.2).1, (val_of hi lo h.1 h.2 g.1 g.2).2, (hi_of hi lo g.1 g.2).symm, (lo_of hi lo g.1 g.2).symm⟩

theorem draw_ok (l : List Int) (hl : l.length ≤ 140737488351232) (k : Nat) (hk : 70 < k) : ∃ v n, 0 ≤ v ∧ v < 340282366920938463463374607431768211456 ∧ spec_DrawWideShl.f k l = some (hiW v, loW v, n) := by
  obtain ⟨m, z, e0⟩ := source_ok l k hk
  obtain ⟨hi, lo, a1, m1, e1, h1, b1, b2⟩ := wide_ok (l := l) (a := 0) ⟨hl, by omega, by omega⟩ m z k (by omega)
  obtain ⟨r, a2, m2, e2, h2, _, _⟩ := n_ok h1 m1 z 131 (by omega)
  obtain ⟨v, v0, v1, rfl, rfl⟩ := as_wide hi lo b1 b2
  refine ⟨v, wrap64 (r - 1), v0, v1, ?_⟩
  unfold spec_DrawWideShl.f
  rw [e0]
  simp only [Option.bind_some, e1, e2]
theorem law_out (k : Nat) (v n b : Int) (hn : n < 0 ∨ 127 < n) : laws_FnWideShift.j0 (k + 1) n b true (hiW v) (loW v) = some true := by
  rw [laws_FnWideShift.j0, if_pos rfl, impl_shl_out _ _ n hn]
  simp [impl_shr_out _ _ n hn]
theorem law_in (k : Nat) (v : Int) (q m : Nat) (hq : q ≤ 127) (h0 : 0 ≤ v) (h1 : v < 340282366920938463463374607431768211456) (hm : IsBits v m) : laws_FnWideShift.j0 (k + 2) (q : Int) (m : Int) false (hiW v) (loW v) = some true := by
  have hm' : m ≤ 128 := hm.1
  rw [laws_FnWideShift.j0, if_neg (by decide)]
  by_cases hz : (m : Int) = 0
  · rw [if_pos hz, laws_FnWideShift.j1, if_pos rfl]
  rw [if_neg hz, wrap_small (by omega) (by omega)]
  by_cases hb : (m : Int) + (q : Int) > 128
  · rw [decide_eq_true hb, laws_FnWideShift.j1, if_pos rfl]
  have hs : m + q ≤ 128 := by omega
  have hq' : m - 1 + q = m + q - 1 := by omega
  have hnz : ¬ m + q = 0 := by omega
  rw [decide_eq_false hb, laws_FnWideShift.j1, if_neg (by decide), impl_shl_eq v q hq h0 h1]
  obtain ⟨_, g1, g2⟩ := hm
  have pq := pow_pos' q
  have u0 : 0 ≤ v * 2 ^ q := Int.mul_nonneg h0 (Int.le_of_lt pq)
  have u1 : v * 2 ^ q < 2 ^ (m + q) := by rw [Int.pow_add]; exact Int.mul_lt_mul_of_pos_right g1 pq
  have u2 : (2 : Int) ^ (m + q) ≤ 340282366920938463463374607431768211456 := pow_mono (b := 128) hs
  have u3 : v * 2 ^ q < 340282366920938463463374607431768211456 := Int.lt_of_lt_of_le u1 u2
  have g3 : (2 : Int) ^ (m - 1) ≤ v := by
    rcases g2 with g | g
    · exact absurd (by omega) hz
    · exact g
  have u4 : (2 : Int) ^ (m + q - 1) ≤ v * 2 ^ q := by
    rw [← hq', Int.pow_add]
    exact Int.mul_le_mul_of_nonneg_right g3 (Int.le_of_lt pq)
  obtain ⟨n, hn, e⟩ := impl_bits (v * 2 ^ q) u0 u3
  have en : n = m + q := hn.one ⟨hs, u1, Or.inr u4⟩
  rw [Int.emod_eq_of_lt u0 u3]
  simp only [Option.bind_some]
  rw [impl_shr_eq (v * 2 ^ q) q hq u0 u3, Int.mul_ediv_cancel _ (Int.ne_of_gt pq)]
  simp only [Option.bind_some, beq_self_eq_true, Bool.and_self, if_true]
  rw [e, en, wrap_small (show -9223372036854775808 ≤ (m : Int) + (q : Int) by omega) (by omega)]
  simp
theorem FnWideShift : laws_FnWideShift.Pure := by
  intro l hl hl2 hx
  refine ⟨400, ?_⟩
  unfold laws_FnWideShift.f
  by_cases big : (l.length : Int) > 1048576
  · rw [if_pos big]
  rw [if_neg big]
  obtain ⟨v, n, v0, v1, e⟩ := draw_ok l (by omega) 400 (by omega)
  obtain ⟨a, ha, ea⟩ := spec_bits_loop v v0 v1 128 0 0 400 rfl (by omega) (by omega) (by omega) (by rw [Int.pow_zero, Int.emod_one]; decide) (Or.inl rfl)
  obtain ⟨b, hb, eb⟩ := impl_bits v v0 v1
  have ea' : spec_WideBits.f 400 (hiW v) (loW v) = some (a : Int) := ea
  have hab := ha.one hb
  subst hab
  rw [e]
  simp only [Option.bind_some, eb, ea', if_true]
  by_cases c : n < 0
  · rw [if_pos c]
    exact law_out 399 v n a (Or.inl c)
  rw [if_neg c]
  by_cases c2 : n > 127
  · rw [decide_eq_true c2]
    exact law_out 399 v n a (Or.inr c2)
  rw [decide_eq_false c2]
  obtain ⟨q, rfl⟩ := Int.eq_ofNat_of_zero_le (show 0 ≤ n by omega)
  exact law_in 398 v q a (by omega) v0 v1 ha

end Go.Proofs.Ytnekamdopfielaa.Pure
