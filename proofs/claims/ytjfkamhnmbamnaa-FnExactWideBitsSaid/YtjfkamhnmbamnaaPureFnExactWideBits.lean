/- WideBits answers as the reference does, for all wide numbers. Conditions: none beyond the statement's own bounds. -/
import Derived.Test.YtjfkamhnmbamnaaBridgeFnExactWideBits
import Derived.Lib.ItoaNum
namespace Go.Proofs.Ytjfkamhnmbamnaa.Pure
open Go.RowKit Go.Proofs.Ytjfkamhnmbamnaa.XFnExactWideBits Go.Proofs.Ytjfkamhnmbamnaa.BridgeFnExactWideBits Go.Proofs.YtjfkamhnmbamnaaW.PrintWords Go.Proofs.YtjfkamhnmbamnaaW.PrintLast Go.Proofs.YtjfkamhnmbamnaaW.PrintMore
set_option linter.unusedVariables false
set_option linter.unusedSimpArgs false

theorem wrap_small {x : Int} (h0 : -9223372036854775808 ≤ x) (h1 : x ≤ 9223372036854775807) : wrap64 x = x := by
  unfold wrap64
  omega
theorem i64_range {x : Int} (h : (Lit.int .i64 x).wf = true) : -9223372036854775808 ≤ x ∧ x ≤ 9223372036854775807 := by
  simp [Lit.wf, IntKind.min, IntKind.max, IntKind.bits, IntKind.signed] at h
  omega
theorem u64_range {x : Int} (h : (Lit.int .u64 x).wf = true) : 0 ≤ x ∧ x < 18446744073709551616 := by
  simp [Lit.wf, IntKind.min, IntKind.max, IntKind.bits, IntKind.signed] at h
  omega

theorem w64 (x : Int) : IntKind.u64.wrap x = x % 18446744073709551616 := by simp [IntKind.wrap, IntKind.bits, IntKind.signed]
/-- The two words of a wide number's value. -/
def hiW (v : Int) : Int := v / 18446744073709551616
def loW (v : Int) : Int := v % 18446744073709551616
theorem hi_of (a b : Int) (h0 : 0 ≤ b) (h1 : b < 18446744073709551616) : hiW (a * 18446744073709551616 + b) = a := by unfold hiW; omega
theorem lo_of (a b : Int) (h0 : 0 ≤ b) (h1 : b < 18446744073709551616) : loW (a * 18446744073709551616 + b) = b := by unfold loW; omega
theorem val_of (a b : Int) (ha0 : 0 ≤ a) (ha1 : a < 18446744073709551616) (hb0 : 0 ≤ b) (hb1 : b < 18446744073709551616) : 0 ≤ a * 18446744073709551616 + b ∧ a * 18446744073709551616 + b < 340282366920938463463374607431768211456 := by omega
theorem hiW_range (v : Int) (h0 : 0 ≤ v) (h1 : v < 340282366920938463463374607431768211456) : 0 ≤ hiW v ∧ hiW v < 18446744073709551616 := by unfold hiW; omega
theorem loW_range (v : Int) : 0 ≤ loW v ∧ loW v < 18446744073709551616 := by unfold loW; omega
theorem val_eq (v : Int) : hiW v * 18446744073709551616 + loW v = v := by unfold hiW loW; omega
theorem hiW_zero : hiW 0 = 0 := rfl
theorem loW_zero : loW 0 = 0 := rfl
theorem hiW_small (x : Int) (h0 : 0 ≤ x) (h1 : x < 18446744073709551616) : hiW x = 0 := by unfold hiW; omega
theorem loW_small (x : Int) (h0 : 0 ≤ x) (h1 : x < 18446744073709551616) : loW x = x := by unfold loW; omega
theorem emod_le' (b m : Int) (hb : 0 ≤ b) (hm : 0 < m) : b % m ≤ b := by
  have h1 := Int.emod_def b m
  have h2 := Int.mul_nonneg (Int.le_of_lt hm) (Int.ediv_nonneg hb (Int.le_of_lt hm))
  omega
theorem pow_pos' (j : Nat) : (0 : Int) < 2 ^ j := Int.pow_pos (by decide)
theorem emod_pow_succ (b : Int) (j : Nat) (hb : 0 ≤ b) : b % 2 ^ (j + 1) = b % 2 ^ j + 2 ^ j * (b / 2 ^ j % 2) := by
  obtain ⟨n, rfl⟩ := Int.eq_ofNat_of_zero_le hb
  have h := Nat.mod_mul (a := 2 ^ j) (b := 2) (x := n)
  rw [Int.pow_succ]
  exact_mod_cast h
theorem emod_mul_left (a b m : Int) : (a % m * b) % m = (a * b) % m := by rw [Int.mul_emod, Int.emod_emod, ← Int.mul_emod]

theorem wide_half (v : Int) (h0 : 0 ≤ v) (h1 : v < 340282366920938463463374607431768211456) : (IntKind.u64.wrap (Int.tdiv (hiW v) 2)) = hiW (v / 2) ∧ (IntKind.u64.wrap ((IntKind.u64.wrap (Int.tdiv (loW v) 2)) + (IntKind.u64.wrap ((Int.tmod (hiW v) 2) * 9223372036854775808)))) = loW (v / 2) := by
  have r1 := hiW_range v h0 h1
  have r2 := loW_range v
  rw [Int.tdiv_eq_ediv_of_nonneg r1.1, Int.tdiv_eq_ediv_of_nonneg r2.1, Int.tmod_eq_emod_of_nonneg r1.1]
  simp only [w64]
  unfold hiW loW at *
  constructor <;> omega
theorem wide_shr_loop : ∀ (n k : Nat) (v : Int), n < k → n ≤ 127 → 0 ≤ v → v < 340282366920938463463374607431768211456 → spec_WideShr.l0 k (n : Int) (hiW v) (loW v) = some (hiW (v / 2 ^ n), loW (v / 2 ^ n)) := by
  intro n
  induction n with
  | zero =>
    intro k v hk _ h0 h1
    obtain ⟨k, rfl⟩ : ∃ m, k = m + 1 := ⟨k - 1, by omega⟩
    simp only [spec_WideShr.l0]
    rw [if_neg (by omega), show v / 2 ^ 0 = v by simp]
  | succ n ih =>
    intro k v hk hn h0 h1
    obtain ⟨k, rfl⟩ : ∃ m, k = m + 1 := ⟨k - 1, by omega⟩
    simp only [spec_WideShr.l0]
    rw [if_pos (by omega), (wide_half v h0 h1).1, (wide_half v h0 h1).2, show wrap64 (((n + 1 : Nat) : Int) - 1) = (n : Int) by unfold wrap64; omega, ih k _ (by omega) (by omega) (by omega) (by omega)]
    have e : v / 2 / 2 ^ n = v / 2 ^ (n + 1) := by rw [Int.ediv_ediv_of_nonneg (by omega), Int.pow_succ, Int.mul_comm]
    rw [e]
theorem wide_shr (n k : Nat) (v : Int) (hk : n + 1 < k) (hn : n ≤ 127) (h0 : 0 ≤ v) (h1 : v < 340282366920938463463374607431768211456) : spec_WideShr.f k (hiW v) (loW v) (n : Int) = some (hiW (v / 2 ^ n), loW (v / 2 ^ n)) := by
  obtain ⟨k, rfl⟩ : ∃ m, k = m + 1 := ⟨k - 1, by omega⟩
  unfold spec_WideShr.f
  rw [if_neg (by omega)]
  have hd : decide ((n : Int) > 127) = false := decide_eq_false (by omega)
  simp only [spec_WideShr.j0, hd]
  exact wide_shr_loop n k v (by omega) hn h0 h1
theorem wide_shr_out (n : Int) (k : Nat) (a b : Int) (hk : 0 < k) (hn : n < 0 ∨ 127 < n) : spec_WideShr.f k a b n = some (0, 0) := by
  obtain ⟨k, rfl⟩ : ∃ m, k = m + 1 := ⟨k - 1, by omega⟩
  unfold spec_WideShr.f
  by_cases h : n < 0
  · rw [if_pos h]; simp only [spec_WideShr.j0, if_true]
  · rw [if_neg h]
    have hd : decide (n > 127) = true := decide_eq_true (by omega)
    simp only [spec_WideShr.j0, hd, if_true]

theorem wraps_u64 : ∀ n : Int, 0 ≤ n → n < 2 ^ 64 → IntKind.u64.wrap n = n := fun n h0 h1 => by rw [w64]; omega
theorem and_one (x : Int) (h0 : 0 ≤ x) (h1 : x < 18446744073709551616) : Go.bits .and .u64 x 1 = x % 2 := bits_mask .u64 64 (by decide) wraps_u64 1 (by decide) x h0 (by omega)
theorem and_low (x : Int) (h0 : 0 ≤ x) (h1 : x < 18446744073709551616) : Go.bits .and .u64 x 4294967295 = x % 4294967296 := bits_mask .u64 64 (by decide) wraps_u64 32 (by decide) x h0 (by omega)
theorem spec_bit_eq (v : Int) (j k : Nat) (hj : j ≤ 127) (hk : j + 1 < k) (h0 : 0 ≤ v) (h1 : v < 340282366920938463463374607431768211456) : spec_l01Bit.f k (hiW v) (loW v) (j : Int) = some (v / 2 ^ j % 2) := by
  unfold spec_l01Bit.f
  rw [wide_shr j k v hk hj h0 h1]
  obtain ⟨b0, b1⟩ := loW_range (v / 2 ^ j)
  simp only [Option.bind_some]
  rw [and_one _ b0 b1]
  unfold loW
  congr 1
  omega

theorem pow_mono {a b : Nat} (h : a ≤ b) : (2 : Int) ^ a ≤ 2 ^ b := by exact_mod_cast Nat.pow_le_pow_right (n := 2) (by decide) h
/-- n is the number of bits of v. -/
def IsBits (v : Int) (n : Nat) : Prop := n ≤ 128 ∧ v < 2 ^ n ∧ (n = 0 ∨ 2 ^ (n - 1) ≤ v)
theorem IsBits.one {v : Int} {n m : Nat} (h1 : IsBits v n) (h2 : IsBits v m) : n = m := by
  obtain ⟨_, a1, a2⟩ := h1
  obtain ⟨_, b1, b2⟩ := h2
  rcases Nat.lt_trichotomy n m with h | h | h
  · have := pow_mono (show n ≤ m - 1 by omega)
    omega
  · exact h
  · have := pow_mono (show m ≤ n - 1 by omega)
    omega
theorem spec_bits_loop (v : Int) (h0 : 0 ≤ v) (h1 : v < 340282366920938463463374607431768211456) : ∀ (d j m k : Nat), 128 - j = d → j ≤ 128 → d + 200 < k → m ≤ j → v % 2 ^ j < 2 ^ m → (m = 0 ∨ 2 ^ (m - 1) ≤ v % 2 ^ j) →
    ∃ n, IsBits v n ∧ spec_WideBits.l0 k (m : Int) (j : Int) (hiW v) (loW v) = some (n : Int) := by
  intro d
  induction d with
  | zero =>
    intro j m k hd hj hk hm hl hr
    obtain ⟨k, rfl⟩ : ∃ i, k = i + 1 := ⟨k - 1, by omega⟩
    have e : v % 2 ^ j = v := by
      rw [show j = 128 by omega]
      exact Int.emod_eq_of_lt h0 (by omega)
    rw [e] at hl hr
    exact ⟨m, ⟨by omega, hl, hr⟩, by rw [spec_WideBits.l0, if_neg (by omega)]⟩
  | succ d ih =>
    intro j m k hd hj hk hm hl hr
    obtain ⟨k, rfl⟩ : ∃ i, k = i + 1 := ⟨k - 1, by omega⟩
    have hj' : (j : Int) < 128 := by omega
    have wj : wrap64 ((j : Int) + 1) = ((j + 1 : Nat) : Int) := by rw [wrap_small (by omega) (by omega)]; omega
    have hd' : 128 - (j + 1) = d := by omega
    have hj1 : j + 1 ≤ 128 := by omega
    have hk' : d + 200 < k := by omega
    have hm' : m ≤ j + 1 := by omega
    have bit := spec_bit_eq v j k (by omega) (by omega) h0 h1
    have ps := emod_pow_succ v j h0
    have nn : 0 ≤ v % 2 ^ j := Int.emod_nonneg _ (Int.ne_of_gt (pow_pos' j))
    have lt : v % 2 ^ (j + 1) < 2 ^ (j + 1) := Int.emod_lt_of_pos _ (pow_pos' _)
    rw [spec_WideBits.l0, if_pos hj', bit, Option.bind_some, wj]
    have two : v / 2 ^ j % 2 = 0 ∨ v / 2 ^ j % 2 = 1 := Int.emod_two_eq _
    clear bit
    rcases two with hb | hb
    · rw [hb, Int.mul_zero, Int.add_zero] at ps
      rw [hb, if_neg (by decide)]
      exact ih (j + 1) m k hd' hj1 hk' hm' (by rw [ps]; exact hl) (by rw [ps]; exact hr)
    · rw [hb, Int.mul_one] at ps
      rw [hb, if_pos rfl]
      exact ih (j + 1) (j + 1) k hd' hj1 hk' (Nat.le_refl _) lt (Or.inr (by rw [ps, Nat.add_sub_cancel]; exact Int.le_add_of_nonneg_left nn))
theorem len_eq (x : Int) (h0 : 0 < x) (h1 : x < 18446744073709551616) : ∃ n : Nat, 1 ≤ n ∧ n ≤ 64 ∧ x < 2 ^ n ∧ 2 ^ (n - 1) ≤ x ∧ bits_Len64.f x = some (n : Int) := by
  obtain ⟨m, rfl⟩ : ∃ m : Nat, x = (m : Int) := ⟨x.toNat, by omega⟩
  have b := Lib.bitLenAux_bounds 64 m (by omega) (by omega)
  have c : Lib.bitLenAux 64 m ≤ 64 := Lib.bitLenAux_le 64 m 64 (by omega)
  refine ⟨Lib.bitLenAux 64 m, b.1, c, by exact_mod_cast b.2.2, by exact_mod_cast b.2.1, ?_⟩
  unfold bits_Len64.f
  rw [if_pos (by omega), Int.toNat_natCast]
  rfl
theorem impl_bits (v : Int) (h0 : 0 ≤ v) (h1 : v < 340282366920938463463374607431768211456) : ∃ n, IsBits v n ∧ impl_WideBits.f (hiW v) (loW v) = some (n : Int) := by
  obtain ⟨a0, a1⟩ := hiW_range v h0 h1
  obtain ⟨b0, b1⟩ := loW_range v
  have e := val_eq v
  generalize hiW v = x at *
  generalize loW v = y at *
  unfold impl_WideBits.f
  by_cases hx : x > 0
  · obtain ⟨n, n0, n1, n2, n3, n4⟩ := len_eq x hx a1
    rw [if_pos hx, n4, Option.bind_some, wrap_small (by omega) (by omega)]
    have p1 : (2 : Int) ^ (64 + n) = 18446744073709551616 * 2 ^ n := by rw [Int.pow_add]; rfl
    have p2 : (2 : Int) ^ (64 + n - 1) = 18446744073709551616 * 2 ^ (n - 1) := by rw [show 64 + n - 1 = 64 + (n - 1) by omega, Int.pow_add]; rfl
    refine ⟨64 + n, ⟨by omega, by rw [p1]; omega, Or.inr (by rw [p2]; omega)⟩, by congr 1⟩
  · rw [if_neg hx]
    by_cases hy : y = 0
    · refine ⟨0, ⟨by omega, by rw [Int.pow_zero]; omega, Or.inl rfl⟩, ?_⟩
      rw [hy]
      rfl
    · obtain ⟨n, n0, n1, n2, n3, n4⟩ := len_eq y (by omega) b1
      rw [n4, Option.bind_some]
      exact ⟨n, ⟨by omega, by omega, Or.inr (by omega)⟩, rfl⟩
theorem FnExactWideBits : BridgeFnExactWideBits.Pure := by
  intro a b ha hb
  have ra := u64_range ha
  have rb := u64_range hb
  have v := val_of a b ra.1 ra.2 rb.1 rb.2
  have h1 := hi_of a b rb.1 rb.2
  have h2 := lo_of a b rb.1 rb.2
  obtain ⟨n, hn, e1⟩ := spec_bits_loop (a * 18446744073709551616 + b) v.1 v.2 128 0 0 400 rfl (by omega) (by omega) (by omega) (by rw [Int.pow_zero, Int.emod_one]; decide) (Or.inl rfl)
  obtain ⟨m, hm, e2⟩ := impl_bits (a * 18446744073709551616 + b) v.1 v.2
  rw [h1, h2] at e1 e2
  have e1' : spec_WideBits.f 400 a b = some (n : Int) := e1
  refine ⟨400, ?_⟩
  simp [laws_FnExactWideBits.f, laws_toWide.f, e1', e2, hn.one hm]

end Go.Proofs.Ytjfkamhnmbamnaa.Pure
