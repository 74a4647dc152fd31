/- WideRead answers as the reference does, for every text. Conditions: none beyond the statement's own bounds. -/
import Derived.Test.YtpgaoihgohlmkaaDoorXFnExactWideReadx8
import Derived.Lib.ItoaNum
import Derived.Laws.BytesArg
import Derived.Lib.SlTrimSet
namespace Go.Proofs.YtpgaoihgohlmkaaDoor.Pure
open Go.RowKit Go.Proofs.YtpgaoihgohlmkaaDoor.XFnExactWideRead Go.Proofs.YtpgaoihgohlmkaaDoorW.PrintWords Go.Proofs.YtpgaoihgohlmkaaDoorW.PrintLast Go.Proofs.YtpgaoihgohlmkaaDoorW.PrintMore
set_option linter.unusedVariables false
set_option linter.unusedSimpArgs false

theorem wrap_small {x : Int} (h0 : -9223372036854775808 ≤ x) (h1 : x ≤ 9223372036854775807) : wrap64 x = x := by
  unfold wrap64
  omega
theorem i64_range {x : Int} (h : (Lit.int .i64 x).wf = true) : -9223372036854775808 ≤ x ∧ x ≤ 9223372036854775807 := by
  simp [Lit.wf, IntKind.min, IntKind.max, IntKind.bits, IntKind.signed] at h
  omega
theorem u64_range {x : Int} (h : (Lit.int .u64 x).wf = true) : 0 ≤ x ∧ x < 18446744073709551616 := by
  simp [Lit.wf, IntKind.min, IntKind.max, IntKind.bits, IntKind.signed] at h
  omega

theorem in_eq (a b c : Int) : impl_in.f a b c = some (decide (b ≤ a ∧ a ≤ c)) := by
  unfold impl_in.f
  by_cases h : b ≤ a <;> simp [h]

theorem w64 (x : Int) : IntKind.u64.wrap x = x % 18446744073709551616 := by simp [IntKind.wrap, IntKind.bits, IntKind.signed]
/-- The two words of a wide number's value. -/
def hiW (v : Int) : Int := v / 18446744073709551616
def loW (v : Int) : Int := v % 18446744073709551616
theorem hi_of (a b : Int) (h0 : 0 ≤ b) (h1 : b < 18446744073709551616) : hiW (a * 18446744073709551616 + b) = a := by unfold hiW; omega
theorem lo_of (a b : Int) (h0 : 0 ≤ b) (h1 : b < 18446744073709551616) : loW (a * 18446744073709551616 + b) = b := by unfold loW; omega
theorem val_of (a b : Int) (ha0 : 0 ≤ a) (ha1 : a < 18446744073709551616) (hb0 : 0 ≤ b) (hb1 : b < 18446744073709551616) : 0 ≤ a * 18446744073709551616 + b ∧ a * 18446744073709551616 + b < 340282366920938463463374607431768211456 := by omega
theorem hiW_range (v : Int) (h0 : 0 ≤ v) (h1 : v < 340282366920938463463374607431768211456) : 0 ≤ hiW v ∧ hiW v < 18446744073709551616 := by unfold hiW; omega
theorem loW_range (v : Int) : 0 ≤ loW v ∧ loW v < 18446744073709551616 := by unfold loW; omega
theorem val_eq (v : Int) : hiW v * 18446744073709551616 + loW v = v := by unfold hiW loW; omega
theorem hiW_zero : hiW 0 = 0 := rfl
theorem loW_zero : loW 0 = 0 := rfl
theorem hiW_small (x : Int) (h0 : 0 ≤ x) (h1 : x < 18446744073709551616) : hiW x = 0 := by unfold hiW; omega
theorem loW_small (x : Int) (h0 : 0 ≤ x) (h1 : x < 18446744073709551616) : loW x = x := by unfold loW; omega
theorem emod_le' (b m : Int) (hb : 0 ≤ b) (hm : 0 < m) : b % m ≤ b := by
  have h1 := Int.emod_def b m
  have h2 := Int.mul_nonneg (Int.le_of_lt hm) (Int.ediv_nonneg hb (Int.le_of_lt hm))
  omega
theorem pow_pos' (j : Nat) : (0 : Int) < 2 ^ j := Int.pow_pos (by decide)
theorem emod_pow_succ (b : Int) (j : Nat) (hb : 0 ≤ b) : b % 2 ^ (j + 1) = b % 2 ^ j + 2 ^ j * (b / 2 ^ j % 2) := by
  obtain ⟨n, rfl⟩ := Int.eq_ofNat_of_zero_le hb
  have h := Nat.mod_mul (a := 2 ^ j) (b := 2) (x := n)
  rw [Int.pow_succ]
  exact_mod_cast h
theorem emod_mul_left (a b m : Int) : (a % m * b) % m = (a * b) % m := by rw [Int.mul_emod, Int.emod_emod, ← Int.mul_emod]

theorem wide_add (v u : Int) (hv0 : 0 ≤ v) (hv1 : v < 340282366920938463463374607431768211456) (hu0 : 0 ≤ u) (hu1 : u < 340282366920938463463374607431768211456) : spec_WideAdd.f (hiW v) (loW v) (hiW u) (loW u) = some (hiW ((v + u) % 340282366920938463463374607431768211456), loW ((v + u) % 340282366920938463463374607431768211456), decide (340282366920938463463374607431768211456 ≤ v + u), 0) := by
  unfold spec_WideAdd.f hiW loW
  simp only [w64]
  by_cases c1 : (v % 18446744073709551616 + u % 18446744073709551616) % 18446744073709551616 < v % 18446744073709551616
  · rw [if_pos c1]
    by_cases c2 : (v / 18446744073709551616 + u / 18446744073709551616) % 18446744073709551616 < v / 18446744073709551616
    · rw [if_pos c2]
      simp only [Option.some.injEq, Prod.mk.injEq]
      exact ⟨by omega, by omega, (decide_eq_true (by omega)).symm, trivial⟩
    · rw [if_neg c2]
      simp only [Option.some.injEq, Prod.mk.injEq]
      exact ⟨by omega, by omega, decide_eq_decide.2 (by omega), trivial⟩
  · rw [if_neg c1]
    by_cases c2 : (v / 18446744073709551616 + u / 18446744073709551616) % 18446744073709551616 < v / 18446744073709551616
    · rw [if_pos c2]
      simp only [Option.some.injEq, Prod.mk.injEq]
      exact ⟨by omega, by omega, (decide_eq_true (by omega)).symm, trivial⟩
    · rw [if_neg c2]
      simp only [Option.some.injEq, Prod.mk.injEq]
      exact ⟨by omega, by omega, decide_eq_decide.2 (by omega), trivial⟩

theorem wide_shl_loop : ∀ (n k : Nat) (v : Int), n < k → n ≤ 127 → 0 ≤ v → v < 340282366920938463463374607431768211456 → spec_WideShl.l0 k (n : Int) (hiW v) (loW v) = some (hiW (v * 2 ^ n % 340282366920938463463374607431768211456), loW (v * 2 ^ n % 340282366920938463463374607431768211456)) := by
  intro n
  induction n with
  | zero =>
    intro k v hk _ h0 h1
    obtain ⟨k, rfl⟩ : ∃ m, k = m + 1 := ⟨k - 1, by omega⟩
    simp only [spec_WideShl.l0]
    rw [if_neg (by omega), show v * 2 ^ 0 % 340282366920938463463374607431768211456 = v by omega]
  | succ n ih =>
    intro k v hk hn h0 h1
    obtain ⟨k, rfl⟩ : ∃ m, k = m + 1 := ⟨k - 1, by omega⟩
    simp only [spec_WideShl.l0]
    rw [if_pos (by omega), wide_add v v h0 h1 h0 h1]
    simp only [Option.bind_some]
    rw [show wrap64 (((n + 1 : Nat) : Int) - 1) = (n : Int) by unfold wrap64; omega, ih k _ (by omega) (by omega) (by omega) (by omega), emod_mul_left, show (v + v) * 2 ^ n = v * 2 ^ (n + 1) by rw [Int.pow_succ, ← Int.mul_assoc, Int.add_mul]; omega]
theorem wide_shl (n k : Nat) (v : Int) (hk : n + 1 < k) (hn : n ≤ 127) (h0 : 0 ≤ v) (h1 : v < 340282366920938463463374607431768211456) : spec_WideShl.f k (hiW v) (loW v) (n : Int) = some (hiW (v * 2 ^ n % 340282366920938463463374607431768211456), loW (v * 2 ^ n % 340282366920938463463374607431768211456)) := by
  obtain ⟨k, rfl⟩ : ∃ m, k = m + 1 := ⟨k - 1, by omega⟩
  unfold spec_WideShl.f
  rw [if_neg (by omega)]
  have hd : decide ((n : Int) > 127) = false := decide_eq_false (by omega)
  simp only [spec_WideShl.j0, hd]
  exact wide_shl_loop n k v (by omega) hn h0 h1
theorem wide_shl_out (n : Int) (k : Nat) (a b : Int) (hk : 0 < k) (hn : n < 0 ∨ 127 < n) : spec_WideShl.f k a b n = some (0, 0) := by
  obtain ⟨k, rfl⟩ : ∃ m, k = m + 1 := ⟨k - 1, by omega⟩
  unfold spec_WideShl.f
  by_cases h : n < 0
  · rw [if_pos h]; simp only [spec_WideShl.j0, if_true]
  · rw [if_neg h]
    have hd : decide (n > 127) = true := decide_eq_true (by omega)
    simp only [spec_WideShl.j0, hd, if_true]

theorem wide_half (v : Int) (h0 : 0 ≤ v) (h1 : v < 340282366920938463463374607431768211456) : (IntKind.u64.wrap (Int.tdiv (hiW v) 2)) = hiW (v / 2) ∧ (IntKind.u64.wrap ((IntKind.u64.wrap (Int.tdiv (loW v) 2)) + (IntKind.u64.wrap ((Int.tmod (hiW v) 2) * 9223372036854775808)))) = loW (v / 2) := by
  have r1 := hiW_range v h0 h1
  have r2 := loW_range v
  rw [Int.tdiv_eq_ediv_of_nonneg r1.1, Int.tdiv_eq_ediv_of_nonneg r2.1, Int.tmod_eq_emod_of_nonneg r1.1]
  simp only [w64]
  unfold hiW loW at *
  constructor <;> omega
theorem wide_shr_loop : ∀ (n k : Nat) (v : Int), n < k → n ≤ 127 → 0 ≤ v → v < 340282366920938463463374607431768211456 → spec_WideShr.l0 k (n : Int) (hiW v) (loW v) = some (hiW (v / 2 ^ n), loW (v / 2 ^ n)) := by
  intro n
  induction n with
  | zero =>
    intro k v hk _ h0 h1
    obtain ⟨k, rfl⟩ : ∃ m, k = m + 1 := ⟨k - 1, by omega⟩
    simp only [spec_WideShr.l0]
    rw [if_neg (by omega), show v / 2 ^ 0 = v by simp]
  | succ n ih =>
    intro k v hk hn h0 h1
    obtain ⟨k, rfl⟩ : ∃ m, k = m + 1 := ⟨k - 1, by omega⟩
    simp only [spec_WideShr.l0]
    rw [if_pos (by omega), (wide_half v h0 h1).1, (wide_half v h0 h1).2, show wrap64 (((n + 1 : Nat) : Int) - 1) = (n : Int) by unfold wrap64; omega, ih k _ (by omega) (by omega) (by omega) (by omega)]
    have e : v / 2 / 2 ^ n = v / 2 ^ (n + 1) := by rw [Int.ediv_ediv_of_nonneg (by omega), Int.pow_succ, Int.mul_comm]
    rw [e]
theorem wide_shr (n k : Nat) (v : Int) (hk : n + 1 < k) (hn : n ≤ 127) (h0 : 0 ≤ v) (h1 : v < 340282366920938463463374607431768211456) : spec_WideShr.f k (hiW v) (loW v) (n : Int) = some (hiW (v / 2 ^ n), loW (v / 2 ^ n)) := by
  obtain ⟨k, rfl⟩ : ∃ m, k = m + 1 := ⟨k - 1, by omega⟩
  unfold spec_WideShr.f
  rw [if_neg (by omega)]
  have hd : decide ((n : Int) > 127) = false := decide_eq_false (by omega)
  simp only [spec_WideShr.j0, hd]
  exact wide_shr_loop n k v (by omega) hn h0 h1
theorem wide_shr_out (n : Int) (k : Nat) (a b : Int) (hk : 0 < k) (hn : n < 0 ∨ 127 < n) : spec_WideShr.f k a b n = some (0, 0) := by
  obtain ⟨k, rfl⟩ : ∃ m, k = m + 1 := ⟨k - 1, by omega⟩
  unfold spec_WideShr.f
  by_cases h : n < 0
  · rw [if_pos h]; simp only [spec_WideShr.j0, if_true]
  · rw [if_neg h]
    have hd : decide (n > 127) = true := decide_eq_true (by omega)
    simp only [spec_WideShr.j0, hd, if_true]

theorem wraps_u64 : ∀ n : Int, 0 ≤ n → n < 2 ^ 64 → IntKind.u64.wrap n = n := fun n h0 h1 => by rw [w64]; omega
theorem and_one (x : Int) (h0 : 0 ≤ x) (h1 : x < 18446744073709551616) : Go.bits .and .u64 x 1 = x % 2 := bits_mask .u64 64 (by decide) wraps_u64 1 (by decide) x h0 (by omega)
theorem and_low (x : Int) (h0 : 0 ≤ x) (h1 : x < 18446744073709551616) : Go.bits .and .u64 x 4294967295 = x % 4294967296 := bits_mask .u64 64 (by decide) wraps_u64 32 (by decide) x h0 (by omega)

/-- -1, 0, 1. -/
def cmpInt (x y : Int) : Int := if x < y then -1 else if y < x then 1 else 0
theorem spec_cmp_eq (v u : Int) : spec_WideCmp.f (hiW v) (loW v) (hiW u) (loW u) = some (cmpInt v u) := by
  have r1 := loW_range v
  have r2 := loW_range u
  have e1 := val_eq v
  have e2 := val_eq u
  unfold spec_WideCmp.f cmpInt
  generalize hiW v = a at *
  generalize loW v = b at *
  generalize hiW u = c at *
  generalize loW u = d at *
  (repeat' split) <;> first | rfl | (exfalso; omega)

theorem spec_sub_eq (v u : Int) (hv0 : 0 ≤ v) (hv1 : v < 340282366920938463463374607431768211456) (hu0 : 0 ≤ u) (hu1 : u < 340282366920938463463374607431768211456) : spec_WideSub.f (hiW v) (loW v) (hiW u) (loW u) = some (hiW ((v - u) % 340282366920938463463374607431768211456), loW ((v - u) % 340282366920938463463374607431768211456), decide (v < u), 0) := by
  have ra := hiW_range v hv0 hv1
  have rb := loW_range v
  have rc := hiW_range u hu0 hu1
  have rd := loW_range u
  unfold spec_WideSub.f
  rw [spec_cmp_eq]
  simp only [Option.bind_some, w64]
  have hc : decide (cmpInt v u < 0) = decide (v < u) := by
    unfold cmpInt
    (repeat' split) <;> simp <;> omega
  rw [hc]
  unfold hiW loW at *
  by_cases h : v % 18446744073709551616 < u % 18446744073709551616
  · rw [if_pos h]
    simp only [Option.some.injEq, Prod.mk.injEq]
    exact ⟨by omega, by omega, by simp⟩
  · rw [if_neg h]
    simp only [Option.some.injEq, Prod.mk.injEq]
    exact ⟨by omega, by omega, by simp⟩

theorem shl64 (x : Int) (n : Nat) (hn : n ≤ 64) : shl .u64 x (n : Int) = x * 2 ^ n % 18446744073709551616 := by
  unfold shl
  rw [w64, show min (n : Int).toNat (IntKind.bits .u64) = n by simp [IntKind.bits]; omega]
theorem shr64 (x : Int) (n : Nat) (hn : n ≤ 64) : shr .u64 x (n : Int) = x / 2 ^ n := by
  unfold shr
  rw [show min (n : Int).toNat (IntKind.bits .u64) = n by simp [IntKind.bits]; omega]
theorem pow_split (n : Nat) (hn : n ≤ 64) : (2 : Int) ^ n * 2 ^ (64 - n) = 18446744073709551616 := by
  rw [← Int.pow_add, show n + (64 - n) = 64 by omega]
  rfl
theorem pow_le64 (n : Nat) (hn : n ≤ 64) : (1 : Int) ≤ 2 ^ n ∧ (2 : Int) ^ n ≤ 18446744073709551616 := by
  have h1 := pow_pos' n
  have h2 := pow_pos' (64 - n)
  have h3 := pow_split n hn
  refine ⟨by omega, ?_⟩
  rw [← h3]
  have h4 := Int.mul_le_mul_of_nonneg_left (show (1 : Int) ≤ 2 ^ (64 - n) by omega) (Int.le_of_lt h1)
  rw [Int.mul_one] at h4
  exact h4
/-- Two words whose bits do not meet. -/
theorem or_join (x y : Int) (i : Nat) (hi : i ≤ 64) (hx0 : 0 ≤ x) (hx1 : x < 18446744073709551616) (hm : x % 2 ^ i = 0) (hy0 : 0 ≤ y) (hy1 : y < 2 ^ i) : Go.bits .or .u64 x y = x + y :=
  bits_join .u64 64 (by decide) wraps_u64 i x y hx0 hm (by omega) hy0 hy1 (by have := (pow_le64 i hi).2; omega)
theorem or_join' (x y : Int) (i : Nat) (hi : i ≤ 64) (hx0 : 0 ≤ x) (hx1 : x < 18446744073709551616) (hm : x % 2 ^ i = 0) (hy0 : 0 ≤ y) (hy1 : y < 2 ^ i) : Go.bits .or .u64 y x = x + y := by
  have h := or_join x y i hi hx0 hx1 hm hy0 hy1
  have hy2 : y < 2 ^ 64 := by have := (pow_le64 i hi).2; omega
  obtain ⟨a, rfl⟩ := Int.eq_ofNat_of_zero_le hx0
  obtain ⟨b, rfl⟩ := Int.eq_ofNat_of_zero_le hy0
  have ha : a < 2 ^ 64 := by omega
  have hb : b < 2 ^ 64 := by omega
  rw [(bits_nat .u64 64 (by decide) wraps_u64 a b ha hb).2] at h
  rw [(bits_nat .u64 64 (by decide) wraps_u64 b a hb ha).2, Nat.or_comm]
  exact h
theorem impl_shl_eq (v : Int) (n : Nat) (hn : n ≤ 127) (h0 : 0 ≤ v) (h1 : v < 340282366920938463463374607431768211456) : impl_WideShl.f (hiW v) (loW v) (n : Int) = some (hiW (v * 2 ^ n % 340282366920938463463374607431768211456), loW (v * 2 ^ n % 340282366920938463463374607431768211456)) := by
  have ra := hiW_range v h0 h1
  have rb := loW_range v
  have ev := val_eq v
  unfold impl_WideShl.f
  rw [in_eq]
  have hd : decide ((0 : Int) ≤ (n : Int) ∧ (n : Int) ≤ 127) = true := decide_eq_true (by omega)
  simp only [Option.bind_some, hd, if_true]
  generalize ha : hiW v = a at *
  generalize hb : loW v = b at *
  by_cases c : (n : Int) ≥ 64
  · obtain ⟨m, rfl⟩ : ∃ m, n = 64 + m := ⟨n - 64, by omega⟩
    have e : wrap64 (((64 + m : Nat) : Int) - 64) = (m : Int) := by unfold wrap64; omega
    rw [if_pos c, e, if_pos (by omega), shl64 b m (by omega)]
    have ep : v * 2 ^ (64 + m) = a * 2 ^ m * 340282366920938463463374607431768211456 + b * 2 ^ m * 18446744073709551616 := by
      rw [← ev, Int.pow_add, show (2 : Int) ^ 64 = 18446744073709551616 from rfl, Int.add_mul]
      generalize (2 : Int) ^ m = P
      have e1 : a * 18446744073709551616 * (18446744073709551616 * P) = a * P * 340282366920938463463374607431768211456 := by
        rw [Int.mul_comm 18446744073709551616 P, Int.mul_assoc a, ← Int.mul_assoc 18446744073709551616 P, Int.mul_comm 18446744073709551616 P, Int.mul_assoc P, ← Int.mul_assoc a]
        rfl
      have e2 : b * (18446744073709551616 * P) = b * P * 18446744073709551616 := by rw [Int.mul_comm 18446744073709551616 P, ← Int.mul_assoc]
      rw [e1, e2]
    rw [ep]
    generalize a * 2 ^ m = x
    generalize b * 2 ^ m = y
    have hm : (x * 340282366920938463463374607431768211456 + y * 18446744073709551616) % 340282366920938463463374607431768211456 = y % 18446744073709551616 * 18446744073709551616 := by omega
    rw [hm]
    have hy0 : 0 ≤ y % 18446744073709551616 ∧ y % 18446744073709551616 < 18446744073709551616 := by omega
    generalize y % 18446744073709551616 = z at *
    have h1 := hi_of z 0 (by omega) (by omega)
    have h2 := lo_of z 0 (by omega) (by omega)
    rw [Int.add_zero] at h1 h2
    rw [h1, h2]
  · have hn6 : n ≤ 64 := by omega
    have e : wrap64 (64 - (n : Int)) = ((64 - n : Nat) : Int) := by unfold wrap64; omega
    rw [if_neg c, if_pos (by omega), e, if_pos (by omega), shl64 a n hn6, shl64 b n hn6, shr64 b (64 - n) (by omega)]
    have hPR := pow_split n hn6
    have hP := pow_pos' n
    have hR := pow_pos' (64 - n)
    rw [← ev]
    have key : ∀ P R : Int, P * R = 18446744073709551616 → 0 < P → 0 < R → ∃ f c d e : Int, a * P % 18446744073709551616 = c * P ∧ b / R = d ∧ b * P % 18446744073709551616 = e * P ∧ 0 ≤ c * P ∧ c * P + P ≤ 18446744073709551616 ∧ 0 ≤ d ∧ d < P ∧ 0 ≤ e * P ∧ e * P < 18446744073709551616 ∧ (a * 18446744073709551616 + b) * P = f * 340282366920938463463374607431768211456 + ((c * P + d) * 18446744073709551616 + e * P) := fun P R hPR hP hR => by
      have ma : a * P % 18446744073709551616 = a % R * P := by rw [← hPR, Int.mul_comm a P, Int.mul_emod_mul_of_pos _ _ hP, Int.mul_comm]
      have mb : b * P % 18446744073709551616 = b % R * P := by rw [← hPR, Int.mul_comm b P, Int.mul_emod_mul_of_pos _ _ hP, Int.mul_comm]
      have hc0 := Int.emod_nonneg a (Int.ne_of_gt hR)
      have hc1 := Int.emod_lt_of_pos a hR
      have he0 := Int.emod_nonneg b (Int.ne_of_gt hR)
      have he1 := Int.emod_lt_of_pos b hR
      have hda := Int.emod_def a R
      have hdb := Int.emod_def b R
      have hd0 : 0 ≤ b / R := Int.ediv_nonneg rb.1 (Int.le_of_lt hR)
      have hd1 : b / R < P := Int.ediv_lt_of_lt_mul hR (by rw [hPR]; exact rb.2)
      refine ⟨a / R, a % R, b / R, b % R, ma, rfl, mb, Int.mul_nonneg hc0 (Int.le_of_lt hP), ?_, hd0, hd1, Int.mul_nonneg he0 (Int.le_of_lt hP), ?_, ?_⟩
      · have : (a % R + 1) * P ≤ R * P := Int.mul_le_mul_of_nonneg_right (by omega) (Int.le_of_lt hP)
        rw [Int.add_mul, Int.one_mul, Int.mul_comm R P, hPR] at this
        exact this
      · have : (b % R + 1) * P ≤ R * P := Int.mul_le_mul_of_nonneg_right (by omega) (Int.le_of_lt hP)
        rw [Int.add_mul, Int.one_mul, Int.mul_comm R P, hPR] at this
        omega
      · have e1 : a * P = a / R * 18446744073709551616 + a % R * P := by
          rw [hda, Int.sub_mul, ← hPR, Int.mul_comm R (a / R), Int.mul_assoc (a / R), Int.mul_comm R P]
          omega
        have e2 : b * P = b / R * 18446744073709551616 + b % R * P := by
          rw [hdb, Int.sub_mul, ← hPR, Int.mul_comm R (b / R), Int.mul_assoc (b / R), Int.mul_comm R P]
          omega
        rw [Int.add_mul, Int.mul_assoc, Int.mul_comm 18446744073709551616 P, ← Int.mul_assoc, e1, e2]
        generalize a % R * P = x
        generalize b % R * P = y
        generalize a / R = z
        generalize b / R = t
        omega
    obtain ⟨f, c', d, e', k1, k2, k3, k4, k5, k6, k7, k8, k9, k10⟩ := key _ _ hPR hP hR
    have hm0 : c' * 2 ^ n % 2 ^ n = 0 := Int.mul_emod_left _ _
    rw [k1, k2, k3, k10, or_join _ _ n hn6 k4 (by omega) hm0 k6 k7]
    generalize c' * 2 ^ n = x at *
    generalize e' * 2 ^ n = y at *
    have hm : (f * 340282366920938463463374607431768211456 + ((x + d) * 18446744073709551616 + y)) % 340282366920938463463374607431768211456 = (x + d) * 18446744073709551616 + y := by omega
    rw [hm, hi_of _ _ k8 k9, lo_of _ _ k8 k9]

theorem impl_add_eq (v u : Int) (hv0 : 0 ≤ v) (hv1 : v < 340282366920938463463374607431768211456) (hu0 : 0 ≤ u) (hu1 : u < 340282366920938463463374607431768211456) : impl_WideAdd.f (hiW v) (loW v) (hiW u) (loW u) = some (hiW ((v + u) % 340282366920938463463374607431768211456), loW ((v + u) % 340282366920938463463374607431768211456), decide (340282366920938463463374607431768211456 ≤ v + u), 0) := by
  have ra := hiW_range v hv0 hv1
  have rb := loW_range v
  have rc := hiW_range u hu0 hu1
  have rd := loW_range u
  unfold impl_WideAdd.f bits_Add64.f HandX.add64
  rw [if_pos (by omega)]
  simp only [Option.bind_some]
  rw [if_pos (by omega)]
  unfold hiW loW at *
  simp only [Option.bind_some, Option.some.injEq, Prod.mk.injEq]
  refine ⟨by omega, by omega, ?_, trivial⟩
  by_cases h : 340282366920938463463374607431768211456 ≤ v + u
  · rw [decide_eq_true h]
    simp
    omega
  · rw [decide_eq_false h]
    simp
    omega

/-! One digit of the long division: Y = yn1 * 2^32 + yn0, un < Y, d the next half word. -/
theorem digit_iff (yn1 yn0 un d qh rh : Int) (hY0 : 0 < yn1 * 4294967296 + yn0) (h : qh * yn1 + rh = un) : (un * 4294967296 + d) / (yn1 * 4294967296 + yn0) < qh ↔ rh * 4294967296 + d < qh * yn0 := by
  have e : qh * (yn1 * 4294967296 + yn0) = (qh * yn1) * 4294967296 + qh * yn0 := by rw [Int.mul_add, Int.mul_assoc]
  have h1 : (un * 4294967296 + d) / (yn1 * 4294967296 + yn0) < qh ↔ un * 4294967296 + d < qh * (yn1 * 4294967296 + yn0) := Int.ediv_lt_iff_lt_mul hY0
  rw [h1, e]
  generalize qh * yn1 = p1 at *
  generalize qh * yn0 = p0 at *
  omega
theorem digit_start (yn1 yn0 un d : Int) (h1 : 2147483648 ≤ yn1) (h1' : yn1 < 4294967296) (h0 : 0 ≤ yn0) (h0' : yn0 < 4294967296) (hu0 : 0 ≤ un) (hu : un < yn1 * 4294967296 + yn0) (hd0 : 0 ≤ d) (hd1 : d < 4294967296) :
    (un * 4294967296 + d) / (yn1 * 4294967296 + yn0) ≤ un / yn1 ∧ un / yn1 ≤ 4294967297 ∧ un / yn1 * yn1 + (un - un / yn1 * yn1) = un ∧ 0 ≤ un - un / yn1 * yn1 ∧ un - un / yn1 * yn1 < 4294967296 ∧ 0 ≤ (un * 4294967296 + d) / (yn1 * 4294967296 + yn0) ∧ (un * 4294967296 + d) / (yn1 * 4294967296 + yn0) < 4294967296 ∧ un / yn1 * yn1 ≤ un ∧ 0 ≤ un / yn1 * yn1 := by
  have hY0 : 0 < yn1 * 4294967296 + yn0 := by omega
  have hy : 0 < yn1 := by omega
  have hU0 : 0 ≤ un * 4294967296 + d := by omega
  have q0 : 0 ≤ (un * 4294967296 + d) / (yn1 * 4294967296 + yn0) := Int.ediv_nonneg hU0 (by omega)
  have qB : (un * 4294967296 + d) / (yn1 * 4294967296 + yn0) < 4294967296 := Int.ediv_lt_of_lt_mul hY0 (by rw [Int.mul_comm 4294967296]; omega)
  have m1 : (un * 4294967296 + d) / (yn1 * 4294967296 + yn0) * (yn1 * 4294967296 + yn0) ≤ un * 4294967296 + d := Int.ediv_mul_le _ (by omega)
  have e1 := Int.emod_def un yn1
  have e2 := Int.emod_nonneg un (Int.ne_of_gt hy)
  have e3 := Int.emod_lt_of_pos un hy
  have e4 : yn1 * (un / yn1) = un / yn1 * yn1 := Int.mul_comm _ _
  have n0 : 0 ≤ un / yn1 := Int.ediv_nonneg hu0 (by omega)
  have n1 : un / yn1 < 4294967298 := Int.ediv_lt_of_lt_mul hy (by omega)
  have n2 : 0 ≤ un / yn1 * yn1 := Int.mul_nonneg n0 (by omega)
  refine ⟨?_, by omega, by omega, by omega, by omega, q0, qB, by omega, n2⟩
  refine Int.le_ediv_of_mul_le hy ?_
  generalize (un * 4294967296 + d) / (yn1 * 4294967296 + yn0) = q at *
  have e5 : q * (yn1 * 4294967296 + yn0) = q * yn1 * 4294967296 + q * yn0 := by rw [Int.mul_add, Int.mul_assoc]
  have e6 : 0 ≤ q * yn0 := Int.mul_nonneg q0 h0
  rw [e5] at m1
  generalize q * yn1 = p1 at *
  generalize q * yn0 = p0 at *
  omega
theorem digit_test (yn1 yn0 un d qh rh : Int) (h1 : 2147483648 ≤ yn1) (h0 : 0 ≤ yn0) (h0' : yn0 < 4294967296) (hd0 : 0 ≤ d) (hd1 : d < 4294967296) (h : qh * yn1 + rh = un) (hq0 : 0 ≤ qh) (hq1 : qh < 4294967296) (hr0 : 0 ≤ rh) (hr1 : rh < 4294967296) :
    decide ((IntKind.u64.wrap (qh * yn0)) > (IntKind.u64.wrap ((IntKind.u64.wrap (4294967296 * rh)) + d))) = decide ((un * 4294967296 + d) / (yn1 * 4294967296 + yn0) < qh) := by
  have hi := digit_iff yn1 yn0 un d qh rh (by omega) h
  have b1 : 0 ≤ qh * yn0 := Int.mul_nonneg hq0 h0
  have b2 : qh * yn0 ≤ 4294967295 * 4294967295 := Int.mul_le_mul (by omega) (by omega) h0 (by omega)
  have s1 : IntKind.u64.wrap (qh * yn0) = qh * yn0 := by rw [w64]; exact Int.emod_eq_of_lt b1 (by omega)
  have s2 : IntKind.u64.wrap ((IntKind.u64.wrap (4294967296 * rh)) + d) = rh * 4294967296 + d := by simp only [w64]; omega
  rw [s1, s2]
  exact decide_eq_decide.2 ⟨fun g => hi.2 g, fun g => hi.1 g⟩
/-- At a break: the digit is found. -/
theorem digit_break (yn1 yn0 un d qh rh : Int) (h1 : 2147483648 ≤ yn1) (h0 : 0 ≤ yn0) (h0' : yn0 < 4294967296) (hd0 : 0 ≤ d) (h : qh * yn1 + rh = un) (hq0 : 0 ≤ qh) (hq1 : qh ≤ 4294967296) (hr : 4294967296 ≤ rh) : qh ≤ (un * 4294967296 + d) / (yn1 * 4294967296 + yn0) := by
  have hi := digit_iff yn1 yn0 un d qh rh (by omega) h
  have b2 : qh * yn0 ≤ 4294967296 * 4294967295 := Int.mul_le_mul hq1 (by omega) h0 (by omega)
  refine Int.not_lt.1 fun g => ?_
  have := hi.1 g
  omega
section
variable (Y s yn1 yn0 un d un0 : Int) (h1 : 2147483648 ≤ yn1) (h1' : yn1 < 4294967296) (h0 : 0 ≤ yn0) (h0' : yn0 < 4294967296) (hd0 : 0 ≤ d) (hd1 : d < 4294967296)
include h1 h1' h0 h0' hd0 hd1
theorem div_l0 (q : Int) (hq : (un * 4294967296 + d) / (yn1 * 4294967296 + yn0) = q) (q0 : 0 ≤ q) (qB : q < 4294967296) (R : Option (Int × Int)) (K : Nat) (hK : ∀ k, K ≤ k → bits_Div64.j2 k Y s yn1 yn0 un d un0 q = R) :
    ∀ (n : Nat) (qh rh : Int), qh = q + n → qh ≤ 4294967297 → qh * yn1 + rh = un → 0 ≤ rh → rh < 4294967296 → ∃ K', ∀ k, K' ≤ k → bits_Div64.l0 k Y s yn1 yn0 un d un0 qh rh = R := by
  intro n
  induction n with
  | zero =>
    intro qh rh e hqb h hr0 hr1
    refine ⟨K + 2, fun k hk => ?_⟩
    obtain ⟨k, rfl⟩ : ∃ m, k = m + 2 := ⟨k - 2, by omega⟩
    have e' : qh = q := by omega
    have t := digit_test yn1 yn0 un d qh rh h1 h0 h0' hd0 hd1 h (by omega) (by omega) hr0 hr1
    rw [hq, decide_eq_false (show ¬ q < qh by omega)] at t
    simp only [bits_Div64.l0]
    rw [if_neg (show ¬ qh ≥ 4294967296 by omega), t]
    simp only [bits_Div64.j1, Bool.false_eq_true, if_false]
    rw [e']
    exact hK k (by omega)
  | succ n ih =>
    intro qh rh e hqb h hr0 hr1
    have e1 : IntKind.u64.wrap (qh - 1) = qh - 1 := by rw [w64]; omega
    have e2 : IntKind.u64.wrap (rh + yn1) = rh + yn1 := by rw [w64]; omega
    have h' : (qh - 1) * yn1 + (rh + yn1) = un := by
      rw [Int.sub_mul, Int.one_mul, ← h]
      generalize qh * yn1 = p
      omega
    have hbrk : ∀ k, K ≤ k → (rh + yn1 ≥ 4294967296) → bits_Div64.j2 k Y s yn1 yn0 un d un0 (qh - 1) = R := fun k hk hb => by
      have := digit_break yn1 yn0 un d (qh - 1) (rh + yn1) h1 h0 h0' hd0 h' (by omega) (by omega) hb
      rw [show qh - 1 = q by omega]
      exact hK k hk
    by_cases hb : rh + yn1 ≥ 4294967296
    · refine ⟨K + 2, fun k hk => ?_⟩
      obtain ⟨k, rfl⟩ : ∃ m, k = m + 2 := ⟨k - 2, by omega⟩
      simp only [bits_Div64.l0]
      by_cases hB : qh ≥ 4294967296
      · rw [if_pos hB]
        simp only [bits_Div64.j1, if_true, e1, e2]
        rw [if_pos hb]
        exact hbrk k (by omega) hb
      · have t := digit_test yn1 yn0 un d qh rh h1 h0 h0' hd0 hd1 h (by omega) (by omega) hr0 hr1
        rw [hq, decide_eq_true (show q < qh by omega)] at t
        rw [if_neg hB, t]
        simp only [bits_Div64.j1, if_true, e1, e2]
        rw [if_pos hb]
        exact hbrk k (by omega) hb
    · obtain ⟨K', hK'⟩ := ih (qh - 1) (rh + yn1) (by omega) (by omega) h' (by omega) (by omega)
      refine ⟨K' + 2, fun k hk => ?_⟩
      obtain ⟨k, rfl⟩ : ∃ m, k = m + 2 := ⟨k - 2, by omega⟩
      have hk' := hK' k (by omega)
      clear hK' ih
      by_cases hB : qh ≥ 4294967296
      · rw [show bits_Div64.l0 (k + 2) Y s yn1 yn0 un d un0 qh rh = bits_Div64.j1 (k + 1) Y s yn1 yn0 un d un0 qh rh true by rw [bits_Div64.l0, if_pos hB]]
        simp only [bits_Div64.j1, if_true, e1, e2]
        rw [if_neg hb]
        exact hk'
      · have t := digit_test yn1 yn0 un d qh rh h1 h0 h0' hd0 hd1 h (by omega) (by omega) hr0 hr1
        rw [hq, decide_eq_true (show q < qh by omega)] at t
        rw [show bits_Div64.l0 (k + 2) Y s yn1 yn0 un d un0 qh rh = bits_Div64.j1 (k + 1) Y s yn1 yn0 un d un0 qh rh true by rw [bits_Div64.l0, if_neg hB, t]]
        simp only [bits_Div64.j1, if_true, e1, e2]
        rw [if_neg hb]
        exact hk'
theorem div_l1 (hs : 0 ≤ s) (q1 : Int) (q : Int) (hq : (un * 4294967296 + d) / (yn1 * 4294967296 + yn0) = q) (q0 : 0 ≤ q) (qB : q < 4294967296) (R : Option (Int × Int)) (hR : some (IntKind.u64.wrap ((IntKind.u64.wrap (q1 * 4294967296)) + q), shr .u64 (IntKind.u64.wrap ((IntKind.u64.wrap ((IntKind.u64.wrap (un * 4294967296)) + d)) - (IntKind.u64.wrap (q * Y)))) s) = R) :
    ∀ (n : Nat) (qh rh : Int), qh = q + n → qh ≤ 4294967297 → qh * yn1 + rh = un → 0 ≤ rh → rh < 4294967296 → ∃ K', ∀ k, K' ≤ k → bits_Div64.l1 k Y s yn1 yn0 d q1 rh un qh = R := by
  intro n
  induction n with
  | zero =>
    intro qh rh e hqb h hr0 hr1
    refine ⟨2, fun k hk => ?_⟩
    obtain ⟨k, rfl⟩ : ∃ m, k = m + 2 := ⟨k - 2, by omega⟩
    have e' : qh = q := by omega
    have t := digit_test yn1 yn0 un d qh rh h1 h0 h0' hd0 hd1 h (by omega) (by omega) hr0 hr1
    rw [hq, decide_eq_false (show ¬ q < qh by omega)] at t
    simp only [bits_Div64.l1]
    rw [if_neg (show ¬ qh ≥ 4294967296 by omega), t]
    simp only [bits_Div64.j4, Bool.false_eq_true, if_false]
    rw [if_pos hs, e']
    exact hR
  | succ n ih =>
    intro qh rh e hqb h hr0 hr1
    have e1 : IntKind.u64.wrap (qh - 1) = qh - 1 := by rw [w64]; omega
    have e2 : IntKind.u64.wrap (rh + yn1) = rh + yn1 := by rw [w64]; omega
    have h' : (qh - 1) * yn1 + (rh + yn1) = un := by
      rw [Int.sub_mul, Int.one_mul, ← h]
      generalize qh * yn1 = p
      omega
    by_cases hb : rh + yn1 ≥ 4294967296
    · have hx : qh - 1 = q := by
        have := digit_break yn1 yn0 un d (qh - 1) (rh + yn1) h1 h0 h0' hd0 h' (by omega) (by omega) hb
        omega
      refine ⟨2, fun k hk => ?_⟩
      obtain ⟨k, rfl⟩ : ∃ m, k = m + 2 := ⟨k - 2, by omega⟩
      by_cases hB : qh ≥ 4294967296
      · rw [show bits_Div64.l1 (k + 2) Y s yn1 yn0 d q1 rh un qh = bits_Div64.j4 (k + 1) Y s yn1 yn0 d q1 rh un qh true by rw [bits_Div64.l1, if_pos hB]]
        simp only [bits_Div64.j4, if_true, e1, e2]
        rw [if_pos hb, if_pos hs, hx]
        exact hR
      · have t := digit_test yn1 yn0 un d qh rh h1 h0 h0' hd0 hd1 h (by omega) (by omega) hr0 hr1
        rw [hq, decide_eq_true (show q < qh by omega)] at t
        rw [show bits_Div64.l1 (k + 2) Y s yn1 yn0 d q1 rh un qh = bits_Div64.j4 (k + 1) Y s yn1 yn0 d q1 rh un qh true by rw [bits_Div64.l1, if_neg hB, t]]
        simp only [bits_Div64.j4, if_true, e1, e2]
        rw [if_pos hb, if_pos hs, hx]
        exact hR
    · obtain ⟨K', hK'⟩ := ih (qh - 1) (rh + yn1) (by omega) (by omega) h' (by omega) (by omega)
      refine ⟨K' + 2, fun k hk => ?_⟩
      obtain ⟨k, rfl⟩ : ∃ m, k = m + 2 := ⟨k - 2, by omega⟩
      have hk' := hK' k (by omega)
      clear hK' ih
      by_cases hB : qh ≥ 4294967296
      · rw [show bits_Div64.l1 (k + 2) Y s yn1 yn0 d q1 rh un qh = bits_Div64.j4 (k + 1) Y s yn1 yn0 d q1 rh un qh true by rw [bits_Div64.l1, if_pos hB]]
        simp only [bits_Div64.j4, if_true, e1, e2]
        rw [if_neg hb]
        exact hk'
      · have t := digit_test yn1 yn0 un d qh rh h1 h0 h0' hd0 hd1 h (by omega) (by omega) hr0 hr1
        rw [hq, decide_eq_true (show q < qh by omega)] at t
        rw [show bits_Div64.l1 (k + 2) Y s yn1 yn0 d q1 rh un qh = bits_Div64.j4 (k + 1) Y s yn1 yn0 d q1 rh un qh true by rw [bits_Div64.l1, if_neg hB, t]]
        simp only [bits_Div64.j4, if_true, e1, e2]
        rw [if_neg hb]
        exact hk'
end
/-- Both digits: the whole division of (un, un10) by the normalized Y. -/
theorem div_norm (Y s un un1 un0 : Int) (hs : 0 ≤ s) (hY : 9223372036854775808 ≤ Y) (hY' : Y < 18446744073709551616) (hu0 : 0 ≤ un) (hu : un < Y) (h1 : 0 ≤ un1) (h1' : un1 < 4294967296) (h0 : 0 ≤ un0) (h0' : un0 < 4294967296) :
    ∃ K, ∀ k, K ≤ k → bits_Div64.l0 k Y s (Y / 4294967296) (Y % 4294967296) un un1 un0 (IntKind.u64.wrap (Int.tdiv un (Y / 4294967296))) (IntKind.u64.wrap (un - (IntKind.u64.wrap ((IntKind.u64.wrap (Int.tdiv un (Y / 4294967296))) * (Y / 4294967296))))) =
      some ((un * 18446744073709551616 + un1 * 4294967296 + un0) / Y, shr .u64 ((un * 18446744073709551616 + un1 * 4294967296 + un0) % Y) s) := by
  have y1 : 2147483648 ≤ Y / 4294967296 ∧ Y / 4294967296 < 4294967296 := by omega
  have y0 : 0 ≤ Y % 4294967296 ∧ Y % 4294967296 < 4294967296 := by omega
  have ye : Y / 4294967296 * 4294967296 + Y % 4294967296 = Y := by omega
  have td : Int.tdiv un (Y / 4294967296) = un / (Y / 4294967296) := Int.tdiv_eq_ediv_of_nonneg hu0
  rw [td]
  obtain ⟨f1, f2, f3, f4, f5, f6, f7, f8, f9⟩ := digit_start (Y / 4294967296) (Y % 4294967296) un un1 y1.1 y1.2 y0.1 y0.2 hu0 (by omega) h1 h1'
  rw [ye] at f1 f6 f7
  have w1 : IntKind.u64.wrap (un / (Y / 4294967296)) = un / (Y / 4294967296) := by rw [w64]; exact Int.emod_eq_of_lt (Int.ediv_nonneg hu0 (by omega)) (by omega)
  rw [w1]
  have w2 : IntKind.u64.wrap (un / (Y / 4294967296) * (Y / 4294967296)) = un / (Y / 4294967296) * (Y / 4294967296) := by rw [w64]; exact Int.emod_eq_of_lt f9 (by omega)
  rw [w2]
  have w3 : IntKind.u64.wrap (un - un / (Y / 4294967296) * (Y / 4294967296)) = un - un / (Y / 4294967296) * (Y / 4294967296) := by rw [w64]; exact Int.emod_eq_of_lt f4 (by omega)
  rw [w3]
  -- the first digit q and what is left, r
  have dm := Int.emod_def (un * 4294967296 + un1) Y
  have r0 := Int.emod_nonneg (un * 4294967296 + un1) (show Y ≠ 0 by omega)
  have r1 := Int.emod_lt_of_pos (un * 4294967296 + un1) (show 0 < Y by omega)
  have q_e : (un * 4294967296 + un1) / Y = (un * 4294967296 + un1) / (Y / 4294967296 * 4294967296 + Y % 4294967296) := by rw [ye]
  generalize hqq : (un * 4294967296 + un1) / Y = q at *
  generalize hrr : (un * 4294967296 + un1) % Y = r at *
  have comm : Y * q = q * Y := Int.mul_comm _ _
  -- the second digit
  obtain ⟨g1, g2, g3, g4, g5, g6, g7, g8, g9⟩ := digit_start (Y / 4294967296) (Y % 4294967296) r un0 y1.1 y1.2 y0.1 y0.2 r0 (by omega) h0 h0'
  rw [ye] at g1 g6 g7
  have dm2 := Int.emod_def (r * 4294967296 + un0) Y
  have t0 := Int.emod_nonneg (r * 4294967296 + un0) (show Y ≠ 0 by omega)
  have t1 := Int.emod_lt_of_pos (r * 4294967296 + un0) (show 0 < Y by omega)
  have p_e : (r * 4294967296 + un0) / Y = (r * 4294967296 + un0) / (Y / 4294967296 * 4294967296 + Y % 4294967296) := by rw [ye]
  generalize hpp : (r * 4294967296 + un0) / Y = p at *
  generalize htt : (r * 4294967296 + un0) % Y = t at *
  have comm2 : Y * p = p * Y := Int.mul_comm _ _
  -- what both are together
  have total : un * 18446744073709551616 + un1 * 4294967296 + un0 = t + Y * (q * 4294967296 + p) := by
    have e1 : Y * (q * 4294967296 + p) = q * Y * 4294967296 + p * Y := by rw [Int.mul_add, ← Int.mul_assoc, comm, comm2]
    rw [e1]
    generalize q * Y = qy at *
    generalize p * Y = py at *
    omega
  have hdiv : (un * 18446744073709551616 + un1 * 4294967296 + un0) / Y = q * 4294967296 + p := by
    rw [total, Int.add_mul_ediv_left _ _ (by omega), Int.ediv_eq_zero_of_lt t0 t1, Int.zero_add]
  have hmod : (un * 18446744073709551616 + un1 * 4294967296 + un0) % Y = t := by
    rw [total, Int.add_mul_emod_self_left, Int.emod_eq_of_lt t0 t1]
  rw [hdiv, hmod]
  -- the second loop, and what goes into it
  have wr : IntKind.u64.wrap ((IntKind.u64.wrap ((IntKind.u64.wrap (un * 4294967296)) + un1)) - (IntKind.u64.wrap (q * Y))) = r := by
    simp only [w64]
    generalize q * Y = qy at *
    omega
  have wt : IntKind.u64.wrap ((IntKind.u64.wrap ((IntKind.u64.wrap (r * 4294967296)) + un0)) - (IntKind.u64.wrap (p * Y))) = t := by
    simp only [w64]
    generalize p * Y = py at *
    omega
  have wq : IntKind.u64.wrap ((IntKind.u64.wrap (q * 4294967296)) + p) = q * 4294967296 + p := by simp only [w64]; omega
  obtain ⟨K1, hK1⟩ := div_l1 Y s (Y / 4294967296) (Y % 4294967296) r un0 y1.1 y1.2 y0.1 y0.2 h0 h0' hs q p p_e.symm g6 g7 (some (q * 4294967296 + p, shr .u64 t s)) (by rw [wq, wt]) (r / (Y / 4294967296) - p).toNat (r / (Y / 4294967296)) (r - r / (Y / 4294967296) * (Y / 4294967296)) (by omega) g2 g3 g4 g5
  have td2 : Int.tdiv r (Y / 4294967296) = r / (Y / 4294967296) := Int.tdiv_eq_ediv_of_nonneg r0
  have v1 : IntKind.u64.wrap (r / (Y / 4294967296)) = r / (Y / 4294967296) := by rw [w64]; exact Int.emod_eq_of_lt (Int.ediv_nonneg r0 (by omega)) (by omega)
  have v2 : IntKind.u64.wrap (r / (Y / 4294967296) * (Y / 4294967296)) = r / (Y / 4294967296) * (Y / 4294967296) := by rw [w64]; exact Int.emod_eq_of_lt g9 (by omega)
  have v3 : IntKind.u64.wrap (r - r / (Y / 4294967296) * (Y / 4294967296)) = r - r / (Y / 4294967296) * (Y / 4294967296) := by rw [w64]; exact Int.emod_eq_of_lt g4 (by omega)
  have hj2 : ∀ k, K1 + 1 ≤ k → bits_Div64.j2 k Y s (Y / 4294967296) (Y % 4294967296) un un1 un0 q = some (q * 4294967296 + p, shr .u64 t s) := fun k hk => by
    obtain ⟨k, rfl⟩ : ∃ m, k = m + 1 := ⟨k - 1, by omega⟩
    simp only [bits_Div64.j2]
    rw [if_neg (show ¬ Y / 4294967296 = 0 by omega), wr, td2, v1, v2, v3]
    exact hK1 k (by omega)
  exact div_l0 Y s (Y / 4294967296) (Y % 4294967296) un un1 un0 y1.1 y1.2 y0.1 y0.2 h1 h1' q q_e.symm f6 f7 _ (K1 + 1) hj2 (un / (Y / 4294967296) - q).toNat (un / (Y / 4294967296)) (un - un / (Y / 4294967296) * (Y / 4294967296)) (by omega) f2 f3 f4 f5

theorem lz_eq (y : Int) (h0 : 0 < y) (h1 : y < 18446744073709551616) : ∃ n : Nat, n ≤ 63 ∧ 9223372036854775808 ≤ y * 2 ^ n ∧ y * 2 ^ n < 18446744073709551616 ∧ bits_LeadingZeros64.f y = some (n : Int) := by
  obtain ⟨m, rfl⟩ : ∃ m : Nat, y = (m : Int) := ⟨y.toNat, by omega⟩
  have b := Lib.bitLenAux_bounds 64 m (by omega) (by omega)
  have c : Lib.bitLenAux 64 m ≤ 64 := Lib.bitLenAux_le 64 m 64 (by omega)
  have e : Lib.bitLen m = Lib.bitLenAux 64 m := rfl
  obtain ⟨b1, b2, b3⟩ := b
  generalize Lib.bitLenAux 64 m = l at *
  have p1 : 2 ^ (l - 1) * 2 ^ (64 - l) = 9223372036854775808 := by rw [← Nat.pow_add, show l - 1 + (64 - l) = 63 by omega]
  have p2 : 2 ^ l * 2 ^ (64 - l) = 18446744073709551616 := by rw [← Nat.pow_add, show l + (64 - l) = 64 by omega]
  have q1 : 9223372036854775808 ≤ m * 2 ^ (64 - l) := p1 ▸ Nat.mul_le_mul_right _ b2
  have q2 : m * 2 ^ (64 - l) < 18446744073709551616 := p2 ▸ Nat.mul_lt_mul_of_pos_right b3 (Nat.pow_pos (by decide))
  have cast : (m : Int) * 2 ^ (64 - l) = ((m * 2 ^ (64 - l) : Nat) : Int) := by simp
  refine ⟨64 - l, by omega, by rw [cast]; omega, by rw [cast]; omega, ?_⟩
  unfold bits_LeadingZeros64.f bits_Len64.f
  rw [if_pos (by omega), Option.bind_some, Int.toNat_natCast, e, wrap_small (by omega) (by omega)]
  congr 1
  omega
theorem div64_eq (hi lo y : Int) (h0 : 0 ≤ hi) (h1 : hi < y) (h2 : y < 18446744073709551616) (l0 : 0 ≤ lo) (l1 : lo < 18446744073709551616) : ∃ K, ∀ k, K ≤ k → bits_Div64.f k hi lo y = some ((hi * 18446744073709551616 + lo) / y, (hi * 18446744073709551616 + lo) % y) := by
  by_cases hz : hi = 0
  · refine ⟨0, fun k _ => ?_⟩
    unfold bits_Div64.f
    rw [if_neg (by omega), if_neg (by omega), if_pos hz, hz, Int.zero_mul, Int.zero_add, w64, Int.tdiv_eq_ediv_of_nonneg l0, Int.tmod_eq_emod_of_nonneg l0]
    have a := Int.ediv_nonneg l0 (show 0 ≤ y by omega)
    have b := Int.ediv_le_self y l0
    rw [Int.emod_eq_of_lt a (by omega)]
  · obtain ⟨n, hn, y1, y2, hlz⟩ := lz_eq y (by omega) h2
    have sp := pow_split n (by omega)
    have pp := pow_le64 n (by omega)
    have pm := pow_pos' (64 - n)
    have wn : IntKind.u64.wrap (n : Int) = (n : Int) := by rw [w64]; omega
    have wm : IntKind.u64.wrap (64 - (n : Int)) = ((64 - n : Nat) : Int) := by rw [w64]; omega
    have step : hi * 2 ^ n + 2 ^ n ≤ y * 2 ^ n := by
      have := Int.mul_le_mul_of_nonneg_right (show hi + 1 ≤ y by omega) (show (0 : Int) ≤ 2 ^ n by omega)
      rw [Int.add_mul, Int.one_mul] at this
      exact this
    have hin : 0 ≤ hi * 2 ^ n := Int.mul_nonneg h0 (by omega)
    have yb : shl .u64 y (n : Int) = y * 2 ^ n := by rw [shl64 y n (by omega)]; exact Int.emod_eq_of_lt (by omega) y2
    have hb : shl .u64 hi (n : Int) = hi * 2 ^ n := by rw [shl64 hi n (by omega)]; exact Int.emod_eq_of_lt hin (by omega)
    have lt0 : 0 ≤ lo / 2 ^ (64 - n) := Int.ediv_nonneg l0 (by omega)
    have lt1 : lo / 2 ^ (64 - n) < 2 ^ n := Int.ediv_lt_of_lt_mul pm (by rw [sp]; exact l1)
    have or_e : Go.bits .or .u64 (shl .u64 hi (n : Int)) (shr .u64 lo ((64 - n : Nat) : Int)) = hi * 2 ^ n + lo / 2 ^ (64 - n) := by
      rw [hb, shr64 lo (64 - n) (by omega)]
      exact or_join _ _ n (by omega) hin (by omega) (Int.mul_emod_left _ _) lt0 lt1
    have lb0 : 0 ≤ lo * 2 ^ n % 18446744073709551616 := Int.emod_nonneg _ (by decide)
    have lb1 : lo * 2 ^ n % 18446744073709551616 < 18446744073709551616 := Int.emod_lt_of_pos _ (by decide)
    have total : (hi * 18446744073709551616 + lo) * 2 ^ n = (hi * 2 ^ n + lo / 2 ^ (64 - n)) * 18446744073709551616 + lo * 2 ^ n % 18446744073709551616 := by
      have e1 : lo * 2 ^ n / 18446744073709551616 = lo / 2 ^ (64 - n) := by
        rw [← sp, Int.mul_comm lo]
        exact Int.mul_ediv_mul_of_pos _ _ (by omega)
      have e2 := Int.emod_def (lo * 2 ^ n) 18446744073709551616
      rw [e1] at e2
      have e3 : (hi * 18446744073709551616 + lo) * 2 ^ n = hi * 2 ^ n * 18446744073709551616 + lo * 2 ^ n := by rw [Int.add_mul, Int.mul_assoc, Int.mul_comm 18446744073709551616, ← Int.mul_assoc]
      rw [e3]
      generalize hi * 2 ^ n = a at *
      generalize lo * 2 ^ n = b at *
      generalize lo / 2 ^ (64 - n) = c at *
      omega
    obtain ⟨K, hK⟩ := div_norm (y * 2 ^ n) (n : Int) (hi * 2 ^ n + lo / 2 ^ (64 - n)) (lo * 2 ^ n % 18446744073709551616 / 4294967296) (lo * 2 ^ n % 18446744073709551616 % 4294967296) (by omega) y1 y2 (by omega) (by omega) (by omega) (by omega) (by omega) (by omega)
    refine ⟨K, fun k hk => ?_⟩
    have h := hK k hk
    unfold bits_Div64.f
    rw [if_neg (by omega), if_neg (by omega), if_neg hz, hlz, Option.bind_some]
    simp only [wn, wm]
    rw [if_pos (by omega), if_pos (by omega), yb, if_neg (by omega), or_e, and_low _ (by omega) y2, shl64 lo n (by omega), and_low _ lb0 lb1, h]
    have join : (hi * 2 ^ n + lo / 2 ^ (64 - n)) * 18446744073709551616 + lo * 2 ^ n % 18446744073709551616 / 4294967296 * 4294967296 + lo * 2 ^ n % 18446744073709551616 % 4294967296 = (hi * 18446744073709551616 + lo) * 2 ^ n := by rw [total]; omega
    rw [join, Int.mul_ediv_mul_of_pos_left _ _ (by omega)]
    have md : (hi * 18446744073709551616 + lo) * 2 ^ n % (y * 2 ^ n) = (hi * 18446744073709551616 + lo) % y * 2 ^ n := by
      rw [Int.mul_comm _ (2 ^ n), Int.mul_comm y, Int.mul_emod_mul_of_pos _ _ (by omega), Int.mul_comm]
    rw [md, shr64 _ n (by omega), Int.mul_ediv_cancel _ (by omega)]
theorem impl_div_eq (v d : Int) (h0 : 0 ≤ v) (h1 : v < 340282366920938463463374607431768211456) (d0 : 0 < d) (d1 : d < 18446744073709551616) : ∃ K, ∀ k, K ≤ k → impl_WideDiv.f k (hiW v) (loW v) d = some (hiW (v / d), loW (v / d), v % d) := by
  obtain ⟨a0, a1⟩ := hiW_range v h0 h1
  obtain ⟨b0, b1⟩ := loW_range v
  have e := val_eq v
  have m0 := Int.emod_nonneg (hiW v) (show d ≠ 0 by omega)
  have m1 := Int.emod_lt_of_pos (hiW v) d0
  have md := Int.emod_def (hiW v) d
  obtain ⟨K, hK⟩ := div64_eq (hiW v % d) (loW v) d m0 m1 d1 b0 b1
  refine ⟨K, fun k hk => ?_⟩
  unfold impl_WideDiv.f
  rw [if_neg (by omega), Int.tmod_eq_emod_of_nonneg a0, hK k hk, Int.tdiv_eq_ediv_of_nonneg a0, w64]
  simp only [Option.bind_some]
  have q0 := Int.ediv_nonneg a0 (show 0 ≤ d by omega)
  have q1 := Int.ediv_le_self d a0
  rw [Int.emod_eq_of_lt q0 (by omega)]
  have t0 : 0 ≤ (hiW v % d * 18446744073709551616 + loW v) / d := Int.ediv_nonneg (by omega) (by omega)
  have t1 : (hiW v % d * 18446744073709551616 + loW v) / d < 18446744073709551616 := Int.ediv_lt_of_lt_mul d0 (by omega)
  have vv : v = (hiW v % d * 18446744073709551616 + loW v) + d * (hiW v / d * 18446744073709551616) := by
    rw [← Int.mul_assoc]
    generalize d * (hiW v / d) = z at *
    omega
  have dv : v / d = hiW v / d * 18446744073709551616 + (hiW v % d * 18446744073709551616 + loW v) / d := by
    conv => lhs; rw [vv]
    rw [Int.add_mul_ediv_left _ _ (by omega), Int.add_comm]
  have mv : v % d = (hiW v % d * 18446744073709551616 + loW v) % d := by
    conv => lhs; rw [vv]
    rw [Int.add_mul_emod_self_left]
  rw [dv, mv, hi_of _ _ t0 t1, lo_of _ _ t0 t1]
theorem spec_bit_eq (v : Int) (j k : Nat) (hj : j ≤ 127) (hk : j + 1 < k) (h0 : 0 ≤ v) (h1 : v < 340282366920938463463374607431768211456) : spec_l01Bit.f k (hiW v) (loW v) (j : Int) = some (v / 2 ^ j % 2) := by
  unfold spec_l01Bit.f
  rw [wide_shr j k v hk hj h0 h1]
  obtain ⟨b0, b1⟩ := loW_range (v / 2 ^ j)
  simp only [Option.bind_some]
  rw [and_one _ b0 b1]
  unfold loW
  congr 1
  omega
theorem spec_div_loop (v d : Int) (h0 : 0 ≤ v) (h1 : v < 340282366920938463463374607431768211456) (d0 : 0 < d) (d1 : d < 18446744073709551616) : ∀ (j k : Nat), j ≤ 128 → j + 200 < k → spec_WideDiv.l0 k d ((j : Int) - 1) (hiW v) (loW v) (hiW (v / 2 ^ j / d)) (loW (v / 2 ^ j / d)) 0 (hiW (v / 2 ^ j % d)) (loW (v / 2 ^ j % d)) = some (hiW (v / d), loW (v / d), v % d) := by
  intro j
  induction j with
  | zero =>
    intro k _ hk
    obtain ⟨k, rfl⟩ : ∃ m, k = m + 1 := ⟨k - 1, by omega⟩
    have r0 := Int.emod_nonneg v (show d ≠ 0 by omega)
    have r1 := Int.emod_lt_of_pos v d0
    rw [spec_WideDiv.l0, if_neg (by omega), Int.pow_zero, Int.ediv_one, loW_small (v % d) r0 (by omega)]
  | succ j ih =>
    intro k hj hk
    obtain ⟨k, rfl⟩ : ∃ m, k = m + 1 := ⟨k - 1, by omega⟩
    have ih' := ih k (by omega) (by omega)
    clear ih
    have half : v / 2 ^ (j + 1) = v / 2 ^ j / 2 := by rw [Int.pow_succ, Int.ediv_ediv_of_nonneg (by exact Int.le_of_lt (pow_pos' j))]
    have bit := spec_bit_eq v j k (by omega) (by omega) h0 h1
    have w0 : 0 ≤ v / 2 ^ j := Int.ediv_nonneg h0 (by exact Int.le_of_lt (pow_pos' j))
    have w1 : v / 2 ^ j ≤ v := Int.ediv_le_self _ h0
    rw [half]
    generalize v / 2 ^ j = w at *
    have r0 := Int.emod_nonneg (w / 2) (show d ≠ 0 by omega)
    have r1 := Int.emod_lt_of_pos (w / 2) d0
    have rd' := Int.emod_def (w / 2) d
    have q0 : 0 ≤ w / 2 / d := Int.ediv_nonneg (by omega) (by omega)
    have q1 : w / 2 / d ≤ w / 2 := Int.ediv_le_self _ (by omega)
    have add1 := wide_add (w / 2 % d) (w / 2 % d) r0 (by omega) r0 (by omega)
    have add2 := wide_add (w / 2 / d) (w / 2 / d) q0 (by omega) q0 (by omega)
    have s1 : (w / 2 % d + w / 2 % d) % 340282366920938463463374607431768211456 = w / 2 % d + w / 2 % d := Int.emod_eq_of_lt (by omega) (by omega)
    have s2 : (w / 2 / d + w / 2 / d) % 340282366920938463463374607431768211456 = w / 2 / d + w / 2 / d := Int.emod_eq_of_lt (by omega) (by omega)
    rw [s1] at add1
    rw [s2] at add2
    have tw : w = w % 2 + d * (w / 2 / d) + d * (w / 2 / d) + w / 2 % d + w / 2 % d := by omega
    have lo1 : IntKind.u64.wrap (loW (w / 2 % d + w / 2 % d) + w % 2) = loW (w / 2 % d + w / 2 % d + w % 2) := by rw [w64]; unfold loW; omega
    have hi1 : hiW (w / 2 % d + w / 2 % d) = hiW (w / 2 % d + w / 2 % d + w % 2) := by unfold hiW; omega
    have lo2 : IntKind.u64.wrap (loW (w / 2 / d + w / 2 / d) + 1) = loW (w / 2 / d + w / 2 / d + 1) := by rw [w64]; unfold loW; omega
    have hi2 : hiW (w / 2 / d + w / 2 / d) = hiW (w / 2 / d + w / 2 / d + 1) := by unfold hiW; omega
    have cmp : spec_WideCmp.f (hiW (w / 2 % d + w / 2 % d + w % 2)) (loW (w / 2 % d + w / 2 % d + w % 2)) 0 d = some (cmpInt (w / 2 % d + w / 2 % d + w % 2) d) := by
      have := spec_cmp_eq (w / 2 % d + w / 2 % d + w % 2) d
      rw [hiW_small d (by omega) d1, loW_small d (by omega) d1] at this
      exact this
    have wj : wrap64 (((j + 1 : Nat) : Int) - 1 - 1) = (j : Int) - 1 := by rw [wrap_small (by omega) (by omega)]; omega
    have ej : ((j + 1 : Nat) : Int) - 1 = (j : Int) := by omega
    rw [spec_WideDiv.l0, if_pos (by omega), add1, Option.bind_some, ej, bit, Option.bind_some, add2, Option.bind_some]
    rw [ej] at wj
    simp only [lo1]
    rw [hi1, cmp, Option.bind_some]
    have b0 : 0 ≤ w % 2 := by omega
    have b1 : w % 2 ≤ 1 := by omega
    by_cases hc : d ≤ w / 2 % d + w / 2 % d + w % 2
    · have c1 : cmpInt (w / 2 % d + w / 2 % d + w % 2) d ≥ 0 := by unfold cmpInt; (repeat' split) <;> omega
      have sub := spec_sub_eq (w / 2 % d + w / 2 % d + w % 2) d (by omega) (by omega) (by omega) (by omega)
      rw [hiW_small d (by omega) d1, loW_small d (by omega) d1, Int.emod_eq_of_lt (show 0 ≤ w / 2 % d + w / 2 % d + w % 2 - d by omega) (by omega)] at sub
      have dq : w / d = w / 2 / d + w / 2 / d + 1 := by
        have e : w = (w / 2 % d + w / 2 % d + w % 2 - d) + d * (w / 2 / d + w / 2 / d + 1) := by
          rw [Int.mul_add, Int.mul_add, Int.mul_one]
          omega
        conv => lhs; rw [e]
        rw [Int.add_mul_ediv_left _ _ (by omega), Int.ediv_eq_zero_of_lt (by omega) (by omega), Int.zero_add]
      have dr : w % d = w / 2 % d + w / 2 % d + w % 2 - d := by
        have e := Int.emod_def w d
        rw [dq, Int.mul_add, Int.mul_add, Int.mul_one] at e
        omega
      rw [if_pos c1, sub, Option.bind_some]
      simp only [wj, lo2]
      rw [hi2, ← dq, ← dr]
      exact ih'
    · have c1 : ¬ cmpInt (w / 2 % d + w / 2 % d + w % 2) d ≥ 0 := by unfold cmpInt; (repeat' split) <;> omega
      have e : w = (w / 2 % d + w / 2 % d + w % 2) + d * (w / 2 / d + w / 2 / d) := by
        rw [Int.mul_add]
        omega
      have dq : w / d = w / 2 / d + w / 2 / d := by
        conv => lhs; rw [e]
        rw [Int.add_mul_ediv_left _ _ (by omega), Int.ediv_eq_zero_of_lt (by omega) (by omega), Int.zero_add]
      have dr : w % d = w / 2 % d + w / 2 % d + w % 2 := by
        have e := Int.emod_def w d
        rw [dq, Int.mul_add] at e
        omega
      rw [if_neg c1]
      simp only [wj]
      rw [← dq, ← dr]
      exact ih'
theorem spec_div_eq (v d : Int) (k : Nat) (hk : 400 < k) (h0 : 0 ≤ v) (h1 : v < 340282366920938463463374607431768211456) (d0 : 0 < d) (d1 : d < 18446744073709551616) : spec_WideDiv.f k (hiW v) (loW v) d = some (hiW (v / d), loW (v / d), v % d) := by
  have h := spec_div_loop v d h0 h1 d0 d1 128 k (by omega) (by omega)
  have z : v / 2 ^ 128 = 0 := Int.ediv_eq_zero_of_lt h0 (by omega)
  rw [z, Int.zero_ediv, Int.zero_emod, hiW_zero, loW_zero] at h
  unfold spec_WideDiv.f
  rw [if_neg (by omega)]
  exact h
/-- The numeral's next digit. -/
def dig (v : Int) : ByteArray := strOfNums [(IntKind.u64.wrap (48 + v % 10)) % 256]
theorem dig_size (v : Int) : (dig v).size = 1 := by simp [dig, strOfNums_size]
theorem dig_app (v : Int) (x : ByteArray) : (dig v ++ x).size = 1 + x.size := by rw [ByteArray.size_append, dig_size]
theorem not_empty (x : ByteArray) (h : 1 ≤ x.size) : ¬ x.toList = ([] : List UInt8) := by
  rw [ByteArray.toList_eq]
  intro g
  have : x.data.toList.length = x.size := rfl
  rw [g] at this
  simp at this
  omega
theorem spec_text_step (k : Nat) (hk : 401 < k) (v : Int) (x : ByteArray) (h0 : 1 ≤ v) (h1 : v < 340282366920938463463374607431768211456) (hx : x.size ≤ 100) : spec_WideText.l0 (k + 1) x (hiW v) (loW v) = spec_WideText.l0 k (dig v ++ x) (hiW (v / 10)) (loW (v / 10)) := by
  have cmp := spec_cmp_eq v 0
  rw [hiW_zero, loW_zero] at cmp
  rw [spec_WideText.l0, cmp, Option.bind_some, if_pos (by unfold cmpInt; (repeat' split) <;> omega), spec_div_eq v 10 k (by omega) (by omega) h1 (by omega) (by omega)]
  have hs : (dig v).size + x.size ≤ 9223372036854775807 := by rw [dig_size]; omega
  simp only [Option.bind_some]
  exact if_pos hs
theorem spec_text_end (k : Nat) (x : ByteArray) (hx : 1 ≤ x.size) : spec_WideText.l0 (k + 1) x (hiW 0) (loW 0) = some x := by
  have cmp := spec_cmp_eq 0 0
  rw [hiW_zero, loW_zero] at cmp
  rw [hiW_zero, loW_zero, spec_WideText.l0, cmp, Option.bind_some, if_neg (by unfold cmpInt; (repeat' split) <;> omega), if_neg (not_empty x hx)]
theorem impl_text_step (v : Int) (h0 : 0 ≤ v) (h1 : v < 340282366920938463463374607431768211456) : ∃ K, ∀ k, K ≤ k → ∀ x : ByteArray, x.size ≤ 100 → impl_WideText.l0 (k + 1) x (hiW v) (loW v) = if v / 10 = 0 then some (dig v ++ x) else impl_WideText.l0 k (dig v ++ x) (hiW (v / 10)) (loW (v / 10)) := by
  obtain ⟨K, hK⟩ := impl_div_eq v 10 h0 h1 (by omega) (by omega)
  refine ⟨K, fun k hk x hx => ?_⟩
  have hs : (dig v).size + x.size ≤ 9223372036854775807 := by rw [dig_size]; omega
  rw [impl_WideText.l0, hK k hk]
  simp only [Option.bind_some]
  refine (if_pos hs).trans ?_
  have e := val_eq (v / 10)
  by_cases hz : v / 10 = 0
  · rw [if_pos hz, hz, hiW_zero, loW_zero]
    rfl
  · have c : ¬ (hiW (v / 10) == 0 && loW (v / 10) == 0) = true := by
      intro g
      simp only [Bool.and_eq_true, beq_iff_eq] at g
      rw [g.1, g.2] at e
      omega
    rw [if_neg hz, if_neg c]
    rfl
theorem text_eq : ∀ (n : Nat) (v : Int) (x : ByteArray), 1 ≤ v → v < 10 ^ n → v < 340282366920938463463374607431768211456 → x.size + n ≤ 100 → ∃ K r, r.size ≤ x.size + n ∧ ∀ k, K ≤ k → spec_WideText.l0 k x (hiW v) (loW v) = some r ∧ impl_WideText.l0 k x (hiW v) (loW v) = some r := by
  intro n
  induction n with
  | zero => intro v x h0 h1; rw [Int.pow_zero] at h1; omega
  | succ n ih =>
    intro v x h0 h1 h2 hx
    obtain ⟨K1, hK1⟩ := impl_text_step v (by omega) h2
    by_cases hz : v / 10 = 0
    · refine ⟨K1 + 500, dig v ++ x, by rw [dig_app]; omega, fun k hk => ?_⟩
      obtain ⟨k, rfl⟩ : ∃ m, k = m + 2 := ⟨k - 2, by omega⟩
      rw [spec_text_step (k + 1) (by omega) v x h0 h2 (by omega), hK1 (k + 1) (by omega) x (by omega), if_pos hz, hz, spec_text_end k _ (by rw [dig_app]; omega)]
      exact ⟨rfl, rfl⟩
    · rw [Int.pow_succ] at h1
      obtain ⟨K, r, hz', hr⟩ := ih (v / 10) (dig v ++ x) (by omega) (by omega) (by omega) (by rw [dig_app]; omega)
      refine ⟨K + K1 + 500, r, by rw [dig_app] at hz'; omega, fun k hk => ?_⟩
      obtain ⟨k, rfl⟩ : ∃ m, k = m + 1 := ⟨k - 1, by omega⟩
      rw [spec_text_step k (by omega) v x h0 h2 (by omega), hK1 k (by omega) x (by omega), if_neg hz]
      exact hr k (by omega)
theorem text_both (v : Int) (h0 : 0 ≤ v) (h1 : v < 340282366920938463463374607431768211456) : ∃ K r, r.size ≤ 39 ∧ ∀ k, K ≤ k → spec_WideText.f k (hiW v) (loW v) = some r ∧ impl_WideText.f k (hiW v) (loW v) = some r := by
  by_cases hz : v = 0
  · subst hz
    obtain ⟨K, hK⟩ := impl_text_step 0 (by omega) (by omega)
    refine ⟨K + 1, ⟨#[48]⟩, by decide, fun k hk => ?_⟩
    obtain ⟨k, rfl⟩ : ∃ m, k = m + 1 := ⟨k - 1, by omega⟩
    have cmp := spec_cmp_eq 0 0
    unfold spec_WideText.f impl_WideText.f
    rw [hK k (by omega) _ (by decide)]
    rw [hiW_zero, loW_zero] at cmp ⊢
    rw [spec_WideText.l0, cmp, Option.bind_some, if_neg (by decide), if_pos (by rw [ByteArray.toList_eq])]
    exact ⟨rfl, rfl⟩
  · obtain ⟨K, r, hs, hr⟩ := text_eq 39 v ⟨#[]⟩ (by omega) (by omega) h1 (by decide)
    exact ⟨K, r, by have e0 : (⟨#[]⟩ : ByteArray).size = 0 := rfl
                    omega, hr⟩

theorem spec_text_zero (k : Nat) : spec_WideText.f (k + 1) (hiW 0) (loW 0) = some ⟨#[48]⟩ := by
  have cmp := spec_cmp_eq 0 0
  unfold spec_WideText.f
  rw [hiW_zero, loW_zero] at cmp ⊢
  rw [spec_WideText.l0, cmp, Option.bind_some, if_neg (by decide), if_pos (by rw [ByteArray.toList_eq])]

abbrev Dg : List UInt8 := [48, 49, 50, 51, 52, 53, 54, 55, 56, 57]
theorem digit8 (b : UInt8) : Dg.contains b = true ↔ 48 ≤ b.toNat ∧ b.toNat ≤ 57 := by
  constructor
  · intro h
    have h2 : b ∈ Dg := by simpa using h
    simp only [Dg, List.mem_cons, List.not_mem_nil, or_false] at h2
    rcases h2 with rfl | rfl | rfl | rfl | rfl | rfl | rfl | rfl | rfl | rfl <;> decide
  · rintro ⟨h1, h2⟩
    have e : b = UInt8.ofNat b.toNat := by simp
    generalize b.toNat = n at *
    subst e
    have : n = 48 ∨ n = 49 ∨ n = 50 ∨ n = 51 ∨ n = 52 ∨ n = 53 ∨ n = 54 ∨ n = 55 ∨ n = 56 ∨ n = 57 := by omega
    rcases this with rfl | rfl | rfl | rfl | rfl | rfl | rfl | rfl | rfl | rfl <;> decide
theorem dw_nil {p : UInt8 → Bool} : ∀ {l : List UInt8}, (∀ x ∈ l, p x = true) → l.dropWhile p = []
  | [], _ => rfl
  | a :: l, h => by rw [List.dropWhile_cons, if_pos (h a (by simp))]; exact dw_nil (fun x hx => h x (by simp [hx]))
theorem dw_all {p : UInt8 → Bool} : ∀ {l : List UInt8}, (∀ x ∈ l.dropWhile p, p x = true) → ∀ x ∈ l, p x = true
  | [], _ => fun x hx => absurd hx (by simp)
  | a :: l, h => by
    by_cases c : p a = true
    · rw [List.dropWhile_cons, if_pos c] at h
      intro x hx
      rcases List.mem_cons.1 hx with rfl | hx
      · exact c
      · exact dw_all h x hx
    · rw [List.dropWhile_cons, if_neg c] at h
      exact h
theorem dw_of_nil {p : UInt8 → Bool} {l : List UInt8} (h : l.dropWhile p = []) : ∀ x ∈ l, p x = true := dw_all (by rw [h]; intro x hx; exact absurd hx (by simp))
theorem trim_nil (l : List UInt8) : Lib.trimS l Dg = [] ↔ ∀ x ∈ l, Dg.contains x = true := by
  unfold Lib.trimS Lib.trimLeftS Lib.trimRightS
  constructor
  · intro h x hx
    have h1 := dw_of_nil h
    have h2 := dw_all (p := (Dg.contains ·)) (l := l.reverse) (fun y hy => h1 y (by simpa using hy))
    exact h2 x (by simpa using hx)
  · intro h
    refine dw_nil (fun x hx => ?_)
    have h3 : l.reverse.dropWhile (Dg.contains ·) = [] := dw_nil (fun y hy => h y (by simpa using hy))
    rw [h3] at hx
    exact absurd hx (by simp)
def IsD (s : ByteArray) (i : Nat) : Prop := 48 ≤ bt s (i : Int) ∧ bt s (i : Int) ≤ 57
instance (s : ByteArray) (i : Nat) : Decidable (IsD s i) := by unfold IsD; exact inferInstance
theorem bt_get (s : ByteArray) (i : Nat) (h : i < s.size) : bt s (i : Int) = ((s.data.toList[i]'h).toNat : Int) := by
  unfold bt
  rw [dif_pos (by simpa using h)]
  rfl
theorem all_digits (s : ByteArray) : (∀ x ∈ s.data.toList, Dg.contains x = true) ↔ ∀ i, i < s.size → IsD s i := by
  constructor
  · intro h i hi
    have := (digit8 _).1 (h (s.data.toList[i]'hi) (List.getElem_mem _))
    unfold IsD
    rw [bt_get s i hi]
    omega
  · intro h x hx
    obtain ⟨i, hi, rfl⟩ := List.mem_iff_getElem.1 hx
    have := h i hi
    unfold IsD at this
    rw [bt_get s i hi] at this
    exact (digit8 _).2 (by omega)
/-- The number that is read, a byte at a time. -/
def rd10 (s : ByteArray) : Nat → Int
  | 0 => 0
  | i + 1 => (rd10 s i * 10 + (bt s (i : Int) - 48)) % 340282366920938463463374607431768211456
theorem rd10_range (s : ByteArray) (i : Nat) : 0 ≤ rd10 s i ∧ rd10 s i < 340282366920938463463374607431768211456 := by
  cases i with
  | zero => exact ⟨Int.le_refl 0, show (0 : Int) < 340282366920938463463374607431768211456 by decide⟩
  | succ i => exact ⟨Int.emod_nonneg _ (by decide), Int.emod_lt_of_pos _ (by decide)⟩
/-- What is told at the end. -/
def told (s r : ByteArray) (v : Int) : Int × Int × Bool × Int := if r.toList = s.toList then (hiW v, loW v, false, 0) else (0, 0, false, 3)
theorem ten_eq (v d : Int) : ((v * 2 ^ 3 % 340282366920938463463374607431768211456 + v * 2 ^ 1 % 340282366920938463463374607431768211456) % 340282366920938463463374607431768211456 + d) % 340282366920938463463374607431768211456 = (v * 10 + d) % 340282366920938463463374607431768211456 := by omega
theorem spec_step (s : ByteArray) (v : Int) (i k : Nat) (hk : 200 < k) (h0 : 0 ≤ v) (h1 : v < 340282366920938463463374607431768211456) (hi : i < s.size) (hs : s.size ≤ 20000) (hi' : i < 40) (d : IsD s i) :
    spec_WideRead.l0 (k + 3) s (i : Int) (hiW v) (loW v) = spec_WideRead.l0 k s ((i + 1 : Nat) : Int) (hiW ((v * 10 + (bt s (i : Int) - 48)) % 340282366920938463463374607431768211456)) (loW ((v * 10 + (bt s (i : Int) - 48)) % 340282366920938463463374607431768211456)) := by
  have b0 : 0 ≤ (i : Int) := by omega
  have b1 : (i : Int) < (s.size : Int) := by omega
  have wi : wrap64 ((i : Int) + 1) = ((i + 1 : Nat) : Int) := wrap_small (x := (i : Int) + 1) (by omega) (by omega)
  unfold IsD at d
  have d0 : 0 ≤ bt s (i : Int) - 48 := by omega
  have d1 : bt s (i : Int) - 48 < 18446744073709551616 := by omega
  have d2 : bt s (i : Int) - 48 < 340282366920938463463374607431768211456 := by omega
  have b2 : (i : Int) < 40 := by omega
  have b3 : ¬ bt s (i : Int) < 48 := by omega
  have b4 : ¬ bt s (i : Int) > 57 := by omega
  have k3 : 3 + 1 < k := by omega
  have k1 : 1 + 1 < k := by omega
  have e1 : ((bt s (i : Int)) - 48) % 256 = bt s (i : Int) - 48 := by omega
  have e2 := wide_add (v * 2 ^ 3 % 340282366920938463463374607431768211456) (v * 2 ^ 1 % 340282366920938463463374607431768211456) (Int.emod_nonneg _ (by decide)) (Int.emod_lt_of_pos _ (by decide)) (Int.emod_nonneg _ (by decide)) (Int.emod_lt_of_pos _ (by decide))
  have e3 := wide_add ((v * 2 ^ 3 % 340282366920938463463374607431768211456 + v * 2 ^ 1 % 340282366920938463463374607431768211456) % 340282366920938463463374607431768211456) (bt s (i : Int) - 48) (Int.emod_nonneg _ (by decide)) (Int.emod_lt_of_pos _ (by decide)) d0 d2
  rw [hiW_small _ d0 d1, loW_small _ d0 d1] at e3
  rw [ten_eq] at e3
  have s3 := wide_shl 3 k v k3 (by decide) h0 h1
  have s1 := wide_shl 1 k v k1 (by decide) h0 h1
  rw [show k + 3 = (k + 2) + 1 from rfl, spec_WideRead.l0, if_pos b1, decide_eq_true b2, show k + 2 = (k + 1) + 1 from rfl, spec_WideRead.j1, if_pos rfl, if_pos b0, if_pos b1, if_neg b3, decide_eq_false b4, spec_WideRead.j2, if_neg (by decide)]
  rw [show ((3 : Nat) : Int) = 3 from rfl] at s3
  rw [show ((1 : Nat) : Int) = 1 from rfl] at s1
  rw [s3, Option.bind_some, s1, Option.bind_some, e2, Option.bind_some, if_pos b0, if_pos b1, e1, e3, Option.bind_some, wi]
theorem spec_bad (s : ByteArray) (i k : Nat) (a b : Int) (hi : i < s.size) (hi' : i < 40) (d : ¬ IsD s i) : spec_WideRead.l0 (k + 3) s (i : Int) a b = some (0, 0, false, 3) := by
  unfold IsD at d
  rw [show k + 3 = (k + 2) + 1 from rfl, spec_WideRead.l0, if_pos (show (i : Int) < (s.size : Int) by omega), decide_eq_true (show (i : Int) < 40 by omega), show k + 2 = (k + 1) + 1 from rfl, spec_WideRead.j1, if_pos rfl, if_pos (by omega), if_pos (by omega)]
  by_cases c : bt s (i : Int) < 48
  · rw [if_pos c, spec_WideRead.j2, if_pos rfl]
  · rw [if_neg c, decide_eq_true (show bt s (i : Int) > 57 by omega), spec_WideRead.j2, if_pos rfl]
theorem spec_stop (s : ByteArray) (i k : Nat) (v : Int) (r : ByteArray) (hi : ¬ (i < s.size ∧ i < 40)) (hr : spec_WideText.f k (hiW v) (loW v) = some r) : spec_WideRead.l0 (k + 2) s (i : Int) (hiW v) (loW v) = if s.toList = ([] : List UInt8) then some (0, 0, false, 3) else some (told s r v) := by
  have h : spec_WideRead.l0 (k + 2) s (i : Int) (hiW v) (loW v) = spec_WideRead.j1 (k + 1) s (i : Int) false (hiW v) (loW v) := by
    rw [spec_WideRead.l0]
    by_cases c : (i : Int) < (s.size : Int)
    · rw [if_pos c, decide_eq_false (by omega)]
    · rw [if_neg c]
  rw [h, spec_WideRead.j1, if_neg (by decide), hr, Option.bind_some]
  unfold told
  split
  · rfl
  · split <;> rfl
theorem spec_good (s : ByteArray) (hs : s.size ≤ 20000) (e : Nat) (he : e ≤ s.size) (he' : e ≤ 40) (hend : ¬ (e < s.size ∧ e < 40)) (hd : ∀ i, i < e → IsD s i) (r : ByteArray) (K : Nat) (hr : ∀ k, K ≤ k → spec_WideText.f k (hiW (rd10 s e)) (loW (rd10 s e)) = some r) :
    ∀ (d i k : Nat), e - i = d → i ≤ e → 3 * d + K + 210 ≤ k → spec_WideRead.l0 k s (i : Int) (hiW (rd10 s i)) (loW (rd10 s i)) = if s.toList = ([] : List UInt8) then some (0, 0, false, 3) else some (told s r (rd10 s e)) := by
  intro d
  induction d with
  | zero =>
    intro i k hd' hi hk
    obtain ⟨k, rfl⟩ : ∃ m, k = m + 2 := ⟨k - 2, by omega⟩
    have ei : i = e := by omega
    rw [ei]
    exact spec_stop s e k (rd10 s e) r hend (hr k (by omega))
  | succ d ih =>
    intro i k hd' hi hk
    obtain ⟨k, rfl⟩ : ∃ m, k = m + 3 := ⟨k - 3, by omega⟩
    have rg := rd10_range s i
    rw [spec_step s (rd10 s i) i k (by omega) rg.1 rg.2 (by omega) hs (by omega) (hd i (by omega))]
    exact ih (i + 1) k (by omega) (by omega) (by omega)
theorem spec_fail (s : ByteArray) (hs : s.size ≤ 20000) (j : Nat) (hj : j < s.size) (hj' : j < 40) (hb : ¬ IsD s j) : ∀ (d i k : Nat) (v : Int), j - i = d → i ≤ j → 3 * d + 210 ≤ k → 0 ≤ v → v < 340282366920938463463374607431768211456 → spec_WideRead.l0 k s (i : Int) (hiW v) (loW v) = some (0, 0, false, 3) := by
  intro d
  induction d with
  | zero =>
    intro i k v hd hi hk h0 h1
    obtain ⟨k, rfl⟩ : ∃ m, k = m + 3 := ⟨k - 3, by omega⟩
    have ei : i = j := by omega
    rw [ei]
    exact spec_bad s j k _ _ hj hj' hb
  | succ d ih =>
    intro i k v hd hi hk h0 h1
    obtain ⟨k, rfl⟩ : ∃ m, k = m + 3 := ⟨k - 3, by omega⟩
    by_cases c : IsD s i
    · rw [spec_step s v i k (by omega) h0 h1 (by omega) hs (by omega) c]
      exact ih (i + 1) k _ (by omega) (by omega) (by omega) (Int.emod_nonneg _ (by decide)) (Int.emod_lt_of_pos _ (by decide))
    · exact spec_bad s i k _ _ (by omega) (by omega) c
theorem impl_step (s : ByteArray) (v : Int) (i k : Nat) (h0 : 0 ≤ v) (h1 : v < 340282366920938463463374607431768211456) (hi : i < s.size) (hs : s.size ≤ 20000) (d : IsD s i) :
    impl_WideRead.l0 (k + 1) s (s.size : Int) (i : Int) (hiW v) (loW v) = impl_WideRead.l0 k s (s.size : Int) ((i + 1 : Nat) : Int) (hiW ((v * 10 + (bt s (i : Int) - 48)) % 340282366920938463463374607431768211456)) (loW ((v * 10 + (bt s (i : Int) - 48)) % 340282366920938463463374607431768211456)) := by
  have b0 : 0 ≤ (i : Int) := by omega
  have b1 : (i : Int) < (s.size : Int) := by omega
  have wi : wrap64 ((i : Int) + 1) = ((i + 1 : Nat) : Int) := wrap_small (x := (i : Int) + 1) (by omega) (by omega)
  unfold IsD at d
  have d0 : 0 ≤ bt s (i : Int) - 48 := by omega
  have d1 : bt s (i : Int) - 48 < 18446744073709551616 := by omega
  have d2 : bt s (i : Int) - 48 < 340282366920938463463374607431768211456 := by omega
  have e1 : ((bt s (i : Int)) - 48) % 256 = bt s (i : Int) - 48 := by omega
  have e2 := impl_add_eq (v * 2 ^ 3 % 340282366920938463463374607431768211456) (v * 2 ^ 1 % 340282366920938463463374607431768211456) (Int.emod_nonneg _ (by decide)) (Int.emod_lt_of_pos _ (by decide)) (Int.emod_nonneg _ (by decide)) (Int.emod_lt_of_pos _ (by decide))
  have e3 := impl_add_eq ((v * 2 ^ 3 % 340282366920938463463374607431768211456 + v * 2 ^ 1 % 340282366920938463463374607431768211456) % 340282366920938463463374607431768211456) (bt s (i : Int) - 48) (Int.emod_nonneg _ (by decide)) (Int.emod_lt_of_pos _ (by decide)) d0 d2
  rw [hiW_small _ d0 d1, loW_small _ d0 d1] at e3
  rw [ten_eq] at e3
  have s3 := impl_shl_eq v 3 (by decide) h0 h1
  have s1 := impl_shl_eq v 1 (by decide) h0 h1
  rw [show ((3 : Nat) : Int) = 3 from rfl] at s3
  rw [show ((1 : Nat) : Int) = 1 from rfl] at s1
  rw [impl_WideRead.l0, if_pos b1, s3, Option.bind_some, s1, Option.bind_some, e2, Option.bind_some, if_pos b0, if_pos b1, e1, e3, Option.bind_some, wi]
theorem impl_good (s : ByteArray) (hs : s.size ≤ 20000) (hd : ∀ i, i < s.size → IsD s i) (r : ByteArray) (K : Nat) (hr : ∀ k, K ≤ k → impl_WideText.f k (hiW (rd10 s s.size)) (loW (rd10 s s.size)) = some r) :
    ∀ (d i k : Nat), s.size - i = d → i ≤ s.size → d + K + 10 ≤ k → impl_WideRead.l0 k s (s.size : Int) (i : Int) (hiW (rd10 s i)) (loW (rd10 s i)) = some (told s r (rd10 s s.size)) := by
  intro d
  induction d with
  | zero =>
    intro i k hd' hi hk
    obtain ⟨k, rfl⟩ : ∃ m, k = m + 1 := ⟨k - 1, by omega⟩
    have ei : i = s.size := by omega
    rw [ei, impl_WideRead.l0, if_neg (by omega), hr k (by omega), Option.bind_some]
    unfold told
    split <;> rfl
  | succ d ih =>
    intro i k hd' hi hk
    obtain ⟨k, rfl⟩ : ∃ m, k = m + 1 := ⟨k - 1, by omega⟩
    have rg := rd10_range s i
    rw [impl_step s (rd10 s i) i k rg.1 rg.2 (by omega) hs (hd i (by omega))]
    exact ih (i + 1) k (by omega) (by omega) (by omega)
theorem trim_eq (s : ByteArray) (hs : s.size ≤ 20000) : strings_Trim.f s (⟨#[48, 49, 50, 51, 52, 53, 54, 55, 56, 57]⟩ : ByteArray) = some ⟨(Lib.trimS s.data.toList Dg).toArray⟩ := by
  unfold strings_Trim.f
  rw [if_pos ⟨by omega, rfl⟩]
theorem told_long (s r : ByteArray) (v : Int) (h : r.size < s.size) : told s r v = (0, 0, false, 3) := by
  unfold told
  rw [if_neg]
  rw [ByteArray.toList_eq, ByteArray.toList_eq]
  intro g
  have e1 : r.data.toList.length = r.size := rfl
  have e2 : s.data.toList.length = s.size := rfl
  rw [g] at e1
  omega
theorem read_both (s : ByteArray) : ∃ K R, ∀ k, K ≤ k → spec_WideRead.f k s = some R ∧ impl_WideRead.f k s = some R := by
  by_cases big : (s.size : Int) > 20000
  · refine ⟨0, (0, 0, false, 2), fun k _ => ?_⟩
    unfold spec_WideRead.f impl_WideRead.f
    rw [if_pos big, if_pos big]
    exact ⟨rfl, rfl⟩
  have hs : s.size ≤ 20000 := by omega
  have hspec : ∀ k, spec_WideRead.f k s = spec_WideRead.l0 k s ((0 : Nat) : Int) (hiW (rd10 s 0)) (loW (rd10 s 0)) := fun k => by
    unfold spec_WideRead.f
    rw [if_neg big]
    rfl
  have himpl : ∀ k, s.size ≤ 39 → impl_WideRead.f k s = impl_WideRead.j0 k s ((⟨(Lib.trimS s.data.toList Dg).toArray⟩ : ByteArray).toList != ([] : List UInt8)) := fun k h => by
    unfold impl_WideRead.f
    rw [if_neg big, if_neg (by omega), trim_eq s hs, Option.bind_some]
  have hlong : ∀ k, 39 < s.size → impl_WideRead.f (k + 1) s = some (0, 0, false, 3) := fun k h => by
    unfold impl_WideRead.f
    rw [if_neg big, if_pos (by omega), impl_WideRead.j0, if_pos rfl]
  by_cases good : ∀ i, i < s.size → i < 40 → IsD s i
  · -- digits alone, as far as it is read
    obtain ⟨e, he1, he2, he3, he4⟩ : ∃ e, e ≤ s.size ∧ e ≤ 40 ∧ ¬ (e < s.size ∧ e < 40) ∧ (s.size ≤ 40 → e = s.size) := by
      by_cases c : s.size ≤ 40
      · exact ⟨s.size, by omega, c, by omega, fun _ => rfl⟩
      · exact ⟨40, by omega, by omega, by omega, fun h => absurd h c⟩
    have rg := rd10_range s e
    obtain ⟨K, r, hrs, hr⟩ := text_both (rd10 s e) rg.1 rg.2
    have h1 : ∀ k, K + 400 ≤ k → _ := fun k hk => spec_good s hs e he1 he2 he3 (fun i hi => good i (by omega) (by omega)) r K (fun k hk => (hr k hk).1) (e - 0) 0 k rfl (by omega) (by omega)
    by_cases long : 39 < s.size
    · refine ⟨K + 400, (0, 0, false, 3), fun k hk => ?_⟩
      obtain ⟨k, rfl⟩ : ∃ m, k = m + 1 := ⟨k - 1, by omega⟩
      rw [hspec, h1 (k + 1) (by omega), hlong k long, told_long s r _ (by omega)]
      exact ⟨by split <;> rfl, rfl⟩
    · have ee : e = s.size := he4 (by omega)
      subst ee
      have tr : Lib.trimS s.data.toList Dg = [] := (trim_nil _).2 ((all_digits s).2 (fun i hi => good i hi (by omega)))
      have h2 : ∀ k, K + 400 ≤ k → impl_WideRead.f k s = some (told s r (rd10 s s.size)) := fun k hk => by
        obtain ⟨k, rfl⟩ : ∃ m, k = m + 1 := ⟨k - 1, by omega⟩
        rw [himpl _ (by omega), tr]
        rw [show ((⟨([] : List UInt8).toArray⟩ : ByteArray).toList != ([] : List UInt8)) = false by rw [ByteArray.toList_eq]; rfl, impl_WideRead.j0, if_neg (by decide)]
        exact impl_good s hs (fun i hi => good i hi (by omega)) r K (fun k hk => (hr k hk).2) (s.size - 0) 0 k rfl (by omega) (by omega)
      by_cases em : s.toList = ([] : List UInt8)
      · have sz : s.size = 0 := by
          rw [ByteArray.toList_eq] at em
          have : s.data.toList.length = s.size := rfl
          rw [em] at this
          simpa using this.symm
        have v0 : rd10 s s.size = 0 := by rw [sz]; rfl
        have tt : told s r (rd10 s s.size) = (0, 0, false, 3) := by
          unfold told
          rw [if_neg]
          intro g
          rw [em] at g
          have h0 := (hr (K + 3) (by omega)).1
          rw [v0] at h0
          have := spec_text_zero (K + 2)
          rw [h0] at this
          have er := Option.some.inj this
          rw [er, ByteArray.toList_eq] at g
          exact absurd g (by decide)
        refine ⟨K + 400, (0, 0, false, 3), fun k hk => ?_⟩
        rw [hspec, h1 k hk, if_pos em, h2 k hk, tt]
        exact ⟨rfl, rfl⟩
      · refine ⟨K + 400, told s r (rd10 s s.size), fun k hk => ?_⟩
        rw [hspec, h1 k hk, if_neg em, h2 k hk]
        exact ⟨rfl, rfl⟩
  · obtain ⟨j, hj⟩ := Classical.not_forall.1 good
    obtain ⟨hj1, hj2⟩ := Classical.not_imp.1 hj
    obtain ⟨hj2, hj3⟩ := Classical.not_imp.1 hj2
    refine ⟨500, (0, 0, false, 3), fun k hk => ⟨?_, ?_⟩⟩
    · rw [hspec]
      exact spec_fail s hs j hj1 hj2 hj3 (j - 0) 0 k _ rfl (by omega) (by omega) (rd10_range s 0).1 (rd10_range s 0).2
    · obtain ⟨k, rfl⟩ : ∃ m, k = m + 1 := ⟨k - 1, by omega⟩
      by_cases long : 39 < s.size
      · exact hlong k long
      · have tr : Lib.trimS s.data.toList Dg ≠ [] := fun h => hj3 ((all_digits s).1 ((trim_nil _).1 h) j hj1)
        rw [himpl _ (by omega)]
        rw [show ((⟨(Lib.trimS s.data.toList Dg).toArray⟩ : ByteArray).toList != ([] : List UInt8)) = true by rw [ByteArray.toList_eq]; simpa using tr, impl_WideRead.j0, if_pos rfl]

theorem FnExactWideRead : laws_FnExactWideRead.Pure := by
  intro s hs
  obtain ⟨K, ⟨a, b, c, d⟩, h⟩ := read_both s
  refine ⟨K, ?_⟩
  obtain ⟨h1, h2⟩ := h K (by omega)
  unfold laws_FnExactWideRead.f
  by_cases big : (s.size : Int) > 1048576
  · rw [if_pos big]
  rw [if_neg big, h1, Option.bind_some, h2]
  simp [laws_eqWideOut.f, laws_eqWide.f]

end Go.Proofs.YtpgaoihgohlmkaaDoor.Pure
