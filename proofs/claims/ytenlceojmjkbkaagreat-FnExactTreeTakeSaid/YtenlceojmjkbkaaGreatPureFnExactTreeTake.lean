/- TreeTake answers as the reference does, for every tree that is told and every item, owns its answer and writes into no argument. Conditions: none beyond the statement's own bounds. -/
import Derived.Test.YtenlceojmjkbkaaGreatBridgeFnExactTreeTake
namespace Go.Proofs.YtenlceojmjkbkaaGreat.Pure
open Go.RowKit Go.Proofs.YtenlceojmjkbkaaGreat.XFnExactTreeTake Go.Proofs.YtenlceojmjkbkaaGreat.BridgeFnExactTreeTake Go.Proofs.YtenlceojmjkbkaaGreatW.PrintWords Go.Proofs.YtenlceojmjkbkaaGreatW.PrintLast Go.Proofs.YtenlceojmjkbkaaGreatW.PrintMore
set_option linter.unusedVariables false
set_option linter.unusedSimpArgs false

theorem rd81 (xs : List S81) (i : Nat) (h : i < xs.length) : rd_T81 xs (i : Int) = xs[i] := by
  unfold rd_T81
  rw [Int.toNat_natCast, List.getD_eq_getElem?_getD, List.getElem?_eq_getElem h]
  rfl

theorem rd46 (xs : List S46) (i : Nat) (h : i < xs.length) : rd_T46 xs (i : Int) = xs[i] := by
  unfold rd_T46
  rw [Int.toNat_natCast, List.getD_eq_getElem?_getD, List.getElem?_eq_getElem h]
  rfl

theorem rd35 (xs : List S35) (i : Nat) (h : i < xs.length) : rd_T35 xs (i : Int) = xs[i] := by
  unfold rd_T35
  rw [Int.toNat_natCast, List.getD_eq_getElem?_getD, List.getElem?_eq_getElem h]
  rfl

theorem w64 (x : Int) : IntKind.u64.wrap x = x % 18446744073709551616 := by simp [IntKind.wrap, IntKind.bits, IntKind.signed]
/-- The two words of a wide number's value. -/
def hiW (v : Int) : Int := v / 18446744073709551616
def loW (v : Int) : Int := v % 18446744073709551616
theorem hi_of (a b : Int) (h0 : 0 ≤ b) (h1 : b < 18446744073709551616) : hiW (a * 18446744073709551616 + b) = a := by unfold hiW; omega
theorem lo_of (a b : Int) (h0 : 0 ≤ b) (h1 : b < 18446744073709551616) : loW (a * 18446744073709551616 + b) = b := by unfold loW; omega
theorem val_of (a b : Int) (ha0 : 0 ≤ a) (ha1 : a < 18446744073709551616) (hb0 : 0 ≤ b) (hb1 : b < 18446744073709551616) : 0 ≤ a * 18446744073709551616 + b ∧ a * 18446744073709551616 + b < 340282366920938463463374607431768211456 := by omega
theorem hiW_range (v : Int) (h0 : 0 ≤ v) (h1 : v < 340282366920938463463374607431768211456) : 0 ≤ hiW v ∧ hiW v < 18446744073709551616 := by unfold hiW; omega
theorem loW_range (v : Int) : 0 ≤ loW v ∧ loW v < 18446744073709551616 := by unfold loW; omega
theorem val_eq (v : Int) : hiW v * 18446744073709551616 + loW v = v := by unfold hiW loW; omega
theorem hiW_zero : hiW 0 = 0 := rfl
theorem loW_zero : loW 0 = 0 := rfl
theorem hiW_small (x : Int) (h0 : 0 ≤ x) (h1 : x < 18446744073709551616) : hiW x = 0 := by unfold hiW; omega
theorem loW_small (x : Int) (h0 : 0 ≤ x) (h1 : x < 18446744073709551616) : loW x = x := by unfold loW; omega
theorem emod_le' (b m : Int) (hb : 0 ≤ b) (hm : 0 < m) : b % m ≤ b := by
  have h1 := Int.emod_def b m
  have h2 := Int.mul_nonneg (Int.le_of_lt hm) (Int.ediv_nonneg hb (Int.le_of_lt hm))
  omega
theorem pow_pos' (j : Nat) : (0 : Int) < 2 ^ j := Int.pow_pos (by decide)
theorem emod_pow_succ (b : Int) (j : Nat) (hb : 0 ≤ b) : b % 2 ^ (j + 1) = b % 2 ^ j + 2 ^ j * (b / 2 ^ j % 2) := by
  obtain ⟨n, rfl⟩ := Int.eq_ofNat_of_zero_le hb
  have h := Nat.mod_mul (a := 2 ^ j) (b := 2) (x := n)
  rw [Int.pow_succ]
  exact_mod_cast h
theorem emod_mul_left (a b m : Int) : (a % m * b) % m = (a * b) % m := by rw [Int.mul_emod, Int.emod_emod, ← Int.mul_emod]

theorem wraps_u64 : ∀ n : Int, 0 ≤ n → n < 2 ^ 64 → IntKind.u64.wrap n = n := fun n h0 h1 => by rw [w64]; omega
theorem and_one (x : Int) (h0 : 0 ≤ x) (h1 : x < 18446744073709551616) : Go.bits .and .u64 x 1 = x % 2 := bits_mask .u64 64 (by decide) wraps_u64 1 (by decide) x h0 (by omega)
theorem and_low (x : Int) (h0 : 0 ≤ x) (h1 : x < 18446744073709551616) : Go.bits .and .u64 x 4294967295 = x % 4294967296 := bits_mask .u64 64 (by decide) wraps_u64 32 (by decide) x h0 (by omega)

theorem mul64_eq (a b : Int) (ha0 : 0 ≤ a) (ha1 : a < 18446744073709551616) (hb0 : 0 ≤ b) (hb1 : b < 18446744073709551616) : bits_Mul64.f a b = some (hiW (a * b), loW (a * b)) := by
  unfold bits_Mul64.f
  rw [and_low a ha0 ha1, and_low b hb0 hb1]
  generalize ea : a / 4294967296 = x1
  generalize ea0 : a % 4294967296 = x0
  generalize eb : b / 4294967296 = y1
  generalize eb0 : b % 4294967296 = y0
  have a_eq : a = x1 * 4294967296 + x0 := by omega
  have b_eq : b = y1 * 4294967296 + y0 := by omega
  have hx1 : 0 ≤ x1 ∧ x1 ≤ 4294967295 := by omega
  have hx0 : 0 ≤ x0 ∧ x0 ≤ 4294967295 := by omega
  have hy1 : 0 ≤ y1 ∧ y1 ≤ 4294967295 := by omega
  have hy0 : 0 ≤ y0 ∧ y0 ≤ 4294967295 := by omega
  have bd : ∀ p q : Int, 0 ≤ p ∧ p ≤ 4294967295 → 0 ≤ q ∧ q ≤ 4294967295 → 0 ≤ p * q ∧ p * q ≤ 18446744065119617025 := fun p q hp hq =>
    ⟨Int.mul_nonneg hp.1 hq.1, Int.le_trans (Int.mul_le_mul hp.2 hq.2 hq.1 (by omega)) (by omega)⟩
  have b11 := bd x1 y1 hx1 hy1
  have b10 := bd x1 y0 hx1 hy0
  have b01 := bd x0 y1 hx0 hy1
  have b00 := bd x0 y0 hx0 hy0
  have prod : a * b = x1 * y1 * 18446744073709551616 + (x1 * y0 + x0 * y1) * 4294967296 + x0 * y0 := by
    rw [a_eq, b_eq, Int.add_mul, Int.mul_add, Int.mul_add]
    have e1 : x1 * 4294967296 * (y1 * 4294967296) = x1 * y1 * 18446744073709551616 := by
      rw [Int.mul_assoc, ← Int.mul_assoc 4294967296, Int.mul_comm 4294967296 y1, Int.mul_assoc y1, ← Int.mul_assoc x1]
      rfl
    have e2 : x1 * 4294967296 * y0 = x1 * y0 * 4294967296 := by rw [Int.mul_assoc, Int.mul_comm 4294967296 y0, ← Int.mul_assoc]
    have e3 : x0 * (y1 * 4294967296) = x0 * y1 * 4294967296 := by rw [← Int.mul_assoc]
    rw [e1, e2, e3, Int.add_mul]
    omega
  have hab : a * b < 340282366920938463463374607431768211456 := by
    have h2 : a * b ≤ a * 18446744073709551615 := Int.mul_le_mul_of_nonneg_left (by omega) ha0
    omega
  rw [prod] at hab
  rw [prod]
  generalize x1 * y1 = p11 at *
  generalize x1 * y0 = p10 at *
  generalize x0 * y1 = p01 at *
  generalize x0 * y0 = p00 at *
  simp only [w64]
  have m11 : p11 % 18446744073709551616 = p11 := Int.emod_eq_of_lt b11.1 (by omega)
  have m10 : p10 % 18446744073709551616 = p10 := Int.emod_eq_of_lt b10.1 (by omega)
  have m01 : p01 % 18446744073709551616 = p01 := Int.emod_eq_of_lt b01.1 (by omega)
  have m00 : p00 % 18446744073709551616 = p00 := Int.emod_eq_of_lt b00.1 (by omega)
  rw [and_low _ (by omega) (by omega)]
  simp only [m11, m10, m01, m00]
  clear m11 m10 m01 m00 bd prod a_eq b_eq hx1 hx0 hy1 hy0 ea ea0 eb eb0
  have hr : 0 ≤ p00 - p00 / 4294967296 * 4294967296 ∧ p00 - p00 / 4294967296 * 4294967296 < 4294967296 := by omega
  have hqb : 0 ≤ p00 / 4294967296 ∧ p00 / 4294967296 ≤ 4294967294 := by omega
  generalize p00 / 4294967296 = q at *
  have mt : (p10 + q) % 18446744073709551616 = p10 + q := Int.emod_eq_of_lt (by omega) (by omega)
  simp only [mt]
  have ht : 0 ≤ (p10 + q) / 4294967296 ∧ (p10 + q) / 4294967296 ≤ 4294967295 := by omega
  have ht0 : (p10 + q) % 4294967296 = (p10 + q) - (p10 + q) / 4294967296 * 4294967296 ∧ 0 ≤ (p10 + q) % 4294967296 ∧ (p10 + q) % 4294967296 < 4294967296 := by omega
  generalize (p10 + q) / 4294967296 = t1 at *
  generalize (p10 + q) % 4294967296 = t0 at *
  have mw : (t0 + p01) % 18446744073709551616 = t0 + p01 := Int.emod_eq_of_lt (by omega) (by omega)
  simp only [mw]
  have hw1 : 0 ≤ (t0 + p01) / 4294967296 ∧ (t0 + p01) / 4294967296 ≤ 4294967295 := by omega
  have hw0 : 0 ≤ (t0 + p01) - (t0 + p01) / 4294967296 * 4294967296 ∧ (t0 + p01) - (t0 + p01) / 4294967296 * 4294967296 < 4294967296 := by omega
  generalize (t0 + p01) / 4294967296 = w1 at *
  have total : p11 * 18446744073709551616 + (p10 + p01) * 4294967296 + p00 = (p11 + t1 + w1) * 18446744073709551616 + ((t0 + p01 - w1 * 4294967296) * 4294967296 + (p00 - q * 4294967296)) := by omega
  have low : 0 ≤ (t0 + p01 - w1 * 4294967296) * 4294967296 + (p00 - q * 4294967296) ∧ (t0 + p01 - w1 * 4294967296) * 4294967296 + (p00 - q * 4294967296) < 18446744073709551616 := by omega
  rw [total]
  rw [total] at hab
  clear total
  generalize (t0 + p01 - w1 * 4294967296) * 4294967296 + (p00 - q * 4294967296) = z at *
  have hS : p11 + t1 + w1 < 18446744073709551616 := by omega
  have hS1 : (p11 + t1) % 18446744073709551616 = p11 + t1 := Int.emod_eq_of_lt (by omega) (by omega)
  have hS2 : (p11 + t1 + w1) % 18446744073709551616 = p11 + t1 + w1 := Int.emod_eq_of_lt (by omega) hS
  have hD : ((p11 + t1 + w1) * 18446744073709551616 + z) / 18446744073709551616 = p11 + t1 + w1 := by
    rw [Int.add_comm, Int.add_mul_ediv_right _ _ (by decide), Int.ediv_eq_zero_of_lt low.1 low.2, Int.zero_add]
  unfold hiW loW
  rw [hS1, hS2, hD]
theorem impl_mul_eq (a b : Int) (ha0 : 0 ≤ a) (ha1 : a < 18446744073709551616) (hb0 : 0 ≤ b) (hb1 : b < 18446744073709551616) : impl_WideMul.f a b = some (hiW (a * b), loW (a * b)) := by
  unfold impl_WideMul.f
  rw [mul64_eq a b ha0 ha1 hb0 hb1]
  rfl
/-- -1, 0, 1. -/
def cmpInt (x y : Int) : Int := if x < y then -1 else if y < x then 1 else 0

theorem or_eq (x y : Int) (k : Nat) (hk : 3 < k) : cmp_Or_int.f k ([x, y] : List Int) = some (if x = 0 then y else x) := by
  obtain ⟨k, rfl⟩ : ∃ m, k = m + 4 := ⟨k - 4, by omega⟩
  unfold cmp_Or_int.f
  by_cases hx : x = 0
  · by_cases hy : y = 0
    · simp [cmp_Or_int.l0, rd, wrap64, hx, hy]
    · simp [cmp_Or_int.l0, rd, wrap64, hx, hy]
  · simp [cmp_Or_int.l0, rd, wrap64, hx]
theorem cmpu_eq (x y : Int) : cmp_Compare_uint64.f x y = some (cmpInt x y) := by
  unfold cmp_Compare_uint64.f cmpInt
  by_cases h1 : x < y
  · simp [cmp_isNaN_uint64.f, h1]
  · by_cases h2 : y < x
    · simp [cmp_isNaN_uint64.f, h1, h2]
    · simp [cmp_isNaN_uint64.f, h1, h2]
theorem impl_cmp_eq (v u : Int) (k : Nat) (hk : 3 < k) : impl_WideCmp.f k (hiW v) (loW v) (hiW u) (loW u) = some (cmpInt v u) := by
  unfold impl_WideCmp.f
  rw [cmpu_eq, cmpu_eq]
  simp only [Option.bind_some]
  rw [or_eq _ _ k hk]
  have r1 := loW_range v
  have r2 := loW_range u
  have e1 := val_eq v
  have e2 := val_eq u
  unfold cmpInt
  generalize hiW v = a at *
  generalize loW v = b at *
  generalize hiW u = c at *
  generalize loW u = d at *
  simp only [Option.bind_some, Option.some.injEq]
  (repeat' split) <;> first | rfl | (exfalso; omega)

theorem product_eq (a b : Int) (ha : 0 ≤ a ∧ a < 18446744073709551616) (hb : 0 ≤ b ∧ b < 18446744073709551616) : impl_product.f a b = some (hiW (a * b), loW (a * b)) := by
  unfold impl_product.f
  simp only [w64]
  rw [Int.emod_eq_of_lt ha.1 ha.2, Int.emod_eq_of_lt hb.1 hb.2, impl_mul_eq a b ha.1 ha.2 hb.1 hb.2]
  rfl
theorem pairs_eq (a b c d : Int) (k : Nat) (hk : 3 < k) (ha : 0 ≤ a ∧ a < 18446744073709551616) (hb : 0 ≤ b ∧ b < 18446744073709551616) (hc : 0 ≤ c ∧ c < 18446744073709551616) (hd : 0 ≤ d ∧ d < 18446744073709551616) : impl_comparePairs.f k a b c d = some (cmpInt (a * b) (c * d)) := by
  unfold impl_comparePairs.f
  rw [product_eq a b ha hb, product_eq c d hc hd]
  simp only [Option.bind_some]
  rw [impl_cmp_eq _ _ k hk]
  rfl
def okI (a b c : Int) : Bool := decide (1 ≤ a ∧ a ≤ 1000000) && (decide (0 ≤ b ∧ b ≤ 1125899906842624) && decide (1 ≤ c ∧ c ≤ 1073741824))

theorem cmpi_eq (x y : Int) : cmp_Compare_int64.f x y = some (cmpInt x y) := by
  unfold cmp_Compare_int64.f cmpInt
  by_cases h1 : x < y
  · simp [cmp_isNaN_int64.f, h1]
  · by_cases h2 : y < x
    · simp [cmp_isNaN_int64.f, h1, h2]
    · simp [cmp_isNaN_int64.f, h1, h2]
theorem ok_bounds {a b c : Int} (h : okI a b c = true) : (1 ≤ a ∧ a ≤ 1000000) ∧ (0 ≤ b ∧ b < 18446744073709551616) ∧ (0 ≤ c ∧ c < 18446744073709551616) ∧ 1 ≤ c := by
  simp [okI] at h
  omega
theorem order_eq (a b c d e f : Int) (k : Nat) (hk : 3 < k) (h1 : okI a b c = true) (h2 : okI d e f = true) : impl_Item_order.f k a b c d e f = some (if cmpInt (b * f) (e * c) = 0 then cmpInt a d else cmpInt (b * f) (e * c)) := by
  obtain ⟨_, hb, hc, _⟩ := ok_bounds h1
  obtain ⟨_, he, hf, _⟩ := ok_bounds h2
  unfold impl_Item_order.f
  rw [pairs_eq b f e c k hk hb hf he hc, cmpi_eq]
  simp only [Option.bind_some]
  rw [or_eq _ _ k hk]
  rfl

theorem wrap_small {x : Int} (h0 : -9223372036854775808 ≤ x) (h1 : x ≤ 9223372036854775807) : wrap64 x = x := by
  unfold wrap64
  omega
theorem i64_range {x : Int} (h : (Lit.int .i64 x).wf = true) : -9223372036854775808 ≤ x ∧ x ≤ 9223372036854775807 := by
  simp [Lit.wf, IntKind.min, IntKind.max, IntKind.bits, IntKind.signed] at h
  omega
theorem u64_range {x : Int} (h : (Lit.int .u64 x).wf = true) : 0 ≤ x ∧ x < 18446744073709551616 := by
  simp [Lit.wf, IntKind.min, IntKind.max, IntKind.bits, IntKind.signed] at h
  omega

theorem in_eq (a b c : Int) : impl_in.f a b c = some (decide (b ≤ a ∧ a ≤ c)) := by
  unfold impl_in.f
  by_cases h : b ≤ a <;> simp [h]

theorem isId_eq (a : Int) : impl_isId.f a = some (decide (1 ≤ a ∧ a ≤ 1000000)) := by simp [impl_isId.f, in_eq]
theorem isWant_eq (a : Int) : impl_isWant.f a = some (decide (0 ≤ a ∧ a ≤ 1125899906842624)) := by simp [impl_isWant.f, in_eq]
theorem l02Id_eq (a : Int) : spec_l02Id.f a = some (decide (1 ≤ a ∧ a ≤ 1000000)) := by
  unfold spec_l02Id.f
  by_cases h : a ≥ 1
  · rw [if_pos h]; simp; omega
  · rw [if_neg h]; simp; omega
theorem l02Want_eq (a : Int) : spec_l02Want.f a = some (decide (0 ≤ a ∧ a ≤ 1125899906842624)) := by
  unfold spec_l02Want.f
  by_cases h : a ≥ 0
  · rw [if_pos h]; simp; omega
  · rw [if_neg h]; simp; omega

theorem isWeight_eq (a : Int) : impl_isWeight.f a = some (decide (1 ≤ a ∧ a ≤ 1073741824)) := by simp [impl_isWeight.f, in_eq]
theorem l02Weight_eq (a : Int) : spec_l02Weight.f a = some (decide (1 ≤ a ∧ a ≤ 1073741824)) := by
  unfold spec_l02Weight.f
  by_cases h : a ≥ 1
  · rw [if_pos h]; simp; omega
  · rw [if_neg h]; simp; omega

/-- A right Item. -/
theorem spec_item_eq (a b c : Int) : spec_ItemRight.f a b c = some (okI a b c) := by
  unfold spec_ItemRight.f okI
  rw [l02Id_eq, l02Want_eq, l02Weight_eq]
  by_cases h1 : 1 ≤ a ∧ a ≤ 1000000 <;> by_cases h2 : 0 ≤ b ∧ b ≤ 1125899906842624 <;> simp [h1, h2]
theorem impl_item_eq (a b c : Int) : impl_ItemRight.f a b c = some (okI a b c) := by
  unfold impl_ItemRight.f okI
  rw [isId_eq, isWant_eq, isWeight_eq]
  by_cases h1 : 1 ≤ a ∧ a ≤ 1000000 <;> by_cases h2 : 0 ≤ b ∧ b ≤ 1125899906842624 <;> simp [h1, h2]

theorem set_fill {α β : Type} (l : List α) (f : α → β) (z : β) (i : Nat) (h : i < l.length) : ((l.take i).map f ++ List.replicate (l.length - i) z).set i (f l[i]) = (l.take (i + 1)).map f ++ List.replicate (l.length - (i + 1)) z := by
  have e : l.length - i = (l.length - (i + 1)) + 1 := by omega
  have hl : ((l.take i).map f).length = i := by simp; omega
  rw [e, List.replicate_succ, List.set_append_right i (f l[i]) (by omega), hl, Nat.sub_self, List.set_cons_zero, List.take_succ_eq_append_getElem h, List.map_append]
  simp
theorem succ_cast (i : Nat) (h : i < 9223372036854775807) : wrap64 ((i : Int) + 1) = ((i + 1 : Nat) : Int) := by
  rw [wrap_small (by omega) (by omega)]
  omega

theorem pred_cast (i : Nat) (h : 0 < i) (h2 : i < 9223372036854775807) : wrap64 ((i : Int) - 1) = ((i - 1 : Nat) : Int) := by
  rw [wrap_small (by omega) (by omega)]
  omega

theorem wide_add (v u : Int) (hv0 : 0 ≤ v) (hv1 : v < 340282366920938463463374607431768211456) (hu0 : 0 ≤ u) (hu1 : u < 340282366920938463463374607431768211456) : spec_WideAdd.f (hiW v) (loW v) (hiW u) (loW u) = some (hiW ((v + u) % 340282366920938463463374607431768211456), loW ((v + u) % 340282366920938463463374607431768211456), decide (340282366920938463463374607431768211456 ≤ v + u), 0) := by
  unfold spec_WideAdd.f hiW loW
  simp only [w64]
  by_cases c1 : (v % 18446744073709551616 + u % 18446744073709551616) % 18446744073709551616 < v % 18446744073709551616
  · rw [if_pos c1]
    by_cases c2 : (v / 18446744073709551616 + u / 18446744073709551616) % 18446744073709551616 < v / 18446744073709551616
    · rw [if_pos c2]
      simp only [Option.some.injEq, Prod.mk.injEq]
      exact ⟨by omega, by omega, (decide_eq_true (by omega)).symm, trivial⟩
    · rw [if_neg c2]
      simp only [Option.some.injEq, Prod.mk.injEq]
      exact ⟨by omega, by omega, decide_eq_decide.2 (by omega), trivial⟩
  · rw [if_neg c1]
    by_cases c2 : (v / 18446744073709551616 + u / 18446744073709551616) % 18446744073709551616 < v / 18446744073709551616
    · rw [if_pos c2]
      simp only [Option.some.injEq, Prod.mk.injEq]
      exact ⟨by omega, by omega, (decide_eq_true (by omega)).symm, trivial⟩
    · rw [if_neg c2]
      simp only [Option.some.injEq, Prod.mk.injEq]
      exact ⟨by omega, by omega, decide_eq_decide.2 (by omega), trivial⟩

theorem wide_shl_loop : ∀ (n k : Nat) (v : Int), n < k → n ≤ 127 → 0 ≤ v → v < 340282366920938463463374607431768211456 → spec_WideShl.l0 k (n : Int) (hiW v) (loW v) = some (hiW (v * 2 ^ n % 340282366920938463463374607431768211456), loW (v * 2 ^ n % 340282366920938463463374607431768211456)) := by
  intro n
  induction n with
  | zero =>
    intro k v hk _ h0 h1
    obtain ⟨k, rfl⟩ : ∃ m, k = m + 1 := ⟨k - 1, by omega⟩
    simp only [spec_WideShl.l0]
    rw [if_neg (by omega), show v * 2 ^ 0 % 340282366920938463463374607431768211456 = v by omega]
  | succ n ih =>
    intro k v hk hn h0 h1
    obtain ⟨k, rfl⟩ : ∃ m, k = m + 1 := ⟨k - 1, by omega⟩
    simp only [spec_WideShl.l0]
    rw [if_pos (by omega), wide_add v v h0 h1 h0 h1]
    simp only [Option.bind_some]
    rw [show wrap64 (((n + 1 : Nat) : Int) - 1) = (n : Int) by unfold wrap64; omega, ih k _ (by omega) (by omega) (by omega) (by omega), emod_mul_left, show (v + v) * 2 ^ n = v * 2 ^ (n + 1) by rw [Int.pow_succ, ← Int.mul_assoc, Int.add_mul]; omega]
theorem wide_shl (n k : Nat) (v : Int) (hk : n + 1 < k) (hn : n ≤ 127) (h0 : 0 ≤ v) (h1 : v < 340282366920938463463374607431768211456) : spec_WideShl.f k (hiW v) (loW v) (n : Int) = some (hiW (v * 2 ^ n % 340282366920938463463374607431768211456), loW (v * 2 ^ n % 340282366920938463463374607431768211456)) := by
  obtain ⟨k, rfl⟩ : ∃ m, k = m + 1 := ⟨k - 1, by omega⟩
  unfold spec_WideShl.f
  rw [if_neg (by omega)]
  have hd : decide ((n : Int) > 127) = false := decide_eq_false (by omega)
  simp only [spec_WideShl.j0, hd]
  exact wide_shl_loop n k v (by omega) hn h0 h1
theorem wide_shl_out (n : Int) (k : Nat) (a b : Int) (hk : 0 < k) (hn : n < 0 ∨ 127 < n) : spec_WideShl.f k a b n = some (0, 0) := by
  obtain ⟨k, rfl⟩ : ∃ m, k = m + 1 := ⟨k - 1, by omega⟩
  unfold spec_WideShl.f
  by_cases h : n < 0
  · rw [if_pos h]; simp only [spec_WideShl.j0, if_true]
  · rw [if_neg h]
    have hd : decide (n > 127) = true := decide_eq_true (by omega)
    simp only [spec_WideShl.j0, hd, if_true]

theorem wide_mul_loop (a b : Int) (ha0 : 0 ≤ a) (ha1 : a < 18446744073709551616) (hb0 : 0 ≤ b) (hb1 : b < 18446744073709551616) : ∀ (d j k : Nat), 64 - j = d → j ≤ 64 → d + 130 < k → spec_WideMul.l0 k a b (j : Int) (hiW (a * (b % 2 ^ j))) (loW (a * (b % 2 ^ j))) = some (hiW (a * b), loW (a * b)) := by
  intro d
  induction d with
  | zero =>
    intro j k hd hj hk
    obtain ⟨k, rfl⟩ : ∃ m, k = m + 1 := ⟨k - 1, by omega⟩
    obtain rfl : j = 64 := by omega
    simp only [spec_WideMul.l0]
    rw [if_neg (by omega), show b % 2 ^ 64 = b by omega]
  | succ d ih =>
    intro j k hd hj hk
    obtain ⟨k, rfl⟩ : ∃ m, k = m + 1 := ⟨k - 1, by omega⟩
    have a1 : (j : Int) < 64 := by omega
    have a2 : (0 : Int) ≤ (j : Int) := by omega
    have ej : wrap64 ((j : Int) + 1) = ((j + 1 : Nat) : Int) := by unfold wrap64; omega
    have hw : IntKind.u64.wrap (j : Int) = j := by rw [w64]; omega
    have nxt := ih (j + 1) k (by omega) (by omega) (by omega)
    have hk2 : j + 1 < k := by omega
    have hj2 : j ≤ 127 := by omega
    have hp := pow_pos' j
    have hsh : shr .u64 b (j : Int) = b / 2 ^ j := by
      unfold shr
      rw [show min (j : Int).toNat (IntKind.bits .u64) = j by simp [IntKind.bits]; omega]
    have hq0 : 0 ≤ b / 2 ^ j := Int.ediv_nonneg hb0 (Int.le_of_lt hp)
    have hq1 : b / 2 ^ j < 18446744073709551616 := Int.lt_of_le_of_lt (Int.ediv_le_self _ hb0) hb1
    have hm0 : 0 ≤ b % 2 ^ j := Int.emod_nonneg _ (Int.ne_of_gt hp)
    have hm1 : b % 2 ^ j ≤ b := emod_le' b _ hb0 hp
    have step := emod_pow_succ b j hb0
    have hm2 : b % 2 ^ (j + 1) ≤ b := emod_le' b _ hb0 (pow_pos' _)
    have hm3 : 0 ≤ b % 2 ^ (j + 1) := Int.emod_nonneg _ (Int.ne_of_gt (pow_pos' _))
    have s := wide_shl j k a hk2 hj2 ha0 (by omega)
    rw [hiW_small a ha0 ha1, loW_small a ha0 ha1] at s
    simp only [spec_WideMul.l0, hw, a1, a2, if_true, hsh, and_one _ hq0 hq1, ej]
    clear hw ej hsh ih hk hk2 hj2 a1 a2 hd hj
    generalize hP : (2 : Int) ^ j = P at *
    generalize hP2 : b % 2 ^ (j + 1) = B at *
    generalize hB0 : b % P = C at *
    generalize hB1 : b / P = D at *
    by_cases hbit : D % 2 = 1
    · rw [if_pos hbit]
      rw [hbit, Int.mul_one] at step
      have bd : ∀ x : Int, 0 ≤ x → x ≤ b → 0 ≤ a * x ∧ a * x < 340282366920938463463374607431768211456 := fun x h0 h1 => by
        have h2 : a * x ≤ a * 18446744073709551615 := Int.mul_le_mul_of_nonneg_left (by omega) ha0
        have h3 := Int.mul_nonneg ha0 h0
        exact ⟨h3, by omega⟩
      have b1 := bd P (Int.le_of_lt hp) (by omega)
      have b2 := bd C hm0 hm1
      have b3 := bd B hm3 hm2
      have hsum : a * C + a * P = a * B := by rw [step, Int.mul_add]
      rw [Int.emod_eq_of_lt b1.1 b1.2] at s
      rw [s]
      simp only [Option.bind_some]
      rw [wide_add _ _ b2.1 b2.2 b1.1 b1.2]
      simp only [Option.bind_some]
      rw [hsum, Int.emod_eq_of_lt b3.1 b3.2]
      exact nxt
    · rw [if_neg hbit]
      have h0 : D % 2 = 0 := by omega
      rw [h0, Int.mul_zero, Int.add_zero] at step
      rw [← step]
      exact nxt
theorem wide_mul (a b : Int) (k : Nat) (hk : 200 < k) (ha0 : 0 ≤ a) (ha1 : a < 18446744073709551616) (hb0 : 0 ≤ b) (hb1 : b < 18446744073709551616) : spec_WideMul.f k a b = some (hiW (a * b), loW (a * b)) := by
  have h := wide_mul_loop a b ha0 ha1 hb0 hb1 64 0 k (by omega) (by omega) (by omega)
  have e : a * (b % 2 ^ 0) = 0 := by simp
  rw [e] at h
  exact h

theorem spec_cmp_eq (v u : Int) : spec_WideCmp.f (hiW v) (loW v) (hiW u) (loW u) = some (cmpInt v u) := by
  have r1 := loW_range v
  have r2 := loW_range u
  have e1 := val_eq v
  have e2 := val_eq u
  unfold spec_WideCmp.f cmpInt
  generalize hiW v = a at *
  generalize loW v = b at *
  generalize hiW u = c at *
  generalize loW u = d at *
  (repeat' split) <;> first | rfl | (exfalso; omega)

theorem times_eq (a b c d : Int) (k : Nat) (hk : 200 < k) (ha : 0 ≤ a ∧ a < 18446744073709551616) (hb : 0 ≤ b ∧ b < 18446744073709551616) (hc : 0 ≤ c ∧ c < 18446744073709551616) (hd : 0 ≤ d ∧ d < 18446744073709551616) : spec_l02Times.f k a b c d = some (cmpInt (a * b) (c * d)) := by
  unfold spec_l02Times.f
  simp only [w64]
  rw [Int.emod_eq_of_lt ha.1 ha.2, Int.emod_eq_of_lt hb.1 hb.2, Int.emod_eq_of_lt hc.1 hc.2, Int.emod_eq_of_lt hd.1 hd.2, wide_mul a b k hk ha.1 ha.2 hb.1 hb.2, wide_mul c d k hk hc.1 hc.2 hd.1 hd.2]
  simp only [Option.bind_some]
  rw [spec_cmp_eq]
  rfl

/-- What RatioCmp tells. -/
def ratioCmp (a b c d e f : Int) : Int := if okI a b c && okI d e f then (if cmpInt (b * f) (e * c) = 0 then cmpInt a d else cmpInt (b * f) (e * c)) else 0
theorem spec_ratio_eq (a b c d e f : Int) (k : Nat) (hk : 201 < k) : spec_RatioCmp.f k a b c d e f = some (ratioCmp a b c d e f) := by
  obtain ⟨k, rfl⟩ : ∃ m, k = m + 1 := ⟨k - 1, by omega⟩
  unfold spec_RatioCmp.f ratioCmp
  rw [spec_item_eq, spec_item_eq]
  simp only [Option.bind_some]
  cases h1 : okI a b c with
  | false => simp [spec_RatioCmp.j0]
  | true =>
    cases h2 : okI d e f with
    | false => simp [spec_RatioCmp.j0]
    | true =>
      obtain ⟨_, hb, hc, _⟩ := ok_bounds h1
      obtain ⟨_, he, hf, _⟩ := ok_bounds h2
      simp only [spec_RatioCmp.j0, if_true, Bool.not_true, Bool.and_self]
      rw [times_eq b f e c k (by omega) hb hf he hc]
      simp only [Option.bind_some]
      by_cases hz : cmpInt (b * f) (e * c) = 0
      · rw [if_pos hz, if_pos hz]
        unfold cmpInt
        (repeat' split) <;> first | rfl | simp_all | (exfalso; omega)
      · rw [if_neg hz, if_neg hz]
        rfl

/-! ### Both sorts -/
def lts (x y : S35) : Prop := x.f1 * y.f2 < y.f1 * x.f2 ∨ x.f1 * y.f2 = y.f1 * x.f2 ∧ x.f0 < y.f0
def OkS (x : S35) : Prop := okI x.f0 x.f1 x.f2 = true
theorem lts_asymm {x y : S35} (h : lts x y) : ¬ lts y x := by
  unfold lts at *
  generalize x.f1 * y.f2 = p at *
  generalize y.f1 * x.f2 = q at *
  omega
theorem lts_total {x y : S35} (hne : x.f0 ≠ y.f0) (h : ¬ lts x y) : lts y x := by
  unfold lts at *
  generalize x.f1 * y.f2 = p at *
  generalize y.f1 * x.f2 = q at *
  omega
theorem cmp_lts {x y : S35} (hx : OkS x) (hy : OkS y) (k : Nat) (hk : 201 < k) : ∃ v, spec_RatioCmp.f k x.f0 x.f1 x.f2 y.f0 y.f1 y.f2 = some v ∧ (v < 0 ↔ lts x y) := by
  refine ⟨_, spec_ratio_eq x.f0 x.f1 x.f2 y.f0 y.f1 y.f2 k hk, ?_⟩
  unfold OkS at hx hy
  unfold ratioCmp lts cmpInt
  rw [hx, hy]
  generalize x.f1 * y.f2 = p
  generalize y.f1 * x.f2 = q
  simp only [Bool.and_self, if_true]
  constructor
  · intro h
    (repeat' split at h) <;> omega
  · intro h
    (repeat' split) <;> omega
def Good (l : List S35) : Prop := (∀ x ∈ l, OkS x) ∧ l.Pairwise (fun x y => x.f0 ≠ y.f0)
/-! The program's test. -/
def itemAt (l : List S35) (j : Nat) : Prop := okI (rd_T35 l j).f0 (rd_T35 l j).f1 (rd_T35 l j).f2 = true ∧ (0 < j → (rd_T35 l ((j - 1 : Nat) : Int)).f0 < (rd_T35 l j).f0)
theorem items_loop (l : List S35) (hl : l.length < 9223372036854775807) : ∀ (d i : Nat), l.length - i = d → i ≤ l.length → ∃ b : Bool, (b = true ↔ ∀ j : Nat, i ≤ j → j < l.length → itemAt l j) ∧ ∀ k, d < k → impl_ItemsRight.l0 k l l (l.length : Int) (i : Int) = some (b && decide ((l.length : Int) ≤ 60)) := by
  intro d
  induction d with
  | zero =>
    intro i hd hi
    refine ⟨true, ⟨fun _ j h1 h2 => by omega, fun _ => rfl⟩, fun k hk => ?_⟩
    obtain ⟨k, rfl⟩ : ∃ m, k = m + 1 := ⟨k - 1, by omega⟩
    simp only [impl_ItemsRight.l0]; rw [if_neg (by omega)]; simp
  | succ d ih =>
    intro i hd hi
    obtain ⟨b, hbm, hb⟩ := ih (i + 1) (by omega) (by omega)
    have a1 : (i : Int) < (l.length : Int) := by omega
    have a2 : (0 : Int) ≤ (i : Int) := by omega
    have more : ∀ P : Prop, (itemAt l i ↔ P) → ((∀ j : Nat, i ≤ j → j < l.length → itemAt l j) ↔ P ∧ ∀ j : Nat, i + 1 ≤ j → j < l.length → itemAt l j) := fun P hP =>
      ⟨fun h => ⟨hP.1 (h i (Nat.le_refl _) (by omega)), fun j h1 h2 => h j (by omega) h2⟩, fun ⟨hp, h⟩ j h1 h2 => by
        by_cases hj : j = i
        · rw [hj]; exact hP.2 hp
        · exact h j (by omega) h2⟩
    by_cases h : okI (rd_T35 l i).f0 (rd_T35 l i).f1 (rd_T35 l i).f2 = true
    · by_cases h0 : (i : Int) > 0
      · have a3 : (0 : Int) ≤ ((i - 1 : Nat) : Int) := by omega
        have a4 : ((i - 1 : Nat) : Int) < (l.length : Int) := by omega
        by_cases hc : (rd_T35 l ((i - 1 : Nat) : Int)).f0 ≥ (rd_T35 l i).f0
        · refine ⟨false, ⟨(fun h => by cases h), fun hh => ?_⟩, fun k hk => ?_⟩
          · have := (hh i (Nat.le_refl _) (by omega)).2 (by omega)
            omega
          obtain ⟨k, rfl⟩ : ∃ m, k = m + 1 := ⟨k - 1, by omega⟩
          simp only [impl_ItemsRight.l0, a1, a2, if_true, impl_item_eq, Option.bind_some, h, h0, pred_cast i (by omega) (by omega), a3, a4, hc]
          simp
        · refine ⟨b, (hbm.trans ((more True ⟨fun _ => trivial, fun _ => ⟨h, fun _ => by omega⟩⟩).trans (by simp)).symm), fun k hk => ?_⟩
          obtain ⟨k, rfl⟩ : ∃ m, k = m + 1 := ⟨k - 1, by omega⟩
          have h2 := hb k (by omega)
          simp only [impl_ItemsRight.l0, a1, a2, if_true, impl_item_eq, Option.bind_some, h, h0, pred_cast i (by omega) (by omega), a3, a4, hc, if_false, succ_cast i (by omega), h2]
      · refine ⟨b, (hbm.trans ((more True ⟨fun _ => trivial, fun _ => ⟨h, fun h => absurd h (by omega)⟩⟩).trans (by simp)).symm), fun k hk => ?_⟩
        obtain ⟨k, rfl⟩ : ∃ m, k = m + 1 := ⟨k - 1, by omega⟩
        have h2 := hb k (by omega)
        simp only [impl_ItemsRight.l0, a1, a2, if_true, impl_item_eq, Option.bind_some, h, h0, if_false, succ_cast i (by omega), h2]
    · refine ⟨false, ⟨(fun h => by cases h), fun hh => absurd (hh i (Nat.le_refl _) (by omega)).1 h⟩, fun k hk => ?_⟩
      obtain ⟨k, rfl⟩ : ∃ m, k = m + 1 := ⟨k - 1, by omega⟩
      simp only [impl_ItemsRight.l0, a1, a2, if_true, impl_item_eq, Option.bind_some, h]
      simp
theorem sort_perm {α : Type} [Inhabited α] (cf : α → α → Int) (hO : Sort.SWO (ltOf cf)) (l : List α) : (sortL cf l).Perm l := by
  have h := (sortL_facts cf hO l).1
  have hs := h.1
  have hp := h.2.2
  rw [List.size_toArray] at hs
  have e1 : ∀ d : Array α, d.size = l.length → d.extract 0 l.toArray.size = d := fun d hd => by
    rw [List.size_toArray, ← hd]; simp
  rw [e1 _ hs, e1 _ (by simp)] at hp
  exact hp
theorem sort_sorted {α : Type} [Inhabited α] (cf : α → α → Int) (hO : Sort.SWO (ltOf cf)) (l : List α) : (sortL cf l).Pairwise (fun x y => ltOf cf y x = false) := by
  have h := (sortL_facts cf hO l).2
  have hs := (sortL_facts cf hO l).1.1
  rw [List.pairwise_iff_getElem]
  intro i j hi hj hij
  unfold sortL at hi hj ⊢
  rw [Array.length_toList] at hi hj
  have := h i j (Nat.zero_le _) hij (by rw [← hs]; exact hj)
  rw [getElem!_pos _ j hj, getElem!_pos _ i hi] at this
  simpa using this
theorem items_good (l : List S35) (h60 : l.length ≤ 60) : ∃ b : Bool, (b = true ↔ Good l) ∧ ∀ k, l.length < k → impl_areItems.f k l = some b := by
  have hp := sort_perm cfId swo_id l
  have hso := sort_sorted cfId swo_id l
  have hlen := hp.length_eq
  generalize hS : sortL cfId l = S at hp hso hlen
  obtain ⟨b, hb, hf⟩ := items_loop S (by omega) S.length 0 (by omega) (by omega)
  have pw : S.Pairwise (fun x y => x.f0 ≠ y.f0) ↔ l.Pairwise (fun x y => x.f0 ≠ y.f0) := hp.pairwise_iff (fun h => fun e => h e.symm)
  refine ⟨b, hb.trans ⟨fun h => ⟨fun x hx => ?_, pw.1 ?_⟩, fun ⟨g1, g2⟩ j _ hj => ?_⟩, fun k hk => ?_⟩
  · have hx2 := hp.symm.subset hx
    obtain ⟨j, hj, rfl⟩ := List.mem_iff_getElem.1 hx2
    have := (h j (Nat.zero_le _) hj).1
    rw [rd35 S j hj] at this
    exact this
  · have up : ∀ p q : Nat, p < q → q < S.length → (rd_T35 S (p : Int)).f0 < (rd_T35 S (q : Int)).f0 := by
      intro p q
      induction q with
      | zero => intro h1; omega
      | succ q ih =>
        intro h1 h2
        have h3 := (h (q + 1) (Nat.zero_le _) h2).2 (by omega)
        rw [show q + 1 - 1 = q by omega] at h3
        by_cases hpq : p = q
        · subst hpq; omega
        · have := ih (by omega) (by omega)
          omega
    rw [List.pairwise_iff_getElem]
    intro i j hi hj hij
    have := up i j hij hj
    rw [rd35 S i hi, rd35 S j hj] at this
    omega
  · have g3 := pw.2 g2
    refine ⟨?_, fun h0 => ?_⟩
    · rw [rd35 S j hj]
      exact g1 _ (hp.subset (List.getElem_mem hj))
    · have q1 := List.pairwise_iff_getElem.1 g3 (j - 1) j (by omega) hj (by omega)
      have q2 := List.pairwise_iff_getElem.1 hso (j - 1) j (by omega) hj (by omega)
      rw [ltOf_id] at q2
      have q3 := of_decide_eq_false q2
      rw [rd35 S j hj, rd35 S (j - 1) (by omega)]
      omega
  · unfold impl_areItems.f
    rw [if_neg (by omega), hS]
    unfold impl_ItemsRight.f
    have := hf k (by omega)
    rw [show ((0 : Nat) : Int) = 0 from rfl] at this
    rw [this, decide_eq_true (by omega)]
    simp

def convTwig (x : S81) : S46 := ⟨⟨x.f0.f0, x.f0.f1, x.f0.f2⟩, x.f1⟩
theorem toTwigS_loop (l : List S81) (hl : l.length * 32 ≤ 140737488351232) : ∀ (d k i : Nat), l.length - i = d → i ≤ l.length → d < k → laws_toTwigS.l0 k l ((l.take i).map convTwig ++ List.replicate (l.length - i) z46) (i : Int) = some (l.map convTwig) := by
  intro d
  induction d with
  | zero =>
    intro k i hd hi hk
    obtain ⟨k, rfl⟩ : ∃ m, k = m + 1 := ⟨k - 1, by omega⟩
    obtain rfl : i = l.length := by omega
    simp only [laws_toTwigS.l0]
    rw [if_neg (by omega)]
    simp
  | succ d ih =>
    intro k i hd hi hk
    obtain ⟨k, rfl⟩ : ∃ m, k = m + 1 := ⟨k - 1, by omega⟩
    have hlt : i < l.length := by omega
    simp only [laws_toTwigS.l0]
    rw [if_pos (by omega), if_pos (by omega)]
    simp only [laws_toTwig.f, laws_toItem.f, Option.bind_some, rd81 l i hlt]
    rw [if_pos (by simp; omega), Int.toNat_natCast, succ_cast i (by omega)]
    have e := set_fill l convTwig z46 i hlt
    rw [show (⟨⟨l[i].f0.f0, l[i].f0.f1, l[i].f0.f2⟩, l[i].f1⟩ : S46) = convTwig l[i] from rfl, e]
    exact ih k (i + 1) (by omega) (by omega) (by omega)
theorem toTree_eq (l : List S81) (hl : l.length * 32 ≤ 140737488351232) (k : Nat) (hk : l.length < k) : laws_toTree.f k l = some (l.map convTwig) := by
  unfold laws_toTree.f laws_toTwigS.f
  rw [if_pos (by omega), if_pos (by simp; omega)]
  have h := toTwigS_loop l hl l.length k 0 (by omega) (by omega) hk
  simp only [List.take_zero, List.map_nil, List.nil_append, Nat.sub_zero] at h
  rw [show ((0 : Nat) : Int) = 0 from rfl] at h
  rw [Int.toNat_natCast, h]
  rfl
theorem eqTwigS_loop (l : List S46) (hl : l.length < 9223372036854775807) : ∀ (d k i : Nat), l.length - i = d → i ≤ l.length → d < k → laws_eqTwigS.l0 k l l (i : Int) = some true := by
  intro d
  induction d with
  | zero =>
    intro k i hd hi hk
    obtain ⟨k, rfl⟩ : ∃ m, k = m + 1 := ⟨k - 1, by omega⟩
    simp only [laws_eqTwigS.l0]
    rw [if_neg (by omega)]
  | succ d ih =>
    intro k i hd hi hk
    obtain ⟨k, rfl⟩ : ∃ m, k = m + 1 := ⟨k - 1, by omega⟩
    have hlt : i < l.length := by omega
    have hs : ∀ x : S46, laws_eqTwig.f x.f0.f0 x.f0.f1 x.f0.f2 x.f1 x.f0.f0 x.f0.f1 x.f0.f2 x.f1 = some true := fun x => by simp [laws_eqTwig.f, laws_eqItem.f]
    simp only [laws_eqTwigS.l0]
    rw [if_pos (by omega), if_pos (by omega), if_pos (by omega), hs]
    simp only [Option.bind_some, if_true]
    rw [succ_cast i (by omega)]
    exact ih k (i + 1) (by omega) (by omega) (by omega)
theorem eqTree_same (l : List S46) (hl : l.length < 9223372036854775807) (k : Nat) (hk : l.length < k) : laws_eqTree.f k l l = some true := by
  unfold laws_eqTree.f laws_eqTwigS.f
  rw [if_pos rfl]
  have h := eqTwigS_loop l hl l.length k 0 (by omega) (by omega) hk
  rw [show ((0 : Nat) : Int) = 0 from rfl] at h
  rw [h]
  rfl
theorem szTree_eq (l : List S81) (hl : l.length * 32 ≤ 140737488351232) : laws_szTree.f l 1048576 = some (if l.length ≤ 1048576 then 1048576 - (l.length : Int) else -1) := by
  unfold laws_szTree.f laws_szTwigS.f
  rw [wrap_small (by omega) (by omega)]
  by_cases h : l.length ≤ 1048576
  · rw [if_neg (by omega), if_pos h]
    simp only [Option.bind_some]
    rw [if_neg (by omega)]
  · rw [if_pos (by omega), if_neg h]
    rfl

/-! ### The reference's test of the Lefts -/
theorem trd_more : ∀ (j j' : Nat) (l : List S46), l.length ≤ j → l.length ≤ j' → trd j l = trd j' l
  | 0, j', l, h, _ => by
    obtain rfl : l = [] := List.length_eq_zero_iff.1 (by omega)
    cases j' <;> rfl
  | j + 1, 0, l, _, h => by
    obtain rfl : l = [] := List.length_eq_zero_iff.1 (by omega)
    rfl
  | j + 1, j' + 1, [], _, _ => rfl
  | j + 1, j' + 1, x :: l, h, h' => by
    simp only [List.length_cons] at h h'
    rw [trd, trd]
    split
    · rename_i hc
      rw [trd_more j j' (l.take x.f1.toNat) (by simp; omega) (by simp; omega), trd_more j j' (l.drop x.f1.toNat) (by simp; omega) (by simp; omega)]
    · rfl
theorem shape_eq : ∀ (j : Nat) (l : List S46), l.length ≤ j → l.length ≤ 60 → ∀ k, 2 * l.length + 2 ≤ k → spec_l04Shape.f k l = some (trd j l).2
  | 0, l, h, _, k, hk => by
    obtain rfl : l = [] := List.length_eq_zero_iff.1 (by omega)
    obtain ⟨k, rfl⟩ : ∃ m, k = m + 1 := ⟨k - 1, by omega⟩
    rw [spec_l04Shape.f, if_pos (by rfl)]
    rfl
  | j + 1, [], _, _, k, hk => by
    obtain ⟨k, rfl⟩ : ∃ m, k = m + 1 := ⟨k - 1, by omega⟩
    rw [spec_l04Shape.f, if_pos (by rfl)]
    rfl
  | j + 1, x :: l, h, h60, k, hk => by
    simp only [List.length_cons] at h h60 hk
    obtain ⟨k, rfl⟩ : ∃ m, k = m + 2 := ⟨k - 2, by omega⟩
    have e0 : rd_T46 (x :: l) 0 = x := rfl
    have n0 : ((x :: l).length : Int) = (l.length : Int) + 1 := by simp
    rw [spec_l04Shape.f, if_neg (by omega), if_pos (by omega), e0, trd]
    by_cases c1 : x.f1 < 0
    · rw [if_pos c1, spec_l04Shape.j0, if_pos rfl, if_neg (by omega)]
    · rw [if_neg c1]
      by_cases c2 : x.f1 ≥ ((x :: l).length : Int)
      · rw [decide_eq_true c2, spec_l04Shape.j0, if_pos rfl, if_neg (by omega)]
      · have cc : 0 ≤ x.f1 ∧ x.f1 ≤ l.length := ⟨by omega, by omega⟩
        obtain ⟨n, hn⟩ : ∃ n : Nat, x.f1 = n := ⟨x.f1.toNat, by omega⟩
        have hw : wrap64 (1 + (n : Int)) = ((n + 1 : Nat) : Int) := by unfold wrap64; omega
        rw [decide_eq_false c2, spec_l04Shape.j0, if_neg (by decide), if_pos (by omega), e0, if_pos cc]
        rw [hn] at cc ⊢
        rw [hw, if_pos (by omega), if_pos (by omega), Int.toNat_natCast, Int.toNat_natCast, List.take_succ_cons, List.drop_succ_cons, List.drop_zero, List.drop_succ_cons]
        rw [shape_eq j (l.take n) (by simp; omega) (by simp; omega) k (by simp; omega), Option.bind_some]
        cases h1 : (trd j (l.take n)).2 with
        | false => rw [if_neg (by decide)]; rfl
        | true =>
          rw [if_pos rfl, if_pos (by omega), shape_eq j (l.drop n) (by simp; omega) (by simp; omega) k (by simp; omega), Option.bind_some]
          rfl

/-! ### The reference's loops over the Items -/
def itemBad (l : List S35) (j : Nat) : Prop := okI (rd_T35 l j).f0 (rd_T35 l j).f1 (rd_T35 l j).f2 = true ∧ (0 < j → ratioCmp (rd_T35 l ((j - 1 : Nat) : Int)).f0 (rd_T35 l ((j - 1 : Nat) : Int)).f1 (rd_T35 l ((j - 1 : Nat) : Int)).f2 (rd_T35 l j).f0 (rd_T35 l j).f1 (rd_T35 l j).f2 < 0) ∧ ∀ q : Nat, q < j → (rd_T35 l (q : Int)).f0 ≠ (rd_T35 l (j : Int)).f0
theorem tree_l1 (l : List S35) (ns : List S74) (top : Int) (hl : l.length ≤ 60) (i : Nat) (hi : i < l.length) : ∀ (e j : Nat), i - j = e → j ≤ i → ∃ b : Bool, (b = true ↔ ∀ q : Nat, j ≤ q → q < i → (rd_T35 l (q : Int)).f0 ≠ (rd_T35 l (i : Int)).f0) ∧ ∀ k, spec_TreeRight.l1 (k + e + 1) l (i : Int) (j : Int) ns top = if b = true then spec_TreeRight.l0 k l ((i + 1 : Nat) : Int) ns top else some false := by
  intro e
  induction e with
  | zero =>
    intro j he hj
    obtain rfl : j = i := by omega
    refine ⟨true, ⟨fun _ q h1 h2 => by omega, fun _ => rfl⟩, fun k => ?_⟩
    simp only [Nat.add_zero, spec_TreeRight.l1]
    rw [if_neg (by omega), succ_cast j (by omega)]
    simp
  | succ e ih =>
    intro j he hj
    have a1 : (j : Int) < (i : Int) := by omega
    have a2 : (0 : Int) ≤ (j : Int) := by omega
    have a3 : (j : Int) < (l.length : Int) := by omega
    have a4 : (0 : Int) ≤ (i : Int) := by omega
    have a5 : (i : Int) < (l.length : Int) := by omega
    by_cases h : (rd_T35 l (j : Int)).f0 = (rd_T35 l (i : Int)).f0
    · refine ⟨false, ⟨(fun h => by cases h), fun hh => absurd h (hh j (Nat.le_refl _) (by omega))⟩, fun k => ?_⟩
      rw [spec_TreeRight.l1]
      simp only [a1, a2, a3, a4, a5, if_true, h]
      rfl
    · obtain ⟨b, hb, hk⟩ := ih (j + 1) (by omega) (by omega)
      refine ⟨b, hb.trans ⟨fun hh q h1 h2 => ?_, fun hh q h1 h2 => hh q (by omega) h2⟩, fun k => ?_⟩
      · by_cases hq : q = j
        · rw [hq]; exact h
        · exact hh q (by omega) h2
      · rw [show k + (e + 1) + 1 = (k + e + 1) + 1 by omega, spec_TreeRight.l1]
        simp only [a1, a2, a3, a4, a5, if_true, h, if_false, succ_cast j (by omega)]
        exact hk k
theorem tree_l0 (l : List S35) (ns : List S74) (top : Int) (hl : l.length ≤ 60) (fl : Bool) (r : Int) (hfl : spec_l04Wood_even.f ns top top = some (fl, r)) : ∀ (d i : Nat), l.length - i = d → i ≤ l.length → ∃ b : Bool, (b = true ↔ ∀ j : Nat, i ≤ j → j < l.length → itemBad l j) ∧ ∃ c, c ≤ d * 64 + 1 ∧ ∀ k, 300 < k → spec_TreeRight.l0 (k + c) l (i : Int) ns top = some (b && fl) := by
  intro d
  induction d with
  | zero =>
    intro i hd hi
    refine ⟨true, ⟨fun _ j h1 h2 => by omega, fun _ => rfl⟩, 1, by omega, fun k _ => ?_⟩
    rw [spec_TreeRight.l0, if_neg (by omega), hfl]
    rfl
  | succ d ih =>
    intro i hd hi
    have a1 : (i : Int) < (l.length : Int) := by omega
    have a2 : (0 : Int) ≤ (i : Int) := by omega
    -- what the loop does with the test's answer
    have fin : ∀ (v : Bool), (v = false ↔ okI (rd_T35 l i).f0 (rd_T35 l i).f1 (rd_T35 l i).f2 = true ∧ (0 < i → ratioCmp (rd_T35 l ((i - 1 : Nat) : Int)).f0 (rd_T35 l ((i - 1 : Nat) : Int)).f1 (rd_T35 l ((i - 1 : Nat) : Int)).f2 (rd_T35 l i).f0 (rd_T35 l i).f1 (rd_T35 l i).f2 < 0)) →
        (∀ k, 300 < k → spec_TreeRight.l0 (k + 1) l (i : Int) ns top = spec_TreeRight.j2 k l (i : Int) v ns top) →
        ∃ b : Bool, (b = true ↔ ∀ j : Nat, i ≤ j → j < l.length → itemBad l j) ∧ ∃ c, c ≤ (d + 1) * 64 + 1 ∧ ∀ k, 300 < k → spec_TreeRight.l0 (k + c) l (i : Int) ns top = some (b && fl) := by
      intro v hv hstep
      cases v with
      | true =>
        refine ⟨false, ⟨(fun h => by cases h), fun hh => ?_⟩, 2, by omega, fun k hk => ?_⟩
        · have h1 := hh i (Nat.le_refl _) (by omega)
          have := hv.2 ⟨h1.1, h1.2.1⟩
          cases this
        · rw [show k + 2 = (k + 1) + 1 by omega, hstep (k + 1) (by omega), spec_TreeRight.j2, if_pos rfl]
          rfl
      | false =>
        have hok := hv.1 rfl
        obtain ⟨b1, hb1, hk1⟩ := tree_l1 l ns top hl i (by omega) i 0 (by omega) (by omega)
        cases b1 with
        | false =>
          refine ⟨false, ⟨(fun h => by cases h), fun hh => ?_⟩, i + 3, by omega, fun k hk => ?_⟩
          · have := hb1.2 (fun q _ h2 => (hh i (Nat.le_refl _) (by omega)).2.2 q h2)
            cases this
          · rw [show k + (i + 3) = (k + i + 2) + 1 by omega, hstep _ (by omega), show k + i + 2 = (k + i + 1) + 1 by omega, spec_TreeRight.j2, if_neg (by decide)]
            exact (hk1 k).trans (by simp)
        | true =>
          have hne := hb1.1 rfl
          obtain ⟨b2, hb2, c2, hc2, hk2⟩ := ih (i + 1) (by omega) (by omega)
          refine ⟨b2, hb2.trans ⟨fun hh j h1 h2 => ?_, fun hh j h1 h2 => hh j (by omega) h2⟩, c2 + i + 3, by omega, fun k hk => ?_⟩
          · by_cases hj : j = i
            · rw [hj]; exact ⟨hok.1, hok.2, fun q hq => hne q (Nat.zero_le _) hq⟩
            · exact hh j (by omega) h2
          · rw [show k + (c2 + i + 3) = (k + c2 + i + 2) + 1 by omega, hstep _ (by omega), show k + c2 + i + 2 = ((k + c2) + i + 1) + 1 by omega, spec_TreeRight.j2, if_neg (by decide)]
            refine (hk1 (k + c2)).trans ?_
            rw [if_pos rfl]
            exact hk2 k hk
    by_cases h : okI (rd_T35 l i).f0 (rd_T35 l i).f1 (rd_T35 l i).f2 = true
    · by_cases h0 : (i : Int) > 0
      · have a3 : (0 : Int) ≤ ((i - 1 : Nat) : Int) := by omega
        have a4 : ((i - 1 : Nat) : Int) < (l.length : Int) := by omega
        refine fin (decide (ratioCmp (rd_T35 l ((i - 1 : Nat) : Int)).f0 (rd_T35 l ((i - 1 : Nat) : Int)).f1 (rd_T35 l ((i - 1 : Nat) : Int)).f2 (rd_T35 l i).f0 (rd_T35 l i).f1 (rd_T35 l i).f2 ≥ 0)) ⟨fun hd => ⟨h, fun _ => by have := of_decide_eq_false hd; omega⟩, fun hh => decide_eq_false (by have := hh.2 (by omega); omega)⟩ (fun k hk => ?_)
        rw [spec_TreeRight.l0]
        simp only [a1, a2, if_true, spec_item_eq, Option.bind_some, h, h0, pred_cast i (by omega) (by omega), a3, a4, spec_ratio_eq _ _ _ _ _ _ k (by omega)]
      · refine fin false ⟨fun _ => ⟨h, fun h1 => absurd h1 (by omega)⟩, fun _ => rfl⟩ (fun k hk => ?_)
        rw [spec_TreeRight.l0]
        simp only [a1, a2, if_true, spec_item_eq, Option.bind_some, h, h0, if_false]
    · refine fin true ⟨(fun h => by cases h), fun hh => absurd hh.1 h⟩ (fun k hk => ?_)
      rw [spec_TreeRight.l0]
      simp only [a1, a2, if_true, spec_item_eq, Option.bind_some, h]
      simp

/-! ### Both tests -/
theorem ord_val {x y : S35} (hx : OkS x) (hy : OkS y) : ∃ v, impl_Item_order.f 100 x.f0 x.f1 x.f2 y.f0 y.f1 y.f2 = some v ∧ (v < 0 ↔ lts x y) := by
  refine ⟨_, order_eq x.f0 x.f1 x.f2 y.f0 y.f1 y.f2 100 (by omega) hx hy, ?_⟩
  unfold lts cmpInt
  generalize x.f1 * y.f2 = p
  generalize y.f1 * x.f2 = q
  constructor
  · intro h
    (repeat' split at h) <;> omega
  · intro h
    (repeat' split) <;> omega
theorem ratio_lts {x y : S35} (hx : OkS x) (hy : OkS y) : ratioCmp x.f0 x.f1 x.f2 y.f0 y.f1 y.f2 < 0 ↔ lts x y := by
  unfold OkS at hx hy
  unfold ratioCmp lts cmpInt
  rw [hx, hy]
  generalize x.f1 * y.f2 = p
  generalize y.f1 * x.f2 = q
  simp only [Bool.and_self, if_true]
  constructor
  · intro h
    (repeat' split at h) <;> omega
  · intro h
    (repeat' split) <;> omega
/-- Right Items that rise. -/
def Rise (l : List S35) : Prop := Good l ∧ ∀ (j : Nat) (hj : j + 1 < l.length), lts l[j] l[j + 1]
theorem bad_rise (l : List S35) : (∀ j : Nat, 0 ≤ j → j < l.length → itemBad l j) ↔ Rise l := by
  constructor
  · intro h
    have ok : ∀ x ∈ l, OkS x := fun x hx => by
      obtain ⟨j, hj, rfl⟩ := List.mem_iff_getElem.1 hx
      have := (h j (Nat.zero_le _) hj).1
      rw [rd35 l j hj] at this
      exact this
    refine ⟨⟨ok, List.pairwise_iff_getElem.2 fun q j hq hj hqj => ?_⟩, fun j hj => ?_⟩
    · have := (h j (Nat.zero_le _) hj).2.2 q hqj
      rw [rd35 l j hj, rd35 l q hq] at this
      exact this
    · have := (h (j + 1) (Nat.zero_le _) hj).2.1 (by omega)
      rw [show j + 1 - 1 = j by omega, rd35 l j (by omega), rd35 l (j + 1) hj, ratio_lts (ok _ (List.getElem_mem _)) (ok _ (List.getElem_mem _))] at this
      exact this
  · intro ⟨⟨ok, dis⟩, up⟩ j _ hj
    refine ⟨by rw [rd35 l j hj]; exact ok _ (List.getElem_mem hj), fun h0 => ?_, fun q hq => ?_⟩
    · obtain ⟨i, rfl⟩ : ∃ i, j = i + 1 := ⟨j - 1, by omega⟩
      rw [show i + 1 - 1 = i by omega, rd35 l i (by omega), rd35 l (i + 1) hj, ratio_lts (ok _ (List.getElem_mem _)) (ok _ (List.getElem_mem _))]
      exact up i hj
    · rw [rd35 l j hj, rd35 l q (by omega)]
      exact List.pairwise_iff_getElem.1 dis q j (by omega) hj hq
theorem sorted_ok {l : List S35} (hg : Good l) : ∃ s : Bool, sortedO l = some s ∧ (s = true ↔ ∀ (j : Nat) (hj : j + 1 < l.length), lts l[j] l[j + 1]) := by
  have hall : (l.all fun x => l.all fun y => (impl_Item_order.f 100 x.f0 x.f1 x.f2 y.f0 y.f1 y.f2).isSome) = true :=
    List.all_eq_true.2 fun x hx => List.all_eq_true.2 fun y hy => by
      obtain ⟨v, hv, _⟩ := ord_val (hg.1 x hx) (hg.1 y hy)
      rw [hv]; rfl
  refine ⟨srt ordF l, by unfold sortedO; rw [if_pos hall], ?_⟩
  have key : ∀ (j : Nat) (hj : j + 1 < l.length), 0 ≤ ordF (rd_T35 l ((j + 1 : Nat) : Int)) (rd_T35 l (j : Int)) ↔ lts l[j] l[j + 1] := fun j hj => by
    rw [rd35 l j (by omega), rd35 l (j + 1) hj]
    obtain ⟨v, hv, hl⟩ := ord_val (hg.1 _ (List.getElem_mem hj)) (hg.1 _ (List.getElem_mem (show j < l.length by omega)))
    have e : ordF l[j + 1] l[j] = v := by unfold ordF; rw [hv]; rfl
    rw [e]
    have hne := List.pairwise_iff_getElem.1 hg.2 j (j + 1) (by omega) hj (by omega)
    constructor
    · intro h0
      exact lts_total (fun e2 => hne e2.symm) (fun hlt => by have := hl.2 hlt; omega)
    · intro h1
      have : ¬ lts l[j + 1] l[j] := lts_asymm h1
      have : ¬ v < 0 := fun h => this (hl.1 h)
      omega
  unfold srt
  rw [List.all_eq_true]
  constructor
  · intro h j hj
    exact (key j hj).1 (of_decide_eq_true (h j (List.mem_range.2 (by omega))))
  · intro h j hj
    have := List.mem_range.1 hj
    exact decide_eq_true ((key j (by omega)).2 (h j (by omega)))
/-- The tree that a list tells is right. -/
def TreeOK (l : List S46) : Prop := l.length ≤ 60 ∧ (trd 60 l).2 = true ∧ Rise (trd 60 l).1.items ∧ (trd 60 l).1.flat = true
theorem inF_eq (l : List S46) : ∃ t b, inF l = some (t, b) ∧ (b = true ↔ TreeOK l) ∧ (b = true → t = (trd 60 l).1) := by
  unfold inF
  by_cases h60 : l.length > 60
  · rw [if_pos h60]
    exact ⟨_, _, rfl, ⟨(fun h => by cases h), fun h => absurd h.1 (by omega)⟩, fun h => by cases h⟩
  rw [if_neg h60]
  cases hs : (trd 60 l).2 with
  | false =>
    rw [if_pos rfl]
    exact ⟨_, _, rfl, ⟨(fun h => by cases h), fun h => absurd h.2.1 (by rw [hs]; decide)⟩, fun h => by cases h⟩
  | true =>
    rw [if_neg (by decide)]
    have hsz := trd_sz 60 l
    obtain ⟨b, hb, hf⟩ := items_good (trd 60 l).1.items (by rw [Tr.items_len]; omega)
    rw [hf 100 (by rw [Tr.items_len]; omega), Option.bind_some]
    cases b with
    | false =>
      rw [if_neg (by decide)]
      refine ⟨_, _, rfl, ⟨(fun h => by cases h), fun h => ?_⟩, fun h => by cases h⟩
      have := hb.2 h.2.2.1.1
      cases this
    | true =>
      obtain ⟨s, hs1, hs2⟩ := sorted_ok (hb.1 rfl)
      rw [if_pos rfl, hs1, Option.bind_some]
      refine ⟨_, _, rfl, ?_, fun _ => rfl⟩
      rw [Bool.and_eq_true]
      exact ⟨fun h => ⟨by omega, hs, ⟨hb.1 rfl, hs2.1 h.1⟩, h.2⟩, fun h => ⟨hs2.2 h.2.2.1.2, h.2.2.2⟩⟩
theorem wood_rep (l : List S46) : unlay 1001 (lay 0 (trd 60 l).1) (topO 0 (trd 60 l).1) = if l.length ≤ 1000 then some (trd 60 l).1 else unlay 1001 (lay 0 (trd 60 l).1) (topO 0 (trd 60 l).1) := by
  split
  · rename_i h
    have := Rep_lay (trd 60 l).1 [] []
    simp only [List.nil_append, List.append_nil, List.length_nil] at this
    exact rep_unlay _ _ _ _ this (by have := trd_sz 60 l; omega)
  · rfl
theorem wood_at {l : List S46} (h : l.length ≤ 60) : unlay 1001 (lay 0 (trd 60 l).1) (topO 0 (trd 60 l).1) = some (trd 60 l).1 := by
  rw [wood_rep, if_pos (by omega)]
theorem spec_right (l : List S46) : ∃ b : Bool, (b = true ↔ TreeOK l) ∧ ∀ k, 6000 < k → spec_TreeRight.f k l = some b := by
  unfold spec_TreeRight.f
  by_cases h60 : (l.length : Int) > 60
  · refine ⟨false, ⟨(fun h => by cases h), fun h => absurd h.1 (by omega)⟩, fun k hk => ?_⟩
    obtain ⟨k, rfl⟩ : ∃ m, k = m + 1 := ⟨k - 1, by omega⟩
    rw [if_pos h60, spec_TreeRight.j0, if_pos rfl]
  · have hsz := trd_sz 60 l
    cases hs : (trd 60 l).2 with
    | false =>
      refine ⟨false, ⟨(fun h => by cases h), fun h => absurd h.2.1 (by rw [hs]; decide)⟩, fun k hk => ?_⟩
      rw [if_neg h60, shape_eq 60 l (by omega) (by omega) k (by omega), hs, Option.bind_some]
      obtain ⟨k, rfl⟩ : ∃ m, k = m + 1 := ⟨k - 1, by omega⟩
      rw [spec_TreeRight.j0, Bool.not_false, if_pos rfl]
    | true =>
      have hw := wood_at (l := l) (by omega)
      have hread : spec_l04Read.f l = some (lay 0 (trd 60 l).1, topO 0 (trd 60 l).1) := by
        unfold spec_l04Read.f; rw [if_pos ⟨by omega, hs⟩]
      have hit : spec_l04Wood_items.f (lay 0 (trd 60 l).1) (topO 0 (trd 60 l).1) (topO 0 (trd 60 l).1) = some ((trd 60 l).1.items, topO 0 (trd 60 l).1) := by
        unfold spec_l04Wood_items.f; rw [hw, Option.bind_some, if_pos (by omega)]
      have hev : spec_l04Wood_even.f (lay 0 (trd 60 l).1) (topO 0 (trd 60 l).1) (topO 0 (trd 60 l).1) = some ((trd 60 l).1.flat, topO 0 (trd 60 l).1) := by
        unfold spec_l04Wood_even.f; rw [hw, Option.bind_some, if_pos (by omega)]
      have hil : (trd 60 l).1.items.length ≤ 60 := by rw [Tr.items_len]; omega
      obtain ⟨b, hb, c, hc, hk⟩ := tree_l0 (trd 60 l).1.items _ _ hil _ _ hev (trd 60 l).1.items.length 0 (by omega) (by omega)
      refine ⟨b && (trd 60 l).1.flat, ?_, fun k hk2 => ?_⟩
      · rw [Bool.and_eq_true, hb, bad_rise]
        exact ⟨fun h => ⟨by omega, hs, h.1, h.2⟩, fun h => ⟨h.2.2.1, h.2.2.2⟩⟩
      · rw [if_neg h60, shape_eq 60 l (by omega) (by omega) k (by omega), hs, Option.bind_some]
        obtain ⟨k, rfl⟩ : ∃ m, k = m + 1 := ⟨k - 1, by omega⟩
        rw [spec_TreeRight.j0, if_neg (by decide), hread, Option.bind_some]
        simp only []
        rw [hit, Option.bind_some]
        simp only []
        have := hk (k - c) (by omega)
        rw [show k - c + c = k by omega] at this
        exact this

theorem markTwigS_loop (n : Nat) (hn : n ≤ 1048576) : ∀ (d k i : Nat) (x0 : List S46), x0.length = n → n - i = d → i ≤ n → d < k → ∃ l', laws_markTwigS.l0 k x0 (1 + 4 * (i : Int)) (i : Int) = some (1 + 4 * (n : Int), l') := by
  intro d
  induction d with
  | zero =>
    intro k i x0 hx hd hi hk
    obtain ⟨k, rfl⟩ : ∃ m, k = m + 1 := ⟨k - 1, by omega⟩
    obtain rfl : i = n := by omega
    simp only [laws_markTwigS.l0]
    rw [if_neg (by omega)]
    exact ⟨x0, rfl⟩
  | succ d ih =>
    intro k i x0 hx hd hi hk
    obtain ⟨k, rfl⟩ : ∃ m, k = m + 1 := ⟨k - 1, by omega⟩
    simp only [laws_markTwigS.l0]
    rw [if_pos (by omega), if_pos (by omega)]
    simp only [Option.bind_some]
    rw [show wrap64 ((1 + 4 * (i : Int)) + 1) = 1 + 4 * (i : Int) + 1 from by rw [wrap_small (by omega) (by omega)]]
    rw [show wrap64 ((1 + 4 * (i : Int) + 1) + 1) = 1 + 4 * (i : Int) + 2 from by rw [wrap_small (by omega) (by omega)]; omega]
    rw [show wrap64 ((1 + 4 * (i : Int) + 2) + 1) = 1 + 4 * (i : Int) + 3 from by rw [wrap_small (by omega) (by omega)]; omega]
    rw [show wrap64 ((1 + 4 * (i : Int) + 3) + 1) = 1 + 4 * ((i + 1 : Nat) : Int) from by rw [wrap_small (by omega) (by omega)]; omega]
    rw [succ_cast i (by omega)]
    exact ih k (i + 1) _ (by simp [hx]) (by omega) (by omega) (by omega)
theorem markTree_eq (l : List S46) (hn : l.length ≤ 1048576) (k : Nat) (hk : l.length < k) : ∃ l', laws_markTree.f k l 1 = some (1 + 4 * (l.length : Int), l') := by
  obtain ⟨l', h⟩ := markTwigS_loop l.length hn l.length k 0 l rfl (by omega) (by omega) hk
  refine ⟨l', ?_⟩
  unfold laws_markTree.f laws_markTwigS.f
  rw [show (1 + 4 * ((0 : Nat) : Int)) = 1 from rfl, show ((0 : Nat) : Int) = 0 from rfl] at h
  rw [h]
  rfl

theorem cross (p a q b s c : Int) (ha : 0 < a) (hb : 0 < b) (hc : 0 < c) (h1 : p * b ≤ q * a) (h2 : q * c ≤ s * b) : p * c ≤ s * a ∧ (p * b < q * a ∨ q * c < s * b → p * c < s * a) := by
  have e1 : b * (p * c) = (p * b) * c := by rw [← Int.mul_assoc, Int.mul_comm b p]
  have e2 : (q * a) * c = (q * c) * a := by rw [Int.mul_assoc, Int.mul_comm a c, ← Int.mul_assoc]
  have e3 : (s * b) * a = b * (s * a) := by rw [Int.mul_comm s b, Int.mul_assoc]
  have i1 := Int.mul_le_mul_of_nonneg_right h1 (Int.le_of_lt hc)
  have i2 := Int.mul_le_mul_of_nonneg_right h2 (Int.le_of_lt ha)
  refine ⟨Int.le_of_mul_le_mul_left (a := b) (by omega) hb, fun h => Int.lt_of_mul_lt_mul_left (a := b) ?_ (Int.le_of_lt hb)⟩
  rcases h with h | h
  · have := Int.mul_lt_mul_of_pos_right h hc
    omega
  · have := Int.mul_lt_mul_of_pos_right h ha
    omega
theorem ok_pos {x : S35} (h : OkS x) : 0 < x.f2 := by
  unfold OkS okI at h
  simp only [Bool.and_eq_true, decide_eq_true_eq] at h
  omega
theorem lts_trans {x y z : S35} (hx : OkS x) (hy : OkS y) (hz : OkS z) (h1 : lts x y) (h2 : lts y z) : lts x z := by
  unfold lts at *
  have hx := ok_pos hx
  have hy := ok_pos hy
  have hz := ok_pos hz
  have c1 := cross x.f1 x.f2 y.f1 y.f2 z.f1 z.f2 hx hy hz (by omega) (by omega)
  have c2 : x.f1 * y.f2 = y.f1 * x.f2 → y.f1 * z.f2 = z.f1 * y.f2 → z.f1 * x.f2 ≤ x.f1 * z.f2 := fun e1 e2 => (cross z.f1 z.f2 y.f1 y.f2 x.f1 x.f2 hz hy hx (by omega) (by omega)).1
  generalize x.f1 * y.f2 = p1 at *
  generalize y.f1 * x.f2 = p2 at *
  generalize y.f1 * z.f2 = p3 at *
  generalize z.f1 * y.f2 = p4 at *
  generalize x.f1 * z.f2 = p5 at *
  generalize z.f1 * x.f2 = p6 at *
  rcases h1 with h1 | h1
  · exact .inl (c1.2 (.inl h1))
  · rcases h2 with h2 | h2
    · exact .inl (c1.2 (.inr h2))
    · have := c2 h1.1 h2.1
      exact .inr ⟨by omega, by omega⟩
theorem rise_pair : ∀ (l : List S35), (∀ x ∈ l, OkS x) → (∀ (j : Nat) (hj : j + 1 < l.length), lts l[j] l[j + 1]) → l.Pairwise lts
  | [], _, _ => List.Pairwise.nil
  | [x], _, _ => List.pairwise_singleton _ _
  | x :: z :: l, ok, up => by
    have ih := rise_pair (z :: l) (fun y hy => ok y (List.mem_cons_of_mem _ hy)) (fun j hj => by have := up (j + 1) (by simpa using hj); simpa using this)
    refine List.pairwise_cons.2 ⟨fun y hy => ?_, ih⟩
    have h0 : lts x z := by have := up 0 (by simp); simpa using this
    rcases List.mem_cons.1 hy with rfl | hm
    · exact h0
    · exact lts_trans (ok x (List.mem_cons_self ..)) (ok z (by simp)) (ok y (List.mem_cons_of_mem _ hy)) h0 ((List.pairwise_cons.1 ih).1 y hm)

theorem ord_is {x y : S35} (hx : OkS x) (hy : OkS y) : impl_Item_order.f 100 x.f0 x.f1 x.f2 y.f0 y.f1 y.f2 = some (ordF x y) ∧ spec_RatioCmp.f 7000 x.f0 x.f1 x.f2 y.f0 y.f1 y.f2 = some (cmpR x y) ∧ cmpR x y = ordF x y := by
  have h1 := order_eq x.f0 x.f1 x.f2 y.f0 y.f1 y.f2 100 (by omega) hx hy
  have h2 := spec_ratio_eq x.f0 x.f1 x.f2 y.f0 y.f1 y.f2 7000 (by omega)
  unfold OkS at hx hy
  have h3 : ratioCmp x.f0 x.f1 x.f2 y.f0 y.f1 y.f2 = if cmpInt (x.f1 * y.f2) (y.f1 * x.f2) = 0 then cmpInt x.f0 y.f0 else cmpInt (x.f1 * y.f2) (y.f1 * x.f2) := by
    unfold ratioCmp
    rw [hx, hy]
    rfl
  unfold ordF cmpR
  rw [h1, h2, h3]
  exact ⟨rfl, rfl, rfl⟩
theorem ord_sign {x y : S35} (hx : OkS x) (hy : OkS y) : (ordF x y < 0 ↔ lts x y) ∧ (0 < ordF x y ↔ lts y x) := by
  have h1 := order_eq x.f0 x.f1 x.f2 y.f0 y.f1 y.f2 100 (by omega) hx hy
  unfold ordF
  rw [h1]
  unfold lts cmpInt
  simp only [Option.getD_some]
  generalize x.f1 * y.f2 = p
  generalize y.f1 * x.f2 = q
  refine ⟨⟨fun h => ?_, fun h => ?_⟩, ⟨fun h => ?_, fun h => ?_⟩⟩
  · (repeat' split at h) <;> omega
  · (repeat' split) <;> omega
  · (repeat' split at h) <;> omega
  · (repeat' split) <;> omega
theorem tkO_same (c c' : S35 → Int) : ∀ t : Tr, (∀ y ∈ t.items, c y = c' y) → tkO c t = tkO c' t
  | .nil, _ => rfl
  | .node x l r, h => by
    rw [tkO, tkO, h x items_mem_x, tkO_same c c' l (fun y hy => h y (items_mem_l hy)), tkO_same c c' r (fun y hy => h y (items_mem_r hy))]
theorem tkO_finds (a : S35) (ha : OkS a) : ∀ t : Tr, (∀ x ∈ t.items, OkS x) → t.items.Pairwise lts → a ∈ t.items → ∃ q, tkO (ordF a) t = some q
  | .nil, _, _, h => absurd h (List.not_mem_nil)
  | .node x l r, ok, pw, hm => by
    have okl : ∀ y ∈ l.items, OkS y := fun y hy => ok y (items_mem_l hy)
    have okr : ∀ y ∈ r.items, OkS y := fun y hy => ok y (items_mem_r hy)
    have okx : OkS x := ok x items_mem_x
    rw [Tr.items, List.pairwise_append] at pw
    obtain ⟨pl, pr, px⟩ := pw
    rw [List.pairwise_cons] at pr
    have hs := ord_sign ha okx
    have irr : ∀ u v : S35, lts u v → ¬ lts v u := fun u v h1 h2 => by
      unfold lts at h1 h2
      omega
    rw [tkO]
    by_cases c1 : ordF a x < 0
    · rw [if_pos c1]
      have hml : a ∈ l.items := by
        rw [Tr.items, List.mem_append, List.mem_cons] at hm
        rcases hm with h | rfl | h
        · exact h
        · exact absurd (hs.1.1 c1) (fun h => irr _ _ h h)
        · exact absurd (hs.1.1 c1) (irr _ _ (pr.1 a h))
      obtain ⟨q, hq⟩ := tkO_finds a ha l okl pl hml
      exact ⟨_, by rw [hq]; rfl⟩
    · rw [if_neg c1]
      by_cases c2 : 0 < ordF a x
      · rw [if_pos c2]
        have hmr : a ∈ r.items := by
          rw [Tr.items, List.mem_append, List.mem_cons] at hm
          rcases hm with h | rfl | h
          · exact absurd (hs.2.1 c2) (irr _ _ (px a h x (List.mem_cons_self ..)))
          · exact absurd (hs.2.1 c2) (fun h => irr _ _ h h)
          · exact h
        obtain ⟨q, hq⟩ := tkO_finds a ha r okr pr.2 hmr
        exact ⟨_, by rw [hq]; rfl⟩
      · rw [if_neg c2]
        exact ⟨_, rfl⟩
theorem trd_items : ∀ (k : Nat) (l : List S46), l.length ≤ k → (trd k l).2 = true → ∀ x ∈ l, x.f0 ∈ (trd k l).1.items
  | 0, l, h, _, x, hx => by
    obtain rfl : l = [] := List.length_eq_zero_iff.1 (by omega)
    cases hx
  | k + 1, [], _, _, x, hx => by cases hx
  | k + 1, y :: l, h, ht, x, hx => by
    simp only [List.length_cons] at h
    rw [trd] at ht ⊢
    split at ht
    · rename_i hc
      rw [if_pos hc]
      simp only [Bool.and_eq_true] at ht
      rcases List.mem_cons.1 hx with rfl | hm
      · exact items_mem_x
      · rw [← List.take_append_drop y.f1.toNat l, List.mem_append] at hm
        rcases hm with hm | hm
        · exact items_mem_l (trd_items k _ (by simp; omega) ht.1 x hm)
        · exact items_mem_r (trd_items k _ (by simp; omega) ht.2 x hm)
    · cases ht
theorem take_same (l : List S46) (a0 a1 a2 : Int) : ∃ v, v.1.length ≤ 60 ∧ impl_TreeTake.f l a0 a1 a2 = some v ∧ spec_TreeTake.f l a0 a1 a2 = some v := by
  obtain ⟨b, hb, hk⟩ := spec_right l
  obtain ⟨t, b', hi, hb', ht⟩ := inF_eq l
  have e : b' = b := Bool.eq_iff_iff.2 (hb'.trans hb.symm)
  subst e
  unfold spec_TreeTake.f impl_TreeTake.f
  rw [hi, hk 7000 (by omega), Option.bind_some, Option.bind_some, impl_item_eq, spec_item_eq]
  cases b' with
  | false => exact ⟨([], 0, 1), by simp, rfl, rfl⟩
  | true =>
    rw [if_pos rfl, if_pos rfl, Option.bind_some, Option.bind_some]
    cases hA : okI a0 a1 a2 with
    | false => exact ⟨([], 0, 1), by simp, rfl, rfl⟩
    | true =>
      have ha : OkS ⟨a0, a1, a2⟩ := hA
      rw [if_pos rfl, if_pos rfl]
      by_cases hany : (l.any fun x => eqI x.f0 ⟨a0, a1, a2⟩) = true
      · rw [if_pos hany, if_pos hany]
        obtain ⟨h60, hs, hrise, _⟩ := hb.1 rfl
        have hsz := trd_sz 60 l
        have et := ht rfl
        subst et
        have hm : (⟨a0, a1, a2⟩ : S35) ∈ (trd 60 l).1.items := by
          obtain ⟨x, hx, he⟩ := List.any_eq_true.1 hany
          unfold eqI at he
          simp only [Bool.and_eq_true, beq_iff_eq] at he
          have ex : x.f0 = ⟨a0, a1, a2⟩ := by
            obtain ⟨⟨x0, x1, x2⟩, x3⟩ := x
            simp only at he
            obtain ⟨rfl, rfl, rfl⟩ := he
            rfl
          rw [← ex]
          exact trd_items 60 l h60 hs x hx
        have hab : aboveO (trd 60 l).1.items ⟨a0, a1, a2⟩ = true := List.all_eq_true.2 fun x hx => by
          rw [(ord_is ha (hrise.1.1 x hx)).1]; rfl
        have hrc : rcA (trd 60 l).1.items ⟨a0, a1, a2⟩ = true := List.all_eq_true.2 fun x hx => by
          rw [(ord_is ha (hrise.1.1 x hx)).2.1]; rfl
        obtain ⟨⟨t', n⟩, hq⟩ := tkO_finds ⟨a0, a1, a2⟩ ha (trd 60 l).1 hrise.1.1 (rise_pair _ hrise.1.1 hrise.2) hm
        have hq2 : tkO (cmpR ⟨a0, a1, a2⟩) (trd 60 l).1 = some (t', n) := (tkO_same _ _ _ (fun y hy => (ord_is ha (hrise.1.1 y hy)).2.2)).trans hq
        have hlen := tkO_ok _ _ _ _ hq
        refine ⟨(twT t', n, 0), by simp only []; rw [twT_len]; omega, ?_, ?_⟩
        · rw [if_pos (by exact ⟨hab, by simp only []; omega⟩), hq]; rfl
        · rw [if_pos ⟨h60, hs, hrc⟩, hq2]; rfl
      · rw [if_neg hany, if_neg hany]
        exact ⟨([], 0, 4), by simp, rfl, rfl⟩
theorem eqOut_same (l : List S46) (x y : Int) (hl : l.length < 9223372036854775807) (k : Nat) (hk : l.length < k) : laws_eqTreeOut.f k l x y l x y = some true := by
  unfold laws_eqTreeOut.f
  rw [eqTree_same l hl k hk]
  simp
def mkT (j : Nat) : S46 := ⟨⟨1 + 4 * (j : Int), 2 + 4 * (j : Int), 3 + 4 * (j : Int)⟩, 4 + 4 * (j : Int)⟩
theorem markTwig_loop (n : Nat) (hn : n ≤ 1048576) : ∀ (d k i : Nat) (x0 : List S46), x0.length = n → n - i = d → i ≤ n → d < k → (∀ j : Nat, j < i → x0[j]? = some (mkT j)) → ∃ l', laws_markTwigS.l0 k x0 (1 + 4 * (i : Int)) (i : Int) = some (1 + 4 * (n : Int), l') ∧ l'.length = n ∧ ∀ j : Nat, j < n → l'[j]? = some (mkT j) := by
  intro d
  induction d with
  | zero =>
    intro k i x0 hx hd hi hk hj
    obtain ⟨k, rfl⟩ : ∃ m, k = m + 1 := ⟨k - 1, by omega⟩
    obtain rfl : i = n := by omega
    simp only [laws_markTwigS.l0]
    rw [if_neg (by omega)]
    exact ⟨x0, rfl, hx, hj⟩
  | succ d ih =>
    intro k i x0 hx hd hi hk hj
    obtain ⟨k, rfl⟩ : ∃ m, k = m + 1 := ⟨k - 1, by omega⟩
    have hlt : i < x0.length := by omega
    have r1 : ∀ a, rd_T46 (x0.set i a) (i : Int) = a := fun a => by simp [rd_T46, hlt]
    simp only [laws_markTwigS.l0]
    rw [if_pos (by omega), if_pos (by omega)]
    simp only [Option.bind_some, Int.toNat_natCast, r1, List.set_set]
    rw [show wrap64 ((1 + 4 * (i : Int)) + 1) = 1 + 4 * (i : Int) + 1 from by rw [wrap_small (by omega) (by omega)]]
    rw [show wrap64 ((1 + 4 * (i : Int) + 1) + 1) = 1 + 4 * (i : Int) + 2 from by rw [wrap_small (by omega) (by omega)]; omega]
    rw [show wrap64 ((1 + 4 * (i : Int) + 2) + 1) = 1 + 4 * (i : Int) + 3 from by rw [wrap_small (by omega) (by omega)]; omega]
    rw [show wrap64 ((1 + 4 * (i : Int) + 3) + 1) = 1 + 4 * ((i + 1 : Nat) : Int) from by rw [wrap_small (by omega) (by omega)]; omega]
    rw [succ_cast i (by omega)]
    refine ih k (i + 1) _ (by simp [hx]) (by omega) (by omega) (by omega) (fun j hji => ?_)
    by_cases e : j = i
    · subst e
      rw [List.getElem?_set_self hlt]
      unfold mkT
      congr 2
      · congr 1 <;> omega
      · omega
    · rw [List.getElem?_set_ne (by omega)]
      exact hj j (by omega)
theorem markOut_eq (l : List S46) (x y : Int) (hn : l.length ≤ 1048576) (k : Nat) (hk : l.length < k) : ∃ l', laws_markTreeOut.f k l x y 1 = some (1 + 4 * (l.length : Int), l') ∧ l'.length = l.length ∧ ∀ j : Nat, j < l.length → l'[j]? = some (mkT j) := by
  obtain ⟨l', h, h1, h2⟩ := markTwig_loop l.length hn l.length k 0 l rfl (by omega) (by omega) hk (fun j hj => absurd hj (Nat.not_lt_zero _))
  refine ⟨l', ?_, h1, h2⟩
  unfold laws_markTreeOut.f laws_markTree.f laws_markTwigS.f
  rw [show (1 + 4 * ((0 : Nat) : Int)) = 1 from rfl, show ((0 : Nat) : Int) = 0 from rfl] at h
  rw [h]
  rfl
theorem heldTwig_loop (n : Nat) (hn : n ≤ 1048576) (l : List S46) (hl : l.length = n) (hm : ∀ j : Nat, j < n → l[j]? = some (mkT j)) : ∀ (d k i : Nat), n - i = d → i ≤ n → d < k → laws_heldTwigS.l0 k l (1 + 4 * (i : Int)) (i : Int) = some (1 + 4 * (n : Int)) := by
  intro d
  induction d with
  | zero =>
    intro k i hd hi hk
    obtain ⟨k, rfl⟩ : ∃ m, k = m + 1 := ⟨k - 1, by omega⟩
    obtain rfl : i = n := by omega
    simp only [laws_heldTwigS.l0]
    rw [if_neg (by omega)]
  | succ d ih =>
    intro k i hd hi hk
    obtain ⟨k, rfl⟩ : ∃ m, k = m + 1 := ⟨k - 1, by omega⟩
    have hlt : i < l.length := by omega
    have r1 : rd_T46 l (i : Int) = mkT i := by simp [rd_T46, hm i (by omega)]
    simp only [laws_heldTwigS.l0]
    rw [if_pos (by omega), if_pos (by omega), r1]
    rw [show wrap64 ((1 + 4 * (i : Int)) + 1) = 1 + 4 * (i : Int) + 1 from by rw [wrap_small (by omega) (by omega)]]
    rw [show wrap64 ((1 + 4 * (i : Int) + 1) + 1) = 1 + 4 * (i : Int) + 2 from by rw [wrap_small (by omega) (by omega)]; omega]
    rw [show wrap64 ((1 + 4 * (i : Int) + 2) + 1) = 1 + 4 * (i : Int) + 3 from by rw [wrap_small (by omega) (by omega)]; omega]
    rw [show wrap64 ((1 + 4 * (i : Int) + 3) + 1) = 1 + 4 * ((i + 1 : Nat) : Int) from by rw [wrap_small (by omega) (by omega)]; omega]
    rw [succ_cast i (by omega)]
    unfold mkT
    simp only []
    rw [if_pos trivial, if_pos (by omega), if_pos (by omega), if_pos (by omega)]
    exact ih k (i + 1) (by omega) (by omega) (by omega)
theorem heldOut_eq (l : List S46) (n : Nat) (x y : Int) (hn : n ≤ 1048576) (hl : l.length = n) (hm : ∀ j : Nat, j < n → l[j]? = some (mkT j)) (k : Nat) (hk : n < k) : laws_heldTreeOut.f k l x y 1 = some (1 + 4 * (n : Int)) := by
  have h := heldTwig_loop n hn l hl hm n k 0 (by omega) (by omega) hk
  rw [show (1 + 4 * ((0 : Nat) : Int)) = 1 from rfl, show ((0 : Nat) : Int) = 0 from rfl] at h
  unfold laws_heldTreeOut.f laws_heldTree.f laws_heldTwigS.f
  rw [h]
  simp only [Option.bind_some]
  rw [if_neg (by omega)]
  simp only [Option.bind_some]
  rw [if_neg (by omega)]
theorem FnExactTreeTake : BridgeFnExactTreeTake.Pure := by
  intro l0 a0 a1 a2 hl _ _ _ _
  refine ⟨1100000, ?_⟩
  unfold laws_FnExactTreeTake.f
  rw [szTree_eq l0 hl, Option.bind_some]
  by_cases h : l0.length ≤ 1048576
  · have ha := toTree_eq l0 hl 1100000 (by omega)
    have hb := toTree_eq l0 hl 1099999 (by omega)
    obtain ⟨⟨v, n, c⟩, hv, h1, h2⟩ := take_same (l0.map convTwig) a0 a1 a2
    have hv : v.length ≤ 60 := hv
    have hlen : (l0.map convTwig).length = l0.length := by simp
    obtain ⟨m1, hm1⟩ := markTree_eq (l0.map convTwig) (by omega) 1100000 (by omega)
    obtain ⟨m2, hm2, hl2, hr2⟩ := markOut_eq v n c (by omega) 1099999 (by omega)
    rw [if_pos h, if_neg (by omega), ha]
    simp only [Option.bind_some, laws_toItem.f]
    rw [h2, h1]
    simp only [Option.bind_some]
    rw [eqOut_same v n c (by omega) 1100000 (by omega)]
    simp only [Option.bind_some, if_true]
    rw [eqTree_same _ (by omega) 1100000 (by omega)]
    simp only [Option.bind_some, if_true]
    rw [hm1]
    simp only [Option.bind_some]
    rw [if_neg (by omega), laws_FnExactTreeTake.j0]
    simp only [Bool.not_true, Bool.false_eq_true, if_false, hm2, Option.bind_some, laws_toItem.f, heldOut_eq m2 v.length n c (by omega) hl2 hr2 1099999 (by omega), if_true, hb, h1, eqOut_same v n c (by omega) 1099999 (by omega)]
    rw [if_neg (by omega), if_neg (by omega)]
  · rw [if_neg h, if_pos (by omega)]
end Go.Proofs.YtenlceojmjkbkaaGreat.Pure
