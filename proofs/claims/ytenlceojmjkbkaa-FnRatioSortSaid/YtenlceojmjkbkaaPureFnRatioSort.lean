/- Items drawn from all bytes, sorted as the law FnRatioSort says. Conditions: none beyond the statement's own bounds. -/
import Derived.Test.YtenlceojmjkbkaaXFnRatioSortx13
namespace Go.Proofs.Ytenlceojmjkbkaa.Pure
open Go.RowKit Go.Proofs.Ytenlceojmjkbkaa.XFnRatioSort Go.Proofs.YtenlceojmjkbkaaW.PrintWords Go.Proofs.YtenlceojmjkbkaaW.PrintLast Go.Proofs.YtenlceojmjkbkaaW.PrintMore
set_option linter.unusedSimpArgs false
set_option linter.unusedVariables false

theorem rd33 (xs : List S33) (i : Nat) (h : i < xs.length) : rd_T33 xs (i : Int) = xs[i] := by
  unfold rd_T33
  rw [Int.toNat_natCast, List.getD_eq_getElem?_getD, List.getElem?_eq_getElem h]
  rfl

theorem wrap_small {x : Int} (h0 : -9223372036854775808 ≤ x) (h1 : x ≤ 9223372036854775807) : wrap64 x = x := by
  unfold wrap64
  omega
theorem i64_range {x : Int} (h : (Lit.int .i64 x).wf = true) : -9223372036854775808 ≤ x ∧ x ≤ 9223372036854775807 := by
  simp [Lit.wf, IntKind.min, IntKind.max, IntKind.bits, IntKind.signed] at h
  omega
theorem u64_range {x : Int} (h : (Lit.int .u64 x).wf = true) : 0 ≤ x ∧ x < 18446744073709551616 := by
  simp [Lit.wf, IntKind.min, IntKind.max, IntKind.bits, IntKind.signed] at h
  omega

theorem in_eq (a b c : Int) : impl_in.f a b c = some (decide (b ≤ a ∧ a ≤ c)) := by
  unfold impl_in.f
  by_cases h : b ≤ a <;> simp [h]

theorem isId_eq (a : Int) : impl_isId.f a = some (decide (1 ≤ a ∧ a ≤ 1000000)) := by simp [impl_isId.f, in_eq]
theorem isWant_eq (a : Int) : impl_isWant.f a = some (decide (0 ≤ a ∧ a ≤ 1125899906842624)) := by simp [impl_isWant.f, in_eq]
theorem l02Id_eq (a : Int) : spec_l02Id.f a = some (decide (1 ≤ a ∧ a ≤ 1000000)) := by
  unfold spec_l02Id.f
  by_cases h : a ≥ 1
  · rw [if_pos h]; simp; omega
  · rw [if_neg h]; simp; omega
theorem l02Want_eq (a : Int) : spec_l02Want.f a = some (decide (0 ≤ a ∧ a ≤ 1125899906842624)) := by
  unfold spec_l02Want.f
  by_cases h : a ≥ 0
  · rw [if_pos h]; simp; omega
  · rw [if_neg h]; simp; omega

theorem isWeight_eq (a : Int) : impl_isWeight.f a = some (decide (1 ≤ a ∧ a ≤ 1073741824)) := by simp [impl_isWeight.f, in_eq]
theorem l02Weight_eq (a : Int) : spec_l02Weight.f a = some (decide (1 ≤ a ∧ a ≤ 1073741824)) := by
  unfold spec_l02Weight.f
  by_cases h : a ≥ 1
  · rw [if_pos h]; simp; omega
  · rw [if_neg h]; simp; omega

/-- A right Item. -/
theorem spec_item_eq (a b c : Int) : spec_ItemRight.f a b c = some (okI a b c) := by
  unfold spec_ItemRight.f okI
  rw [l02Id_eq, l02Want_eq, l02Weight_eq]
  by_cases h1 : 1 ≤ a ∧ a ≤ 1000000 <;> by_cases h2 : 0 ≤ b ∧ b ≤ 1125899906842624 <;> simp [h1, h2]
theorem impl_item_eq (a b c : Int) : impl_ItemRight.f a b c = some (okI a b c) := by
  unfold impl_ItemRight.f okI
  rw [isId_eq, isWant_eq, isWeight_eq]
  by_cases h1 : 1 ≤ a ∧ a ≤ 1000000 <;> by_cases h2 : 0 ≤ b ∧ b ≤ 1125899906842624 <;> simp [h1, h2]

theorem set_fill {α β : Type} (l : List α) (f : α → β) (z : β) (i : Nat) (h : i < l.length) : ((l.take i).map f ++ List.replicate (l.length - i) z).set i (f l[i]) = (l.take (i + 1)).map f ++ List.replicate (l.length - (i + 1)) z := by
  have e : l.length - i = (l.length - (i + 1)) + 1 := by omega
  have hl : ((l.take i).map f).length = i := by simp; omega
  rw [e, List.replicate_succ, List.set_append_right i (f l[i]) (by omega), hl, Nat.sub_self, List.set_cons_zero, List.take_succ_eq_append_getElem h, List.map_append]
  simp
theorem succ_cast (i : Nat) (h : i < 9223372036854775807) : wrap64 ((i : Int) + 1) = ((i + 1 : Nat) : Int) := by
  rw [wrap_small (by omega) (by omega)]
  omega

theorem pred_cast (i : Nat) (h : 0 < i) (h2 : i < 9223372036854775807) : wrap64 ((i : Int) - 1) = ((i - 1 : Nat) : Int) := by
  rw [wrap_small (by omega) (by omega)]
  omega

theorem wide_add (v u : Int) (hv0 : 0 ≤ v) (hv1 : v < 340282366920938463463374607431768211456) (hu0 : 0 ≤ u) (hu1 : u < 340282366920938463463374607431768211456) : spec_WideAdd.f (hiW v) (loW v) (hiW u) (loW u) = some (hiW ((v + u) % 340282366920938463463374607431768211456), loW ((v + u) % 340282366920938463463374607431768211456), decide (340282366920938463463374607431768211456 ≤ v + u), 0) := by
  unfold spec_WideAdd.f hiW loW
  simp only [w64]
  by_cases c1 : (v % 18446744073709551616 + u % 18446744073709551616) % 18446744073709551616 < v % 18446744073709551616
  · rw [if_pos c1]
    by_cases c2 : (v / 18446744073709551616 + u / 18446744073709551616) % 18446744073709551616 < v / 18446744073709551616
    · rw [if_pos c2]
      simp only [Option.some.injEq, Prod.mk.injEq]
      exact ⟨by omega, by omega, (decide_eq_true (by omega)).symm, trivial⟩
    · rw [if_neg c2]
      simp only [Option.some.injEq, Prod.mk.injEq]
      exact ⟨by omega, by omega, decide_eq_decide.2 (by omega), trivial⟩
  · rw [if_neg c1]
    by_cases c2 : (v / 18446744073709551616 + u / 18446744073709551616) % 18446744073709551616 < v / 18446744073709551616
    · rw [if_pos c2]
      simp only [Option.some.injEq, Prod.mk.injEq]
      exact ⟨by omega, by omega, (decide_eq_true (by omega)).symm, trivial⟩
    · rw [if_neg c2]
      simp only [Option.some.injEq, Prod.mk.injEq]
      exact ⟨by omega, by omega, decide_eq_decide.2 (by omega), trivial⟩

theorem wide_shl_loop : ∀ (n k : Nat) (v : Int), n < k → n ≤ 127 → 0 ≤ v → v < 340282366920938463463374607431768211456 → spec_WideShl.l0 k (n : Int) (hiW v) (loW v) = some (hiW (v * 2 ^ n % 340282366920938463463374607431768211456), loW (v * 2 ^ n % 340282366920938463463374607431768211456)) := by
  intro n
  induction n with
  | zero =>
    intro k v hk _ h0 h1
    obtain ⟨k, rfl⟩ : ∃ m, k = m + 1 := ⟨k - 1, by omega⟩
    simp only [spec_WideShl.l0]
    rw [if_neg (by omega), show v * 2 ^ 0 % 340282366920938463463374607431768211456 = v by omega]
  | succ n ih =>
    intro k v hk hn h0 h1
    obtain ⟨k, rfl⟩ : ∃ m, k = m + 1 := ⟨k - 1, by omega⟩
    simp only [spec_WideShl.l0]
    rw [if_pos (by omega), wide_add v v h0 h1 h0 h1]
    simp only [Option.bind_some]
    rw [show wrap64 (((n + 1 : Nat) : Int) - 1) = (n : Int) by unfold wrap64; omega, ih k _ (by omega) (by omega) (by omega) (by omega), emod_mul_left, show (v + v) * 2 ^ n = v * 2 ^ (n + 1) by rw [Int.pow_succ, ← Int.mul_assoc, Int.add_mul]; omega]
theorem wide_shl (n k : Nat) (v : Int) (hk : n + 1 < k) (hn : n ≤ 127) (h0 : 0 ≤ v) (h1 : v < 340282366920938463463374607431768211456) : spec_WideShl.f k (hiW v) (loW v) (n : Int) = some (hiW (v * 2 ^ n % 340282366920938463463374607431768211456), loW (v * 2 ^ n % 340282366920938463463374607431768211456)) := by
  obtain ⟨k, rfl⟩ : ∃ m, k = m + 1 := ⟨k - 1, by omega⟩
  unfold spec_WideShl.f
  rw [if_neg (by omega)]
  have hd : decide ((n : Int) > 127) = false := decide_eq_false (by omega)
  simp only [spec_WideShl.j0, hd]
  exact wide_shl_loop n k v (by omega) hn h0 h1
theorem wide_shl_out (n : Int) (k : Nat) (a b : Int) (hk : 0 < k) (hn : n < 0 ∨ 127 < n) : spec_WideShl.f k a b n = some (0, 0) := by
  obtain ⟨k, rfl⟩ : ∃ m, k = m + 1 := ⟨k - 1, by omega⟩
  unfold spec_WideShl.f
  by_cases h : n < 0
  · rw [if_pos h]; simp only [spec_WideShl.j0, if_true]
  · rw [if_neg h]
    have hd : decide (n > 127) = true := decide_eq_true (by omega)
    simp only [spec_WideShl.j0, hd, if_true]

theorem wide_mul_loop (a b : Int) (ha0 : 0 ≤ a) (ha1 : a < 18446744073709551616) (hb0 : 0 ≤ b) (hb1 : b < 18446744073709551616) : ∀ (d j k : Nat), 64 - j = d → j ≤ 64 → d + 130 < k → spec_WideMul.l0 k a b (j : Int) (hiW (a * (b % 2 ^ j))) (loW (a * (b % 2 ^ j))) = some (hiW (a * b), loW (a * b)) := by
  intro d
  induction d with
  | zero =>
    intro j k hd hj hk
    obtain ⟨k, rfl⟩ : ∃ m, k = m + 1 := ⟨k - 1, by omega⟩
    obtain rfl : j = 64 := by omega
    simp only [spec_WideMul.l0]
    rw [if_neg (by omega), show b % 2 ^ 64 = b by omega]
  | succ d ih =>
    intro j k hd hj hk
    obtain ⟨k, rfl⟩ : ∃ m, k = m + 1 := ⟨k - 1, by omega⟩
    have a1 : (j : Int) < 64 := by omega
    have a2 : (0 : Int) ≤ (j : Int) := by omega
    have ej : wrap64 ((j : Int) + 1) = ((j + 1 : Nat) : Int) := by unfold wrap64; omega
    have hw : IntKind.u64.wrap (j : Int) = j := by rw [w64]; omega
    have nxt := ih (j + 1) k (by omega) (by omega) (by omega)
    have hk2 : j + 1 < k := by omega
    have hj2 : j ≤ 127 := by omega
    have hp := pow_pos' j
    have hsh : shr .u64 b (j : Int) = b / 2 ^ j := by
      unfold shr
      rw [show min (j : Int).toNat (IntKind.bits .u64) = j by simp [IntKind.bits]; omega]
    have hq0 : 0 ≤ b / 2 ^ j := Int.ediv_nonneg hb0 (Int.le_of_lt hp)
    have hq1 : b / 2 ^ j < 18446744073709551616 := Int.lt_of_le_of_lt (Int.ediv_le_self _ hb0) hb1
    have hm0 : 0 ≤ b % 2 ^ j := Int.emod_nonneg _ (Int.ne_of_gt hp)
    have hm1 : b % 2 ^ j ≤ b := emod_le' b _ hb0 hp
    have step := emod_pow_succ b j hb0
    have hm2 : b % 2 ^ (j + 1) ≤ b := emod_le' b _ hb0 (pow_pos' _)
    have hm3 : 0 ≤ b % 2 ^ (j + 1) := Int.emod_nonneg _ (Int.ne_of_gt (pow_pos' _))
    have s := wide_shl j k a hk2 hj2 ha0 (by omega)
    rw [hiW_small a ha0 ha1, loW_small a ha0 ha1] at s
    simp only [spec_WideMul.l0, hw, a1, a2, if_true, hsh, and_one _ hq0 hq1, ej]
    clear hw ej hsh ih hk hk2 hj2 a1 a2 hd hj
    generalize hP : (2 : Int) ^ j = P at *
    generalize hP2 : b % 2 ^ (j + 1) = B at *
    generalize hB0 : b % P = C at *
    generalize hB1 : b / P = D at *
    by_cases hbit : D % 2 = 1
    · rw [if_pos hbit]
      rw [hbit, Int.mul_one] at step
      have bd : ∀ x : Int, 0 ≤ x → x ≤ b → 0 ≤ a * x ∧ a * x < 340282366920938463463374607431768211456 := fun x h0 h1 => by
        have h2 : a * x ≤ a * 18446744073709551615 := Int.mul_le_mul_of_nonneg_left (by omega) ha0
        have h3 := Int.mul_nonneg ha0 h0
        exact ⟨h3, by omega⟩
      have b1 := bd P (Int.le_of_lt hp) (by omega)
      have b2 := bd C hm0 hm1
      have b3 := bd B hm3 hm2
      have hsum : a * C + a * P = a * B := by rw [step, Int.mul_add]
      rw [Int.emod_eq_of_lt b1.1 b1.2] at s
      rw [s]
      simp only [Option.bind_some]
      rw [wide_add _ _ b2.1 b2.2 b1.1 b1.2]
      simp only [Option.bind_some]
      rw [hsum, Int.emod_eq_of_lt b3.1 b3.2]
      exact nxt
    · rw [if_neg hbit]
      have h0 : D % 2 = 0 := by omega
      rw [h0, Int.mul_zero, Int.add_zero] at step
      rw [← step]
      exact nxt
theorem wide_mul (a b : Int) (k : Nat) (hk : 200 < k) (ha0 : 0 ≤ a) (ha1 : a < 18446744073709551616) (hb0 : 0 ≤ b) (hb1 : b < 18446744073709551616) : spec_WideMul.f k a b = some (hiW (a * b), loW (a * b)) := by
  have h := wide_mul_loop a b ha0 ha1 hb0 hb1 64 0 k (by omega) (by omega) (by omega)
  have e : a * (b % 2 ^ 0) = 0 := by simp
  rw [e] at h
  exact h

theorem spec_cmp_eq (v u : Int) : spec_WideCmp.f (hiW v) (loW v) (hiW u) (loW u) = some (cmpInt v u) := by
  have r1 := loW_range v
  have r2 := loW_range u
  have e1 := val_eq v
  have e2 := val_eq u
  unfold spec_WideCmp.f cmpInt
  generalize hiW v = a at *
  generalize loW v = b at *
  generalize hiW u = c at *
  generalize loW u = d at *
  (repeat' split) <;> first | rfl | (exfalso; omega)

theorem times_eq (a b c d : Int) (k : Nat) (hk : 200 < k) (ha : 0 ≤ a ∧ a < 18446744073709551616) (hb : 0 ≤ b ∧ b < 18446744073709551616) (hc : 0 ≤ c ∧ c < 18446744073709551616) (hd : 0 ≤ d ∧ d < 18446744073709551616) : spec_l02Times.f k a b c d = some (cmpInt (a * b) (c * d)) := by
  unfold spec_l02Times.f
  simp only [w64]
  rw [Int.emod_eq_of_lt ha.1 ha.2, Int.emod_eq_of_lt hb.1 hb.2, Int.emod_eq_of_lt hc.1 hc.2, Int.emod_eq_of_lt hd.1 hd.2, wide_mul a b k hk ha.1 ha.2 hb.1 hb.2, wide_mul c d k hk hc.1 hc.2 hd.1 hd.2]
  simp only [Option.bind_some]
  rw [spec_cmp_eq]
  rfl

/-- What RatioCmp tells. -/
def ratioCmp (a b c d e f : Int) : Int := if okI a b c && okI d e f then (if cmpInt (b * f) (e * c) = 0 then cmpInt a d else cmpInt (b * f) (e * c)) else 0
theorem spec_ratio_eq (a b c d e f : Int) (k : Nat) (hk : 201 < k) : spec_RatioCmp.f k a b c d e f = some (ratioCmp a b c d e f) := by
  obtain ⟨k, rfl⟩ : ∃ m, k = m + 1 := ⟨k - 1, by omega⟩
  unfold spec_RatioCmp.f ratioCmp
  rw [spec_item_eq, spec_item_eq]
  simp only [Option.bind_some]
  cases h1 : okI a b c with
  | false => simp [spec_RatioCmp.j0]
  | true =>
    cases h2 : okI d e f with
    | false => simp [spec_RatioCmp.j0]
    | true =>
      obtain ⟨_, hb, hc, _⟩ := ok_bounds h1
      obtain ⟨_, he, hf, _⟩ := ok_bounds h2
      simp only [spec_RatioCmp.j0, if_true, Bool.not_true, Bool.and_self]
      rw [times_eq b f e c k (by omega) hb hf he hc]
      simp only [Option.bind_some]
      by_cases hz : cmpInt (b * f) (e * c) = 0
      · rw [if_pos hz, if_pos hz]
        unfold cmpInt
        (repeat' split) <;> first | rfl | simp_all | (exfalso; omega)
      · rw [if_neg hz, if_neg hz]
        rfl

/-! ### Both sorts -/
def lts (x y : S33) : Prop := x.f1 * y.f2 < y.f1 * x.f2 ∨ x.f1 * y.f2 = y.f1 * x.f2 ∧ x.f0 < y.f0
def OkS (x : S33) : Prop := okI x.f0 x.f1 x.f2 = true
theorem lts_asymm {x y : S33} (h : lts x y) : ¬ lts y x := by
  unfold lts at *
  generalize x.f1 * y.f2 = p at *
  generalize y.f1 * x.f2 = q at *
  omega
theorem lts_total {x y : S33} (hne : x.f0 ≠ y.f0) (h : ¬ lts x y) : lts y x := by
  unfold lts at *
  generalize x.f1 * y.f2 = p at *
  generalize y.f1 * x.f2 = q at *
  omega
theorem lts_trans {x y z : S33} (hx : OkS x) (hy : OkS y) (hz : OkS z) (h1 : lts x y) (h2 : lts y z) : lts x z := by
  have h := swo_O.trans ⟨x, hx⟩ ⟨y, hy⟩ ⟨z, hz⟩ (by rw [ltOf_O]; exact decide_eq_true h1) (by rw [ltOf_O]; exact decide_eq_true h2)
  rw [ltOf_O] at h
  have h3 : ltO ⟨x, hx⟩ ⟨z, hz⟩ := of_decide_eq_true h
  exact h3
theorem cmp_lts {x y : S33} (hx : OkS x) (hy : OkS y) (k : Nat) (hk : 201 < k) : ∃ v, spec_RatioCmp.f k x.f0 x.f1 x.f2 y.f0 y.f1 y.f2 = some v ∧ (v < 0 ↔ lts x y) := by
  refine ⟨_, spec_ratio_eq x.f0 x.f1 x.f2 y.f0 y.f1 y.f2 k hk, ?_⟩
  unfold OkS at hx hy
  unfold ratioCmp lts cmpInt
  rw [hx, hy]
  generalize x.f1 * y.f2 = p
  generalize y.f1 * x.f2 = q
  simp only [Bool.and_self, if_true]
  constructor
  · intro h
    (repeat' split at h) <;> omega
  · intro h
    (repeat' split) <;> omega
theorem uniq : ∀ l m : List S33, l.Perm m → l.Pairwise lts → m.Pairwise lts → l = m
  | [], m, h, _, _ => by rw [List.nil_perm.1 h]
  | x :: l, [], h, _, _ => by cases List.perm_nil.1 h
  | x :: l, y :: m, h, h1, h2 => by
    rw [List.pairwise_cons] at h1 h2
    by_cases he : x = y
    · subst he
      rw [uniq l m (List.perm_cons x |>.1 h) h1.2 h2.2]
    · have hx : x ∈ y :: m := h.subset (List.mem_cons_self ..)
      have hy : y ∈ x :: l := h.symm.subset (List.mem_cons_self ..)
      rw [List.mem_cons] at hx hy
      have a := h2.1 x (hx.resolve_left he)
      have b := h1.1 y (hy.resolve_left (fun e => he e.symm))
      exact absurd b (lts_asymm a)
def Good (l : List S33) : Prop := (∀ x ∈ l, OkS x) ∧ l.Pairwise (fun x y => x.f0 ≠ y.f0)
/-! The program's test. -/
def itemAt (l : List S33) (j : Nat) : Prop := okI (rd_T33 l j).f0 (rd_T33 l j).f1 (rd_T33 l j).f2 = true ∧ (0 < j → (rd_T33 l ((j - 1 : Nat) : Int)).f0 < (rd_T33 l j).f0)
theorem items_loop (l : List S33) (hl : l.length < 9223372036854775807) : ∀ (d i : Nat), l.length - i = d → i ≤ l.length → ∃ b : Bool, (b = true ↔ ∀ j : Nat, i ≤ j → j < l.length → itemAt l j) ∧ ∀ k, d < k → impl_ItemsRight.l0 k l l (l.length : Int) (i : Int) = some (b && decide ((l.length : Int) ≤ 60)) := by
  intro d
  induction d with
  | zero =>
    intro i hd hi
    refine ⟨true, ⟨fun _ j h1 h2 => by omega, fun _ => rfl⟩, fun k hk => ?_⟩
    obtain ⟨k, rfl⟩ : ∃ m, k = m + 1 := ⟨k - 1, by omega⟩
    simp only [impl_ItemsRight.l0]; rw [if_neg (by omega)]; simp
  | succ d ih =>
    intro i hd hi
    obtain ⟨b, hbm, hb⟩ := ih (i + 1) (by omega) (by omega)
    have a1 : (i : Int) < (l.length : Int) := by omega
    have a2 : (0 : Int) ≤ (i : Int) := by omega
    have more : ∀ P : Prop, (itemAt l i ↔ P) → ((∀ j : Nat, i ≤ j → j < l.length → itemAt l j) ↔ P ∧ ∀ j : Nat, i + 1 ≤ j → j < l.length → itemAt l j) := fun P hP =>
      ⟨fun h => ⟨hP.1 (h i (Nat.le_refl _) (by omega)), fun j h1 h2 => h j (by omega) h2⟩, fun ⟨hp, h⟩ j h1 h2 => by
        by_cases hj : j = i
        · rw [hj]; exact hP.2 hp
        · exact h j (by omega) h2⟩
    by_cases h : okI (rd_T33 l i).f0 (rd_T33 l i).f1 (rd_T33 l i).f2 = true
    · by_cases h0 : (i : Int) > 0
      · have a3 : (0 : Int) ≤ ((i - 1 : Nat) : Int) := by omega
        have a4 : ((i - 1 : Nat) : Int) < (l.length : Int) := by omega
        by_cases hc : (rd_T33 l ((i - 1 : Nat) : Int)).f0 ≥ (rd_T33 l i).f0
        · refine ⟨false, ⟨(fun h => by cases h), fun hh => ?_⟩, fun k hk => ?_⟩
          · have := (hh i (Nat.le_refl _) (by omega)).2 (by omega)
            omega
          obtain ⟨k, rfl⟩ : ∃ m, k = m + 1 := ⟨k - 1, by omega⟩
          simp only [impl_ItemsRight.l0, a1, a2, if_true, impl_item_eq, Option.bind_some, h, h0, pred_cast i (by omega) (by omega), a3, a4, hc]
          simp
        · refine ⟨b, (hbm.trans ((more True ⟨fun _ => trivial, fun _ => ⟨h, fun _ => by omega⟩⟩).trans (by simp)).symm), fun k hk => ?_⟩
          obtain ⟨k, rfl⟩ : ∃ m, k = m + 1 := ⟨k - 1, by omega⟩
          have h2 := hb k (by omega)
          simp only [impl_ItemsRight.l0, a1, a2, if_true, impl_item_eq, Option.bind_some, h, h0, pred_cast i (by omega) (by omega), a3, a4, hc, if_false, succ_cast i (by omega), h2]
      · refine ⟨b, (hbm.trans ((more True ⟨fun _ => trivial, fun _ => ⟨h, fun h => absurd h (by omega)⟩⟩).trans (by simp)).symm), fun k hk => ?_⟩
        obtain ⟨k, rfl⟩ : ∃ m, k = m + 1 := ⟨k - 1, by omega⟩
        have h2 := hb k (by omega)
        simp only [impl_ItemsRight.l0, a1, a2, if_true, impl_item_eq, Option.bind_some, h, h0, if_false, succ_cast i (by omega), h2]
    · refine ⟨false, ⟨(fun h => by cases h), fun hh => absurd (hh i (Nat.le_refl _) (by omega)).1 h⟩, fun k hk => ?_⟩
      obtain ⟨k, rfl⟩ : ∃ m, k = m + 1 := ⟨k - 1, by omega⟩
      simp only [impl_ItemsRight.l0, a1, a2, if_true, impl_item_eq, Option.bind_some, h]
      simp
theorem sort_perm {α : Type} [Inhabited α] (cf : α → α → Int) (hO : Sort.SWO (ltOf cf)) (l : List α) : (sortL cf l).Perm l := by
  have h := (sortL_facts cf hO l).1
  have hs := h.1
  have hp := h.2.2
  rw [List.size_toArray] at hs
  have e1 : ∀ d : Array α, d.size = l.length → d.extract 0 l.toArray.size = d := fun d hd => by
    rw [List.size_toArray, ← hd]; simp
  rw [e1 _ hs, e1 _ (by simp)] at hp
  exact hp
theorem sort_sorted {α : Type} [Inhabited α] (cf : α → α → Int) (hO : Sort.SWO (ltOf cf)) (l : List α) : (sortL cf l).Pairwise (fun x y => ltOf cf y x = false) := by
  have h := (sortL_facts cf hO l).2
  have hs := (sortL_facts cf hO l).1.1
  rw [List.pairwise_iff_getElem]
  intro i j hi hj hij
  unfold sortL at hi hj ⊢
  rw [Array.length_toList] at hi hj
  have := h i j (Nat.zero_le _) hij (by rw [← hs]; exact hj)
  rw [getElem!_pos _ j hj, getElem!_pos _ i hi] at this
  simpa using this
theorem items_good (l : List S33) (h60 : l.length ≤ 60) : ∃ b : Bool, (b = true ↔ Good l) ∧ ∀ k, l.length < k → impl_areItems.f k l = some b := by
  have hp := sort_perm cfId swo_id l
  have hso := sort_sorted cfId swo_id l
  have hlen := hp.length_eq
  generalize hS : sortL cfId l = S at hp hso hlen
  obtain ⟨b, hb, hf⟩ := items_loop S (by omega) S.length 0 (by omega) (by omega)
  have pw : S.Pairwise (fun x y => x.f0 ≠ y.f0) ↔ l.Pairwise (fun x y => x.f0 ≠ y.f0) := hp.pairwise_iff (fun h => fun e => h e.symm)
  refine ⟨b, hb.trans ⟨fun h => ⟨fun x hx => ?_, pw.1 ?_⟩, fun ⟨g1, g2⟩ j _ hj => ?_⟩, fun k hk => ?_⟩
  · have hx2 := hp.symm.subset hx
    obtain ⟨j, hj, rfl⟩ := List.mem_iff_getElem.1 hx2
    have := (h j (Nat.zero_le _) hj).1
    rw [rd33 S j hj] at this
    exact this
  · have up : ∀ p q : Nat, p < q → q < S.length → (rd_T33 S (p : Int)).f0 < (rd_T33 S (q : Int)).f0 := by
      intro p q
      induction q with
      | zero => intro h1; omega
      | succ q ih =>
        intro h1 h2
        have h3 := (h (q + 1) (Nat.zero_le _) h2).2 (by omega)
        rw [show q + 1 - 1 = q by omega] at h3
        by_cases hpq : p = q
        · subst hpq; omega
        · have := ih (by omega) (by omega)
          omega
    rw [List.pairwise_iff_getElem]
    intro i j hi hj hij
    have := up i j hij hj
    rw [rd33 S i hi, rd33 S j hj] at this
    omega
  · have g3 := pw.2 g2
    refine ⟨?_, fun h0 => ?_⟩
    · rw [rd33 S j hj]
      exact g1 _ (hp.subset (List.getElem_mem hj))
    · have q1 := List.pairwise_iff_getElem.1 g3 (j - 1) j (by omega) hj (by omega)
      have q2 := List.pairwise_iff_getElem.1 hso (j - 1) j (by omega) hj (by omega)
      rw [ltOf_id] at q2
      have q3 := of_decide_eq_false q2
      rw [rd33 S j hj, rd33 S (j - 1) (by omega)]
      omega
  · unfold impl_areItems.f
    rw [if_neg (by omega), hS]
    unfold impl_ItemsRight.f
    have := hf k (by omega)
    rw [show ((0 : Nat) : Int) = 0 from rfl] at this
    rw [this, decide_eq_true (by omega)]
    simp
theorem sorted_good (l : List S33) (h60 : l.length ≤ 60) (hg : Good l) : ∃ v, impl_sorted.f l = some v ∧ v.Perm l ∧ v.Pairwise lts := by
  have hall : allI l = true := List.all_eq_true.2 fun x hx => hg.1 x hx
  have hv := sub_val l (fun x hx => hg.1 x hx)
  have hp := (sort_perm cfO swo_O (sub_ l)).map (fun x => x.1)
  have hso := sort_sorted cfO swo_O (sub_ l)
  rw [hv] at hp
  refine ⟨_, by unfold impl_sorted.f; rw [if_pos ⟨by omega, hall⟩], hp, ?_⟩
  have pw : ((sortL cfO (sub_ l)).map fun x => x.1).Pairwise (fun x y => x.f0 ≠ y.f0) := (hp.pairwise_iff (fun h => fun e => h e.symm)).2 hg.2
  rw [List.pairwise_map] at pw ⊢
  exact hso.imp₂ (fun {x y} h1 h2 => by
    rw [ltOf_O] at h1
    have h3 : ¬ ltO y x := of_decide_eq_false h1
    exact lts_total (fun e => h2 e.symm) h3) pw

theorem impl_ratio_eq (a b c d e f : Int) (k : Nat) (hk : 3 < k) : impl_RatioCmp.f k a b c d e f = some (ratioCmp a b c d e f) := by
  unfold impl_RatioCmp.f ratioCmp
  rw [impl_item_eq, impl_item_eq]
  simp only [Option.bind_some]
  cases h1 : okI a b c with
  | false => simp
  | true =>
    cases h2 : okI d e f with
    | false => simp
    | true => simp [order_eq a b c d e f k hk h1 h2]

/-! ### The reference's sort -/
theorem spec_l1 (l o : List S33) (hl : l.length ≤ 60) (i : Nat) (hi : i < l.length) : ∀ (e j : Nat), i - j = e → j ≤ i → ∃ b : Bool, (b = true ↔ ∀ q : Nat, j ≤ q → q < i → (rd_T33 l (q : Int)).f0 ≠ (rd_T33 l (i : Int)).f0) ∧ ∀ k, spec_RatioSort.l1 (k + e + 1) l o (i : Int) (j : Int) = if b = true then spec_RatioSort.l0 k l o ((i + 1 : Nat) : Int) else some o := by
  intro e
  induction e with
  | zero =>
    intro j he hj
    obtain rfl : j = i := by omega
    refine ⟨true, ⟨fun _ q h1 h2 => by omega, fun _ => rfl⟩, fun k => ?_⟩
    simp only [Nat.add_zero, spec_RatioSort.l1]
    rw [if_neg (by omega), succ_cast j (by omega)]
    simp
  | succ e ih =>
    intro j he hj
    have a1 : (j : Int) < (i : Int) := by omega
    have a2 : (0 : Int) ≤ (j : Int) := by omega
    have a3 : (j : Int) < (l.length : Int) := by omega
    have a4 : (0 : Int) ≤ (i : Int) := by omega
    have a5 : (i : Int) < (l.length : Int) := by omega
    by_cases h : (rd_T33 l (j : Int)).f0 = (rd_T33 l (i : Int)).f0
    · refine ⟨false, ⟨(fun h => by cases h), fun hh => absurd h (hh j (Nat.le_refl _) (by omega))⟩, fun k => ?_⟩
      rw [spec_RatioSort.l1]
      simp only [a1, a2, a3, a4, a5, if_true, h]
      rfl
    · obtain ⟨b, hb, hk⟩ := ih (j + 1) (by omega) (by omega)
      refine ⟨b, hb.trans ⟨fun hh q h1 h2 => ?_, fun hh q h1 h2 => hh q (by omega) h2⟩, fun k => ?_⟩
      · by_cases hq : q = j
        · rw [hq]; exact h
        · exact hh q (by omega) h2
      · rw [show k + (e + 1) + 1 = (k + e + 1) + 1 by omega, spec_RatioSort.l1]
        simp only [a1, a2, a3, a4, a5, if_true, h, if_false, succ_cast j (by omega)]
        exact hk k
theorem spec_l0 (l o : List S33) (hl : l.length ≤ 60) : ∀ (d i : Nat), l.length - i = d → i ≤ l.length → ∃ b : Bool, (b = true ↔ ∀ j : Nat, i ≤ j → j < l.length → okI (rd_T33 l j).f0 (rd_T33 l j).f1 (rd_T33 l j).f2 = true ∧ ∀ q : Nat, q < j → (rd_T33 l (q : Int)).f0 ≠ (rd_T33 l (j : Int)).f0) ∧ ∃ c, c ≤ d * 62 + 1 ∧ ∀ k, spec_RatioSort.l0 (k + c) l o (i : Int) = if b = true then spec_RatioSort.l2 k l o 0 else some o := by
  intro d
  induction d with
  | zero =>
    intro i hd hi
    refine ⟨true, ⟨fun _ j h1 h2 => by omega, fun _ => rfl⟩, 1, by omega, fun k => ?_⟩
    rw [spec_RatioSort.l0, if_neg (by omega), if_pos rfl]
  | succ d ih =>
    intro i hd hi
    have a1 : (i : Int) < (l.length : Int) := by omega
    have a2 : (0 : Int) ≤ (i : Int) := by omega
    by_cases h : okI (rd_T33 l i).f0 (rd_T33 l i).f1 (rd_T33 l i).f2 = true
    · obtain ⟨b1, hb1, hk1⟩ := spec_l1 l o hl i (by omega) i 0 (by omega) (by omega)
      cases b1 with
      | false =>
        refine ⟨false, ⟨(fun h => by cases h), fun hh => ?_⟩, i + 2, by omega, fun k => ?_⟩
        · have := hb1.2 (fun q _ h2 => (hh i (Nat.le_refl _) (by omega)).2 q h2)
          cases this
        · rw [show k + (i + 2) = (k + i + 1) + 1 by omega, spec_RatioSort.l0]
          simp only [a1, a2, if_true, spec_item_eq, Option.bind_some, h]
          exact (hk1 k).trans (by simp)
      | true =>
        have hne := hb1.1 rfl
        obtain ⟨b2, hb2, c2, hc2, hk2⟩ := ih (i + 1) (by omega) (by omega)
        refine ⟨b2, hb2.trans ⟨fun hh j h1 h2 => ?_, fun hh j h1 h2 => hh j (by omega) h2⟩, c2 + i + 2, by omega, fun k => ?_⟩
        · by_cases hj : j = i
          · rw [hj]; exact ⟨h, fun q hq => hne q (Nat.zero_le _) hq⟩
          · exact hh j (by omega) h2
        · rw [show k + (c2 + i + 2) = ((k + c2) + i + 1) + 1 by omega, spec_RatioSort.l0]
          simp only [a1, a2, if_true, spec_item_eq, Option.bind_some, h]
          refine (hk1 (k + c2)).trans ?_
          rw [if_pos rfl]
          exact hk2 k
    · refine ⟨false, ⟨(fun h => by cases h), fun hh => absurd (hh i (Nat.le_refl _) (by omega)).1 h⟩, 1, by omega, fun k => ?_⟩
      rw [spec_RatioSort.l0]
      simp only [a1, a2, if_true, spec_item_eq, Option.bind_some, h]
      simp
theorem spec_l3 (l o : List S33) (hl : l.length ≤ 60) (ho : o.length ≤ 60) (i : Nat) (hi : i < l.length) (hx : OkS l[i]) (hok : ∀ y ∈ o, OkS y) : ∀ (e a : Nat), o.length - a = e → a ≤ o.length →
    ∃ p, a ≤ p ∧ p ≤ o.length ∧ (∀ (q : Nat) (hq : q < o.length), a ≤ q → q < p → lts o[q] l[i]) ∧ (∀ hp : p < o.length, ¬ lts o[p] l[i]) ∧ ∃ c, c ≤ e + 1 ∧ ∀ k, 300 < k → spec_RatioSort.l3 (k + c) l o (i : Int) (a : Int) = spec_RatioSort.l2 k l (o.take p ++ [l[i]] ++ o.drop p) ((i + 1 : Nat) : Int) := by
  have b1 : (0 : Int) ≤ (i : Int) := by omega
  have b2 : (i : Int) < (l.length : Int) := by omega
  intro e
  induction e with
  | zero =>
    intro a he ha
    obtain rfl : a = o.length := by omega
    refine ⟨o.length, Nat.le_refl _, Nat.le_refl _, fun q hq h1 h2 => by omega, fun hp => by omega, 1, by omega, fun k hk => ?_⟩
    have b3 : (o.take o.length).length < 5864062014805 := by simp; omega
    have b4 : (o.take o.length ++ [(⟨l[i].f0, l[i].f1, l[i].f2⟩ : S33)]).length + (o.drop o.length).length < 5864062014805 := by simp; omega
    rw [spec_RatioSort.l3, if_neg (by omega)]
    simp only [Option.bind_some, List.nil_append, List.length_nil, Nat.zero_add, b1, b2, if_true, Int.toNat_natCast, rd33 l i hi, Int.natCast_nonneg, Int.le_refl, b3, b4, succ_cast i (by omega)]
    try rfl
  | succ e ih =>
    intro a he ha
    have ha2 : a < o.length := by omega
    have a1 : (a : Int) < (o.length : Int) := by omega
    have a2 : (0 : Int) ≤ (a : Int) := by omega
    have a3 : (a : Int) ≤ (o.length : Int) := by omega
    by_cases h : lts o[a] l[i]
    · obtain ⟨p, hp1, hp2, hp3, hp4, c, hc, hk⟩ := ih (a + 1) (by omega) (by omega)
      refine ⟨p, by omega, hp2, fun q hq h1 h2 => ?_, hp4, c + 1, by omega, fun k hk2 => ?_⟩
      · by_cases hqa : q = a
        · subst hqa; exact h
        · exact hp3 q hq (by omega) h2
      · obtain ⟨v, hv, hvl⟩ := cmp_lts (hok _ (List.getElem_mem ha2)) hx (k + c) (by omega)
        rw [← Nat.add_assoc, spec_RatioSort.l3]
        simp only [a1, a2, b1, b2, if_true, rd33 o a ha2, rd33 l i hi]
        rw [hv]
        simp only [Option.bind_some]
        rw [if_pos (hvl.2 h), succ_cast a (by omega)]
        exact hk k hk2
    · refine ⟨a, Nat.le_refl _, ha, fun q hq h1 h2 => by omega, fun _ => h, 1, by omega, fun k hk2 => ?_⟩
      obtain ⟨v, hv, hvl⟩ := cmp_lts (hok _ (List.getElem_mem ha2)) hx k (by omega)
      have b3 : (o.take a).length < 5864062014805 := by rw [List.length_take]; omega
      have b4 : (o.take a ++ [(⟨l[i].f0, l[i].f1, l[i].f2⟩ : S33)]).length + (o.drop a).length < 5864062014805 := by simp; omega
      rw [spec_RatioSort.l3]
      simp only [a1, a2, b1, b2, if_true, rd33 o a ha2, rd33 l i hi]
      rw [hv]
      simp only [Option.bind_some]
      rw [if_neg (fun h9 => h (hvl.1 h9))]
      simp only [a3, if_true, List.nil_append, List.length_nil, Nat.zero_add, Int.toNat_natCast, b3, b4, succ_cast i (by omega)]
      try rfl
theorem spec_l2 (l : List S33) (hl : l.length ≤ 60) (hg : Good l) : ∀ (d i : Nat) (o : List S33), l.length - i = d → i ≤ l.length → o.Perm (l.take i) → o.Pairwise lts → ∃ r, r.Perm l ∧ r.Pairwise lts ∧ ∃ c, c ≤ d * 63 + 1 ∧ ∀ k, 300 < k → spec_RatioSort.l2 (k + c) l o (i : Int) = some r := by
  intro d
  induction d with
  | zero =>
    intro i o hd hi hp hw
    obtain rfl : i = l.length := by omega
    refine ⟨o, by rwa [List.take_length] at hp, hw, 1, by omega, fun k _ => ?_⟩
    rw [spec_RatioSort.l2, if_neg (by omega)]
  | succ d ih =>
    intro i o hd hi hp hw
    have hlt : i < l.length := by omega
    have hol : o.length = i := by rw [hp.length_eq, List.length_take]; omega
    have hok : ∀ y ∈ o, OkS y := fun y hy => hg.1 y (List.mem_of_mem_take (hp.subset hy))
    have hx : OkS l[i] := hg.1 _ (List.getElem_mem hlt)
    have hne : ∀ y ∈ o, y.f0 ≠ l[i].f0 := fun y hy => by
      have hy2 := hp.subset hy
      obtain ⟨q, hq, rfl⟩ := List.mem_iff_getElem.1 hy2
      rw [List.length_take] at hq
      rw [List.getElem_take]
      exact List.pairwise_iff_getElem.1 hg.2 q i (by omega) hlt (by omega)
    obtain ⟨p, _, hp2, hp3, hp4, c3, hc3, hk3⟩ := spec_l3 l o hl (by omega) i hlt hx hok o.length 0 (by omega) (by omega)
    have perm : (o.take p ++ [l[i]] ++ o.drop p).Perm (l.take (i + 1)) := by
      rw [List.take_succ_eq_append_getElem hlt]
      refine List.Perm.trans ?_ (hp.append_right [l[i]])
      have : (o.take p ++ ([l[i]] ++ o.drop p)).Perm (o.take p ++ (o.drop p ++ [l[i]])) := List.Perm.append_left _ List.perm_append_comm
      rw [← List.append_assoc, ← List.append_assoc, List.take_append_drop] at this
      exact this
    have rise : (o.take p ++ [l[i]] ++ o.drop p).Pairwise lts := by
      rw [List.append_assoc, List.pairwise_append, List.singleton_append, List.pairwise_cons]
      have low : ∀ y ∈ o.take p, lts y l[i] := fun y hy => by
        obtain ⟨q, hq, rfl⟩ := List.mem_iff_getElem.1 hy
        rw [List.length_take] at hq
        rw [List.getElem_take]
        exact hp3 q (by omega) (Nat.zero_le _) (by omega)
      have high : ∀ z ∈ o.drop p, lts l[i] z := fun z hz => by
        obtain ⟨q, hq, rfl⟩ := List.mem_iff_getElem.1 hz
        rw [List.length_drop] at hq
        rw [List.getElem_drop]
        have hpl : p < o.length := by omega
        have h1 : lts l[i] o[p] := lts_total (hne _ (List.getElem_mem hpl)) (hp4 hpl)
        by_cases h0 : q = 0
        · subst h0; exact h1
        · exact lts_trans hx (hok _ (List.getElem_mem hpl)) (hok _ (List.getElem_mem (by omega))) h1 (List.pairwise_iff_getElem.1 hw p (p + q) hpl (by omega) (by omega))
      refine ⟨hw.sublist (List.take_sublist _ _), ⟨high, hw.sublist (List.drop_sublist _ _)⟩, fun y hy z hz => ?_⟩
      rw [List.mem_cons] at hz
      rcases hz with hz | hz
      · rw [hz]; exact low y hy
      · exact lts_trans (hok _ (List.mem_of_mem_take hy)) hx (hok _ (List.mem_of_mem_drop hz)) (low y hy) (high z hz)
    obtain ⟨r, hr1, hr2, c, hc, hk⟩ := ih (i + 1) _ (by omega) (by omega) perm rise
    refine ⟨r, hr1, hr2, c + c3 + 1, by omega, fun k hk2 => ?_⟩
    rw [show k + (c + c3 + 1) = ((k + c) + c3) + 1 by omega, spec_RatioSort.l2, if_pos (by omega)]
    refine (hk3 (k + c) (by omega)).trans ?_
    exact hk k hk2
theorem same (l : List S33) (hl : l.length < 9223372036854775807) : ∃ v, (v = [] ∨ Good l ∧ v.Perm l ∧ v.Pairwise lts) ∧ ∀ k, l.length + 10000 < k → spec_RatioSort.f k l = some v ∧ impl_RatioSort.f k l = some v := by
  unfold spec_RatioSort.f impl_RatioSort.f
  simp only [Option.bind_some]
  by_cases h : (l.length : Int) > 60
  · refine ⟨[], Or.inl rfl, fun k hk => ⟨by rw [if_pos h], ?_⟩⟩
    unfold impl_areItems.f
    rw [if_pos h]
    rfl
  · obtain ⟨b, hb, hf⟩ := items_good l (by omega)
    obtain ⟨b2, hb2, c, hc, hk2⟩ := spec_l0 l [] (by omega) l.length 0 (by omega) (by omega)
    have e : b2 = true ↔ Good l := hb2.trans ⟨fun hh => ⟨fun x hx => ?_, List.pairwise_iff_getElem.2 fun q j hq hj hqj => ?_⟩, fun ⟨g1, g2⟩ j _ hj => ⟨?_, fun q hq => ?_⟩⟩
    · have hb' : b = b2 := Bool.eq_iff_iff.2 (hb.trans e.symm)
      subst hb'
      cases b with
      | false =>
        refine ⟨[], Or.inl rfl, fun k hk => ⟨?_, ?_⟩⟩
        · rw [if_neg h]
          have := hk2 (k - c)
          rw [show k - c + c = k by omega] at this
          exact this
        · rw [hf k (by omega)]; rfl
      | true =>
        have hg := hb.1 rfl
        obtain ⟨r, hr1, hr2, c3, hc3, hk3⟩ := spec_l2 l (by omega) hg l.length 0 [] (by omega) (by omega) (by simp) List.Pairwise.nil
        obtain ⟨v, hv, hv1, hv2⟩ := sorted_good l (by omega) hg
        have hrv : r = v := uniq r v (hr1.trans hv1.symm) hr2 hv2
        subst hrv
        refine ⟨r, Or.inr ⟨hg, hr1, hr2⟩, fun k hk => ⟨?_, ?_⟩⟩
        · rw [if_neg h]
          have := hk2 (k - c)
          rw [show k - c + c = k by omega] at this
          refine this.trans ?_
          rw [if_pos rfl]
          have := hk3 (k - c - c3) (by omega)
          rw [show k - c - c3 + c3 = k - c by omega] at this
          exact this
        · rw [hf k (by omega), hv]; rfl
    · obtain ⟨j, hj, rfl⟩ := List.mem_iff_getElem.1 hx
      have := (hh j (Nat.zero_le _) hj).1
      rw [rd33 l j hj] at this
      exact this
    · have := (hh j (Nat.zero_le _) hj).2 q hqj
      rw [rd33 l j hj, rd33 l q hq] at this
      exact this
    · rw [rd33 l j hj]; exact g1 _ (List.getElem_mem hj)
    · rw [rd33 l j hj, rd33 l q (by omega)]
      exact List.pairwise_iff_getElem.1 g2 q j (by omega) hj hq

/-! The drawn numbers: whatever the code, each draw answers, within its bounds. -/
def St (l : List Int) (a : Int) : Prop := l.length ≤ 140737488351232 ∧ 0 ≤ a ∧ a ≤ 140737488351232
theorem u64w (x : Int) : 0 ≤ IntKind.u64.wrap x ∧ IntKind.u64.wrap x < 18446744073709551616 := by rw [w64]; omega
theorem n_ok {l : List Int} {a : Int} (h : St l a) (m z t : Int) (ht : t ≤ 4611686018427387904) : ∃ r a' m', spec_l01Src_n.f l a m z t = some (r, a', m', z) ∧ St l a' ∧ 0 ≤ r ∧ (r = 0 ∨ r < t) := by
  unfold St at h
  obtain ⟨h1, h2, h3⟩ := h
  unfold spec_l01Src_n.f
  by_cases c1 : t ≤ 1
  · rw [if_pos c1]
    exact ⟨0, a, m, rfl, ⟨h1, h2, h3⟩, by omega, Or.inl rfl⟩
  · rw [if_neg c1]
    have wt : IntKind.u64.wrap t = t := by rw [w64]; omega
    have hr : ∀ x, 0 ≤ wrap64 (Int.tmod (IntKind.u64.wrap x) t) ∧ wrap64 (Int.tmod (IntKind.u64.wrap x) t) < t := fun x => by
      have b := u64w x
      generalize IntKind.u64.wrap x = y at *
      rw [Int.tmod_eq_emod_of_nonneg b.1]
      have e1 := Int.emod_nonneg y (show t ≠ 0 by omega)
      have e2 := Int.emod_lt_of_pos y (show 0 < t by omega)
      rw [wrap_small (by omega) (by omega)]
      exact ⟨e1, e2⟩
    by_cases c2 : a < (l.length : Int)
    · rw [if_pos c2, if_pos h2, wt, if_neg (show ¬ t = 0 by omega)]
      have e := wrap_small (x := a + 1) (by omega) (by omega)
      exact ⟨_, _, _, rfl, ⟨h1, by rw [e]; omega, by rw [e]; omega⟩, (hr _).1, Or.inr (hr _).2⟩
    · rw [if_neg c2, wt, if_neg (show ¬ t = 0 by omega)]
      exact ⟨_, _, _, rfl, ⟨h1, h2, h3⟩, (hr _).1, Or.inr (hr _).2⟩
theorem one_ok {l : List Int} {a : Int} (h : St l a) (m z t : Int) (ht : t ≤ 4611686018427387904) : ∃ b a' m', spec_l01Src_one.f l a m z t = some (b, a', m', z) ∧ St l a' := by
  obtain ⟨r, a', m', e, h', _, _⟩ := n_ok h m z t ht
  unfold spec_l01Src_one.f
  rw [e]
  exact ⟨_, _, _, rfl, h'⟩

theorem source_loop (l : List Int) (hl : l.length ≤ 140737488351232) : ∀ (d i k : Nat) (m : Int), 64 - i = d → i ≤ 64 → d < k → ∃ m' z, spec_l01Source.l0 k l (i : Int) l 0 m 0 = some (l, 0, m', z) ∧ 0 ≤ z ∧ z ≤ 12 := by
  have e := wrap_small (x := (l.length : Int) / 20) (by omega) (by omega)
  intro d
  induction d with
  | zero =>
    intro i k m hd hi hk
    obtain ⟨k, rfl⟩ : ∃ j, k = j + 1 := ⟨k - 1, by omega⟩
    rw [spec_l01Source.l0, if_neg (show ¬ (i : Int) < 64 by omega), e]
    (repeat' split) <;> exact ⟨_, _, rfl, by omega, by omega⟩
  | succ d ih =>
    intro i k m hd hi hk
    obtain ⟨k, rfl⟩ : ∃ j, k = j + 1 := ⟨k - 1, by omega⟩
    rw [spec_l01Source.l0, if_pos (show (i : Int) < 64 by omega), if_pos (show 0 ≤ (i : Int) by omega), wrap_small (show -9223372036854775808 ≤ (i : Int) + 1 by omega) (show (i : Int) + 1 ≤ 9223372036854775807 by omega), e]
    by_cases c : (i : Int) < (l.length : Int)
    · rw [if_pos c]
      exact ih (i + 1) k _ (by omega) (by omega) (by omega)
    · rw [if_neg c]
      (repeat' split) <;> exact ⟨_, _, rfl, by omega, by omega⟩
theorem source_ok (l : List Int) (hl : l.length ≤ 140737488351232) (k : Nat) (hk : 70 < k) : ∃ m z, spec_l01Source.f k l = some (l, 0, m, z) ∧ 0 ≤ z ∧ z ≤ 12 := source_loop l hl 64 0 k _ rfl (by omega) (by omega)
theorem want_ok {l : List Int} {a : Int} (h : St l a) (m z : Int) : ∃ r a' m', spec_l01Src_l02WantOf.f l a m z = some (r, a', m', z) ∧ St l a' := by
  obtain ⟨r, a1, m1, e, h1, _, _⟩ := n_ok h m z 12 (by omega)
  unfold spec_l01Src_l02WantOf.f
  rw [e]
  simp only [Option.bind_some]
  obtain ⟨r2, a2, m2, e2, h2, _, _⟩ := n_ok h1 m1 z 1125899906842624 (by omega)
  obtain ⟨r3, a3, m3, e3, h3, _, _⟩ := n_ok h1 m1 z 60 (by omega)
  by_cases c0 : r = 0
  · rw [if_pos c0]; exact ⟨_, _, _, rfl, h1⟩
  rw [if_neg c0]
  by_cases c1 : r = 1
  · rw [if_pos c1, e2]; exact ⟨_, _, _, rfl, h2⟩
  rw [if_neg c1]
  by_cases c2 : r = 2
  · rw [if_pos c2]; exact ⟨_, _, _, rfl, h1⟩
  rw [if_neg c2, e3]
  exact ⟨_, _, _, rfl, h3⟩

theorem weight_ok {l : List Int} {a : Int} (h : St l a) (m z : Int) : ∃ r a' m', spec_l01Src_l02WeightOf.f l a m z = some (r, a', m', z) ∧ St l a' := by
  obtain ⟨r, a1, m1, e, h1, _, _⟩ := n_ok h m z 14 (by omega)
  unfold spec_l01Src_l02WeightOf.f
  rw [e]
  simp only [Option.bind_some]
  obtain ⟨r2, a2, m2, e2, h2, _, _⟩ := n_ok h1 m1 z 1073741824 (by omega)
  obtain ⟨r3, a3, m3, e3, h3, _, _⟩ := n_ok h1 m1 z 6 (by omega)
  by_cases c0 : r = 0
  · rw [if_pos c0, e2]; exact ⟨_, _, _, rfl, h2⟩
  rw [if_neg c0]
  by_cases c1 : r = 1
  · rw [if_pos c1]; exact ⟨_, _, _, rfl, h1⟩
  rw [if_neg c1, e3]
  exact ⟨_, _, _, rfl, h3⟩
theorem item_ok {l : List Int} {a : Int} (h : St l a) (m z id : Int) : ∃ x y w a' m', spec_l01Src_l02Item.f l a m z id = some (x, y, w, a', m', z) ∧ St l a' := by
  obtain ⟨r1, a1, m1, e1, h1⟩ := want_ok h m z
  obtain ⟨r2, a2, m2, e2, h2⟩ := weight_ok h1 m1 z
  obtain ⟨b, a3, m3, e3, h3⟩ := one_ok h2 m2 z 150 (by omega)
  unfold spec_l01Src_l02Item.f
  rw [e1]
  simp only [Option.bind_some]
  rw [e2]
  simp only [Option.bind_some]
  rw [e3]
  simp only [Option.bind_some]
  cases b with
  | false => rw [if_neg (by decide)]; exact ⟨_, _, _, _, _, rfl, h3⟩
  | true =>
    obtain ⟨r4, a4, m4, e4, h4, _, _⟩ := n_ok h3 m3 z 3 (by omega)
    obtain ⟨r5, a5, m5, e5, h5, s0, s1⟩ := n_ok h4 m4 z 3 (by omega)
    obtain ⟨r6, a6, m6, e6, h6, t0, t1⟩ := n_ok h4 m4 z 2 (by omega)
    rw [if_pos rfl, e4]
    simp only [Option.bind_some, List.length_cons, List.length_nil]
    by_cases c0 : r4 = 0
    · rw [if_pos c0, e5]
      simp only [Option.bind_some]
      rw [if_pos s0, if_pos (by omega)]
      exact ⟨_, _, _, _, _, rfl, h5⟩
    rw [if_neg c0]
    by_cases c1 : r4 = 1
    · rw [if_pos c1, e6]
      simp only [Option.bind_some]
      rw [if_pos t0, if_pos (by omega)]
      exact ⟨_, _, _, _, _, rfl, h6⟩
    rw [if_neg c1, e6]
    simp only [Option.bind_some]
    rw [if_pos t0, if_pos (by omega)]
    exact ⟨_, _, _, _, _, rfl, h6⟩
theorem items_l0 {l : List Int} (z : Int) : ∀ (d k : Nat) (a m p : Int) (x : List S33), St l a → d + x.length ≤ 100 → d < k → ∃ v a' m', spec_l01Src_l02Items.l0 k x (d : Int) p l a m z = some (v, a', m', z) ∧ St l a' ∧ v.length ≤ 100 := by
  intro d
  induction d with
  | zero =>
    intro k a m p x h hx hk
    obtain ⟨k, rfl⟩ : ∃ j, k = j + 1 := ⟨k - 1, by omega⟩
    rw [spec_l01Src_l02Items.l0, if_neg (by omega)]
    exact ⟨_, _, _, rfl, h, by omega⟩
  | succ d ih =>
    intro k a m p x h hx hk
    obtain ⟨k, rfl⟩ : ∃ j, k = j + 1 := ⟨k - 1, by omega⟩
    obtain ⟨r, a1, m1, e1, h1, _, _⟩ := n_ok h m z 3 (by omega)
    obtain ⟨x1, y1, w1, a2, m2, e2, h2⟩ := item_ok h1 m1 z (wrap64 ((wrap64 (p + 1)) + r))
    rw [spec_l01Src_l02Items.l0, if_pos (by omega), e1]
    simp only [Option.bind_some]
    rw [e2]
    simp only [Option.bind_some]
    rw [if_pos (by omega), show wrap64 (((d + 1 : Nat) : Int) - 1) = (d : Int) by unfold wrap64; omega]
    exact ih k a2 m2 _ _ h2 (by simp; omega) (by omega)
theorem l02_ok {l : List Int} {a : Int} (h : St l a) (m z : Int) (hz0 : 0 ≤ z) (hz : z ≤ 12) (k : Nat) (hk : 100 < k) : ∃ v a' m', spec_l01Src_l02Items.f k l a m z = some (v, a', m', z) ∧ St l a' ∧ v.length ≤ 100 := by
  obtain ⟨k, rfl⟩ : ∃ j, k = j + 1 := ⟨k - 1, by omega⟩
  have ez : wrap64 (5 + z) = 5 + z := wrap_small (by omega) (by omega)
  obtain ⟨r, a1, m1, e1, h1, r0, r1⟩ := n_ok h m z (5 + z) (by omega)
  obtain ⟨b, a2, m2, e2, h2⟩ := one_ok h1 m1 z 40 (by omega)
  obtain ⟨s, a3, m3, e3, h3, s0, s1⟩ := n_ok h2 m2 z 3 (by omega)
  unfold spec_l01Src_l02Items.f
  rw [ez]
  simp only [Option.bind_some]
  rw [e1]
  simp only [Option.bind_some]
  rw [e2]
  simp only [Option.bind_some]
  cases b with
  | true =>
    rw [if_pos rfl, e3]
    simp only [Option.bind_some, spec_l01Src_l02Items.j0]
    rw [show wrap64 (59 + s) = ((59 + s).toNat : Int) by rw [wrap_small (by omega) (by omega)]; omega]
    exact items_l0 z _ k a3 m3 _ _ h3 (by simp; omega) (by omega)
  | false =>
    rw [if_neg (by decide)]
    simp only [spec_l01Src_l02Items.j0]
    rw [show r = (r.toNat : Int) by omega]
    exact items_l0 z _ k a2 m2 _ _ h2 (by simp; omega) (by omega)
theorem swap_l0 {l : List Int} (z : Int) : ∀ (d i k : Nat) (a m : Int) (x : List S33), x.length - i = d → i ≤ x.length → x.length ≤ 100 → St l a → d < k → ∃ v, spec_DrawRatioSort.l0 k x (i : Int) l a m z = some v ∧ v.length ≤ 100 := by
  intro d
  induction d with
  | zero =>
    intro i k a m x hd hi hx h hk
    obtain ⟨k, rfl⟩ : ∃ j, k = j + 1 := ⟨k - 1, by omega⟩
    obtain ⟨b, a1, m1, e1, h1⟩ := one_ok h m z 20 (by omega)
    rw [spec_DrawRatioSort.l0, if_neg (by omega), e1]
    simp only [Option.bind_some]
    cases b with
    | false => rw [if_neg (by decide)]; exact ⟨_, rfl, hx⟩
    | true =>
      rw [if_pos rfl]
      by_cases c : (x.length : Int) > 1
      · rw [if_pos c, if_pos (by omega), if_pos (by omega)]
        exact ⟨_, rfl, by simp; omega⟩
      · rw [if_neg c]; exact ⟨_, rfl, hx⟩
  | succ d ih =>
    intro i k a m x hd hi hx h hk
    obtain ⟨k, rfl⟩ : ∃ j, k = j + 1 := ⟨k - 1, by omega⟩
    obtain ⟨r, a1, m1, e1, h1, r0, r1⟩ := n_ok h m z (x.length : Int) (by omega)
    rw [spec_DrawRatioSort.l0, if_pos (by omega), e1]
    simp only [Option.bind_some]
    rw [if_pos (by omega), if_pos r0, if_pos (by omega), succ_cast i (by omega)]
    exact ih (i + 1) k a1 m1 _ (by simp; omega) (by simp; omega) (by simp; omega) h1 (by omega)
theorem draw_ok (l : List Int) (hl : l.length ≤ 140737488351232) (k : Nat) (hk : 101 < k) : ∃ v, spec_DrawRatioSort.f k l = some v ∧ v.length ≤ 100 := by
  have hs : St l 0 := ⟨hl, by omega, by omega⟩
  obtain ⟨m, z, e, z0, z1⟩ := source_ok l hl k (by omega)
  unfold spec_DrawRatioSort.f
  rw [e]
  simp only [Option.bind_some]
  obtain ⟨v, a1, m1, e1, h1, hv⟩ := l02_ok hs m z z0 z1 k (by omega)
  rw [e1]
  simp only [Option.bind_some]
  exact swap_l0 z v.length 0 k a1 m1 v (by omega) (by omega) hv h1 (by omega)

theorem cmp_minus {x y : S33} (hx : OkS x) (hy : OkS y) (h : lts x y) (k : Nat) (hk : 3 < k) : impl_RatioCmp.f k x.f0 x.f1 x.f2 y.f0 y.f1 y.f2 = some (-1) ∧ impl_RatioCmp.f k y.f0 y.f1 y.f2 x.f0 x.f1 x.f2 = some 1 := by
  rw [impl_ratio_eq _ _ _ _ _ _ k hk, impl_ratio_eq _ _ _ _ _ _ k hk]
  unfold OkS at hx hy
  unfold ratioCmp
  rw [hx, hy]
  unfold lts at h
  unfold cmpInt
  generalize x.f1 * y.f2 = p at *
  generalize y.f1 * x.f2 = q at *
  simp only [Bool.and_self, if_true, Option.some.injEq]
  constructor
  · (repeat' split) <;> omega
  · (repeat' split) <;> omega
theorem law_l1 (l o : List S33) (hl : l.length ≤ 100) (ho : o.length ≤ 100) (i : Nat) (hi : i < o.length) (hok : ∀ y ∈ o, OkS y) (hw : o.Pairwise lts) : ∀ (e j : Nat) (b : Bool), l.length - j = e → j ≤ l.length → (b = true ∨ ∃ q : Nat, ∃ hq : q < l.length, j ≤ q ∧ l[q] = o[i]) → ∀ k, 10 < k → laws_FnRatioSort.l1 (k + e + 1) l o (i : Int) b (j : Int) = laws_FnRatioSort.l0 k l o ((i + 1 : Nat) : Int) := by
  have b1 : (0 : Int) ≤ (i : Int) := by omega
  have b2 : (i : Int) < (o.length : Int) := by omega
  intro e
  induction e with
  | zero =>
    intro j b he hj hb k hk
    have hbt : b = true := by
      rcases hb with h | ⟨q, hq, h1, _⟩
      · exact h
      · omega
    subst hbt
    rw [Nat.add_zero, laws_FnRatioSort.l1, if_neg (by omega), if_pos rfl]
    by_cases h0 : (i : Int) > 0
    · have hlt2 : i - 1 < o.length := by omega
      have a3 : (0 : Int) ≤ ((i - 1 : Nat) : Int) := by omega
      have a4 : ((i - 1 : Nat) : Int) < (o.length : Int) := by omega
      have hc := cmp_minus (hok _ (List.getElem_mem hlt2)) (hok _ (List.getElem_mem hi)) (List.pairwise_iff_getElem.1 hw (i - 1) i hlt2 hi (by omega)) k (by omega)
      rw [if_pos h0]
      simp only [pred_cast i (by omega) (by omega), a3, a4, b1, b2, if_true, rd33 o (i - 1) hlt2, rd33 o i hi, hc.1, hc.2, Option.bind_some, succ_cast i (by omega)]
    · rw [if_neg h0, succ_cast i (by omega)]
  | succ e ih =>
    intro j b he hj hb k hk
    have hlt : j < l.length := by omega
    have a1 : (j : Int) < (l.length : Int) := by omega
    have a2 : (0 : Int) ≤ (j : Int) := by omega
    rw [show k + (e + 1) + 1 = (k + e + 1) + 1 by omega, laws_FnRatioSort.l1, if_pos a1, succ_cast j (by omega)]
    cases b with
    | true =>
      rw [if_pos rfl]
      exact ih (j + 1) true (by omega) (by omega) (Or.inl rfl) k hk
    | false =>
      rw [if_neg (by decide), if_pos a2, if_pos b1, if_pos b2, rd33 l j hlt, rd33 o i hi]
      refine ih (j + 1) _ (by omega) (by omega) ?_ k hk
      rcases hb with h | ⟨q, hq, h1, h2⟩
      · cases h
      · by_cases hqj : q = j
        · subst hqj
          rw [h2]
          exact Or.inl (by simp)
        · exact Or.inr ⟨q, hq, by omega, h2⟩
theorem law_l0 (l o : List S33) (hl : l.length ≤ 100) (ho : o.length ≤ 100) (hok : ∀ y ∈ o, OkS y) (hw : o.Pairwise lts) (hin : ∀ y ∈ o, y ∈ l) : ∀ (d i : Nat), o.length - i = d → i ≤ o.length → ∃ c, c ≤ d * 102 + 1 ∧ ∀ k, 10 < k → laws_FnRatioSort.l0 (k + c) l o (i : Int) = some true := by
  intro d
  induction d with
  | zero =>
    intro i hd hi
    refine ⟨1, by omega, fun k hk => ?_⟩
    rw [laws_FnRatioSort.l0, if_neg (by omega)]
  | succ d ih =>
    intro i hd hi
    obtain ⟨c, hc, hk⟩ := ih (i + 1) (by omega) (by omega)
    refine ⟨c + l.length + 2, by omega, fun k hk2 => ?_⟩
    have hlt : i < o.length := by omega
    obtain ⟨q, hq, he⟩ := List.mem_iff_getElem.1 (hin _ (List.getElem_mem hlt))
    rw [show k + (c + l.length + 2) = ((k + c) + l.length + 1) + 1 by omega, laws_FnRatioSort.l0, if_pos (by omega)]
    refine (law_l1 l o hl ho i hlt hok hw l.length 0 false (by omega) (by omega) (Or.inr ⟨q, hq, Nat.zero_le _, he⟩) (k + c) (by omega)).trans ?_
    exact hk k hk2
theorem FnRatioSort : laws_FnRatioSort.Pure := by
  intro l0 _ hl0 _
  refine ⟨30000, ?_⟩
  unfold laws_FnRatioSort.f
  by_cases s0 : (l0.length : Int) > 1048576
  · rw [if_pos s0]
  rw [if_neg s0]
  obtain ⟨l, hd, hl⟩ := draw_ok l0 (by omega) 30000 (by omega)
  rw [hd]
  simp only [Option.bind_some]
  obtain ⟨v, hv, hs⟩ := same l (by omega)
  obtain ⟨h1, h2⟩ := hs 30000 (by omega)
  have hlw : laws_lwItems.f l = some l := by
    unfold laws_lwItems.f
    simp only [Option.bind_some, List.nil_append, List.length_nil, Nat.zero_add]
    rw [if_pos (by omega)]
  rw [h1]
  simp only [Option.bind_some]
  rw [hlw]
  simp only [Option.bind_some]
  rw [h2]
  simp only [Option.bind_some]
  rcases hv with hv | ⟨hg, hp, hw⟩
  · subst hv
    by_cases hz : l.length = 0
    · have hln : l = [] := List.length_eq_zero_iff.1 hz
      subst hln
      rw [if_pos rfl, if_pos rfl]
      obtain ⟨c, hc, hk⟩ := law_l0 [] [] (by simp) (by simp) (by simp) List.Pairwise.nil (by simp) 0 0 rfl (by simp)
      have := hk (30000 - c) (by omega)
      rw [show 30000 - c + c = 30000 by omega] at this
      exact this
    · rw [if_neg (by simp; omega)]
      rfl
  · have hlen := hp.length_eq
    rw [if_pos (by omega), if_pos (by omega)]
    obtain ⟨c, hc, hk⟩ := law_l0 l v hl (by omega) (fun y hy => hg.1 y (hp.subset hy)) hw (fun y hy => hp.subset hy) v.length 0 (by omega) (by omega)
    have := hk (30000 - c) (by omega)
    rw [show 30000 - c + c = 30000 by omega] at this
    exact this
end Go.Proofs.Ytenlceojmjkbkaa.Pure
