/- RatioSort answers as the reference does, for every list of Items, keeps nothing of its argument and owns its answer. Conditions: none beyond the statement's own bounds. -/
import Derived.Test.YtenlceojmjkbkaaBridgeFnExactRatioSort
namespace Go.Proofs.Ytenlceojmjkbkaa.Pure
open Go.RowKit Go.Proofs.Ytenlceojmjkbkaa.XFnExactRatioSort Go.Proofs.Ytenlceojmjkbkaa.BridgeFnExactRatioSort Go.Proofs.YtenlceojmjkbkaaW.PrintWords Go.Proofs.YtenlceojmjkbkaaW.PrintLast Go.Proofs.YtenlceojmjkbkaaW.PrintMore
set_option linter.unusedVariables false
set_option linter.unusedSimpArgs false

theorem rd71 (xs : List S71) (i : Nat) (h : i < xs.length) : rd_T71 xs (i : Int) = xs[i] := by
  unfold rd_T71
  rw [Int.toNat_natCast, List.getD_eq_getElem?_getD, List.getElem?_eq_getElem h]
  rfl

theorem rd33 (xs : List S33) (i : Nat) (h : i < xs.length) : rd_T33 xs (i : Int) = xs[i] := by
  unfold rd_T33
  rw [Int.toNat_natCast, List.getD_eq_getElem?_getD, List.getElem?_eq_getElem h]
  rfl

theorem wrap_small {x : Int} (h0 : -9223372036854775808 ≤ x) (h1 : x ≤ 9223372036854775807) : wrap64 x = x := by
  unfold wrap64
  omega
theorem i64_range {x : Int} (h : (Lit.int .i64 x).wf = true) : -9223372036854775808 ≤ x ∧ x ≤ 9223372036854775807 := by
  simp [Lit.wf, IntKind.min, IntKind.max, IntKind.bits, IntKind.signed] at h
  omega
theorem u64_range {x : Int} (h : (Lit.int .u64 x).wf = true) : 0 ≤ x ∧ x < 18446744073709551616 := by
  simp [Lit.wf, IntKind.min, IntKind.max, IntKind.bits, IntKind.signed] at h
  omega

theorem in_eq (a b c : Int) : impl_in.f a b c = some (decide (b ≤ a ∧ a ≤ c)) := by
  unfold impl_in.f
  by_cases h : b ≤ a <;> simp [h]

theorem isId_eq (a : Int) : impl_isId.f a = some (decide (1 ≤ a ∧ a ≤ 1000000)) := by simp [impl_isId.f, in_eq]
theorem isWant_eq (a : Int) : impl_isWant.f a = some (decide (0 ≤ a ∧ a ≤ 1125899906842624)) := by simp [impl_isWant.f, in_eq]
theorem l02Id_eq (a : Int) : spec_l02Id.f a = some (decide (1 ≤ a ∧ a ≤ 1000000)) := by
  unfold spec_l02Id.f
  by_cases h : a ≥ 1
  · rw [if_pos h]; simp; omega
  · rw [if_neg h]; simp; omega
theorem l02Want_eq (a : Int) : spec_l02Want.f a = some (decide (0 ≤ a ∧ a ≤ 1125899906842624)) := by
  unfold spec_l02Want.f
  by_cases h : a ≥ 0
  · rw [if_pos h]; simp; omega
  · rw [if_neg h]; simp; omega

theorem isWeight_eq (a : Int) : impl_isWeight.f a = some (decide (1 ≤ a ∧ a ≤ 1073741824)) := by simp [impl_isWeight.f, in_eq]
theorem l02Weight_eq (a : Int) : spec_l02Weight.f a = some (decide (1 ≤ a ∧ a ≤ 1073741824)) := by
  unfold spec_l02Weight.f
  by_cases h : a ≥ 1
  · rw [if_pos h]; simp; omega
  · rw [if_neg h]; simp; omega

/-- A right Item. -/
theorem spec_item_eq (a b c : Int) : spec_ItemRight.f a b c = some (okI a b c) := by
  unfold spec_ItemRight.f okI
  rw [l02Id_eq, l02Want_eq, l02Weight_eq]
  by_cases h1 : 1 ≤ a ∧ a ≤ 1000000 <;> by_cases h2 : 0 ≤ b ∧ b ≤ 1125899906842624 <;> simp [h1, h2]
theorem impl_item_eq (a b c : Int) : impl_ItemRight.f a b c = some (okI a b c) := by
  unfold impl_ItemRight.f okI
  rw [isId_eq, isWant_eq, isWeight_eq]
  by_cases h1 : 1 ≤ a ∧ a ≤ 1000000 <;> by_cases h2 : 0 ≤ b ∧ b ≤ 1125899906842624 <;> simp [h1, h2]

theorem set_fill {α β : Type} (l : List α) (f : α → β) (z : β) (i : Nat) (h : i < l.length) : ((l.take i).map f ++ List.replicate (l.length - i) z).set i (f l[i]) = (l.take (i + 1)).map f ++ List.replicate (l.length - (i + 1)) z := by
  have e : l.length - i = (l.length - (i + 1)) + 1 := by omega
  have hl : ((l.take i).map f).length = i := by simp; omega
  rw [e, List.replicate_succ, List.set_append_right i (f l[i]) (by omega), hl, Nat.sub_self, List.set_cons_zero, List.take_succ_eq_append_getElem h, List.map_append]
  simp
theorem succ_cast (i : Nat) (h : i < 9223372036854775807) : wrap64 ((i : Int) + 1) = ((i + 1 : Nat) : Int) := by
  rw [wrap_small (by omega) (by omega)]
  omega

theorem pred_cast (i : Nat) (h : 0 < i) (h2 : i < 9223372036854775807) : wrap64 ((i : Int) - 1) = ((i - 1 : Nat) : Int) := by
  rw [wrap_small (by omega) (by omega)]
  omega

theorem wide_add (v u : Int) (hv0 : 0 ≤ v) (hv1 : v < 340282366920938463463374607431768211456) (hu0 : 0 ≤ u) (hu1 : u < 340282366920938463463374607431768211456) : spec_WideAdd.f (hiW v) (loW v) (hiW u) (loW u) = some (hiW ((v + u) % 340282366920938463463374607431768211456), loW ((v + u) % 340282366920938463463374607431768211456), decide (340282366920938463463374607431768211456 ≤ v + u), 0) := by
  unfold spec_WideAdd.f hiW loW
  simp only [w64]
  by_cases c1 : (v % 18446744073709551616 + u % 18446744073709551616) % 18446744073709551616 < v % 18446744073709551616
  · rw [if_pos c1]
    by_cases c2 : (v / 18446744073709551616 + u / 18446744073709551616) % 18446744073709551616 < v / 18446744073709551616
    · rw [if_pos c2]
      simp only [Option.some.injEq, Prod.mk.injEq]
      exact ⟨by omega, by omega, (decide_eq_true (by omega)).symm, trivial⟩
    · rw [if_neg c2]
      simp only [Option.some.injEq, Prod.mk.injEq]
      exact ⟨by omega, by omega, decide_eq_decide.2 (by omega), trivial⟩
  · rw [if_neg c1]
    by_cases c2 : (v / 18446744073709551616 + u / 18446744073709551616) % 18446744073709551616 < v / 18446744073709551616
    · rw [if_pos c2]
      simp only [Option.some.injEq, Prod.mk.injEq]
      exact ⟨by omega, by omega, (decide_eq_true (by omega)).symm, trivial⟩
    · rw [if_neg c2]
      simp only [Option.some.injEq, Prod.mk.injEq]
      exact ⟨by omega, by omega, decide_eq_decide.2 (by omega), trivial⟩

theorem wide_shl_loop : ∀ (n k : Nat) (v : Int), n < k → n ≤ 127 → 0 ≤ v → v < 340282366920938463463374607431768211456 → spec_WideShl.l0 k (n : Int) (hiW v) (loW v) = some (hiW (v * 2 ^ n % 340282366920938463463374607431768211456), loW (v * 2 ^ n % 340282366920938463463374607431768211456)) := by
  intro n
  induction n with
  | zero =>
    intro k v hk _ h0 h1
    obtain ⟨k, rfl⟩ : ∃ m, k = m + 1 := ⟨k - 1, by omega⟩
    simp only [spec_WideShl.l0]
    rw [if_neg (by omega), show v * 2 ^ 0 % 340282366920938463463374607431768211456 = v by omega]
  | succ n ih =>
    intro k v hk hn h0 h1
    obtain ⟨k, rfl⟩ : ∃ m, k = m + 1 := ⟨k - 1, by omega⟩
    simp only [spec_WideShl.l0]
    rw [if_pos (by omega), wide_add v v h0 h1 h0 h1]
    simp only [Option.bind_some]
    rw [show wrap64 (((n + 1 : Nat) : Int) - 1) = (n : Int) by unfold wrap64; omega, ih k _ (by omega) (by omega) (by omega) (by omega), emod_mul_left, show (v + v) * 2 ^ n = v * 2 ^ (n + 1) by rw [Int.pow_succ, ← Int.mul_assoc, Int.add_mul]; omega]
theorem wide_shl (n k : Nat) (v : Int) (hk : n + 1 < k) (hn : n ≤ 127) (h0 : 0 ≤ v) (h1 : v < 340282366920938463463374607431768211456) : spec_WideShl.f k (hiW v) (loW v) (n : Int) = some (hiW (v * 2 ^ n % 340282366920938463463374607431768211456), loW (v * 2 ^ n % 340282366920938463463374607431768211456)) := by
  obtain ⟨k, rfl⟩ : ∃ m, k = m + 1 := ⟨k - 1, by omega⟩
  unfold spec_WideShl.f
  rw [if_neg (by omega)]
  have hd : decide ((n : Int) > 127) = false := decide_eq_false (by omega)
  simp only [spec_WideShl.j0, hd]
  exact wide_shl_loop n k v (by omega) hn h0 h1
theorem wide_shl_out (n : Int) (k : Nat) (a b : Int) (hk : 0 < k) (hn : n < 0 ∨ 127 < n) : spec_WideShl.f k a b n = some (0, 0) := by
  obtain ⟨k, rfl⟩ : ∃ m, k = m + 1 := ⟨k - 1, by omega⟩
  unfold spec_WideShl.f
  by_cases h : n < 0
  · rw [if_pos h]; simp only [spec_WideShl.j0, if_true]
  · rw [if_neg h]
    have hd : decide (n > 127) = true := decide_eq_true (by omega)
    simp only [spec_WideShl.j0, hd, if_true]

theorem wide_mul_loop (a b : Int) (ha0 : 0 ≤ a) (ha1 : a < 18446744073709551616) (hb0 : 0 ≤ b) (hb1 : b < 18446744073709551616) : ∀ (d j k : Nat), 64 - j = d → j ≤ 64 → d + 130 < k → spec_WideMul.l0 k a b (j : Int) (hiW (a * (b % 2 ^ j))) (loW (a * (b % 2 ^ j))) = some (hiW (a * b), loW (a * b)) := by
  intro d
  induction d with
  | zero =>
    intro j k hd hj hk
    obtain ⟨k, rfl⟩ : ∃ m, k = m + 1 := ⟨k - 1, by omega⟩
    obtain rfl : j = 64 := by omega
    simp only [spec_WideMul.l0]
    rw [if_neg (by omega), show b % 2 ^ 64 = b by omega]
  | succ d ih =>
    intro j k hd hj hk
    obtain ⟨k, rfl⟩ : ∃ m, k = m + 1 := ⟨k - 1, by omega⟩
    have a1 : (j : Int) < 64 := by omega
    have a2 : (0 : Int) ≤ (j : Int) := by omega
    have ej : wrap64 ((j : Int) + 1) = ((j + 1 : Nat) : Int) := by unfold wrap64; omega
    have hw : IntKind.u64.wrap (j : Int) = j := by rw [w64]; omega
    have nxt := ih (j + 1) k (by omega) (by omega) (by omega)
    have hk2 : j + 1 < k := by omega
    have hj2 : j ≤ 127 := by omega
    have hp := pow_pos' j
    have hsh : shr .u64 b (j : Int) = b / 2 ^ j := by
      unfold shr
      rw [show min (j : Int).toNat (IntKind.bits .u64) = j by simp [IntKind.bits]; omega]
    have hq0 : 0 ≤ b / 2 ^ j := Int.ediv_nonneg hb0 (Int.le_of_lt hp)
    have hq1 : b / 2 ^ j < 18446744073709551616 := Int.lt_of_le_of_lt (Int.ediv_le_self _ hb0) hb1
    have hm0 : 0 ≤ b % 2 ^ j := Int.emod_nonneg _ (Int.ne_of_gt hp)
    have hm1 : b % 2 ^ j ≤ b := emod_le' b _ hb0 hp
    have step := emod_pow_succ b j hb0
    have hm2 : b % 2 ^ (j + 1) ≤ b := emod_le' b _ hb0 (pow_pos' _)
    have hm3 : 0 ≤ b % 2 ^ (j + 1) := Int.emod_nonneg _ (Int.ne_of_gt (pow_pos' _))
    have s := wide_shl j k a hk2 hj2 ha0 (by omega)
    rw [hiW_small a ha0 ha1, loW_small a ha0 ha1] at s
    simp only [spec_WideMul.l0, hw, a1, a2, if_true, hsh, and_one _ hq0 hq1, ej]
    clear hw ej hsh ih hk hk2 hj2 a1 a2 hd hj
    generalize hP : (2 : Int) ^ j = P at *
    generalize hP2 : b % 2 ^ (j + 1) = B at *
    generalize hB0 : b % P = C at *
    generalize hB1 : b / P = D at *
    by_cases hbit : D % 2 = 1
    · rw [if_pos hbit]
      rw [hbit, Int.mul_one] at step
      have bd : ∀ x : Int, 0 ≤ x → x ≤ b → 0 ≤ a * x ∧ a * x < 340282366920938463463374607431768211456 := fun x h0 h1 => by
        have h2 : a * x ≤ a * 18446744073709551615 := Int.mul_le_mul_of_nonneg_left (by omega) ha0
        have h3 := Int.mul_nonneg ha0 h0
        exact ⟨h3, by omega⟩
      have b1 := bd P (Int.le_of_lt hp) (by omega)
      have b2 := bd C hm0 hm1
      have b3 := bd B hm3 hm2
      have hsum : a * C + a * P = a * B := by rw [step, Int.mul_add]
      rw [Int.emod_eq_of_lt b1.1 b1.2] at s
      rw [s]
      simp only [Option.bind_some]
      rw [wide_add _ _ b2.1 b2.2 b1.1 b1.2]
      simp only [Option.bind_some]
      rw [hsum, Int.emod_eq_of_lt b3.1 b3.2]
      exact nxt
    · rw [if_neg hbit]
      have h0 : D % 2 = 0 := by omega
      rw [h0, Int.mul_zero, Int.add_zero] at step
      rw [← step]
      exact nxt
theorem wide_mul (a b : Int) (k : Nat) (hk : 200 < k) (ha0 : 0 ≤ a) (ha1 : a < 18446744073709551616) (hb0 : 0 ≤ b) (hb1 : b < 18446744073709551616) : spec_WideMul.f k a b = some (hiW (a * b), loW (a * b)) := by
  have h := wide_mul_loop a b ha0 ha1 hb0 hb1 64 0 k (by omega) (by omega) (by omega)
  have e : a * (b % 2 ^ 0) = 0 := by simp
  rw [e] at h
  exact h

theorem spec_cmp_eq (v u : Int) : spec_WideCmp.f (hiW v) (loW v) (hiW u) (loW u) = some (cmpInt v u) := by
  have r1 := loW_range v
  have r2 := loW_range u
  have e1 := val_eq v
  have e2 := val_eq u
  unfold spec_WideCmp.f cmpInt
  generalize hiW v = a at *
  generalize loW v = b at *
  generalize hiW u = c at *
  generalize loW u = d at *
  (repeat' split) <;> first | rfl | (exfalso; omega)

theorem times_eq (a b c d : Int) (k : Nat) (hk : 200 < k) (ha : 0 ≤ a ∧ a < 18446744073709551616) (hb : 0 ≤ b ∧ b < 18446744073709551616) (hc : 0 ≤ c ∧ c < 18446744073709551616) (hd : 0 ≤ d ∧ d < 18446744073709551616) : spec_l02Times.f k a b c d = some (cmpInt (a * b) (c * d)) := by
  unfold spec_l02Times.f
  simp only [w64]
  rw [Int.emod_eq_of_lt ha.1 ha.2, Int.emod_eq_of_lt hb.1 hb.2, Int.emod_eq_of_lt hc.1 hc.2, Int.emod_eq_of_lt hd.1 hd.2, wide_mul a b k hk ha.1 ha.2 hb.1 hb.2, wide_mul c d k hk hc.1 hc.2 hd.1 hd.2]
  simp only [Option.bind_some]
  rw [spec_cmp_eq]
  rfl

/-- What RatioCmp tells. -/
def ratioCmp (a b c d e f : Int) : Int := if okI a b c && okI d e f then (if cmpInt (b * f) (e * c) = 0 then cmpInt a d else cmpInt (b * f) (e * c)) else 0
theorem spec_ratio_eq (a b c d e f : Int) (k : Nat) (hk : 201 < k) : spec_RatioCmp.f k a b c d e f = some (ratioCmp a b c d e f) := by
  obtain ⟨k, rfl⟩ : ∃ m, k = m + 1 := ⟨k - 1, by omega⟩
  unfold spec_RatioCmp.f ratioCmp
  rw [spec_item_eq, spec_item_eq]
  simp only [Option.bind_some]
  cases h1 : okI a b c with
  | false => simp [spec_RatioCmp.j0]
  | true =>
    cases h2 : okI d e f with
    | false => simp [spec_RatioCmp.j0]
    | true =>
      obtain ⟨_, hb, hc, _⟩ := ok_bounds h1
      obtain ⟨_, he, hf, _⟩ := ok_bounds h2
      simp only [spec_RatioCmp.j0, if_true, Bool.not_true, Bool.and_self]
      rw [times_eq b f e c k (by omega) hb hf he hc]
      simp only [Option.bind_some]
      by_cases hz : cmpInt (b * f) (e * c) = 0
      · rw [if_pos hz, if_pos hz]
        unfold cmpInt
        (repeat' split) <;> first | rfl | simp_all | (exfalso; omega)
      · rw [if_neg hz, if_neg hz]
        rfl

/-! ### Both sorts -/
def lts (x y : S33) : Prop := x.f1 * y.f2 < y.f1 * x.f2 ∨ x.f1 * y.f2 = y.f1 * x.f2 ∧ x.f0 < y.f0
def OkS (x : S33) : Prop := okI x.f0 x.f1 x.f2 = true
theorem lts_asymm {x y : S33} (h : lts x y) : ¬ lts y x := by
  unfold lts at *
  generalize x.f1 * y.f2 = p at *
  generalize y.f1 * x.f2 = q at *
  omega
theorem lts_total {x y : S33} (hne : x.f0 ≠ y.f0) (h : ¬ lts x y) : lts y x := by
  unfold lts at *
  generalize x.f1 * y.f2 = p at *
  generalize y.f1 * x.f2 = q at *
  omega
theorem lts_trans {x y z : S33} (hx : OkS x) (hy : OkS y) (hz : OkS z) (h1 : lts x y) (h2 : lts y z) : lts x z := by
  have h := swo_O.trans ⟨x, hx⟩ ⟨y, hy⟩ ⟨z, hz⟩ (by rw [ltOf_O]; exact decide_eq_true h1) (by rw [ltOf_O]; exact decide_eq_true h2)
  rw [ltOf_O] at h
  have h3 : ltO ⟨x, hx⟩ ⟨z, hz⟩ := of_decide_eq_true h
  exact h3
theorem cmp_lts {x y : S33} (hx : OkS x) (hy : OkS y) (k : Nat) (hk : 201 < k) : ∃ v, spec_RatioCmp.f k x.f0 x.f1 x.f2 y.f0 y.f1 y.f2 = some v ∧ (v < 0 ↔ lts x y) := by
  refine ⟨_, spec_ratio_eq x.f0 x.f1 x.f2 y.f0 y.f1 y.f2 k hk, ?_⟩
  unfold OkS at hx hy
  unfold ratioCmp lts cmpInt
  rw [hx, hy]
  generalize x.f1 * y.f2 = p
  generalize y.f1 * x.f2 = q
  simp only [Bool.and_self, if_true]
  constructor
  · intro h
    (repeat' split at h) <;> omega
  · intro h
    (repeat' split) <;> omega
theorem uniq : ∀ l m : List S33, l.Perm m → l.Pairwise lts → m.Pairwise lts → l = m
  | [], m, h, _, _ => by rw [List.nil_perm.1 h]
  | x :: l, [], h, _, _ => by cases List.perm_nil.1 h
  | x :: l, y :: m, h, h1, h2 => by
    rw [List.pairwise_cons] at h1 h2
    by_cases he : x = y
    · subst he
      rw [uniq l m (List.perm_cons x |>.1 h) h1.2 h2.2]
    · have hx : x ∈ y :: m := h.subset (List.mem_cons_self ..)
      have hy : y ∈ x :: l := h.symm.subset (List.mem_cons_self ..)
      rw [List.mem_cons] at hx hy
      have a := h2.1 x (hx.resolve_left he)
      have b := h1.1 y (hy.resolve_left (fun e => he e.symm))
      exact absurd b (lts_asymm a)
def Good (l : List S33) : Prop := (∀ x ∈ l, OkS x) ∧ l.Pairwise (fun x y => x.f0 ≠ y.f0)
/-! The program's test. -/
def itemAt (l : List S33) (j : Nat) : Prop := okI (rd_T33 l j).f0 (rd_T33 l j).f1 (rd_T33 l j).f2 = true ∧ (0 < j → (rd_T33 l ((j - 1 : Nat) : Int)).f0 < (rd_T33 l j).f0)
theorem items_loop (l : List S33) (hl : l.length < 9223372036854775807) : ∀ (d i : Nat), l.length - i = d → i ≤ l.length → ∃ b : Bool, (b = true ↔ ∀ j : Nat, i ≤ j → j < l.length → itemAt l j) ∧ ∀ k, d < k → impl_ItemsRight.l0 k l l (l.length : Int) (i : Int) = some (b && decide ((l.length : Int) ≤ 60)) := by
  intro d
  induction d with
  | zero =>
    intro i hd hi
    refine ⟨true, ⟨fun _ j h1 h2 => by omega, fun _ => rfl⟩, fun k hk => ?_⟩
    obtain ⟨k, rfl⟩ : ∃ m, k = m + 1 := ⟨k - 1, by omega⟩
    simp only [impl_ItemsRight.l0]; rw [if_neg (by omega)]; simp
  | succ d ih =>
    intro i hd hi
    obtain ⟨b, hbm, hb⟩ := ih (i + 1) (by omega) (by omega)
    have a1 : (i : Int) < (l.length : Int) := by omega
    have a2 : (0 : Int) ≤ (i : Int) := by omega
    have more : ∀ P : Prop, (itemAt l i ↔ P) → ((∀ j : Nat, i ≤ j → j < l.length → itemAt l j) ↔ P ∧ ∀ j : Nat, i + 1 ≤ j → j < l.length → itemAt l j) := fun P hP =>
      ⟨fun h => ⟨hP.1 (h i (Nat.le_refl _) (by omega)), fun j h1 h2 => h j (by omega) h2⟩, fun ⟨hp, h⟩ j h1 h2 => by
        by_cases hj : j = i
        · rw [hj]; exact hP.2 hp
        · exact h j (by omega) h2⟩
    by_cases h : okI (rd_T33 l i).f0 (rd_T33 l i).f1 (rd_T33 l i).f2 = true
    · by_cases h0 : (i : Int) > 0
      · have a3 : (0 : Int) ≤ ((i - 1 : Nat) : Int) := by omega
        have a4 : ((i - 1 : Nat) : Int) < (l.length : Int) := by omega
        by_cases hc : (rd_T33 l ((i - 1 : Nat) : Int)).f0 ≥ (rd_T33 l i).f0
        · refine ⟨false, ⟨(fun h => by cases h), fun hh => ?_⟩, fun k hk => ?_⟩
          · have := (hh i (Nat.le_refl _) (by omega)).2 (by omega)
            omega
          obtain ⟨k, rfl⟩ : ∃ m, k = m + 1 := ⟨k - 1, by omega⟩
          simp only [impl_ItemsRight.l0, a1, a2, if_true, impl_item_eq, Option.bind_some, h, h0, pred_cast i (by omega) (by omega), a3, a4, hc]
          simp
        · refine ⟨b, (hbm.trans ((more True ⟨fun _ => trivial, fun _ => ⟨h, fun _ => by omega⟩⟩).trans (by simp)).symm), fun k hk => ?_⟩
          obtain ⟨k, rfl⟩ : ∃ m, k = m + 1 := ⟨k - 1, by omega⟩
          have h2 := hb k (by omega)
          simp only [impl_ItemsRight.l0, a1, a2, if_true, impl_item_eq, Option.bind_some, h, h0, pred_cast i (by omega) (by omega), a3, a4, hc, if_false, succ_cast i (by omega), h2]
      · refine ⟨b, (hbm.trans ((more True ⟨fun _ => trivial, fun _ => ⟨h, fun h => absurd h (by omega)⟩⟩).trans (by simp)).symm), fun k hk => ?_⟩
        obtain ⟨k, rfl⟩ : ∃ m, k = m + 1 := ⟨k - 1, by omega⟩
        have h2 := hb k (by omega)
        simp only [impl_ItemsRight.l0, a1, a2, if_true, impl_item_eq, Option.bind_some, h, h0, if_false, succ_cast i (by omega), h2]
    · refine ⟨false, ⟨(fun h => by cases h), fun hh => absurd (hh i (Nat.le_refl _) (by omega)).1 h⟩, fun k hk => ?_⟩
      obtain ⟨k, rfl⟩ : ∃ m, k = m + 1 := ⟨k - 1, by omega⟩
      simp only [impl_ItemsRight.l0, a1, a2, if_true, impl_item_eq, Option.bind_some, h]
      simp
theorem sort_perm {α : Type} [Inhabited α] (cf : α → α → Int) (hO : Sort.SWO (ltOf cf)) (l : List α) : (sortL cf l).Perm l := by
  have h := (sortL_facts cf hO l).1
  have hs := h.1
  have hp := h.2.2
  rw [List.size_toArray] at hs
  have e1 : ∀ d : Array α, d.size = l.length → d.extract 0 l.toArray.size = d := fun d hd => by
    rw [List.size_toArray, ← hd]; simp
  rw [e1 _ hs, e1 _ (by simp)] at hp
  exact hp
theorem sort_sorted {α : Type} [Inhabited α] (cf : α → α → Int) (hO : Sort.SWO (ltOf cf)) (l : List α) : (sortL cf l).Pairwise (fun x y => ltOf cf y x = false) := by
  have h := (sortL_facts cf hO l).2
  have hs := (sortL_facts cf hO l).1.1
  rw [List.pairwise_iff_getElem]
  intro i j hi hj hij
  unfold sortL at hi hj ⊢
  rw [Array.length_toList] at hi hj
  have := h i j (Nat.zero_le _) hij (by rw [← hs]; exact hj)
  rw [getElem!_pos _ j hj, getElem!_pos _ i hi] at this
  simpa using this
theorem items_good (l : List S33) (h60 : l.length ≤ 60) : ∃ b : Bool, (b = true ↔ Good l) ∧ ∀ k, l.length < k → impl_areItems.f k l = some b := by
  have hp := sort_perm cfId swo_id l
  have hso := sort_sorted cfId swo_id l
  have hlen := hp.length_eq
  generalize hS : sortL cfId l = S at hp hso hlen
  obtain ⟨b, hb, hf⟩ := items_loop S (by omega) S.length 0 (by omega) (by omega)
  have pw : S.Pairwise (fun x y => x.f0 ≠ y.f0) ↔ l.Pairwise (fun x y => x.f0 ≠ y.f0) := hp.pairwise_iff (fun h => fun e => h e.symm)
  refine ⟨b, hb.trans ⟨fun h => ⟨fun x hx => ?_, pw.1 ?_⟩, fun ⟨g1, g2⟩ j _ hj => ?_⟩, fun k hk => ?_⟩
  · have hx2 := hp.symm.subset hx
    obtain ⟨j, hj, rfl⟩ := List.mem_iff_getElem.1 hx2
    have := (h j (Nat.zero_le _) hj).1
    rw [rd33 S j hj] at this
    exact this
  · have up : ∀ p q : Nat, p < q → q < S.length → (rd_T33 S (p : Int)).f0 < (rd_T33 S (q : Int)).f0 := by
      intro p q
      induction q with
      | zero => intro h1; omega
      | succ q ih =>
        intro h1 h2
        have h3 := (h (q + 1) (Nat.zero_le _) h2).2 (by omega)
        rw [show q + 1 - 1 = q by omega] at h3
        by_cases hpq : p = q
        · subst hpq; omega
        · have := ih (by omega) (by omega)
          omega
    rw [List.pairwise_iff_getElem]
    intro i j hi hj hij
    have := up i j hij hj
    rw [rd33 S i hi, rd33 S j hj] at this
    omega
  · have g3 := pw.2 g2
    refine ⟨?_, fun h0 => ?_⟩
    · rw [rd33 S j hj]
      exact g1 _ (hp.subset (List.getElem_mem hj))
    · have q1 := List.pairwise_iff_getElem.1 g3 (j - 1) j (by omega) hj (by omega)
      have q2 := List.pairwise_iff_getElem.1 hso (j - 1) j (by omega) hj (by omega)
      rw [ltOf_id] at q2
      have q3 := of_decide_eq_false q2
      rw [rd33 S j hj, rd33 S (j - 1) (by omega)]
      omega
  · unfold impl_areItems.f
    rw [if_neg (by omega), hS]
    unfold impl_ItemsRight.f
    have := hf k (by omega)
    rw [show ((0 : Nat) : Int) = 0 from rfl] at this
    rw [this, decide_eq_true (by omega)]
    simp
theorem sorted_good (l : List S33) (h60 : l.length ≤ 60) (hg : Good l) : ∃ v, impl_sorted.f l = some v ∧ v.Perm l ∧ v.Pairwise lts := by
  have hall : allI l = true := List.all_eq_true.2 fun x hx => hg.1 x hx
  have hv := sub_val l (fun x hx => hg.1 x hx)
  have hp := (sort_perm cfO swo_O (sub_ l)).map (fun x => x.1)
  have hso := sort_sorted cfO swo_O (sub_ l)
  rw [hv] at hp
  refine ⟨_, by unfold impl_sorted.f; rw [if_pos ⟨by omega, hall⟩], hp, ?_⟩
  have pw : ((sortL cfO (sub_ l)).map fun x => x.1).Pairwise (fun x y => x.f0 ≠ y.f0) := (hp.pairwise_iff (fun h => fun e => h e.symm)).2 hg.2
  rw [List.pairwise_map] at pw ⊢
  exact hso.imp₂ (fun {x y} h1 h2 => by
    rw [ltOf_O] at h1
    have h3 : ¬ ltO y x := of_decide_eq_false h1
    exact lts_total (fun e => h2 e.symm) h3) pw

/-! ### The reference's sort -/
theorem spec_l1 (l o : List S33) (hl : l.length ≤ 60) (i : Nat) (hi : i < l.length) : ∀ (e j : Nat), i - j = e → j ≤ i → ∃ b : Bool, (b = true ↔ ∀ q : Nat, j ≤ q → q < i → (rd_T33 l (q : Int)).f0 ≠ (rd_T33 l (i : Int)).f0) ∧ ∀ k, spec_RatioSort.l1 (k + e + 1) l o (i : Int) (j : Int) = if b = true then spec_RatioSort.l0 k l o ((i + 1 : Nat) : Int) else some o := by
  intro e
  induction e with
  | zero =>
    intro j he hj
    obtain rfl : j = i := by omega
    refine ⟨true, ⟨fun _ q h1 h2 => by omega, fun _ => rfl⟩, fun k => ?_⟩
    simp only [Nat.add_zero, spec_RatioSort.l1]
    rw [if_neg (by omega), succ_cast j (by omega)]
    simp
  | succ e ih =>
    intro j he hj
    have a1 : (j : Int) < (i : Int) := by omega
    have a2 : (0 : Int) ≤ (j : Int) := by omega
    have a3 : (j : Int) < (l.length : Int) := by omega
    have a4 : (0 : Int) ≤ (i : Int) := by omega
    have a5 : (i : Int) < (l.length : Int) := by omega
    by_cases h : (rd_T33 l (j : Int)).f0 = (rd_T33 l (i : Int)).f0
    · refine ⟨false, ⟨(fun h => by cases h), fun hh => absurd h (hh j (Nat.le_refl _) (by omega))⟩, fun k => ?_⟩
      rw [spec_RatioSort.l1]
      simp only [a1, a2, a3, a4, a5, if_true, h]
      rfl
    · obtain ⟨b, hb, hk⟩ := ih (j + 1) (by omega) (by omega)
      refine ⟨b, hb.trans ⟨fun hh q h1 h2 => ?_, fun hh q h1 h2 => hh q (by omega) h2⟩, fun k => ?_⟩
      · by_cases hq : q = j
        · rw [hq]; exact h
        · exact hh q (by omega) h2
      · rw [show k + (e + 1) + 1 = (k + e + 1) + 1 by omega, spec_RatioSort.l1]
        simp only [a1, a2, a3, a4, a5, if_true, h, if_false, succ_cast j (by omega)]
        exact hk k
theorem spec_l0 (l o : List S33) (hl : l.length ≤ 60) : ∀ (d i : Nat), l.length - i = d → i ≤ l.length → ∃ b : Bool, (b = true ↔ ∀ j : Nat, i ≤ j → j < l.length → okI (rd_T33 l j).f0 (rd_T33 l j).f1 (rd_T33 l j).f2 = true ∧ ∀ q : Nat, q < j → (rd_T33 l (q : Int)).f0 ≠ (rd_T33 l (j : Int)).f0) ∧ ∃ c, c ≤ d * 62 + 1 ∧ ∀ k, spec_RatioSort.l0 (k + c) l o (i : Int) = if b = true then spec_RatioSort.l2 k l o 0 else some o := by
  intro d
  induction d with
  | zero =>
    intro i hd hi
    refine ⟨true, ⟨fun _ j h1 h2 => by omega, fun _ => rfl⟩, 1, by omega, fun k => ?_⟩
    rw [spec_RatioSort.l0, if_neg (by omega), if_pos rfl]
  | succ d ih =>
    intro i hd hi
    have a1 : (i : Int) < (l.length : Int) := by omega
    have a2 : (0 : Int) ≤ (i : Int) := by omega
    by_cases h : okI (rd_T33 l i).f0 (rd_T33 l i).f1 (rd_T33 l i).f2 = true
    · obtain ⟨b1, hb1, hk1⟩ := spec_l1 l o hl i (by omega) i 0 (by omega) (by omega)
      cases b1 with
      | false =>
        refine ⟨false, ⟨(fun h => by cases h), fun hh => ?_⟩, i + 2, by omega, fun k => ?_⟩
        · have := hb1.2 (fun q _ h2 => (hh i (Nat.le_refl _) (by omega)).2 q h2)
          cases this
        · rw [show k + (i + 2) = (k + i + 1) + 1 by omega, spec_RatioSort.l0]
          simp only [a1, a2, if_true, spec_item_eq, Option.bind_some, h]
          exact (hk1 k).trans (by simp)
      | true =>
        have hne := hb1.1 rfl
        obtain ⟨b2, hb2, c2, hc2, hk2⟩ := ih (i + 1) (by omega) (by omega)
        refine ⟨b2, hb2.trans ⟨fun hh j h1 h2 => ?_, fun hh j h1 h2 => hh j (by omega) h2⟩, c2 + i + 2, by omega, fun k => ?_⟩
        · by_cases hj : j = i
          · rw [hj]; exact ⟨h, fun q hq => hne q (Nat.zero_le _) hq⟩
          · exact hh j (by omega) h2
        · rw [show k + (c2 + i + 2) = ((k + c2) + i + 1) + 1 by omega, spec_RatioSort.l0]
          simp only [a1, a2, if_true, spec_item_eq, Option.bind_some, h]
          refine (hk1 (k + c2)).trans ?_
          rw [if_pos rfl]
          exact hk2 k
    · refine ⟨false, ⟨(fun h => by cases h), fun hh => absurd (hh i (Nat.le_refl _) (by omega)).1 h⟩, 1, by omega, fun k => ?_⟩
      rw [spec_RatioSort.l0]
      simp only [a1, a2, if_true, spec_item_eq, Option.bind_some, h]
      simp
theorem spec_l3 (l o : List S33) (hl : l.length ≤ 60) (ho : o.length ≤ 60) (i : Nat) (hi : i < l.length) (hx : OkS l[i]) (hok : ∀ y ∈ o, OkS y) : ∀ (e a : Nat), o.length - a = e → a ≤ o.length →
    ∃ p, a ≤ p ∧ p ≤ o.length ∧ (∀ (q : Nat) (hq : q < o.length), a ≤ q → q < p → lts o[q] l[i]) ∧ (∀ hp : p < o.length, ¬ lts o[p] l[i]) ∧ ∃ c, c ≤ e + 1 ∧ ∀ k, 300 < k → spec_RatioSort.l3 (k + c) l o (i : Int) (a : Int) = spec_RatioSort.l2 k l (o.take p ++ [l[i]] ++ o.drop p) ((i + 1 : Nat) : Int) := by
  have b1 : (0 : Int) ≤ (i : Int) := by omega
  have b2 : (i : Int) < (l.length : Int) := by omega
  intro e
  induction e with
  | zero =>
    intro a he ha
    obtain rfl : a = o.length := by omega
    refine ⟨o.length, Nat.le_refl _, Nat.le_refl _, fun q hq h1 h2 => by omega, fun hp => by omega, 1, by omega, fun k hk => ?_⟩
    have b3 : (o.take o.length).length < 5864062014805 := by simp; omega
    have b4 : (o.take o.length ++ [(⟨l[i].f0, l[i].f1, l[i].f2⟩ : S33)]).length + (o.drop o.length).length < 5864062014805 := by simp; omega
    rw [spec_RatioSort.l3, if_neg (by omega)]
    simp only [Option.bind_some, List.nil_append, List.length_nil, Nat.zero_add, b1, b2, if_true, Int.toNat_natCast, rd33 l i hi, Int.natCast_nonneg, Int.le_refl, b3, b4, succ_cast i (by omega)]
    try rfl
  | succ e ih =>
    intro a he ha
    have ha2 : a < o.length := by omega
    have a1 : (a : Int) < (o.length : Int) := by omega
    have a2 : (0 : Int) ≤ (a : Int) := by omega
    have a3 : (a : Int) ≤ (o.length : Int) := by omega
    by_cases h : lts o[a] l[i]
    · obtain ⟨p, hp1, hp2, hp3, hp4, c, hc, hk⟩ := ih (a + 1) (by omega) (by omega)
      refine ⟨p, by omega, hp2, fun q hq h1 h2 => ?_, hp4, c + 1, by omega, fun k hk2 => ?_⟩
      · by_cases hqa : q = a
        · subst hqa; exact h
        · exact hp3 q hq (by omega) h2
      · obtain ⟨v, hv, hvl⟩ := cmp_lts (hok _ (List.getElem_mem ha2)) hx (k + c) (by omega)
        rw [← Nat.add_assoc, spec_RatioSort.l3]
        simp only [a1, a2, b1, b2, if_true, rd33 o a ha2, rd33 l i hi]
        rw [hv]
        simp only [Option.bind_some]
        rw [if_pos (hvl.2 h), succ_cast a (by omega)]
        exact hk k hk2
    · refine ⟨a, Nat.le_refl _, ha, fun q hq h1 h2 => by omega, fun _ => h, 1, by omega, fun k hk2 => ?_⟩
      obtain ⟨v, hv, hvl⟩ := cmp_lts (hok _ (List.getElem_mem ha2)) hx k (by omega)
      have b3 : (o.take a).length < 5864062014805 := by rw [List.length_take]; omega
      have b4 : (o.take a ++ [(⟨l[i].f0, l[i].f1, l[i].f2⟩ : S33)]).length + (o.drop a).length < 5864062014805 := by simp; omega
      rw [spec_RatioSort.l3]
      simp only [a1, a2, b1, b2, if_true, rd33 o a ha2, rd33 l i hi]
      rw [hv]
      simp only [Option.bind_some]
      rw [if_neg (fun h9 => h (hvl.1 h9))]
      simp only [a3, if_true, List.nil_append, List.length_nil, Nat.zero_add, Int.toNat_natCast, b3, b4, succ_cast i (by omega)]
      try rfl
theorem spec_l2 (l : List S33) (hl : l.length ≤ 60) (hg : Good l) : ∀ (d i : Nat) (o : List S33), l.length - i = d → i ≤ l.length → o.Perm (l.take i) → o.Pairwise lts → ∃ r, r.Perm l ∧ r.Pairwise lts ∧ ∃ c, c ≤ d * 63 + 1 ∧ ∀ k, 300 < k → spec_RatioSort.l2 (k + c) l o (i : Int) = some r := by
  intro d
  induction d with
  | zero =>
    intro i o hd hi hp hw
    obtain rfl : i = l.length := by omega
    refine ⟨o, by rwa [List.take_length] at hp, hw, 1, by omega, fun k _ => ?_⟩
    rw [spec_RatioSort.l2, if_neg (by omega)]
  | succ d ih =>
    intro i o hd hi hp hw
    have hlt : i < l.length := by omega
    have hol : o.length = i := by rw [hp.length_eq, List.length_take]; omega
    have hok : ∀ y ∈ o, OkS y := fun y hy => hg.1 y (List.mem_of_mem_take (hp.subset hy))
    have hx : OkS l[i] := hg.1 _ (List.getElem_mem hlt)
    have hne : ∀ y ∈ o, y.f0 ≠ l[i].f0 := fun y hy => by
      have hy2 := hp.subset hy
      obtain ⟨q, hq, rfl⟩ := List.mem_iff_getElem.1 hy2
      rw [List.length_take] at hq
      rw [List.getElem_take]
      exact List.pairwise_iff_getElem.1 hg.2 q i (by omega) hlt (by omega)
    obtain ⟨p, _, hp2, hp3, hp4, c3, hc3, hk3⟩ := spec_l3 l o hl (by omega) i hlt hx hok o.length 0 (by omega) (by omega)
    have perm : (o.take p ++ [l[i]] ++ o.drop p).Perm (l.take (i + 1)) := by
      rw [List.take_succ_eq_append_getElem hlt]
      refine List.Perm.trans ?_ (hp.append_right [l[i]])
      have : (o.take p ++ ([l[i]] ++ o.drop p)).Perm (o.take p ++ (o.drop p ++ [l[i]])) := List.Perm.append_left _ List.perm_append_comm
      rw [← List.append_assoc, ← List.append_assoc, List.take_append_drop] at this
      exact this
    have rise : (o.take p ++ [l[i]] ++ o.drop p).Pairwise lts := by
      rw [List.append_assoc, List.pairwise_append, List.singleton_append, List.pairwise_cons]
      have low : ∀ y ∈ o.take p, lts y l[i] := fun y hy => by
        obtain ⟨q, hq, rfl⟩ := List.mem_iff_getElem.1 hy
        rw [List.length_take] at hq
        rw [List.getElem_take]
        exact hp3 q (by omega) (Nat.zero_le _) (by omega)
      have high : ∀ z ∈ o.drop p, lts l[i] z := fun z hz => by
        obtain ⟨q, hq, rfl⟩ := List.mem_iff_getElem.1 hz
        rw [List.length_drop] at hq
        rw [List.getElem_drop]
        have hpl : p < o.length := by omega
        have h1 : lts l[i] o[p] := lts_total (hne _ (List.getElem_mem hpl)) (hp4 hpl)
        by_cases h0 : q = 0
        · subst h0; exact h1
        · exact lts_trans hx (hok _ (List.getElem_mem hpl)) (hok _ (List.getElem_mem (by omega))) h1 (List.pairwise_iff_getElem.1 hw p (p + q) hpl (by omega) (by omega))
      refine ⟨hw.sublist (List.take_sublist _ _), ⟨high, hw.sublist (List.drop_sublist _ _)⟩, fun y hy z hz => ?_⟩
      rw [List.mem_cons] at hz
      rcases hz with hz | hz
      · rw [hz]; exact low y hy
      · exact lts_trans (hok _ (List.mem_of_mem_take hy)) hx (hok _ (List.mem_of_mem_drop hz)) (low y hy) (high z hz)
    obtain ⟨r, hr1, hr2, c, hc, hk⟩ := ih (i + 1) _ (by omega) (by omega) perm rise
    refine ⟨r, hr1, hr2, c + c3 + 1, by omega, fun k hk2 => ?_⟩
    rw [show k + (c + c3 + 1) = ((k + c) + c3) + 1 by omega, spec_RatioSort.l2, if_pos (by omega)]
    refine (hk3 (k + c) (by omega)).trans ?_
    exact hk k hk2
theorem same (l : List S33) (hl : l.length < 9223372036854775807) : ∃ v, v.length ≤ l.length ∧ ∀ k, l.length + 10000 < k → spec_RatioSort.f k l = some v ∧ impl_RatioSort.f k l = some v := by
  unfold spec_RatioSort.f impl_RatioSort.f
  simp only [Option.bind_some]
  by_cases h : (l.length : Int) > 60
  · refine ⟨[], by simp, fun k hk => ⟨by rw [if_pos h], ?_⟩⟩
    unfold impl_areItems.f
    rw [if_pos h]
    rfl
  · obtain ⟨b, hb, hf⟩ := items_good l (by omega)
    obtain ⟨b2, hb2, c, hc, hk2⟩ := spec_l0 l [] (by omega) l.length 0 (by omega) (by omega)
    have e : b2 = true ↔ Good l := hb2.trans ⟨fun hh => ⟨fun x hx => ?_, List.pairwise_iff_getElem.2 fun q j hq hj hqj => ?_⟩, fun ⟨g1, g2⟩ j _ hj => ⟨?_, fun q hq => ?_⟩⟩
    · have hb' : b = b2 := Bool.eq_iff_iff.2 (hb.trans e.symm)
      subst hb'
      cases b with
      | false =>
        refine ⟨[], by simp, fun k hk => ⟨?_, ?_⟩⟩
        · rw [if_neg h]
          have := hk2 (k - c)
          rw [show k - c + c = k by omega] at this
          exact this
        · rw [hf k (by omega)]; rfl
      | true =>
        have hg := hb.1 rfl
        obtain ⟨r, hr1, hr2, c3, hc3, hk3⟩ := spec_l2 l (by omega) hg l.length 0 [] (by omega) (by omega) (by simp) List.Pairwise.nil
        obtain ⟨v, hv, hv1, hv2⟩ := sorted_good l (by omega) hg
        have hrv : r = v := uniq r v (hr1.trans hv1.symm) hr2 hv2
        subst hrv
        refine ⟨r, by rw [hr1.length_eq]; exact Nat.le_refl _, fun k hk => ⟨?_, ?_⟩⟩
        · rw [if_neg h]
          have := hk2 (k - c)
          rw [show k - c + c = k by omega] at this
          refine this.trans ?_
          rw [if_pos rfl]
          have := hk3 (k - c - c3) (by omega)
          rw [show k - c - c3 + c3 = k - c by omega] at this
          exact this
        · rw [hf k (by omega), hv]; rfl
    · obtain ⟨j, hj, rfl⟩ := List.mem_iff_getElem.1 hx
      have := (hh j (Nat.zero_le _) hj).1
      rw [rd33 l j hj] at this
      exact this
    · have := (hh j (Nat.zero_le _) hj).2 q hqj
      rw [rd33 l j hj, rd33 l q hq] at this
      exact this
    · rw [rd33 l j hj]; exact g1 _ (List.getElem_mem hj)
    · rw [rd33 l j hj, rd33 l q (by omega)]
      exact List.pairwise_iff_getElem.1 g2 q j (by omega) hj hq

def convItem (x : S71) : S33 := ⟨x.f0, x.f1, x.f2⟩
theorem toItemS_loop (l : List S71) (hl : l.length * 24 ≤ 140737488351232) : ∀ (d k i : Nat), l.length - i = d → i ≤ l.length → d < k → laws_toItemS.l0 k l ((l.take i).map convItem ++ List.replicate (l.length - i) z33) (i : Int) = some (l.map convItem) := by
  intro d
  induction d with
  | zero =>
    intro k i hd hi hk
    obtain ⟨k, rfl⟩ : ∃ m, k = m + 1 := ⟨k - 1, by omega⟩
    obtain rfl : i = l.length := by omega
    simp only [laws_toItemS.l0]
    rw [if_neg (by omega)]
    simp
  | succ d ih =>
    intro k i hd hi hk
    obtain ⟨k, rfl⟩ : ∃ m, k = m + 1 := ⟨k - 1, by omega⟩
    have hlt : i < l.length := by omega
    simp only [laws_toItemS.l0]
    rw [if_pos (by omega), if_pos (by omega)]
    simp only [laws_toItem.f, Option.bind_some, rd71 l i hlt]
    rw [if_pos (by simp; omega), Int.toNat_natCast, succ_cast i (by omega)]
    have e := set_fill l convItem z33 i hlt
    rw [show (⟨l[i].f0, l[i].f1, l[i].f2⟩ : S33) = convItem l[i] from rfl, e]
    exact ih k (i + 1) (by omega) (by omega) (by omega)
theorem toItemS_eq (l : List S71) (hl : l.length * 24 ≤ 140737488351232) (k : Nat) (hk : l.length < k) : laws_toItemS.f k l = some (l.map convItem) := by
  unfold laws_toItemS.f
  rw [if_pos (by omega), if_pos (by simp; omega)]
  have h := toItemS_loop l hl l.length k 0 (by omega) (by omega) hk
  simpa using h

theorem eqItem_same (x : S33) : laws_eqItem.f (x.f0) (x.f1) (x.f2) (x.f0) (x.f1) (x.f2) = some true := by simp [laws_eqItem.f]
theorem eqItemS_loop (l : List S33) (hl : l.length < 9223372036854775807) : ∀ (d k i : Nat), l.length - i = d → i ≤ l.length → d < k → laws_eqItemS.l0 k l l (i : Int) = some true := by
  intro d
  induction d with
  | zero =>
    intro k i hd hi hk
    obtain ⟨k, rfl⟩ : ∃ m, k = m + 1 := ⟨k - 1, by omega⟩
    simp only [laws_eqItemS.l0]
    rw [if_neg (by omega)]
  | succ d ih =>
    intro k i hd hi hk
    obtain ⟨k, rfl⟩ : ∃ m, k = m + 1 := ⟨k - 1, by omega⟩
    have hlt : i < l.length := by omega
    simp only [laws_eqItemS.l0]
    rw [if_pos (by omega), if_pos (by omega), if_pos (by omega), eqItem_same]
    simp only [Option.bind_some, if_true]
    rw [succ_cast i (by omega)]
    exact ih k (i + 1) (by omega) (by omega) (by omega)
theorem eqItemS_same (l : List S33) (hl : l.length < 9223372036854775807) (k : Nat) (hk : l.length < k) : laws_eqItemS.f k l l = some true := by
  unfold laws_eqItemS.f
  rw [if_pos rfl]
  exact eqItemS_loop l hl l.length k 0 (by omega) (by omega) hk

theorem szItemS_eq (l : List S71) (hl : l.length * 24 ≤ 140737488351232) : laws_szItemS.f l 1048576 = some (if l.length ≤ 1048576 then 1048576 - (l.length : Int) else -1) := by
  unfold laws_szItemS.f
  rw [wrap_small (by omega) (by omega)]
  by_cases h : l.length ≤ 1048576
  · rw [if_neg (by omega), if_pos h]
  · rw [if_pos (by omega), if_neg h]

theorem rdset33 (xs : List S33) (i j : Nat) (v : S33) (h : i < xs.length) : rd_T33 (xs.set i v) (j : Int) = if j = i then v else rd_T33 xs (j : Int) := by
  unfold rd_T33
  rw [Int.toNat_natCast, List.getD_eq_getElem?_getD, List.getD_eq_getElem?_getD, List.getElem?_set]
  by_cases e : j = i
  · subst e; simp [h]
  · have e' : i ≠ j := fun q => e q.symm
    simp [e, e']
def markOfItem (j : Nat) : S33 := ⟨1 + 3 * (j : Int), 1 + 3 * (j : Int) + 1, 1 + 3 * (j : Int) + 2⟩
theorem markItemS_loop (n : Nat) (hn : n ≤ 1048576) : ∀ (d k i : Nat) (x0 : List S33), x0.length = n → n - i = d → i ≤ n → d < k → (∀ j : Nat, j < i → rd_T33 x0 j = markOfItem j) →
    ∃ l', laws_markItemS.l0 k x0 (1 + 3 * (i : Int)) (i : Int) = some (1 + 3 * (n : Int), l') ∧ l'.length = n ∧ ∀ j : Nat, j < n → rd_T33 l' j = markOfItem j := by
  intro d
  induction d with
  | zero =>
    intro k i x0 hx hd hi hk hm
    obtain ⟨k, rfl⟩ : ∃ m, k = m + 1 := ⟨k - 1, by omega⟩
    obtain rfl : i = n := by omega
    simp only [laws_markItemS.l0]
    rw [if_neg (by omega)]
    exact ⟨x0, rfl, hx, hm⟩
  | succ d ih =>
    intro k i x0 hx hd hi hk hm
    obtain ⟨k, rfl⟩ : ∃ m, k = m + 1 := ⟨k - 1, by omega⟩
    simp only [laws_markItemS.l0]
    rw [if_pos (by omega), if_pos (by omega)]
    simp only [Option.bind_some, Int.toNat_natCast, List.length_set, hx, rdset33, show i < n from by omega, if_true, List.set_set]
    rw [show wrap64 ((1 + 3 * (i : Int)) + 1) = 1 + 3 * (i : Int) + 1 from by rw [wrap_small (by omega) (by omega)]]
    rw [show wrap64 ((1 + 3 * (i : Int) + 1) + 1) = 1 + 3 * (i : Int) + 2 from by rw [wrap_small (by omega) (by omega)]; omega]
    rw [show wrap64 ((1 + 3 * (i : Int) + 2) + 1) = 1 + 3 * (i : Int) + 3 from by rw [wrap_small (by omega) (by omega)]; omega]
    obtain ⟨l', h1, h2, h3⟩ := ih k (i + 1) (x0.set i (markOfItem i)) (by simp [hx]) (by omega) (by omega) (by omega) (fun j hj => by
      rw [rdset33 _ _ _ _ (by omega)]
      by_cases e : j = i
      · rw [if_pos e, e]
      · rw [if_neg e]; exact hm j (by omega))
    refine ⟨l', ?_, h2, h3⟩
    rw [← h1, succ_cast i (by omega)]
    congr 1
theorem markItemS_eq (l : List S33) (hn : l.length ≤ 1048576) (k : Nat) (hk : l.length < k) : ∃ l', laws_markItemS.f k l 1 = some (1 + 3 * (l.length : Int), l') ∧ l'.length = l.length ∧ ∀ j : Nat, j < l.length → rd_T33 l' j = markOfItem j :=
  markItemS_loop l.length hn l.length k 0 l rfl (by omega) (by omega) hk (fun j hj => absurd hj (by omega))
theorem heldItemS_loop (n : Nat) (hn : n ≤ 1048576) (l : List S33) (hl : l.length = n) (hm : ∀ j : Nat, j < n → rd_T33 l j = markOfItem j) : ∀ (d k i : Nat), n - i = d → i ≤ n → d < k → laws_heldItemS.l0 k l (1 + 3 * (i : Int)) (i : Int) = some (1 + 3 * (n : Int)) := by
  intro d
  induction d with
  | zero =>
    intro k i hd hi hk
    obtain ⟨k, rfl⟩ : ∃ m, k = m + 1 := ⟨k - 1, by omega⟩
    obtain rfl : i = n := by omega
    simp only [laws_heldItemS.l0]
    rw [if_neg (by omega)]
  | succ d ih =>
    intro k i hd hi hk
    obtain ⟨k, rfl⟩ : ∃ m, k = m + 1 := ⟨k - 1, by omega⟩
    simp only [laws_heldItemS.l0, hm i (by omega)]
    rw [if_pos (by omega), if_pos (by omega)]
    rw [show wrap64 ((1 + 3 * (i : Int)) + 1) = 1 + 3 * (i : Int) + 1 from by rw [wrap_small (by omega) (by omega)]]
    rw [show wrap64 ((1 + 3 * (i : Int) + 1) + 1) = 1 + 3 * (i : Int) + 2 from by rw [wrap_small (by omega) (by omega)]; omega]
    rw [show wrap64 ((1 + 3 * (i : Int) + 2) + 1) = 1 + 3 * (i : Int) + 3 from by rw [wrap_small (by omega) (by omega)]; omega]
    simp only [markOfItem, if_true]
    rw [succ_cast i (by omega)]
    have := ih k (i + 1) (by omega) (by omega) (by omega)
    rw [← this]
    congr 1
theorem heldItemS_eq (l : List S33) (n : Nat) (hl : l.length = n) (hn : n ≤ 1048576) (hm : ∀ j : Nat, j < n → rd_T33 l j = markOfItem j) (k : Nat) (hk : n < k) : laws_heldItemS.f k l 1 = some (1 + 3 * (n : Int)) :=
  heldItemS_loop n hn l hl hm n k 0 (by omega) (by omega) hk

theorem FnExactRatioSort : BridgeFnExactRatioSort.Pure := by
  intro l hl _
  refine ⟨l.length + 10011, ?_⟩
  unfold laws_FnExactRatioSort.f
  rw [szItemS_eq l hl]
  simp only [Option.bind_some]
  by_cases hsz : l.length ≤ 1048576
  · rw [if_pos hsz, if_neg (by omega), toItemS_eq l hl _ (by omega)]
    simp only [Option.bind_some]
    have hlen : (l.map convItem).length = l.length := by simp
    obtain ⟨v, hv, hs⟩ := same (l.map convItem) (by omega)
    obtain ⟨h1, h2⟩ := hs (l.length + 10011) (by omega)
    obtain ⟨_, h2'⟩ := hs (l.length + 10010) (by omega)
    rw [h1, h2]
    simp only [Option.bind_some]
    rw [eqItemS_same v (by omega) _ (by omega)]
    simp only [Option.bind_some, if_true]
    rw [eqItemS_same (l.map convItem) (by omega) _ (by omega)]
    simp only [Option.bind_some, if_true]
    obtain ⟨m1, hm1, _, _⟩ := markItemS_eq (l.map convItem) (by omega) (l.length + 10011) (by omega)
    obtain ⟨m2, hm2, hl2, hr2⟩ := markItemS_eq v (by omega) (l.length + 10010) (by omega)
    rw [hm1]
    simp only [Option.bind_some]
    rw [if_neg (by omega)]
    simp only [laws_FnExactRatioSort.j0, Bool.not_true, Bool.false_eq_true, if_false, hm2, Option.bind_some, heldItemS_eq m2 v.length hl2 (by omega) hr2 (l.length + 10010) (by omega), if_true, toItemS_eq l hl (l.length + 10010) (by omega), h2', eqItemS_same v (by omega) (l.length + 10010) (by omega)]
    rw [if_neg (by omega), if_neg (by omega)]
  · rw [if_neg hsz, if_pos (by omega)]
end Go.Proofs.Ytenlceojmjkbkaa.Pure
