/- FillSum answers as the reference does, for every list of Items, and leaves its argument. Conditions: none beyond the statement's own bounds. -/
import Derived.Test.YtnekamdopfielaaBridgeFnExactFillSum
namespace Go.Proofs.Ytnekamdopfielaa.Pure
open Go.RowKit Go.Proofs.Ytnekamdopfielaa.PFnExactFillSum Go.Proofs.Ytnekamdopfielaa.BridgeFnExactFillSum Go.Proofs.YtnekamdopfielaaW.PrintWords Go.Proofs.YtnekamdopfielaaW.PrintLast
set_option linter.unusedVariables false
set_option linter.unusedSimpArgs false

theorem wrap_small {x : Int} (h0 : -9223372036854775808 ≤ x) (h1 : x ≤ 9223372036854775807) : wrap64 x = x := by
  unfold wrap64
  omega
theorem i64_range {x : Int} (h : (Lit.int .i64 x).wf = true) : -9223372036854775808 ≤ x ∧ x ≤ 9223372036854775807 := by
  simp [Lit.wf, IntKind.min, IntKind.max, IntKind.bits, IntKind.signed] at h
  omega
theorem u64_range {x : Int} (h : (Lit.int .u64 x).wf = true) : 0 ≤ x ∧ x < 18446744073709551616 := by
  simp [Lit.wf, IntKind.min, IntKind.max, IntKind.bits, IntKind.signed] at h
  omega

theorem in_eq (a b c : Int) : impl_in.f a b c = some (decide (b ≤ a ∧ a ≤ c)) := by
  unfold impl_in.f
  by_cases h : b ≤ a <;> simp [h]

theorem isId_eq (a : Int) : impl_isId.f a = some (decide (1 ≤ a ∧ a ≤ 1000000)) := by simp [impl_isId.f, in_eq]
theorem isWant_eq (a : Int) : impl_isWant.f a = some (decide (0 ≤ a ∧ a ≤ 1125899906842624)) := by simp [impl_isWant.f, in_eq]
theorem l02Id_eq (a : Int) : spec_l02Id.f a = some (decide (1 ≤ a ∧ a ≤ 1000000)) := by
  unfold spec_l02Id.f
  by_cases h : a ≥ 1
  · rw [if_pos h]; simp; omega
  · rw [if_neg h]; simp; omega
theorem l02Want_eq (a : Int) : spec_l02Want.f a = some (decide (0 ≤ a ∧ a ≤ 1125899906842624)) := by
  unfold spec_l02Want.f
  by_cases h : a ≥ 0
  · rw [if_pos h]; simp; omega
  · rw [if_neg h]; simp; omega

theorem isWeight_eq (a : Int) : impl_isWeight.f a = some (decide (1 ≤ a ∧ a ≤ 1073741824)) := by simp [impl_isWeight.f, in_eq]
theorem l02Weight_eq (a : Int) : spec_l02Weight.f a = some (decide (1 ≤ a ∧ a ≤ 1073741824)) := by
  unfold spec_l02Weight.f
  by_cases h : a ≥ 1
  · rw [if_pos h]; simp; omega
  · rw [if_neg h]; simp; omega

/-- A right Item. -/
def okItem (a b c : Int) : Bool := decide (1 ≤ a ∧ a ≤ 1000000) && (decide (0 ≤ b ∧ b ≤ 1125899906842624) && decide (1 ≤ c ∧ c ≤ 1073741824))
theorem spec_item_eq (a b c : Int) : spec_ItemRight.f a b c = some (okItem a b c) := by
  unfold spec_ItemRight.f okItem
  rw [l02Id_eq, l02Want_eq, l02Weight_eq]
  by_cases h1 : 1 ≤ a ∧ a ≤ 1000000 <;> by_cases h2 : 0 ≤ b ∧ b ≤ 1125899906842624 <;> simp [h1, h2]
theorem impl_item_eq (a b c : Int) : impl_ItemRight.f a b c = some (okItem a b c) := by
  unfold impl_ItemRight.f okItem
  rw [isId_eq, isWant_eq, isWeight_eq]
  by_cases h1 : 1 ≤ a ∧ a ≤ 1000000 <;> by_cases h2 : 0 ≤ b ∧ b ≤ 1125899906842624 <;> simp [h1, h2]

theorem set_fill {α β : Type} (l : List α) (f : α → β) (z : β) (i : Nat) (h : i < l.length) : ((l.take i).map f ++ List.replicate (l.length - i) z).set i (f l[i]) = (l.take (i + 1)).map f ++ List.replicate (l.length - (i + 1)) z := by
  have e : l.length - i = (l.length - (i + 1)) + 1 := by omega
  have hl : ((l.take i).map f).length = i := by simp; omega
  rw [e, List.replicate_succ, List.set_append_right i (f l[i]) (by omega), hl, Nat.sub_self, List.set_cons_zero, List.take_succ_eq_append_getElem h, List.map_append]
  simp
theorem succ_cast (i : Nat) (h : i < 9223372036854775807) : wrap64 ((i : Int) + 1) = ((i + 1 : Nat) : Int) := by
  rw [wrap_small (by omega) (by omega)]
  omega

theorem pred_cast (i : Nat) (h : 0 < i) (h2 : i < 9223372036854775807) : wrap64 ((i : Int) - 1) = ((i - 1 : Nat) : Int) := by
  rw [wrap_small (by omega) (by omega)]
  omega

theorem rd76 (xs : List S76) (i : Nat) (h : i < xs.length) : rd_T76 xs (i : Int) = xs[i] := by
  unfold rd_T76
  rw [Int.toNat_natCast, List.getD_eq_getElem?_getD, List.getElem?_eq_getElem h]
  rfl

def convItem (x : S76) : S78 := ⟨x.f0, x.f1, x.f2⟩
theorem toItemS_loop (l : List S76) (hl : l.length * 24 ≤ 140737488351232) : ∀ (d k i : Nat), l.length - i = d → i ≤ l.length → d < k → laws_toItemS.l0 k l ((l.take i).map convItem ++ List.replicate (l.length - i) z78) (i : Int) = some (l.map convItem) := by
  intro d
  induction d with
  | zero =>
    intro k i hd hi hk
    obtain ⟨k, rfl⟩ : ∃ m, k = m + 1 := ⟨k - 1, by omega⟩
    obtain rfl : i = l.length := by omega
    simp only [laws_toItemS.l0]
    rw [if_neg (by omega)]
    simp
  | succ d ih =>
    intro k i hd hi hk
    obtain ⟨k, rfl⟩ : ∃ m, k = m + 1 := ⟨k - 1, by omega⟩
    have hlt : i < l.length := by omega
    simp only [laws_toItemS.l0]
    rw [if_pos (by omega), if_pos (by omega)]
    simp only [laws_toItem.f, Option.bind_some, rd76 l i hlt]
    rw [if_pos (by simp; omega), Int.toNat_natCast, succ_cast i (by omega)]
    have e := set_fill l convItem z78 i hlt
    rw [show (⟨l[i].f0, l[i].f1, l[i].f2⟩ : S78) = convItem l[i] from rfl, e]
    exact ih k (i + 1) (by omega) (by omega) (by omega)
theorem toItemS_eq (l : List S76) (hl : l.length * 24 ≤ 140737488351232) (k : Nat) (hk : l.length < k) : laws_toItemS.f k l = some (l.map convItem) := by
  unfold laws_toItemS.f
  rw [if_pos (by omega), if_pos (by simp; omega)]
  have h := toItemS_loop l hl l.length k 0 (by omega) (by omega) hk
  simpa using h

theorem eqItem_same (x : S78) : laws_eqItem.f (x.f0) (x.f1) (x.f2) (x.f0) (x.f1) (x.f2) = some true := by simp [laws_eqItem.f]
theorem eqItemS_loop (l : List S78) (hl : l.length < 9223372036854775807) : ∀ (d k i : Nat), l.length - i = d → i ≤ l.length → d < k → laws_eqItemS.l0 k l l (i : Int) = some true := by
  intro d
  induction d with
  | zero =>
    intro k i hd hi hk
    obtain ⟨k, rfl⟩ : ∃ m, k = m + 1 := ⟨k - 1, by omega⟩
    simp only [laws_eqItemS.l0]
    rw [if_neg (by omega)]
  | succ d ih =>
    intro k i hd hi hk
    obtain ⟨k, rfl⟩ : ∃ m, k = m + 1 := ⟨k - 1, by omega⟩
    have hlt : i < l.length := by omega
    simp only [laws_eqItemS.l0]
    rw [if_pos (by omega), if_pos (by omega), if_pos (by omega), eqItem_same]
    simp only [Option.bind_some, if_true]
    rw [succ_cast i (by omega)]
    exact ih k (i + 1) (by omega) (by omega) (by omega)
theorem eqItemS_same (l : List S78) (hl : l.length < 9223372036854775807) (k : Nat) (hk : l.length < k) : laws_eqItemS.f k l l = some true := by
  unfold laws_eqItemS.f
  rw [if_pos rfl]
  exact eqItemS_loop l hl l.length k 0 (by omega) (by omega) hk

theorem szItemS_eq (l : List S76) (hl : l.length * 24 ≤ 140737488351232) : laws_szItemS.f l 1048576 = some (if l.length ≤ 1048576 then 1048576 - (l.length : Int) else -1) := by
  unfold laws_szItemS.f
  rw [wrap_small (by omega) (by omega)]
  by_cases h : l.length ≤ 1048576
  · rw [if_neg (by omega), if_pos h]
  · rw [if_pos (by omega), if_neg h]

/-- Both loops over a list tell the same, but that the program looks at the length last. -/
theorem items_loops (l : List S78) (hl : l.length < 9223372036854775807) : ∀ (d i : Nat), l.length - i = d → i ≤ l.length → ∃ b, ∀ k, d < k → spec_ItemsRight.l0 k l (i : Int) = some b ∧ impl_ItemsRight.l0 k l l (l.length : Int) (i : Int) = some (b && decide ((l.length : Int) ≤ 60)) := by
  intro d
  induction d with
  | zero =>
    intro i hd hi
    refine ⟨true, fun k hk => ?_⟩
    obtain ⟨k, rfl⟩ : ∃ m, k = m + 1 := ⟨k - 1, by omega⟩
    refine ⟨?_, ?_⟩
    · simp only [spec_ItemsRight.l0]; rw [if_neg (by omega)]
    · simp only [impl_ItemsRight.l0]; rw [if_neg (by omega)]; simp
  | succ d ih =>
    intro i hd hi
    obtain ⟨b, hb⟩ := ih (i + 1) (by omega) (by omega)
    have a1 : (i : Int) < (l.length : Int) := by omega
    have a2 : (0 : Int) ≤ (i : Int) := by omega
    by_cases h : okItem (rd_T78 l i).f0 (rd_T78 l i).f1 (rd_T78 l i).f2 = true
    · by_cases h0 : (i : Int) > 0
      · have a3 : (0 : Int) ≤ ((i - 1 : Nat) : Int) := by omega
        have a4 : ((i - 1 : Nat) : Int) < (l.length : Int) := by omega
        by_cases hc : (rd_T78 l i).f0 ≤ (rd_T78 l ((i - 1 : Nat) : Int)).f0
        · refine ⟨false, fun k hk => ?_⟩
          obtain ⟨k, rfl⟩ : ∃ m, k = m + 1 := ⟨k - 1, by omega⟩
          have hc' : (rd_T78 l ((i - 1 : Nat) : Int)).f0 ≥ (rd_T78 l i).f0 := hc
          simp only [spec_ItemsRight.l0, impl_ItemsRight.l0, a1, a2, if_true, spec_item_eq, impl_item_eq, Option.bind_some, h, h0, pred_cast i (by omega) (by omega), a3, a4, hc, hc']
          exact ⟨by first | rfl | trivial, by simp⟩
        · refine ⟨b, fun k hk => ?_⟩
          obtain ⟨k, rfl⟩ : ∃ m, k = m + 1 := ⟨k - 1, by omega⟩
          obtain ⟨h1, h2⟩ := hb k (by omega)
          have hc' : ¬ (rd_T78 l ((i - 1 : Nat) : Int)).f0 ≥ (rd_T78 l i).f0 := hc
          simp only [spec_ItemsRight.l0, impl_ItemsRight.l0, a1, a2, if_true, spec_item_eq, impl_item_eq, Option.bind_some, h, h0, pred_cast i (by omega) (by omega), a3, a4, hc, hc', if_false, succ_cast i (by omega), h1, h2]
          exact ⟨trivial, trivial⟩
      · refine ⟨b, fun k hk => ?_⟩
        obtain ⟨k, rfl⟩ : ∃ m, k = m + 1 := ⟨k - 1, by omega⟩
        obtain ⟨h1, h2⟩ := hb k (by omega)
        simp only [spec_ItemsRight.l0, impl_ItemsRight.l0, a1, a2, if_true, spec_item_eq, impl_item_eq, Option.bind_some, h, h0, if_false, succ_cast i (by omega), h1, h2]
        exact ⟨trivial, trivial⟩
    · refine ⟨false, fun k hk => ?_⟩
      obtain ⟨k, rfl⟩ : ∃ m, k = m + 1 := ⟨k - 1, by omega⟩
      simp only [spec_ItemsRight.l0, impl_ItemsRight.l0, a1, a2, if_true, spec_item_eq, impl_item_eq, Option.bind_some, h]
      exact ⟨by first | rfl | trivial, by simp⟩
theorem items_same (l : List S78) (hl : l.length < 9223372036854775807) : ∃ b, (b = true → l.length ≤ 60) ∧ ∀ k, l.length < k → spec_ItemsRight.f k l = some b ∧ impl_ItemsRight.f k l = some b := by
  obtain ⟨b, hb⟩ := items_loops l hl l.length 0 (by omega) (by omega)
  by_cases h : (l.length : Int) > 60
  · refine ⟨false, by simp, fun k hk => ?_⟩
    obtain ⟨h1, h2⟩ := hb k hk
    have h2' : impl_ItemsRight.l0 k l l (l.length : Int) 0 = some (b && decide ((l.length : Int) ≤ 60)) := h2
    unfold spec_ItemsRight.f impl_ItemsRight.f
    rw [h2', if_pos h]
    exact ⟨rfl, by simp; omega⟩
  · refine ⟨b, fun _ => by omega, fun k hk => ?_⟩
    obtain ⟨h1, h2⟩ := hb k hk
    have h1' : spec_ItemsRight.l0 k l 0 = some b := h1
    have h2' : impl_ItemsRight.l0 k l l (l.length : Int) 0 = some (b && decide ((l.length : Int) ≤ 60)) := h2
    unfold spec_ItemsRight.f impl_ItemsRight.f
    rw [h1', h2', if_neg h]
    exact ⟨rfl, by simp; omega⟩

theorem sum_loops (l : List S78) (hl : l.length < 9223372036854775807) : ∀ (d k i : Nat) (s : Int), l.length - i = d → i ≤ l.length → d < k → ∃ v, spec_FillSum.l0 k l s (i : Int) = some v ∧ impl_FillSum.l0 k s l (l.length : Int) (i : Int) = some v := by
  intro d
  induction d with
  | zero =>
    intro k i s hd hi hk
    obtain ⟨k, rfl⟩ : ∃ m, k = m + 1 := ⟨k - 1, by omega⟩
    refine ⟨s, ?_, ?_⟩
    · simp only [spec_FillSum.l0]; rw [if_neg (by omega)]
    · simp only [impl_FillSum.l0]; rw [if_neg (by omega)]
  | succ d ih =>
    intro k i s hd hi hk
    obtain ⟨k, rfl⟩ : ∃ m, k = m + 1 := ⟨k - 1, by omega⟩
    have a1 : (i : Int) < (l.length : Int) := by omega
    have a2 : (0 : Int) ≤ (i : Int) := by omega
    obtain ⟨v, h1, h2⟩ := ih k (i + 1) (wrap64 (s + (rd_T78 l i).f1)) (by omega) (by omega) (by omega)
    refine ⟨v, ?_, ?_⟩
    · simp only [spec_FillSum.l0, a1, a2, if_true, succ_cast i (by omega), h1]
    · simp only [impl_FillSum.l0, a1, a2, if_true, succ_cast i (by omega), h2]
theorem sum_same (l : List S78) (hl : l.length < 9223372036854775807) (k : Nat) (hk : l.length < k) : ∃ v, spec_FillSum.f k l = some v ∧ impl_FillSum.f k l = some v := by
  obtain ⟨b, _, hb⟩ := items_same l hl
  obtain ⟨h1, h2⟩ := hb k hk
  unfold spec_FillSum.f impl_FillSum.f
  rw [h1, h2]
  simp only [Option.bind_some]
  cases b with
  | true =>
    obtain ⟨v, h3, h4⟩ := sum_loops l hl l.length k 0 0 (by omega) (by omega) hk
    exact ⟨v, by simpa using h3, by simpa using h4⟩
  | false => exact ⟨0, rfl, rfl⟩

theorem FnExactFillSum : BridgeFnExactFillSum.Pure := by
  intro l hl _
  refine ⟨l.length + 10, ?_⟩
  unfold laws_FnExactFillSum.f
  rw [szItemS_eq l hl]
  simp only [Option.bind_some]
  by_cases hsz : l.length ≤ 1048576
  · rw [if_pos hsz, if_neg (by omega), toItemS_eq l hl _ (by omega)]
    simp only [Option.bind_some]
    obtain ⟨v, h1, h2⟩ := sum_same (l.map convItem) (by simp; omega) (l.length + 10) (by simp)
    rw [h1, h2]
    simp only [Option.bind_some, if_true]
    rw [eqItemS_same _ (by simp; omega) _ (by simp)]
    simp
  · rw [if_neg hsz, if_pos (by omega)]

end Go.Proofs.Ytnekamdopfielaa.Pure
