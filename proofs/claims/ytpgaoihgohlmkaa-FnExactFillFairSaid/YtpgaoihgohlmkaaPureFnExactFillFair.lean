/- FillFair answers as the reference does, for every list of Items and every list of Parts, and leaves its arguments. Conditions: none beyond the statement's own bounds. -/
import Derived.Test.YtpgaoihgohlmkaaBridgeFnExactFillFair
namespace Go.Proofs.Ytpgaoihgohlmkaa.Pure
open Go.RowKit Go.Proofs.Ytpgaoihgohlmkaa.XFnExactFillFair Go.Proofs.Ytpgaoihgohlmkaa.BridgeFnExactFillFair Go.Proofs.YtpgaoihgohlmkaaW.PrintWords Go.Proofs.YtpgaoihgohlmkaaW.PrintLast Go.Proofs.YtpgaoihgohlmkaaW.PrintMore
set_option linter.unusedVariables false
set_option linter.unusedSimpArgs false

theorem wrap_small {x : Int} (h0 : -9223372036854775808 ≤ x) (h1 : x ≤ 9223372036854775807) : wrap64 x = x := by
  unfold wrap64
  omega
theorem i64_range {x : Int} (h : (Lit.int .i64 x).wf = true) : -9223372036854775808 ≤ x ∧ x ≤ 9223372036854775807 := by
  simp [Lit.wf, IntKind.min, IntKind.max, IntKind.bits, IntKind.signed] at h
  omega
theorem u64_range {x : Int} (h : (Lit.int .u64 x).wf = true) : 0 ≤ x ∧ x < 18446744073709551616 := by
  simp [Lit.wf, IntKind.min, IntKind.max, IntKind.bits, IntKind.signed] at h
  omega

theorem in_eq (a b c : Int) : impl_in.f a b c = some (decide (b ≤ a ∧ a ≤ c)) := by
  unfold impl_in.f
  by_cases h : b ≤ a <;> simp [h]

theorem isId_eq (a : Int) : impl_isId.f a = some (decide (1 ≤ a ∧ a ≤ 1000000)) := by simp [impl_isId.f, in_eq]
theorem isWant_eq (a : Int) : impl_isWant.f a = some (decide (0 ≤ a ∧ a ≤ 1125899906842624)) := by simp [impl_isWant.f, in_eq]
theorem l02Id_eq (a : Int) : spec_l02Id.f a = some (decide (1 ≤ a ∧ a ≤ 1000000)) := by
  unfold spec_l02Id.f
  by_cases h : a ≥ 1
  · rw [if_pos h]; simp; omega
  · rw [if_neg h]; simp; omega
theorem l02Want_eq (a : Int) : spec_l02Want.f a = some (decide (0 ≤ a ∧ a ≤ 1125899906842624)) := by
  unfold spec_l02Want.f
  by_cases h : a ≥ 0
  · rw [if_pos h]; simp; omega
  · rw [if_neg h]; simp; omega

theorem isWeight_eq (a : Int) : impl_isWeight.f a = some (decide (1 ≤ a ∧ a ≤ 1073741824)) := by simp [impl_isWeight.f, in_eq]
theorem l02Weight_eq (a : Int) : spec_l02Weight.f a = some (decide (1 ≤ a ∧ a ≤ 1073741824)) := by
  unfold spec_l02Weight.f
  by_cases h : a ≥ 1
  · rw [if_pos h]; simp; omega
  · rw [if_neg h]; simp; omega

/-- A right Item. -/
def okItem (a b c : Int) : Bool := decide (1 ≤ a ∧ a ≤ 1000000) && (decide (0 ≤ b ∧ b ≤ 1125899906842624) && decide (1 ≤ c ∧ c ≤ 1073741824))
theorem spec_item_eq (a b c : Int) : spec_ItemRight.f a b c = some (okItem a b c) := by
  unfold spec_ItemRight.f okItem
  rw [l02Id_eq, l02Want_eq, l02Weight_eq]
  by_cases h1 : 1 ≤ a ∧ a ≤ 1000000 <;> by_cases h2 : 0 ≤ b ∧ b ≤ 1125899906842624 <;> simp [h1, h2]
theorem impl_item_eq (a b c : Int) : impl_ItemRight.f a b c = some (okItem a b c) := by
  unfold impl_ItemRight.f okItem
  rw [isId_eq, isWant_eq, isWeight_eq]
  by_cases h1 : 1 ≤ a ∧ a ≤ 1000000 <;> by_cases h2 : 0 ≤ b ∧ b ≤ 1125899906842624 <;> simp [h1, h2]

theorem set_fill {α β : Type} (l : List α) (f : α → β) (z : β) (i : Nat) (h : i < l.length) : ((l.take i).map f ++ List.replicate (l.length - i) z).set i (f l[i]) = (l.take (i + 1)).map f ++ List.replicate (l.length - (i + 1)) z := by
  have e : l.length - i = (l.length - (i + 1)) + 1 := by omega
  have hl : ((l.take i).map f).length = i := by simp; omega
  rw [e, List.replicate_succ, List.set_append_right i (f l[i]) (by omega), hl, Nat.sub_self, List.set_cons_zero, List.take_succ_eq_append_getElem h, List.map_append]
  simp
theorem succ_cast (i : Nat) (h : i < 9223372036854775807) : wrap64 ((i : Int) + 1) = ((i + 1 : Nat) : Int) := by
  rw [wrap_small (by omega) (by omega)]
  omega

theorem pred_cast (i : Nat) (h : 0 < i) (h2 : i < 9223372036854775807) : wrap64 ((i : Int) - 1) = ((i - 1 : Nat) : Int) := by
  rw [wrap_small (by omega) (by omega)]
  omega

theorem rd91 (xs : List S91) (i : Nat) (h : i < xs.length) : rd_T91 xs (i : Int) = xs[i] := by
  unfold rd_T91
  rw [Int.toNat_natCast, List.getD_eq_getElem?_getD, List.getElem?_eq_getElem h]
  rfl

def convItem (x : S91) : S88 := ⟨x.f0, x.f1, x.f2⟩
theorem toItemS_loop (l : List S91) (hl : l.length * 24 ≤ 140737488351232) : ∀ (d k i : Nat), l.length - i = d → i ≤ l.length → d < k → laws_toItemS.l0 k l ((l.take i).map convItem ++ List.replicate (l.length - i) z88) (i : Int) = some (l.map convItem) := by
  intro d
  induction d with
  | zero =>
    intro k i hd hi hk
    obtain ⟨k, rfl⟩ : ∃ m, k = m + 1 := ⟨k - 1, by omega⟩
    obtain rfl : i = l.length := by omega
    simp only [laws_toItemS.l0]
    rw [if_neg (by omega)]
    simp
  | succ d ih =>
    intro k i hd hi hk
    obtain ⟨k, rfl⟩ : ∃ m, k = m + 1 := ⟨k - 1, by omega⟩
    have hlt : i < l.length := by omega
    simp only [laws_toItemS.l0]
    rw [if_pos (by omega), if_pos (by omega)]
    simp only [laws_toItem.f, Option.bind_some, rd91 l i hlt]
    rw [if_pos (by simp; omega), Int.toNat_natCast, succ_cast i (by omega)]
    have e := set_fill l convItem z88 i hlt
    rw [show (⟨l[i].f0, l[i].f1, l[i].f2⟩ : S88) = convItem l[i] from rfl, e]
    exact ih k (i + 1) (by omega) (by omega) (by omega)
theorem toItemS_eq (l : List S91) (hl : l.length * 24 ≤ 140737488351232) (k : Nat) (hk : l.length < k) : laws_toItemS.f k l = some (l.map convItem) := by
  unfold laws_toItemS.f
  rw [if_pos (by omega), if_pos (by simp; omega)]
  have h := toItemS_loop l hl l.length k 0 (by omega) (by omega) hk
  simpa using h

theorem eqItem_same (x : S88) : laws_eqItem.f (x.f0) (x.f1) (x.f2) (x.f0) (x.f1) (x.f2) = some true := by simp [laws_eqItem.f]
theorem eqItemS_loop (l : List S88) (hl : l.length < 9223372036854775807) : ∀ (d k i : Nat), l.length - i = d → i ≤ l.length → d < k → laws_eqItemS.l0 k l l (i : Int) = some true := by
  intro d
  induction d with
  | zero =>
    intro k i hd hi hk
    obtain ⟨k, rfl⟩ : ∃ m, k = m + 1 := ⟨k - 1, by omega⟩
    simp only [laws_eqItemS.l0]
    rw [if_neg (by omega)]
  | succ d ih =>
    intro k i hd hi hk
    obtain ⟨k, rfl⟩ : ∃ m, k = m + 1 := ⟨k - 1, by omega⟩
    have hlt : i < l.length := by omega
    simp only [laws_eqItemS.l0]
    rw [if_pos (by omega), if_pos (by omega), if_pos (by omega), eqItem_same]
    simp only [Option.bind_some, if_true]
    rw [succ_cast i (by omega)]
    exact ih k (i + 1) (by omega) (by omega) (by omega)
theorem eqItemS_same (l : List S88) (hl : l.length < 9223372036854775807) (k : Nat) (hk : l.length < k) : laws_eqItemS.f k l l = some true := by
  unfold laws_eqItemS.f
  rw [if_pos rfl]
  exact eqItemS_loop l hl l.length k 0 (by omega) (by omega) hk

theorem szItemS_eq (l : List S91) (hl : l.length * 24 ≤ 140737488351232) : laws_szItemS.f l 1048576 = some (if l.length ≤ 1048576 then 1048576 - (l.length : Int) else -1) := by
  unfold laws_szItemS.f
  rw [wrap_small (by omega) (by omega)]
  by_cases h : l.length ≤ 1048576
  · rw [if_neg (by omega), if_pos h]
  · rw [if_pos (by omega), if_neg h]

/-- What a right list asks at place j. -/
def itemsAt (l : List S88) (j : Nat) : Prop := (okItem (rd_T88 l j).f0 (rd_T88 l j).f1 (rd_T88 l j).f2 = true) ∧ (0 < j → (rd_T88 l ((j - 1 : Nat) : Int)).f0 < (rd_T88 l j).f0)
/-- Both loops over a list tell the same, but that the program looks at the length last. -/
theorem items_loops (l : List S88) (hl : l.length < 9223372036854775807) : ∀ (d i : Nat), l.length - i = d → i ≤ l.length → ∃ b, (b = true → ∀ j : Nat, i ≤ j → j < l.length → itemsAt l j) ∧ ∀ k, d < k → spec_ItemsRight.l0 k l (i : Int) = some b ∧ impl_ItemsRight.l0 k l l (l.length : Int) (i : Int) = some (b && decide ((l.length : Int) ≤ 60)) := by
  intro d
  induction d with
  | zero =>
    intro i hd hi
    refine ⟨true, fun _ j h1 h2 => by omega, fun k hk => ?_⟩
    obtain ⟨k, rfl⟩ : ∃ m, k = m + 1 := ⟨k - 1, by omega⟩
    refine ⟨?_, ?_⟩
    · simp only [spec_ItemsRight.l0]; rw [if_neg (by omega)]
    · simp only [impl_ItemsRight.l0]; rw [if_neg (by omega)]; simp
  | succ d ih =>
    intro i hd hi
    obtain ⟨b, hbm, hb⟩ := ih (i + 1) (by omega) (by omega)
    have a1 : (i : Int) < (l.length : Int) := by omega
    have a2 : (0 : Int) ≤ (i : Int) := by omega
    by_cases h : okItem (rd_T88 l i).f0 (rd_T88 l i).f1 (rd_T88 l i).f2 = true
    · by_cases h0 : (i : Int) > 0
      · have a3 : (0 : Int) ≤ ((i - 1 : Nat) : Int) := by omega
        have a4 : ((i - 1 : Nat) : Int) < (l.length : Int) := by omega
        by_cases hc : (rd_T88 l i).f0 ≤ (rd_T88 l ((i - 1 : Nat) : Int)).f0
        · refine ⟨false, (fun h => by cases h), fun k hk => ?_⟩
          obtain ⟨k, rfl⟩ : ∃ m, k = m + 1 := ⟨k - 1, by omega⟩
          have hc' : (rd_T88 l ((i - 1 : Nat) : Int)).f0 ≥ (rd_T88 l i).f0 := hc
          simp only [spec_ItemsRight.l0, impl_ItemsRight.l0, a1, a2, if_true, spec_item_eq, impl_item_eq, Option.bind_some, h, h0, pred_cast i (by omega) (by omega), a3, a4, hc, hc']
          exact ⟨by first | rfl | trivial, by simp⟩
        · refine ⟨b, fun hbt j h1 h2 => ?_, fun k hk => ?_⟩
          · by_cases hj : j = i
            · rw [hj]; exact ⟨h, fun _ => by omega⟩
            · exact hbm hbt j (by omega) h2
          obtain ⟨k, rfl⟩ : ∃ m, k = m + 1 := ⟨k - 1, by omega⟩
          obtain ⟨h1, h2⟩ := hb k (by omega)
          have hc' : ¬ (rd_T88 l ((i - 1 : Nat) : Int)).f0 ≥ (rd_T88 l i).f0 := hc
          simp only [spec_ItemsRight.l0, impl_ItemsRight.l0, a1, a2, if_true, spec_item_eq, impl_item_eq, Option.bind_some, h, h0, pred_cast i (by omega) (by omega), a3, a4, hc, hc', if_false, succ_cast i (by omega), h1, h2]
          all_goals exact ⟨trivial, trivial⟩
      · refine ⟨b, fun hbt j h1 h2 => ?_, fun k hk => ?_⟩
        · by_cases hj : j = i
          · rw [hj]; exact ⟨h, fun h => absurd h (by omega)⟩
          · exact hbm hbt j (by omega) h2
        obtain ⟨k, rfl⟩ : ∃ m, k = m + 1 := ⟨k - 1, by omega⟩
        obtain ⟨h1, h2⟩ := hb k (by omega)
        simp only [spec_ItemsRight.l0, impl_ItemsRight.l0, a1, a2, if_true, spec_item_eq, impl_item_eq, Option.bind_some, h, h0, if_false, succ_cast i (by omega), h1, h2]
        all_goals exact ⟨trivial, trivial⟩
    · refine ⟨false, (fun h => by cases h), fun k hk => ?_⟩
      obtain ⟨k, rfl⟩ : ∃ m, k = m + 1 := ⟨k - 1, by omega⟩
      simp only [spec_ItemsRight.l0, impl_ItemsRight.l0, a1, a2, if_true, spec_item_eq, impl_item_eq, Option.bind_some, h]
      exact ⟨by first | rfl | trivial, by simp⟩
theorem items_same (l : List S88) (hl : l.length < 9223372036854775807) : ∃ b, (b = true → l.length ≤ 60 ∧ ∀ j : Nat, j < l.length → itemsAt l j) ∧ ∀ k, l.length < k → spec_ItemsRight.f k l = some b ∧ impl_ItemsRight.f k l = some b := by
  obtain ⟨b, hbm, hb⟩ := items_loops l hl l.length 0 (by omega) (by omega)
  by_cases h : (l.length : Int) > 60
  · refine ⟨false, by simp, fun k hk => ?_⟩
    obtain ⟨h1, h2⟩ := hb k hk
    have h2' : impl_ItemsRight.l0 k l l (l.length : Int) 0 = some (b && decide ((l.length : Int) ≤ 60)) := h2
    unfold spec_ItemsRight.f impl_ItemsRight.f
    rw [h2', if_pos h]
    exact ⟨rfl, by simp; omega⟩
  · refine ⟨b, fun hbt => ⟨by omega, fun j hj => hbm hbt j (by omega) hj⟩, fun k hk => ?_⟩
    obtain ⟨h1, h2⟩ := hb k hk
    have h1' : spec_ItemsRight.l0 k l 0 = some b := h1
    have h2' : impl_ItemsRight.l0 k l l (l.length : Int) 0 = some (b && decide ((l.length : Int) ≤ 60)) := h2
    unfold spec_ItemsRight.f impl_ItemsRight.f
    rw [h1', h2', if_neg h]
    exact ⟨rfl, by simp; omega⟩

theorem rd88 (xs : List S88) (i : Nat) (h : i < xs.length) : rd_T88 xs (i : Int) = xs[i] := by
  unfold rd_T88
  rw [Int.toNat_natCast, List.getD_eq_getElem?_getD, List.getElem?_eq_getElem h]
  rfl

theorem rd93 (xs : List S93) (i : Nat) (h : i < xs.length) : rd_T93 xs (i : Int) = xs[i] := by
  unfold rd_T93
  rw [Int.toNat_natCast, List.getD_eq_getElem?_getD, List.getElem?_eq_getElem h]
  rfl

def convPart (x : S93) : S86 := ⟨x.f0, x.f1⟩
theorem toPartS_loop (l : List S93) (hl : l.length * 16 ≤ 140737488351232) : ∀ (d k i : Nat), l.length - i = d → i ≤ l.length → d < k → laws_toPartS.l0 k l ((l.take i).map convPart ++ List.replicate (l.length - i) z86) (i : Int) = some (l.map convPart) := by
  intro d
  induction d with
  | zero =>
    intro k i hd hi hk
    obtain ⟨k, rfl⟩ : ∃ m, k = m + 1 := ⟨k - 1, by omega⟩
    obtain rfl : i = l.length := by omega
    simp only [laws_toPartS.l0]
    rw [if_neg (by omega)]
    simp
  | succ d ih =>
    intro k i hd hi hk
    obtain ⟨k, rfl⟩ : ∃ m, k = m + 1 := ⟨k - 1, by omega⟩
    have hlt : i < l.length := by omega
    simp only [laws_toPartS.l0]
    rw [if_pos (by omega), if_pos (by omega)]
    simp only [laws_toPart.f, Option.bind_some, rd93 l i hlt]
    rw [if_pos (by simp; omega), Int.toNat_natCast, succ_cast i (by omega)]
    have e := set_fill l convPart z86 i hlt
    rw [show (⟨l[i].f0, l[i].f1⟩ : S86) = convPart l[i] from rfl, e]
    exact ih k (i + 1) (by omega) (by omega) (by omega)
theorem toPartS_eq (l : List S93) (hl : l.length * 16 ≤ 140737488351232) (k : Nat) (hk : l.length < k) : laws_toPartS.f k l = some (l.map convPart) := by
  unfold laws_toPartS.f
  rw [if_pos (by omega), if_pos (by simp; omega)]
  have h := toPartS_loop l hl l.length k 0 (by omega) (by omega) hk
  simpa using h

theorem eqPart_same (x : S86) : laws_eqPart.f (x.f0) (x.f1) (x.f0) (x.f1) = some true := by simp [laws_eqPart.f]
theorem eqPartS_loop (l : List S86) (hl : l.length < 9223372036854775807) : ∀ (d k i : Nat), l.length - i = d → i ≤ l.length → d < k → laws_eqPartS.l0 k l l (i : Int) = some true := by
  intro d
  induction d with
  | zero =>
    intro k i hd hi hk
    obtain ⟨k, rfl⟩ : ∃ m, k = m + 1 := ⟨k - 1, by omega⟩
    simp only [laws_eqPartS.l0]
    rw [if_neg (by omega)]
  | succ d ih =>
    intro k i hd hi hk
    obtain ⟨k, rfl⟩ : ∃ m, k = m + 1 := ⟨k - 1, by omega⟩
    have hlt : i < l.length := by omega
    simp only [laws_eqPartS.l0]
    rw [if_pos (by omega), if_pos (by omega), if_pos (by omega), eqPart_same]
    simp only [Option.bind_some, if_true]
    rw [succ_cast i (by omega)]
    exact ih k (i + 1) (by omega) (by omega) (by omega)
theorem eqPartS_same (l : List S86) (hl : l.length < 9223372036854775807) (k : Nat) (hk : l.length < k) : laws_eqPartS.f k l l = some true := by
  unfold laws_eqPartS.f
  rw [if_pos rfl]
  exact eqPartS_loop l hl l.length k 0 (by omega) (by omega) hk

theorem w64 (x : Int) : IntKind.u64.wrap x = x % 18446744073709551616 := by simp [IntKind.wrap, IntKind.bits, IntKind.signed]
/-- The two words of a wide number's value. -/
def hiW (v : Int) : Int := v / 18446744073709551616
def loW (v : Int) : Int := v % 18446744073709551616
theorem hi_of (a b : Int) (h0 : 0 ≤ b) (h1 : b < 18446744073709551616) : hiW (a * 18446744073709551616 + b) = a := by unfold hiW; omega
theorem lo_of (a b : Int) (h0 : 0 ≤ b) (h1 : b < 18446744073709551616) : loW (a * 18446744073709551616 + b) = b := by unfold loW; omega
theorem val_of (a b : Int) (ha0 : 0 ≤ a) (ha1 : a < 18446744073709551616) (hb0 : 0 ≤ b) (hb1 : b < 18446744073709551616) : 0 ≤ a * 18446744073709551616 + b ∧ a * 18446744073709551616 + b < 340282366920938463463374607431768211456 := by omega
theorem hiW_range (v : Int) (h0 : 0 ≤ v) (h1 : v < 340282366920938463463374607431768211456) : 0 ≤ hiW v ∧ hiW v < 18446744073709551616 := by unfold hiW; omega
theorem loW_range (v : Int) : 0 ≤ loW v ∧ loW v < 18446744073709551616 := by unfold loW; omega
theorem val_eq (v : Int) : hiW v * 18446744073709551616 + loW v = v := by unfold hiW loW; omega
theorem hiW_zero : hiW 0 = 0 := rfl
theorem loW_zero : loW 0 = 0 := rfl
theorem hiW_small (x : Int) (h0 : 0 ≤ x) (h1 : x < 18446744073709551616) : hiW x = 0 := by unfold hiW; omega
theorem loW_small (x : Int) (h0 : 0 ≤ x) (h1 : x < 18446744073709551616) : loW x = x := by unfold loW; omega
theorem emod_le' (b m : Int) (hb : 0 ≤ b) (hm : 0 < m) : b % m ≤ b := by
  have h1 := Int.emod_def b m
  have h2 := Int.mul_nonneg (Int.le_of_lt hm) (Int.ediv_nonneg hb (Int.le_of_lt hm))
  omega
theorem pow_pos' (j : Nat) : (0 : Int) < 2 ^ j := Int.pow_pos (by decide)
theorem emod_pow_succ (b : Int) (j : Nat) (hb : 0 ≤ b) : b % 2 ^ (j + 1) = b % 2 ^ j + 2 ^ j * (b / 2 ^ j % 2) := by
  obtain ⟨n, rfl⟩ := Int.eq_ofNat_of_zero_le hb
  have h := Nat.mod_mul (a := 2 ^ j) (b := 2) (x := n)
  rw [Int.pow_succ]
  exact_mod_cast h
theorem emod_mul_left (a b m : Int) : (a % m * b) % m = (a * b) % m := by rw [Int.mul_emod, Int.emod_emod, ← Int.mul_emod]

theorem wide_add (v u : Int) (hv0 : 0 ≤ v) (hv1 : v < 340282366920938463463374607431768211456) (hu0 : 0 ≤ u) (hu1 : u < 340282366920938463463374607431768211456) : spec_WideAdd.f (hiW v) (loW v) (hiW u) (loW u) = some (hiW ((v + u) % 340282366920938463463374607431768211456), loW ((v + u) % 340282366920938463463374607431768211456), decide (340282366920938463463374607431768211456 ≤ v + u), 0) := by
  unfold spec_WideAdd.f hiW loW
  simp only [w64]
  by_cases c1 : (v % 18446744073709551616 + u % 18446744073709551616) % 18446744073709551616 < v % 18446744073709551616
  · rw [if_pos c1]
    by_cases c2 : (v / 18446744073709551616 + u / 18446744073709551616) % 18446744073709551616 < v / 18446744073709551616
    · rw [if_pos c2]
      simp only [Option.some.injEq, Prod.mk.injEq]
      exact ⟨by omega, by omega, (decide_eq_true (by omega)).symm, trivial⟩
    · rw [if_neg c2]
      simp only [Option.some.injEq, Prod.mk.injEq]
      exact ⟨by omega, by omega, decide_eq_decide.2 (by omega), trivial⟩
  · rw [if_neg c1]
    by_cases c2 : (v / 18446744073709551616 + u / 18446744073709551616) % 18446744073709551616 < v / 18446744073709551616
    · rw [if_pos c2]
      simp only [Option.some.injEq, Prod.mk.injEq]
      exact ⟨by omega, by omega, (decide_eq_true (by omega)).symm, trivial⟩
    · rw [if_neg c2]
      simp only [Option.some.injEq, Prod.mk.injEq]
      exact ⟨by omega, by omega, decide_eq_decide.2 (by omega), trivial⟩

theorem wide_shl_loop : ∀ (n k : Nat) (v : Int), n < k → n ≤ 127 → 0 ≤ v → v < 340282366920938463463374607431768211456 → spec_WideShl.l0 k (n : Int) (hiW v) (loW v) = some (hiW (v * 2 ^ n % 340282366920938463463374607431768211456), loW (v * 2 ^ n % 340282366920938463463374607431768211456)) := by
  intro n
  induction n with
  | zero =>
    intro k v hk _ h0 h1
    obtain ⟨k, rfl⟩ : ∃ m, k = m + 1 := ⟨k - 1, by omega⟩
    simp only [spec_WideShl.l0]
    rw [if_neg (by omega), show v * 2 ^ 0 % 340282366920938463463374607431768211456 = v by omega]
  | succ n ih =>
    intro k v hk hn h0 h1
    obtain ⟨k, rfl⟩ : ∃ m, k = m + 1 := ⟨k - 1, by omega⟩
    simp only [spec_WideShl.l0]
    rw [if_pos (by omega), wide_add v v h0 h1 h0 h1]
    simp only [Option.bind_some]
    rw [show wrap64 (((n + 1 : Nat) : Int) - 1) = (n : Int) by unfold wrap64; omega, ih k _ (by omega) (by omega) (by omega) (by omega), emod_mul_left, show (v + v) * 2 ^ n = v * 2 ^ (n + 1) by rw [Int.pow_succ, ← Int.mul_assoc, Int.add_mul]; omega]
theorem wide_shl (n k : Nat) (v : Int) (hk : n + 1 < k) (hn : n ≤ 127) (h0 : 0 ≤ v) (h1 : v < 340282366920938463463374607431768211456) : spec_WideShl.f k (hiW v) (loW v) (n : Int) = some (hiW (v * 2 ^ n % 340282366920938463463374607431768211456), loW (v * 2 ^ n % 340282366920938463463374607431768211456)) := by
  obtain ⟨k, rfl⟩ : ∃ m, k = m + 1 := ⟨k - 1, by omega⟩
  unfold spec_WideShl.f
  rw [if_neg (by omega)]
  have hd : decide ((n : Int) > 127) = false := decide_eq_false (by omega)
  simp only [spec_WideShl.j0, hd]
  exact wide_shl_loop n k v (by omega) hn h0 h1
theorem wide_shl_out (n : Int) (k : Nat) (a b : Int) (hk : 0 < k) (hn : n < 0 ∨ 127 < n) : spec_WideShl.f k a b n = some (0, 0) := by
  obtain ⟨k, rfl⟩ : ∃ m, k = m + 1 := ⟨k - 1, by omega⟩
  unfold spec_WideShl.f
  by_cases h : n < 0
  · rw [if_pos h]; simp only [spec_WideShl.j0, if_true]
  · rw [if_neg h]
    have hd : decide (n > 127) = true := decide_eq_true (by omega)
    simp only [spec_WideShl.j0, hd, if_true]

theorem wraps_u64 : ∀ n : Int, 0 ≤ n → n < 2 ^ 64 → IntKind.u64.wrap n = n := fun n h0 h1 => by rw [w64]; omega
theorem and_one (x : Int) (h0 : 0 ≤ x) (h1 : x < 18446744073709551616) : Go.bits .and .u64 x 1 = x % 2 := bits_mask .u64 64 (by decide) wraps_u64 1 (by decide) x h0 (by omega)
theorem and_low (x : Int) (h0 : 0 ≤ x) (h1 : x < 18446744073709551616) : Go.bits .and .u64 x 4294967295 = x % 4294967296 := bits_mask .u64 64 (by decide) wraps_u64 32 (by decide) x h0 (by omega)

theorem wide_mul_loop (a b : Int) (ha0 : 0 ≤ a) (ha1 : a < 18446744073709551616) (hb0 : 0 ≤ b) (hb1 : b < 18446744073709551616) : ∀ (d j k : Nat), 64 - j = d → j ≤ 64 → d + 130 < k → spec_WideMul.l0 k a b (j : Int) (hiW (a * (b % 2 ^ j))) (loW (a * (b % 2 ^ j))) = some (hiW (a * b), loW (a * b)) := by
  intro d
  induction d with
  | zero =>
    intro j k hd hj hk
    obtain ⟨k, rfl⟩ : ∃ m, k = m + 1 := ⟨k - 1, by omega⟩
    obtain rfl : j = 64 := by omega
    simp only [spec_WideMul.l0]
    rw [if_neg (by omega), show b % 2 ^ 64 = b by omega]
  | succ d ih =>
    intro j k hd hj hk
    obtain ⟨k, rfl⟩ : ∃ m, k = m + 1 := ⟨k - 1, by omega⟩
    have a1 : (j : Int) < 64 := by omega
    have a2 : (0 : Int) ≤ (j : Int) := by omega
    have ej : wrap64 ((j : Int) + 1) = ((j + 1 : Nat) : Int) := by unfold wrap64; omega
    have hw : IntKind.u64.wrap (j : Int) = j := by rw [w64]; omega
    have nxt := ih (j + 1) k (by omega) (by omega) (by omega)
    have hk2 : j + 1 < k := by omega
    have hj2 : j ≤ 127 := by omega
    have hp := pow_pos' j
    have hsh : shr .u64 b (j : Int) = b / 2 ^ j := by
      unfold shr
      rw [show min (j : Int).toNat (IntKind.bits .u64) = j by simp [IntKind.bits]; omega]
    have hq0 : 0 ≤ b / 2 ^ j := Int.ediv_nonneg hb0 (Int.le_of_lt hp)
    have hq1 : b / 2 ^ j < 18446744073709551616 := Int.lt_of_le_of_lt (Int.ediv_le_self _ hb0) hb1
    have hm0 : 0 ≤ b % 2 ^ j := Int.emod_nonneg _ (Int.ne_of_gt hp)
    have hm1 : b % 2 ^ j ≤ b := emod_le' b _ hb0 hp
    have step := emod_pow_succ b j hb0
    have hm2 : b % 2 ^ (j + 1) ≤ b := emod_le' b _ hb0 (pow_pos' _)
    have hm3 : 0 ≤ b % 2 ^ (j + 1) := Int.emod_nonneg _ (Int.ne_of_gt (pow_pos' _))
    have s := wide_shl j k a hk2 hj2 ha0 (by omega)
    rw [hiW_small a ha0 ha1, loW_small a ha0 ha1] at s
    simp only [spec_WideMul.l0, hw, a1, a2, if_true, hsh, and_one _ hq0 hq1, ej]
    clear hw ej hsh ih hk hk2 hj2 a1 a2 hd hj
    generalize hP : (2 : Int) ^ j = P at *
    generalize hP2 : b % 2 ^ (j + 1) = B at *
    generalize hB0 : b % P = C at *
    generalize hB1 : b / P = D at *
    by_cases hbit : D % 2 = 1
    · rw [if_pos hbit]
      rw [hbit, Int.mul_one] at step
      have bd : ∀ x : Int, 0 ≤ x → x ≤ b → 0 ≤ a * x ∧ a * x < 340282366920938463463374607431768211456 := fun x h0 h1 => by
        have h2 : a * x ≤ a * 18446744073709551615 := Int.mul_le_mul_of_nonneg_left (by omega) ha0
        have h3 := Int.mul_nonneg ha0 h0
        exact ⟨h3, by omega⟩
      have b1 := bd P (Int.le_of_lt hp) (by omega)
      have b2 := bd C hm0 hm1
      have b3 := bd B hm3 hm2
      have hsum : a * C + a * P = a * B := by rw [step, Int.mul_add]
      rw [Int.emod_eq_of_lt b1.1 b1.2] at s
      rw [s]
      simp only [Option.bind_some]
      rw [wide_add _ _ b2.1 b2.2 b1.1 b1.2]
      simp only [Option.bind_some]
      rw [hsum, Int.emod_eq_of_lt b3.1 b3.2]
      exact nxt
    · rw [if_neg hbit]
      have h0 : D % 2 = 0 := by omega
      rw [h0, Int.mul_zero, Int.add_zero] at step
      rw [← step]
      exact nxt
theorem wide_mul (a b : Int) (k : Nat) (hk : 200 < k) (ha0 : 0 ≤ a) (ha1 : a < 18446744073709551616) (hb0 : 0 ≤ b) (hb1 : b < 18446744073709551616) : spec_WideMul.f k a b = some (hiW (a * b), loW (a * b)) := by
  have h := wide_mul_loop a b ha0 ha1 hb0 hb1 64 0 k (by omega) (by omega) (by omega)
  have e : a * (b % 2 ^ 0) = 0 := by simp
  rw [e] at h
  exact h

theorem mul64_eq (a b : Int) (ha0 : 0 ≤ a) (ha1 : a < 18446744073709551616) (hb0 : 0 ≤ b) (hb1 : b < 18446744073709551616) : bits_Mul64.f a b = some (hiW (a * b), loW (a * b)) := by
  unfold bits_Mul64.f
  rw [and_low a ha0 ha1, and_low b hb0 hb1]
  generalize ea : a / 4294967296 = x1
  generalize ea0 : a % 4294967296 = x0
  generalize eb : b / 4294967296 = y1
  generalize eb0 : b % 4294967296 = y0
  have a_eq : a = x1 * 4294967296 + x0 := by omega
  have b_eq : b = y1 * 4294967296 + y0 := by omega
  have hx1 : 0 ≤ x1 ∧ x1 ≤ 4294967295 := by omega
  have hx0 : 0 ≤ x0 ∧ x0 ≤ 4294967295 := by omega
  have hy1 : 0 ≤ y1 ∧ y1 ≤ 4294967295 := by omega
  have hy0 : 0 ≤ y0 ∧ y0 ≤ 4294967295 := by omega
  have bd : ∀ p q : Int, 0 ≤ p ∧ p ≤ 4294967295 → 0 ≤ q ∧ q ≤ 4294967295 → 0 ≤ p * q ∧ p * q ≤ 18446744065119617025 := fun p q hp hq =>
    ⟨Int.mul_nonneg hp.1 hq.1, Int.le_trans (Int.mul_le_mul hp.2 hq.2 hq.1 (by omega)) (by omega)⟩
  have b11 := bd x1 y1 hx1 hy1
  have b10 := bd x1 y0 hx1 hy0
  have b01 := bd x0 y1 hx0 hy1
  have b00 := bd x0 y0 hx0 hy0
  have prod : a * b = x1 * y1 * 18446744073709551616 + (x1 * y0 + x0 * y1) * 4294967296 + x0 * y0 := by
    rw [a_eq, b_eq, Int.add_mul, Int.mul_add, Int.mul_add]
    have e1 : x1 * 4294967296 * (y1 * 4294967296) = x1 * y1 * 18446744073709551616 := by
      rw [Int.mul_assoc, ← Int.mul_assoc 4294967296, Int.mul_comm 4294967296 y1, Int.mul_assoc y1, ← Int.mul_assoc x1]
      rfl
    have e2 : x1 * 4294967296 * y0 = x1 * y0 * 4294967296 := by rw [Int.mul_assoc, Int.mul_comm 4294967296 y0, ← Int.mul_assoc]
    have e3 : x0 * (y1 * 4294967296) = x0 * y1 * 4294967296 := by rw [← Int.mul_assoc]
    rw [e1, e2, e3, Int.add_mul]
    omega
  have hab : a * b < 340282366920938463463374607431768211456 := by
    have h2 : a * b ≤ a * 18446744073709551615 := Int.mul_le_mul_of_nonneg_left (by omega) ha0
    omega
  rw [prod] at hab
  rw [prod]
  generalize x1 * y1 = p11 at *
  generalize x1 * y0 = p10 at *
  generalize x0 * y1 = p01 at *
  generalize x0 * y0 = p00 at *
  simp only [w64]
  have m11 : p11 % 18446744073709551616 = p11 := Int.emod_eq_of_lt b11.1 (by omega)
  have m10 : p10 % 18446744073709551616 = p10 := Int.emod_eq_of_lt b10.1 (by omega)
  have m01 : p01 % 18446744073709551616 = p01 := Int.emod_eq_of_lt b01.1 (by omega)
  have m00 : p00 % 18446744073709551616 = p00 := Int.emod_eq_of_lt b00.1 (by omega)
  rw [and_low _ (by omega) (by omega)]
  simp only [m11, m10, m01, m00]
  clear m11 m10 m01 m00 bd prod a_eq b_eq hx1 hx0 hy1 hy0 ea ea0 eb eb0
  have hr : 0 ≤ p00 - p00 / 4294967296 * 4294967296 ∧ p00 - p00 / 4294967296 * 4294967296 < 4294967296 := by omega
  have hqb : 0 ≤ p00 / 4294967296 ∧ p00 / 4294967296 ≤ 4294967294 := by omega
  generalize p00 / 4294967296 = q at *
  have mt : (p10 + q) % 18446744073709551616 = p10 + q := Int.emod_eq_of_lt (by omega) (by omega)
  simp only [mt]
  have ht : 0 ≤ (p10 + q) / 4294967296 ∧ (p10 + q) / 4294967296 ≤ 4294967295 := by omega
  have ht0 : (p10 + q) % 4294967296 = (p10 + q) - (p10 + q) / 4294967296 * 4294967296 ∧ 0 ≤ (p10 + q) % 4294967296 ∧ (p10 + q) % 4294967296 < 4294967296 := by omega
  generalize (p10 + q) / 4294967296 = t1 at *
  generalize (p10 + q) % 4294967296 = t0 at *
  have mw : (t0 + p01) % 18446744073709551616 = t0 + p01 := Int.emod_eq_of_lt (by omega) (by omega)
  simp only [mw]
  have hw1 : 0 ≤ (t0 + p01) / 4294967296 ∧ (t0 + p01) / 4294967296 ≤ 4294967295 := by omega
  have hw0 : 0 ≤ (t0 + p01) - (t0 + p01) / 4294967296 * 4294967296 ∧ (t0 + p01) - (t0 + p01) / 4294967296 * 4294967296 < 4294967296 := by omega
  generalize (t0 + p01) / 4294967296 = w1 at *
  have total : p11 * 18446744073709551616 + (p10 + p01) * 4294967296 + p00 = (p11 + t1 + w1) * 18446744073709551616 + ((t0 + p01 - w1 * 4294967296) * 4294967296 + (p00 - q * 4294967296)) := by omega
  have low : 0 ≤ (t0 + p01 - w1 * 4294967296) * 4294967296 + (p00 - q * 4294967296) ∧ (t0 + p01 - w1 * 4294967296) * 4294967296 + (p00 - q * 4294967296) < 18446744073709551616 := by omega
  rw [total]
  rw [total] at hab
  clear total
  generalize (t0 + p01 - w1 * 4294967296) * 4294967296 + (p00 - q * 4294967296) = z at *
  have hS : p11 + t1 + w1 < 18446744073709551616 := by omega
  have hS1 : (p11 + t1) % 18446744073709551616 = p11 + t1 := Int.emod_eq_of_lt (by omega) (by omega)
  have hS2 : (p11 + t1 + w1) % 18446744073709551616 = p11 + t1 + w1 := Int.emod_eq_of_lt (by omega) hS
  have hD : ((p11 + t1 + w1) * 18446744073709551616 + z) / 18446744073709551616 = p11 + t1 + w1 := by
    rw [Int.add_comm, Int.add_mul_ediv_right _ _ (by decide), Int.ediv_eq_zero_of_lt low.1 low.2, Int.zero_add]
  unfold hiW loW
  rw [hS1, hS2, hD]
theorem impl_mul_eq (a b : Int) (ha0 : 0 ≤ a) (ha1 : a < 18446744073709551616) (hb0 : 0 ≤ b) (hb1 : b < 18446744073709551616) : impl_WideMul.f a b = some (hiW (a * b), loW (a * b)) := by
  unfold impl_WideMul.f
  rw [mul64_eq a b ha0 ha1 hb0 hb1]
  rfl

/-- -1, 0, 1. -/
def cmpInt (x y : Int) : Int := if x < y then -1 else if y < x then 1 else 0
theorem spec_cmp_eq (v u : Int) : spec_WideCmp.f (hiW v) (loW v) (hiW u) (loW u) = some (cmpInt v u) := by
  have r1 := loW_range v
  have r2 := loW_range u
  have e1 := val_eq v
  have e2 := val_eq u
  unfold spec_WideCmp.f cmpInt
  generalize hiW v = a at *
  generalize loW v = b at *
  generalize hiW u = c at *
  generalize loW u = d at *
  (repeat' split) <;> first | rfl | (exfalso; omega)

theorem or_eq (x y : Int) (k : Nat) (hk : 3 < k) : cmp_Or_int.f k ([x, y] : List Int) = some (if x = 0 then y else x) := by
  obtain ⟨k, rfl⟩ : ∃ m, k = m + 4 := ⟨k - 4, by omega⟩
  unfold cmp_Or_int.f
  by_cases hx : x = 0
  · by_cases hy : y = 0
    · simp [cmp_Or_int.l0, rd, wrap64, hx, hy]
    · simp [cmp_Or_int.l0, rd, wrap64, hx, hy]
  · simp [cmp_Or_int.l0, rd, wrap64, hx]
theorem cmpu_eq (x y : Int) : cmp_Compare_uint64.f x y = some (cmpInt x y) := by
  unfold cmp_Compare_uint64.f cmpInt
  by_cases h1 : x < y
  · simp [cmp_isNaN_uint64.f, h1]
  · by_cases h2 : y < x
    · simp [cmp_isNaN_uint64.f, h1, h2]
    · simp [cmp_isNaN_uint64.f, h1, h2]
theorem impl_cmp_eq (v u : Int) (k : Nat) (hk : 3 < k) : impl_WideCmp.f k (hiW v) (loW v) (hiW u) (loW u) = some (cmpInt v u) := by
  unfold impl_WideCmp.f
  rw [cmpu_eq, cmpu_eq]
  simp only [Option.bind_some]
  rw [or_eq _ _ k hk]
  have r1 := loW_range v
  have r2 := loW_range u
  have e1 := val_eq v
  have e2 := val_eq u
  unfold cmpInt
  generalize hiW v = a at *
  generalize loW v = b at *
  generalize hiW u = c at *
  generalize loW u = d at *
  simp only [Option.bind_some, Option.some.injEq]
  (repeat' split) <;> first | rfl | (exfalso; omega)

theorem times_eq (a b c d : Int) (k : Nat) (hk : 200 < k) (ha : 0 ≤ a ∧ a < 18446744073709551616) (hb : 0 ≤ b ∧ b < 18446744073709551616) (hc : 0 ≤ c ∧ c < 18446744073709551616) (hd : 0 ≤ d ∧ d < 18446744073709551616) : spec_l02Times.f k a b c d = some (cmpInt (a * b) (c * d)) := by
  unfold spec_l02Times.f
  simp only [w64]
  rw [Int.emod_eq_of_lt ha.1 ha.2, Int.emod_eq_of_lt hb.1 hb.2, Int.emod_eq_of_lt hc.1 hc.2, Int.emod_eq_of_lt hd.1 hd.2, wide_mul a b k hk ha.1 ha.2 hb.1 hb.2, wide_mul c d k hk hc.1 hc.2 hd.1 hd.2]
  simp only [Option.bind_some]
  rw [spec_cmp_eq]
  rfl

theorem product_eq (a b : Int) (ha : 0 ≤ a ∧ a < 18446744073709551616) (hb : 0 ≤ b ∧ b < 18446744073709551616) : impl_product.f a b = some (hiW (a * b), loW (a * b)) := by
  unfold impl_product.f
  simp only [w64]
  rw [Int.emod_eq_of_lt ha.1 ha.2, Int.emod_eq_of_lt hb.1 hb.2, impl_mul_eq a b ha.1 ha.2 hb.1 hb.2]
  rfl
theorem pairs_eq (a b c d : Int) (k : Nat) (hk : 3 < k) (ha : 0 ≤ a ∧ a < 18446744073709551616) (hb : 0 ≤ b ∧ b < 18446744073709551616) (hc : 0 ≤ c ∧ c < 18446744073709551616) (hd : 0 ≤ d ∧ d < 18446744073709551616) : impl_comparePairs.f k a b c d = some (cmpInt (a * b) (c * d)) := by
  unfold impl_comparePairs.f
  rw [product_eq a b ha hb, product_eq c d hc hd]
  simp only [Option.bind_some]
  rw [impl_cmp_eq _ _ k hk]
  rfl

/-- Two that end in one answer when there are rounds enough. -/
def Both (f g : Nat → Option Bool) : Prop := ∃ b K, ∀ k, K ≤ k → f k = some b ∧ g k = some b
theorem both_no {f g : Nat → Option Bool} (K : Nat) (h : ∀ k, K ≤ k → f k = some false ∧ g k = some false) : Both f g := ⟨false, K, h⟩
/-- What the loops ask of the two lists: the Items are right, the Amounts are in their bounds. -/
def FairAt (l : List S88) (p : List S86) (i : Nat) : Prop :=
  (0 ≤ (rd_T88 l i).f1 ∧ (rd_T88 l i).f1 ≤ 1125899906842624) ∧ (1 ≤ (rd_T88 l i).f2 ∧ (rd_T88 l i).f2 ≤ 1073741824) ∧ 0 ≤ (rd_T86 p i).f1 ∧ (rd_T86 p i).f1 ≤ (rd_T88 l i).f1
section
variable (l : List S88) (p : List S86) (hl : l.length < 9223372036854775807) (hlp : p.length = l.length)
include hl hlp
theorem skip_row (i : Nat) (hi : i < l.length) (b : Bool) (K : Nat) (x y : Int) (hsame : (rd_T86 p i).f1 = (rd_T88 l i).f1) (hnext : ∀ k, K ≤ k → impl_FillFair.l1 k l p l (l.length : Int) ((i + 1 : Nat) : Int) = some b) :
    ∀ (e j : Nat), l.length - j = e → j ≤ l.length → ∃ K', ∀ k, K' ≤ k → impl_FillFair.l2 k l p (i : Int) l (l.length : Int) (i : Int) l (l.length : Int) (j : Int) x (rd_T88 l i).f1 y = some b := by
  intro e
  induction e with
  | zero =>
    intro j he hj
    refine ⟨K + 1, fun k hk => ?_⟩
    obtain ⟨k, rfl⟩ : ∃ m, k = m + 1 := ⟨k - 1, by omega⟩
    simp only [impl_FillFair.l2]
    rw [if_neg (by omega), succ_cast i (by omega)]
    exact hnext k (by omega)
  | succ e ih =>
    intro j he hj
    obtain ⟨K', hK⟩ := ih (j + 1) (by omega) (by omega)
    refine ⟨K' + 2, fun k hk => ?_⟩
    obtain ⟨k, rfl⟩ : ∃ m, k = m + 2 := ⟨k - 2, by omega⟩
    have a1 : (j : Int) < (l.length : Int) := by omega
    have a2 : (0 : Int) ≤ (j : Int) := by omega
    have a3 : (i : Int) < (p.length : Int) := by omega
    have a4 : (0 : Int) ≤ (i : Int) := by omega
    simp only [impl_FillFair.l2, a1, a2, a3, a4, if_true, hsame, impl_FillFair.j4, succ_cast j (by omega)]
    exact hK k (by omega)
theorem pair_row (i : Nat) (hi : i < l.length) (hf : ∀ j : Nat, j < l.length → FairAt l p j) (x : Int) (hdiff : (rd_T86 p i).f1 ≠ (rd_T88 l i).f1)
    (hnext : Both (fun k => spec_FillFair.l1 k l p ((i + 1 : Nat) : Int)) (fun k => impl_FillFair.l1 k l p l (l.length : Int) ((i + 1 : Nat) : Int))) :
    ∀ (e j : Nat), l.length - j = e → j ≤ l.length → Both (fun k => spec_FillFair.l2 k l p (i : Int) (j : Int)) (fun k => impl_FillFair.l2 k l p (i : Int) l (l.length : Int) (i : Int) l (l.length : Int) (j : Int) x (rd_T88 l i).f1 (rd_T88 l i).f2) := by
  intro e
  induction e with
  | zero =>
    intro j he hj
    obtain ⟨b, K, hK⟩ := hnext
    refine ⟨b, K + 1, fun k hk => ?_⟩
    obtain ⟨k, rfl⟩ : ∃ m, k = m + 1 := ⟨k - 1, by omega⟩
    obtain ⟨h1, h2⟩ := hK k (by omega)
    have a1 : ¬ (j : Int) < (l.length : Int) := by omega
    simp only [spec_FillFair.l2, impl_FillFair.l2, a1, if_false, succ_cast i (by omega)]
    exact ⟨h1, h2⟩
  | succ e ih =>
    intro j he hj
    obtain ⟨b, K, hK⟩ := ih (j + 1) (by omega) (by omega)
    have a1 : (j : Int) < (l.length : Int) := by omega
    have a2 : (0 : Int) ≤ (j : Int) := by omega
    have a3 : (i : Int) < (p.length : Int) := by omega
    have a4 : (0 : Int) ≤ (i : Int) := by omega
    have a5 : (j : Int) < (p.length : Int) := by omega
    have a6 : (i : Int) < (l.length : Int) := by omega
    obtain ⟨w1, v1, m1, n1⟩ := hf i hi
    obtain ⟨w2, v2, m2, n2⟩ := hf j (by omega)
    by_cases hz : (rd_T86 p j).f1 = 0
    · have hz' : ¬ (rd_T86 p j).f1 ≥ 1 := by omega
      have hz2 : ((rd_T86 p j).f1 == 0) = true := beq_iff_eq.2 hz
      refine ⟨b, K + 2, fun k hk => ⟨?_, ?_⟩⟩
      · obtain ⟨k, rfl⟩ : ∃ m, k = m + 1 := ⟨k - 1, by omega⟩
        have h1 := (hK k (by omega)).1
        simp only [spec_FillFair.l2, a1, a2, a5, if_true, if_false, hz', succ_cast j (by omega)]
        exact h1
      · obtain ⟨k, rfl⟩ : ∃ m, k = m + 2 := ⟨k - 2, by omega⟩
        have h2 := (hK k (by omega)).2
        simp only [impl_FillFair.l2, a1, a2, a3, a4, a5, if_true, if_false, hdiff, hz2, impl_FillFair.j4, succ_cast j (by omega)]
        exact h2
    · have hz' : (rd_T86 p j).f1 ≥ 1 := by omega
      have hz2 : ((rd_T86 p j).f1 == 0) = false := beq_eq_false_iff_ne.2 hz
      have e1 : wrap64 ((rd_T86 p j).f1 - 1) = (rd_T86 p j).f1 - 1 := wrap_small (by omega) (by omega)
      have e2 : wrap64 ((rd_T86 p i).f1 + 1) = (rd_T86 p i).f1 + 1 := wrap_small (by omega) (by omega)
      have b1 : 0 ≤ (rd_T86 p j).f1 - 1 ∧ (rd_T86 p j).f1 - 1 < 18446744073709551616 := by omega
      have b2 : 0 ≤ (rd_T86 p i).f1 + 1 ∧ (rd_T86 p i).f1 + 1 < 18446744073709551616 := by omega
      have b3 : 0 ≤ (rd_T88 l i).f2 ∧ (rd_T88 l i).f2 < 18446744073709551616 := by omega
      have b4 : 0 ≤ (rd_T88 l j).f2 ∧ (rd_T88 l j).f2 < 18446744073709551616 := by omega
      by_cases hc : cmpInt (((rd_T86 p j).f1 - 1) * (rd_T88 l i).f2) (((rd_T86 p i).f1 + 1) * (rd_T88 l j).f2) ≥ 0
      · refine both_no 300 fun k hk => ⟨?_, ?_⟩
        · obtain ⟨k, rfl⟩ : ∃ m, k = m + 1 := ⟨k - 1, by omega⟩
          simp only [spec_FillFair.l2, a1, a2, a3, a4, a5, a6, if_true, if_false, hz', e1, e2]
          rw [times_eq _ _ _ _ k (by omega) b1 b3 b2 b4]
          simp only [Option.bind_some]
          rw [if_pos hc]
        · obtain ⟨k, rfl⟩ : ∃ m, k = m + 2 := ⟨k - 2, by omega⟩
          simp only [impl_FillFair.l2, a1, a2, a3, a4, a5, a6, if_true, if_false, hdiff, hz2, impl_FillFair.j4, e1, e2, Bool.false_eq_true]
          rw [pairs_eq _ _ _ _ k (by omega) b1 b3 b2 b4]
          simp only [Option.bind_some]
          rw [if_pos hc]
      · refine ⟨b, K + 300, fun k hk => ⟨?_, ?_⟩⟩
        · obtain ⟨k, rfl⟩ : ∃ m, k = m + 1 := ⟨k - 1, by omega⟩
          have h1 := (hK k (by omega)).1
          simp only [spec_FillFair.l2, a1, a2, a3, a4, a5, a6, if_true, if_false, hz', e1, e2, succ_cast j (by omega)]
          rw [times_eq _ _ _ _ k (by omega) b1 b3 b2 b4]
          simp only [Option.bind_some]
          rw [if_neg hc]
          exact h1
        · obtain ⟨k, rfl⟩ : ∃ m, k = m + 2 := ⟨k - 2, by omega⟩
          have h2 := (hK k (by omega)).2
          simp only [impl_FillFair.l2, a1, a2, a3, a4, a5, a6, if_true, if_false, hdiff, hz2, impl_FillFair.j4, e1, e2, Bool.false_eq_true, succ_cast j (by omega)]
          rw [pairs_eq _ _ _ _ k (by omega) b1 b3 b2 b4]
          simp only [Option.bind_some]
          rw [if_neg hc]
          exact h2
theorem rows_same (hf : ∀ j : Nat, j < l.length → FairAt l p j) : ∀ (d i : Nat), l.length - i = d → i ≤ l.length → Both (fun k => spec_FillFair.l1 k l p (i : Int)) (fun k => impl_FillFair.l1 k l p l (l.length : Int) (i : Int)) := by
  intro d
  induction d with
  | zero =>
    intro i hd hi
    refine ⟨true, 1, fun k hk => ?_⟩
    obtain ⟨k, rfl⟩ : ∃ m, k = m + 1 := ⟨k - 1, by omega⟩
    have a1 : ¬ (i : Int) < (l.length : Int) := by omega
    simp only [spec_FillFair.l1, impl_FillFair.l1, a1, if_false]
    exact ⟨by first | rfl | trivial, by first | rfl | trivial⟩
  | succ d ih =>
    intro i hd hi
    have hnx := ih (i + 1) (by omega) (by omega)
    have a1 : (i : Int) < (l.length : Int) := by omega
    have a2 : (0 : Int) ≤ (i : Int) := by omega
    have a3 : (i : Int) < (p.length : Int) := by omega
    by_cases hs : (rd_T86 p i).f1 = (rd_T88 l i).f1
    · obtain ⟨b, K, hK⟩ := hnx
      obtain ⟨K', hK'⟩ := skip_row l p hl hlp i (by omega) b K (rd_T88 l i).f0 (rd_T88 l i).f2 hs (fun k hk => (hK k hk).2) l.length 0 (by omega) (by omega)
      refine ⟨b, K + K' + 1, fun k hk => ?_⟩
      obtain ⟨k, rfl⟩ : ∃ m, k = m + 1 := ⟨k - 1, by omega⟩
      simp only [spec_FillFair.l1, impl_FillFair.l1, a1, a2, a3, if_true, hs, succ_cast i (by omega)]
      exact ⟨(hK k (by omega)).1, hK' k (by omega)⟩
    · obtain ⟨b, K, hK⟩ := pair_row l p hl hlp i (by omega) hf (rd_T88 l i).f0 hs hnx l.length 0 (by omega) (by omega)
      refine ⟨b, K + 1, fun k hk => ?_⟩
      obtain ⟨k, rfl⟩ : ∃ m, k = m + 1 := ⟨k - 1, by omega⟩
      simp only [spec_FillFair.l1, impl_FillFair.l1, a1, a2, a3, if_true, hs, if_false]
      exact hK k (by omega)
theorem first_same (ho : ∀ j : Nat, j < l.length → itemsAt l j) : ∀ (d i : Nat), l.length - i = d → i ≤ l.length → (∀ j : Nat, j < i → FairAt l p j) → Both (fun k => spec_FillFair.l0 k l p (i : Int)) (fun k => impl_FillFair.l0 k l p l (l.length : Int) (i : Int)) := by
  intro d
  induction d with
  | zero =>
    intro i hd hi hf
    obtain ⟨b, K, hK⟩ := rows_same l p hl hlp (fun j hj => hf j (by omega)) l.length 0 (by omega) (by omega)
    refine ⟨b, K + 1, fun k hk => ?_⟩
    obtain ⟨k, rfl⟩ : ∃ m, k = m + 1 := ⟨k - 1, by omega⟩
    have a1 : ¬ (i : Int) < (l.length : Int) := by omega
    simp only [spec_FillFair.l0, impl_FillFair.l0, a1, if_false]
    exact hK k (by omega)
  | succ d ih =>
    intro i hd hi hf
    have a1 : (i : Int) < (l.length : Int) := by omega
    have a2 : (0 : Int) ≤ (i : Int) := by omega
    have a3 : (i : Int) < (p.length : Int) := by omega
    by_cases c1 : (rd_T86 p i).f0 = (rd_T88 l i).f0
    · by_cases c2 : (rd_T86 p i).f1 < 0
      · have c4 : ¬ (0 ≤ (rd_T86 p i).f1 ∧ (rd_T86 p i).f1 ≤ (rd_T88 l i).f1) := by omega
        refine both_no 1 fun k hk => ?_
        obtain ⟨k, rfl⟩ : ∃ m, k = m + 1 := ⟨k - 1, by omega⟩
        simp only [spec_FillFair.l0, impl_FillFair.l0, a1, a2, a3, if_true, c1, c2, in_eq, c4, decide_false, Bool.false_eq_true, if_false, Option.bind_some]
        all_goals exact ⟨trivial, trivial⟩
      · by_cases c3 : (rd_T86 p i).f1 > (rd_T88 l i).f1
        · have c4 : ¬ (0 ≤ (rd_T86 p i).f1 ∧ (rd_T86 p i).f1 ≤ (rd_T88 l i).f1) := by omega
          refine both_no 1 fun k hk => ?_
          obtain ⟨k, rfl⟩ : ∃ m, k = m + 1 := ⟨k - 1, by omega⟩
          simp only [spec_FillFair.l0, impl_FillFair.l0, a1, a2, a3, if_true, c1, c2, c3, in_eq, c4, decide_false, Bool.false_eq_true, if_false, Option.bind_some]
          all_goals exact ⟨trivial, trivial⟩
        · have c4 : 0 ≤ (rd_T86 p i).f1 ∧ (rd_T86 p i).f1 ≤ (rd_T88 l i).f1 := by omega
          have hok := (ho i (by omega)).1
          simp [okItem] at hok
          obtain ⟨b, K, hK⟩ := ih (i + 1) (by omega) (by omega) (fun j hj => by
            by_cases e : j = i
            · rw [e]; exact ⟨by omega, by omega, by omega, by omega⟩
            · exact hf j (by omega))
          refine ⟨b, K + 1, fun k hk => ?_⟩
          obtain ⟨k, rfl⟩ : ∃ m, k = m + 1 := ⟨k - 1, by omega⟩
          obtain ⟨h1, h2⟩ := hK k (by omega)
          simp only [spec_FillFair.l0, impl_FillFair.l0, a1, a2, a3, if_true, c1, c2, c3, in_eq, c4, and_self, decide_true, if_false, Option.bind_some, succ_cast i (by omega)]
          exact ⟨h1, h2⟩
    · refine both_no 1 fun k hk => ?_
      obtain ⟨k, rfl⟩ : ∃ m, k = m + 1 := ⟨k - 1, by omega⟩
      simp only [spec_FillFair.l0, impl_FillFair.l0, a1, a2, a3, if_true, c1, if_false]
      all_goals exact ⟨trivial, trivial⟩
end
theorem fair_same (l : List S88) (p : List S86) (hl : l.length < 9223372036854775807) : Both (fun k => spec_FillFair.f k l p) (fun k => impl_FillFair.f k l p) := by
  obtain ⟨c, hcm, hc⟩ := items_same l hl
  by_cases hlen : p.length = l.length
  · have hne : ((p.length : Int) != (l.length : Int)) = false := bne_eq_false_iff_eq.2 (by omega)
    cases c with
    | false =>
      refine both_no (l.length + 2) fun k hk => ?_
      obtain ⟨k, rfl⟩ : ∃ m, k = m + 1 := ⟨k - 1, by omega⟩
      obtain ⟨h1, h2⟩ := hc (k + 1) (by omega)
      simp only [spec_FillFair.f, impl_FillFair.f, h1, h2, Option.bind_some, Bool.false_eq_true, if_false, spec_FillFair.j0, impl_FillFair.j0, if_true]
      all_goals exact ⟨trivial, trivial⟩
    | true =>
      obtain ⟨b, K, hK⟩ := first_same l p hl hlen (hcm rfl).2 l.length 0 (by omega) (by omega) (fun j hj => by omega)
      refine ⟨b, K + l.length + 2, fun k hk => ?_⟩
      obtain ⟨k, rfl⟩ : ∃ m, k = m + 1 := ⟨k - 1, by omega⟩
      obtain ⟨h1, h2⟩ := hc (k + 1) (by omega)
      simp only [spec_FillFair.f, impl_FillFair.f, h1, h2, Option.bind_some, if_true, hne, spec_FillFair.j0, impl_FillFair.j0, Bool.false_eq_true, if_false]
      exact hK k (by omega)
  · have hne : ((p.length : Int) != (l.length : Int)) = true := bne_iff_ne.2 (by omega)
    refine both_no (l.length + 2) fun k hk => ?_
    obtain ⟨k, rfl⟩ : ∃ m, k = m + 1 := ⟨k - 1, by omega⟩
    obtain ⟨h1, h2⟩ := hc (k + 1) (by omega)
    cases c <;> simp only [spec_FillFair.f, impl_FillFair.f, h1, h2, Option.bind_some, if_true, hne, spec_FillFair.j0, impl_FillFair.j0, Bool.false_eq_true, if_false]
    all_goals exact ⟨trivial, trivial⟩
theorem szPartS_eq (l : List S93) (a : Int) (ha : 0 ≤ a ∧ a ≤ 1048576) (hl : l.length * 16 ≤ 140737488351232) : laws_szPartS.f l a = some (if (l.length : Int) ≤ a then a - (l.length : Int) else -1) := by
  unfold laws_szPartS.f
  rw [wrap_small (by omega) (by omega)]
  by_cases h : (l.length : Int) ≤ a
  · rw [if_neg (by omega), if_pos h]
  · rw [if_pos (by omega), if_neg h]
theorem FnExactFillFair : BridgeFnExactFillFair.Pure := by
  intro l p hl _ hp _
  obtain ⟨b, K, hK⟩ := fair_same (l.map convItem) (p.map convPart) (by simp; omega)
  refine ⟨K + l.length + p.length + 10, ?_⟩
  obtain ⟨h1, h2⟩ := hK (K + l.length + p.length + 10) (by omega)
  dsimp only at h1 h2
  unfold laws_FnExactFillFair.f
  rw [szItemS_eq l hl]
  simp only [Option.bind_some]
  by_cases hsz : l.length ≤ 1048576
  · rw [if_pos hsz, if_neg (by omega), szPartS_eq p _ (by omega) hp]
    simp only [Option.bind_some]
    by_cases hsp : (p.length : Int) ≤ 1048576 - (l.length : Int)
    · rw [if_pos hsp, if_neg (by omega), toItemS_eq l hl _ (by omega), toPartS_eq p hp _ (by omega)]
      simp only [Option.bind_some]
      rw [h1, h2]
      simp only [Option.bind_some]
      rw [if_neg (by simp), eqItemS_same _ (by simp; omega) _ (by simp; omega)]
      simp only [Option.bind_some, if_true]
      rw [eqPartS_same _ (by simp; omega) _ (by simp; omega)]
      simp
    · rw [if_neg hsp, if_pos (by omega)]
  · rw [if_neg hsz, if_pos (by omega)]

end Go.Proofs.Ytpgaoihgohlmkaa.Pure
