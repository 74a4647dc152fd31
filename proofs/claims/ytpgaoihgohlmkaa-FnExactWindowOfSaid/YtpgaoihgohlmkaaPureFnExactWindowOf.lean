/- WindowOf answers as the reference does, for every number and every list of Marks, keeps nothing of its argument and owns its answer. Conditions: none beyond the statement's own bounds. -/
import Derived.Test.YtpgaoihgohlmkaaBridgeFnExactWindowOf
namespace Go.Proofs.Ytpgaoihgohlmkaa.Pure
open Go.RowKit Go.Proofs.Ytpgaoihgohlmkaa.XFnExactWindowOf Go.Proofs.Ytpgaoihgohlmkaa.BridgeFnExactWindowOf Go.Proofs.YtpgaoihgohlmkaaW.PrintWords Go.Proofs.YtpgaoihgohlmkaaW.PrintLast Go.Proofs.YtpgaoihgohlmkaaW.PrintMore
set_option linter.unusedVariables false
set_option linter.unusedSimpArgs false

theorem wrap_small {x : Int} (h0 : -9223372036854775808 ≤ x) (h1 : x ≤ 9223372036854775807) : wrap64 x = x := by
  unfold wrap64
  omega
theorem i64_range {x : Int} (h : (Lit.int .i64 x).wf = true) : -9223372036854775808 ≤ x ∧ x ≤ 9223372036854775807 := by
  simp [Lit.wf, IntKind.min, IntKind.max, IntKind.bits, IntKind.signed] at h
  omega
theorem u64_range {x : Int} (h : (Lit.int .u64 x).wf = true) : 0 ≤ x ∧ x < 18446744073709551616 := by
  simp [Lit.wf, IntKind.min, IntKind.max, IntKind.bits, IntKind.signed] at h
  omega

theorem in_eq (a b c : Int) : impl_in.f a b c = some (decide (b ≤ a ∧ a ≤ c)) := by
  unfold impl_in.f
  by_cases h : b ≤ a <;> simp [h]

theorem isWant_eq (a : Int) : impl_isWant.f a = some (decide (0 ≤ a ∧ a ≤ 1125899906842624)) := by simp [impl_isWant.f, in_eq]

theorem l02Want_eq (a : Int) : spec_l02Want.f a = some (decide (0 ≤ a ∧ a ≤ 1125899906842624)) := by
  unfold spec_l02Want.f
  by_cases h : a ≥ 0
  · rw [if_pos h]; simp; omega
  · rw [if_neg h]; simp; omega

theorem isTime_eq (a : Int) : impl_isTime.f a = some (decide (0 ≤ a ∧ a ≤ 1000000)) := by simp [impl_isTime.f, in_eq]
theorem l07Time_eq (a : Int) : spec_l07Time.f a = some (decide (0 ≤ a ∧ a ≤ 1000000)) := by
  unfold spec_l07Time.f
  by_cases h : a ≥ 0
  · rw [if_pos h]; simp; omega
  · rw [if_neg h]; simp; omega

theorem set_fill {α β : Type} (l : List α) (f : α → β) (z : β) (i : Nat) (h : i < l.length) : ((l.take i).map f ++ List.replicate (l.length - i) z).set i (f l[i]) = (l.take (i + 1)).map f ++ List.replicate (l.length - (i + 1)) z := by
  have e : l.length - i = (l.length - (i + 1)) + 1 := by omega
  have hl : ((l.take i).map f).length = i := by simp; omega
  rw [e, List.replicate_succ, List.set_append_right i (f l[i]) (by omega), hl, Nat.sub_self, List.set_cons_zero, List.take_succ_eq_append_getElem h, List.map_append]
  simp
theorem succ_cast (i : Nat) (h : i < 9223372036854775807) : wrap64 ((i : Int) + 1) = ((i + 1 : Nat) : Int) := by
  rw [wrap_small (by omega) (by omega)]
  omega

theorem pred_cast (i : Nat) (h : 0 < i) (h2 : i < 9223372036854775807) : wrap64 ((i : Int) - 1) = ((i - 1 : Nat) : Int) := by
  rw [wrap_small (by omega) (by omega)]
  omega

theorem rd26 (xs : List S26) (i : Nat) (h : i < xs.length) : rd_T26 xs (i : Int) = xs[i] := by
  unfold rd_T26
  rw [Int.toNat_natCast, List.getD_eq_getElem?_getD, List.getElem?_eq_getElem h]
  rfl

theorem rd33 (xs : List S33) (i : Nat) (h : i < xs.length) : rd_T33 xs (i : Int) = xs[i] := by
  unfold rd_T33
  rw [Int.toNat_natCast, List.getD_eq_getElem?_getD, List.getElem?_eq_getElem h]
  rfl

def convMark (x : S26) : S33 := ⟨x.f0, x.f1⟩
theorem toMarkS_loop (l : List S26) (hl : l.length * 16 ≤ 140737488351232) : ∀ (d k i : Nat), l.length - i = d → i ≤ l.length → d < k → laws_toMarkS.l0 k l ((l.take i).map convMark ++ List.replicate (l.length - i) z33) (i : Int) = some (l.map convMark) := by
  intro d
  induction d with
  | zero =>
    intro k i hd hi hk
    obtain ⟨k, rfl⟩ : ∃ m, k = m + 1 := ⟨k - 1, by omega⟩
    obtain rfl : i = l.length := by omega
    simp only [laws_toMarkS.l0]
    rw [if_neg (by omega)]
    simp
  | succ d ih =>
    intro k i hd hi hk
    obtain ⟨k, rfl⟩ : ∃ m, k = m + 1 := ⟨k - 1, by omega⟩
    have hlt : i < l.length := by omega
    simp only [laws_toMarkS.l0]
    rw [if_pos (by omega), if_pos (by omega)]
    simp only [laws_toMark.f, Option.bind_some, rd26 l i hlt]
    rw [if_pos (by simp; omega), Int.toNat_natCast, succ_cast i (by omega)]
    have e := set_fill l convMark z33 i hlt
    rw [show (⟨l[i].f0, l[i].f1⟩ : S33) = convMark l[i] from rfl, e]
    exact ih k (i + 1) (by omega) (by omega) (by omega)
theorem toMarkS_eq (l : List S26) (hl : l.length * 16 ≤ 140737488351232) (k : Nat) (hk : l.length < k) : laws_toMarkS.f k l = some (l.map convMark) := by
  unfold laws_toMarkS.f
  rw [if_pos (by omega), if_pos (by simp; omega)]
  have h := toMarkS_loop l hl l.length k 0 (by omega) (by omega) hk
  simpa using h

theorem eqMark_same (x : S33) : laws_eqMark.f (x.f0) (x.f1) (x.f0) (x.f1) = some true := by simp [laws_eqMark.f]
theorem eqMarkS_loop (l : List S33) (hl : l.length < 9223372036854775807) : ∀ (d k i : Nat), l.length - i = d → i ≤ l.length → d < k → laws_eqMarkS.l0 k l l (i : Int) = some true := by
  intro d
  induction d with
  | zero =>
    intro k i hd hi hk
    obtain ⟨k, rfl⟩ : ∃ m, k = m + 1 := ⟨k - 1, by omega⟩
    simp only [laws_eqMarkS.l0]
    rw [if_neg (by omega)]
  | succ d ih =>
    intro k i hd hi hk
    obtain ⟨k, rfl⟩ : ∃ m, k = m + 1 := ⟨k - 1, by omega⟩
    have hlt : i < l.length := by omega
    simp only [laws_eqMarkS.l0]
    rw [if_pos (by omega), if_pos (by omega), if_pos (by omega), eqMark_same]
    simp only [Option.bind_some, if_true]
    rw [succ_cast i (by omega)]
    exact ih k (i + 1) (by omega) (by omega) (by omega)
theorem eqMarkS_same (l : List S33) (hl : l.length < 9223372036854775807) (k : Nat) (hk : l.length < k) : laws_eqMarkS.f k l l = some true := by
  unfold laws_eqMarkS.f
  rw [if_pos rfl]
  exact eqMarkS_loop l hl l.length k 0 (by omega) (by omega) hk

theorem szMarkS_eq (l : List S26) (hl : l.length * 16 ≤ 140737488351232) : laws_szMarkS.f l 1048576 = some (if l.length ≤ 1048576 then 1048576 - (l.length : Int) else -1) := by
  unfold laws_szMarkS.f
  rw [wrap_small (by omega) (by omega)]
  by_cases h : l.length ≤ 1048576
  · rw [if_neg (by omega), if_pos h]
  · rw [if_pos (by omega), if_neg h]

/-- What a right list asks at place j. -/
def histAt (l : List S33) (j : Nat) : Prop := ((0 ≤ (rd_T33 l j).f0 ∧ (rd_T33 l j).f0 ≤ 1000000) ∧ (0 ≤ (rd_T33 l j).f1 ∧ (rd_T33 l j).f1 ≤ 1125899906842624)) ∧ (0 < j → (rd_T33 l ((j - 1 : Nat) : Int)).f0 < (rd_T33 l j).f0)
/-- Both loops over a list tell the same, but that the program looks at the length last. -/
theorem hist_loops (l : List S33) (hl : l.length < 9223372036854775807) : ∀ (d i : Nat), l.length - i = d → i ≤ l.length → ∃ b, (b = true → ∀ j : Nat, i ≤ j → j < l.length → histAt l j) ∧ ∀ k, d < k → spec_l09History.l0 k l (i : Int) = some b ∧ impl_isHistory.l0 k l l (l.length : Int) (i : Int) = some (b && decide ((l.length : Int) ≤ 200)) := by
  intro d
  induction d with
  | zero =>
    intro i hd hi
    refine ⟨true, fun _ j h1 h2 => by omega, fun k hk => ?_⟩
    obtain ⟨k, rfl⟩ : ∃ m, k = m + 1 := ⟨k - 1, by omega⟩
    refine ⟨?_, ?_⟩
    · simp only [spec_l09History.l0]; rw [if_neg (by omega)]
    · simp only [impl_isHistory.l0]; rw [if_neg (by omega)]; simp
  | succ d ih =>
    intro i hd hi
    obtain ⟨b, hbm, hb⟩ := ih (i + 1) (by omega) (by omega)
    have a1 : (i : Int) < (l.length : Int) := by omega
    have a2 : (0 : Int) ≤ (i : Int) := by omega
    by_cases h : (0 ≤ (rd_T33 l i).f0 ∧ (rd_T33 l i).f0 ≤ 1000000) ∧ (0 ≤ (rd_T33 l i).f1 ∧ (rd_T33 l i).f1 ≤ 1125899906842624)
    · by_cases h0 : (i : Int) > 0
      · have a3 : (0 : Int) ≤ ((i - 1 : Nat) : Int) := by omega
        have a4 : ((i - 1 : Nat) : Int) < (l.length : Int) := by omega
        by_cases hc : (rd_T33 l i).f0 ≤ (rd_T33 l ((i - 1 : Nat) : Int)).f0
        · refine ⟨false, (fun h => by cases h), fun k hk => ?_⟩
          obtain ⟨k, rfl⟩ : ∃ m, k = m + 1 := ⟨k - 1, by omega⟩
          have hc' : (rd_T33 l ((i - 1 : Nat) : Int)).f0 ≥ (rd_T33 l i).f0 := hc
          simp only [spec_l09History.l0, impl_isHistory.l0, a1, a2, if_true, l07Time_eq, l02Want_eq, isTime_eq, isWant_eq, Option.bind_some, h.1, h.2, and_self, decide_true, h0, pred_cast i (by omega) (by omega), a3, a4, hc, hc']
          exact ⟨by first | rfl | trivial, by simp⟩
        · refine ⟨b, fun hbt j h1 h2 => ?_, fun k hk => ?_⟩
          · by_cases hj : j = i
            · rw [hj]; exact ⟨h, fun _ => by omega⟩
            · exact hbm hbt j (by omega) h2
          obtain ⟨k, rfl⟩ : ∃ m, k = m + 1 := ⟨k - 1, by omega⟩
          obtain ⟨h1, h2⟩ := hb k (by omega)
          have hc' : ¬ (rd_T33 l ((i - 1 : Nat) : Int)).f0 ≥ (rd_T33 l i).f0 := hc
          simp only [spec_l09History.l0, impl_isHistory.l0, a1, a2, if_true, l07Time_eq, l02Want_eq, isTime_eq, isWant_eq, Option.bind_some, h.1, h.2, and_self, decide_true, h0, pred_cast i (by omega) (by omega), a3, a4, hc, hc', if_false, succ_cast i (by omega), h1, h2]
          all_goals exact ⟨trivial, trivial⟩
      · refine ⟨b, fun hbt j h1 h2 => ?_, fun k hk => ?_⟩
        · by_cases hj : j = i
          · rw [hj]; exact ⟨h, fun h => absurd h (by omega)⟩
          · exact hbm hbt j (by omega) h2
        obtain ⟨k, rfl⟩ : ∃ m, k = m + 1 := ⟨k - 1, by omega⟩
        obtain ⟨h1, h2⟩ := hb k (by omega)
        simp only [spec_l09History.l0, impl_isHistory.l0, a1, a2, if_true, l07Time_eq, l02Want_eq, isTime_eq, isWant_eq, Option.bind_some, h.1, h.2, and_self, decide_true, h0, if_false, succ_cast i (by omega), h1, h2]
        all_goals exact ⟨trivial, trivial⟩
    · refine ⟨false, (fun h => by cases h), fun k hk => ?_⟩
      obtain ⟨k, rfl⟩ : ∃ m, k = m + 1 := ⟨k - 1, by omega⟩
      by_cases hA : 0 ≤ (rd_T33 l i).f0 ∧ (rd_T33 l i).f0 ≤ 1000000
      · have hB : ¬ (0 ≤ (rd_T33 l i).f1 ∧ (rd_T33 l i).f1 ≤ 1125899906842624) := fun hB => h ⟨hA, hB⟩
        simp only [spec_l09History.l0, impl_isHistory.l0, a1, a2, if_true, l07Time_eq, l02Want_eq, isTime_eq, isWant_eq, Option.bind_some, hA, hB, and_self, decide_true, decide_false, Bool.false_eq_true, if_false]
        exact ⟨by first | rfl | trivial, by simp⟩
      · simp only [spec_l09History.l0, impl_isHistory.l0, a1, a2, if_true, l07Time_eq, l02Want_eq, isTime_eq, isWant_eq, Option.bind_some, hA, decide_false, Bool.false_eq_true, if_false]
        exact ⟨by first | rfl | trivial, by simp⟩
theorem hist_same (l : List S33) (hl : l.length < 9223372036854775807) : ∃ b, (b = true → l.length ≤ 200 ∧ ∀ j : Nat, j < l.length → histAt l j) ∧ ∀ k, l.length < k → spec_l09History.f k l = some b ∧ impl_isHistory.f k l = some b := by
  obtain ⟨b, hbm, hb⟩ := hist_loops l hl l.length 0 (by omega) (by omega)
  by_cases h : (l.length : Int) > 200
  · refine ⟨false, by simp, fun k hk => ?_⟩
    obtain ⟨h1, h2⟩ := hb k hk
    have h2' : impl_isHistory.l0 k l l (l.length : Int) 0 = some (b && decide ((l.length : Int) ≤ 200)) := h2
    unfold spec_l09History.f impl_isHistory.f
    rw [h2', if_pos h]
    exact ⟨rfl, by simp; omega⟩
  · refine ⟨b, fun hbt => ⟨by omega, fun j hj => hbm hbt j (by omega) hj⟩, fun k hk => ?_⟩
    obtain ⟨h1, h2⟩ := hb k hk
    have h1' : spec_l09History.l0 k l 0 = some b := h1
    have h2' : impl_isHistory.l0 k l l (l.length : Int) 0 = some (b && decide ((l.length : Int) ≤ 200)) := h2
    unfold spec_l09History.f impl_isHistory.f
    rw [h1', h2', if_neg h]
    exact ⟨rfl, by simp; omega⟩

theorem rdset33 (xs : List S33) (i j : Nat) (v : S33) (h : i < xs.length) : rd_T33 (xs.set i v) (j : Int) = if j = i then v else rd_T33 xs (j : Int) := by
  unfold rd_T33
  rw [Int.toNat_natCast, List.getD_eq_getElem?_getD, List.getD_eq_getElem?_getD, List.getElem?_set]
  by_cases e : j = i
  · subst e; simp [h]
  · have e' : i ≠ j := fun q => e q.symm
    simp [e, e']
def markOfMark (j : Nat) : S33 := ⟨1 + 2 * (j : Int), 1 + 2 * (j : Int) + 1⟩
theorem markMarkS_loop (n : Nat) (hn : n ≤ 1048576) : ∀ (d k i : Nat) (x0 : List S33), x0.length = n → n - i = d → i ≤ n → d < k → (∀ j : Nat, j < i → rd_T33 x0 j = markOfMark j) →
    ∃ l', laws_markMarkS.l0 k x0 (1 + 2 * (i : Int)) (i : Int) = some (1 + 2 * (n : Int), l') ∧ l'.length = n ∧ ∀ j : Nat, j < n → rd_T33 l' j = markOfMark j := by
  intro d
  induction d with
  | zero =>
    intro k i x0 hx hd hi hk hm
    obtain ⟨k, rfl⟩ : ∃ m, k = m + 1 := ⟨k - 1, by omega⟩
    obtain rfl : i = n := by omega
    simp only [laws_markMarkS.l0]
    rw [if_neg (by omega)]
    exact ⟨x0, rfl, hx, hm⟩
  | succ d ih =>
    intro k i x0 hx hd hi hk hm
    obtain ⟨k, rfl⟩ : ∃ m, k = m + 1 := ⟨k - 1, by omega⟩
    simp only [laws_markMarkS.l0]
    rw [if_pos (by omega), if_pos (by omega)]
    simp only [Option.bind_some, Int.toNat_natCast, List.length_set, hx, rdset33, show i < n from by omega, if_true, List.set_set]
    rw [show wrap64 ((1 + 2 * (i : Int)) + 1) = 1 + 2 * (i : Int) + 1 from by rw [wrap_small (by omega) (by omega)]]
    rw [show wrap64 ((1 + 2 * (i : Int) + 1) + 1) = 1 + 2 * (i : Int) + 2 from by rw [wrap_small (by omega) (by omega)]; omega]
    obtain ⟨l', h1, h2, h3⟩ := ih k (i + 1) (x0.set i (markOfMark i)) (by simp [hx]) (by omega) (by omega) (by omega) (fun j hj => by
      rw [rdset33 _ _ _ _ (by omega)]
      by_cases e : j = i
      · rw [if_pos e, e]
      · rw [if_neg e]; exact hm j (by omega))
    refine ⟨l', ?_, h2, h3⟩
    rw [← h1, succ_cast i (by omega)]
    congr 1
theorem markMarkS_eq (l : List S33) (hn : l.length ≤ 1048576) (k : Nat) (hk : l.length < k) : ∃ l', laws_markMarkS.f k l 1 = some (1 + 2 * (l.length : Int), l') ∧ l'.length = l.length ∧ ∀ j : Nat, j < l.length → rd_T33 l' j = markOfMark j :=
  markMarkS_loop l.length hn l.length k 0 l rfl (by omega) (by omega) hk (fun j hj => absurd hj (by omega))
theorem heldMarkS_loop (n : Nat) (hn : n ≤ 1048576) (l : List S33) (hl : l.length = n) (hm : ∀ j : Nat, j < n → rd_T33 l j = markOfMark j) : ∀ (d k i : Nat), n - i = d → i ≤ n → d < k → laws_heldMarkS.l0 k l (1 + 2 * (i : Int)) (i : Int) = some (1 + 2 * (n : Int)) := by
  intro d
  induction d with
  | zero =>
    intro k i hd hi hk
    obtain ⟨k, rfl⟩ : ∃ m, k = m + 1 := ⟨k - 1, by omega⟩
    obtain rfl : i = n := by omega
    simp only [laws_heldMarkS.l0]
    rw [if_neg (by omega)]
  | succ d ih =>
    intro k i hd hi hk
    obtain ⟨k, rfl⟩ : ∃ m, k = m + 1 := ⟨k - 1, by omega⟩
    simp only [laws_heldMarkS.l0, hm i (by omega)]
    rw [if_pos (by omega), if_pos (by omega)]
    rw [show wrap64 ((1 + 2 * (i : Int)) + 1) = 1 + 2 * (i : Int) + 1 from by rw [wrap_small (by omega) (by omega)]]
    rw [show wrap64 ((1 + 2 * (i : Int) + 1) + 1) = 1 + 2 * (i : Int) + 2 from by rw [wrap_small (by omega) (by omega)]; omega]
    simp only [markOfMark, if_true]
    rw [succ_cast i (by omega)]
    have := ih k (i + 1) (by omega) (by omega) (by omega)
    rw [← this]
    congr 1
theorem heldMarkS_eq (l : List S33) (n : Nat) (hl : l.length = n) (hn : n ≤ 1048576) (hm : ∀ j : Nat, j < n → rd_T33 l j = markOfMark j) (k : Nat) (hk : n < k) : laws_heldMarkS.f k l 1 = some (1 + 2 * (n : Int)) :=
  heldMarkS_loop n hn l hl hm n k 0 (by omega) (by omega) hk

/-! Right windows, as lists. -/
def RightW (s n c : Int) (l : List S33) : Prop := (1 ≤ s ∧ s ≤ 1000000) ∧ (0 ≤ n ∧ n ≤ 1000000) ∧ (0 ≤ c ∧ c ≤ 1125899906842624) ∧ l.length ≤ 200 ∧ (∀ x ∈ l, (0 ≤ x.f0 ∧ n - s < x.f0 ∧ x.f0 < n) ∧ c < x.f1 ∧ x.f1 ≤ 1125899906842624) ∧ l.Pairwise (fun x y => x.f0 < y.f0 ∧ y.f1 < x.f1)
theorem right_loop (s n c : Int) (l : List S33) (h : RightW s n c l) : ∀ (d i k : Nat), l.length - i = d → i ≤ l.length → 2 * d < k → spec_WindowRight.l0 k (i : Int) s n c l = some true := by
  obtain ⟨hs, hn, hc, h200, hall, hpw⟩ := h
  intro d
  induction d with
  | zero =>
    intro i k hd hi hk
    obtain ⟨k, rfl⟩ : ∃ m, k = m + 1 := ⟨k - 1, by omega⟩
    simp only [spec_WindowRight.l0]; rw [if_neg (by omega)]
  | succ d ih =>
    intro i k hd hi hk
    obtain ⟨k, rfl⟩ : ∃ m, k = m + 2 := ⟨k - 2, by omega⟩
    have hlt : i < l.length := by omega
    have a1 : (i : Int) < (l.length : Int) := by omega
    have a2 : (0 : Int) ≤ (i : Int) := by omega
    have h1 := ih (i + 1) k (by omega) (by omega) (by omega)
    have hm := hall _ (List.getElem_mem hlt)
    have e1 : wrap64 (n - s) = n - s := wrap_small (by omega) (by omega)
    have b1 : ¬ l[i].f0 < 0 := by omega
    have b2 : ¬ l[i].f0 ≤ n - s := by omega
    have b3 : ¬ l[i].f0 ≥ n := by omega
    have b4 : 0 ≤ l[i].f1 ∧ l[i].f1 ≤ 1125899906842624 := by omega
    have b5 : ¬ l[i].f1 ≤ c := by omega
    simp only [spec_WindowRight.l0, a1, a2, if_true, rd33 l i hlt, e1, b1, b2, b3, if_false, l02Want_eq, b4, and_self, decide_true, Option.bind_some, b5, decide_false, spec_WindowRight.j2, Bool.false_eq_true]
    by_cases h0 : (i : Int) > 0
    · have hlt2 : i - 1 < l.length := by omega
      have a3 : (0 : Int) ≤ ((i - 1 : Nat) : Int) := by omega
      have a4 : ((i - 1 : Nat) : Int) < (l.length : Int) := by omega
      have hp := List.pairwise_iff_getElem.1 hpw (i - 1) i hlt2 hlt (by omega)
      have c1 : ¬ l[i].f0 ≤ l[i - 1].f0 := by omega
      have c2 : ¬ l[i].f1 ≥ l[i - 1].f1 := by omega
      simp only [h0, if_true, pred_cast i (by omega) (by omega), a3, a4, rd33 l (i - 1) hlt2, c1, c2, if_false, succ_cast i (by omega), h1]
    · simp only [h0, if_false, succ_cast i (by omega), h1]
theorem right_eq (s n c : Int) (l : List S33) (h : RightW s n c l) (k : Nat) (hk : 500 < k) : spec_WindowRight.f k s n c l = some true := by
  obtain ⟨k, rfl⟩ : ∃ m, k = m + 1 := ⟨k - 1, by omega⟩
  have h' := h
  obtain ⟨hs, hn, hc, h200, hall, hpw⟩ := h'
  unfold spec_WindowRight.f
  rw [if_neg (by omega), if_neg (by omega), l07Time_eq, decide_eq_true hn]
  simp only [Option.bind_some, if_true, l02Want_eq]
  rw [decide_eq_true hc]
  simp only [if_true]
  rw [decide_eq_false (by omega)]
  simp only [spec_WindowRight.j0, Bool.false_eq_true, if_false]
  exact right_loop s n c l h l.length 0 k (by omega) (by omega) (by omega)
def trim (l : List S33) : List S33 := l.drop (l.length - 200)
def keep (a c : Int) (x : S33) : Bool := decide (x.f1 > c) && decide (x.f0 > a)
theorem filter_loop (all : List S33) (hl : all.length ≤ 300) (s n c at_ cp o0 o1 o2 : Int) (l : List S33) (hs : 1 ≤ s ∧ s ≤ 1000000) (ha : 0 ≤ at_ ∧ at_ ≤ 1000000) : ∀ (d i k : Nat) (acc : List S33), all.length - i = d → i ≤ all.length → d < k → acc.length ≤ i →
    spec_WindowPut.l0 k all (i : Int) s n c l at_ cp o0 o1 o2 acc = some (o0, at_, cp, trim (acc ++ (all.drop i).filter (keep (at_ - s) cp))) := by
  have e1 : wrap64 (at_ - s) = at_ - s := wrap_small (by omega) (by omega)
  intro d
  induction d with
  | zero =>
    intro i k acc hd hi hk hacc
    obtain ⟨k, rfl⟩ : ∃ m, k = m + 1 := ⟨k - 1, by omega⟩
    obtain rfl : i = all.length := by omega
    simp only [spec_WindowPut.l0]
    rw [if_neg (by omega), List.drop_length, List.filter_nil, List.append_nil]
    unfold trim
    by_cases c2 : (acc.length : Int) > 200
    · rw [if_pos c2, show wrap64 ((acc.length : Int) - 200) = ((acc.length - 200 : Nat) : Int) by rw [wrap_small (by omega) (by omega)]; omega, if_pos (by omega), if_pos (by omega), Int.toNat_natCast]
    · rw [if_neg c2, show acc.length - 200 = 0 by omega, List.drop_zero]
  | succ d ih =>
    intro i k acc hd hi hk hacc
    obtain ⟨k, rfl⟩ : ∃ m, k = m + 1 := ⟨k - 1, by omega⟩
    have hlt : i < all.length := by omega
    have a1 : (i : Int) < (all.length : Int) := by omega
    have a2 : (0 : Int) ≤ (i : Int) := by omega
    have e : all.drop i = all[i] :: all.drop (i + 1) := List.drop_eq_getElem_cons hlt
    have h1 := ih (i + 1) k acc (by omega) (by omega) (by omega) (by omega)
    have h2 := ih (i + 1) k (acc ++ [all[i]]) (by omega) (by omega) (by omega) (by simp; omega)
    have a3 : acc.length + [all[i]].length < 8796093022208 := by simp; omega
    rw [e, List.filter_cons]
    simp only [spec_WindowPut.l0, a1, a2, if_true, rd33 all i hlt, e1, succ_cast i (by omega), Option.bind_some]
    by_cases c1 : all[i].f1 > cp
    · by_cases c2 : all[i].f0 > at_ - s
      · rw [if_pos c1, if_pos c2, show (⟨all[i].f0, all[i].f1⟩ : S33) = all[i] from rfl, if_pos a3, h2, show keep (at_ - s) cp all[i] = true by unfold keep; simp [c1, c2]]
        simp
      · rw [if_pos c1, if_neg c2, h1, show keep (at_ - s) cp all[i] = false by unfold keep; simp [c2]]
        simp
    · rw [if_neg c1, h1, show keep (at_ - s) cp all[i] = false by unfold keep; simp [c1]]
      simp
theorem split_of (q : S33 → Bool) : ∀ l : List S33, l.Pairwise (fun x y => q y = true → q x = true) → l = l.filter q ++ l.filter (fun x => !q x)
  | [], _ => rfl
  | x :: l, h => by
    rw [List.pairwise_cons] at h
    cases hx : q x with
    | true =>
      rw [List.filter_cons, List.filter_cons, if_pos hx, if_neg (by simp [hx]), List.cons_append, ← split_of q l h.2]
    | false =>
      have hn : ∀ y ∈ l, q y = false := fun y hy => by
        cases hq : q y with
        | false => rfl
        | true => rw [h.1 y hy hq] at hx; cases hx
      rw [List.filter_cons, List.filter_cons, if_neg (by simp [hx]), if_pos (by simp [hx]), List.filter_eq_nil_iff.2 (fun y hy => by simp [hn y hy]), List.filter_eq_self.2 (fun y hy => by simp [hn y hy])]
      rfl
theorem back_loop (A : List S33) (s n c at_ cp : Int) (l : List S33) (hA : ∀ x ∈ A, cp < x.f1) : ∀ (d : Nat) (B : List S33), B.length = d → (A ++ B).length ≤ 300 → (∀ x ∈ B, x.f1 ≤ cp) → ∀ k, impl_Window_put.l0 (k + d + 1) (A ++ B) s n c l at_ cp = impl_Window_put.j1 k A s n c l at_ cp := by
  intro d
  induction d with
  | zero =>
    intro B hB hl _ k
    obtain rfl : B = [] := List.length_eq_zero_iff.1 hB
    rw [List.append_nil] at hl ⊢
    simp only [Nat.add_zero, impl_Window_put.l0]
    by_cases h0 : (A.length : Int) > 0
    · have hlt : A.length - 1 < A.length := by omega
      rw [if_pos h0, show wrap64 ((A.length : Int) - 1) = ((A.length - 1 : Nat) : Int) from pred_cast _ (by omega) (by omega), if_pos (by omega), if_pos (by omega), rd33 A _ hlt, if_neg (by have := hA _ (List.getElem_mem hlt); omega)]
    · rw [if_neg h0]
  | succ d ih =>
    intro B hB hl hBc k
    obtain ⟨B', b, rfl⟩ : ∃ B' b, B = B' ++ [b] := ⟨B.dropLast, B.getLast (by intro h; rw [h] at hB; simp at hB), by rw [List.dropLast_concat_getLast]⟩
    have hl1 : (A ++ (B' ++ [b])).length = (A ++ B').length + 1 := by simp; omega
    have hb : b.f1 ≤ cp := hBc b (by simp)
    have hr : rd_T33 (A ++ (B' ++ [b])) (((A ++ B').length : Nat) : Int) = b := by
      show (A ++ (B' ++ [b])).getD ((((A ++ B').length : Nat) : Int)).toNat z33 = b
      rw [← List.append_assoc, Int.toNat_natCast, List.getD_eq_getElem?_getD, List.getElem?_append_right (Nat.le_refl _)]
      simp
    rw [show k + (d + 1) + 1 = (k + d + 1) + 1 by omega, impl_Window_put.l0]
    rw [show wrap64 (((A ++ (B' ++ [b])).length : Int) - 1) = (((A ++ B').length : Nat) : Int) by rw [wrap_small (by omega) (by omega)]; omega, if_pos (by omega), if_pos (by omega), if_pos (by omega), hr, if_pos hb, if_pos (by omega), Int.toNat_natCast, ← List.append_assoc, List.take_left']
    · exact ih B' (by simp at hB; omega) (by omega) (fun x hx => hBc x (by simp [hx])) k
    · rfl
theorem front_loop (s n c at_ cp : Int) (l : List S33) (hs : 1 ≤ s ∧ s ≤ 1000000) (ha : 0 ≤ at_ ∧ at_ ≤ 1000000) (D : List S33) (hD : ∀ x ∈ D, at_ - s < x.f0) : ∀ (C : List S33), (C ++ D).length ≤ 300 → (∀ x ∈ C, x.f0 ≤ at_ - s) → ∀ k, impl_Window_put.l1 (k + C.length + (D.length - 200) + 1) (C ++ D) s n c l at_ cp = some (s, at_, cp, trim D) := by
  have e1 : wrap64 (at_ - s) = at_ - s := wrap_small (by omega) (by omega)
  have short : ∀ (d : Nat) (D : List S33), D.length - 200 = d → D.length ≤ 300 → (∀ x ∈ D, at_ - s < x.f0) → ∀ k, impl_Window_put.l1 (k + d + 1) D s n c l at_ cp = some (s, at_, cp, trim D) := by
    intro d
    induction d with
    | zero =>
      intro D hd h300 hD k
      have ht : trim D = D := by unfold trim; rw [hd]; rfl
      simp only [Nat.add_zero, impl_Window_put.l1, e1, impl_Mark.f]
      rw [if_pos (by omega : D.length ≤ 5000000000000), ht]
      cases D with
      | nil => rfl
      | cons x D =>
        have hx : ¬ x.f0 ≤ at_ - s := by have := hD x (by simp); omega
        have hr : rd_T33 (x :: D) 0 = x := rfl
        have hlen : ((x :: D).length : Int) > 0 := by simp <;> omega
        rw [if_pos hlen, if_pos hlen, hr, if_neg hx, if_neg (by omega)]
        rfl
    | succ d ih =>
      intro D hd h300 hD k
      cases D with
      | nil => simp at hd
      | cons x D =>
        have hx : ¬ x.f0 ≤ at_ - s := by have := hD x (by simp); omega
        have hr : rd_T33 (x :: D) 0 = x := rfl
        have hlen : ((x :: D).length : Int) > 0 := by simp <;> omega
        have hl1 : (x :: D).length = D.length + 1 := rfl
        have ht : trim (x :: D) = trim D := by
          unfold trim
          rw [show (x :: D).length - 200 = (D.length - 200) + 1 by omega, List.drop_succ_cons]
        rw [show k + (d + 1) + 1 = (k + d + 1) + 1 by omega, impl_Window_put.l1]
        simp only [e1]
        rw [if_pos hlen, if_pos hlen, hr, if_neg hx, if_pos (by omega), if_pos (by omega), ht]
        exact ih D (by omega) (by omega) (fun y hy => hD y (by simp [hy])) k
  intro C
  induction C with
  | nil => intro h300 _ k; exact short (D.length - 200) D rfl h300 hD k
  | cons x C ih =>
    intro h300 hC k
    have hx : x.f0 ≤ at_ - s := hC x (by simp)
    have hr : rd_T33 (x :: C ++ D) 0 = x := rfl
    have hlen : ((x :: C ++ D).length : Int) > 0 := by simp <;> omega
    rw [show k + (x :: C).length + (D.length - 200) + 1 = (k + C.length + (D.length - 200) + 1) + 1 by simp; omega, impl_Window_put.l1]
    simp only [e1]
    rw [if_pos hlen, if_pos hlen, hr, if_pos hx, if_pos (by omega)]
    exact ih (by simp at h300 ⊢; omega) (fun y hy => hC y (by simp [hy])) k
/-- A right window and what may be put: both put the same, and the window is right again. -/
theorem put_right (s n c : Int) (l : List S33) (h : RightW s n c l) (at_ cp : Int) (h1 : n < at_) (h2 : at_ ≤ 1000000) (h3 : 0 ≤ cp ∧ cp ≤ 1125899906842624) : ∃ m, RightW s at_ cp m ∧ ∀ k, 2000 < k → spec_WindowPut.f k s n c l at_ cp = some (s, at_, cp, m) ∧ impl_Window_put.f k s n c l at_ cp = some (s, at_, cp, m) := by
  have h' := h
  obtain ⟨hs, hn, hc, h200, hall, hpw⟩ := h'
  have e1 : wrap64 (at_ - 1) = at_ - 1 := wrap_small (by omega) (by omega)
  generalize hALL : l ++ [(⟨at_ - 1, c⟩ : S33)] = all
  have hlen : all.length = l.length + 1 := by rw [← hALL]; simp
  have pw : all.Pairwise (fun x y => x.f0 < y.f0 ∧ y.f1 < x.f1) := by
    rw [← hALL, List.pairwise_append]
    refine ⟨hpw, by simp, fun x hx y hy => ?_⟩
    rw [List.mem_singleton] at hy
    subst hy
    have := hall x hx
    exact ⟨by show x.f0 < at_ - 1; omega, by show c < x.f1; omega⟩
  have each : ∀ x ∈ all, 0 ≤ x.f0 ∧ x.f0 < at_ ∧ x.f1 ≤ 1125899906842624 := fun x hx => by
    rw [← hALL, List.mem_append, List.mem_singleton] at hx
    rcases hx with hx | hx
    · have := hall x hx; omega
    · subst hx; show 0 ≤ at_ - 1 ∧ at_ - 1 < at_ ∧ c ≤ _; omega
  have sAB := split_of (fun x => decide (cp < x.f1)) all (pw.imp fun {x y} hxy hy => by have := of_decide_eq_true hy; exact decide_eq_true (by omega))
  generalize hA : all.filter (fun x => decide (cp < x.f1)) = A at sAB
  generalize hB : all.filter (fun x => !decide (cp < x.f1)) = B at sAB
  have pwA : A.Pairwise (fun x y => x.f0 < y.f0 ∧ y.f1 < x.f1) := by rw [← hA]; exact pw.filter _
  have sCD := split_of (fun x => decide (x.f0 ≤ at_ - s)) A (pwA.imp fun {x y} hxy hy => by have := of_decide_eq_true hy; exact decide_eq_true (by omega))
  generalize hC : A.filter (fun x => decide (x.f0 ≤ at_ - s)) = C at sCD
  generalize hD : A.filter (fun x => !decide (x.f0 ≤ at_ - s)) = D at sCD
  have fA : ∀ x ∈ A, cp < x.f1 := fun x hx => by rw [← hA, List.mem_filter] at hx; exact of_decide_eq_true hx.2
  have fB : ∀ x ∈ B, x.f1 ≤ cp := fun x hx => by rw [← hB, List.mem_filter] at hx; have := hx.2; simp at this; omega
  have fC : ∀ x ∈ C, x.f0 ≤ at_ - s := fun x hx => by rw [← hC, List.mem_filter] at hx; exact of_decide_eq_true hx.2
  have fD : ∀ x ∈ D, at_ - s < x.f0 := fun x hx => by rw [← hD, List.mem_filter] at hx; have := hx.2; simp at this; omega
  have hAl : A.length ≤ all.length := by rw [← hA]; exact List.length_filter_le _ _
  have hDl : D.length ≤ A.length := by rw [← hD]; exact List.length_filter_le _ _
  have hCl : C.length ≤ A.length := by rw [← hC]; exact List.length_filter_le _ _
  have hBl : B.length ≤ all.length := by rw [← hB]; exact List.length_filter_le _ _
  have hkeep : all.filter (keep (at_ - s) cp) = D := by
    rw [← hD, ← hA, List.filter_filter]
    apply List.filter_congr
    intro x _
    unfold keep
    rw [Bool.and_comm]
    congr 1
    rw [show (!decide (x.f0 ≤ at_ - s)) = decide (¬ x.f0 ≤ at_ - s) from (decide_not ..).symm]
    exact decide_eq_decide.2 (by omega)
  refine ⟨trim D, ?_, fun k hk => ⟨?_, ?_⟩⟩
  · have sub : (trim D).Sublist all := by
      refine (List.drop_sublist _ _).trans ?_
      rw [← hkeep]
      exact List.filter_sublist
    refine ⟨hs, by omega, h3, by unfold trim; rw [List.length_drop]; omega, fun x hx => ?_, pw.sublist sub⟩
    have q1 := each x (sub.subset hx)
    have q2 : x ∈ D := (List.drop_sublist _ _).subset hx
    have q3 := fD x q2
    have q4 : x ∈ A := by rw [← hD] at q2; exact (List.mem_filter.1 q2).1
    have q5 := fA x q4
    exact ⟨⟨q1.1, q3, q1.2.1⟩, q5, q1.2.2⟩
  · obtain ⟨k, rfl⟩ : ∃ m, k = m + 1 := ⟨k - 1, by omega⟩
    unfold spec_WindowPut.f
    simp only [Option.bind_some, List.nil_append, List.length_nil, Nat.zero_add]
    rw [if_pos (by omega), right_eq s n c l h (k + 1) (by omega)]
    simp only [Option.bind_some, if_true, l07Time_eq]
    rw [decide_eq_true (show 0 ≤ at_ ∧ at_ ≤ 1000000 by omega)]
    simp only [if_true]
    rw [if_neg (by omega), l02Want_eq, decide_eq_true h3]
    simp only [Option.bind_some, Bool.not_true, spec_WindowPut.j0, Bool.false_eq_true, if_false, List.nil_append, List.length_nil, Nat.zero_add]
    rw [if_pos (by omega), e1]
    have hb : l.length + [(⟨at_ - 1, c⟩ : S33)].length < 8796093022208 := by simp; omega
    rw [if_pos hb, hALL]
    have := filter_loop all (by omega) s n c at_ cp s n c l hs (by omega) all.length 0 k [] (by omega) (by omega) (by omega) (by simp)
    rw [List.drop_zero, hkeep, List.nil_append] at this
    exact this
  · unfold impl_Window_put.f impl_Mark.f
    rw [if_pos (by omega : l.length ≤ 5000000000000), e1]
    simp only [Option.bind_some]
    have hb : l.length + [(⟨at_ - 1, c⟩ : S33)].length < 8796093022208 := by simp; omega
    rw [if_pos hb, hALL, sAB, show k = (k - B.length - 1) + B.length + 1 by omega, back_loop A s n c at_ cp l fA B.length B rfl (by rw [← sAB]; omega) fB]
    rw [show k - B.length - 1 = (k - B.length - 2) + 1 by omega]
    simp only [impl_Window_put.j1]
    rw [sCD, show k - B.length - 2 = (k - B.length - 2 - C.length - (D.length - 200) - 1) + C.length + (D.length - 200) + 1 by omega]
    exact front_loop s n c at_ cp l hs (by omega) D fD C (by rw [← sCD]; omega) fC _

theorem of_loops (s : Int) (L : List S33) (h200 : L.length ≤ 200) (hat : ∀ j : Nat, j < L.length → histAt L j) : ∀ (d i k : Nat) (n c : Int) (m : List S33), L.length - i = d → 1 ≤ i → i ≤ L.length → 2000 + d < k → n = (rd_T33 L ((i - 1 : Nat) : Int)).f0 → RightW s n c m →
    ∃ v : Int × Int × Int × List S33, v.2.2.2.length ≤ 200 ∧ spec_WindowOf.l0 k L (i : Int) s n c m = some v ∧ impl_WindowOf.l0 k (L.drop 1) ((L.drop 1).length : Int) ((i - 1 : Nat) : Int) s n c m = some v := by
  have hdl : (L.drop 1).length = L.length - 1 := by simp
  intro d
  induction d with
  | zero =>
    intro i k n c m hd h1 hi hk hn hr
    obtain ⟨k, rfl⟩ : ∃ q, k = q + 1 := ⟨k - 1, by omega⟩
    refine ⟨(s, n, c, m), hr.2.2.2.1, ?_, ?_⟩
    · simp only [spec_WindowOf.l0]; rw [if_neg (by omega)]
    · simp only [impl_WindowOf.l0]; rw [if_neg (by omega)]
  | succ d ih =>
    intro i k n c m hd h1 hi hk hn hr
    obtain ⟨k, rfl⟩ : ∃ q, k = q + 1 := ⟨k - 1, by omega⟩
    have hlt : i < L.length := by omega
    have hh := hat i hlt
    have hup := hh.2 (by omega)
    rw [← hn] at hup
    have hrd : rd_T33 (L.drop 1) ((i - 1 : Nat) : Int) = rd_T33 L (i : Int) := by
      rw [rd33 L i hlt, rd33 (L.drop 1) (i - 1) (by omega), List.getElem_drop]
      congr 1
      omega
    obtain ⟨m', hr', hput⟩ := put_right s n c m hr (rd_T33 L (i : Int)).f0 (rd_T33 L (i : Int)).f1 hup hh.1.1.2 hh.1.2
    obtain ⟨p1, p2⟩ := hput k (by omega)
    obtain ⟨v, hv, q1, q2⟩ := ih (i + 1) k _ _ m' (by omega) (by omega) (by omega) (by omega) (by rw [show i + 1 - 1 = i by omega]) hr'
    refine ⟨v, hv, ?_, ?_⟩
    · simp only [spec_WindowOf.l0]
      rw [if_pos (by omega), if_pos (by omega), p1]
      simp only [Option.bind_some]
      rw [succ_cast i (by omega)]
      exact q1
    · simp only [impl_WindowOf.l0]
      rw [if_pos (by omega), if_pos (by omega), if_pos (by omega), hrd, p2]
      simp only [Option.bind_some]
      rw [show wrap64 (((i - 1 : Nat) : Int) + 1) = ((i + 1 - 1 : Nat) : Int) by rw [wrap_small (by omega) (by omega)]; omega]
      exact q2
theorem of_same (s : Int) (L : List S33) (hL : L.length < 9223372036854775807) : ∃ v : Int × Int × Int × List S33, v.2.2.2.length ≤ 200 ∧ ∀ k, L.length + 3000 < k → spec_WindowOf.f k s L = some v ∧ impl_WindowOf.f k s L = some v := by
  obtain ⟨b, hbm, hb⟩ := hist_same L hL
  have zero : ∀ k, 0 < k → spec_WindowOf.j0 k s L true = some (0, 0, 0, []) ∧ impl_WindowOf.j0 k s L true = some (0, 0, 0, []) := fun k hk => by
    obtain ⟨k, rfl⟩ : ∃ q, k = q + 1 := ⟨k - 1, by omega⟩
    exact ⟨rfl, rfl⟩
  by_cases h0 : (L.length : Int) = 0
  · refine ⟨(0, 0, 0, []), by simp, fun k hk => ⟨?_, ?_⟩⟩
    · unfold spec_WindowOf.f; rw [if_pos h0]; exact (zero k (by omega)).1
    · unfold impl_WindowOf.f
      rw [(hb k (by omega)).2]
      simp only [Option.bind_some]
      cases b with
      | true => rw [if_pos rfl, if_pos h0]; exact (zero k (by omega)).2
      | false => rw [if_neg (by decide)]; exact (zero k (by omega)).2
  · cases b with
    | false =>
      refine ⟨(0, 0, 0, []), by simp, fun k hk => ⟨?_, ?_⟩⟩
      · unfold spec_WindowOf.f
        rw [if_neg h0, (hb k (by omega)).1]
        exact (zero k (by omega)).1
      · unfold impl_WindowOf.f
        rw [(hb k (by omega)).2]
        exact (zero k (by omega)).2
    | true =>
      obtain ⟨h200, hat⟩ := hbm rfl
      by_cases hs : 1 ≤ s ∧ s ≤ 1000000
      · have h00 := hat 0 (by omega)
        have hr : RightW s (rd_T33 L 0).f0 (rd_T33 L 0).f1 [] := ⟨hs, h00.1.1, h00.1.2, by simp, by simp, by simp⟩
        have one : ∀ k, 2000 + L.length < k → ∃ v : Int × Int × Int × List S33, v.2.2.2.length ≤ 200 ∧ spec_WindowOf.l0 k L 1 s (rd_T33 L 0).f0 (rd_T33 L 0).f1 [] = some v ∧ impl_WindowOf.l0 k (L.drop 1) ((L.drop 1).length : Int) 0 s (rd_T33 L 0).f0 (rd_T33 L 0).f1 [] = some v := fun k hk => of_loops s L h200 hat (L.length - 1) 1 k _ _ [] rfl (by omega) (by omega) (by omega) rfl hr
        obtain ⟨v, hv, e1, e2⟩ := one (2001 + L.length) (by omega)
        have up : ∀ j, spec_WindowOf.l0 (2001 + L.length + j) L 1 s (rd_T33 L 0).f0 (rd_T33 L 0).f1 [] = some v := fun j => by
          induction j with
          | zero => exact e1
          | succ j ih => exact (spec_WindowOf.mono_l (2001 + L.length + j)).2 L 1 s _ _ [] v ih
        refine ⟨v, hv, fun k hk => ?_⟩
        obtain ⟨k, rfl⟩ : ∃ q, k = q + 1 := ⟨k - 1, by omega⟩
        obtain ⟨v', _, f1, f2⟩ := one k (by omega)
        have hvv : v' = v := by
          have := up (k - (2001 + L.length))
          rw [show 2001 + L.length + (k - (2001 + L.length)) = k by omega, f1] at this
          exact Option.some.inj this
        rw [hvv] at f1 f2
        refine ⟨?_, ?_⟩
        · unfold spec_WindowOf.f
          rw [if_neg h0, (hb (k + 1) (by omega)).1]
          simp only [Option.bind_some, if_true]
          rw [if_neg (by omega), decide_eq_false (by omega)]
          simp only [spec_WindowOf.j0, Bool.false_eq_true, if_false]
          rw [if_pos (by omega)]
          exact f1
        · unfold impl_WindowOf.f
          rw [(hb (k + 1) (by omega)).2]
          simp only [Option.bind_some, if_true]
          rw [if_neg h0, in_eq, decide_eq_true hs]
          simp only [Option.bind_some, Bool.not_true, impl_WindowOf.j0, Bool.false_eq_true, if_false]
          rw [if_pos (by omega), if_pos (by omega)]
          exact f2
      · refine ⟨(0, 0, 0, []), by simp, fun k hk => ⟨?_, ?_⟩⟩
        · unfold spec_WindowOf.f
          rw [if_neg h0, (hb k (by omega)).1]
          simp only [Option.bind_some, if_true]
          by_cases c : s < 1
          · rw [if_pos c]; exact (zero k (by omega)).1
          · rw [if_neg c, decide_eq_true (by omega)]; exact (zero k (by omega)).1
        · unfold impl_WindowOf.f
          rw [(hb k (by omega)).2]
          simp only [Option.bind_some, if_true]
          rw [if_neg h0, in_eq, decide_eq_false hs]
          exact (zero k (by omega)).2
theorem eqWindow_same' (a b c : Int) (l : List S33) (hl : l.length < 9223372036854775807) (k : Nat) (hk : l.length < k) : laws_eqWindow.f k a b c l a b c l = some true := by
  unfold laws_eqWindow.f
  rw [if_pos rfl, if_pos rfl, if_pos rfl, eqMarkS_same l hl k hk]
  rfl
theorem FnExactWindowOf : BridgeFnExactWindowOf.Pure := by
  intro s l _ hl _
  refine ⟨l.length + 3100, ?_⟩
  unfold laws_FnExactWindowOf.f
  rw [szMarkS_eq l hl]
  simp only [Option.bind_some]
  by_cases hsz : l.length ≤ 1048576
  · rw [if_pos hsz, if_neg (by omega), toMarkS_eq l hl _ (by omega)]
    simp only [Option.bind_some]
    have hlen : (l.map convMark).length = l.length := by simp
    obtain ⟨⟨a, b, c, m⟩, hm, hv⟩ := of_same s (l.map convMark) (by omega)
    have hm' : m.length ≤ 200 := hm
    obtain ⟨h1, h2⟩ := hv (l.length + 3100) (by omega)
    obtain ⟨_, h2'⟩ := hv (l.length + 3099) (by omega)
    rw [h1, h2]
    simp only [Option.bind_some]
    rw [eqWindow_same' a b c m (by omega) _ (by omega)]
    simp only [Option.bind_some, if_true]
    rw [eqMarkS_same (l.map convMark) (by omega) _ (by omega)]
    simp only [Option.bind_some, if_true]
    obtain ⟨m1, hm1, _, _⟩ := markMarkS_eq (l.map convMark) (by omega) (l.length + 3100) (by omega)
    rw [hm1]
    simp only [Option.bind_some]
    rw [if_neg (by omega)]
    obtain ⟨m2, hm2, hl2, hr2⟩ := markMarkS_eq m (by omega) (l.length + 3099) (by omega)
    have held := heldMarkS_eq m2 m.length hl2 (by omega) hr2 (l.length + 3099) (by omega)
    rw [show l.length + 3100 = (l.length + 3099) + 1 by omega]
    simp only [laws_FnExactWindowOf.j0, Bool.not_true, Bool.false_eq_true, if_false, laws_markWindow.f, hm2, Option.bind_some, laws_heldWindow.f, held]
    rw [if_neg (by omega)]
    simp only [Option.bind_some]
    rw [if_neg (by omega), if_pos trivial, toMarkS_eq l hl _ (by omega)]
    simp only [Option.bind_some]
    rw [h2']
    simp only [Option.bind_some]
    rw [eqWindow_same' a b c m (by omega) _ (by omega)]
    have hneg : ¬ (1 + 2 * (m.length : Int) < 0) := by omega
    simp [hneg]
  · rw [if_neg hsz, if_pos (by omega)]
end Go.Proofs.Ytpgaoihgohlmkaa.Pure
