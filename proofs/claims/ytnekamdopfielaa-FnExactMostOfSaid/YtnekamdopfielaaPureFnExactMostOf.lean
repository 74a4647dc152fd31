/- MostOf answers as the reference does, for every list of Marks, span and time, and leaves its argument. Conditions: none beyond the statement's own bounds. -/
import Derived.Test.YtnekamdopfielaaBridgeFnExactMostOf
namespace Go.Proofs.Ytnekamdopfielaa.Pure
open Go.RowKit Go.Proofs.Ytnekamdopfielaa.XFnExactMostOf Go.Proofs.Ytnekamdopfielaa.BridgeFnExactMostOf Go.Proofs.YtnekamdopfielaaW.PrintWords Go.Proofs.YtnekamdopfielaaW.PrintLast Go.Proofs.YtnekamdopfielaaW.PrintMore
set_option linter.unusedVariables false
set_option linter.unusedSimpArgs false

theorem wrap_small {x : Int} (h0 : -9223372036854775808 ≤ x) (h1 : x ≤ 9223372036854775807) : wrap64 x = x := by
  unfold wrap64
  omega
theorem i64_range {x : Int} (h : (Lit.int .i64 x).wf = true) : -9223372036854775808 ≤ x ∧ x ≤ 9223372036854775807 := by
  simp [Lit.wf, IntKind.min, IntKind.max, IntKind.bits, IntKind.signed] at h
  omega
theorem u64_range {x : Int} (h : (Lit.int .u64 x).wf = true) : 0 ≤ x ∧ x < 18446744073709551616 := by
  simp [Lit.wf, IntKind.min, IntKind.max, IntKind.bits, IntKind.signed] at h
  omega

theorem in_eq (a b c : Int) : impl_in.f a b c = some (decide (b ≤ a ∧ a ≤ c)) := by
  unfold impl_in.f
  by_cases h : b ≤ a <;> simp [h]

theorem isWant_eq (a : Int) : impl_isWant.f a = some (decide (0 ≤ a ∧ a ≤ 1125899906842624)) := by simp [impl_isWant.f, in_eq]

theorem l02Want_eq (a : Int) : spec_l02Want.f a = some (decide (0 ≤ a ∧ a ≤ 1125899906842624)) := by
  unfold spec_l02Want.f
  by_cases h : a ≥ 0
  · rw [if_pos h]; simp; omega
  · rw [if_neg h]; simp; omega

theorem isTime_eq (a : Int) : impl_isTime.f a = some (decide (0 ≤ a ∧ a ≤ 1000000)) := by simp [impl_isTime.f, in_eq]
theorem l07Time_eq (a : Int) : spec_l07Time.f a = some (decide (0 ≤ a ∧ a ≤ 1000000)) := by
  unfold spec_l07Time.f
  by_cases h : a ≥ 0
  · rw [if_pos h]; simp; omega
  · rw [if_neg h]; simp; omega

theorem set_fill {α β : Type} (l : List α) (f : α → β) (z : β) (i : Nat) (h : i < l.length) : ((l.take i).map f ++ List.replicate (l.length - i) z).set i (f l[i]) = (l.take (i + 1)).map f ++ List.replicate (l.length - (i + 1)) z := by
  have e : l.length - i = (l.length - (i + 1)) + 1 := by omega
  have hl : ((l.take i).map f).length = i := by simp; omega
  rw [e, List.replicate_succ, List.set_append_right i (f l[i]) (by omega), hl, Nat.sub_self, List.set_cons_zero, List.take_succ_eq_append_getElem h, List.map_append]
  simp
theorem succ_cast (i : Nat) (h : i < 9223372036854775807) : wrap64 ((i : Int) + 1) = ((i + 1 : Nat) : Int) := by
  rw [wrap_small (by omega) (by omega)]
  omega

theorem pred_cast (i : Nat) (h : 0 < i) (h2 : i < 9223372036854775807) : wrap64 ((i : Int) - 1) = ((i - 1 : Nat) : Int) := by
  rw [wrap_small (by omega) (by omega)]
  omega

theorem rd104 (xs : List S104) (i : Nat) (h : i < xs.length) : rd_T104 xs (i : Int) = xs[i] := by
  unfold rd_T104
  rw [Int.toNat_natCast, List.getD_eq_getElem?_getD, List.getElem?_eq_getElem h]
  rfl

theorem rd99 (xs : List S99) (i : Nat) (h : i < xs.length) : rd_T99 xs (i : Int) = xs[i] := by
  unfold rd_T99
  rw [Int.toNat_natCast, List.getD_eq_getElem?_getD, List.getElem?_eq_getElem h]
  rfl

def convMark (x : S104) : S99 := ⟨x.f0, x.f1⟩
theorem toMarkS_loop (l : List S104) (hl : l.length * 16 ≤ 140737488351232) : ∀ (d k i : Nat), l.length - i = d → i ≤ l.length → d < k → laws_toMarkS.l0 k l ((l.take i).map convMark ++ List.replicate (l.length - i) z99) (i : Int) = some (l.map convMark) := by
  intro d
  induction d with
  | zero =>
    intro k i hd hi hk
    obtain ⟨k, rfl⟩ : ∃ m, k = m + 1 := ⟨k - 1, by omega⟩
    obtain rfl : i = l.length := by omega
    simp only [laws_toMarkS.l0]
    rw [if_neg (by omega)]
    simp
  | succ d ih =>
    intro k i hd hi hk
    obtain ⟨k, rfl⟩ : ∃ m, k = m + 1 := ⟨k - 1, by omega⟩
    have hlt : i < l.length := by omega
    simp only [laws_toMarkS.l0]
    rw [if_pos (by omega), if_pos (by omega)]
    simp only [laws_toMark.f, Option.bind_some, rd104 l i hlt]
    rw [if_pos (by simp; omega), Int.toNat_natCast, succ_cast i (by omega)]
    have e := set_fill l convMark z99 i hlt
    rw [show (⟨l[i].f0, l[i].f1⟩ : S99) = convMark l[i] from rfl, e]
    exact ih k (i + 1) (by omega) (by omega) (by omega)
theorem toMarkS_eq (l : List S104) (hl : l.length * 16 ≤ 140737488351232) (k : Nat) (hk : l.length < k) : laws_toMarkS.f k l = some (l.map convMark) := by
  unfold laws_toMarkS.f
  rw [if_pos (by omega), if_pos (by simp; omega)]
  have h := toMarkS_loop l hl l.length k 0 (by omega) (by omega) hk
  simpa using h

theorem eqMark_same (x : S99) : laws_eqMark.f (x.f0) (x.f1) (x.f0) (x.f1) = some true := by simp [laws_eqMark.f]
theorem eqMarkS_loop (l : List S99) (hl : l.length < 9223372036854775807) : ∀ (d k i : Nat), l.length - i = d → i ≤ l.length → d < k → laws_eqMarkS.l0 k l l (i : Int) = some true := by
  intro d
  induction d with
  | zero =>
    intro k i hd hi hk
    obtain ⟨k, rfl⟩ : ∃ m, k = m + 1 := ⟨k - 1, by omega⟩
    simp only [laws_eqMarkS.l0]
    rw [if_neg (by omega)]
  | succ d ih =>
    intro k i hd hi hk
    obtain ⟨k, rfl⟩ : ∃ m, k = m + 1 := ⟨k - 1, by omega⟩
    have hlt : i < l.length := by omega
    simp only [laws_eqMarkS.l0]
    rw [if_pos (by omega), if_pos (by omega), if_pos (by omega), eqMark_same]
    simp only [Option.bind_some, if_true]
    rw [succ_cast i (by omega)]
    exact ih k (i + 1) (by omega) (by omega) (by omega)
theorem eqMarkS_same (l : List S99) (hl : l.length < 9223372036854775807) (k : Nat) (hk : l.length < k) : laws_eqMarkS.f k l l = some true := by
  unfold laws_eqMarkS.f
  rw [if_pos rfl]
  exact eqMarkS_loop l hl l.length k 0 (by omega) (by omega) hk

theorem szMarkS_eq (l : List S104) (hl : l.length * 16 ≤ 140737488351232) : laws_szMarkS.f l 1048576 = some (if l.length ≤ 1048576 then 1048576 - (l.length : Int) else -1) := by
  unfold laws_szMarkS.f
  rw [wrap_small (by omega) (by omega)]
  by_cases h : l.length ≤ 1048576
  · rw [if_neg (by omega), if_pos h]
  · rw [if_pos (by omega), if_neg h]

/-- Both loops over a list tell the same, but that the program looks at the length last. -/
theorem hist_loops (l : List S99) (hl : l.length < 9223372036854775807) : ∀ (d i : Nat), l.length - i = d → i ≤ l.length → ∃ b, ∀ k, d < k → spec_l09History.l0 k l (i : Int) = some b ∧ impl_isHistory.l0 k l l (l.length : Int) (i : Int) = some (b && decide ((l.length : Int) ≤ 200)) := by
  intro d
  induction d with
  | zero =>
    intro i hd hi
    refine ⟨true, fun k hk => ?_⟩
    obtain ⟨k, rfl⟩ : ∃ m, k = m + 1 := ⟨k - 1, by omega⟩
    refine ⟨?_, ?_⟩
    · simp only [spec_l09History.l0]; rw [if_neg (by omega)]
    · simp only [impl_isHistory.l0]; rw [if_neg (by omega)]; simp
  | succ d ih =>
    intro i hd hi
    obtain ⟨b, hb⟩ := ih (i + 1) (by omega) (by omega)
    have a1 : (i : Int) < (l.length : Int) := by omega
    have a2 : (0 : Int) ≤ (i : Int) := by omega
    by_cases h : (0 ≤ (rd_T99 l i).f0 ∧ (rd_T99 l i).f0 ≤ 1000000) ∧ (0 ≤ (rd_T99 l i).f1 ∧ (rd_T99 l i).f1 ≤ 1125899906842624)
    · by_cases h0 : (i : Int) > 0
      · have a3 : (0 : Int) ≤ ((i - 1 : Nat) : Int) := by omega
        have a4 : ((i - 1 : Nat) : Int) < (l.length : Int) := by omega
        by_cases hc : (rd_T99 l i).f0 ≤ (rd_T99 l ((i - 1 : Nat) : Int)).f0
        · refine ⟨false, fun k hk => ?_⟩
          obtain ⟨k, rfl⟩ : ∃ m, k = m + 1 := ⟨k - 1, by omega⟩
          have hc' : (rd_T99 l ((i - 1 : Nat) : Int)).f0 ≥ (rd_T99 l i).f0 := hc
          simp only [spec_l09History.l0, impl_isHistory.l0, a1, a2, if_true, l07Time_eq, l02Want_eq, isTime_eq, isWant_eq, Option.bind_some, h.1, h.2, and_self, decide_true, h0, pred_cast i (by omega) (by omega), a3, a4, hc, hc']
          exact ⟨by first | rfl | trivial, by simp⟩
        · refine ⟨b, fun k hk => ?_⟩
          obtain ⟨k, rfl⟩ : ∃ m, k = m + 1 := ⟨k - 1, by omega⟩
          obtain ⟨h1, h2⟩ := hb k (by omega)
          have hc' : ¬ (rd_T99 l ((i - 1 : Nat) : Int)).f0 ≥ (rd_T99 l i).f0 := hc
          simp only [spec_l09History.l0, impl_isHistory.l0, a1, a2, if_true, l07Time_eq, l02Want_eq, isTime_eq, isWant_eq, Option.bind_some, h.1, h.2, and_self, decide_true, h0, pred_cast i (by omega) (by omega), a3, a4, hc, hc', if_false, succ_cast i (by omega), h1, h2]
          all_goals exact ⟨trivial, trivial⟩
      · refine ⟨b, fun k hk => ?_⟩
        obtain ⟨k, rfl⟩ : ∃ m, k = m + 1 := ⟨k - 1, by omega⟩
        obtain ⟨h1, h2⟩ := hb k (by omega)
        simp only [spec_l09History.l0, impl_isHistory.l0, a1, a2, if_true, l07Time_eq, l02Want_eq, isTime_eq, isWant_eq, Option.bind_some, h.1, h.2, and_self, decide_true, h0, if_false, succ_cast i (by omega), h1, h2]
        all_goals exact ⟨trivial, trivial⟩
    · refine ⟨false, fun k hk => ?_⟩
      obtain ⟨k, rfl⟩ : ∃ m, k = m + 1 := ⟨k - 1, by omega⟩
      by_cases hA : 0 ≤ (rd_T99 l i).f0 ∧ (rd_T99 l i).f0 ≤ 1000000
      · have hB : ¬ (0 ≤ (rd_T99 l i).f1 ∧ (rd_T99 l i).f1 ≤ 1125899906842624) := fun hB => h ⟨hA, hB⟩
        simp only [spec_l09History.l0, impl_isHistory.l0, a1, a2, if_true, l07Time_eq, l02Want_eq, isTime_eq, isWant_eq, Option.bind_some, hA, hB, and_self, decide_true, decide_false, Bool.false_eq_true, if_false]
        exact ⟨by first | rfl | trivial, by simp⟩
      · simp only [spec_l09History.l0, impl_isHistory.l0, a1, a2, if_true, l07Time_eq, l02Want_eq, isTime_eq, isWant_eq, Option.bind_some, hA, decide_false, Bool.false_eq_true, if_false]
        exact ⟨by first | rfl | trivial, by simp⟩
theorem hist_same (l : List S99) (hl : l.length < 9223372036854775807) : ∃ b, (b = true → l.length ≤ 200) ∧ ∀ k, l.length < k → spec_l09History.f k l = some b ∧ impl_isHistory.f k l = some b := by
  obtain ⟨b, hb⟩ := hist_loops l hl l.length 0 (by omega) (by omega)
  by_cases h : (l.length : Int) > 200
  · refine ⟨false, by simp, fun k hk => ?_⟩
    obtain ⟨h1, h2⟩ := hb k hk
    have h2' : impl_isHistory.l0 k l l (l.length : Int) 0 = some (b && decide ((l.length : Int) ≤ 200)) := h2
    unfold spec_l09History.f impl_isHistory.f
    rw [h2', if_pos h]
    exact ⟨rfl, by simp; omega⟩
  · refine ⟨b, fun _ => by omega, fun k hk => ?_⟩
    obtain ⟨h1, h2⟩ := hb k hk
    have h1' : spec_l09History.l0 k l 0 = some b := h1
    have h2' : impl_isHistory.l0 k l l (l.length : Int) 0 = some (b && decide ((l.length : Int) ≤ 200)) := h2
    unfold spec_l09History.f impl_isHistory.f
    rw [h1', h2', if_neg h]
    exact ⟨rfl, by simp; omega⟩

theorem max_eq (a b : Int) : spec_l01Max.f a b = some (mx a b) := by
  unfold spec_l01Max.f mx
  by_cases h : a > b
  · rw [if_pos h, if_neg (by omega)]
  · rw [if_neg h]
    by_cases h2 : a < b
    · rw [if_pos h2]
    · rw [if_neg h2, show a = b by omega]
/-- The times of a right history. -/
def Timed (l : List S99) : Prop := ∀ i : Nat, i < l.length → (0 ≤ (rd_T99 l i).f0 ∧ (rd_T99 l i).f0 ≤ 1000000) ∧ (0 < i → (rd_T99 l ((i - 1 : Nat) : Int)).f0 < (rd_T99 l i).f0)
theorem spec_timed (l : List S99) (hl : l.length < 9223372036854775807) : ∀ (d i k : Nat), l.length - i = d → spec_l09History.l0 k l (i : Int) = some true → ∀ j, i ≤ j → j < l.length → (0 ≤ (rd_T99 l j).f0 ∧ (rd_T99 l j).f0 ≤ 1000000) ∧ (0 < j → (rd_T99 l ((j - 1 : Nat) : Int)).f0 < (rd_T99 l j).f0) := by
  intro d
  induction d with
  | zero =>
    intro i k hd _ j h1 h2
    omega
  | succ d ih =>
    intro i k hd hs j h1 h2
    cases k with
    | zero => simp [spec_l09History.l0] at hs
    | succ k =>
      have a1 : (i : Int) < (l.length : Int) := by omega
      have a2 : (0 : Int) ≤ (i : Int) := by omega
      simp only [spec_l09History.l0, a1, a2, if_true, l07Time_eq, l02Want_eq, Option.bind_some, succ_cast i (by omega)] at hs
      by_cases hA : 0 ≤ (rd_T99 l i).f0 ∧ (rd_T99 l i).f0 ≤ 1000000
      · by_cases hB : 0 ≤ (rd_T99 l i).f1 ∧ (rd_T99 l i).f1 ≤ 1125899906842624
        · simp only [hA, hB, and_self, decide_true, if_true] at hs
          have nx : spec_l09History.l0 k l ((i + 1 : Nat) : Int) = some true ∧ (0 < i → (rd_T99 l ((i - 1 : Nat) : Int)).f0 < (rd_T99 l i).f0) := by
            by_cases h0 : (i : Int) > 0
            · have a3 : (0 : Int) ≤ ((i - 1 : Nat) : Int) := by omega
              have a4 : ((i - 1 : Nat) : Int) < (l.length : Int) := by omega
              simp only [h0, if_true, pred_cast i (by omega) (by omega), a3, a4] at hs
              by_cases hc : (rd_T99 l i).f0 ≤ (rd_T99 l ((i - 1 : Nat) : Int)).f0
              · simp [hc] at hs
              · refine ⟨?_, fun _ => by omega⟩
                simpa only [hc, if_false] using hs
            · refine ⟨?_, fun h => absurd h (by omega)⟩
              simpa only [h0, if_false] using hs
          by_cases hj : j = i
          · rw [hj]; exact ⟨hA, nx.2⟩
          · exact ih (i + 1) k (by omega) nx.1 j (by omega) h2
        · simp only [hA, hB, and_self, decide_true, decide_false, if_true, Bool.false_eq_true, if_false] at hs
          simp at hs
      · simp only [hA, decide_false, Bool.false_eq_true, if_false] at hs
        simp at hs
theorem most_loops (l : List S99) (hl : l.length < 9223372036854775807) (ht : Timed l) (span now : Int) (hs0 : 1 ≤ span) (hs1 : span ≤ 1000000) (hn0 : 0 ≤ now) (hn1 : now ≤ 9223372036854775807) : ∀ (d k i : Nat) (m : Int), l.length - i = d → i ≤ l.length → d < k → ∃ v, spec_MostOf.l0 k l span now m (i : Int) = some v ∧ impl_MostOf.l0 k l span now m l (l.length : Int) (i : Int) = some v := by
  intro d
  induction d with
  | zero =>
    intro k i m hd hi hk
    obtain ⟨k, rfl⟩ : ∃ m, k = m + 1 := ⟨k - 1, by omega⟩
    refine ⟨m, ?_, ?_⟩
    · simp only [spec_MostOf.l0]; rw [if_neg (by omega)]
    · simp only [impl_MostOf.l0]; rw [if_neg (by omega)]
  | succ d ih =>
    intro k i m hd hi hk
    obtain ⟨k, rfl⟩ : ∃ m, k = m + 1 := ⟨k - 1, by omega⟩
    have a1 : (i : Int) < (l.length : Int) := by omega
    have a2 : (0 : Int) ≤ (i : Int) := by omega
    have a5 : (0 : Int) ≤ ((i + 1 : Nat) : Int) := by omega
    have hti := (ht i (by omega)).1
    obtain ⟨v, h1, h2⟩ := ih k (i + 1) m (by omega) (by omega) (by omega)
    obtain ⟨v', h1', h2'⟩ := ih k (i + 1) (mx m (rd_T99 l i).f1) (by omega) (by omega) (by omega)
    have el : wrap64 ((l.length : Int) - 1) = (l.length : Int) - 1 := wrap_small (by omega) (by omega)
    have en : wrap64 (now - span) = now - span := wrap_small (by omega) (by omega)
    simp only [spec_MostOf.l0, impl_MostOf.l0, a1, a2, a5, if_true, succ_cast i (by omega), h1, h2, h1', h2', el, en, max_eq]
    by_cases c1 : (rd_T99 l i).f0 > now
    · have c1' : ¬ (rd_T99 l i).f0 ≤ now := by omega
      simp only [c1, c1', if_true, if_false]
      exact ⟨v, rfl, rfl⟩
    · have c1' : (rd_T99 l i).f0 ≤ now := by omega
      simp only [c1, c1', if_true, if_false]
      by_cases c2 : ((i + 1 : Nat) : Int) < (l.length : Int)
      · have c2' : ¬ (i : Int) = (l.length : Int) - 1 := by omega
        have htn := (ht (i + 1) (by omega)).1
        have htr := (ht (i + 1) (by omega)).2 (by omega)
        rw [Nat.add_sub_cancel] at htr
        have ew : wrap64 ((rd_T99 l ((i + 1 : Nat) : Int)).f0 - 1) = (rd_T99 l ((i + 1 : Nat) : Int)).f0 - 1 := wrap_small (by omega) (by omega)
        simp only [c2, c2', if_true, if_false, ew, spec_l01Min.f]
        by_cases c3 : now < (rd_T99 l ((i + 1 : Nat) : Int)).f0 - 1
        · have c4 : (rd_T99 l ((i + 1 : Nat) : Int)).f0 - 1 > now - span := by omega
          have c5 : (0 : Int) < span := by omega
          have ez : wrap64 (now - now) = 0 := by rw [Int.sub_self]; unfold wrap64; omega
          simp only [c3, c4, if_true, Option.bind_some, ez, c5, h1']
          exact ⟨v', rfl, rfl⟩
        · have e6 : wrap64 (now - ((rd_T99 l ((i + 1 : Nat) : Int)).f0 - 1)) = now - ((rd_T99 l ((i + 1 : Nat) : Int)).f0 - 1) := wrap_small (by omega) (by omega)
          simp only [c3, if_false, Option.bind_some, e6]
          by_cases c7 : now - ((rd_T99 l ((i + 1 : Nat) : Int)).f0 - 1) < span
          · have c4 : (rd_T99 l ((i + 1 : Nat) : Int)).f0 - 1 > now - span := by omega
            simp only [c7, c4, if_true, Option.bind_some, h1']
            exact ⟨v', rfl, rfl⟩
          · have c4 : ¬ (rd_T99 l ((i + 1 : Nat) : Int)).f0 - 1 > now - span := by omega
            simp only [c7, c4, if_false]
            exact ⟨v, rfl, rfl⟩
      · have c2' : (i : Int) = (l.length : Int) - 1 := by omega
        have c5 : (0 : Int) < span := by omega
        simp only [c2, if_false, c5, if_true, Option.bind_some, h1']
        rw [if_pos c2']
        exact ⟨v', rfl, rfl⟩
theorem most_late (l : List S99) (hl : l.length < 9223372036854775807) (ht : Timed l) (span now : Int) (hn : now < 0) : ∀ (d k i : Nat), l.length - i = d → i ≤ l.length → d < k → spec_MostOf.l0 k l span now 0 (i : Int) = some 0 := by
  intro d
  induction d with
  | zero =>
    intro k i hd hi hk
    obtain ⟨k, rfl⟩ : ∃ m, k = m + 1 := ⟨k - 1, by omega⟩
    simp only [spec_MostOf.l0]; rw [if_neg (by omega)]
  | succ d ih =>
    intro k i hd hi hk
    obtain ⟨k, rfl⟩ : ∃ m, k = m + 1 := ⟨k - 1, by omega⟩
    have a1 : (i : Int) < (l.length : Int) := by omega
    have a2 : (0 : Int) ≤ (i : Int) := by omega
    have hti := (ht i (by omega)).1
    have c1 : (rd_T99 l i).f0 > now := by omega
    simp only [spec_MostOf.l0, a1, a2, c1, if_true, succ_cast i (by omega), ih k (i + 1) (by omega) (by omega) (by omega)]
theorem most_same (l : List S99) (hl : l.length < 9223372036854775807) (span now : Int) (hn1 : now ≤ 9223372036854775807) (k : Nat) (hk : l.length + 1 < k) : ∃ v, spec_MostOf.f k l span now = some v ∧ impl_MostOf.f k l span now = some v := by
  obtain ⟨k, rfl⟩ : ∃ m, k = m + 1 := ⟨k - 1, by omega⟩
  obtain ⟨b, _, hb⟩ := hist_same l hl
  obtain ⟨h1, h2⟩ := hb (k + 1) (by omega)
  unfold spec_MostOf.f impl_MostOf.f
  rw [h1, h2]
  simp only [Option.bind_some, in_eq]
  cases b with
  | false => exact ⟨0, by simp [spec_MostOf.j0], by simp [impl_MostOf.j0]⟩
  | true =>
    have ht : Timed l := by
      have h1' := h1
      unfold spec_l09History.f at h1'
      by_cases h200 : (l.length : Int) > 200
      · rw [if_pos h200] at h1'; simp at h1'
      · rw [if_neg h200] at h1'
        exact fun i hi => spec_timed l hl l.length 0 (k + 1) (by omega) h1' i (by omega) hi
    by_cases c1 : span < 1
    · refine ⟨0, ?_, ?_⟩
      · simp [spec_MostOf.j0, c1]
      · have : ¬ (1 ≤ span ∧ span ≤ 1000000) := by omega
        simp [impl_MostOf.j0, this]
    · by_cases c2 : span > 1000000
      · refine ⟨0, ?_, ?_⟩
        · simp [spec_MostOf.j0, c1, c2]
        · have : ¬ (1 ≤ span ∧ span ≤ 1000000) := by omega
          simp [impl_MostOf.j0, this]
      · have hin : 1 ≤ span ∧ span ≤ 1000000 := by omega
        have c2' : ¬ 1000000 < span := by omega
        by_cases c3 : now < 0
        · refine ⟨0, ?_, ?_⟩
          · have := most_late l hl ht span now c3 l.length k 0 (by omega) (by omega) (by omega)
            simp only [if_true, c1, if_false, spec_MostOf.j0, c2, decide_false, Bool.false_eq_true]
            exact this
          · simp [impl_MostOf.j0, hin, c3]
        · obtain ⟨v, h3, h4⟩ := most_loops l hl ht span now (by omega) (by omega) (by omega) hn1 l.length k 0 0 (by omega) (by omega) (by omega)
          refine ⟨v, ?_, ?_⟩
          · simp only [if_true, c1, if_false, spec_MostOf.j0, c2, decide_false, Bool.false_eq_true]
            exact h3
          · simp only [if_true, hin, and_self, decide_true, impl_MostOf.j0, c3, decide_false, Bool.false_eq_true, if_false]
            exact h4

theorem FnExactMostOf : BridgeFnExactMostOf.Pure := by
  intro l span now hl _ _ hnow
  refine ⟨l.length + 10, ?_⟩
  unfold laws_FnExactMostOf.f
  rw [szMarkS_eq l hl]
  simp only [Option.bind_some]
  by_cases hsz : l.length ≤ 1048576
  · rw [if_pos hsz, if_neg (by omega), toMarkS_eq l hl _ (by omega)]
    simp only [Option.bind_some]
    obtain ⟨v, h1, h2⟩ := most_same (l.map convMark) (by simp; omega) span now (i64_range hnow).2 (l.length + 10) (by simp)
    rw [h1, h2]
    simp only [Option.bind_some, if_true]
    rw [eqMarkS_same _ (by simp; omega) _ (by simp)]
    simp
  · rw [if_neg hsz, if_pos (by omega)]

end Go.Proofs.Ytnekamdopfielaa.Pure
