/- WindowMost answers as the reference does, for every Window and time, and leaves its argument. Conditions: none beyond the statement's own bounds. -/
import Derived.Test.YtnekamdopfielaaBridgeFnExactWindowMost
namespace Go.Proofs.Ytnekamdopfielaa.Pure
open Go.RowKit Go.Proofs.Ytnekamdopfielaa.PFnExactWindowMost Go.Proofs.Ytnekamdopfielaa.BridgeFnExactWindowMost Go.Proofs.YtnekamdopfielaaW.PrintWords Go.Proofs.YtnekamdopfielaaW.PrintLast Go.Proofs.YtnekamdopfielaaW.PrintMore
set_option linter.unusedVariables false
set_option linter.unusedSimpArgs false

theorem wrap_small {x : Int} (h0 : -9223372036854775808 ≤ x) (h1 : x ≤ 9223372036854775807) : wrap64 x = x := by
  unfold wrap64
  omega
theorem i64_range {x : Int} (h : (Lit.int .i64 x).wf = true) : -9223372036854775808 ≤ x ∧ x ≤ 9223372036854775807 := by
  simp [Lit.wf, IntKind.min, IntKind.max, IntKind.bits, IntKind.signed] at h
  omega
theorem u64_range {x : Int} (h : (Lit.int .u64 x).wf = true) : 0 ≤ x ∧ x < 18446744073709551616 := by
  simp [Lit.wf, IntKind.min, IntKind.max, IntKind.bits, IntKind.signed] at h
  omega

theorem in_eq (a b c : Int) : impl_in.f a b c = some (decide (b ≤ a ∧ a ≤ c)) := by
  unfold impl_in.f
  by_cases h : b ≤ a <;> simp [h]

theorem isWant_eq (a : Int) : impl_isWant.f a = some (decide (0 ≤ a ∧ a ≤ 1125899906842624)) := by simp [impl_isWant.f, in_eq]

theorem l02Want_eq (a : Int) : spec_l02Want.f a = some (decide (0 ≤ a ∧ a ≤ 1125899906842624)) := by
  unfold spec_l02Want.f
  by_cases h : a ≥ 0
  · rw [if_pos h]; simp; omega
  · rw [if_neg h]; simp; omega

theorem isTime_eq (a : Int) : impl_isTime.f a = some (decide (0 ≤ a ∧ a ≤ 1000000)) := by simp [impl_isTime.f, in_eq]
theorem l07Time_eq (a : Int) : spec_l07Time.f a = some (decide (0 ≤ a ∧ a ≤ 1000000)) := by
  unfold spec_l07Time.f
  by_cases h : a ≥ 0
  · rw [if_pos h]; simp; omega
  · rw [if_neg h]; simp; omega

theorem set_fill {α β : Type} (l : List α) (f : α → β) (z : β) (i : Nat) (h : i < l.length) : ((l.take i).map f ++ List.replicate (l.length - i) z).set i (f l[i]) = (l.take (i + 1)).map f ++ List.replicate (l.length - (i + 1)) z := by
  have e : l.length - i = (l.length - (i + 1)) + 1 := by omega
  have hl : ((l.take i).map f).length = i := by simp; omega
  rw [e, List.replicate_succ, List.set_append_right i (f l[i]) (by omega), hl, Nat.sub_self, List.set_cons_zero, List.take_succ_eq_append_getElem h, List.map_append]
  simp
theorem succ_cast (i : Nat) (h : i < 9223372036854775807) : wrap64 ((i : Int) + 1) = ((i + 1 : Nat) : Int) := by
  rw [wrap_small (by omega) (by omega)]
  omega

theorem pred_cast (i : Nat) (h : 0 < i) (h2 : i < 9223372036854775807) : wrap64 ((i : Int) - 1) = ((i - 1 : Nat) : Int) := by
  rw [wrap_small (by omega) (by omega)]
  omega

theorem rd104 (xs : List S104) (i : Nat) (h : i < xs.length) : rd_T104 xs (i : Int) = xs[i] := by
  unfold rd_T104
  rw [Int.toNat_natCast, List.getD_eq_getElem?_getD, List.getElem?_eq_getElem h]
  rfl

theorem rd99 (xs : List S99) (i : Nat) (h : i < xs.length) : rd_T99 xs (i : Int) = xs[i] := by
  unfold rd_T99
  rw [Int.toNat_natCast, List.getD_eq_getElem?_getD, List.getElem?_eq_getElem h]
  rfl

def convMark (x : S104) : S99 := ⟨x.f0, x.f1⟩
theorem toMarkS_loop (l : List S104) (hl : l.length * 16 ≤ 140737488351232) : ∀ (d k i : Nat), l.length - i = d → i ≤ l.length → d < k → laws_toMarkS.l0 k l ((l.take i).map convMark ++ List.replicate (l.length - i) z99) (i : Int) = some (l.map convMark) := by
  intro d
  induction d with
  | zero =>
    intro k i hd hi hk
    obtain ⟨k, rfl⟩ : ∃ m, k = m + 1 := ⟨k - 1, by omega⟩
    obtain rfl : i = l.length := by omega
    simp only [laws_toMarkS.l0]
    rw [if_neg (by omega)]
    simp
  | succ d ih =>
    intro k i hd hi hk
    obtain ⟨k, rfl⟩ : ∃ m, k = m + 1 := ⟨k - 1, by omega⟩
    have hlt : i < l.length := by omega
    simp only [laws_toMarkS.l0]
    rw [if_pos (by omega), if_pos (by omega)]
    simp only [laws_toMark.f, Option.bind_some, rd104 l i hlt]
    rw [if_pos (by simp; omega), Int.toNat_natCast, succ_cast i (by omega)]
    have e := set_fill l convMark z99 i hlt
    rw [show (⟨l[i].f0, l[i].f1⟩ : S99) = convMark l[i] from rfl, e]
    exact ih k (i + 1) (by omega) (by omega) (by omega)
theorem toMarkS_eq (l : List S104) (hl : l.length * 16 ≤ 140737488351232) (k : Nat) (hk : l.length < k) : laws_toMarkS.f k l = some (l.map convMark) := by
  unfold laws_toMarkS.f
  rw [if_pos (by omega), if_pos (by simp; omega)]
  have h := toMarkS_loop l hl l.length k 0 (by omega) (by omega) hk
  simpa using h

theorem eqMark_same (x : S99) : laws_eqMark.f (x.f0) (x.f1) (x.f0) (x.f1) = some true := by simp [laws_eqMark.f]
theorem eqMarkS_loop (l : List S99) (hl : l.length < 9223372036854775807) : ∀ (d k i : Nat), l.length - i = d → i ≤ l.length → d < k → laws_eqMarkS.l0 k l l (i : Int) = some true := by
  intro d
  induction d with
  | zero =>
    intro k i hd hi hk
    obtain ⟨k, rfl⟩ : ∃ m, k = m + 1 := ⟨k - 1, by omega⟩
    simp only [laws_eqMarkS.l0]
    rw [if_neg (by omega)]
  | succ d ih =>
    intro k i hd hi hk
    obtain ⟨k, rfl⟩ : ∃ m, k = m + 1 := ⟨k - 1, by omega⟩
    have hlt : i < l.length := by omega
    simp only [laws_eqMarkS.l0]
    rw [if_pos (by omega), if_pos (by omega), if_pos (by omega), eqMark_same]
    simp only [Option.bind_some, if_true]
    rw [succ_cast i (by omega)]
    exact ih k (i + 1) (by omega) (by omega) (by omega)
theorem eqMarkS_same (l : List S99) (hl : l.length < 9223372036854775807) (k : Nat) (hk : l.length < k) : laws_eqMarkS.f k l l = some true := by
  unfold laws_eqMarkS.f
  rw [if_pos rfl]
  exact eqMarkS_loop l hl l.length k 0 (by omega) (by omega) hk

theorem szMarkS_eq (l : List S104) (hl : l.length * 16 ≤ 140737488351232) : laws_szMarkS.f l 1048576 = some (if l.length ≤ 1048576 then 1048576 - (l.length : Int) else -1) := by
  unfold laws_szMarkS.f
  rw [wrap_small (by omega) (by omega)]
  by_cases h : l.length ≤ 1048576
  · rw [if_neg (by omega), if_pos h]
  · rw [if_pos (by omega), if_neg h]

/-- What a right window asks of its Mark i. -/
def MarkOK (span now cap : Int) (l : List S99) (i : Nat) : Prop :=
  (0 ≤ (rd_T99 l i).f0 ∧ now - span < (rd_T99 l i).f0 ∧ (rd_T99 l i).f0 < now) ∧ (0 ≤ (rd_T99 l i).f1 ∧ (rd_T99 l i).f1 ≤ 1125899906842624) ∧ cap < (rd_T99 l i).f1 ∧
  (0 < i → (rd_T99 l ((i - 1 : Nat) : Int)).f0 < (rd_T99 l i).f0 ∧ (rd_T99 l i).f1 < (rd_T99 l ((i - 1 : Nat) : Int)).f1)
theorem win_loops (l : List S99) (hl : l.length < 9223372036854775807) (span now cap : Int) (hs : 1 ≤ span ∧ span ≤ 1000000) (hn : 0 ≤ now ∧ now ≤ 1000000) : ∀ (d i : Nat), l.length - i = d → i ≤ l.length → ∃ b, (b = true → ∀ j, i ≤ j → j < l.length → MarkOK span now cap l j) ∧ ∀ k, 2 * d < k → spec_WindowRight.l0 k (i : Int) span now cap l = some b ∧ impl_WindowRight.l0 k l (l.length : Int) (i : Int) span now cap l = some b := by
  intro d
  induction d with
  | zero =>
    intro i hd hi
    refine ⟨true, fun _ j h1 h2 => by omega, fun k hk => ?_⟩
    obtain ⟨k, rfl⟩ : ∃ m, k = m + 1 := ⟨k - 1, by omega⟩
    refine ⟨?_, ?_⟩
    · simp only [spec_WindowRight.l0]; rw [if_neg (by omega)]
    · simp only [impl_WindowRight.l0]; rw [if_neg (by omega)]
  | succ d ih =>
    intro i hd hi
    obtain ⟨b, hbm, hb⟩ := ih (i + 1) (by omega) (by omega)
    have a1 : (i : Int) < (l.length : Int) := by omega
    have a2 : (0 : Int) ≤ (i : Int) := by omega
    have e1 : wrap64 (now - span) = now - span := wrap_small (by omega) (by omega)
    have e2 : wrap64 (now - span + 1) = now - span + 1 := wrap_small (by omega) (by omega)
    have e3 : wrap64 (now - 1) = now - 1 := wrap_small (by omega) (by omega)
    have no : ∀ P : Prop, (false = true → P) := fun P h => by cases h
    by_cases hA : 0 ≤ (rd_T99 l i).f0 ∧ now - span < (rd_T99 l i).f0 ∧ (rd_T99 l i).f0 < now
    · have c1 : ¬ (rd_T99 l i).f0 < 0 := by omega
      have c2 : ¬ (rd_T99 l i).f0 ≤ now - span := by omega
      have c3 : ¬ (rd_T99 l i).f0 ≥ now := by omega
      have c4 : mx (now - span + 1) 0 ≤ (rd_T99 l i).f0 ∧ (rd_T99 l i).f0 ≤ now - 1 := by unfold mx; split <;> omega
      by_cases hB : 0 ≤ (rd_T99 l i).f1 ∧ (rd_T99 l i).f1 ≤ 1125899906842624
      · by_cases hC : (rd_T99 l i).f1 ≤ cap
        · refine ⟨false, no _, fun k hk => ?_⟩
          obtain ⟨k, rfl⟩ : ∃ m, k = m + 2 := ⟨k - 2, by omega⟩
          simp only [spec_WindowRight.l0, impl_WindowRight.l0, a1, a2, if_true, if_false, e1, e2, e3, c1, c2, c3, in_eq, c4, l02Want_eq, isWant_eq, hB, and_self, decide_true, Option.bind_some, hC, spec_WindowRight.j2, impl_WindowRight.j2]
        · by_cases h0 : (i : Int) > 0
          · have a3 : (0 : Int) ≤ ((i - 1 : Nat) : Int) := by omega
            have a4 : ((i - 1 : Nat) : Int) < (l.length : Int) := by omega
            by_cases hD : (rd_T99 l i).f0 ≤ (rd_T99 l ((i - 1 : Nat) : Int)).f0
            · have hD' : (rd_T99 l ((i - 1 : Nat) : Int)).f0 ≥ (rd_T99 l i).f0 := hD
              refine ⟨false, no _, fun k hk => ?_⟩
              obtain ⟨k, rfl⟩ : ∃ m, k = m + 2 := ⟨k - 2, by omega⟩
              simp only [spec_WindowRight.l0, impl_WindowRight.l0, a1, a2, if_true, if_false, e1, e2, e3, c1, c2, c3, in_eq, c4, l02Want_eq, isWant_eq, hB, and_self, decide_true, Option.bind_some, hC, decide_false, Bool.false_eq_true, spec_WindowRight.j2, impl_WindowRight.j2, h0, pred_cast i (by omega) (by omega), a3, a4, hD, hD']
            · have hD' : ¬ (rd_T99 l ((i - 1 : Nat) : Int)).f0 ≥ (rd_T99 l i).f0 := hD
              by_cases hE : (rd_T99 l i).f1 ≥ (rd_T99 l ((i - 1 : Nat) : Int)).f1
              · have hE' : (rd_T99 l ((i - 1 : Nat) : Int)).f1 ≤ (rd_T99 l i).f1 := hE
                refine ⟨false, no _, fun k hk => ?_⟩
                obtain ⟨k, rfl⟩ : ∃ m, k = m + 2 := ⟨k - 2, by omega⟩
                simp only [spec_WindowRight.l0, impl_WindowRight.l0, a1, a2, if_true, if_false, e1, e2, e3, c1, c2, c3, in_eq, c4, l02Want_eq, isWant_eq, hB, and_self, decide_true, Option.bind_some, hC, decide_false, Bool.false_eq_true, spec_WindowRight.j2, impl_WindowRight.j2, h0, pred_cast i (by omega) (by omega), a3, a4, hD, hD', hE, hE']
              · have hE' : ¬ (rd_T99 l ((i - 1 : Nat) : Int)).f1 ≤ (rd_T99 l i).f1 := hE
                refine ⟨b, fun hbt j h1 h2 => ?_, fun k hk => ?_⟩
                · by_cases hj : j = i
                  · rw [hj]; exact ⟨hA, hB, by omega, fun _ => ⟨by omega, by omega⟩⟩
                  · exact hbm hbt j (by omega) h2
                · obtain ⟨k, rfl⟩ : ∃ m, k = m + 2 := ⟨k - 2, by omega⟩
                  obtain ⟨h1, h2⟩ := hb k (by omega)
                  simp only [spec_WindowRight.l0, impl_WindowRight.l0, a1, a2, if_true, if_false, e1, e2, e3, c1, c2, c3, in_eq, c4, l02Want_eq, isWant_eq, hB, and_self, decide_true, Option.bind_some, hC, decide_false, Bool.false_eq_true, spec_WindowRight.j2, impl_WindowRight.j2, h0, pred_cast i (by omega) (by omega), a3, a4, hD, hD', hE, hE', succ_cast i (by omega), h1, h2]
          · refine ⟨b, fun hbt j h1 h2 => ?_, fun k hk => ?_⟩
            · by_cases hj : j = i
              · rw [hj]; exact ⟨hA, hB, by omega, fun h => absurd h (by omega)⟩
              · exact hbm hbt j (by omega) h2
            · obtain ⟨k, rfl⟩ : ∃ m, k = m + 2 := ⟨k - 2, by omega⟩
              obtain ⟨h1, h2⟩ := hb k (by omega)
              simp only [spec_WindowRight.l0, impl_WindowRight.l0, a1, a2, if_true, if_false, e1, e2, e3, c1, c2, c3, in_eq, c4, l02Want_eq, isWant_eq, hB, and_self, decide_true, Option.bind_some, hC, decide_false, Bool.false_eq_true, spec_WindowRight.j2, impl_WindowRight.j2, h0, succ_cast i (by omega), h1, h2]
      · refine ⟨false, no _, fun k hk => ?_⟩
        obtain ⟨k, rfl⟩ : ∃ m, k = m + 2 := ⟨k - 2, by omega⟩
        simp only [spec_WindowRight.l0, impl_WindowRight.l0, a1, a2, if_true, if_false, e1, e2, e3, c1, c2, c3, in_eq, c4, l02Want_eq, isWant_eq, hB, and_self, decide_true, decide_false, Bool.false_eq_true, Option.bind_some, spec_WindowRight.j2, impl_WindowRight.j2]
    · have c4 : ¬ (mx (now - span + 1) 0 ≤ (rd_T99 l i).f0 ∧ (rd_T99 l i).f0 ≤ now - 1) := by unfold mx; split <;> omega
      refine ⟨false, no _, fun k hk => ?_⟩
      obtain ⟨k, rfl⟩ : ∃ m, k = m + 2 := ⟨k - 2, by omega⟩
      by_cases c1 : (rd_T99 l i).f0 < 0
      · simp only [spec_WindowRight.l0, impl_WindowRight.l0, a1, a2, if_true, if_false, e1, e2, e3, c1, in_eq, c4, decide_false, Bool.false_eq_true, Option.bind_some, spec_WindowRight.j2, impl_WindowRight.j2]
        all_goals exact ⟨trivial, trivial⟩
      · by_cases c2 : (rd_T99 l i).f0 ≤ now - span
        · simp only [spec_WindowRight.l0, impl_WindowRight.l0, a1, a2, if_true, if_false, e1, e2, e3, c1, c2, in_eq, c4, decide_false, Bool.false_eq_true, Option.bind_some, spec_WindowRight.j2, impl_WindowRight.j2]
          all_goals exact ⟨trivial, trivial⟩
        · have c3 : (rd_T99 l i).f0 ≥ now := by omega
          simp only [spec_WindowRight.l0, impl_WindowRight.l0, a1, a2, if_true, if_false, e1, e2, e3, c1, c2, c3, in_eq, c4, decide_false, Bool.false_eq_true, Option.bind_some, spec_WindowRight.j2, impl_WindowRight.j2]
          all_goals exact ⟨trivial, trivial⟩
/-- A right window. -/
def WinOK (span now cap : Int) (l : List S99) : Prop := (1 ≤ span ∧ span ≤ 1000000) ∧ (0 ≤ now ∧ now ≤ 1000000) ∧ (0 ≤ cap ∧ cap ≤ 1125899906842624) ∧ l.length ≤ 200 ∧ ∀ j, j < l.length → MarkOK span now cap l j
theorem win_same (l : List S99) (hl : l.length < 9223372036854775807) (span now cap : Int) : ∃ b, (b = true → WinOK span now cap l) ∧ ∀ k, 2 * l.length + 1 < k → spec_WindowRight.f k span now cap l = some b ∧ impl_WindowRight.f k span now cap l = some b := by
  have no : ∀ P : Prop, (false = true → P) := fun P h => by cases h
  by_cases hs : 1 ≤ span ∧ span ≤ 1000000
  · have s1 : ¬ span < 1 := by omega
    have s2 : ¬ span > 1000000 := by omega
    by_cases hn : 0 ≤ now ∧ now ≤ 1000000
    · by_cases hc : 0 ≤ cap ∧ cap ≤ 1125899906842624
      · by_cases hL : (l.length : Int) > 200
        · refine ⟨false, no _, fun k hk => ?_⟩
          obtain ⟨k, rfl⟩ : ∃ m, k = m + 1 := ⟨k - 1, by omega⟩
          simp only [spec_WindowRight.f, impl_WindowRight.f, s1, s2, if_false, l07Time_eq, hn, l02Want_eq, hc, and_self, decide_true, Option.bind_some, if_true, in_eq, hs, isTime_eq, isWant_eq, hL, spec_WindowRight.j0, impl_WindowRight.j0]
        · obtain ⟨b, hbm, hb⟩ := win_loops l hl span now cap hs hn l.length 0 (by omega) (by omega)
          refine ⟨b, fun hbt => ⟨hs, hn, hc, by omega, fun j hj => hbm hbt j (by omega) hj⟩, fun k hk => ?_⟩
          obtain ⟨k, rfl⟩ : ∃ m, k = m + 1 := ⟨k - 1, by omega⟩
          obtain ⟨h1, h2⟩ := hb k (by omega)
          simp only [spec_WindowRight.f, impl_WindowRight.f, s1, s2, if_false, l07Time_eq, hn, l02Want_eq, hc, and_self, decide_true, Option.bind_some, if_true, in_eq, hs, isTime_eq, isWant_eq, hL, decide_false, Bool.false_eq_true, spec_WindowRight.j0, impl_WindowRight.j0]
          exact ⟨h1, h2⟩
      · refine ⟨false, no _, fun k hk => ?_⟩
        obtain ⟨k, rfl⟩ : ∃ m, k = m + 1 := ⟨k - 1, by omega⟩
        simp only [spec_WindowRight.f, impl_WindowRight.f, s1, s2, if_false, l07Time_eq, hn, l02Want_eq, hc, and_self, decide_true, decide_false, Bool.false_eq_true, Option.bind_some, if_true, in_eq, hs, isTime_eq, isWant_eq, spec_WindowRight.j0, impl_WindowRight.j0]
    · refine ⟨false, no _, fun k hk => ?_⟩
      obtain ⟨k, rfl⟩ : ∃ m, k = m + 1 := ⟨k - 1, by omega⟩
      simp only [spec_WindowRight.f, impl_WindowRight.f, s1, s2, if_false, l07Time_eq, hn, and_self, decide_true, decide_false, Bool.false_eq_true, Option.bind_some, if_true, in_eq, hs, isTime_eq, spec_WindowRight.j0, impl_WindowRight.j0]
  · refine ⟨false, no _, fun k hk => ?_⟩
    obtain ⟨k, rfl⟩ : ∃ m, k = m + 1 := ⟨k - 1, by omega⟩
    by_cases s1 : span < 1
    · simp only [spec_WindowRight.f, impl_WindowRight.f, s1, if_true, in_eq, hs, decide_false, Bool.false_eq_true, if_false, Option.bind_some, spec_WindowRight.j0, impl_WindowRight.j0]
      all_goals exact ⟨trivial, trivial⟩
    · have s2 : span > 1000000 := by omega
      simp only [spec_WindowRight.f, impl_WindowRight.f, s1, s2, if_true, in_eq, hs, decide_false, Bool.false_eq_true, if_false, Option.bind_some, spec_WindowRight.j0, impl_WindowRight.j0]
      all_goals exact ⟨trivial, trivial⟩
theorem szWindow_eq (a b c : Int) (l : List S104) (hl : l.length * 16 ≤ 140737488351232) : laws_szWindow.f a b c l 1048576 = some (if l.length ≤ 1048576 then 1048576 - (l.length : Int) else -1) := by
  unfold laws_szWindow.f
  rw [szMarkS_eq l hl]
  simp only [Option.bind_some]
  by_cases h : l.length ≤ 1048576
  · rw [if_pos h, if_neg (by omega)]
  · rw [if_neg h, if_pos (by omega)]
theorem toWindow_eq (a b c : Int) (l : List S104) (hl : l.length * 16 ≤ 140737488351232) (k : Nat) (hk : l.length < k) : laws_toWindow.f k a b c l = some (a, b, c, l.map convMark) := by
  unfold laws_toWindow.f
  rw [toMarkS_eq l hl k hk]
  rfl
theorem eqWindow_same (a b c : Int) (l : List S99) (hl : l.length < 9223372036854775807) (k : Nat) (hk : l.length < k) : laws_eqWindow.f k a b c l a b c l = some true := by
  unfold laws_eqWindow.f
  rw [if_pos rfl, if_pos rfl, if_pos rfl, eqMarkS_same l hl k hk]
  rfl

theorem winmost_loops (l : List S99) (hl : l.length < 9223372036854775807) (span now cap x : Int) (hw : WinOK span now cap l) (hx0 : 0 ≤ x) (hx1 : x ≤ 9223372036854775807) : ∀ (d k i : Nat), l.length - i = d → i ≤ l.length → d < k → ∃ v, spec_WindowMost.l0 k x (i : Int) span now cap l = some v ∧ impl_WindowMost.l0 k x l (l.length : Int) (i : Int) span now cap l = some v := by
  intro d
  induction d with
  | zero =>
    intro k i hd hi hk
    obtain ⟨k, rfl⟩ : ∃ m, k = m + 1 := ⟨k - 1, by omega⟩
    refine ⟨cap, ?_, ?_⟩
    · simp only [spec_WindowMost.l0]; rw [if_neg (by omega)]
    · simp only [impl_WindowMost.l0]; rw [if_neg (by omega)]
  | succ d ih =>
    intro k i hd hi hk
    obtain ⟨k, rfl⟩ : ∃ m, k = m + 1 := ⟨k - 1, by omega⟩
    have a1 : (i : Int) < (l.length : Int) := by omega
    have a2 : (0 : Int) ≤ (i : Int) := by omega
    have hm := (hw.2.2.2.2 i (by omega)).1
    have hs := hw.1
    have hn := hw.2.1
    have e1 : wrap64 (x - (rd_T99 l i).f0) = x - (rd_T99 l i).f0 := wrap_small (by omega) (by omega)
    have e2 : wrap64 (x - span) = x - span := wrap_small (by omega) (by omega)
    obtain ⟨v, h1, h2⟩ := ih k (i + 1) (by omega) (by omega) (by omega)
    simp only [spec_WindowMost.l0, impl_WindowMost.l0, a1, a2, if_true, e1, e2, succ_cast i (by omega), h1, h2]
    by_cases c : x - (rd_T99 l i).f0 < span
    · have c' : (rd_T99 l i).f0 > x - span := by omega
      simp only [c, c', if_true]
      exact ⟨_, rfl, rfl⟩
    · have c' : ¬ (rd_T99 l i).f0 > x - span := by omega
      simp only [c, c', if_false]
      exact ⟨_, rfl, rfl⟩
theorem winmost_same (l : List S99) (hl : l.length < 9223372036854775807) (span now cap x : Int) (hx1 : x ≤ 9223372036854775807) (k : Nat) (hk : 2 * l.length + 2 < k) : ∃ v, spec_WindowMost.f k span now cap l x = some v ∧ impl_WindowMost.f k span now cap l x = some v := by
  obtain ⟨b, hbm, hb⟩ := win_same l hl span now cap
  obtain ⟨h1, h2⟩ := hb k (by omega)
  obtain ⟨k, rfl⟩ : ∃ m, k = m + 1 := ⟨k - 1, by omega⟩
  unfold spec_WindowMost.f impl_WindowMost.f
  rw [h1, h2]
  simp only [Option.bind_some]
  cases b with
  | false => exact ⟨0, by simp [spec_WindowMost.j0], by simp [impl_WindowMost.j0]⟩
  | true =>
    have hw := hbm rfl
    by_cases c : x < now
    · exact ⟨0, by simp [spec_WindowMost.j0, c], by simp [impl_WindowMost.j0, c]⟩
    · obtain ⟨v, h3, h4⟩ := winmost_loops l hl span now cap x hw (by have := hw.2.1; omega) hx1 l.length k 0 (by omega) (by omega) (by omega)
      refine ⟨v, ?_, ?_⟩
      · simp only [if_true, spec_WindowMost.j0, c, decide_false, Bool.false_eq_true, if_false]
        exact h3
      · simp only [if_true, impl_WindowMost.j0, c, decide_false, Bool.false_eq_true, if_false]
        exact h4

theorem FnExactWindowMost : BridgeFnExactWindowMost.Pure := by
  intro span now cap l x _ _ _ hl _ hx
  refine ⟨2 * l.length + 10, ?_⟩
  unfold laws_FnExactWindowMost.f
  rw [szWindow_eq span now cap l hl]
  simp only [Option.bind_some]
  by_cases hsz : l.length ≤ 1048576
  · rw [if_pos hsz, if_neg (by omega), toWindow_eq span now cap l hl _ (by omega)]
    simp only [Option.bind_some]
    obtain ⟨v, h1, h2⟩ := winmost_same (l.map convMark) (by simp; omega) span now cap x (i64_range hx).2 (2 * l.length + 10) (by simp)
    rw [h1, h2]
    simp only [Option.bind_some, if_true]
    rw [eqWindow_same span now cap _ (by simp; omega) _ (by simp; omega)]
    simp
  · rw [if_neg hsz, if_pos (by omega)]

end Go.Proofs.Ytnekamdopfielaa.Pure
