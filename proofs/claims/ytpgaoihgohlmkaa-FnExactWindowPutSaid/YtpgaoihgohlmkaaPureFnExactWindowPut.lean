/- WindowPut answers as the reference does, for every Window and every Mark, keeps nothing of its argument and owns its answer. Conditions: none beyond the statement's own bounds. -/
import Derived.Test.YtpgaoihgohlmkaaBridgeFnExactWindowPut
namespace Go.Proofs.Ytpgaoihgohlmkaa.Pure
open Go.RowKit Go.Proofs.Ytpgaoihgohlmkaa.XFnExactWindowPut Go.Proofs.Ytpgaoihgohlmkaa.BridgeFnExactWindowPut Go.Proofs.YtpgaoihgohlmkaaW.PrintWords Go.Proofs.YtpgaoihgohlmkaaW.PrintLast Go.Proofs.YtpgaoihgohlmkaaW.PrintMore
set_option linter.unusedVariables false
set_option linter.unusedSimpArgs false

theorem wrap_small {x : Int} (h0 : -9223372036854775808 ≤ x) (h1 : x ≤ 9223372036854775807) : wrap64 x = x := by
  unfold wrap64
  omega
theorem i64_range {x : Int} (h : (Lit.int .i64 x).wf = true) : -9223372036854775808 ≤ x ∧ x ≤ 9223372036854775807 := by
  simp [Lit.wf, IntKind.min, IntKind.max, IntKind.bits, IntKind.signed] at h
  omega
theorem u64_range {x : Int} (h : (Lit.int .u64 x).wf = true) : 0 ≤ x ∧ x < 18446744073709551616 := by
  simp [Lit.wf, IntKind.min, IntKind.max, IntKind.bits, IntKind.signed] at h
  omega

theorem in_eq (a b c : Int) : impl_in.f a b c = some (decide (b ≤ a ∧ a ≤ c)) := by
  unfold impl_in.f
  by_cases h : b ≤ a <;> simp [h]

theorem isWant_eq (a : Int) : impl_isWant.f a = some (decide (0 ≤ a ∧ a ≤ 1125899906842624)) := by simp [impl_isWant.f, in_eq]

theorem l02Want_eq (a : Int) : spec_l02Want.f a = some (decide (0 ≤ a ∧ a ≤ 1125899906842624)) := by
  unfold spec_l02Want.f
  by_cases h : a ≥ 0
  · rw [if_pos h]; simp; omega
  · rw [if_neg h]; simp; omega

theorem isTime_eq (a : Int) : impl_isTime.f a = some (decide (0 ≤ a ∧ a ≤ 1000000)) := by simp [impl_isTime.f, in_eq]
theorem l07Time_eq (a : Int) : spec_l07Time.f a = some (decide (0 ≤ a ∧ a ≤ 1000000)) := by
  unfold spec_l07Time.f
  by_cases h : a ≥ 0
  · rw [if_pos h]; simp; omega
  · rw [if_neg h]; simp; omega

theorem set_fill {α β : Type} (l : List α) (f : α → β) (z : β) (i : Nat) (h : i < l.length) : ((l.take i).map f ++ List.replicate (l.length - i) z).set i (f l[i]) = (l.take (i + 1)).map f ++ List.replicate (l.length - (i + 1)) z := by
  have e : l.length - i = (l.length - (i + 1)) + 1 := by omega
  have hl : ((l.take i).map f).length = i := by simp; omega
  rw [e, List.replicate_succ, List.set_append_right i (f l[i]) (by omega), hl, Nat.sub_self, List.set_cons_zero, List.take_succ_eq_append_getElem h, List.map_append]
  simp
theorem succ_cast (i : Nat) (h : i < 9223372036854775807) : wrap64 ((i : Int) + 1) = ((i + 1 : Nat) : Int) := by
  rw [wrap_small (by omega) (by omega)]
  omega

theorem pred_cast (i : Nat) (h : 0 < i) (h2 : i < 9223372036854775807) : wrap64 ((i : Int) - 1) = ((i - 1 : Nat) : Int) := by
  rw [wrap_small (by omega) (by omega)]
  omega

theorem rd26 (xs : List S26) (i : Nat) (h : i < xs.length) : rd_T26 xs (i : Int) = xs[i] := by
  unfold rd_T26
  rw [Int.toNat_natCast, List.getD_eq_getElem?_getD, List.getElem?_eq_getElem h]
  rfl

theorem rd33 (xs : List S33) (i : Nat) (h : i < xs.length) : rd_T33 xs (i : Int) = xs[i] := by
  unfold rd_T33
  rw [Int.toNat_natCast, List.getD_eq_getElem?_getD, List.getElem?_eq_getElem h]
  rfl

def convMark (x : S26) : S33 := ⟨x.f0, x.f1⟩
theorem toMarkS_loop (l : List S26) (hl : l.length * 16 ≤ 140737488351232) : ∀ (d k i : Nat), l.length - i = d → i ≤ l.length → d < k → laws_toMarkS.l0 k l ((l.take i).map convMark ++ List.replicate (l.length - i) z33) (i : Int) = some (l.map convMark) := by
  intro d
  induction d with
  | zero =>
    intro k i hd hi hk
    obtain ⟨k, rfl⟩ : ∃ m, k = m + 1 := ⟨k - 1, by omega⟩
    obtain rfl : i = l.length := by omega
    simp only [laws_toMarkS.l0]
    rw [if_neg (by omega)]
    simp
  | succ d ih =>
    intro k i hd hi hk
    obtain ⟨k, rfl⟩ : ∃ m, k = m + 1 := ⟨k - 1, by omega⟩
    have hlt : i < l.length := by omega
    simp only [laws_toMarkS.l0]
    rw [if_pos (by omega), if_pos (by omega)]
    simp only [laws_toMark.f, Option.bind_some, rd26 l i hlt]
    rw [if_pos (by simp; omega), Int.toNat_natCast, succ_cast i (by omega)]
    have e := set_fill l convMark z33 i hlt
    rw [show (⟨l[i].f0, l[i].f1⟩ : S33) = convMark l[i] from rfl, e]
    exact ih k (i + 1) (by omega) (by omega) (by omega)
theorem toMarkS_eq (l : List S26) (hl : l.length * 16 ≤ 140737488351232) (k : Nat) (hk : l.length < k) : laws_toMarkS.f k l = some (l.map convMark) := by
  unfold laws_toMarkS.f
  rw [if_pos (by omega), if_pos (by simp; omega)]
  have h := toMarkS_loop l hl l.length k 0 (by omega) (by omega) hk
  simpa using h

theorem eqMark_same (x : S33) : laws_eqMark.f (x.f0) (x.f1) (x.f0) (x.f1) = some true := by simp [laws_eqMark.f]
theorem eqMarkS_loop (l : List S33) (hl : l.length < 9223372036854775807) : ∀ (d k i : Nat), l.length - i = d → i ≤ l.length → d < k → laws_eqMarkS.l0 k l l (i : Int) = some true := by
  intro d
  induction d with
  | zero =>
    intro k i hd hi hk
    obtain ⟨k, rfl⟩ : ∃ m, k = m + 1 := ⟨k - 1, by omega⟩
    simp only [laws_eqMarkS.l0]
    rw [if_neg (by omega)]
  | succ d ih =>
    intro k i hd hi hk
    obtain ⟨k, rfl⟩ : ∃ m, k = m + 1 := ⟨k - 1, by omega⟩
    have hlt : i < l.length := by omega
    simp only [laws_eqMarkS.l0]
    rw [if_pos (by omega), if_pos (by omega), if_pos (by omega), eqMark_same]
    simp only [Option.bind_some, if_true]
    rw [succ_cast i (by omega)]
    exact ih k (i + 1) (by omega) (by omega) (by omega)
theorem eqMarkS_same (l : List S33) (hl : l.length < 9223372036854775807) (k : Nat) (hk : l.length < k) : laws_eqMarkS.f k l l = some true := by
  unfold laws_eqMarkS.f
  rw [if_pos rfl]
  exact eqMarkS_loop l hl l.length k 0 (by omega) (by omega) hk

theorem szMarkS_eq (l : List S26) (hl : l.length * 16 ≤ 140737488351232) : laws_szMarkS.f l 1048576 = some (if l.length ≤ 1048576 then 1048576 - (l.length : Int) else -1) := by
  unfold laws_szMarkS.f
  rw [wrap_small (by omega) (by omega)]
  by_cases h : l.length ≤ 1048576
  · rw [if_neg (by omega), if_pos h]
  · rw [if_pos (by omega), if_neg h]

/-- What a right window asks of its Mark i. -/
def MarkOK (span now cap : Int) (l : List S33) (i : Nat) : Prop :=
  (0 ≤ (rd_T33 l i).f0 ∧ now - span < (rd_T33 l i).f0 ∧ (rd_T33 l i).f0 < now) ∧ (0 ≤ (rd_T33 l i).f1 ∧ (rd_T33 l i).f1 ≤ 1125899906842624) ∧ cap < (rd_T33 l i).f1 ∧
  (0 < i → (rd_T33 l ((i - 1 : Nat) : Int)).f0 < (rd_T33 l i).f0 ∧ (rd_T33 l i).f1 < (rd_T33 l ((i - 1 : Nat) : Int)).f1)
theorem win_loops (l : List S33) (hl : l.length < 9223372036854775807) (span now cap : Int) (hs : 1 ≤ span ∧ span ≤ 1000000) (hn : 0 ≤ now ∧ now ≤ 1000000) : ∀ (d i : Nat), l.length - i = d → i ≤ l.length → ∃ b, (b = true → ∀ j, i ≤ j → j < l.length → MarkOK span now cap l j) ∧ ∀ k, 2 * d < k → spec_WindowRight.l0 k (i : Int) span now cap l = some b ∧ impl_WindowRight.l0 k l (l.length : Int) (i : Int) span now cap l = some b := by
  intro d
  induction d with
  | zero =>
    intro i hd hi
    refine ⟨true, fun _ j h1 h2 => by omega, fun k hk => ?_⟩
    obtain ⟨k, rfl⟩ : ∃ m, k = m + 1 := ⟨k - 1, by omega⟩
    refine ⟨?_, ?_⟩
    · simp only [spec_WindowRight.l0]; rw [if_neg (by omega)]
    · simp only [impl_WindowRight.l0]; rw [if_neg (by omega)]
  | succ d ih =>
    intro i hd hi
    obtain ⟨b, hbm, hb⟩ := ih (i + 1) (by omega) (by omega)
    have a1 : (i : Int) < (l.length : Int) := by omega
    have a2 : (0 : Int) ≤ (i : Int) := by omega
    have e1 : wrap64 (now - span) = now - span := wrap_small (by omega) (by omega)
    have e2 : wrap64 (now - span + 1) = now - span + 1 := wrap_small (by omega) (by omega)
    have e3 : wrap64 (now - 1) = now - 1 := wrap_small (by omega) (by omega)
    have no : ∀ P : Prop, (false = true → P) := fun P h => by cases h
    by_cases hA : 0 ≤ (rd_T33 l i).f0 ∧ now - span < (rd_T33 l i).f0 ∧ (rd_T33 l i).f0 < now
    · have c1 : ¬ (rd_T33 l i).f0 < 0 := by omega
      have c2 : ¬ (rd_T33 l i).f0 ≤ now - span := by omega
      have c3 : ¬ (rd_T33 l i).f0 ≥ now := by omega
      have c4 : mx (now - span + 1) 0 ≤ (rd_T33 l i).f0 ∧ (rd_T33 l i).f0 ≤ now - 1 := by unfold mx; split <;> omega
      by_cases hB : 0 ≤ (rd_T33 l i).f1 ∧ (rd_T33 l i).f1 ≤ 1125899906842624
      · by_cases hC : (rd_T33 l i).f1 ≤ cap
        · refine ⟨false, no _, fun k hk => ?_⟩
          obtain ⟨k, rfl⟩ : ∃ m, k = m + 2 := ⟨k - 2, by omega⟩
          simp only [spec_WindowRight.l0, impl_WindowRight.l0, a1, a2, if_true, if_false, e1, e2, e3, c1, c2, c3, in_eq, c4, l02Want_eq, isWant_eq, hB, and_self, decide_true, Option.bind_some, hC, spec_WindowRight.j2, impl_WindowRight.j2]
        · by_cases h0 : (i : Int) > 0
          · have a3 : (0 : Int) ≤ ((i - 1 : Nat) : Int) := by omega
            have a4 : ((i - 1 : Nat) : Int) < (l.length : Int) := by omega
            by_cases hD : (rd_T33 l i).f0 ≤ (rd_T33 l ((i - 1 : Nat) : Int)).f0
            · have hD' : (rd_T33 l ((i - 1 : Nat) : Int)).f0 ≥ (rd_T33 l i).f0 := hD
              refine ⟨false, no _, fun k hk => ?_⟩
              obtain ⟨k, rfl⟩ : ∃ m, k = m + 2 := ⟨k - 2, by omega⟩
              simp only [spec_WindowRight.l0, impl_WindowRight.l0, a1, a2, if_true, if_false, e1, e2, e3, c1, c2, c3, in_eq, c4, l02Want_eq, isWant_eq, hB, and_self, decide_true, Option.bind_some, hC, decide_false, Bool.false_eq_true, spec_WindowRight.j2, impl_WindowRight.j2, h0, pred_cast i (by omega) (by omega), a3, a4, hD, hD']
            · have hD' : ¬ (rd_T33 l ((i - 1 : Nat) : Int)).f0 ≥ (rd_T33 l i).f0 := hD
              by_cases hE : (rd_T33 l i).f1 ≥ (rd_T33 l ((i - 1 : Nat) : Int)).f1
              · have hE' : (rd_T33 l ((i - 1 : Nat) : Int)).f1 ≤ (rd_T33 l i).f1 := hE
                refine ⟨false, no _, fun k hk => ?_⟩
                obtain ⟨k, rfl⟩ : ∃ m, k = m + 2 := ⟨k - 2, by omega⟩
                simp only [spec_WindowRight.l0, impl_WindowRight.l0, a1, a2, if_true, if_false, e1, e2, e3, c1, c2, c3, in_eq, c4, l02Want_eq, isWant_eq, hB, and_self, decide_true, Option.bind_some, hC, decide_false, Bool.false_eq_true, spec_WindowRight.j2, impl_WindowRight.j2, h0, pred_cast i (by omega) (by omega), a3, a4, hD, hD', hE, hE']
              · have hE' : ¬ (rd_T33 l ((i - 1 : Nat) : Int)).f1 ≤ (rd_T33 l i).f1 := hE
                refine ⟨b, fun hbt j h1 h2 => ?_, fun k hk => ?_⟩
                · by_cases hj : j = i
                  · rw [hj]; exact ⟨hA, hB, by omega, fun _ => ⟨by omega, by omega⟩⟩
                  · exact hbm hbt j (by omega) h2
                · obtain ⟨k, rfl⟩ : ∃ m, k = m + 2 := ⟨k - 2, by omega⟩
                  obtain ⟨h1, h2⟩ := hb k (by omega)
                  simp only [spec_WindowRight.l0, impl_WindowRight.l0, a1, a2, if_true, if_false, e1, e2, e3, c1, c2, c3, in_eq, c4, l02Want_eq, isWant_eq, hB, and_self, decide_true, Option.bind_some, hC, decide_false, Bool.false_eq_true, spec_WindowRight.j2, impl_WindowRight.j2, h0, pred_cast i (by omega) (by omega), a3, a4, hD, hD', hE, hE', succ_cast i (by omega), h1, h2]
          · refine ⟨b, fun hbt j h1 h2 => ?_, fun k hk => ?_⟩
            · by_cases hj : j = i
              · rw [hj]; exact ⟨hA, hB, by omega, fun h => absurd h (by omega)⟩
              · exact hbm hbt j (by omega) h2
            · obtain ⟨k, rfl⟩ : ∃ m, k = m + 2 := ⟨k - 2, by omega⟩
              obtain ⟨h1, h2⟩ := hb k (by omega)
              simp only [spec_WindowRight.l0, impl_WindowRight.l0, a1, a2, if_true, if_false, e1, e2, e3, c1, c2, c3, in_eq, c4, l02Want_eq, isWant_eq, hB, and_self, decide_true, Option.bind_some, hC, decide_false, Bool.false_eq_true, spec_WindowRight.j2, impl_WindowRight.j2, h0, succ_cast i (by omega), h1, h2]
      · refine ⟨false, no _, fun k hk => ?_⟩
        obtain ⟨k, rfl⟩ : ∃ m, k = m + 2 := ⟨k - 2, by omega⟩
        simp only [spec_WindowRight.l0, impl_WindowRight.l0, a1, a2, if_true, if_false, e1, e2, e3, c1, c2, c3, in_eq, c4, l02Want_eq, isWant_eq, hB, and_self, decide_true, decide_false, Bool.false_eq_true, Option.bind_some, spec_WindowRight.j2, impl_WindowRight.j2]
    · have c4 : ¬ (mx (now - span + 1) 0 ≤ (rd_T33 l i).f0 ∧ (rd_T33 l i).f0 ≤ now - 1) := by unfold mx; split <;> omega
      refine ⟨false, no _, fun k hk => ?_⟩
      obtain ⟨k, rfl⟩ : ∃ m, k = m + 2 := ⟨k - 2, by omega⟩
      by_cases c1 : (rd_T33 l i).f0 < 0
      · simp only [spec_WindowRight.l0, impl_WindowRight.l0, a1, a2, if_true, if_false, e1, e2, e3, c1, in_eq, c4, decide_false, Bool.false_eq_true, Option.bind_some, spec_WindowRight.j2, impl_WindowRight.j2]
        all_goals exact ⟨trivial, trivial⟩
      · by_cases c2 : (rd_T33 l i).f0 ≤ now - span
        · simp only [spec_WindowRight.l0, impl_WindowRight.l0, a1, a2, if_true, if_false, e1, e2, e3, c1, c2, in_eq, c4, decide_false, Bool.false_eq_true, Option.bind_some, spec_WindowRight.j2, impl_WindowRight.j2]
          all_goals exact ⟨trivial, trivial⟩
        · have c3 : (rd_T33 l i).f0 ≥ now := by omega
          simp only [spec_WindowRight.l0, impl_WindowRight.l0, a1, a2, if_true, if_false, e1, e2, e3, c1, c2, c3, in_eq, c4, decide_false, Bool.false_eq_true, Option.bind_some, spec_WindowRight.j2, impl_WindowRight.j2]
          all_goals exact ⟨trivial, trivial⟩
/-- A right window. -/
def WinOK (span now cap : Int) (l : List S33) : Prop := (1 ≤ span ∧ span ≤ 1000000) ∧ (0 ≤ now ∧ now ≤ 1000000) ∧ (0 ≤ cap ∧ cap ≤ 1125899906842624) ∧ l.length ≤ 200 ∧ ∀ j, j < l.length → MarkOK span now cap l j
theorem win_same (l : List S33) (hl : l.length < 9223372036854775807) (span now cap : Int) : ∃ b, (b = true → WinOK span now cap l) ∧ ∀ k, 2 * l.length + 1 < k → spec_WindowRight.f k span now cap l = some b ∧ impl_WindowRight.f k span now cap l = some b := by
  have no : ∀ P : Prop, (false = true → P) := fun P h => by cases h
  by_cases hs : 1 ≤ span ∧ span ≤ 1000000
  · have s1 : ¬ span < 1 := by omega
    have s2 : ¬ span > 1000000 := by omega
    by_cases hn : 0 ≤ now ∧ now ≤ 1000000
    · by_cases hc : 0 ≤ cap ∧ cap ≤ 1125899906842624
      · by_cases hL : (l.length : Int) > 200
        · refine ⟨false, no _, fun k hk => ?_⟩
          obtain ⟨k, rfl⟩ : ∃ m, k = m + 1 := ⟨k - 1, by omega⟩
          simp only [spec_WindowRight.f, impl_WindowRight.f, s1, s2, if_false, l07Time_eq, hn, l02Want_eq, hc, and_self, decide_true, Option.bind_some, if_true, in_eq, hs, isTime_eq, isWant_eq, hL, spec_WindowRight.j0, impl_WindowRight.j0]
        · obtain ⟨b, hbm, hb⟩ := win_loops l hl span now cap hs hn l.length 0 (by omega) (by omega)
          refine ⟨b, fun hbt => ⟨hs, hn, hc, by omega, fun j hj => hbm hbt j (by omega) hj⟩, fun k hk => ?_⟩
          obtain ⟨k, rfl⟩ : ∃ m, k = m + 1 := ⟨k - 1, by omega⟩
          obtain ⟨h1, h2⟩ := hb k (by omega)
          simp only [spec_WindowRight.f, impl_WindowRight.f, s1, s2, if_false, l07Time_eq, hn, l02Want_eq, hc, and_self, decide_true, Option.bind_some, if_true, in_eq, hs, isTime_eq, isWant_eq, hL, decide_false, Bool.false_eq_true, spec_WindowRight.j0, impl_WindowRight.j0]
          exact ⟨h1, h2⟩
      · refine ⟨false, no _, fun k hk => ?_⟩
        obtain ⟨k, rfl⟩ : ∃ m, k = m + 1 := ⟨k - 1, by omega⟩
        simp only [spec_WindowRight.f, impl_WindowRight.f, s1, s2, if_false, l07Time_eq, hn, l02Want_eq, hc, and_self, decide_true, decide_false, Bool.false_eq_true, Option.bind_some, if_true, in_eq, hs, isTime_eq, isWant_eq, spec_WindowRight.j0, impl_WindowRight.j0]
    · refine ⟨false, no _, fun k hk => ?_⟩
      obtain ⟨k, rfl⟩ : ∃ m, k = m + 1 := ⟨k - 1, by omega⟩
      simp only [spec_WindowRight.f, impl_WindowRight.f, s1, s2, if_false, l07Time_eq, hn, and_self, decide_true, decide_false, Bool.false_eq_true, Option.bind_some, if_true, in_eq, hs, isTime_eq, spec_WindowRight.j0, impl_WindowRight.j0]
  · refine ⟨false, no _, fun k hk => ?_⟩
    obtain ⟨k, rfl⟩ : ∃ m, k = m + 1 := ⟨k - 1, by omega⟩
    by_cases s1 : span < 1
    · simp only [spec_WindowRight.f, impl_WindowRight.f, s1, if_true, in_eq, hs, decide_false, Bool.false_eq_true, if_false, Option.bind_some, spec_WindowRight.j0, impl_WindowRight.j0]
      all_goals exact ⟨trivial, trivial⟩
    · have s2 : span > 1000000 := by omega
      simp only [spec_WindowRight.f, impl_WindowRight.f, s1, s2, if_true, in_eq, hs, decide_false, Bool.false_eq_true, if_false, Option.bind_some, spec_WindowRight.j0, impl_WindowRight.j0]
      all_goals exact ⟨trivial, trivial⟩
theorem szWindow_eq (a b c : Int) (l : List S26) (hl : l.length * 16 ≤ 140737488351232) : laws_szWindow.f a b c l 1048576 = some (if l.length ≤ 1048576 then 1048576 - (l.length : Int) else -1) := by
  unfold laws_szWindow.f
  rw [szMarkS_eq l hl]
  simp only [Option.bind_some]
  by_cases h : l.length ≤ 1048576
  · rw [if_pos h, if_neg (by omega)]
  · rw [if_neg h, if_pos (by omega)]
theorem toWindow_eq (a b c : Int) (l : List S26) (hl : l.length * 16 ≤ 140737488351232) (k : Nat) (hk : l.length < k) : laws_toWindow.f k a b c l = some (a, b, c, l.map convMark) := by
  unfold laws_toWindow.f
  rw [toMarkS_eq l hl k hk]
  rfl
theorem eqWindow_same (a b c : Int) (l : List S33) (hl : l.length < 9223372036854775807) (k : Nat) (hk : l.length < k) : laws_eqWindow.f k a b c l a b c l = some true := by
  unfold laws_eqWindow.f
  rw [if_pos rfl, if_pos rfl, if_pos rfl, eqMarkS_same l hl k hk]
  rfl

theorem rdset33 (xs : List S33) (i j : Nat) (v : S33) (h : i < xs.length) : rd_T33 (xs.set i v) (j : Int) = if j = i then v else rd_T33 xs (j : Int) := by
  unfold rd_T33
  rw [Int.toNat_natCast, List.getD_eq_getElem?_getD, List.getD_eq_getElem?_getD, List.getElem?_set]
  by_cases e : j = i
  · subst e; simp [h]
  · have e' : i ≠ j := fun q => e q.symm
    simp [e, e']
def markOfMark (j : Nat) : S33 := ⟨1 + 2 * (j : Int), 1 + 2 * (j : Int) + 1⟩
theorem markMarkS_loop (n : Nat) (hn : n ≤ 1048576) : ∀ (d k i : Nat) (x0 : List S33), x0.length = n → n - i = d → i ≤ n → d < k → (∀ j : Nat, j < i → rd_T33 x0 j = markOfMark j) →
    ∃ l', laws_markMarkS.l0 k x0 (1 + 2 * (i : Int)) (i : Int) = some (1 + 2 * (n : Int), l') ∧ l'.length = n ∧ ∀ j : Nat, j < n → rd_T33 l' j = markOfMark j := by
  intro d
  induction d with
  | zero =>
    intro k i x0 hx hd hi hk hm
    obtain ⟨k, rfl⟩ : ∃ m, k = m + 1 := ⟨k - 1, by omega⟩
    obtain rfl : i = n := by omega
    simp only [laws_markMarkS.l0]
    rw [if_neg (by omega)]
    exact ⟨x0, rfl, hx, hm⟩
  | succ d ih =>
    intro k i x0 hx hd hi hk hm
    obtain ⟨k, rfl⟩ : ∃ m, k = m + 1 := ⟨k - 1, by omega⟩
    simp only [laws_markMarkS.l0]
    rw [if_pos (by omega), if_pos (by omega)]
    simp only [Option.bind_some, Int.toNat_natCast, List.length_set, hx, rdset33, show i < n from by omega, if_true, List.set_set]
    rw [show wrap64 ((1 + 2 * (i : Int)) + 1) = 1 + 2 * (i : Int) + 1 from by rw [wrap_small (by omega) (by omega)]]
    rw [show wrap64 ((1 + 2 * (i : Int) + 1) + 1) = 1 + 2 * (i : Int) + 2 from by rw [wrap_small (by omega) (by omega)]; omega]
    obtain ⟨l', h1, h2, h3⟩ := ih k (i + 1) (x0.set i (markOfMark i)) (by simp [hx]) (by omega) (by omega) (by omega) (fun j hj => by
      rw [rdset33 _ _ _ _ (by omega)]
      by_cases e : j = i
      · rw [if_pos e, e]
      · rw [if_neg e]; exact hm j (by omega))
    refine ⟨l', ?_, h2, h3⟩
    rw [← h1, succ_cast i (by omega)]
    congr 1
theorem markMarkS_eq (l : List S33) (hn : l.length ≤ 1048576) (k : Nat) (hk : l.length < k) : ∃ l', laws_markMarkS.f k l 1 = some (1 + 2 * (l.length : Int), l') ∧ l'.length = l.length ∧ ∀ j : Nat, j < l.length → rd_T33 l' j = markOfMark j :=
  markMarkS_loop l.length hn l.length k 0 l rfl (by omega) (by omega) hk (fun j hj => absurd hj (by omega))
theorem heldMarkS_loop (n : Nat) (hn : n ≤ 1048576) (l : List S33) (hl : l.length = n) (hm : ∀ j : Nat, j < n → rd_T33 l j = markOfMark j) : ∀ (d k i : Nat), n - i = d → i ≤ n → d < k → laws_heldMarkS.l0 k l (1 + 2 * (i : Int)) (i : Int) = some (1 + 2 * (n : Int)) := by
  intro d
  induction d with
  | zero =>
    intro k i hd hi hk
    obtain ⟨k, rfl⟩ : ∃ m, k = m + 1 := ⟨k - 1, by omega⟩
    obtain rfl : i = n := by omega
    simp only [laws_heldMarkS.l0]
    rw [if_neg (by omega)]
  | succ d ih =>
    intro k i hd hi hk
    obtain ⟨k, rfl⟩ : ∃ m, k = m + 1 := ⟨k - 1, by omega⟩
    simp only [laws_heldMarkS.l0, hm i (by omega)]
    rw [if_pos (by omega), if_pos (by omega)]
    rw [show wrap64 ((1 + 2 * (i : Int)) + 1) = 1 + 2 * (i : Int) + 1 from by rw [wrap_small (by omega) (by omega)]]
    rw [show wrap64 ((1 + 2 * (i : Int) + 1) + 1) = 1 + 2 * (i : Int) + 2 from by rw [wrap_small (by omega) (by omega)]; omega]
    simp only [markOfMark, if_true]
    rw [succ_cast i (by omega)]
    have := ih k (i + 1) (by omega) (by omega) (by omega)
    rw [← this]
    congr 1
theorem heldMarkS_eq (l : List S33) (n : Nat) (hl : l.length = n) (hn : n ≤ 1048576) (hm : ∀ j : Nat, j < n → rd_T33 l j = markOfMark j) (k : Nat) (hk : n < k) : laws_heldMarkS.f k l 1 = some (1 + 2 * (n : Int)) :=
  heldMarkS_loop n hn l hl hm n k 0 (by omega) (by omega) hk

/-! Right windows, as lists. -/
def RightW (s n c : Int) (l : List S33) : Prop := (1 ≤ s ∧ s ≤ 1000000) ∧ (0 ≤ n ∧ n ≤ 1000000) ∧ (0 ≤ c ∧ c ≤ 1125899906842624) ∧ l.length ≤ 200 ∧ (∀ x ∈ l, (0 ≤ x.f0 ∧ n - s < x.f0 ∧ x.f0 < n) ∧ c < x.f1 ∧ x.f1 ≤ 1125899906842624) ∧ l.Pairwise (fun x y => x.f0 < y.f0 ∧ y.f1 < x.f1)
theorem right_loop (s n c : Int) (l : List S33) (h : RightW s n c l) : ∀ (d i k : Nat), l.length - i = d → i ≤ l.length → 2 * d < k → spec_WindowRight.l0 k (i : Int) s n c l = some true := by
  obtain ⟨hs, hn, hc, h200, hall, hpw⟩ := h
  intro d
  induction d with
  | zero =>
    intro i k hd hi hk
    obtain ⟨k, rfl⟩ : ∃ m, k = m + 1 := ⟨k - 1, by omega⟩
    simp only [spec_WindowRight.l0]; rw [if_neg (by omega)]
  | succ d ih =>
    intro i k hd hi hk
    obtain ⟨k, rfl⟩ : ∃ m, k = m + 2 := ⟨k - 2, by omega⟩
    have hlt : i < l.length := by omega
    have a1 : (i : Int) < (l.length : Int) := by omega
    have a2 : (0 : Int) ≤ (i : Int) := by omega
    have h1 := ih (i + 1) k (by omega) (by omega) (by omega)
    have hm := hall _ (List.getElem_mem hlt)
    have e1 : wrap64 (n - s) = n - s := wrap_small (by omega) (by omega)
    have b1 : ¬ l[i].f0 < 0 := by omega
    have b2 : ¬ l[i].f0 ≤ n - s := by omega
    have b3 : ¬ l[i].f0 ≥ n := by omega
    have b4 : 0 ≤ l[i].f1 ∧ l[i].f1 ≤ 1125899906842624 := by omega
    have b5 : ¬ l[i].f1 ≤ c := by omega
    simp only [spec_WindowRight.l0, a1, a2, if_true, rd33 l i hlt, e1, b1, b2, b3, if_false, l02Want_eq, b4, and_self, decide_true, Option.bind_some, b5, decide_false, spec_WindowRight.j2, Bool.false_eq_true]
    by_cases h0 : (i : Int) > 0
    · have hlt2 : i - 1 < l.length := by omega
      have a3 : (0 : Int) ≤ ((i - 1 : Nat) : Int) := by omega
      have a4 : ((i - 1 : Nat) : Int) < (l.length : Int) := by omega
      have hp := List.pairwise_iff_getElem.1 hpw (i - 1) i hlt2 hlt (by omega)
      have c1 : ¬ l[i].f0 ≤ l[i - 1].f0 := by omega
      have c2 : ¬ l[i].f1 ≥ l[i - 1].f1 := by omega
      simp only [h0, if_true, pred_cast i (by omega) (by omega), a3, a4, rd33 l (i - 1) hlt2, c1, c2, if_false, succ_cast i (by omega), h1]
    · simp only [h0, if_false, succ_cast i (by omega), h1]
theorem right_eq (s n c : Int) (l : List S33) (h : RightW s n c l) (k : Nat) (hk : 500 < k) : spec_WindowRight.f k s n c l = some true := by
  obtain ⟨k, rfl⟩ : ∃ m, k = m + 1 := ⟨k - 1, by omega⟩
  have h' := h
  obtain ⟨hs, hn, hc, h200, hall, hpw⟩ := h'
  unfold spec_WindowRight.f
  rw [if_neg (by omega), if_neg (by omega), l07Time_eq, decide_eq_true hn]
  simp only [Option.bind_some, if_true, l02Want_eq]
  rw [decide_eq_true hc]
  simp only [if_true]
  rw [decide_eq_false (by omega)]
  simp only [spec_WindowRight.j0, Bool.false_eq_true, if_false]
  exact right_loop s n c l h l.length 0 k (by omega) (by omega) (by omega)
def trim (l : List S33) : List S33 := l.drop (l.length - 200)
def keep (a c : Int) (x : S33) : Bool := decide (x.f1 > c) && decide (x.f0 > a)
theorem filter_loop (all : List S33) (hl : all.length ≤ 300) (s n c at_ cp o0 o1 o2 : Int) (l : List S33) (hs : 1 ≤ s ∧ s ≤ 1000000) (ha : 0 ≤ at_ ∧ at_ ≤ 1000000) : ∀ (d i k : Nat) (acc : List S33), all.length - i = d → i ≤ all.length → d < k → acc.length ≤ i →
    spec_WindowPut.l0 k all (i : Int) s n c l at_ cp o0 o1 o2 acc = some (o0, at_, cp, trim (acc ++ (all.drop i).filter (keep (at_ - s) cp))) := by
  have e1 : wrap64 (at_ - s) = at_ - s := wrap_small (by omega) (by omega)
  intro d
  induction d with
  | zero =>
    intro i k acc hd hi hk hacc
    obtain ⟨k, rfl⟩ : ∃ m, k = m + 1 := ⟨k - 1, by omega⟩
    obtain rfl : i = all.length := by omega
    simp only [spec_WindowPut.l0]
    rw [if_neg (by omega), List.drop_length, List.filter_nil, List.append_nil]
    unfold trim
    by_cases c2 : (acc.length : Int) > 200
    · rw [if_pos c2, show wrap64 ((acc.length : Int) - 200) = ((acc.length - 200 : Nat) : Int) by rw [wrap_small (by omega) (by omega)]; omega, if_pos (by omega), if_pos (by omega), Int.toNat_natCast]
    · rw [if_neg c2, show acc.length - 200 = 0 by omega, List.drop_zero]
  | succ d ih =>
    intro i k acc hd hi hk hacc
    obtain ⟨k, rfl⟩ : ∃ m, k = m + 1 := ⟨k - 1, by omega⟩
    have hlt : i < all.length := by omega
    have a1 : (i : Int) < (all.length : Int) := by omega
    have a2 : (0 : Int) ≤ (i : Int) := by omega
    have e : all.drop i = all[i] :: all.drop (i + 1) := List.drop_eq_getElem_cons hlt
    have h1 := ih (i + 1) k acc (by omega) (by omega) (by omega) (by omega)
    have h2 := ih (i + 1) k (acc ++ [all[i]]) (by omega) (by omega) (by omega) (by simp; omega)
    have a3 : acc.length + [all[i]].length < 8796093022208 := by simp; omega
    rw [e, List.filter_cons]
    simp only [spec_WindowPut.l0, a1, a2, if_true, rd33 all i hlt, e1, succ_cast i (by omega), Option.bind_some]
    by_cases c1 : all[i].f1 > cp
    · by_cases c2 : all[i].f0 > at_ - s
      · rw [if_pos c1, if_pos c2, show (⟨all[i].f0, all[i].f1⟩ : S33) = all[i] from rfl, if_pos a3, h2, show keep (at_ - s) cp all[i] = true by unfold keep; simp [c1, c2]]
        simp
      · rw [if_pos c1, if_neg c2, h1, show keep (at_ - s) cp all[i] = false by unfold keep; simp [c2]]
        simp
    · rw [if_neg c1, h1, show keep (at_ - s) cp all[i] = false by unfold keep; simp [c1]]
      simp
theorem split_of (q : S33 → Bool) : ∀ l : List S33, l.Pairwise (fun x y => q y = true → q x = true) → l = l.filter q ++ l.filter (fun x => !q x)
  | [], _ => rfl
  | x :: l, h => by
    rw [List.pairwise_cons] at h
    cases hx : q x with
    | true =>
      rw [List.filter_cons, List.filter_cons, if_pos hx, if_neg (by simp [hx]), List.cons_append, ← split_of q l h.2]
    | false =>
      have hn : ∀ y ∈ l, q y = false := fun y hy => by
        cases hq : q y with
        | false => rfl
        | true => rw [h.1 y hy hq] at hx; cases hx
      rw [List.filter_cons, List.filter_cons, if_neg (by simp [hx]), if_pos (by simp [hx]), List.filter_eq_nil_iff.2 (fun y hy => by simp [hn y hy]), List.filter_eq_self.2 (fun y hy => by simp [hn y hy])]
      rfl
theorem back_loop (A : List S33) (s n c at_ cp : Int) (l : List S33) (hA : ∀ x ∈ A, cp < x.f1) : ∀ (d : Nat) (B : List S33), B.length = d → (A ++ B).length ≤ 300 → (∀ x ∈ B, x.f1 ≤ cp) → ∀ k, impl_Window_put.l0 (k + d + 1) (A ++ B) s n c l at_ cp = impl_Window_put.j1 k A s n c l at_ cp := by
  intro d
  induction d with
  | zero =>
    intro B hB hl _ k
    obtain rfl : B = [] := List.length_eq_zero_iff.1 hB
    rw [List.append_nil] at hl ⊢
    simp only [Nat.add_zero, impl_Window_put.l0]
    by_cases h0 : (A.length : Int) > 0
    · have hlt : A.length - 1 < A.length := by omega
      rw [if_pos h0, show wrap64 ((A.length : Int) - 1) = ((A.length - 1 : Nat) : Int) from pred_cast _ (by omega) (by omega), if_pos (by omega), if_pos (by omega), rd33 A _ hlt, if_neg (by have := hA _ (List.getElem_mem hlt); omega)]
    · rw [if_neg h0]
  | succ d ih =>
    intro B hB hl hBc k
    obtain ⟨B', b, rfl⟩ : ∃ B' b, B = B' ++ [b] := ⟨B.dropLast, B.getLast (by intro h; rw [h] at hB; simp at hB), by rw [List.dropLast_concat_getLast]⟩
    have hl1 : (A ++ (B' ++ [b])).length = (A ++ B').length + 1 := by simp; omega
    have hb : b.f1 ≤ cp := hBc b (by simp)
    have hr : rd_T33 (A ++ (B' ++ [b])) (((A ++ B').length : Nat) : Int) = b := by
      show (A ++ (B' ++ [b])).getD ((((A ++ B').length : Nat) : Int)).toNat z33 = b
      rw [← List.append_assoc, Int.toNat_natCast, List.getD_eq_getElem?_getD, List.getElem?_append_right (Nat.le_refl _)]
      simp
    rw [show k + (d + 1) + 1 = (k + d + 1) + 1 by omega, impl_Window_put.l0]
    rw [show wrap64 (((A ++ (B' ++ [b])).length : Int) - 1) = (((A ++ B').length : Nat) : Int) by rw [wrap_small (by omega) (by omega)]; omega, if_pos (by omega), if_pos (by omega), if_pos (by omega), hr, if_pos hb, if_pos (by omega), Int.toNat_natCast, ← List.append_assoc, List.take_left']
    · exact ih B' (by simp at hB; omega) (by omega) (fun x hx => hBc x (by simp [hx])) k
    · rfl
theorem front_loop (s n c at_ cp : Int) (l : List S33) (hs : 1 ≤ s ∧ s ≤ 1000000) (ha : 0 ≤ at_ ∧ at_ ≤ 1000000) (D : List S33) (hD : ∀ x ∈ D, at_ - s < x.f0) : ∀ (C : List S33), (C ++ D).length ≤ 300 → (∀ x ∈ C, x.f0 ≤ at_ - s) → ∀ k, impl_Window_put.l1 (k + C.length + (D.length - 200) + 1) (C ++ D) s n c l at_ cp = some (s, at_, cp, trim D) := by
  have e1 : wrap64 (at_ - s) = at_ - s := wrap_small (by omega) (by omega)
  have short : ∀ (d : Nat) (D : List S33), D.length - 200 = d → D.length ≤ 300 → (∀ x ∈ D, at_ - s < x.f0) → ∀ k, impl_Window_put.l1 (k + d + 1) D s n c l at_ cp = some (s, at_, cp, trim D) := by
    intro d
    induction d with
    | zero =>
      intro D hd h300 hD k
      have ht : trim D = D := by unfold trim; rw [hd]; rfl
      simp only [Nat.add_zero, impl_Window_put.l1, e1, impl_Mark.f]
      rw [if_pos (by omega : D.length ≤ 5000000000000), ht]
      cases D with
      | nil => rfl
      | cons x D =>
        have hx : ¬ x.f0 ≤ at_ - s := by have := hD x (by simp); omega
        have hr : rd_T33 (x :: D) 0 = x := rfl
        have hlen : ((x :: D).length : Int) > 0 := by simp <;> omega
        rw [if_pos hlen, if_pos hlen, hr, if_neg hx, if_neg (by omega)]
        rfl
    | succ d ih =>
      intro D hd h300 hD k
      cases D with
      | nil => simp at hd
      | cons x D =>
        have hx : ¬ x.f0 ≤ at_ - s := by have := hD x (by simp); omega
        have hr : rd_T33 (x :: D) 0 = x := rfl
        have hlen : ((x :: D).length : Int) > 0 := by simp <;> omega
        have hl1 : (x :: D).length = D.length + 1 := rfl
        have ht : trim (x :: D) = trim D := by
          unfold trim
          rw [show (x :: D).length - 200 = (D.length - 200) + 1 by omega, List.drop_succ_cons]
        rw [show k + (d + 1) + 1 = (k + d + 1) + 1 by omega, impl_Window_put.l1]
        simp only [e1]
        rw [if_pos hlen, if_pos hlen, hr, if_neg hx, if_pos (by omega), if_pos (by omega), ht]
        exact ih D (by omega) (by omega) (fun y hy => hD y (by simp [hy])) k
  intro C
  induction C with
  | nil => intro h300 _ k; exact short (D.length - 200) D rfl h300 hD k
  | cons x C ih =>
    intro h300 hC k
    have hx : x.f0 ≤ at_ - s := hC x (by simp)
    have hr : rd_T33 (x :: C ++ D) 0 = x := rfl
    have hlen : ((x :: C ++ D).length : Int) > 0 := by simp <;> omega
    rw [show k + (x :: C).length + (D.length - 200) + 1 = (k + C.length + (D.length - 200) + 1) + 1 by simp; omega, impl_Window_put.l1]
    simp only [e1]
    rw [if_pos hlen, if_pos hlen, hr, if_pos hx, if_pos (by omega)]
    exact ih (by simp at h300 ⊢; omega) (fun y hy => hC y (by simp [hy])) k
/-- A right window and what may be put: both put the same, and the window is right again. -/
theorem put_right (s n c : Int) (l : List S33) (h : RightW s n c l) (at_ cp : Int) (h1 : n < at_) (h2 : at_ ≤ 1000000) (h3 : 0 ≤ cp ∧ cp ≤ 1125899906842624) : ∃ m, RightW s at_ cp m ∧ ∀ k, 2000 < k → spec_WindowPut.f k s n c l at_ cp = some (s, at_, cp, m) ∧ impl_Window_put.f k s n c l at_ cp = some (s, at_, cp, m) := by
  have h' := h
  obtain ⟨hs, hn, hc, h200, hall, hpw⟩ := h'
  have e1 : wrap64 (at_ - 1) = at_ - 1 := wrap_small (by omega) (by omega)
  generalize hALL : l ++ [(⟨at_ - 1, c⟩ : S33)] = all
  have hlen : all.length = l.length + 1 := by rw [← hALL]; simp
  have pw : all.Pairwise (fun x y => x.f0 < y.f0 ∧ y.f1 < x.f1) := by
    rw [← hALL, List.pairwise_append]
    refine ⟨hpw, by simp, fun x hx y hy => ?_⟩
    rw [List.mem_singleton] at hy
    subst hy
    have := hall x hx
    exact ⟨by show x.f0 < at_ - 1; omega, by show c < x.f1; omega⟩
  have each : ∀ x ∈ all, 0 ≤ x.f0 ∧ x.f0 < at_ ∧ x.f1 ≤ 1125899906842624 := fun x hx => by
    rw [← hALL, List.mem_append, List.mem_singleton] at hx
    rcases hx with hx | hx
    · have := hall x hx; omega
    · subst hx; show 0 ≤ at_ - 1 ∧ at_ - 1 < at_ ∧ c ≤ _; omega
  have sAB := split_of (fun x => decide (cp < x.f1)) all (pw.imp fun {x y} hxy hy => by have := of_decide_eq_true hy; exact decide_eq_true (by omega))
  generalize hA : all.filter (fun x => decide (cp < x.f1)) = A at sAB
  generalize hB : all.filter (fun x => !decide (cp < x.f1)) = B at sAB
  have pwA : A.Pairwise (fun x y => x.f0 < y.f0 ∧ y.f1 < x.f1) := by rw [← hA]; exact pw.filter _
  have sCD := split_of (fun x => decide (x.f0 ≤ at_ - s)) A (pwA.imp fun {x y} hxy hy => by have := of_decide_eq_true hy; exact decide_eq_true (by omega))
  generalize hC : A.filter (fun x => decide (x.f0 ≤ at_ - s)) = C at sCD
  generalize hD : A.filter (fun x => !decide (x.f0 ≤ at_ - s)) = D at sCD
  have fA : ∀ x ∈ A, cp < x.f1 := fun x hx => by rw [← hA, List.mem_filter] at hx; exact of_decide_eq_true hx.2
  have fB : ∀ x ∈ B, x.f1 ≤ cp := fun x hx => by rw [← hB, List.mem_filter] at hx; have := hx.2; simp at this; omega
  have fC : ∀ x ∈ C, x.f0 ≤ at_ - s := fun x hx => by rw [← hC, List.mem_filter] at hx; exact of_decide_eq_true hx.2
  have fD : ∀ x ∈ D, at_ - s < x.f0 := fun x hx => by rw [← hD, List.mem_filter] at hx; have := hx.2; simp at this; omega
  have hAl : A.length ≤ all.length := by rw [← hA]; exact List.length_filter_le _ _
  have hDl : D.length ≤ A.length := by rw [← hD]; exact List.length_filter_le _ _
  have hCl : C.length ≤ A.length := by rw [← hC]; exact List.length_filter_le _ _
  have hBl : B.length ≤ all.length := by rw [← hB]; exact List.length_filter_le _ _
  have hkeep : all.filter (keep (at_ - s) cp) = D := by
    rw [← hD, ← hA, List.filter_filter]
    apply List.filter_congr
    intro x _
    unfold keep
    rw [Bool.and_comm]
    congr 1
    rw [show (!decide (x.f0 ≤ at_ - s)) = decide (¬ x.f0 ≤ at_ - s) from (decide_not ..).symm]
    exact decide_eq_decide.2 (by omega)
  refine ⟨trim D, ?_, fun k hk => ⟨?_, ?_⟩⟩
  · have sub : (trim D).Sublist all := by
      refine (List.drop_sublist _ _).trans ?_
      rw [← hkeep]
      exact List.filter_sublist
    refine ⟨hs, by omega, h3, by unfold trim; rw [List.length_drop]; omega, fun x hx => ?_, pw.sublist sub⟩
    have q1 := each x (sub.subset hx)
    have q2 : x ∈ D := (List.drop_sublist _ _).subset hx
    have q3 := fD x q2
    have q4 : x ∈ A := by rw [← hD] at q2; exact (List.mem_filter.1 q2).1
    have q5 := fA x q4
    exact ⟨⟨q1.1, q3, q1.2.1⟩, q5, q1.2.2⟩
  · obtain ⟨k, rfl⟩ : ∃ m, k = m + 1 := ⟨k - 1, by omega⟩
    unfold spec_WindowPut.f
    simp only [Option.bind_some, List.nil_append, List.length_nil, Nat.zero_add]
    rw [if_pos (by omega), right_eq s n c l h (k + 1) (by omega)]
    simp only [Option.bind_some, if_true, l07Time_eq]
    rw [decide_eq_true (show 0 ≤ at_ ∧ at_ ≤ 1000000 by omega)]
    simp only [if_true]
    rw [if_neg (by omega), l02Want_eq, decide_eq_true h3]
    simp only [Option.bind_some, Bool.not_true, spec_WindowPut.j0, Bool.false_eq_true, if_false, List.nil_append, List.length_nil, Nat.zero_add]
    rw [if_pos (by omega), e1]
    have hb : l.length + [(⟨at_ - 1, c⟩ : S33)].length < 8796093022208 := by simp; omega
    rw [if_pos hb, hALL]
    have := filter_loop all (by omega) s n c at_ cp s n c l hs (by omega) all.length 0 k [] (by omega) (by omega) (by omega) (by simp)
    rw [List.drop_zero, hkeep, List.nil_append] at this
    exact this
  · unfold impl_Window_put.f impl_Mark.f
    rw [if_pos (by omega : l.length ≤ 5000000000000), e1]
    simp only [Option.bind_some]
    have hb : l.length + [(⟨at_ - 1, c⟩ : S33)].length < 8796093022208 := by simp; omega
    rw [if_pos hb, hALL, sAB, show k = (k - B.length - 1) + B.length + 1 by omega, back_loop A s n c at_ cp l fA B.length B rfl (by rw [← sAB]; omega) fB]
    rw [show k - B.length - 1 = (k - B.length - 2) + 1 by omega]
    simp only [impl_Window_put.j1]
    rw [sCD, show k - B.length - 2 = (k - B.length - 2 - C.length - (D.length - 200) - 1) + C.length + (D.length - 200) + 1 by omega]
    exact front_loop s n c at_ cp l hs (by omega) D fD C (by rw [← sCD]; omega) fC _

theorem right_of (s n c : Int) (l : List S33) (h : WinOK s n c l) : RightW s n c l := by
  obtain ⟨hs, hn, hc, h200, hat⟩ := h
  have pw : ∀ p q : Nat, p < q → q < l.length → (rd_T33 l (p : Int)).f0 < (rd_T33 l (q : Int)).f0 ∧ (rd_T33 l (q : Int)).f1 < (rd_T33 l (p : Int)).f1 := by
    intro p q
    induction q with
    | zero => intro h1; omega
    | succ q ih =>
      intro h1 h2
      have h3 := hat (q + 1) h2
      unfold MarkOK at h3
      have h4 := h3.2.2.2 (by omega)
      rw [show q + 1 - 1 = q by omega] at h4
      by_cases hp : p = q
      · subst hp; omega
      · have := ih (by omega) (by omega)
        omega
  refine ⟨hs, hn, hc, h200, fun x hx => ?_, List.pairwise_iff_getElem.2 fun i j hi hj hij => ?_⟩
  · obtain ⟨j, hj, rfl⟩ := List.mem_iff_getElem.1 hx
    have h3 := hat j hj
    unfold MarkOK at h3
    rw [rd33 l j hj] at h3
    omega
  · have := pw i j hij hj
    rw [rd33 l i hi, rd33 l j hj] at this
    exact this
theorem put_same (s n c : Int) (l : List S33) (hl : l.length ≤ 1048576) (at_ cp : Int) : ∃ v : Int × Int × Int × List S33, (v.2.2.2.length ≤ l.length + 200 ∧ v.2.2.2.length ≤ 1048576) ∧ ∀ k, 2 * l.length + 3000 < k → spec_WindowPut.f k s n c l at_ cp = some v ∧ impl_WindowPut.f k s n c l at_ cp = some v := by
  obtain ⟨b, hbm, hb⟩ := win_same l (by omega) s n c
  have copy : ∀ k, 0 < k → spec_WindowPut.j0 k true s n c l at_ cp s n c l = some (s, n, c, l) ∧ impl_WindowPut.j0 k true s n c l at_ cp = some (s, n, c, l) := fun k hk => by
    obtain ⟨k, rfl⟩ : ∃ q, k = q + 1 := ⟨k - 1, by omega⟩
    refine ⟨rfl, ?_⟩
    simp only [impl_WindowPut.j0, if_true, impl_Mark.f]
    rw [if_pos (by omega : l.length ≤ 5000000000000)]
    rfl
  have spec0 : ∀ k, spec_WindowPut.f k s n c l at_ cp = (spec_WindowRight.f k s n c l).bind fun t => if t = true then ((spec_l07Time.f at_).bind fun t2 => if t2 = true then (if at_ ≤ n then spec_WindowPut.j0 k true s n c l at_ cp s n c l else ((spec_l02Want.f cp).bind fun t3 => spec_WindowPut.j0 k (!t3) s n c l at_ cp s n c l)) else spec_WindowPut.j0 k true s n c l at_ cp s n c l) else spec_WindowPut.j0 k true s n c l at_ cp s n c l := fun k => by
    unfold spec_WindowPut.f
    simp only [Option.bind_some, List.nil_append, List.length_nil, Nat.zero_add]
    rw [if_pos (by omega)]
  cases b with
  | false =>
    refine ⟨(s, n, c, l), ⟨by show l.length ≤ _; omega, hl⟩, fun k hk => ⟨?_, ?_⟩⟩
    · rw [spec0, (hb k (by omega)).1]; exact (copy k (by omega)).1
    · unfold impl_WindowPut.f; rw [(hb k (by omega)).2]; exact (copy k (by omega)).2
  | true =>
    have hr := right_of s n c l (hbm rfl)
    have hn := hr.2.1
    have ew : wrap64 (n + 1) = n + 1 := wrap_small (by omega) (by omega)
    by_cases ok : n < at_ ∧ at_ ≤ 1000000
    · by_cases hw : 0 ≤ cp ∧ cp ≤ 1125899906842624
      · obtain ⟨m, hm, hp⟩ := put_right s n c l hr at_ cp ok.1 ok.2 hw
        refine ⟨(s, at_, cp, m), ⟨by have := hm.2.2.2.1; show m.length ≤ _; omega, by have := hm.2.2.2.1; show m.length ≤ _; omega⟩, fun k hk => ⟨(hp k (by omega)).1, ?_⟩⟩
        obtain ⟨k, rfl⟩ : ∃ q, k = q + 1 := ⟨k - 1, by omega⟩
        unfold impl_WindowPut.f
        rw [(hb (k + 1) (by omega)).2]
        simp only [Option.bind_some, if_true]
        rw [ew, in_eq, decide_eq_true (by omega)]
        simp only [Option.bind_some, if_true]
        rw [isWant_eq, decide_eq_true hw]
        simp only [Option.bind_some, Bool.not_true, impl_WindowPut.j0, Bool.false_eq_true, if_false]
        rw [(hp k (by omega)).2]
        rfl
      · refine ⟨(s, n, c, l), ⟨by show l.length ≤ _; omega, hl⟩, fun k hk => ⟨?_, ?_⟩⟩
        · rw [spec0, (hb k (by omega)).1]
          simp only [Option.bind_some, if_true]
          rw [l07Time_eq, decide_eq_true (by omega)]
          simp only [Option.bind_some, if_true]
          rw [if_neg (by omega), l02Want_eq, decide_eq_false hw]
          exact (copy k (by omega)).1
        · unfold impl_WindowPut.f
          rw [(hb k (by omega)).2]
          simp only [Option.bind_some, if_true]
          rw [ew, in_eq, decide_eq_true (by omega)]
          simp only [Option.bind_some, if_true]
          rw [isWant_eq, decide_eq_false hw]
          exact (copy k (by omega)).2
    · refine ⟨(s, n, c, l), ⟨by show l.length ≤ _; omega, hl⟩, fun k hk => ⟨?_, ?_⟩⟩
      · rw [spec0, (hb k (by omega)).1]
        simp only [Option.bind_some, if_true]
        rw [l07Time_eq]
        by_cases ht : 0 ≤ at_ ∧ at_ ≤ 1000000
        · rw [decide_eq_true ht]
          simp only [Option.bind_some, if_true]
          rw [if_pos (by omega)]
          exact (copy k (by omega)).1
        · rw [decide_eq_false ht]
          exact (copy k (by omega)).1
      · unfold impl_WindowPut.f
        rw [(hb k (by omega)).2]
        simp only [Option.bind_some, if_true]
        rw [ew, in_eq, decide_eq_false (by omega)]
        exact (copy k (by omega)).2
theorem FnExactWindowPut : BridgeFnExactWindowPut.Pure := by
  intro s n c l at_ cp _ _ _ hl _ _ _
  refine ⟨2 * l.length + 3100, ?_⟩
  unfold laws_FnExactWindowPut.f
  rw [szWindow_eq s n c l hl]
  simp only [Option.bind_some]
  by_cases hsz : l.length ≤ 1048576
  · rw [if_pos hsz, if_neg (by omega), toWindow_eq s n c l hl _ (by omega)]
    simp only [Option.bind_some, laws_toMark.f]
    have hlen : (l.map convMark).length = l.length := by simp
    obtain ⟨⟨a', b', c', m⟩, hm, hv⟩ := put_same s n c (l.map convMark) (by omega) at_ cp
    have hm1' : m.length ≤ l.length + 200 := by have h9 : m.length ≤ (l.map convMark).length + 200 := hm.1; omega
    have hm' : m.length ≤ 1048576 := hm.2
    obtain ⟨h1, h2⟩ := hv (2 * l.length + 3100) (by omega)
    obtain ⟨_, h2'⟩ := hv (2 * l.length + 3099) (by omega)
    rw [h1, h2]
    simp only [Option.bind_some]
    rw [eqWindow_same a' b' c' m (by omega) _ (by omega)]
    simp only [Option.bind_some, if_true]
    rw [eqWindow_same s n c (l.map convMark) (by omega) _ (by omega)]
    simp only [Option.bind_some, if_true]
    obtain ⟨m1, hm1, _, _⟩ := markMarkS_eq (l.map convMark) (by omega) (2 * l.length + 3100) (by omega)
    simp only [laws_markWindow.f, hm1, Option.bind_some]
    rw [if_neg (by omega)]
    obtain ⟨m2, hm2, hl2, hr2⟩ := markMarkS_eq m (by omega) (2 * l.length + 3099) (by omega)
    have held := heldMarkS_eq m2 m.length hl2 (by omega) hr2 (2 * l.length + 3099) (by omega)
    rw [show 2 * l.length + 3100 = (2 * l.length + 3099) + 1 by omega]
    simp only [laws_FnExactWindowPut.j0, Bool.not_true, Bool.false_eq_true, if_false, laws_markWindow.f, hm2, Option.bind_some, laws_heldWindow.f, held]
    rw [if_neg (by omega)]
    simp only [Option.bind_some]
    rw [if_neg (by omega), if_pos trivial, toWindow_eq s n c l hl _ (by omega)]
    simp only [Option.bind_some, laws_toMark.f]
    rw [h2']
    simp only [Option.bind_some]
    rw [eqWindow_same a' b' c' m (by omega) _ (by omega)]
    have hneg : ¬ (1 + 2 * (m.length : Int) < 0) := by omega
    simp [hneg]
  · rw [if_neg hsz, if_pos (by omega)]
end Go.Proofs.Ytpgaoihgohlmkaa.Pure
