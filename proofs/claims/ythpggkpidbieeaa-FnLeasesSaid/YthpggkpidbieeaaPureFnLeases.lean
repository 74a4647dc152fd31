/- Leases put, live, dropped and summed as the law FnLeases says, for all bytes. Conditions: none beyond the statement's own bounds. -/
import Derived.Test.YthpggkpidbieeaaXFnLeasesx11
namespace Go.Proofs.Ythpggkpidbieeaa.Pure
open Go.RowKit Go.Proofs.Ythpggkpidbieeaa.XFnLeases Go.Proofs.YthpggkpidbieeaaW.PrintWords Go.Proofs.YthpggkpidbieeaaW.PrintLast
set_option linter.unusedSimpArgs false
set_option linter.unusedVariables false

theorem wrap_small {x : Int} (h0 : -9223372036854775808 ≤ x) (h1 : x ≤ 9223372036854775807) : wrap64 x = x := by
  unfold wrap64
  omega
theorem i64_range {x : Int} (h : (Lit.int .i64 x).wf = true) : -9223372036854775808 ≤ x ∧ x ≤ 9223372036854775807 := by
  simp [Lit.wf, IntKind.min, IntKind.max, IntKind.bits, IntKind.signed] at h
  omega
theorem u64_range {x : Int} (h : (Lit.int .u64 x).wf = true) : 0 ≤ x ∧ x < 18446744073709551616 := by
  simp [Lit.wf, IntKind.min, IntKind.max, IntKind.bits, IntKind.signed] at h
  omega

theorem in_eq (a b c : Int) : impl_in.f a b c = some (decide (b ≤ a ∧ a ≤ c)) := by
  unfold impl_in.f
  by_cases h : b ≤ a <;> simp [h]

theorem isId_eq (a : Int) : impl_isId.f a = some (decide (1 ≤ a ∧ a ≤ 1000000)) := by simp [impl_isId.f, in_eq]
theorem isWant_eq (a : Int) : impl_isWant.f a = some (decide (0 ≤ a ∧ a ≤ 1125899906842624)) := by simp [impl_isWant.f, in_eq]
theorem l02Id_eq (a : Int) : spec_l02Id.f a = some (decide (1 ≤ a ∧ a ≤ 1000000)) := by
  unfold spec_l02Id.f
  by_cases h : a ≥ 1
  · rw [if_pos h]; simp; omega
  · rw [if_neg h]; simp; omega
theorem l02Want_eq (a : Int) : spec_l02Want.f a = some (decide (0 ≤ a ∧ a ≤ 1125899906842624)) := by
  unfold spec_l02Want.f
  by_cases h : a ≥ 0
  · rw [if_pos h]; simp; omega
  · rw [if_neg h]; simp; omega

theorem isTime_eq (a : Int) : impl_isTime.f a = some (decide (0 ≤ a ∧ a ≤ 1000000)) := by simp [impl_isTime.f, in_eq]
theorem l07Time_eq (a : Int) : spec_l07Time.f a = some (decide (0 ≤ a ∧ a ≤ 1000000)) := by
  unfold spec_l07Time.f
  by_cases h : a ≥ 0
  · rw [if_pos h]; simp; omega
  · rw [if_neg h]; simp; omega

/-- A right Lease. -/
def okLease (a b c : Int) : Bool := decide (1 ≤ a ∧ a ≤ 1000000) && (decide (0 ≤ b ∧ b ≤ 1125899906842624) && decide (0 ≤ c ∧ c ≤ 1000000))
theorem spec_lease_eq (a b c : Int) : spec_l07Lease.f a b c = some (okLease a b c) := by
  unfold spec_l07Lease.f okLease
  rw [l02Id_eq, l02Want_eq, l07Time_eq]
  by_cases h1 : 1 ≤ a ∧ a ≤ 1000000 <;> by_cases h2 : 0 ≤ b ∧ b ≤ 1125899906842624 <;> simp [h1, h2]
theorem impl_lease_eq (a b c : Int) : impl_Lease_isRight.f a b c = some (okLease a b c) := by
  unfold impl_Lease_isRight.f okLease
  rw [isId_eq, isWant_eq, isTime_eq]
  by_cases h1 : 1 ≤ a ∧ a ≤ 1000000 <;> by_cases h2 : 0 ≤ b ∧ b ≤ 1125899906842624 <;> simp [h1, h2]

theorem set_fill {α β : Type} (l : List α) (f : α → β) (z : β) (i : Nat) (h : i < l.length) : ((l.take i).map f ++ List.replicate (l.length - i) z).set i (f l[i]) = (l.take (i + 1)).map f ++ List.replicate (l.length - (i + 1)) z := by
  have e : l.length - i = (l.length - (i + 1)) + 1 := by omega
  have hl : ((l.take i).map f).length = i := by simp; omega
  rw [e, List.replicate_succ, List.set_append_right i (f l[i]) (by omega), hl, Nat.sub_self, List.set_cons_zero, List.take_succ_eq_append_getElem h, List.map_append]
  simp
theorem succ_cast (i : Nat) (h : i < 9223372036854775807) : wrap64 ((i : Int) + 1) = ((i + 1 : Nat) : Int) := by
  rw [wrap_small (by omega) (by omega)]
  omega

theorem pred_cast (i : Nat) (h : 0 < i) (h2 : i < 9223372036854775807) : wrap64 ((i : Int) - 1) = ((i - 1 : Nat) : Int) := by
  rw [wrap_small (by omega) (by omega)]
  omega

theorem rd33 (xs : List S33) (i : Nat) (h : i < xs.length) : rd_T33 xs (i : Int) = xs[i] := by
  unfold rd_T33
  rw [Int.toNat_natCast, List.getD_eq_getElem?_getD, List.getElem?_eq_getElem h]
  rfl

/-- What a right list asks at place j. -/
def leasesAt (l : List S33) (j : Nat) : Prop := (okLease (rd_T33 l j).f0 (rd_T33 l j).f1 (rd_T33 l j).f2 = true) ∧ (0 < j → (rd_T33 l ((j - 1 : Nat) : Int)).f0 < (rd_T33 l j).f0)
/-- Both loops over a list tell the same, but that the program looks at the length last. -/
theorem leases_loops (l : List S33) (hl : l.length < 9223372036854775807) : ∀ (d i : Nat), l.length - i = d → i ≤ l.length → ∃ b, (b = true → ∀ j : Nat, i ≤ j → j < l.length → leasesAt l j) ∧ ∀ k, d < k → spec_LeasesRight.l0 k l (i : Int) = some b ∧ impl_LeasesRight.l0 k l l (l.length : Int) (i : Int) = some (b && decide ((l.length : Int) ≤ 60)) := by
  intro d
  induction d with
  | zero =>
    intro i hd hi
    refine ⟨true, fun _ j h1 h2 => by omega, fun k hk => ?_⟩
    obtain ⟨k, rfl⟩ : ∃ m, k = m + 1 := ⟨k - 1, by omega⟩
    refine ⟨?_, ?_⟩
    · simp only [spec_LeasesRight.l0]; rw [if_neg (by omega)]
    · simp only [impl_LeasesRight.l0]; rw [if_neg (by omega)]; simp
  | succ d ih =>
    intro i hd hi
    obtain ⟨b, hbm, hb⟩ := ih (i + 1) (by omega) (by omega)
    have a1 : (i : Int) < (l.length : Int) := by omega
    have a2 : (0 : Int) ≤ (i : Int) := by omega
    by_cases h : okLease (rd_T33 l i).f0 (rd_T33 l i).f1 (rd_T33 l i).f2 = true
    · by_cases h0 : (i : Int) > 0
      · have a3 : (0 : Int) ≤ ((i - 1 : Nat) : Int) := by omega
        have a4 : ((i - 1 : Nat) : Int) < (l.length : Int) := by omega
        by_cases hc : (rd_T33 l i).f0 ≤ (rd_T33 l ((i - 1 : Nat) : Int)).f0
        · refine ⟨false, (fun h => by cases h), fun k hk => ?_⟩
          obtain ⟨k, rfl⟩ : ∃ m, k = m + 1 := ⟨k - 1, by omega⟩
          have hc' : (rd_T33 l ((i - 1 : Nat) : Int)).f0 ≥ (rd_T33 l i).f0 := hc
          simp only [spec_LeasesRight.l0, impl_LeasesRight.l0, a1, a2, if_true, spec_lease_eq, impl_lease_eq, Option.bind_some, h, h0, pred_cast i (by omega) (by omega), a3, a4, hc, hc']
          exact ⟨by first | rfl | trivial, by simp⟩
        · refine ⟨b, fun hbt j h1 h2 => ?_, fun k hk => ?_⟩
          · by_cases hj : j = i
            · rw [hj]; exact ⟨h, fun _ => by omega⟩
            · exact hbm hbt j (by omega) h2
          obtain ⟨k, rfl⟩ : ∃ m, k = m + 1 := ⟨k - 1, by omega⟩
          obtain ⟨h1, h2⟩ := hb k (by omega)
          have hc' : ¬ (rd_T33 l ((i - 1 : Nat) : Int)).f0 ≥ (rd_T33 l i).f0 := hc
          simp only [spec_LeasesRight.l0, impl_LeasesRight.l0, a1, a2, if_true, spec_lease_eq, impl_lease_eq, Option.bind_some, h, h0, pred_cast i (by omega) (by omega), a3, a4, hc, hc', if_false, succ_cast i (by omega), h1, h2]
          all_goals exact ⟨trivial, trivial⟩
      · refine ⟨b, fun hbt j h1 h2 => ?_, fun k hk => ?_⟩
        · by_cases hj : j = i
          · rw [hj]; exact ⟨h, fun h => absurd h (by omega)⟩
          · exact hbm hbt j (by omega) h2
        obtain ⟨k, rfl⟩ : ∃ m, k = m + 1 := ⟨k - 1, by omega⟩
        obtain ⟨h1, h2⟩ := hb k (by omega)
        simp only [spec_LeasesRight.l0, impl_LeasesRight.l0, a1, a2, if_true, spec_lease_eq, impl_lease_eq, Option.bind_some, h, h0, if_false, succ_cast i (by omega), h1, h2]
        all_goals exact ⟨trivial, trivial⟩
    · refine ⟨false, (fun h => by cases h), fun k hk => ?_⟩
      obtain ⟨k, rfl⟩ : ∃ m, k = m + 1 := ⟨k - 1, by omega⟩
      simp only [spec_LeasesRight.l0, impl_LeasesRight.l0, a1, a2, if_true, spec_lease_eq, impl_lease_eq, Option.bind_some, h]
      exact ⟨by first | rfl | trivial, by simp⟩
theorem leases_same (l : List S33) (hl : l.length < 9223372036854775807) : ∃ b, (b = true → l.length ≤ 60 ∧ ∀ j : Nat, j < l.length → leasesAt l j) ∧ ∀ k, l.length < k → spec_LeasesRight.f k l = some b ∧ impl_LeasesRight.f k l = some b := by
  obtain ⟨b, hbm, hb⟩ := leases_loops l hl l.length 0 (by omega) (by omega)
  by_cases h : (l.length : Int) > 60
  · refine ⟨false, by simp, fun k hk => ?_⟩
    obtain ⟨h1, h2⟩ := hb k hk
    have h2' : impl_LeasesRight.l0 k l l (l.length : Int) 0 = some (b && decide ((l.length : Int) ≤ 60)) := h2
    unfold spec_LeasesRight.f impl_LeasesRight.f
    rw [h2', if_pos h]
    exact ⟨rfl, by simp; omega⟩
  · refine ⟨b, fun hbt => ⟨by omega, fun j hj => hbm hbt j (by omega) hj⟩, fun k hk => ?_⟩
    obtain ⟨h1, h2⟩ := hb k hk
    have h1' : spec_LeasesRight.l0 k l 0 = some b := h1
    have h2' : impl_LeasesRight.l0 k l l (l.length : Int) 0 = some (b && decide ((l.length : Int) ≤ 60)) := h2
    unfold spec_LeasesRight.f impl_LeasesRight.f
    rw [h1', h2', if_neg h]
    exact ⟨rfl, by simp; omega⟩

theorem bs_spec_Lease (key : Nat → Int) (t : Int) (N : Nat) (mono : ∀ p q, p < q → q < N → key p < key q) : ∀ (n i j : Nat), i ≤ j → j ≤ N → j - i < n →
    i ≤ bsI_Lease key t n i j ∧ bsI_Lease key t n i j ≤ j ∧ (∀ q, i ≤ q → q < bsI_Lease key t n i j → key q < t) ∧ (∀ q, bsI_Lease key t n i j ≤ q → q < j → ¬ key q < t) := by
  intro n
  induction n with
  | zero => intro i j _ _ h; omega
  | succ n ih =>
    intro i j hij hj hn
    unfold bsI_Lease
    by_cases hlt : i < j
    · rw [if_pos hlt]
      have hm : i ≤ (i + j) / 2 ∧ (i + j) / 2 < j := by omega
      generalize (i + j) / 2 = h at hm
      by_cases hk : key h < t
      · rw [if_pos hk]
        obtain ⟨a1, a2, a3, a4⟩ := ih (h + 1) j (by omega) hj (by omega)
        refine ⟨by omega, a2, fun q q1 q2 => ?_, a4⟩
        by_cases hq : q < h
        · have := mono q h hq (by omega); omega
        · by_cases hq2 : q = h
          · rw [hq2]; exact hk
          · exact a3 q (by omega) q2
      · rw [if_neg hk]
        obtain ⟨a1, a2, a3, a4⟩ := ih i h (by omega) (by omega) (by omega)
        refine ⟨a1, by omega, a3, fun q q1 q2 => ?_⟩
        by_cases hq : q < h
        · exact a4 q q1 hq
        · by_cases hq2 : q = h
          · rw [hq2]; exact hk
          · have := mono h q (by omega) (by omega); omega
    · rw [if_neg hlt]
      exact ⟨Nat.le_refl _, hij, fun q q1 q2 => by omega, fun q q1 q2 => by omega⟩
/-- A list whose Ids rise. -/
def UpLease (l : List S33) : Prop := ∀ p q : Nat, p < q → q < l.length → (rd_T33 l (p : Int)).f0 < (rd_T33 l (q : Int)).f0
theorem at_Lease_spec (l : List S33) (t : Int) (hu : UpLease l) : at_Lease l t ≤ l.length ∧ (∀ q : Nat, q < at_Lease l t → (rd_T33 l (q : Int)).f0 < t) ∧ ∀ q : Nat, at_Lease l t ≤ q → q < l.length → t ≤ (rd_T33 l (q : Int)).f0 := by
  obtain ⟨_, a2, a3, a4⟩ := bs_spec_Lease (keys_Lease l) t l.length (fun p q h1 h2 => hu p q h1 h2) (l.length + 1) 0 l.length (Nat.zero_le _) (Nat.le_refl _) (by omega)
  exact ⟨a2, fun q hq => a3 q (Nat.zero_le _) hq, fun q h1 h2 => Int.not_lt.1 (a4 q h1 h2)⟩
theorem is_Lease_iff (l : List S33) (t : Int) (hu : UpLease l) : is_Lease l t = true ↔ ∃ q : Nat, q < l.length ∧ (rd_T33 l (q : Int)).f0 = t := by
  obtain ⟨a1, a2, a3⟩ := at_Lease_spec l t hu
  unfold is_Lease
  rw [Bool.and_eq_true, decide_eq_true_iff, beq_iff_eq]
  constructor
  · rintro ⟨h1, h2⟩
    exact ⟨_, h1, h2⟩
  · rintro ⟨q, h1, h2⟩
    have h3 : ¬ q < at_Lease l t := fun h => by have := a2 q h; omega
    have h4 := a3 (at_Lease l t) (Nat.le_refl _) (by omega)
    refine ⟨by omega, ?_⟩
    show (rd_T33 l ((at_Lease l t : Nat) : Int)).f0 = t
    by_cases h5 : at_Lease l t = q
    · rw [h5]; exact h2
    · have := hu (at_Lease l t) q (by omega) h1
      omega

theorem w64 (x : Int) : IntKind.u64.wrap x = x % 18446744073709551616 := by simp [IntKind.wrap, IntKind.bits, IntKind.signed]

/-! The drawn numbers: whatever the code, each draw answers, within its bounds. -/
def St (l : List Int) (a : Int) : Prop := l.length ≤ 140737488351232 ∧ 0 ≤ a ∧ a ≤ 140737488351232
theorem u64w (x : Int) : 0 ≤ IntKind.u64.wrap x ∧ IntKind.u64.wrap x < 18446744073709551616 := by rw [w64]; omega
theorem n_ok {l : List Int} {a : Int} (h : St l a) (m z t : Int) (ht : t ≤ 4611686018427387904) : ∃ r a' m', spec_l01Src_n.f l a m z t = some (r, a', m', z) ∧ St l a' ∧ 0 ≤ r ∧ (r = 0 ∨ r < t) := by
  unfold St at h
  obtain ⟨h1, h2, h3⟩ := h
  unfold spec_l01Src_n.f
  by_cases c1 : t ≤ 1
  · rw [if_pos c1]
    exact ⟨0, a, m, rfl, ⟨h1, h2, h3⟩, by omega, Or.inl rfl⟩
  · rw [if_neg c1]
    have wt : IntKind.u64.wrap t = t := by rw [w64]; omega
    have hr : ∀ x, 0 ≤ wrap64 (Int.tmod (IntKind.u64.wrap x) t) ∧ wrap64 (Int.tmod (IntKind.u64.wrap x) t) < t := fun x => by
      have b := u64w x
      generalize IntKind.u64.wrap x = y at *
      rw [Int.tmod_eq_emod_of_nonneg b.1]
      have e1 := Int.emod_nonneg y (show t ≠ 0 by omega)
      have e2 := Int.emod_lt_of_pos y (show 0 < t by omega)
      rw [wrap_small (by omega) (by omega)]
      exact ⟨e1, e2⟩
    by_cases c2 : a < (l.length : Int)
    · rw [if_pos c2, if_pos h2, wt, if_neg (show ¬ t = 0 by omega)]
      have e := wrap_small (x := a + 1) (by omega) (by omega)
      exact ⟨_, _, _, rfl, ⟨h1, by rw [e]; omega, by rw [e]; omega⟩, (hr _).1, Or.inr (hr _).2⟩
    · rw [if_neg c2, wt, if_neg (show ¬ t = 0 by omega)]
      exact ⟨_, _, _, rfl, ⟨h1, h2, h3⟩, (hr _).1, Or.inr (hr _).2⟩
theorem one_ok {l : List Int} {a : Int} (h : St l a) (m z t : Int) (ht : t ≤ 4611686018427387904) : ∃ b a' m', spec_l01Src_one.f l a m z t = some (b, a', m', z) ∧ St l a' := by
  obtain ⟨r, a', m', e, h', _, _⟩ := n_ok h m z t ht
  unfold spec_l01Src_one.f
  rw [e]
  exact ⟨_, _, _, rfl, h'⟩

theorem source_loop (l : List Int) (hl : l.length ≤ 140737488351232) : ∀ (d i k : Nat) (m : Int), 64 - i = d → i ≤ 64 → d < k → ∃ m' z, spec_l01Source.l0 k l (i : Int) l 0 m 0 = some (l, 0, m', z) ∧ 0 ≤ z ∧ z ≤ 12 := by
  have e := wrap_small (x := (l.length : Int) / 20) (by omega) (by omega)
  intro d
  induction d with
  | zero =>
    intro i k m hd hi hk
    obtain ⟨k, rfl⟩ : ∃ j, k = j + 1 := ⟨k - 1, by omega⟩
    rw [spec_l01Source.l0, if_neg (show ¬ (i : Int) < 64 by omega), e]
    (repeat' split) <;> exact ⟨_, _, rfl, by omega, by omega⟩
  | succ d ih =>
    intro i k m hd hi hk
    obtain ⟨k, rfl⟩ : ∃ j, k = j + 1 := ⟨k - 1, by omega⟩
    rw [spec_l01Source.l0, if_pos (show (i : Int) < 64 by omega), if_pos (show 0 ≤ (i : Int) by omega), wrap_small (show -9223372036854775808 ≤ (i : Int) + 1 by omega) (show (i : Int) + 1 ≤ 9223372036854775807 by omega), e]
    by_cases c : (i : Int) < (l.length : Int)
    · rw [if_pos c]
      exact ih (i + 1) k _ (by omega) (by omega) (by omega)
    · rw [if_neg c]
      (repeat' split) <;> exact ⟨_, _, rfl, by omega, by omega⟩
theorem source_ok (l : List Int) (hl : l.length ≤ 140737488351232) (k : Nat) (hk : 70 < k) : ∃ m z, spec_l01Source.f k l = some (l, 0, m, z) ∧ 0 ≤ z ∧ z ≤ 12 := source_loop l hl 64 0 k _ rfl (by omega) (by omega)
theorem want_ok {l : List Int} {a : Int} (h : St l a) (m z : Int) : ∃ r a' m', spec_l01Src_l02WantOf.f l a m z = some (r, a', m', z) ∧ St l a' := by
  obtain ⟨r, a1, m1, e, h1, _, _⟩ := n_ok h m z 12 (by omega)
  unfold spec_l01Src_l02WantOf.f
  rw [e]
  simp only [Option.bind_some]
  obtain ⟨r2, a2, m2, e2, h2, _, _⟩ := n_ok h1 m1 z 1125899906842624 (by omega)
  obtain ⟨r3, a3, m3, e3, h3, _, _⟩ := n_ok h1 m1 z 60 (by omega)
  by_cases c0 : r = 0
  · rw [if_pos c0]; exact ⟨_, _, _, rfl, h1⟩
  rw [if_neg c0]
  by_cases c1 : r = 1
  · rw [if_pos c1, e2]; exact ⟨_, _, _, rfl, h2⟩
  rw [if_neg c1]
  by_cases c2 : r = 2
  · rw [if_pos c2]; exact ⟨_, _, _, rfl, h1⟩
  rw [if_neg c2, e3]
  exact ⟨_, _, _, rfl, h3⟩
theorem edge_ok {l : List Int} {a : Int} (h : St l a) (m z : Int) : ∃ r a' m', spec_l01Src_edge.f l a m z = some (r, a', m', z) ∧ St l a' := by
  obtain ⟨r, a1, m1, e, h1, r0, r1⟩ := n_ok h m z 14 (by omega)
  unfold spec_l01Src_edge.f
  rw [e]
  simp only [Option.bind_some, List.length_cons, List.length_nil]
  rw [if_pos r0, if_pos (by omega)]
  exact ⟨_, _, _, rfl, h1⟩
theorem leases_j2 {l : List Int} {a : Int} (h : St l a) (m z : Int) (x : List S33) (b : Bool) (hb : b = true → 0 < x.length) (hx : x.length ≤ 100) (k : Nat) (hk : 0 < k) : ∃ v a' m', spec_l01Src_l07Leases.j2 k x b l a m z = some (v, a', m', z) ∧ St l a' ∧ v.length ≤ 100 := by
  obtain ⟨k, rfl⟩ : ∃ j, k = j + 1 := ⟨k - 1, by omega⟩
  cases b with
  | false => exact ⟨_, _, _, rfl, h, hx⟩
  | true =>
    have hp := hb rfl
    obtain ⟨i, a1, m1, e1, h1, i0, i1⟩ := n_ok h m z (x.length : Int) (by omega)
    obtain ⟨r, a2, m2, e2, h2, r0, r1⟩ := n_ok h1 m1 z 3 (by omega)
    obtain ⟨s, a3, m3, e3, h3, s0, s1⟩ := n_ok h2 m2 z 2 (by omega)
    have c1 : s < 2 := by omega
    have c2 : i < (x.length : Int) := by omega
    simp only [spec_l01Src_l07Leases.j2, if_true, e1, e2, e3, Option.bind_some, List.length_cons, List.length_nil]
    have c3 : s < ((0 + 1 + 1 : Nat) : Int) := by omega
    simp only [s0, i0, c2, c3, if_true]
    by_cases q0 : r = 0
    · rw [if_pos q0]; exact ⟨_, _, _, rfl, h3, by simp; omega⟩
    rw [if_neg q0]
    by_cases q1 : r = 1
    · rw [if_pos q1]; exact ⟨_, _, _, rfl, h3, by simp; omega⟩
    rw [if_neg q1]
    exact ⟨_, _, _, rfl, h3, by simp; omega⟩
theorem leases_l0 {l : List Int} (z : Int) : ∀ (d k : Nat) (a m p : Int) (x : List S33), St l a → d + x.length ≤ 100 → d + 1 < k → ∃ v a' m', spec_l01Src_l07Leases.l0 k x (d : Int) p l a m z = some (v, a', m', z) ∧ St l a' ∧ v.length ≤ 100 := by
  intro d
  induction d with
  | zero =>
    intro k a m p x h hx hk
    obtain ⟨k, rfl⟩ : ∃ j, k = j + 1 := ⟨k - 1, by omega⟩
    obtain ⟨b, a1, m1, e1, h1⟩ := one_ok h m z 15 (by omega)
    simp only [spec_l01Src_l07Leases.l0]
    rw [if_neg (by omega), e1]
    simp only [Option.bind_some]
    cases b with
    | true =>
      rw [if_pos rfl]
      exact leases_j2 h1 m1 z x _ (fun hd => by have := of_decide_eq_true hd; omega) (by omega) k (by omega)
    | false =>
      rw [if_neg (by decide)]
      exact leases_j2 h1 m1 z x false (fun hd => by cases hd) (by omega) k (by omega)
  | succ d ih =>
    intro k a m p x h hx hk
    obtain ⟨k, rfl⟩ : ∃ j, k = j + 1 := ⟨k - 1, by omega⟩
    obtain ⟨r, a1, m1, e1, h1, _, _⟩ := n_ok h m z 3 (by omega)
    obtain ⟨r2, a2, m2, e2, h2⟩ := want_ok h1 m1 z
    obtain ⟨r3, a3, m3, e3, h3, _, _⟩ := n_ok h2 m2 z 30 (by omega)
    simp only [spec_l01Src_l07Leases.l0]
    rw [if_pos (by omega), e1]
    simp only [Option.bind_some]
    rw [e2]
    simp only [Option.bind_some]
    rw [e3]
    simp only [Option.bind_some]
    rw [if_pos (by omega), show wrap64 (((d + 1 : Nat) : Int) - 1) = (d : Int) by unfold wrap64; omega]
    exact ih k a3 m3 _ _ h3 (by simp; omega) (by omega)
theorem l07_ok {l : List Int} {a : Int} (h : St l a) (m z : Int) (hz0 : 0 ≤ z) (hz : z ≤ 12) (k : Nat) (hk : 100 < k) : ∃ v a' m', spec_l01Src_l07Leases.f k l a m z = some (v, a', m', z) ∧ St l a' ∧ v.length ≤ 100 := by
  obtain ⟨k, rfl⟩ : ∃ j, k = j + 1 := ⟨k - 1, by omega⟩
  have ez : wrap64 (5 + z) = 5 + z := wrap_small (by omega) (by omega)
  obtain ⟨r, a1, m1, e1, h1, r0, r1⟩ := n_ok h m z (5 + z) (by omega)
  obtain ⟨b, a2, m2, e2, h2⟩ := one_ok h1 m1 z 40 (by omega)
  obtain ⟨s, a3, m3, e3, h3, s0, s1⟩ := n_ok h2 m2 z 3 (by omega)
  unfold spec_l01Src_l07Leases.f
  rw [ez]
  simp only [Option.bind_some]
  rw [e1]
  simp only [Option.bind_some]
  rw [e2]
  simp only [Option.bind_some]
  cases b with
  | true =>
    rw [if_pos rfl, e3]
    simp only [Option.bind_some, spec_l01Src_l07Leases.j0]
    rw [show wrap64 (59 + s) = ((59 + s).toNat : Int) by rw [wrap_small (by omega) (by omega)]; omega]
    exact leases_l0 z _ k a3 m3 _ _ h3 (by simp; omega) (by omega)
  | false =>
    rw [if_neg (by decide)]
    simp only [spec_l01Src_l07Leases.j0]
    rw [show r = (r.toNat : Int) by omega]
    exact leases_l0 z _ k a2 m2 _ _ h2 (by simp; omega) (by omega)
theorem draw_ok (l : List Int) (hl : l.length ≤ 140737488351232) : ∃ v x y t, v.length ≤ 100 ∧ ∀ k, 101 < k → spec_DrawLeasePut.f k l = some (v, x, y, t) := by
  have hs : St l 0 := ⟨hl, by omega, by omega⟩
  have one : ∀ k, 101 < k → ∃ v x y t, v.length ≤ 100 ∧ spec_DrawLeasePut.f k l = some (v, x, y, t) := fun k hk => by
    obtain ⟨m, z, e, z0, z1⟩ := source_ok l hl k (by omega)
    unfold spec_DrawLeasePut.f
    rw [e]
    simp only [Option.bind_some]
    obtain ⟨v, a1, m1, e1, h1, hv⟩ := l07_ok hs m z z0 z1 k (by omega)
    rw [e1]
    simp only [Option.bind_some]
    obtain ⟨r2, a2, m2, e2, h2, _, _⟩ := n_ok h1 m1 z 40 (by omega)
    rw [e2]
    simp only [Option.bind_some]
    obtain ⟨r3, a3, m3, e3, h3⟩ := want_ok h2 m2 z
    rw [e3]
    simp only [Option.bind_some]
    obtain ⟨r4, a4, m4, e4, h4, _, _⟩ := n_ok h3 m3 z 30 (by omega)
    rw [e4]
    simp only [Option.bind_some]
    obtain ⟨b, a5, m5, e5, h5⟩ := one_ok h4 m4 z 15 (by omega)
    rw [e5]
    simp only [Option.bind_some]
    cases b with
    | false => rw [if_neg (by decide)]; exact ⟨_, _, _, _, hv, rfl⟩
    | true =>
      rw [if_pos rfl]
      obtain ⟨r6, a6, m6, e6, h6⟩ := edge_ok h5 m5 z
      rw [e6]
      simp only [Option.bind_some]
      obtain ⟨r7, a7, m7, e7, h7⟩ := edge_ok h6 m6 z
      rw [e7]
      simp only [Option.bind_some]
      obtain ⟨r8, a8, m8, e8, h8⟩ := edge_ok h7 m7 z
      rw [e8]
      exact ⟨_, _, _, _, hv, rfl⟩
  obtain ⟨v, x, y, t, hv, e⟩ := one 102 (by omega)
  have up : ∀ j, spec_DrawLeasePut.f (102 + j) l = some (v, x, y, t) := fun j => by
    induction j with
    | zero => exact e
    | succ j ih => exact spec_DrawLeasePut.mono l (102 + j) _ ih
  refine ⟨v, x, y, t, hv, fun k hk => ?_⟩
  have := up (k - 102)
  rwa [show 102 + (k - 102) = k by omega] at this

/-! Right lists, as lists. -/
def okL (x : S33) : Prop := okLease x.f0 x.f1 x.f2 = true
def Right (l : List S33) : Prop := l.length ≤ 60 ∧ (∀ x ∈ l, okL x) ∧ l.Pairwise (fun x y => x.f0 < y.f0)
theorem okL_nums {x : S33} (h : okL x) : 1 ≤ x.f0 ∧ 0 ≤ x.f1 ∧ x.f1 ≤ 1125899906842624 := by
  unfold okL okLease at h
  simp only [Bool.and_eq_true, decide_eq_true_iff] at h
  omega
theorem up_lease (l : List S33) (h : ∀ j : Nat, j < l.length → leasesAt l j) : UpLease l := by
  intro p q
  induction q with
  | zero => intro h1; omega
  | succ q ih =>
    intro h1 h2
    have h3 := (h (q + 1) h2).2 (by omega)
    rw [show q + 1 - 1 = q by omega] at h3
    by_cases hp : p = q
    · subst hp; omega
    · have := ih (by omega) (by omega)
      omega
theorem right_of {l : List S33} (h60 : l.length ≤ 60) (h : ∀ j : Nat, j < l.length → leasesAt l j) : Right l ∧ UpLease l := by
  have hu := up_lease l h
  refine ⟨⟨h60, fun x hx => ?_, List.pairwise_iff_getElem.2 fun i j hi hj hij => ?_⟩, hu⟩
  · obtain ⟨j, hj, rfl⟩ := List.mem_iff_getElem.1 hx
    have := (h j hj).1
    rw [rd33 l j hj] at this
    exact this
  · have := hu i j hij hj
    rw [rd33 l i hi, rd33 l j hj] at this
    exact this
theorem right_loop (l : List S33) (h : Right l) : ∀ (d i k : Nat), l.length - i = d → i ≤ l.length → d < k → impl_LeasesRight.l0 k l l (l.length : Int) (i : Int) = some true := by
  obtain ⟨h60, hok, hup⟩ := h
  intro d
  induction d with
  | zero =>
    intro i k hd hi hk
    obtain ⟨k, rfl⟩ : ∃ m, k = m + 1 := ⟨k - 1, by omega⟩
    simp only [impl_LeasesRight.l0]; rw [if_neg (by omega)]; simp; omega
  | succ d ih =>
    intro i k hd hi hk
    obtain ⟨k, rfl⟩ : ∃ m, k = m + 1 := ⟨k - 1, by omega⟩
    have hlt : i < l.length := by omega
    have a1 : (i : Int) < (l.length : Int) := by omega
    have a2 : (0 : Int) ≤ (i : Int) := by omega
    have h1 := ih (i + 1) k (by omega) (by omega) (by omega)
    have ok : okLease l[i].f0 l[i].f1 l[i].f2 = true := hok _ (List.getElem_mem hlt)
    by_cases h0 : (i : Int) > 0
    · have hlt2 : i - 1 < l.length := by omega
      have a3 : (0 : Int) ≤ ((i - 1 : Nat) : Int) := by omega
      have a4 : ((i - 1 : Nat) : Int) < (l.length : Int) := by omega
      have hc : ¬ (l[i - 1].f0 ≥ l[i].f0) := by
        have := List.pairwise_iff_getElem.1 hup (i - 1) i hlt2 hlt (by omega)
        omega
      simp only [impl_LeasesRight.l0, a1, a2, if_true, impl_lease_eq, Option.bind_some, rd33 l i hlt, ok, h0, pred_cast i (by omega) (by omega), a3, a4, rd33 l (i - 1) hlt2, hc, if_false, succ_cast i (by omega), h1]
    · simp only [impl_LeasesRight.l0, a1, a2, if_true, impl_lease_eq, Option.bind_some, rd33 l i hlt, ok, h0, if_false, succ_cast i (by omega), h1]
theorem right_eq (l : List S33) (h : Right l) (k : Nat) (hk : 60 < k) : impl_LeasesRight.f k l = some true := right_loop l h l.length 0 k (by omega) (by omega) (by have := h.1; omega)
theorem right_filter {l : List S33} (h : Right l) (p : S33 → Bool) : Right (l.filter p) :=
  ⟨Nat.le_trans (List.length_filter_le _ _) h.1, fun x hx => h.2.1 x (List.mem_filter.1 hx).1, h.2.2.filter p⟩

/-! Sums. -/
def val (now : Int) (x : S33) : Int := if x.f2 > now then x.f1 else 0
def sm (now : Int) (l : List S33) : Int := (l.map (val now)).sum
def ne_ (id : Int) (x : S33) : Bool := !(x.f0 == id)
def oth (now id : Int) (l : List S33) : Int := sm now (l.filter (ne_ id))
theorem sm_cons (now : Int) (x : S33) (l : List S33) : sm now (x :: l) = val now x + sm now l := by simp [sm]
theorem sm_app (now : Int) (l m : List S33) : sm now (l ++ m) = sm now l + sm now m := by simp [sm]
theorem val_range {x : S33} (h : okL x) (now : Int) : 0 ≤ val now x ∧ val now x ≤ 1125899906842624 := by
  have := okL_nums h
  unfold val
  split <;> omega
theorem sm_range (now : Int) : ∀ l : List S33, (∀ x ∈ l, okL x) → 0 ≤ sm now l ∧ sm now l ≤ 1125899906842624 * l.length
  | [], _ => by simp [sm]
  | x :: l, h => by
    have h1 := sm_range now l (fun y hy => h y (List.mem_cons_of_mem _ hy))
    have h2 := val_range (h x (List.mem_cons_self ..)) now
    rw [sm_cons, List.length_cons]
    omega
theorem sm_live (now : Int) : ∀ l : List S33, sm now (l.filter (fun x => !(decide (x.f2 ≤ now)))) = sm now l
  | [] => rfl
  | x :: l => by
    rw [List.filter_cons, sm_cons]
    by_cases c : x.f2 ≤ now
    · rw [if_neg (by simpa using c), sm_live now l, show val now x = 0 by unfold val; rw [if_neg (by omega)]]; omega
    · rw [if_pos (by simpa using c), sm_cons, sm_live now l]
theorem oth_all (now id : Int) (l : List S33) (h : ∀ x ∈ l, x.f0 ≠ id) : oth now id l = sm now l := by
  unfold oth
  rw [List.filter_eq_self.2 fun x hx => by unfold ne_; simpa using h x hx]
theorem drop_cons_oth (now id : Int) (x : S33) (l : List S33) : oth now id (x :: l) = (if x.f0 = id then 0 else val now x) + oth now id l := by
  unfold oth
  rw [List.filter_cons]
  by_cases c : x.f0 = id
  · rw [if_neg (by unfold ne_; simpa using c), if_pos c]; omega
  · rw [if_pos (by unfold ne_; simpa using c), if_neg c, sm_cons]
theorem sum_loop (l : List S33) (h60 : l.length ≤ 60) (hok : ∀ x ∈ l, okL x) (now id : Int) : ∀ (d i k : Nat) (s : Int), l.length - i = d → i ≤ l.length → d < k → 0 ≤ s → s ≤ 1125899906842624 * i →
    impl_leased.l0 k now id s l (l.length : Int) (i : Int) = some (s + oth now id (l.drop i)) ∧ spec_LeaseOthers.l0 k l now id s (i : Int) = some (s + oth now id (l.drop i)) := by
  intro d
  induction d with
  | zero =>
    intro i k s hd hi hk s0 s1
    obtain ⟨k, rfl⟩ : ∃ m, k = m + 1 := ⟨k - 1, by omega⟩
    obtain rfl : i = l.length := by omega
    simp only [impl_leased.l0, spec_LeaseOthers.l0, List.drop_length]
    rw [if_neg (by omega)]
    simp [oth, sm]
  | succ d ih =>
    intro i k s hd hi hk s0 s1
    obtain ⟨k, rfl⟩ : ∃ m, k = m + 1 := ⟨k - 1, by omega⟩
    have hlt : i < l.length := by omega
    have a1 : (i : Int) < (l.length : Int) := by omega
    have a2 : (0 : Int) ≤ (i : Int) := by omega
    have e : l.drop i = l[i] :: l.drop (i + 1) := List.drop_eq_getElem_cons hlt
    have ok := okL_nums (hok _ (List.getElem_mem hlt))
    have b1 := ih (i + 1) k s (by omega) (by omega) (by omega) s0 (by omega)
    have b2 := ih (i + 1) k (s + l[i].f1) (by omega) (by omega) (by omega) (by omega) (by omega)
    have ew : wrap64 (s + l[i].f1) = s + l[i].f1 := wrap_small (by omega) (by omega)
    rw [e, drop_cons_oth]
    simp only [impl_leased.l0, spec_LeaseOthers.l0, a1, a2, if_true, rd33 l i hlt, succ_cast i (by omega)]
    by_cases c1 : l[i].f2 > now
    · have ev : val now l[i] = l[i].f1 := by unfold val; rw [if_pos c1]
      simp only [c1, if_true]
      by_cases c2 : l[i].f0 = id
      · simp only [c2, if_true]
        rw [Int.zero_add]
        exact b1
      · simp only [c2, if_false, ew, ev]
        rw [← Int.add_assoc]
        exact b2
    · have ev : val now l[i] = 0 := by unfold val; rw [if_neg c1]
      simp only [c1, if_false, ev]
      rw [show (if l[i].f0 = id then (0 : Int) else 0) = 0 by split <;> rfl, Int.zero_add]
      exact b1
theorem leased_eq {l : List S33} (h : Right l) (now id : Int) (k : Nat) (hk : 60 < k) : impl_leased.f k l now id = some (oth now id l) ∧ spec_LeaseOthers.l0 k l now id 0 0 = some (oth now id l) := by
  have := sum_loop l h.1 h.2.1 now id l.length 0 k 0 (by omega) (by omega) (by have := h.1; omega) (by omega) (by omega)
  rw [List.drop_zero, Int.zero_add] at this
  exact this
theorem others_eq {l : List S33} (h : Right l) (now id : Int) (k : Nat) (hk : 60 < k) : impl_LeaseOthers.f k l now id = some (oth now id l) := by
  unfold impl_LeaseOthers.f
  rw [right_eq l h k hk]
  simp [(leased_eq h now id k hk).1]
theorem sumof_eq {l : List S33} (h : Right l) (now : Int) (k : Nat) (hk : 60 < k) : impl_LeaseSum.f k l now = some (sm now l) := by
  unfold impl_LeaseSum.f
  rw [others_eq h now 0 k hk, oth_all now 0 l fun x hx => by have := okL_nums (h.2.1 x hx); omega]
  rfl
/-- The list put in. -/
def T_ (l : List S33) (id b c : Int) : List S33 := l.take (at_Lease l id) ++ (⟨id, b, c⟩ : S33) :: (if is_Lease l id = true then l.drop (at_Lease l id + 1) else l.drop (at_Lease l id))
theorem put_facts (l : List S33) (hr : Right l) (hu : UpLease l) (h60 : l.length < 60) (id b c : Int) (hok : okLease id b c = true) :
    Right (T_ l id b c) ∧ (∀ now, sm now (T_ l id b c) = oth now id l + val now ⟨id, b, c⟩) ∧ (∀ now, oth now id (T_ l id b c) = oth now id l) := by
  obtain ⟨b1, b2, b3⟩ := at_Lease_spec l id hu
  have his : is_Lease l id = (decide (at_Lease l id < l.length) && (keys_Lease l (at_Lease l id) == id)) := rfl
  -- the parts
  obtain ⟨A, C, B, hl, hA, hB, hC, hT⟩ : ∃ A C B, l = A ++ C ++ B ∧ (∀ x ∈ A, x.f0 < id) ∧ (∀ x ∈ B, id < x.f0) ∧ (∀ x ∈ C, x.f0 = id) ∧ T_ l id b c = A ++ (⟨id, b, c⟩ : S33) :: B := by
    have hA : ∀ x ∈ l.take (at_Lease l id), x.f0 < id := fun x hx => by
      obtain ⟨j, hj, rfl⟩ := List.mem_iff_getElem.1 hx
      have hj' : j < at_Lease l id ∧ j < l.length := by rw [List.length_take] at hj; omega
      have := b2 j hj'.1
      rw [rd33 l j hj'.2] at this
      rw [List.getElem_take]
      exact this
    cases hi : is_Lease l id with
    | true =>
      rw [hi] at his
      have hh := his.symm
      simp only [Bool.and_eq_true, decide_eq_true_iff, beq_iff_eq] at hh
      obtain ⟨hlt, hk⟩ := hh
      have hk2 : l[at_Lease l id].f0 = id := by rw [← rd33 l _ hlt]; exact hk
      refine ⟨l.take (at_Lease l id), [l[at_Lease l id]], l.drop (at_Lease l id + 1), ?_, hA, fun x hx => ?_, fun x hx => ?_, ?_⟩
      · have e : l.drop (at_Lease l id) = l[at_Lease l id] :: l.drop (at_Lease l id + 1) := List.drop_eq_getElem_cons hlt
        rw [List.append_assoc, List.singleton_append, ← e, List.take_append_drop]
      · obtain ⟨j, hj, rfl⟩ := List.mem_iff_getElem.1 hx
        rw [List.length_drop] at hj
        rw [List.getElem_drop]
        have := List.pairwise_iff_getElem.1 hr.2.2 (at_Lease l id) (at_Lease l id + 1 + j) hlt (by omega) (by omega)
        omega
      · rw [List.mem_singleton] at hx; rw [hx]; exact hk2
      · unfold T_; rw [hi, if_pos rfl]
    | false =>
      refine ⟨l.take (at_Lease l id), [], l.drop (at_Lease l id), by simp, hA, fun x hx => ?_, fun x hx => (by cases hx), by unfold T_; rw [hi, if_neg (by decide)]⟩
      obtain ⟨j, hj, rfl⟩ := List.mem_iff_getElem.1 hx
      rw [List.length_drop] at hj
      rw [List.getElem_drop]
      have hge := b3 (at_Lease l id + j) (by omega) (by omega)
      rw [rd33 l (at_Lease l id + j) (by omega)] at hge
      by_cases he : l[at_Lease l id + j].f0 = id
      · exfalso
        have := (is_Lease_iff l id hu).2 ⟨at_Lease l id + j, by omega, by rw [rd33 l (at_Lease l id + j) (by omega)]; exact he⟩
        rw [hi] at this; cases this
      · omega
  obtain ⟨_, hall, hpw⟩ := hr
  rw [hl] at hall hpw h60
  have fA : A.filter (ne_ id) = A := List.filter_eq_self.2 fun x hx => by have := hA x hx; unfold ne_; simp; omega
  have fB : B.filter (ne_ id) = B := List.filter_eq_self.2 fun x hx => by have := hB x hx; unfold ne_; simp; omega
  have fC : C.filter (ne_ id) = [] := List.filter_eq_nil_iff.2 fun x hx => by have := hC x hx; unfold ne_; simp; omega
  have othl : ∀ now, oth now id l = sm now A + sm now B := fun now => by
    unfold oth
    rw [hl, List.filter_append, List.filter_append, sm_app, sm_app, fA, fB, fC]
    simp [sm]
  refine ⟨?_, fun now => ?_, fun now => ?_⟩
  · rw [hT]
    refine ⟨by simp at h60 ⊢; omega, fun x hx => ?_, ?_⟩
    · rw [List.mem_append, List.mem_cons] at hx
      rcases hx with hx | hx | hx
      · exact hall x (by simp [hx])
      · rw [hx]; exact hok
      · exact hall x (by simp [hx])
    · rw [List.pairwise_append, List.pairwise_append] at hpw
      rw [List.pairwise_append, List.pairwise_cons]
      refine ⟨hpw.1.1, ⟨fun y hy => hB y hy, hpw.2.1⟩, fun x hx y hy => ?_⟩
      rw [List.mem_cons] at hy
      rcases hy with hy | hy
      · rw [hy]; exact hA x hx
      · have h1 := hA x hx
        have h2 := hB y hy
        omega
  · rw [hT, sm_app, sm_cons, othl now]
    omega
  · rw [othl now]
    unfold oth
    rw [hT, List.filter_append, List.filter_cons, if_neg (by unfold ne_; simp), sm_app, fA, fB]
theorem put_eq (l : List S33) (hr : Right l) (hu : UpLease l) (h60 : l.length < 60) (id b c : Int) (hok : okLease id b c = true) (k : Nat) (hk : 62 < k) : impl_LeasePut.f k l id b c = some (T_ l id b c) := by
  obtain ⟨k, rfl⟩ : ∃ m, k = m + 1 := ⟨k - 1, by omega⟩
  have hT := (put_facts l hr hu h60 id b c hok).1.1
  have hput : impl_leasePut.f l id b c = some (T_ l id b c) := by
    unfold impl_leasePut.f
    rw [if_pos (by omega)]
    unfold T_
    cases his : is_Lease l id with
    | false => simp
    | true =>
      have hlt : at_Lease l id < l.length := by
        unfold is_Lease at his
        simp only [Bool.and_eq_true, decide_eq_true_iff] at his
        exact his.1
      simp only [if_true]
      rw [List.set_eq_take_append_cons_drop, if_pos hlt]
  unfold impl_LeasePut.f
  rw [if_neg (by omega), right_eq l hr (k + 1) (by omega)]
  simp only [Option.bind_some, if_true, impl_lease_eq, hok, Bool.not_true, impl_LeasePut.j0, Bool.false_eq_true, if_false, hput]
  rw [if_pos (by omega)]
theorem but_eq (l : List S33) (h : Right l) (k : Nat) (hk : 60 < k) (p : S33 → Bool) : leasesBut.f k l p = some (l.filter fun x => !p x) := by
  unfold leasesBut.f
  rw [if_neg (by have := h.1; omega), right_eq l h k hk]
  simp
theorem lwAt_ok (l : List Int) (hl : l.length ≤ 140737488351232) (h : ∀ x ∈ l, (Lit.int .u8 x).wf = true) (a m : Int) (ha : 0 ≤ a) (hm : 1 < m) : ∃ r, laws_lwAt.f l a m = some r ∧ 0 ≤ r ∧ (r = 0 ∨ r < m) := by
  unfold laws_lwAt.f
  rw [if_neg (by omega)]
  by_cases c : (l.length : Int) = 0
  · rw [if_pos c]; exact ⟨0, rfl, by omega, Or.inl rfl⟩
  · rw [if_neg c]
    have t0 : 0 ≤ Int.tmod a (l.length : Int) ∧ Int.tmod a (l.length : Int) < (l.length : Int) := by
      rw [Int.tmod_eq_emod_of_nonneg ha]
      exact ⟨Int.emod_nonneg _ c, Int.emod_lt_of_pos _ (by omega)⟩
    rw [if_pos t0.1, if_pos t0.2, if_neg (by omega)]
    obtain ⟨i, hi⟩ : ∃ i : Nat, Int.tmod a (l.length : Int) = (i : Int) := ⟨(Int.tmod a (l.length : Int)).toNat, by omega⟩
    rw [hi] at t0 ⊢
    have hlt : i < l.length := by omega
    have e : rd l (i : Int) = l[i] := by unfold rd; simp [List.getD_eq_getElem?_getD, hlt]
    have hb := h _ (List.getElem_mem hlt)
    have hb2 : 0 ≤ l[i] ∧ l[i] ≤ 255 := by
      simp [Lit.wf, IntKind.min, IntKind.max, IntKind.bits, IntKind.signed] at hb
      omega
    rw [e, wrap_small (by omega) (by omega), Int.tmod_eq_emod_of_nonneg hb2.1]
    exact ⟨_, rfl, Int.emod_nonneg _ (by omega), Or.inr (Int.emod_lt_of_pos _ (by omega))⟩
theorem FnLeases : laws_FnLeases.Pure := by
  intro l0 l1 _ hl0 _ _ hl1 hb1
  obtain ⟨l, id, am, ti, hlen, hdraw⟩ := draw_ok l0 (by omega)
  obtain ⟨now, hnow, _, _⟩ := lwAt_ok l1 (by omega) hb1 0 34 (by omega) (by omega)
  obtain ⟨cp, hcp, cp0, cp1⟩ := lwAt_ok l1 (by omega) hb1 1 256 (by omega) (by omega)
  refine ⟨300, ?_⟩
  unfold laws_FnLeases.f
  by_cases s0 : (l0.length : Int) > 1048576
  · rw [if_pos s0]; rfl
  rw [if_neg s0]
  by_cases s1 : (l1.length : Int) > 1048576
  · rw [decide_eq_true s1]; rfl
  rw [decide_eq_false s1, show (300 : Nat) = 299 + 1 from rfl]
  simp only [laws_FnLeases.j0, Bool.false_eq_true, if_false]
  rw [hdraw 299 (by omega)]
  simp only [Option.bind_some]
  obtain ⟨bb, hbm, hb⟩ := leases_same l (by omega)
  rw [(hb 299 (by omega)).1]
  simp only [Option.bind_some]
  cases bb with
  | false => rfl
  | true =>
    rw [if_pos rfl]
    obtain ⟨h60, hat⟩ := hbm rfl
    obtain ⟨hr, hu⟩ := right_of h60 hat
    by_cases s2 : (l.length : Int) ≥ 60
    · rw [if_pos s2]; rfl
    rw [if_neg s2]
    obtain ⟨b2, hbm2, hb2⟩ := leases_same [(⟨id, am, ti⟩ : S33)] (by simp)
    rw [(hb2 299 (by simp)).1]
    simp only [Option.bind_some]
    cases b2 with
    | false => rfl
    | true =>
      have hok : okLease id am ti = true := ((hbm2 rfl).2 0 (by simp)).1
      obtain ⟨hT, hsum, hoth⟩ := put_facts l hr hu (by omega) id am ti hok
      have hTl := hT.1
      have own : (if ti > now then am else 0) = val now (⟨id, am, ti⟩ : S33) := rfl
      have hput := put_eq l hr hu (by omega) id am ti hok 298 (by omega)
      generalize T_ l id am ti = T at *
      have r1 := sm_range now T hT.2.1
      have r2 := sm_range now _ (fun x hx => hr.2.1 x (List.mem_filter.1 hx).1 : ∀ x ∈ l.filter (ne_ id), okL x)
      have r3 : (l.filter (ne_ id)).length ≤ l.length := List.length_filter_le _ _
      have r2' : 0 ≤ oth now id l ∧ oth now id l ≤ 1125899906842624 * 60 := by unfold oth; omega
      have hw : wrap64 (oth now id l + val now (⟨id, am, ti⟩ : S33)) = sm now T := by rw [← hsum now, wrap_small (by omega) (by omega)]
      have hlive := right_filter hT (fun x => !(decide (x.f2 ≤ now)))
      have hdrop := right_filter hT (fun x => !(x.f0 == id))
      have hsl : sm now (T.filter fun x => !(x.f0 == id)) = oth now id l := by rw [← hoth now]; rfl
      have hll : (T.filter fun x => !(decide (x.f2 ≤ now))).length ≤ T.length := List.length_filter_le _ _
      have hdl : (T.filter fun x => !(x.f0 == id)).length ≤ T.length := List.length_filter_le _ _
      have hj3 : ∀ x9, x9 = val now (⟨id, am, ti⟩ : S33) → laws_FnLeases.j3 297 l1 l now T x9 (oth now id l) false id am ti = some true := fun x9 h9 => by
        subst h9
        rw [show (297 : Nat) = 296 + 1 from rfl]
        simp only [laws_FnLeases.j3, Bool.false_eq_true, if_false, Option.bind_some, List.nil_append, List.length_nil, Nat.zero_add]
        rw [if_pos (by omega)]
        unfold impl_LeaseLive.f
        rw [but_eq T hT 296 (by omega)]
        simp only [Option.bind_some]
        rw [if_pos (by omega), sumof_eq hlive now 296 (by omega), sm_live, hw]
        simp only [Option.bind_some, if_true]
        unfold spec_LeaseOthers.f
        rw [(hb 296 (by omega)).1]
        simp only [Option.bind_some, if_true]
        rw [(leased_eq hr now id 296 (by omega)).2]
        simp only [Option.bind_some, bne_self_eq_false]
        rw [show (296 : Nat) = 295 + 1 from rfl]
        simp only [laws_FnLeases.j4, Bool.false_eq_true, if_false, Option.bind_some, List.nil_append, List.length_nil, Nat.zero_add]
        rw [if_pos (by omega)]
        unfold impl_LeaseDrop.f
        rw [but_eq T hT 295 (by omega)]
        simp only [Option.bind_some]
        rw [if_pos (by omega), sumof_eq hdrop now 295 (by omega), hsl]
        simp only [Option.bind_some, if_true]
        rw [hcp]
        simp only [Option.bind_some]
        rw [if_pos (by omega), show wrap64 (cp * 4) = cp * 4 from wrap_small (by omega) (by omega)]
        unfold impl_LeaseRoom.f
        rw [right_eq T hT 295 (by omega)]
        simp only [Option.bind_some, if_true, isWant_eq]
        rw [decide_eq_true (show 0 ≤ cp * 4 ∧ cp * 4 ≤ 1125899906842624 by omega)]
        simp only [if_true]
        rw [(leased_eq hT now id 295 (by omega)).1, hoth now]
        simp only [Option.bind_some]
        generalize wrap64 (cp * 4 - oth now id l) = y
        unfold laws_lwMax.f mx
        by_cases c0 : 0 > y
        · rw [if_pos c0]; simp; omega
        · rw [if_neg c0]; simp; omega
      have hj2 : ∀ x9, x9 = val now (⟨id, am, ti⟩ : S33) → laws_FnLeases.j2 298 l1 l now T x9 id am ti = some true := fun x9 h9 => by
        rw [show (298 : Nat) = 297 + 1 from rfl]
        simp only [laws_FnLeases.j2, Option.bind_some, List.nil_append, List.length_nil, Nat.zero_add]
        rw [if_pos (by omega), others_eq hr now id 297 (by omega)]
        simp only [Option.bind_some]
        rw [if_pos (by omega), right_eq T hT 297 (by omega)]
        simp only [Option.bind_some, if_true]
        rw [if_pos (by omega), sumof_eq hT now 297 (by omega)]
        simp only [Option.bind_some]
        rw [h9, hw, bne_self_eq_false, ← h9]
        exact hj3 x9 h9
      rw [show (299 : Nat) = 298 + 1 from rfl]
      simp only [laws_FnLeases.j1, Bool.not_true, Bool.false_eq_true, if_false]
      rw [hnow]
      simp only [Option.bind_some, List.nil_append, List.length_nil, Nat.zero_add]
      rw [if_pos (by omega), hput]
      simp only [Option.bind_some]
      by_cases c : ti > now
      · rw [if_pos c]
        exact hj2 am (by rw [← own, if_pos c])
      · rw [if_neg c]
        exact hj2 0 (by rw [← own, if_neg c])
end Go.Proofs.Ythpggkpidbieeaa.Pure
