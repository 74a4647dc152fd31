/- LeasePut answers as the reference does, for every list of Leases and every Lease, keeps nothing of its argument and owns its answer. Conditions: none beyond the statement's own bounds. -/
import Derived.Test.YthpggkpidbieeaaBridgeFnExactLeasePut
namespace Go.Proofs.Ythpggkpidbieeaa.Pure
open Go.RowKit Go.Proofs.Ythpggkpidbieeaa.XFnExactLeasePut Go.Proofs.Ythpggkpidbieeaa.BridgeFnExactLeasePut Go.Proofs.YthpggkpidbieeaaW.PrintWords Go.Proofs.YthpggkpidbieeaaW.PrintLast Go.Proofs.YthpggkpidbieeaaW.PrintMore
set_option linter.unusedVariables false
set_option linter.unusedSimpArgs false

theorem wrap_small {x : Int} (h0 : -9223372036854775808 ≤ x) (h1 : x ≤ 9223372036854775807) : wrap64 x = x := by
  unfold wrap64
  omega
theorem i64_range {x : Int} (h : (Lit.int .i64 x).wf = true) : -9223372036854775808 ≤ x ∧ x ≤ 9223372036854775807 := by
  simp [Lit.wf, IntKind.min, IntKind.max, IntKind.bits, IntKind.signed] at h
  omega
theorem u64_range {x : Int} (h : (Lit.int .u64 x).wf = true) : 0 ≤ x ∧ x < 18446744073709551616 := by
  simp [Lit.wf, IntKind.min, IntKind.max, IntKind.bits, IntKind.signed] at h
  omega

theorem in_eq (a b c : Int) : impl_in.f a b c = some (decide (b ≤ a ∧ a ≤ c)) := by
  unfold impl_in.f
  by_cases h : b ≤ a <;> simp [h]

theorem isId_eq (a : Int) : impl_isId.f a = some (decide (1 ≤ a ∧ a ≤ 1000000)) := by simp [impl_isId.f, in_eq]
theorem isWant_eq (a : Int) : impl_isWant.f a = some (decide (0 ≤ a ∧ a ≤ 1125899906842624)) := by simp [impl_isWant.f, in_eq]
theorem l02Id_eq (a : Int) : spec_l02Id.f a = some (decide (1 ≤ a ∧ a ≤ 1000000)) := by
  unfold spec_l02Id.f
  by_cases h : a ≥ 1
  · rw [if_pos h]; simp; omega
  · rw [if_neg h]; simp; omega
theorem l02Want_eq (a : Int) : spec_l02Want.f a = some (decide (0 ≤ a ∧ a ≤ 1125899906842624)) := by
  unfold spec_l02Want.f
  by_cases h : a ≥ 0
  · rw [if_pos h]; simp; omega
  · rw [if_neg h]; simp; omega

theorem isTime_eq (a : Int) : impl_isTime.f a = some (decide (0 ≤ a ∧ a ≤ 1000000)) := by simp [impl_isTime.f, in_eq]
theorem l07Time_eq (a : Int) : spec_l07Time.f a = some (decide (0 ≤ a ∧ a ≤ 1000000)) := by
  unfold spec_l07Time.f
  by_cases h : a ≥ 0
  · rw [if_pos h]; simp; omega
  · rw [if_neg h]; simp; omega

/-- A right Lease. -/
def okLease (a b c : Int) : Bool := decide (1 ≤ a ∧ a ≤ 1000000) && (decide (0 ≤ b ∧ b ≤ 1125899906842624) && decide (0 ≤ c ∧ c ≤ 1000000))
theorem spec_lease_eq (a b c : Int) : spec_l07Lease.f a b c = some (okLease a b c) := by
  unfold spec_l07Lease.f okLease
  rw [l02Id_eq, l02Want_eq, l07Time_eq]
  by_cases h1 : 1 ≤ a ∧ a ≤ 1000000 <;> by_cases h2 : 0 ≤ b ∧ b ≤ 1125899906842624 <;> simp [h1, h2]
theorem impl_lease_eq (a b c : Int) : impl_Lease_isRight.f a b c = some (okLease a b c) := by
  unfold impl_Lease_isRight.f okLease
  rw [isId_eq, isWant_eq, isTime_eq]
  by_cases h1 : 1 ≤ a ∧ a ≤ 1000000 <;> by_cases h2 : 0 ≤ b ∧ b ≤ 1125899906842624 <;> simp [h1, h2]

theorem set_fill {α β : Type} (l : List α) (f : α → β) (z : β) (i : Nat) (h : i < l.length) : ((l.take i).map f ++ List.replicate (l.length - i) z).set i (f l[i]) = (l.take (i + 1)).map f ++ List.replicate (l.length - (i + 1)) z := by
  have e : l.length - i = (l.length - (i + 1)) + 1 := by omega
  have hl : ((l.take i).map f).length = i := by simp; omega
  rw [e, List.replicate_succ, List.set_append_right i (f l[i]) (by omega), hl, Nat.sub_self, List.set_cons_zero, List.take_succ_eq_append_getElem h, List.map_append]
  simp
theorem succ_cast (i : Nat) (h : i < 9223372036854775807) : wrap64 ((i : Int) + 1) = ((i + 1 : Nat) : Int) := by
  rw [wrap_small (by omega) (by omega)]
  omega

theorem pred_cast (i : Nat) (h : 0 < i) (h2 : i < 9223372036854775807) : wrap64 ((i : Int) - 1) = ((i - 1 : Nat) : Int) := by
  rw [wrap_small (by omega) (by omega)]
  omega

theorem rd31 (xs : List S31) (i : Nat) (h : i < xs.length) : rd_T31 xs (i : Int) = xs[i] := by
  unfold rd_T31
  rw [Int.toNat_natCast, List.getD_eq_getElem?_getD, List.getElem?_eq_getElem h]
  rfl

def convLease (x : S31) : S33 := ⟨x.f0, x.f1, x.f2⟩
theorem toLeaseS_loop (l : List S31) (hl : l.length * 24 ≤ 140737488351232) : ∀ (d k i : Nat), l.length - i = d → i ≤ l.length → d < k → laws_toLeaseS.l0 k l ((l.take i).map convLease ++ List.replicate (l.length - i) z33) (i : Int) = some (l.map convLease) := by
  intro d
  induction d with
  | zero =>
    intro k i hd hi hk
    obtain ⟨k, rfl⟩ : ∃ m, k = m + 1 := ⟨k - 1, by omega⟩
    obtain rfl : i = l.length := by omega
    simp only [laws_toLeaseS.l0]
    rw [if_neg (by omega)]
    simp
  | succ d ih =>
    intro k i hd hi hk
    obtain ⟨k, rfl⟩ : ∃ m, k = m + 1 := ⟨k - 1, by omega⟩
    have hlt : i < l.length := by omega
    simp only [laws_toLeaseS.l0]
    rw [if_pos (by omega), if_pos (by omega)]
    simp only [laws_toLease.f, Option.bind_some, rd31 l i hlt]
    rw [if_pos (by simp; omega), Int.toNat_natCast, succ_cast i (by omega)]
    have e := set_fill l convLease z33 i hlt
    rw [show (⟨l[i].f0, l[i].f1, l[i].f2⟩ : S33) = convLease l[i] from rfl, e]
    exact ih k (i + 1) (by omega) (by omega) (by omega)
theorem toLeaseS_eq (l : List S31) (hl : l.length * 24 ≤ 140737488351232) (k : Nat) (hk : l.length < k) : laws_toLeaseS.f k l = some (l.map convLease) := by
  unfold laws_toLeaseS.f
  rw [if_pos (by omega), if_pos (by simp; omega)]
  have h := toLeaseS_loop l hl l.length k 0 (by omega) (by omega) hk
  simpa using h

theorem eqLease_same (x : S33) : laws_eqLease.f (x.f0) (x.f1) (x.f2) (x.f0) (x.f1) (x.f2) = some true := by simp [laws_eqLease.f]
theorem eqLeaseS_loop (l : List S33) (hl : l.length < 9223372036854775807) : ∀ (d k i : Nat), l.length - i = d → i ≤ l.length → d < k → laws_eqLeaseS.l0 k l l (i : Int) = some true := by
  intro d
  induction d with
  | zero =>
    intro k i hd hi hk
    obtain ⟨k, rfl⟩ : ∃ m, k = m + 1 := ⟨k - 1, by omega⟩
    simp only [laws_eqLeaseS.l0]
    rw [if_neg (by omega)]
  | succ d ih =>
    intro k i hd hi hk
    obtain ⟨k, rfl⟩ : ∃ m, k = m + 1 := ⟨k - 1, by omega⟩
    have hlt : i < l.length := by omega
    simp only [laws_eqLeaseS.l0]
    rw [if_pos (by omega), if_pos (by omega), if_pos (by omega), eqLease_same]
    simp only [Option.bind_some, if_true]
    rw [succ_cast i (by omega)]
    exact ih k (i + 1) (by omega) (by omega) (by omega)
theorem eqLeaseS_same (l : List S33) (hl : l.length < 9223372036854775807) (k : Nat) (hk : l.length < k) : laws_eqLeaseS.f k l l = some true := by
  unfold laws_eqLeaseS.f
  rw [if_pos rfl]
  exact eqLeaseS_loop l hl l.length k 0 (by omega) (by omega) hk

theorem szLeaseS_eq (l : List S31) (hl : l.length * 24 ≤ 140737488351232) : laws_szLeaseS.f l 1048576 = some (if l.length ≤ 1048576 then 1048576 - (l.length : Int) else -1) := by
  unfold laws_szLeaseS.f
  rw [wrap_small (by omega) (by omega)]
  by_cases h : l.length ≤ 1048576
  · rw [if_neg (by omega), if_pos h]
  · rw [if_pos (by omega), if_neg h]

/-- What a right list asks at place j. -/
def leasesAt (l : List S33) (j : Nat) : Prop := (okLease (rd_T33 l j).f0 (rd_T33 l j).f1 (rd_T33 l j).f2 = true) ∧ (0 < j → (rd_T33 l ((j - 1 : Nat) : Int)).f0 < (rd_T33 l j).f0)
/-- Both loops over a list tell the same, but that the program looks at the length last. -/
theorem leases_loops (l : List S33) (hl : l.length < 9223372036854775807) : ∀ (d i : Nat), l.length - i = d → i ≤ l.length → ∃ b, (b = true → ∀ j : Nat, i ≤ j → j < l.length → leasesAt l j) ∧ ∀ k, d < k → spec_LeasesRight.l0 k l (i : Int) = some b ∧ impl_LeasesRight.l0 k l l (l.length : Int) (i : Int) = some (b && decide ((l.length : Int) ≤ 60)) := by
  intro d
  induction d with
  | zero =>
    intro i hd hi
    refine ⟨true, fun _ j h1 h2 => by omega, fun k hk => ?_⟩
    obtain ⟨k, rfl⟩ : ∃ m, k = m + 1 := ⟨k - 1, by omega⟩
    refine ⟨?_, ?_⟩
    · simp only [spec_LeasesRight.l0]; rw [if_neg (by omega)]
    · simp only [impl_LeasesRight.l0]; rw [if_neg (by omega)]; simp
  | succ d ih =>
    intro i hd hi
    obtain ⟨b, hbm, hb⟩ := ih (i + 1) (by omega) (by omega)
    have a1 : (i : Int) < (l.length : Int) := by omega
    have a2 : (0 : Int) ≤ (i : Int) := by omega
    by_cases h : okLease (rd_T33 l i).f0 (rd_T33 l i).f1 (rd_T33 l i).f2 = true
    · by_cases h0 : (i : Int) > 0
      · have a3 : (0 : Int) ≤ ((i - 1 : Nat) : Int) := by omega
        have a4 : ((i - 1 : Nat) : Int) < (l.length : Int) := by omega
        by_cases hc : (rd_T33 l i).f0 ≤ (rd_T33 l ((i - 1 : Nat) : Int)).f0
        · refine ⟨false, (fun h => by cases h), fun k hk => ?_⟩
          obtain ⟨k, rfl⟩ : ∃ m, k = m + 1 := ⟨k - 1, by omega⟩
          have hc' : (rd_T33 l ((i - 1 : Nat) : Int)).f0 ≥ (rd_T33 l i).f0 := hc
          simp only [spec_LeasesRight.l0, impl_LeasesRight.l0, a1, a2, if_true, spec_lease_eq, impl_lease_eq, Option.bind_some, h, h0, pred_cast i (by omega) (by omega), a3, a4, hc, hc']
          exact ⟨by first | rfl | trivial, by simp⟩
        · refine ⟨b, fun hbt j h1 h2 => ?_, fun k hk => ?_⟩
          · by_cases hj : j = i
            · rw [hj]; exact ⟨h, fun _ => by omega⟩
            · exact hbm hbt j (by omega) h2
          obtain ⟨k, rfl⟩ : ∃ m, k = m + 1 := ⟨k - 1, by omega⟩
          obtain ⟨h1, h2⟩ := hb k (by omega)
          have hc' : ¬ (rd_T33 l ((i - 1 : Nat) : Int)).f0 ≥ (rd_T33 l i).f0 := hc
          simp only [spec_LeasesRight.l0, impl_LeasesRight.l0, a1, a2, if_true, spec_lease_eq, impl_lease_eq, Option.bind_some, h, h0, pred_cast i (by omega) (by omega), a3, a4, hc, hc', if_false, succ_cast i (by omega), h1, h2]
          all_goals exact ⟨trivial, trivial⟩
      · refine ⟨b, fun hbt j h1 h2 => ?_, fun k hk => ?_⟩
        · by_cases hj : j = i
          · rw [hj]; exact ⟨h, fun h => absurd h (by omega)⟩
          · exact hbm hbt j (by omega) h2
        obtain ⟨k, rfl⟩ : ∃ m, k = m + 1 := ⟨k - 1, by omega⟩
        obtain ⟨h1, h2⟩ := hb k (by omega)
        simp only [spec_LeasesRight.l0, impl_LeasesRight.l0, a1, a2, if_true, spec_lease_eq, impl_lease_eq, Option.bind_some, h, h0, if_false, succ_cast i (by omega), h1, h2]
        all_goals exact ⟨trivial, trivial⟩
    · refine ⟨false, (fun h => by cases h), fun k hk => ?_⟩
      obtain ⟨k, rfl⟩ : ∃ m, k = m + 1 := ⟨k - 1, by omega⟩
      simp only [spec_LeasesRight.l0, impl_LeasesRight.l0, a1, a2, if_true, spec_lease_eq, impl_lease_eq, Option.bind_some, h]
      exact ⟨by first | rfl | trivial, by simp⟩
theorem leases_same (l : List S33) (hl : l.length < 9223372036854775807) : ∃ b, (b = true → l.length ≤ 60 ∧ ∀ j : Nat, j < l.length → leasesAt l j) ∧ ∀ k, l.length < k → spec_LeasesRight.f k l = some b ∧ impl_LeasesRight.f k l = some b := by
  obtain ⟨b, hbm, hb⟩ := leases_loops l hl l.length 0 (by omega) (by omega)
  by_cases h : (l.length : Int) > 60
  · refine ⟨false, by simp, fun k hk => ?_⟩
    obtain ⟨h1, h2⟩ := hb k hk
    have h2' : impl_LeasesRight.l0 k l l (l.length : Int) 0 = some (b && decide ((l.length : Int) ≤ 60)) := h2
    unfold spec_LeasesRight.f impl_LeasesRight.f
    rw [h2', if_pos h]
    exact ⟨rfl, by simp; omega⟩
  · refine ⟨b, fun hbt => ⟨by omega, fun j hj => hbm hbt j (by omega) hj⟩, fun k hk => ?_⟩
    obtain ⟨h1, h2⟩ := hb k hk
    have h1' : spec_LeasesRight.l0 k l 0 = some b := h1
    have h2' : impl_LeasesRight.l0 k l l (l.length : Int) 0 = some (b && decide ((l.length : Int) ≤ 60)) := h2
    unfold spec_LeasesRight.f impl_LeasesRight.f
    rw [h1', h2', if_neg h]
    exact ⟨rfl, by simp; omega⟩

theorem rd33 (xs : List S33) (i : Nat) (h : i < xs.length) : rd_T33 xs (i : Int) = xs[i] := by
  unfold rd_T33
  rw [Int.toNat_natCast, List.getD_eq_getElem?_getD, List.getElem?_eq_getElem h]
  rfl

theorem rdset33 (xs : List S33) (i j : Nat) (v : S33) (h : i < xs.length) : rd_T33 (xs.set i v) (j : Int) = if j = i then v else rd_T33 xs (j : Int) := by
  unfold rd_T33
  rw [Int.toNat_natCast, List.getD_eq_getElem?_getD, List.getD_eq_getElem?_getD, List.getElem?_set]
  by_cases e : j = i
  · subst e; simp [h]
  · have e' : i ≠ j := fun q => e q.symm
    simp [e, e']
def markOfLease (j : Nat) : S33 := ⟨1 + 3 * (j : Int), 1 + 3 * (j : Int) + 1, 1 + 3 * (j : Int) + 2⟩
theorem markLeaseS_loop (n : Nat) (hn : n ≤ 1048576) : ∀ (d k i : Nat) (x0 : List S33), x0.length = n → n - i = d → i ≤ n → d < k → (∀ j : Nat, j < i → rd_T33 x0 j = markOfLease j) →
    ∃ l', laws_markLeaseS.l0 k x0 (1 + 3 * (i : Int)) (i : Int) = some (1 + 3 * (n : Int), l') ∧ l'.length = n ∧ ∀ j : Nat, j < n → rd_T33 l' j = markOfLease j := by
  intro d
  induction d with
  | zero =>
    intro k i x0 hx hd hi hk hm
    obtain ⟨k, rfl⟩ : ∃ m, k = m + 1 := ⟨k - 1, by omega⟩
    obtain rfl : i = n := by omega
    simp only [laws_markLeaseS.l0]
    rw [if_neg (by omega)]
    exact ⟨x0, rfl, hx, hm⟩
  | succ d ih =>
    intro k i x0 hx hd hi hk hm
    obtain ⟨k, rfl⟩ : ∃ m, k = m + 1 := ⟨k - 1, by omega⟩
    simp only [laws_markLeaseS.l0]
    rw [if_pos (by omega), if_pos (by omega)]
    simp only [Option.bind_some, Int.toNat_natCast, List.length_set, hx, rdset33, show i < n from by omega, if_true, List.set_set]
    rw [show wrap64 ((1 + 3 * (i : Int)) + 1) = 1 + 3 * (i : Int) + 1 from by rw [wrap_small (by omega) (by omega)]]
    rw [show wrap64 ((1 + 3 * (i : Int) + 1) + 1) = 1 + 3 * (i : Int) + 2 from by rw [wrap_small (by omega) (by omega)]; omega]
    rw [show wrap64 ((1 + 3 * (i : Int) + 2) + 1) = 1 + 3 * (i : Int) + 3 from by rw [wrap_small (by omega) (by omega)]; omega]
    obtain ⟨l', h1, h2, h3⟩ := ih k (i + 1) (x0.set i (markOfLease i)) (by simp [hx]) (by omega) (by omega) (by omega) (fun j hj => by
      rw [rdset33 _ _ _ _ (by omega)]
      by_cases e : j = i
      · rw [if_pos e, e]
      · rw [if_neg e]; exact hm j (by omega))
    refine ⟨l', ?_, h2, h3⟩
    rw [← h1, succ_cast i (by omega)]
    congr 1
theorem markLeaseS_eq (l : List S33) (hn : l.length ≤ 1048576) (k : Nat) (hk : l.length < k) : ∃ l', laws_markLeaseS.f k l 1 = some (1 + 3 * (l.length : Int), l') ∧ l'.length = l.length ∧ ∀ j : Nat, j < l.length → rd_T33 l' j = markOfLease j :=
  markLeaseS_loop l.length hn l.length k 0 l rfl (by omega) (by omega) hk (fun j hj => absurd hj (by omega))
theorem heldLeaseS_loop (n : Nat) (hn : n ≤ 1048576) (l : List S33) (hl : l.length = n) (hm : ∀ j : Nat, j < n → rd_T33 l j = markOfLease j) : ∀ (d k i : Nat), n - i = d → i ≤ n → d < k → laws_heldLeaseS.l0 k l (1 + 3 * (i : Int)) (i : Int) = some (1 + 3 * (n : Int)) := by
  intro d
  induction d with
  | zero =>
    intro k i hd hi hk
    obtain ⟨k, rfl⟩ : ∃ m, k = m + 1 := ⟨k - 1, by omega⟩
    obtain rfl : i = n := by omega
    simp only [laws_heldLeaseS.l0]
    rw [if_neg (by omega)]
  | succ d ih =>
    intro k i hd hi hk
    obtain ⟨k, rfl⟩ : ∃ m, k = m + 1 := ⟨k - 1, by omega⟩
    simp only [laws_heldLeaseS.l0, hm i (by omega)]
    rw [if_pos (by omega), if_pos (by omega)]
    rw [show wrap64 ((1 + 3 * (i : Int)) + 1) = 1 + 3 * (i : Int) + 1 from by rw [wrap_small (by omega) (by omega)]]
    rw [show wrap64 ((1 + 3 * (i : Int) + 1) + 1) = 1 + 3 * (i : Int) + 2 from by rw [wrap_small (by omega) (by omega)]; omega]
    rw [show wrap64 ((1 + 3 * (i : Int) + 2) + 1) = 1 + 3 * (i : Int) + 3 from by rw [wrap_small (by omega) (by omega)]; omega]
    simp only [markOfLease, if_true]
    rw [succ_cast i (by omega)]
    have := ih k (i + 1) (by omega) (by omega) (by omega)
    rw [← this]
    congr 1
theorem heldLeaseS_eq (l : List S33) (n : Nat) (hl : l.length = n) (hn : n ≤ 1048576) (hm : ∀ j : Nat, j < n → rd_T33 l j = markOfLease j) (k : Nat) (hk : n < k) : laws_heldLeaseS.f k l 1 = some (1 + 3 * (n : Int)) :=
  heldLeaseS_loop n hn l hl hm n k 0 (by omega) (by omega) hk

theorem bs_spec_Lease (key : Nat → Int) (t : Int) (N : Nat) (mono : ∀ p q, p < q → q < N → key p < key q) : ∀ (n i j : Nat), i ≤ j → j ≤ N → j - i < n →
    i ≤ bsI_Lease key t n i j ∧ bsI_Lease key t n i j ≤ j ∧ (∀ q, i ≤ q → q < bsI_Lease key t n i j → key q < t) ∧ (∀ q, bsI_Lease key t n i j ≤ q → q < j → ¬ key q < t) := by
  intro n
  induction n with
  | zero => intro i j _ _ h; omega
  | succ n ih =>
    intro i j hij hj hn
    unfold bsI_Lease
    by_cases hlt : i < j
    · rw [if_pos hlt]
      have hm : i ≤ (i + j) / 2 ∧ (i + j) / 2 < j := by omega
      generalize (i + j) / 2 = h at hm
      by_cases hk : key h < t
      · rw [if_pos hk]
        obtain ⟨a1, a2, a3, a4⟩ := ih (h + 1) j (by omega) hj (by omega)
        refine ⟨by omega, a2, fun q q1 q2 => ?_, a4⟩
        by_cases hq : q < h
        · have := mono q h hq (by omega); omega
        · by_cases hq2 : q = h
          · rw [hq2]; exact hk
          · exact a3 q (by omega) q2
      · rw [if_neg hk]
        obtain ⟨a1, a2, a3, a4⟩ := ih i h (by omega) (by omega) (by omega)
        refine ⟨a1, by omega, a3, fun q q1 q2 => ?_⟩
        by_cases hq : q < h
        · exact a4 q q1 hq
        · by_cases hq2 : q = h
          · rw [hq2]; exact hk
          · have := mono h q (by omega) (by omega); omega
    · rw [if_neg hlt]
      exact ⟨Nat.le_refl _, hij, fun q q1 q2 => by omega, fun q q1 q2 => by omega⟩
/-- A list whose Ids rise. -/
def UpLease (l : List S33) : Prop := ∀ p q : Nat, p < q → q < l.length → (rd_T33 l (p : Int)).f0 < (rd_T33 l (q : Int)).f0
theorem at_Lease_spec (l : List S33) (t : Int) (hu : UpLease l) : at_Lease l t ≤ l.length ∧ (∀ q : Nat, q < at_Lease l t → (rd_T33 l (q : Int)).f0 < t) ∧ ∀ q : Nat, at_Lease l t ≤ q → q < l.length → t ≤ (rd_T33 l (q : Int)).f0 := by
  obtain ⟨_, a2, a3, a4⟩ := bs_spec_Lease (keys_Lease l) t l.length (fun p q h1 h2 => hu p q h1 h2) (l.length + 1) 0 l.length (Nat.zero_le _) (Nat.le_refl _) (by omega)
  exact ⟨a2, fun q hq => a3 q (Nat.zero_le _) hq, fun q h1 h2 => Int.not_lt.1 (a4 q h1 h2)⟩
theorem is_Lease_iff (l : List S33) (t : Int) (hu : UpLease l) : is_Lease l t = true ↔ ∃ q : Nat, q < l.length ∧ (rd_T33 l (q : Int)).f0 = t := by
  obtain ⟨a1, a2, a3⟩ := at_Lease_spec l t hu
  unfold is_Lease
  rw [Bool.and_eq_true, decide_eq_true_iff, beq_iff_eq]
  constructor
  · rintro ⟨h1, h2⟩
    exact ⟨_, h1, h2⟩
  · rintro ⟨q, h1, h2⟩
    have h3 : ¬ q < at_Lease l t := fun h => by have := a2 q h; omega
    have h4 := a3 (at_Lease l t) (Nat.le_refl _) (by omega)
    refine ⟨by omega, ?_⟩
    show (rd_T33 l ((at_Lease l t : Nat) : Int)).f0 = t
    by_cases h5 : at_Lease l t = q
    · rw [h5]; exact h2
    · have := hu (at_Lease l t) q (by omega) h1
      omega

theorem up_lease (l : List S33) (h : ∀ j : Nat, j < l.length → leasesAt l j) : UpLease l := by
  intro p q
  induction q with
  | zero => intro h1; omega
  | succ q ih =>
    intro h1 h2
    have h3 := (h (q + 1) h2).2 (by omega)
    rw [show q + 1 - 1 = q by omega] at h3
    by_cases hp : p = q
    · subst hp; omega
    · have := ih (by omega) (by omega)
      omega
theorem put_loop2 (l same : List S33) (id b c : Int) (hl : l.length ≤ 400) : ∀ (d k i : Nat) (out : List S33), l.length - i = d → i ≤ l.length → 2 * d + 2 < k → out.length ≤ i + 1 → (∀ q : Nat, i ≤ q → q < l.length → (rd_T33 l (q : Int)).f0 ≠ id) →
    spec_LeasePut.l0 k l same out true (i : Int) id b c = some (if ((out ++ l.drop i).length : Int) > 60 then same else out ++ l.drop i) := by
  intro d
  induction d with
  | zero =>
    intro k i out hd hi hk ho hne
    obtain ⟨k, rfl⟩ : ∃ m, k = m + 1 := ⟨k - 1, by omega⟩
    obtain rfl : i = l.length := by omega
    simp only [spec_LeasePut.l0]
    rw [if_neg (by omega), List.drop_length, List.append_nil]
    simp only [if_true]
    split <;> rfl
  | succ d ih =>
    intro k i out hd hi hk ho hne
    obtain ⟨k, rfl⟩ : ∃ m, k = m + 2 := ⟨k - 2, by omega⟩
    have hlt : i < l.length := by omega
    have a1 : (i : Int) < (l.length : Int) := by omega
    have a2 : (0 : Int) ≤ (i : Int) := by omega
    have a3 : out.length < 5864062014805 := by omega
    have hn := hne i (Nat.le_refl _) hlt
    have h := ih k (i + 1) (out ++ [l[i]]) (by omega) (by omega) (by omega) (by simp; omega) (fun q h1 h2 => hne q (by omega) h2)
    have e : l.drop i = l[i] :: l.drop (i + 1) := List.drop_eq_getElem_cons hlt
    rw [rd33 l i hlt] at hn
    simp only [spec_LeasePut.l0, spec_LeasePut.j2, a1, a2, a3, if_true, if_false, Bool.false_eq_true, rd33 l i hlt, hn, succ_cast i (by omega)]
    rw [show (⟨l[i].f0, l[i].f1, l[i].f2⟩ : S33) = l[i] from rfl, h, e]
    simp
theorem put_loop1 (l same : List S33) (id b c : Int) (hl : l.length ≤ 400) (hu : UpLease l) : ∀ (d k i : Nat), at_Lease l id - i = d → i ≤ at_Lease l id → 2 * (l.length - i) + 4 < k →
    spec_LeasePut.l0 k l same (l.take i) false (i : Int) id b c = some (if ((l.take (at_Lease l id) ++ ⟨id, b, c⟩ :: (if is_Lease l id = true then l.drop (at_Lease l id + 1) else l.drop (at_Lease l id))).length : Int) > 60 then same else l.take (at_Lease l id) ++ ⟨id, b, c⟩ :: (if is_Lease l id = true then l.drop (at_Lease l id + 1) else l.drop (at_Lease l id))) := by
  obtain ⟨b1, b2, b3⟩ := at_Lease_spec l id hu
  have hiff := is_Lease_iff l id hu
  have his : is_Lease l id = (decide (at_Lease l id < l.length) && (keys_Lease l (at_Lease l id) == id)) := rfl
  generalize hat : at_Lease l id = at_ at *
  intro d
  induction d with
  | zero =>
    intro k i hd hi hk
    obtain rfl : i = at_ := by omega
    by_cases hlt : i < l.length
    · obtain ⟨k, rfl⟩ : ∃ m, k = m + 2 := ⟨k - 2, by omega⟩
      have a1 : (i : Int) < (l.length : Int) := by omega
      have a2 : (0 : Int) ≤ (i : Int) := by omega
      have a3 : (l.take i).length < 5864062014805 := by simp; omega
      have hge := b3 i (Nat.le_refl _) hlt
      have hgt : ∀ q : Nat, i + 1 ≤ q → q < l.length → (rd_T33 l (q : Int)).f0 ≠ id := fun q h1 h2 => by
        have := hu i q (by omega) h2
        omega
      have e : l.drop i = l[i] :: l.drop (i + 1) := List.drop_eq_getElem_cons hlt
      have hk2 : keys_Lease l i = l[i].f0 := by show (rd_T33 l (i : Int)).f0 = _; rw [rd33 l i hlt]
      rw [rd33 l i hlt] at hge
      simp only [spec_LeasePut.l0, spec_LeasePut.j2, a1, a2, a3, if_true, if_false, Bool.false_eq_true, rd33 l i hlt, show decide (l[i].f0 ≥ id) = true from decide_eq_true hge, Option.bind_some, succ_cast i (by omega)]
      by_cases he : l[i].f0 = id
      · have his2 : is_Lease l id = true := by rw [his, hk2, he]; simp [hlt]
        rw [if_pos he, put_loop2 l same id b c hl (l.length - (i + 1)) k (i + 1) _ rfl (by omega) (by omega) (by simp; omega) hgt, his2]
        simp
      · have his2 : is_Lease l id = false := by rw [his, hk2, show (l[i].f0 == id) = false from beq_eq_false_iff_ne.2 he]; simp
        rw [if_neg he, if_pos (by simp; omega), show (⟨l[i].f0, l[i].f1, l[i].f2⟩ : S33) = l[i] from rfl, put_loop2 l same id b c hl (l.length - (i + 1)) k (i + 1) _ rfl (by omega) (by omega) (by simp; omega) hgt, his2, e]
        simp
    · obtain ⟨k, rfl⟩ : ∃ m, k = m + 1 := ⟨k - 1, by omega⟩
      obtain rfl : i = l.length := by omega
      have his2 : is_Lease l id = false := by rw [his]; simp
      have a1 : ¬ (l.length : Int) < (l.length : Int) := by omega
      have a3 : (l.take l.length).length < 5864062014805 := by simp; omega
      simp only [spec_LeasePut.l0, a1, a3, if_true, if_false, Bool.false_eq_true, Option.bind_some, his2, List.drop_length]
      split <;> rfl
  | succ d ih =>
    intro k i hd hi hk
    obtain ⟨k, rfl⟩ : ∃ m, k = m + 2 := ⟨k - 2, by omega⟩
    have hlt : i < l.length := by omega
    have a1 : (i : Int) < (l.length : Int) := by omega
    have a2 : (0 : Int) ≤ (i : Int) := by omega
    have a3 : (l.take i).length < 5864062014805 := by simp; omega
    have hlo := b2 i (by omega)
    rw [rd33 l i hlt] at hlo
    have h := ih k (i + 1) (by omega) (by omega) (by omega)
    rw [List.take_succ_eq_append_getElem hlt] at h
    simp only [spec_LeasePut.l0, spec_LeasePut.j2, a1, a2, a3, if_true, if_false, Bool.false_eq_true, rd33 l i hlt, show decide (l[i].f0 ≥ id) = false from decide_eq_false (by omega), show ¬ l[i].f0 = id from by omega, succ_cast i (by omega)]
    exact h
theorem put_same (l : List S33) (hl : l.length < 9223372036854775807) (id b c : Int) : ∃ v, v.length ≤ l.length + 1 ∧ (∀ k, 2 * l.length + 10 < k → spec_LeasePut.f k l id b c = some v) ∧ ∀ k, l.length + 10 < k → impl_LeasePut.f k l id b c = some v := by
  unfold spec_LeasePut.f impl_LeasePut.f
  simp only [Option.bind_some]
  by_cases h : (l.length : Int) > 400
  · exact ⟨[], by simp, fun k _ => by rw [if_pos h], fun k _ => by rw [if_pos h]⟩
  · obtain ⟨bb, hbm, hb⟩ := leases_same l hl
    have hap : ([] : List S33).length + l.length < 5864062014805 := by simp; omega
    cases bb with
    | false =>
      refine ⟨l, by omega, fun k hk => ?_, fun k hk => ?_⟩
      · obtain ⟨k, rfl⟩ : ∃ m, k = m + 1 := ⟨k - 1, by omega⟩
        rw [if_neg h, if_pos hap, (hb (k + 1) (by omega)).1]
        simp [spec_LeasePut.j0]
      · obtain ⟨k, rfl⟩ : ∃ m, k = m + 1 := ⟨k - 1, by omega⟩
        rw [if_neg h, (hb (k + 1) (by omega)).2]
        simp only [Option.bind_some, Bool.false_eq_true, if_false, impl_LeasePut.j0, if_true, impl_Lease.f]
        rw [if_pos (by omega)]
        simp
    | true =>
      obtain ⟨h60, hat⟩ := hbm rfl
      have hu := up_lease l hat
      have hfs : ∀ k, l.length < k → spec_LeasesRight.f k l = some true := fun k hk => (hb k hk).1
      have hfi : ∀ k, l.length < k → impl_LeasesRight.f k l = some true := fun k hk => (hb k hk).2
      cases hok : okLease id b c with
      | false =>
        refine ⟨l, by omega, fun k hk => ?_, fun k hk => ?_⟩
        · obtain ⟨k, rfl⟩ : ∃ m, k = m + 1 := ⟨k - 1, by omega⟩
          rw [if_neg h, if_pos hap, hfs _ (by omega)]
          simp [spec_lease_eq, hok, spec_LeasePut.j0]
        · obtain ⟨k, rfl⟩ : ∃ m, k = m + 1 := ⟨k - 1, by omega⟩
          rw [if_neg h, hfi _ (by omega)]
          simp only [Option.bind_some, if_true, impl_lease_eq, hok, Bool.not_false, impl_LeasePut.j0, impl_Lease.f]
          rw [if_pos (by omega)]
          simp
      | true =>
        obtain ⟨b1, b2, b3⟩ := at_Lease_spec l id hu
        obtain ⟨T, hT⟩ : ∃ T, T = l.take (at_Lease l id) ++ (⟨id, b, c⟩ : S33) :: (if is_Lease l id = true then l.drop (at_Lease l id + 1) else l.drop (at_Lease l id)) := ⟨_, rfl⟩
        have hTl : T.length ≤ l.length + 1 := by
          rw [hT]
          cases is_Lease l id <;> simp <;> omega
        have hput : impl_leasePut.f l id b c = some T := by
          unfold impl_leasePut.f
          rw [if_pos (by omega), hT]
          cases his : is_Lease l id with
          | false => simp
          | true =>
            have hlt : at_Lease l id < l.length := by
              unfold is_Lease at his
              simp only [Bool.and_eq_true, decide_eq_true_iff] at his
              exact his.1
            simp only [if_true]
            rw [List.set_eq_take_append_cons_drop, if_pos hlt]
        refine ⟨if (T.length : Int) > 60 then l else T, by split <;> omega, fun k hk => ?_, fun k hk => ?_⟩
        · obtain ⟨k, rfl⟩ : ∃ m, k = m + 1 := ⟨k - 1, by omega⟩
          have h1 := put_loop1 l l id b c (by omega) hu (at_Lease l id) k 0 (by omega) (by omega) (by omega)
          have h2 : spec_LeasePut.l0 k l l [] false 0 id b c = _ := h1
          rw [← hT] at h2
          rw [if_neg h, if_pos hap, hfs _ (by omega)]
          simp only [Option.bind_some, if_true, spec_lease_eq, hok, Bool.not_true, spec_LeasePut.j0, Bool.false_eq_true, if_false, List.nil_append, h2]
        · obtain ⟨k, rfl⟩ : ∃ m, k = m + 1 := ⟨k - 1, by omega⟩
          rw [if_neg h, hfi _ (by omega)]
          simp only [Option.bind_some, if_true, impl_lease_eq, hok, Bool.not_true, impl_LeasePut.j0, Bool.false_eq_true, if_false, hput, impl_Lease.f]
          by_cases h61 : (T.length : Int) > 60
          · rw [if_neg (by omega), if_pos h61, if_pos (by omega)]
            simp
          · rw [if_pos (by omega), if_neg h61]

theorem FnExactLeasePut : BridgeFnExactLeasePut.Pure := by
  intro l a b c hl _ _ _ _
  obtain ⟨v, hv, h1, h2⟩ := put_same (l.map convLease) (by simp; omega) a b c
  refine ⟨2 * l.length + 31, ?_⟩
  unfold laws_FnExactLeasePut.f
  rw [szLeaseS_eq l hl]
  simp only [Option.bind_some]
  have hlen : (l.map convLease).length = l.length := by simp
  by_cases hsz : l.length ≤ 1048576
  · rw [if_pos hsz, if_neg (by omega), toLeaseS_eq l hl _ (by omega)]
    simp only [Option.bind_some, laws_toLease.f]
    rw [h1 _ (by omega), h2 _ (by omega)]
    simp only [Option.bind_some]
    rw [eqLeaseS_same v (by omega) _ (by omega)]
    simp only [Option.bind_some, if_true]
    rw [eqLeaseS_same (l.map convLease) (by omega) _ (by omega)]
    simp only [Option.bind_some, if_true]
    obtain ⟨m1, hm1, _, _⟩ := markLeaseS_eq (l.map convLease) (by omega) (2 * l.length + 31) (by omega)
    rw [hm1]
    simp only [Option.bind_some]
    rw [if_neg (by omega)]
    by_cases hv2 : v.length ≤ 1048576
    · obtain ⟨m2, hm2, hl2, hr2⟩ := markLeaseS_eq v hv2 (2 * l.length + 30) (by omega)
      simp only [laws_FnExactLeasePut.j0, Bool.not_true, Bool.false_eq_true, if_false, hm2, Option.bind_some, heldLeaseS_eq m2 v.length hl2 hv2 hr2 (2 * l.length + 30) (by omega), if_true, toLeaseS_eq l hl (2 * l.length + 30) (by omega), laws_toLease.f, h2 (2 * l.length + 30) (by omega), eqLeaseS_same v (by omega) (2 * l.length + 30) (by omega)]
      rw [if_neg (by omega), if_neg (by omega)]
    · exfalso
      have h4 : v.length ≤ 400 ∨ v.length ≤ l.length := by
        have := h2 (2 * l.length + 30) (by omega)
        unfold impl_LeasePut.f at this
        by_cases h400 : ((l.map convLease).length : Int) > 400
        · rw [if_pos h400] at this
          have := Option.some.inj this
          rw [← this]; simp
        · left; omega
      omega
  · rw [if_neg hsz, if_pos (by omega)]
end Go.Proofs.Ythpggkpidbieeaa.Pure
