/- LeaseLive answers as the reference does, for every list of Leases and every number, keeps nothing of its argument and owns its answer. Conditions: none beyond the statement's own bounds. -/
import Derived.Test.YthpggkpidbieeaaBridgeFnExactLeaseLive
namespace Go.Proofs.Ythpggkpidbieeaa.Pure
open Go.RowKit Go.Proofs.Ythpggkpidbieeaa.XFnExactLeaseLive Go.Proofs.Ythpggkpidbieeaa.BridgeFnExactLeaseLive Go.Proofs.YthpggkpidbieeaaW.PrintWords Go.Proofs.YthpggkpidbieeaaW.PrintLast Go.Proofs.YthpggkpidbieeaaW.PrintMore
set_option linter.unusedVariables false
set_option linter.unusedSimpArgs false

theorem wrap_small {x : Int} (h0 : -9223372036854775808 ≤ x) (h1 : x ≤ 9223372036854775807) : wrap64 x = x := by
  unfold wrap64
  omega
theorem i64_range {x : Int} (h : (Lit.int .i64 x).wf = true) : -9223372036854775808 ≤ x ∧ x ≤ 9223372036854775807 := by
  simp [Lit.wf, IntKind.min, IntKind.max, IntKind.bits, IntKind.signed] at h
  omega
theorem u64_range {x : Int} (h : (Lit.int .u64 x).wf = true) : 0 ≤ x ∧ x < 18446744073709551616 := by
  simp [Lit.wf, IntKind.min, IntKind.max, IntKind.bits, IntKind.signed] at h
  omega

theorem in_eq (a b c : Int) : impl_in.f a b c = some (decide (b ≤ a ∧ a ≤ c)) := by
  unfold impl_in.f
  by_cases h : b ≤ a <;> simp [h]

theorem isId_eq (a : Int) : impl_isId.f a = some (decide (1 ≤ a ∧ a ≤ 1000000)) := by simp [impl_isId.f, in_eq]
theorem isWant_eq (a : Int) : impl_isWant.f a = some (decide (0 ≤ a ∧ a ≤ 1125899906842624)) := by simp [impl_isWant.f, in_eq]
theorem l02Id_eq (a : Int) : spec_l02Id.f a = some (decide (1 ≤ a ∧ a ≤ 1000000)) := by
  unfold spec_l02Id.f
  by_cases h : a ≥ 1
  · rw [if_pos h]; simp; omega
  · rw [if_neg h]; simp; omega
theorem l02Want_eq (a : Int) : spec_l02Want.f a = some (decide (0 ≤ a ∧ a ≤ 1125899906842624)) := by
  unfold spec_l02Want.f
  by_cases h : a ≥ 0
  · rw [if_pos h]; simp; omega
  · rw [if_neg h]; simp; omega

theorem isTime_eq (a : Int) : impl_isTime.f a = some (decide (0 ≤ a ∧ a ≤ 1000000)) := by simp [impl_isTime.f, in_eq]
theorem l07Time_eq (a : Int) : spec_l07Time.f a = some (decide (0 ≤ a ∧ a ≤ 1000000)) := by
  unfold spec_l07Time.f
  by_cases h : a ≥ 0
  · rw [if_pos h]; simp; omega
  · rw [if_neg h]; simp; omega

/-- A right Lease. -/
def okLease (a b c : Int) : Bool := decide (1 ≤ a ∧ a ≤ 1000000) && (decide (0 ≤ b ∧ b ≤ 1125899906842624) && decide (0 ≤ c ∧ c ≤ 1000000))
theorem spec_lease_eq (a b c : Int) : spec_l07Lease.f a b c = some (okLease a b c) := by
  unfold spec_l07Lease.f okLease
  rw [l02Id_eq, l02Want_eq, l07Time_eq]
  by_cases h1 : 1 ≤ a ∧ a ≤ 1000000 <;> by_cases h2 : 0 ≤ b ∧ b ≤ 1125899906842624 <;> simp [h1, h2]
theorem impl_lease_eq (a b c : Int) : impl_Lease_isRight.f a b c = some (okLease a b c) := by
  unfold impl_Lease_isRight.f okLease
  rw [isId_eq, isWant_eq, isTime_eq]
  by_cases h1 : 1 ≤ a ∧ a ≤ 1000000 <;> by_cases h2 : 0 ≤ b ∧ b ≤ 1125899906842624 <;> simp [h1, h2]

theorem set_fill {α β : Type} (l : List α) (f : α → β) (z : β) (i : Nat) (h : i < l.length) : ((l.take i).map f ++ List.replicate (l.length - i) z).set i (f l[i]) = (l.take (i + 1)).map f ++ List.replicate (l.length - (i + 1)) z := by
  have e : l.length - i = (l.length - (i + 1)) + 1 := by omega
  have hl : ((l.take i).map f).length = i := by simp; omega
  rw [e, List.replicate_succ, List.set_append_right i (f l[i]) (by omega), hl, Nat.sub_self, List.set_cons_zero, List.take_succ_eq_append_getElem h, List.map_append]
  simp
theorem succ_cast (i : Nat) (h : i < 9223372036854775807) : wrap64 ((i : Int) + 1) = ((i + 1 : Nat) : Int) := by
  rw [wrap_small (by omega) (by omega)]
  omega

theorem pred_cast (i : Nat) (h : 0 < i) (h2 : i < 9223372036854775807) : wrap64 ((i : Int) - 1) = ((i - 1 : Nat) : Int) := by
  rw [wrap_small (by omega) (by omega)]
  omega

theorem rd31 (xs : List S31) (i : Nat) (h : i < xs.length) : rd_T31 xs (i : Int) = xs[i] := by
  unfold rd_T31
  rw [Int.toNat_natCast, List.getD_eq_getElem?_getD, List.getElem?_eq_getElem h]
  rfl

def convLease (x : S31) : S33 := ⟨x.f0, x.f1, x.f2⟩
theorem toLeaseS_loop (l : List S31) (hl : l.length * 24 ≤ 140737488351232) : ∀ (d k i : Nat), l.length - i = d → i ≤ l.length → d < k → laws_toLeaseS.l0 k l ((l.take i).map convLease ++ List.replicate (l.length - i) z33) (i : Int) = some (l.map convLease) := by
  intro d
  induction d with
  | zero =>
    intro k i hd hi hk
    obtain ⟨k, rfl⟩ : ∃ m, k = m + 1 := ⟨k - 1, by omega⟩
    obtain rfl : i = l.length := by omega
    simp only [laws_toLeaseS.l0]
    rw [if_neg (by omega)]
    simp
  | succ d ih =>
    intro k i hd hi hk
    obtain ⟨k, rfl⟩ : ∃ m, k = m + 1 := ⟨k - 1, by omega⟩
    have hlt : i < l.length := by omega
    simp only [laws_toLeaseS.l0]
    rw [if_pos (by omega), if_pos (by omega)]
    simp only [laws_toLease.f, Option.bind_some, rd31 l i hlt]
    rw [if_pos (by simp; omega), Int.toNat_natCast, succ_cast i (by omega)]
    have e := set_fill l convLease z33 i hlt
    rw [show (⟨l[i].f0, l[i].f1, l[i].f2⟩ : S33) = convLease l[i] from rfl, e]
    exact ih k (i + 1) (by omega) (by omega) (by omega)
theorem toLeaseS_eq (l : List S31) (hl : l.length * 24 ≤ 140737488351232) (k : Nat) (hk : l.length < k) : laws_toLeaseS.f k l = some (l.map convLease) := by
  unfold laws_toLeaseS.f
  rw [if_pos (by omega), if_pos (by simp; omega)]
  have h := toLeaseS_loop l hl l.length k 0 (by omega) (by omega) hk
  simpa using h

theorem eqLease_same (x : S33) : laws_eqLease.f (x.f0) (x.f1) (x.f2) (x.f0) (x.f1) (x.f2) = some true := by simp [laws_eqLease.f]
theorem eqLeaseS_loop (l : List S33) (hl : l.length < 9223372036854775807) : ∀ (d k i : Nat), l.length - i = d → i ≤ l.length → d < k → laws_eqLeaseS.l0 k l l (i : Int) = some true := by
  intro d
  induction d with
  | zero =>
    intro k i hd hi hk
    obtain ⟨k, rfl⟩ : ∃ m, k = m + 1 := ⟨k - 1, by omega⟩
    simp only [laws_eqLeaseS.l0]
    rw [if_neg (by omega)]
  | succ d ih =>
    intro k i hd hi hk
    obtain ⟨k, rfl⟩ : ∃ m, k = m + 1 := ⟨k - 1, by omega⟩
    have hlt : i < l.length := by omega
    simp only [laws_eqLeaseS.l0]
    rw [if_pos (by omega), if_pos (by omega), if_pos (by omega), eqLease_same]
    simp only [Option.bind_some, if_true]
    rw [succ_cast i (by omega)]
    exact ih k (i + 1) (by omega) (by omega) (by omega)
theorem eqLeaseS_same (l : List S33) (hl : l.length < 9223372036854775807) (k : Nat) (hk : l.length < k) : laws_eqLeaseS.f k l l = some true := by
  unfold laws_eqLeaseS.f
  rw [if_pos rfl]
  exact eqLeaseS_loop l hl l.length k 0 (by omega) (by omega) hk

theorem szLeaseS_eq (l : List S31) (hl : l.length * 24 ≤ 140737488351232) : laws_szLeaseS.f l 1048576 = some (if l.length ≤ 1048576 then 1048576 - (l.length : Int) else -1) := by
  unfold laws_szLeaseS.f
  rw [wrap_small (by omega) (by omega)]
  by_cases h : l.length ≤ 1048576
  · rw [if_neg (by omega), if_pos h]
  · rw [if_pos (by omega), if_neg h]

/-- What a right list asks at place j. -/
def leasesAt (l : List S33) (j : Nat) : Prop := (okLease (rd_T33 l j).f0 (rd_T33 l j).f1 (rd_T33 l j).f2 = true) ∧ (0 < j → (rd_T33 l ((j - 1 : Nat) : Int)).f0 < (rd_T33 l j).f0)
/-- Both loops over a list tell the same, but that the program looks at the length last. -/
theorem leases_loops (l : List S33) (hl : l.length < 9223372036854775807) : ∀ (d i : Nat), l.length - i = d → i ≤ l.length → ∃ b, (b = true → ∀ j : Nat, i ≤ j → j < l.length → leasesAt l j) ∧ ∀ k, d < k → spec_LeasesRight.l0 k l (i : Int) = some b ∧ impl_LeasesRight.l0 k l l (l.length : Int) (i : Int) = some (b && decide ((l.length : Int) ≤ 60)) := by
  intro d
  induction d with
  | zero =>
    intro i hd hi
    refine ⟨true, fun _ j h1 h2 => by omega, fun k hk => ?_⟩
    obtain ⟨k, rfl⟩ : ∃ m, k = m + 1 := ⟨k - 1, by omega⟩
    refine ⟨?_, ?_⟩
    · simp only [spec_LeasesRight.l0]; rw [if_neg (by omega)]
    · simp only [impl_LeasesRight.l0]; rw [if_neg (by omega)]; simp
  | succ d ih =>
    intro i hd hi
    obtain ⟨b, hbm, hb⟩ := ih (i + 1) (by omega) (by omega)
    have a1 : (i : Int) < (l.length : Int) := by omega
    have a2 : (0 : Int) ≤ (i : Int) := by omega
    by_cases h : okLease (rd_T33 l i).f0 (rd_T33 l i).f1 (rd_T33 l i).f2 = true
    · by_cases h0 : (i : Int) > 0
      · have a3 : (0 : Int) ≤ ((i - 1 : Nat) : Int) := by omega
        have a4 : ((i - 1 : Nat) : Int) < (l.length : Int) := by omega
        by_cases hc : (rd_T33 l i).f0 ≤ (rd_T33 l ((i - 1 : Nat) : Int)).f0
        · refine ⟨false, (fun h => by cases h), fun k hk => ?_⟩
          obtain ⟨k, rfl⟩ : ∃ m, k = m + 1 := ⟨k - 1, by omega⟩
          have hc' : (rd_T33 l ((i - 1 : Nat) : Int)).f0 ≥ (rd_T33 l i).f0 := hc
          simp only [spec_LeasesRight.l0, impl_LeasesRight.l0, a1, a2, if_true, spec_lease_eq, impl_lease_eq, Option.bind_some, h, h0, pred_cast i (by omega) (by omega), a3, a4, hc, hc']
          exact ⟨by first | rfl | trivial, by simp⟩
        · refine ⟨b, fun hbt j h1 h2 => ?_, fun k hk => ?_⟩
          · by_cases hj : j = i
            · rw [hj]; exact ⟨h, fun _ => by omega⟩
            · exact hbm hbt j (by omega) h2
          obtain ⟨k, rfl⟩ : ∃ m, k = m + 1 := ⟨k - 1, by omega⟩
          obtain ⟨h1, h2⟩ := hb k (by omega)
          have hc' : ¬ (rd_T33 l ((i - 1 : Nat) : Int)).f0 ≥ (rd_T33 l i).f0 := hc
          simp only [spec_LeasesRight.l0, impl_LeasesRight.l0, a1, a2, if_true, spec_lease_eq, impl_lease_eq, Option.bind_some, h, h0, pred_cast i (by omega) (by omega), a3, a4, hc, hc', if_false, succ_cast i (by omega), h1, h2]
          all_goals exact ⟨trivial, trivial⟩
      · refine ⟨b, fun hbt j h1 h2 => ?_, fun k hk => ?_⟩
        · by_cases hj : j = i
          · rw [hj]; exact ⟨h, fun h => absurd h (by omega)⟩
          · exact hbm hbt j (by omega) h2
        obtain ⟨k, rfl⟩ : ∃ m, k = m + 1 := ⟨k - 1, by omega⟩
        obtain ⟨h1, h2⟩ := hb k (by omega)
        simp only [spec_LeasesRight.l0, impl_LeasesRight.l0, a1, a2, if_true, spec_lease_eq, impl_lease_eq, Option.bind_some, h, h0, if_false, succ_cast i (by omega), h1, h2]
        all_goals exact ⟨trivial, trivial⟩
    · refine ⟨false, (fun h => by cases h), fun k hk => ?_⟩
      obtain ⟨k, rfl⟩ : ∃ m, k = m + 1 := ⟨k - 1, by omega⟩
      simp only [spec_LeasesRight.l0, impl_LeasesRight.l0, a1, a2, if_true, spec_lease_eq, impl_lease_eq, Option.bind_some, h]
      exact ⟨by first | rfl | trivial, by simp⟩
theorem leases_same (l : List S33) (hl : l.length < 9223372036854775807) : ∃ b, (b = true → l.length ≤ 60 ∧ ∀ j : Nat, j < l.length → leasesAt l j) ∧ ∀ k, l.length < k → spec_LeasesRight.f k l = some b ∧ impl_LeasesRight.f k l = some b := by
  obtain ⟨b, hbm, hb⟩ := leases_loops l hl l.length 0 (by omega) (by omega)
  by_cases h : (l.length : Int) > 60
  · refine ⟨false, by simp, fun k hk => ?_⟩
    obtain ⟨h1, h2⟩ := hb k hk
    have h2' : impl_LeasesRight.l0 k l l (l.length : Int) 0 = some (b && decide ((l.length : Int) ≤ 60)) := h2
    unfold spec_LeasesRight.f impl_LeasesRight.f
    rw [h2', if_pos h]
    exact ⟨rfl, by simp; omega⟩
  · refine ⟨b, fun hbt => ⟨by omega, fun j hj => hbm hbt j (by omega) hj⟩, fun k hk => ?_⟩
    obtain ⟨h1, h2⟩ := hb k hk
    have h1' : spec_LeasesRight.l0 k l 0 = some b := h1
    have h2' : impl_LeasesRight.l0 k l l (l.length : Int) 0 = some (b && decide ((l.length : Int) ≤ 60)) := h2
    unfold spec_LeasesRight.f impl_LeasesRight.f
    rw [h1', h2', if_neg h]
    exact ⟨rfl, by simp; omega⟩

theorem rd33 (xs : List S33) (i : Nat) (h : i < xs.length) : rd_T33 xs (i : Int) = xs[i] := by
  unfold rd_T33
  rw [Int.toNat_natCast, List.getD_eq_getElem?_getD, List.getElem?_eq_getElem h]
  rfl

theorem rdset33 (xs : List S33) (i j : Nat) (v : S33) (h : i < xs.length) : rd_T33 (xs.set i v) (j : Int) = if j = i then v else rd_T33 xs (j : Int) := by
  unfold rd_T33
  rw [Int.toNat_natCast, List.getD_eq_getElem?_getD, List.getD_eq_getElem?_getD, List.getElem?_set]
  by_cases e : j = i
  · subst e; simp [h]
  · have e' : i ≠ j := fun q => e q.symm
    simp [e, e']
def markOfLease (j : Nat) : S33 := ⟨1 + 3 * (j : Int), 1 + 3 * (j : Int) + 1, 1 + 3 * (j : Int) + 2⟩
theorem markLeaseS_loop (n : Nat) (hn : n ≤ 1048576) : ∀ (d k i : Nat) (x0 : List S33), x0.length = n → n - i = d → i ≤ n → d < k → (∀ j : Nat, j < i → rd_T33 x0 j = markOfLease j) →
    ∃ l', laws_markLeaseS.l0 k x0 (1 + 3 * (i : Int)) (i : Int) = some (1 + 3 * (n : Int), l') ∧ l'.length = n ∧ ∀ j : Nat, j < n → rd_T33 l' j = markOfLease j := by
  intro d
  induction d with
  | zero =>
    intro k i x0 hx hd hi hk hm
    obtain ⟨k, rfl⟩ : ∃ m, k = m + 1 := ⟨k - 1, by omega⟩
    obtain rfl : i = n := by omega
    simp only [laws_markLeaseS.l0]
    rw [if_neg (by omega)]
    exact ⟨x0, rfl, hx, hm⟩
  | succ d ih =>
    intro k i x0 hx hd hi hk hm
    obtain ⟨k, rfl⟩ : ∃ m, k = m + 1 := ⟨k - 1, by omega⟩
    simp only [laws_markLeaseS.l0]
    rw [if_pos (by omega), if_pos (by omega)]
    simp only [Option.bind_some, Int.toNat_natCast, List.length_set, hx, rdset33, show i < n from by omega, if_true, List.set_set]
    rw [show wrap64 ((1 + 3 * (i : Int)) + 1) = 1 + 3 * (i : Int) + 1 from by rw [wrap_small (by omega) (by omega)]]
    rw [show wrap64 ((1 + 3 * (i : Int) + 1) + 1) = 1 + 3 * (i : Int) + 2 from by rw [wrap_small (by omega) (by omega)]; omega]
    rw [show wrap64 ((1 + 3 * (i : Int) + 2) + 1) = 1 + 3 * (i : Int) + 3 from by rw [wrap_small (by omega) (by omega)]; omega]
    obtain ⟨l', h1, h2, h3⟩ := ih k (i + 1) (x0.set i (markOfLease i)) (by simp [hx]) (by omega) (by omega) (by omega) (fun j hj => by
      rw [rdset33 _ _ _ _ (by omega)]
      by_cases e : j = i
      · rw [if_pos e, e]
      · rw [if_neg e]; exact hm j (by omega))
    refine ⟨l', ?_, h2, h3⟩
    rw [← h1, succ_cast i (by omega)]
    congr 1
theorem markLeaseS_eq (l : List S33) (hn : l.length ≤ 1048576) (k : Nat) (hk : l.length < k) : ∃ l', laws_markLeaseS.f k l 1 = some (1 + 3 * (l.length : Int), l') ∧ l'.length = l.length ∧ ∀ j : Nat, j < l.length → rd_T33 l' j = markOfLease j :=
  markLeaseS_loop l.length hn l.length k 0 l rfl (by omega) (by omega) hk (fun j hj => absurd hj (by omega))
theorem heldLeaseS_loop (n : Nat) (hn : n ≤ 1048576) (l : List S33) (hl : l.length = n) (hm : ∀ j : Nat, j < n → rd_T33 l j = markOfLease j) : ∀ (d k i : Nat), n - i = d → i ≤ n → d < k → laws_heldLeaseS.l0 k l (1 + 3 * (i : Int)) (i : Int) = some (1 + 3 * (n : Int)) := by
  intro d
  induction d with
  | zero =>
    intro k i hd hi hk
    obtain ⟨k, rfl⟩ : ∃ m, k = m + 1 := ⟨k - 1, by omega⟩
    obtain rfl : i = n := by omega
    simp only [laws_heldLeaseS.l0]
    rw [if_neg (by omega)]
  | succ d ih =>
    intro k i hd hi hk
    obtain ⟨k, rfl⟩ : ∃ m, k = m + 1 := ⟨k - 1, by omega⟩
    simp only [laws_heldLeaseS.l0, hm i (by omega)]
    rw [if_pos (by omega), if_pos (by omega)]
    rw [show wrap64 ((1 + 3 * (i : Int)) + 1) = 1 + 3 * (i : Int) + 1 from by rw [wrap_small (by omega) (by omega)]]
    rw [show wrap64 ((1 + 3 * (i : Int) + 1) + 1) = 1 + 3 * (i : Int) + 2 from by rw [wrap_small (by omega) (by omega)]; omega]
    rw [show wrap64 ((1 + 3 * (i : Int) + 2) + 1) = 1 + 3 * (i : Int) + 3 from by rw [wrap_small (by omega) (by omega)]; omega]
    simp only [markOfLease, if_true]
    rw [succ_cast i (by omega)]
    have := ih k (i + 1) (by omega) (by omega) (by omega)
    rw [← this]
    congr 1
theorem heldLeaseS_eq (l : List S33) (n : Nat) (hl : l.length = n) (hn : n ≤ 1048576) (hm : ∀ j : Nat, j < n → rd_T33 l j = markOfLease j) (k : Nat) (hk : n < k) : laws_heldLeaseS.f k l 1 = some (1 + 3 * (n : Int)) :=
  heldLeaseS_loop n hn l hl hm n k 0 (by omega) (by omega) hk

def struck (a : Int) (x : S33) : Bool := decide (x.f2 ≤ a)
theorem spec_loop (l : List S33) (hl : l.length ≤ 400) (a : Int) (t : Bool) : ∀ (d k i : Nat) (out : List S33), l.length - i = d → i ≤ l.length → d < k → out.length ≤ i → spec_LeaseLive.l0 k l a out t (i : Int) = some (out ++ (l.drop i).filter (fun x => !(t && struck a x))) := by
  intro d
  induction d with
  | zero =>
    intro k i out hd hi hk ho
    obtain ⟨k, rfl⟩ : ∃ m, k = m + 1 := ⟨k - 1, by omega⟩
    obtain rfl : i = l.length := by omega
    simp only [spec_LeaseLive.l0]
    rw [if_neg (by omega)]
    simp
  | succ d ih =>
    intro k i out hd hi hk ho
    obtain ⟨k, rfl⟩ : ∃ m, k = m + 1 := ⟨k - 1, by omega⟩
    have hlt : i < l.length := by omega
    have a1 : (i : Int) < (l.length : Int) := by omega
    have a2 : (0 : Int) ≤ (i : Int) := by omega
    have a3 : out.length < 5864062014805 := by omega
    have e : l.drop i = l[i] :: l.drop (i + 1) := List.drop_eq_getElem_cons hlt
    have h1 := ih k (i + 1) out (by omega) (by omega) (by omega) (by omega)
    have h2 := ih k (i + 1) (out ++ [l[i]]) (by omega) (by omega) (by omega) (by simp; omega)
    simp only [spec_LeaseLive.l0, a1, a2, a3, if_true, rd33 l i hlt, succ_cast i (by omega), e, List.filter_cons]
    cases t with
    | false =>
      simp only [Bool.false_and, Bool.not_false, if_true, if_false, Bool.false_eq_true]
      rw [show (⟨l[i].f0, l[i].f1, l[i].f2⟩ : S33) = l[i] from rfl, h2]
      simp
    | true =>
      simp only [Bool.true_and, if_true]
      cases hs : struck a l[i] with
      | true =>
        have hs' : l[i].f2 ≤ a := by simpa [struck] using hs
        simp only [hs', show ¬ l[i].f2 > a from by omega, Bool.not_true, Bool.false_eq_true, if_true, if_false, h1]
        simp
      | false =>
        have hs' : a < l[i].f2 := by simpa [struck] using hs
        simp only [hs', show l[i].f2 > a from by omega, Bool.not_false, if_true, if_false]
        rw [show (⟨l[i].f0, l[i].f1, l[i].f2⟩ : S33) = l[i] from rfl, h2]
        simp
theorem same (l : List S33) (hl : l.length < 9223372036854775807) (a : Int) (k : Nat) (hk : l.length < k) : ∃ v, v.length ≤ l.length ∧ spec_LeaseLive.f k l a = some v ∧ impl_LeaseLive.f k l a = some v := by
  unfold spec_LeaseLive.f impl_LeaseLive.f leasesBut.f
  simp only [Option.bind_some]
  by_cases h : (l.length : Int) > 400
  · rw [if_pos h, if_pos h]
    exact ⟨[], by simp, rfl, rfl⟩
  · rw [if_neg h, if_neg h]
    obtain ⟨b, _, hb⟩ := leases_same l hl
    obtain ⟨h1, h2⟩ := hb k hk
    rw [h1, h2]
    simp only [Option.bind_some]
    have h3 := spec_loop l (by omega) a b l.length k 0 [] (by omega) (by omega) hk (by simp)
    have h4 : spec_LeaseLive.l0 k l a [] b 0 = some (l.filter (fun x => !(b && struck a x))) := by simpa using h3
    refine ⟨_, List.length_filter_le _ _, h4, ?_⟩
    cases b with
    | false => simp; exact (List.filter_eq_self.2 (fun _ _ => rfl)).symm
    | true => simp [struck]
theorem FnExactLeaseLive : BridgeFnExactLeaseLive.Pure := by
  intro l a hl _ _
  refine ⟨l.length + 11, ?_⟩
  unfold laws_FnExactLeaseLive.f
  rw [szLeaseS_eq l hl]
  simp only [Option.bind_some]
  by_cases hsz : l.length ≤ 1048576
  · rw [if_pos hsz, if_neg (by omega), toLeaseS_eq l hl _ (by omega)]
    simp only [Option.bind_some]
    obtain ⟨v, hv, h1, h2⟩ := same (l.map convLease) (by simp; omega) a (l.length + 11) (by simp)
    obtain ⟨v', hv', h1', h2'⟩ := same (l.map convLease) (by simp; omega) a (l.length + 10) (by simp)
    have hlen : (l.map convLease).length = l.length := by simp
    have hvv : v' = v := by
      have := impl_LeaseLive.mono (l.map convLease) a (l.length + 10) _ h2'
      rw [h2] at this
      exact (Option.some.inj this).symm
    rw [hvv] at h2'
    rw [h1, h2]
    simp only [Option.bind_some]
    rw [eqLeaseS_same v (by omega) _ (by omega)]
    simp only [Option.bind_some, if_true]
    rw [eqLeaseS_same (l.map convLease) (by omega) _ (by omega)]
    simp only [Option.bind_some, if_true]
    obtain ⟨m1, hm1, _, _⟩ := markLeaseS_eq (l.map convLease) (by omega) (l.length + 11) (by omega)
    obtain ⟨m2, hm2, hl2, hr2⟩ := markLeaseS_eq v (by omega) (l.length + 10) (by omega)
    rw [hm1]
    simp only [Option.bind_some]
    rw [if_neg (by omega)]
    simp only [laws_FnExactLeaseLive.j0, Bool.not_true, Bool.false_eq_true, if_false, hm2, Option.bind_some, heldLeaseS_eq m2 v.length hl2 (by omega) hr2 (l.length + 10) (by omega), if_true, toLeaseS_eq l hl (l.length + 10) (by omega), h2', eqLeaseS_same v (by omega) (l.length + 10) (by omega)]
    rw [if_neg (by omega), if_neg (by omega)]
  · rw [if_neg hsz, if_pos (by omega)]
end Go.Proofs.Ythpggkpidbieeaa.Pure
