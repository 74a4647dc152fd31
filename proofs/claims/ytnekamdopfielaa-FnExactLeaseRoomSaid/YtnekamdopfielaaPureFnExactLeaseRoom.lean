/- LeaseRoom answers as the reference does, for every list of Leases, time, Id and cap, and leaves its argument. Conditions: none beyond the statement's own bounds. -/
import Derived.Test.YtnekamdopfielaaBridgeFnExactLeaseRoom
namespace Go.Proofs.Ytnekamdopfielaa.Pure
open Go.RowKit Go.Proofs.Ytnekamdopfielaa.PFnExactLeaseRoom Go.Proofs.Ytnekamdopfielaa.BridgeFnExactLeaseRoom Go.Proofs.YtnekamdopfielaaW.PrintWords Go.Proofs.YtnekamdopfielaaW.PrintLast
set_option linter.unusedVariables false
set_option linter.unusedSimpArgs false

theorem wrap_small {x : Int} (h0 : -9223372036854775808 ≤ x) (h1 : x ≤ 9223372036854775807) : wrap64 x = x := by
  unfold wrap64
  omega
theorem i64_range {x : Int} (h : (Lit.int .i64 x).wf = true) : -9223372036854775808 ≤ x ∧ x ≤ 9223372036854775807 := by
  simp [Lit.wf, IntKind.min, IntKind.max, IntKind.bits, IntKind.signed] at h
  omega
theorem u64_range {x : Int} (h : (Lit.int .u64 x).wf = true) : 0 ≤ x ∧ x < 18446744073709551616 := by
  simp [Lit.wf, IntKind.min, IntKind.max, IntKind.bits, IntKind.signed] at h
  omega

theorem in_eq (a b c : Int) : impl_in.f a b c = some (decide (b ≤ a ∧ a ≤ c)) := by
  unfold impl_in.f
  by_cases h : b ≤ a <;> simp [h]

theorem isId_eq (a : Int) : impl_isId.f a = some (decide (1 ≤ a ∧ a ≤ 1000000)) := by simp [impl_isId.f, in_eq]
theorem isWant_eq (a : Int) : impl_isWant.f a = some (decide (0 ≤ a ∧ a ≤ 1125899906842624)) := by simp [impl_isWant.f, in_eq]
theorem l02Id_eq (a : Int) : spec_l02Id.f a = some (decide (1 ≤ a ∧ a ≤ 1000000)) := by
  unfold spec_l02Id.f
  by_cases h : a ≥ 1
  · rw [if_pos h]; simp; omega
  · rw [if_neg h]; simp; omega
theorem l02Want_eq (a : Int) : spec_l02Want.f a = some (decide (0 ≤ a ∧ a ≤ 1125899906842624)) := by
  unfold spec_l02Want.f
  by_cases h : a ≥ 0
  · rw [if_pos h]; simp; omega
  · rw [if_neg h]; simp; omega

theorem isTime_eq (a : Int) : impl_isTime.f a = some (decide (0 ≤ a ∧ a ≤ 1000000)) := by simp [impl_isTime.f, in_eq]
theorem l07Time_eq (a : Int) : spec_l07Time.f a = some (decide (0 ≤ a ∧ a ≤ 1000000)) := by
  unfold spec_l07Time.f
  by_cases h : a ≥ 0
  · rw [if_pos h]; simp; omega
  · rw [if_neg h]; simp; omega

/-- A right Lease. -/
def okLease (a b c : Int) : Bool := decide (1 ≤ a ∧ a ≤ 1000000) && (decide (0 ≤ b ∧ b ≤ 1125899906842624) && decide (0 ≤ c ∧ c ≤ 1000000))
theorem spec_lease_eq (a b c : Int) : spec_l07Lease.f a b c = some (okLease a b c) := by
  unfold spec_l07Lease.f okLease
  rw [l02Id_eq, l02Want_eq, l07Time_eq]
  by_cases h1 : 1 ≤ a ∧ a ≤ 1000000 <;> by_cases h2 : 0 ≤ b ∧ b ≤ 1125899906842624 <;> simp [h1, h2]
theorem impl_lease_eq (a b c : Int) : impl_Lease_isRight.f a b c = some (okLease a b c) := by
  unfold impl_Lease_isRight.f okLease
  rw [isId_eq, isWant_eq, isTime_eq]
  by_cases h1 : 1 ≤ a ∧ a ≤ 1000000 <;> by_cases h2 : 0 ≤ b ∧ b ≤ 1125899906842624 <;> simp [h1, h2]

theorem set_fill {α β : Type} (l : List α) (f : α → β) (z : β) (i : Nat) (h : i < l.length) : ((l.take i).map f ++ List.replicate (l.length - i) z).set i (f l[i]) = (l.take (i + 1)).map f ++ List.replicate (l.length - (i + 1)) z := by
  have e : l.length - i = (l.length - (i + 1)) + 1 := by omega
  have hl : ((l.take i).map f).length = i := by simp; omega
  rw [e, List.replicate_succ, List.set_append_right i (f l[i]) (by omega), hl, Nat.sub_self, List.set_cons_zero, List.take_succ_eq_append_getElem h, List.map_append]
  simp
theorem succ_cast (i : Nat) (h : i < 9223372036854775807) : wrap64 ((i : Int) + 1) = ((i + 1 : Nat) : Int) := by
  rw [wrap_small (by omega) (by omega)]
  omega

theorem pred_cast (i : Nat) (h : 0 < i) (h2 : i < 9223372036854775807) : wrap64 ((i : Int) - 1) = ((i - 1 : Nat) : Int) := by
  rw [wrap_small (by omega) (by omega)]
  omega

theorem rd96 (xs : List S96) (i : Nat) (h : i < xs.length) : rd_T96 xs (i : Int) = xs[i] := by
  unfold rd_T96
  rw [Int.toNat_natCast, List.getD_eq_getElem?_getD, List.getElem?_eq_getElem h]
  rfl

def convLease (x : S96) : S94 := ⟨x.f0, x.f1, x.f2⟩
theorem toLeaseS_loop (l : List S96) (hl : l.length * 24 ≤ 140737488351232) : ∀ (d k i : Nat), l.length - i = d → i ≤ l.length → d < k → laws_toLeaseS.l0 k l ((l.take i).map convLease ++ List.replicate (l.length - i) z94) (i : Int) = some (l.map convLease) := by
  intro d
  induction d with
  | zero =>
    intro k i hd hi hk
    obtain ⟨k, rfl⟩ : ∃ m, k = m + 1 := ⟨k - 1, by omega⟩
    obtain rfl : i = l.length := by omega
    simp only [laws_toLeaseS.l0]
    rw [if_neg (by omega)]
    simp
  | succ d ih =>
    intro k i hd hi hk
    obtain ⟨k, rfl⟩ : ∃ m, k = m + 1 := ⟨k - 1, by omega⟩
    have hlt : i < l.length := by omega
    simp only [laws_toLeaseS.l0]
    rw [if_pos (by omega), if_pos (by omega)]
    simp only [laws_toLease.f, Option.bind_some, rd96 l i hlt]
    rw [if_pos (by simp; omega), Int.toNat_natCast, succ_cast i (by omega)]
    have e := set_fill l convLease z94 i hlt
    rw [show (⟨l[i].f0, l[i].f1, l[i].f2⟩ : S94) = convLease l[i] from rfl, e]
    exact ih k (i + 1) (by omega) (by omega) (by omega)
theorem toLeaseS_eq (l : List S96) (hl : l.length * 24 ≤ 140737488351232) (k : Nat) (hk : l.length < k) : laws_toLeaseS.f k l = some (l.map convLease) := by
  unfold laws_toLeaseS.f
  rw [if_pos (by omega), if_pos (by simp; omega)]
  have h := toLeaseS_loop l hl l.length k 0 (by omega) (by omega) hk
  simpa using h

theorem eqLease_same (x : S94) : laws_eqLease.f (x.f0) (x.f1) (x.f2) (x.f0) (x.f1) (x.f2) = some true := by simp [laws_eqLease.f]
theorem eqLeaseS_loop (l : List S94) (hl : l.length < 9223372036854775807) : ∀ (d k i : Nat), l.length - i = d → i ≤ l.length → d < k → laws_eqLeaseS.l0 k l l (i : Int) = some true := by
  intro d
  induction d with
  | zero =>
    intro k i hd hi hk
    obtain ⟨k, rfl⟩ : ∃ m, k = m + 1 := ⟨k - 1, by omega⟩
    simp only [laws_eqLeaseS.l0]
    rw [if_neg (by omega)]
  | succ d ih =>
    intro k i hd hi hk
    obtain ⟨k, rfl⟩ : ∃ m, k = m + 1 := ⟨k - 1, by omega⟩
    have hlt : i < l.length := by omega
    simp only [laws_eqLeaseS.l0]
    rw [if_pos (by omega), if_pos (by omega), if_pos (by omega), eqLease_same]
    simp only [Option.bind_some, if_true]
    rw [succ_cast i (by omega)]
    exact ih k (i + 1) (by omega) (by omega) (by omega)
theorem eqLeaseS_same (l : List S94) (hl : l.length < 9223372036854775807) (k : Nat) (hk : l.length < k) : laws_eqLeaseS.f k l l = some true := by
  unfold laws_eqLeaseS.f
  rw [if_pos rfl]
  exact eqLeaseS_loop l hl l.length k 0 (by omega) (by omega) hk

theorem szLeaseS_eq (l : List S96) (hl : l.length * 24 ≤ 140737488351232) : laws_szLeaseS.f l 1048576 = some (if l.length ≤ 1048576 then 1048576 - (l.length : Int) else -1) := by
  unfold laws_szLeaseS.f
  rw [wrap_small (by omega) (by omega)]
  by_cases h : l.length ≤ 1048576
  · rw [if_neg (by omega), if_pos h]
  · rw [if_pos (by omega), if_neg h]

/-- Both loops over a list tell the same, but that the program looks at the length last. -/
theorem leases_loops (l : List S94) (hl : l.length < 9223372036854775807) : ∀ (d i : Nat), l.length - i = d → i ≤ l.length → ∃ b, ∀ k, d < k → spec_LeasesRight.l0 k l (i : Int) = some b ∧ impl_LeasesRight.l0 k l l (l.length : Int) (i : Int) = some (b && decide ((l.length : Int) ≤ 60)) := by
  intro d
  induction d with
  | zero =>
    intro i hd hi
    refine ⟨true, fun k hk => ?_⟩
    obtain ⟨k, rfl⟩ : ∃ m, k = m + 1 := ⟨k - 1, by omega⟩
    refine ⟨?_, ?_⟩
    · simp only [spec_LeasesRight.l0]; rw [if_neg (by omega)]
    · simp only [impl_LeasesRight.l0]; rw [if_neg (by omega)]; simp
  | succ d ih =>
    intro i hd hi
    obtain ⟨b, hb⟩ := ih (i + 1) (by omega) (by omega)
    have a1 : (i : Int) < (l.length : Int) := by omega
    have a2 : (0 : Int) ≤ (i : Int) := by omega
    by_cases h : okLease (rd_T94 l i).f0 (rd_T94 l i).f1 (rd_T94 l i).f2 = true
    · by_cases h0 : (i : Int) > 0
      · have a3 : (0 : Int) ≤ ((i - 1 : Nat) : Int) := by omega
        have a4 : ((i - 1 : Nat) : Int) < (l.length : Int) := by omega
        by_cases hc : (rd_T94 l i).f0 ≤ (rd_T94 l ((i - 1 : Nat) : Int)).f0
        · refine ⟨false, fun k hk => ?_⟩
          obtain ⟨k, rfl⟩ : ∃ m, k = m + 1 := ⟨k - 1, by omega⟩
          have hc' : (rd_T94 l ((i - 1 : Nat) : Int)).f0 ≥ (rd_T94 l i).f0 := hc
          simp only [spec_LeasesRight.l0, impl_LeasesRight.l0, a1, a2, if_true, spec_lease_eq, impl_lease_eq, Option.bind_some, h, h0, pred_cast i (by omega) (by omega), a3, a4, hc, hc']
          exact ⟨by first | rfl | trivial, by simp⟩
        · refine ⟨b, fun k hk => ?_⟩
          obtain ⟨k, rfl⟩ : ∃ m, k = m + 1 := ⟨k - 1, by omega⟩
          obtain ⟨h1, h2⟩ := hb k (by omega)
          have hc' : ¬ (rd_T94 l ((i - 1 : Nat) : Int)).f0 ≥ (rd_T94 l i).f0 := hc
          simp only [spec_LeasesRight.l0, impl_LeasesRight.l0, a1, a2, if_true, spec_lease_eq, impl_lease_eq, Option.bind_some, h, h0, pred_cast i (by omega) (by omega), a3, a4, hc, hc', if_false, succ_cast i (by omega), h1, h2]
          exact ⟨trivial, trivial⟩
      · refine ⟨b, fun k hk => ?_⟩
        obtain ⟨k, rfl⟩ : ∃ m, k = m + 1 := ⟨k - 1, by omega⟩
        obtain ⟨h1, h2⟩ := hb k (by omega)
        simp only [spec_LeasesRight.l0, impl_LeasesRight.l0, a1, a2, if_true, spec_lease_eq, impl_lease_eq, Option.bind_some, h, h0, if_false, succ_cast i (by omega), h1, h2]
        exact ⟨trivial, trivial⟩
    · refine ⟨false, fun k hk => ?_⟩
      obtain ⟨k, rfl⟩ : ∃ m, k = m + 1 := ⟨k - 1, by omega⟩
      simp only [spec_LeasesRight.l0, impl_LeasesRight.l0, a1, a2, if_true, spec_lease_eq, impl_lease_eq, Option.bind_some, h]
      exact ⟨by first | rfl | trivial, by simp⟩
theorem leases_same (l : List S94) (hl : l.length < 9223372036854775807) : ∃ b, (b = true → l.length ≤ 60) ∧ ∀ k, l.length < k → spec_LeasesRight.f k l = some b ∧ impl_LeasesRight.f k l = some b := by
  obtain ⟨b, hb⟩ := leases_loops l hl l.length 0 (by omega) (by omega)
  by_cases h : (l.length : Int) > 60
  · refine ⟨false, by simp, fun k hk => ?_⟩
    obtain ⟨h1, h2⟩ := hb k hk
    have h2' : impl_LeasesRight.l0 k l l (l.length : Int) 0 = some (b && decide ((l.length : Int) ≤ 60)) := h2
    unfold spec_LeasesRight.f impl_LeasesRight.f
    rw [h2', if_pos h]
    exact ⟨rfl, by simp; omega⟩
  · refine ⟨b, fun _ => by omega, fun k hk => ?_⟩
    obtain ⟨h1, h2⟩ := hb k hk
    have h1' : spec_LeasesRight.l0 k l 0 = some b := h1
    have h2' : impl_LeasesRight.l0 k l l (l.length : Int) 0 = some (b && decide ((l.length : Int) ≤ 60)) := h2
    unfold spec_LeasesRight.f impl_LeasesRight.f
    rw [h1', h2', if_neg h]
    exact ⟨rfl, by simp; omega⟩

theorem leased_loops (l : List S94) (hl : l.length < 9223372036854775807) (now id : Int) : ∀ (d k i : Nat) (s : Int), l.length - i = d → i ≤ l.length → d < k → ∃ v, spec_LeaseOthers.l0 k l now id s (i : Int) = some v ∧ impl_leased.l0 k now id s l (l.length : Int) (i : Int) = some v := by
  intro d
  induction d with
  | zero =>
    intro k i s hd hi hk
    obtain ⟨k, rfl⟩ : ∃ m, k = m + 1 := ⟨k - 1, by omega⟩
    refine ⟨s, ?_, ?_⟩
    · simp only [spec_LeaseOthers.l0]; rw [if_neg (by omega)]
    · simp only [impl_leased.l0]; rw [if_neg (by omega)]
  | succ d ih =>
    intro k i s hd hi hk
    obtain ⟨k, rfl⟩ : ∃ m, k = m + 1 := ⟨k - 1, by omega⟩
    have a1 : (i : Int) < (l.length : Int) := by omega
    have a2 : (0 : Int) ≤ (i : Int) := by omega
    obtain ⟨v, h1, h2⟩ := ih k (i + 1) (wrap64 (s + (rd_T94 l i).f1)) (by omega) (by omega) (by omega)
    obtain ⟨v', h1', h2'⟩ := ih k (i + 1) s (by omega) (by omega) (by omega)
    simp only [spec_LeaseOthers.l0, impl_leased.l0, a1, a2, if_true, succ_cast i (by omega), h1, h2, h1', h2']
    by_cases c1 : (rd_T94 l i).f2 > now
    · by_cases c2 : (rd_T94 l i).f0 = id
      · simp only [c1, c2, if_true]
        exact ⟨v', rfl, rfl⟩
      · simp only [c1, c2, if_true, if_false]
        exact ⟨v, rfl, rfl⟩
    · simp only [c1, if_false]
      exact ⟨v', rfl, rfl⟩
theorem leased_same (l : List S94) (hl : l.length < 9223372036854775807) (now id : Int) (k : Nat) (hk : l.length < k) : ∃ v, spec_LeaseOthers.l0 k l now id 0 0 = some v ∧ impl_leased.f k l now id = some v := by
  obtain ⟨v, h1, h2⟩ := leased_loops l hl now id l.length k 0 0 (by omega) (by omega) hk
  exact ⟨v, h1, h2⟩

theorem max_same (x : Int) : spec_l01Max.f 0 x = some (mx x 0) := by
  unfold spec_l01Max.f mx
  by_cases h : x < 0
  · rw [if_pos (by omega), if_pos h]
  · rw [if_neg (by omega), if_neg h]
theorem room_same (l : List S94) (hl : l.length < 9223372036854775807) (now id cap : Int) (k : Nat) (hk : l.length + 1 < k) : ∃ v, spec_LeaseRoom.f k l now id cap = some v ∧ impl_LeaseRoom.f k l now id cap = some v := by
  obtain ⟨k, rfl⟩ : ∃ m, k = m + 1 := ⟨k - 1, by omega⟩
  obtain ⟨b, _, hb⟩ := leases_same l hl
  obtain ⟨h1, h2⟩ := hb (k + 1) (by omega)
  obtain ⟨h1', _⟩ := hb k (by omega)
  unfold spec_LeaseRoom.f impl_LeaseRoom.f
  rw [h1, h2]
  simp only [Option.bind_some, l02Want_eq, isWant_eq]
  cases b with
  | true =>
    simp only [if_true]
    by_cases hc : 0 ≤ cap ∧ cap ≤ 1125899906842624
    · obtain ⟨v, h3, _⟩ := leased_same l hl now id k (by omega)
      obtain ⟨v', h3', h4⟩ := leased_same l hl now id (k + 1) (by omega)
      have e : v = v' := by
        have := (spec_LeaseOthers.mono_l k) l now id 0 0 v h3
        rw [h3'] at this
        exact (Option.some.inj this).symm
      subst e
      refine ⟨mx (wrap64 (cap - v)) 0, ?_, ?_⟩
      · simp [spec_LeaseRoom.j0, hc, spec_LeaseOthers.f, h1', h3, max_same]
      · simp [hc, h4]
    · refine ⟨0, ?_, ?_⟩
      · simp [spec_LeaseRoom.j0, hc]
      · simp [hc]
  | false => exact ⟨0, by simp [spec_LeaseRoom.j0], by simp⟩

theorem FnExactLeaseRoom : BridgeFnExactLeaseRoom.Pure := by
  intro l now id cap hl _ _ _ _
  refine ⟨l.length + 10, ?_⟩
  unfold laws_FnExactLeaseRoom.f
  rw [szLeaseS_eq l hl]
  simp only [Option.bind_some]
  by_cases hsz : l.length ≤ 1048576
  · rw [if_pos hsz, if_neg (by omega), toLeaseS_eq l hl _ (by omega)]
    simp only [Option.bind_some]
    obtain ⟨v, h1, h2⟩ := room_same (l.map convLease) (by simp; omega) now id cap (l.length + 10) (by simp)
    rw [h1, h2]
    simp only [Option.bind_some, if_true]
    rw [eqLeaseS_same _ (by simp; omega) _ (by simp)]
    simp
  · rw [if_neg hsz, if_pos (by omega)]

end Go.Proofs.Ytnekamdopfielaa.Pure
