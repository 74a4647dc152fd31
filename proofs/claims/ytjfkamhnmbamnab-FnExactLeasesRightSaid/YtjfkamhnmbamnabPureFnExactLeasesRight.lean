/- LeasesRight answers as the reference does, for every list of Leases, and leaves its argument. Conditions: none beyond the statement's own bounds. -/
import Derived.Test.YtjfkamhnmbamnabBridgeFnExactLeasesRight
namespace Go.Proofs.Ytjfkamhnmbamnab.Pure
open Go.RowKit Go.Proofs.Ytjfkamhnmbamnab.PFnExactLeasesRight Go.Proofs.Ytjfkamhnmbamnab.BridgeFnExactLeasesRight Go.Proofs.YtjfkamhnmbamnabW.PrintWords Go.Proofs.YtjfkamhnmbamnabW.PrintLast

theorem wrap_small {x : Int} (h0 : -9223372036854775808 ≤ x) (h1 : x ≤ 9223372036854775807) : wrap64 x = x := by
  unfold wrap64
  omega
theorem i64_range {x : Int} (h : (Lit.int .i64 x).wf = true) : -9223372036854775808 ≤ x ∧ x ≤ 9223372036854775807 := by
  simp [Lit.wf, IntKind.min, IntKind.max, IntKind.bits, IntKind.signed] at h
  omega
theorem u64_range {x : Int} (h : (Lit.int .u64 x).wf = true) : 0 ≤ x ∧ x < 18446744073709551616 := by
  simp [Lit.wf, IntKind.min, IntKind.max, IntKind.bits, IntKind.signed] at h
  omega

theorem in_eq (a b c : Int) : impl_in.f a b c = some (decide (b ≤ a ∧ a ≤ c)) := by
  unfold impl_in.f
  by_cases h : b ≤ a <;> simp [h]

theorem isId_eq (a : Int) : impl_isId.f a = some (decide (1 ≤ a ∧ a ≤ 1000000)) := by simp [impl_isId.f, in_eq]
theorem isWant_eq (a : Int) : impl_isWant.f a = some (decide (0 ≤ a ∧ a ≤ 1125899906842624)) := by simp [impl_isWant.f, in_eq]
theorem l02Id_eq (a : Int) : spec_l02Id.f a = some (decide (1 ≤ a ∧ a ≤ 1000000)) := by
  unfold spec_l02Id.f
  by_cases h : a ≥ 1
  · rw [if_pos h]; simp; omega
  · rw [if_neg h]; simp; omega
theorem l02Want_eq (a : Int) : spec_l02Want.f a = some (decide (0 ≤ a ∧ a ≤ 1125899906842624)) := by
  unfold spec_l02Want.f
  by_cases h : a ≥ 0
  · rw [if_pos h]; simp; omega
  · rw [if_neg h]; simp; omega

theorem isTime_eq (a : Int) : impl_isTime.f a = some (decide (0 ≤ a ∧ a ≤ 1000000)) := by simp [impl_isTime.f, in_eq]
theorem l07Time_eq (a : Int) : spec_l07Time.f a = some (decide (0 ≤ a ∧ a ≤ 1000000)) := by
  unfold spec_l07Time.f
  by_cases h : a ≥ 0
  · rw [if_pos h]; simp; omega
  · rw [if_neg h]; simp; omega

/-- A right Lease. -/
def okLease (a b c : Int) : Bool := decide (1 ≤ a ∧ a ≤ 1000000) && (decide (0 ≤ b ∧ b ≤ 1125899906842624) && decide (0 ≤ c ∧ c ≤ 1000000))
theorem spec_lease_eq (a b c : Int) : spec_l07Lease.f a b c = some (okLease a b c) := by
  unfold spec_l07Lease.f okLease
  rw [l02Id_eq, l02Want_eq, l07Time_eq]
  by_cases h1 : 1 ≤ a ∧ a ≤ 1000000 <;> by_cases h2 : 0 ≤ b ∧ b ≤ 1125899906842624 <;> simp [h1, h2]
theorem impl_lease_eq (a b c : Int) : impl_Lease_isRight.f a b c = some (okLease a b c) := by
  unfold impl_Lease_isRight.f okLease
  rw [isId_eq, isWant_eq, isTime_eq]
  by_cases h1 : 1 ≤ a ∧ a ≤ 1000000 <;> by_cases h2 : 0 ≤ b ∧ b ≤ 1125899906842624 <;> simp [h1, h2]

theorem set_fill {α β : Type} (l : List α) (f : α → β) (z : β) (i : Nat) (h : i < l.length) : ((l.take i).map f ++ List.replicate (l.length - i) z).set i (f l[i]) = (l.take (i + 1)).map f ++ List.replicate (l.length - (i + 1)) z := by
  have e : l.length - i = (l.length - (i + 1)) + 1 := by omega
  have hl : ((l.take i).map f).length = i := by simp; omega
  rw [e, List.replicate_succ, List.set_append_right i (f l[i]) (by omega), hl, Nat.sub_self, List.set_cons_zero, List.take_succ_eq_append_getElem h, List.map_append]
  simp
theorem succ_cast (i : Nat) (h : i < 9223372036854775807) : wrap64 ((i : Int) + 1) = ((i + 1 : Nat) : Int) := by
  rw [wrap_small (by omega) (by omega)]
  omega

theorem pred_cast (i : Nat) (h : 0 < i) (h2 : i < 9223372036854775807) : wrap64 ((i : Int) - 1) = ((i - 1 : Nat) : Int) := by
  rw [wrap_small (by omega) (by omega)]
  omega

theorem rd73 (xs : List S73) (i : Nat) (h : i < xs.length) : rd_T73 xs (i : Int) = xs[i] := by
  unfold rd_T73
  rw [Int.toNat_natCast, List.getD_eq_getElem?_getD, List.getElem?_eq_getElem h]
  rfl

def convLease (x : S73) : S71 := ⟨x.f0, x.f1, x.f2⟩
theorem toLeaseS_loop (l : List S73) (hl : l.length * 24 ≤ 140737488351232) : ∀ (d k i : Nat), l.length - i = d → i ≤ l.length → d < k → laws_toLeaseS.l0 k l ((l.take i).map convLease ++ List.replicate (l.length - i) z71) (i : Int) = some (l.map convLease) := by
  intro d
  induction d with
  | zero =>
    intro k i hd hi hk
    obtain ⟨k, rfl⟩ : ∃ m, k = m + 1 := ⟨k - 1, by omega⟩
    obtain rfl : i = l.length := by omega
    simp only [laws_toLeaseS.l0]
    rw [if_neg (by omega)]
    simp
  | succ d ih =>
    intro k i hd hi hk
    obtain ⟨k, rfl⟩ : ∃ m, k = m + 1 := ⟨k - 1, by omega⟩
    have hlt : i < l.length := by omega
    simp only [laws_toLeaseS.l0]
    rw [if_pos (by omega), if_pos (by omega)]
    simp only [laws_toLease.f, Option.bind_some, rd73 l i hlt]
    rw [if_pos (by simp; omega), Int.toNat_natCast, succ_cast i (by omega)]
    have e := set_fill l convLease z71 i hlt
    rw [show (⟨l[i].f0, l[i].f1, l[i].f2⟩ : S71) = convLease l[i] from rfl, e]
    exact ih k (i + 1) (by omega) (by omega) (by omega)
theorem toLeaseS_eq (l : List S73) (hl : l.length * 24 ≤ 140737488351232) (k : Nat) (hk : l.length < k) : laws_toLeaseS.f k l = some (l.map convLease) := by
  unfold laws_toLeaseS.f
  rw [if_pos (by omega), if_pos (by simp; omega)]
  have h := toLeaseS_loop l hl l.length k 0 (by omega) (by omega) hk
  simpa using h

theorem eqLease_same (x : S71) : laws_eqLease.f (x.f0) (x.f1) (x.f2) (x.f0) (x.f1) (x.f2) = some true := by simp [laws_eqLease.f]
theorem eqLeaseS_loop (l : List S71) (hl : l.length < 9223372036854775807) : ∀ (d k i : Nat), l.length - i = d → i ≤ l.length → d < k → laws_eqLeaseS.l0 k l l (i : Int) = some true := by
  intro d
  induction d with
  | zero =>
    intro k i hd hi hk
    obtain ⟨k, rfl⟩ : ∃ m, k = m + 1 := ⟨k - 1, by omega⟩
    simp only [laws_eqLeaseS.l0]
    rw [if_neg (by omega)]
  | succ d ih =>
    intro k i hd hi hk
    obtain ⟨k, rfl⟩ : ∃ m, k = m + 1 := ⟨k - 1, by omega⟩
    have hlt : i < l.length := by omega
    simp only [laws_eqLeaseS.l0]
    rw [if_pos (by omega), if_pos (by omega), if_pos (by omega), eqLease_same]
    simp only [Option.bind_some, if_true]
    rw [succ_cast i (by omega)]
    exact ih k (i + 1) (by omega) (by omega) (by omega)
theorem eqLeaseS_same (l : List S71) (hl : l.length < 9223372036854775807) (k : Nat) (hk : l.length < k) : laws_eqLeaseS.f k l l = some true := by
  unfold laws_eqLeaseS.f
  rw [if_pos rfl]
  exact eqLeaseS_loop l hl l.length k 0 (by omega) (by omega) hk

theorem szLeaseS_eq (l : List S73) (hl : l.length * 24 ≤ 140737488351232) : laws_szLeaseS.f l 1048576 = some (if l.length ≤ 1048576 then 1048576 - (l.length : Int) else -1) := by
  unfold laws_szLeaseS.f
  rw [wrap_small (by omega) (by omega)]
  by_cases h : l.length ≤ 1048576
  · rw [if_neg (by omega), if_pos h]
  · rw [if_pos (by omega), if_neg h]

/-- Both loops over a list tell the same, but that the program looks at the length last. -/
theorem leases_loops (l : List S71) (hl : l.length < 9223372036854775807) : ∀ (d k i : Nat), l.length - i = d → i ≤ l.length → d < k → ∃ b, spec_LeasesRight.l0 k l (i : Int) = some b ∧ impl_LeasesRight.l0 k l l (l.length : Int) (i : Int) = some (b && decide ((l.length : Int) ≤ 60)) := by
  intro d
  induction d with
  | zero =>
    intro k i hd hi hk
    obtain ⟨k, rfl⟩ : ∃ m, k = m + 1 := ⟨k - 1, by omega⟩
    refine ⟨true, ?_, ?_⟩
    · simp only [spec_LeasesRight.l0]; rw [if_neg (by omega)]
    · simp only [impl_LeasesRight.l0]; rw [if_neg (by omega)]; simp
  | succ d ih =>
    intro k i hd hi hk
    obtain ⟨k, rfl⟩ : ∃ m, k = m + 1 := ⟨k - 1, by omega⟩
    obtain ⟨b, h1, h2⟩ := ih k (i + 1) (by omega) (by omega) (by omega)
    have a1 : (i : Int) < (l.length : Int) := by omega
    have a2 : (0 : Int) ≤ (i : Int) := by omega
    simp only [spec_LeasesRight.l0, impl_LeasesRight.l0, a1, a2, if_true, spec_lease_eq, impl_lease_eq, succ_cast i (by omega), h1, h2, Option.bind_some]
    by_cases h : okLease (rd_T71 l i).f0 (rd_T71 l i).f1 (rd_T71 l i).f2 = true
    · simp only [h, if_true]
      by_cases h0 : (i : Int) > 0
      · have a3 : (0 : Int) ≤ ((i - 1 : Nat) : Int) := by omega
        have a4 : ((i - 1 : Nat) : Int) < (l.length : Int) := by omega
        simp only [h0, if_true, pred_cast i (by omega) (by omega), a3, a4]
        by_cases hc : (rd_T71 l i).f0 ≤ (rd_T71 l ((i - 1 : Nat) : Int)).f0
        · rw [if_pos hc, if_pos (by exact hc)]
          exact ⟨false, rfl, by simp⟩
        · rw [if_neg hc, if_neg (by exact hc)]
          exact ⟨b, rfl, rfl⟩
      · simp only [h0, if_false]
        exact ⟨b, rfl, rfl⟩
    · simp only [h]
      exact ⟨false, rfl, by simp⟩
theorem leases_same (l : List S71) (hl : l.length < 9223372036854775807) (k : Nat) (hk : l.length < k) : ∃ b, spec_LeasesRight.f k l = some b ∧ impl_LeasesRight.f k l = some b := by
  obtain ⟨b, h1, h2⟩ := leases_loops l hl l.length k 0 (by omega) (by omega) hk
  have h1' : spec_LeasesRight.l0 k l 0 = some b := h1
  have h2' : impl_LeasesRight.l0 k l l (l.length : Int) 0 = some (b && decide ((l.length : Int) ≤ 60)) := h2
  unfold spec_LeasesRight.f impl_LeasesRight.f
  rw [h1', h2']
  by_cases h : (l.length : Int) > 60
  · rw [if_pos h]
    exact ⟨false, rfl, by simp; omega⟩
  · rw [if_neg h]
    exact ⟨b, rfl, by simp; omega⟩

theorem FnExactLeasesRight : BridgeFnExactLeasesRight.Pure := by
  intro l hl _
  refine ⟨l.length + 1, ?_⟩
  unfold laws_FnExactLeasesRight.f
  rw [szLeaseS_eq l hl]
  simp only [Option.bind_some]
  by_cases hsz : l.length ≤ 1048576
  · rw [if_pos hsz, if_neg (by omega), toLeaseS_eq l hl _ (by omega)]
    simp only [Option.bind_some]
    obtain ⟨b, h1, h2⟩ := leases_same (l.map convLease) (by simp; omega) (l.length + 1) (by simp)
    rw [h1, h2]
    simp only [Option.bind_some]
    rw [if_neg (by simp), eqLeaseS_same _ (by simp; omega) _ (by simp)]
    simp
  · rw [if_neg hsz, if_pos (by omega)]

end Go.Proofs.Ytjfkamhnmbamnab.Pure
