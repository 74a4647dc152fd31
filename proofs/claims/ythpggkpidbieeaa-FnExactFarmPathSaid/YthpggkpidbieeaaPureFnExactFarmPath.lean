/- FarmPath answers as the reference does, for every Farm and every Id, leaves its argument, keeps nothing of it and owns its answer. Conditions: none beyond the statement's own bounds. -/
import Derived.Test.YthpggkpidbieeaaBridgeFnExactFarmPath
namespace Go.Proofs.Ythpggkpidbieeaa.Pure
open Go.RowKit Go.Proofs.Ythpggkpidbieeaa.XFnExactFarmPath Go.Proofs.Ythpggkpidbieeaa.BridgeFnExactFarmPath Go.Proofs.YthpggkpidbieeaaW.PrintWords Go.Proofs.YthpggkpidbieeaaW.PrintLast Go.Proofs.YthpggkpidbieeaaW.PrintMore
set_option linter.unusedVariables false
set_option linter.unusedSimpArgs false

theorem wrap_small {x : Int} (h0 : -9223372036854775808 ≤ x) (h1 : x ≤ 9223372036854775807) : wrap64 x = x := by
  unfold wrap64
  omega
theorem i64_range {x : Int} (h : (Lit.int .i64 x).wf = true) : -9223372036854775808 ≤ x ∧ x ≤ 9223372036854775807 := by
  simp [Lit.wf, IntKind.min, IntKind.max, IntKind.bits, IntKind.signed] at h
  omega
theorem u64_range {x : Int} (h : (Lit.int .u64 x).wf = true) : 0 ≤ x ∧ x < 18446744073709551616 := by
  simp [Lit.wf, IntKind.min, IntKind.max, IntKind.bits, IntKind.signed] at h
  omega

theorem set_fill {α β : Type} (l : List α) (f : α → β) (z : β) (i : Nat) (h : i < l.length) : ((l.take i).map f ++ List.replicate (l.length - i) z).set i (f l[i]) = (l.take (i + 1)).map f ++ List.replicate (l.length - (i + 1)) z := by
  have e : l.length - i = (l.length - (i + 1)) + 1 := by omega
  have hl : ((l.take i).map f).length = i := by simp; omega
  rw [e, List.replicate_succ, List.set_append_right i (f l[i]) (by omega), hl, Nat.sub_self, List.set_cons_zero, List.take_succ_eq_append_getElem h, List.map_append]
  simp
theorem succ_cast (i : Nat) (h : i < 9223372036854775807) : wrap64 ((i : Int) + 1) = ((i + 1 : Nat) : Int) := by
  rw [wrap_small (by omega) (by omega)]
  omega

theorem pred_cast (i : Nat) (h : 0 < i) (h2 : i < 9223372036854775807) : wrap64 ((i : Int) - 1) = ((i - 1 : Nat) : Int) := by
  rw [wrap_small (by omega) (by omega)]
  omega

theorem rd101 (xs : List S101) (i : Nat) (h : i < xs.length) : rd_T101 xs (i : Int) = xs[i] := by
  unfold rd_T101
  rw [Int.toNat_natCast, List.getD_eq_getElem?_getD, List.getElem?_eq_getElem h]
  rfl

theorem rd80 (xs : List S80) (i : Nat) (h : i < xs.length) : rd_T80 xs (i : Int) = xs[i] := by
  unfold rd_T80
  rw [Int.toNat_natCast, List.getD_eq_getElem?_getD, List.getElem?_eq_getElem h]
  rfl

theorem rd103 (xs : List S103) (i : Nat) (h : i < xs.length) : rd_T103 xs (i : Int) = xs[i] := by
  unfold rd_T103
  rw [Int.toNat_natCast, List.getD_eq_getElem?_getD, List.getElem?_eq_getElem h]
  rfl

theorem rd83 (xs : List S83) (i : Nat) (h : i < xs.length) : rd_T83 xs (i : Int) = xs[i] := by
  unfold rd_T83
  rw [Int.toNat_natCast, List.getD_eq_getElem?_getD, List.getElem?_eq_getElem h]
  rfl

def convGroup (x : S101) : S80 := ⟨x.f0, x.f1, x.f2, x.f3⟩
theorem toGroupS_loop (l : List S101) (hl : l.length * 32 ≤ 140737488351232) : ∀ (d k i : Nat), l.length - i = d → i ≤ l.length → d < k → laws_toGroupS.l0 k l ((l.take i).map convGroup ++ List.replicate (l.length - i) z80) (i : Int) = some (l.map convGroup) := by
  intro d
  induction d with
  | zero =>
    intro k i hd hi hk
    obtain ⟨k, rfl⟩ : ∃ m, k = m + 1 := ⟨k - 1, by omega⟩
    obtain rfl : i = l.length := by omega
    simp only [laws_toGroupS.l0]
    rw [if_neg (by omega)]
    simp
  | succ d ih =>
    intro k i hd hi hk
    obtain ⟨k, rfl⟩ : ∃ m, k = m + 1 := ⟨k - 1, by omega⟩
    have hlt : i < l.length := by omega
    simp only [laws_toGroupS.l0]
    rw [if_pos (by omega), if_pos (by omega)]
    simp only [laws_toGroup.f, Option.bind_some, rd101 l i hlt]
    rw [if_pos (by simp; omega), Int.toNat_natCast, succ_cast i (by omega)]
    have e := set_fill l convGroup z80 i hlt
    rw [show (⟨l[i].f0, l[i].f1, l[i].f2, l[i].f3⟩ : S80) = convGroup l[i] from rfl, e]
    exact ih k (i + 1) (by omega) (by omega) (by omega)
theorem toGroupS_eq (l : List S101) (hl : l.length * 32 ≤ 140737488351232) (k : Nat) (hk : l.length < k) : laws_toGroupS.f k l = some (l.map convGroup) := by
  unfold laws_toGroupS.f
  rw [if_pos (by omega), if_pos (by simp; omega)]
  have h := toGroupS_loop l hl l.length k 0 (by omega) (by omega) hk
  simpa using h

theorem eqGroup_same (x : S80) : laws_eqGroup.f (x.f0) (x.f1) (x.f2) (x.f3) (x.f0) (x.f1) (x.f2) (x.f3) = some true := by simp [laws_eqGroup.f]
theorem eqGroupS_loop (l : List S80) (hl : l.length < 9223372036854775807) : ∀ (d k i : Nat), l.length - i = d → i ≤ l.length → d < k → laws_eqGroupS.l0 k l l (i : Int) = some true := by
  intro d
  induction d with
  | zero =>
    intro k i hd hi hk
    obtain ⟨k, rfl⟩ : ∃ m, k = m + 1 := ⟨k - 1, by omega⟩
    simp only [laws_eqGroupS.l0]
    rw [if_neg (by omega)]
  | succ d ih =>
    intro k i hd hi hk
    obtain ⟨k, rfl⟩ : ∃ m, k = m + 1 := ⟨k - 1, by omega⟩
    have hlt : i < l.length := by omega
    simp only [laws_eqGroupS.l0]
    rw [if_pos (by omega), if_pos (by omega), if_pos (by omega), eqGroup_same]
    simp only [Option.bind_some, if_true]
    rw [succ_cast i (by omega)]
    exact ih k (i + 1) (by omega) (by omega) (by omega)
theorem eqGroupS_same (l : List S80) (hl : l.length < 9223372036854775807) (k : Nat) (hk : l.length < k) : laws_eqGroupS.f k l l = some true := by
  unfold laws_eqGroupS.f
  rw [if_pos rfl]
  exact eqGroupS_loop l hl l.length k 0 (by omega) (by omega) hk

def convMember (x : S103) : S83 := ⟨x.f0, x.f1, x.f2, x.f3⟩
theorem toMemberS_loop (l : List S103) (hl : l.length * 32 ≤ 140737488351232) : ∀ (d k i : Nat), l.length - i = d → i ≤ l.length → d < k → laws_toMemberS.l0 k l ((l.take i).map convMember ++ List.replicate (l.length - i) z83) (i : Int) = some (l.map convMember) := by
  intro d
  induction d with
  | zero =>
    intro k i hd hi hk
    obtain ⟨k, rfl⟩ : ∃ m, k = m + 1 := ⟨k - 1, by omega⟩
    obtain rfl : i = l.length := by omega
    simp only [laws_toMemberS.l0]
    rw [if_neg (by omega)]
    simp
  | succ d ih =>
    intro k i hd hi hk
    obtain ⟨k, rfl⟩ : ∃ m, k = m + 1 := ⟨k - 1, by omega⟩
    have hlt : i < l.length := by omega
    simp only [laws_toMemberS.l0]
    rw [if_pos (by omega), if_pos (by omega)]
    simp only [laws_toMember.f, Option.bind_some, rd103 l i hlt]
    rw [if_pos (by simp; omega), Int.toNat_natCast, succ_cast i (by omega)]
    have e := set_fill l convMember z83 i hlt
    rw [show (⟨l[i].f0, l[i].f1, l[i].f2, l[i].f3⟩ : S83) = convMember l[i] from rfl, e]
    exact ih k (i + 1) (by omega) (by omega) (by omega)
theorem toMemberS_eq (l : List S103) (hl : l.length * 32 ≤ 140737488351232) (k : Nat) (hk : l.length < k) : laws_toMemberS.f k l = some (l.map convMember) := by
  unfold laws_toMemberS.f
  rw [if_pos (by omega), if_pos (by simp; omega)]
  have h := toMemberS_loop l hl l.length k 0 (by omega) (by omega) hk
  simpa using h

theorem eqMember_same (x : S83) : laws_eqMember.f (x.f0) (x.f1) (x.f2) (x.f3) (x.f0) (x.f1) (x.f2) (x.f3) = some true := by simp [laws_eqMember.f]
theorem eqMemberS_loop (l : List S83) (hl : l.length < 9223372036854775807) : ∀ (d k i : Nat), l.length - i = d → i ≤ l.length → d < k → laws_eqMemberS.l0 k l l (i : Int) = some true := by
  intro d
  induction d with
  | zero =>
    intro k i hd hi hk
    obtain ⟨k, rfl⟩ : ∃ m, k = m + 1 := ⟨k - 1, by omega⟩
    simp only [laws_eqMemberS.l0]
    rw [if_neg (by omega)]
  | succ d ih =>
    intro k i hd hi hk
    obtain ⟨k, rfl⟩ : ∃ m, k = m + 1 := ⟨k - 1, by omega⟩
    have hlt : i < l.length := by omega
    simp only [laws_eqMemberS.l0]
    rw [if_pos (by omega), if_pos (by omega), if_pos (by omega), eqMember_same]
    simp only [Option.bind_some, if_true]
    rw [succ_cast i (by omega)]
    exact ih k (i + 1) (by omega) (by omega) (by omega)
theorem eqMemberS_same (l : List S83) (hl : l.length < 9223372036854775807) (k : Nat) (hk : l.length < k) : laws_eqMemberS.f k l l = some true := by
  unfold laws_eqMemberS.f
  rw [if_pos rfl]
  exact eqMemberS_loop l hl l.length k 0 (by omega) (by omega) hk

theorem bs_spec_Group (key : Nat → Int) (t : Int) (N : Nat) (mono : ∀ p q, p < q → q < N → key p < key q) : ∀ (n i j : Nat), i ≤ j → j ≤ N → j - i < n →
    i ≤ bsI_Group key t n i j ∧ bsI_Group key t n i j ≤ j ∧ (∀ q, i ≤ q → q < bsI_Group key t n i j → key q < t) ∧ (∀ q, bsI_Group key t n i j ≤ q → q < j → ¬ key q < t) := by
  intro n
  induction n with
  | zero => intro i j _ _ h; omega
  | succ n ih =>
    intro i j hij hj hn
    unfold bsI_Group
    by_cases hlt : i < j
    · rw [if_pos hlt]
      have hm : i ≤ (i + j) / 2 ∧ (i + j) / 2 < j := by omega
      generalize (i + j) / 2 = h at hm
      by_cases hk : key h < t
      · rw [if_pos hk]
        obtain ⟨a1, a2, a3, a4⟩ := ih (h + 1) j (by omega) hj (by omega)
        refine ⟨by omega, a2, fun q q1 q2 => ?_, a4⟩
        by_cases hq : q < h
        · have := mono q h hq (by omega); omega
        · by_cases hq2 : q = h
          · rw [hq2]; exact hk
          · exact a3 q (by omega) q2
      · rw [if_neg hk]
        obtain ⟨a1, a2, a3, a4⟩ := ih i h (by omega) (by omega) (by omega)
        refine ⟨a1, by omega, a3, fun q q1 q2 => ?_⟩
        by_cases hq : q < h
        · exact a4 q q1 hq
        · by_cases hq2 : q = h
          · rw [hq2]; exact hk
          · have := mono h q (by omega) (by omega); omega
    · rw [if_neg hlt]
      exact ⟨Nat.le_refl _, hij, fun q q1 q2 => by omega, fun q q1 q2 => by omega⟩
/-- A list whose Ids rise. -/
def UpGroup (l : List S80) : Prop := ∀ p q : Nat, p < q → q < l.length → (rd_T80 l (p : Int)).f0 < (rd_T80 l (q : Int)).f0
theorem at_Group_spec (l : List S80) (t : Int) (hu : UpGroup l) : at_Group l t ≤ l.length ∧ (∀ q : Nat, q < at_Group l t → (rd_T80 l (q : Int)).f0 < t) ∧ ∀ q : Nat, at_Group l t ≤ q → q < l.length → t ≤ (rd_T80 l (q : Int)).f0 := by
  obtain ⟨_, a2, a3, a4⟩ := bs_spec_Group (keys_Group l) t l.length (fun p q h1 h2 => hu p q h1 h2) (l.length + 1) 0 l.length (Nat.zero_le _) (Nat.le_refl _) (by omega)
  exact ⟨a2, fun q hq => a3 q (Nat.zero_le _) hq, fun q h1 h2 => Int.not_lt.1 (a4 q h1 h2)⟩
theorem is_Group_iff (l : List S80) (t : Int) (hu : UpGroup l) : is_Group l t = true ↔ ∃ q : Nat, q < l.length ∧ (rd_T80 l (q : Int)).f0 = t := by
  obtain ⟨a1, a2, a3⟩ := at_Group_spec l t hu
  unfold is_Group
  rw [Bool.and_eq_true, decide_eq_true_iff, beq_iff_eq]
  constructor
  · rintro ⟨h1, h2⟩
    exact ⟨_, h1, h2⟩
  · rintro ⟨q, h1, h2⟩
    have h3 : ¬ q < at_Group l t := fun h => by have := a2 q h; omega
    have h4 := a3 (at_Group l t) (Nat.le_refl _) (by omega)
    refine ⟨by omega, ?_⟩
    show (rd_T80 l ((at_Group l t : Nat) : Int)).f0 = t
    by_cases h5 : at_Group l t = q
    · rw [h5]; exact h2
    · have := hu (at_Group l t) q (by omega) h1
      omega

theorem szFarm_eq (a : Int) (l : List S101) (m : List S103) (hl : l.length * 32 ≤ 140737488351232) (hm : m.length * 32 ≤ 140737488351232) : ∃ v, laws_szFarm.f a l m 1048576 = some v ∧ (v < 0 ∨ l.length ≤ 1048576 ∧ m.length ≤ 1048576) := by
  unfold laws_szFarm.f laws_szGroupS.f laws_szMemberS.f
  rw [wrap_small (by omega) (by omega)]
  by_cases h : l.length ≤ 1048576
  · rw [if_neg (by omega)]
    simp only [Option.bind_some]
    rw [if_neg (by omega), wrap_small (by omega) (by omega)]
    by_cases h2 : (1048576 - (l.length : Int)) - (m.length : Int) < 0
    · rw [if_pos h2]; exact ⟨-1, rfl, .inl (by omega)⟩
    · rw [if_neg h2]
      simp only [Option.bind_some]
      rw [if_neg h2]
      exact ⟨_, rfl, .inr ⟨h, by omega⟩⟩
  · rw [if_pos (by omega)]
    exact ⟨-1, rfl, .inl (by omega)⟩
theorem toFarm_eq (a : Int) (l : List S101) (m : List S103) (hl : l.length ≤ 1048576) (hm : m.length ≤ 1048576) (k : Nat) (hk : l.length < k) (hk2 : m.length < k) : laws_toFarm.f k a l m = some (a, l.map convGroup, m.map convMember) := by
  unfold laws_toFarm.f
  rw [toGroupS_eq l (by omega) k hk, toMemberS_eq m (by omega) k hk2]
  rfl
theorem eqFarm_same (a : Int) (l : List S80) (m : List S83) (hl : l.length ≤ 1048576) (hm : m.length ≤ 1048576) (k : Nat) (hk : l.length < k) (hk2 : m.length < k) : laws_eqFarm.f k a l m a l m = some true := by
  unfold laws_eqFarm.f
  rw [if_pos rfl, eqGroupS_same l (by omega) k hk]
  simp only [Option.bind_some, if_true]
  rw [eqMemberS_same m (by omega) k hk2]
  rfl
theorem rdtake (l : List S80) (i j : Nat) (hj : j < i) : rd_T80 (l.take i) (j : Int) = rd_T80 l (j : Int) := by
  simp [rd_T80, List.getD_eq_getElem?_getD, List.getElem?_take, hj]
theorem hs_in_iff (l : List S80) (id : Int) : hs_in l id = true ↔ ∃ q : Nat, q < l.length ∧ (rd_T80 l (q : Int)).f0 = id := by
  unfold hs_in
  rw [List.any_eq_true]
  constructor
  · rintro ⟨x, hx, he⟩
    obtain ⟨q, hq, rfl⟩ := List.getElem_of_mem hx
    exact ⟨q, hq, by rw [rd80 l q hq]; exact beq_iff_eq.1 he⟩
  · rintro ⟨q, hq, he⟩
    rw [rd80 l q hq] at he
    exact ⟨l[q], List.getElem_mem hq, beq_iff_eq.2 he⟩
/-- The Ids of the Groups rise. -/
theorem up_of (l : List S80) (n : Nat) (h : ∀ j : Nat, j < n → j = 0 ∨ (rd_T80 l ((j - 1 : Nat) : Int)).f0 < (rd_T80 l (j : Int)).f0) : ∀ p q : Nat, p < q → q < n → (rd_T80 l (p : Int)).f0 < (rd_T80 l (q : Int)).f0 := by
  intro p q
  induction q with
  | zero => intro h1; omega
  | succ q ih =>
    intro h1 h2
    have h3 := h (q + 1) h2
    rw [show q + 1 - 1 = q by omega] at h3
    by_cases hp : p = q
    · subst hp; omega
    · have := ih (by omega) (by omega)
      omega
theorem has_iff (l : List S80) (id : Int) (hu : UpGroup l) : hf_has l id = (decide (id = 0) || hs_in l id) := by
  have h1 := is_Group_iff l id hu
  have h2 := hs_in_iff l id
  unfold hf_has
  by_cases h0 : id = 0
  · subst h0; simp
  · rw [show (id == 0) = false from beq_eq_false_iff_ne.2 h0, show decide (id = 0) = false from decide_eq_false h0, Bool.or_false, Bool.false_or]
    rw [Bool.eq_iff_iff, h1, h2]
theorem g_same (l : List S80) (i : Nat) (hi : i < l.length) (hu : UpGroup l) : impl_FarmRight.g l i = spec_FarmRight.g l i := by
  unfold impl_FarmRight.g spec_FarmRight.g
  have hut : UpGroup (l.take i) := fun p q h1 h2 => by
    have h3 : q < i := by simp at h2; omega
    rw [rdtake l i p (by omega), rdtake l i q h3]
    exact hu p q h1 (by omega)
  rw [has_iff _ _ hut]
  have e : hs_in (l.take i) (rd_T80 l i).f1 = (hs_in l (rd_T80 l i).f1 && decide ((rd_T80 l i).f1 < (rd_T80 l i).f0)) := by
    rw [Bool.eq_iff_iff, Bool.and_eq_true, hs_in_iff, hs_in_iff, decide_eq_true_iff]
    constructor
    · rintro ⟨q, h1, h2⟩
      have h3 : q < i := by simp at h1; omega
      rw [rdtake l i q h3] at h2
      exact ⟨⟨q, by omega, h2⟩, by rw [← h2]; exact hu q i h3 hi⟩
    · rintro ⟨⟨q, h1, h2⟩, h3⟩
      have h4 : q < i := by
        rcases Nat.lt_or_ge q i with h | h
        · exact h
        · rcases Nat.lt_or_ge i q with h' | h'
          · have := hu i q h' h1; omega
          · have : q = i := by omega
            subst this; omega
      exact ⟨q, by simp; omega, by rw [rdtake l i q h4]; exact h2⟩
  rw [e]
theorem g_up_impl (l : List S80) (h : ∀ j, j < l.length → impl_FarmRight.g l j = true) : UpGroup l := up_of l l.length fun j hj => by
  have := h j hj
  unfold impl_FarmRight.g at this
  simp only [Bool.and_eq_true, Bool.or_eq_true, decide_eq_true_iff] at this
  exact this.2.1
theorem g_up_spec (l : List S80) (h : ∀ j, j < l.length → spec_FarmRight.g l j = true) : UpGroup l := up_of l l.length fun j hj => by
  have := h j hj
  unfold spec_FarmRight.g at this
  simp only [Bool.and_eq_true, Bool.or_eq_true, decide_eq_true_iff] at this
  exact this.2.1
theorem range_all (n : Nat) (p : Nat → Bool) : (List.range n).all p = true ↔ ∀ j, j < n → p j = true := by
  rw [List.all_eq_true]
  exact ⟨fun h j hj => h j (List.mem_range.2 hj), fun h j hj => h j (List.mem_range.1 hj)⟩
/-- Both FarmRights tell the same. -/
theorem right_same (a : Int) (l : List S80) (m : List S83) : impl_FarmRight.f a l m = spec_FarmRight.f a l m := by
  unfold impl_FarmRight.f spec_FarmRight.f
  have hg : (List.range l.length).all (impl_FarmRight.g l) = (List.range l.length).all (spec_FarmRight.g l) := by
    rw [Bool.eq_iff_iff, range_all, range_all]
    exact ⟨fun h j hj => by rw [← g_same l j hj (g_up_impl l h)]; exact h j hj, fun h j hj => by rw [g_same l j hj (g_up_spec l h)]; exact h j hj⟩
  rw [hg]
  cases hA : (List.range l.length).all (spec_FarmRight.g l) with
  | false => simp
  | true =>
    have hu := g_up_spec l ((range_all _ _).1 hA)
    have hm : (List.range m.length).all (impl_FarmRight.m l m) = (List.range m.length).all (spec_FarmRight.m l m) := by
      congr 1
      funext j
      unfold impl_FarmRight.m spec_FarmRight.m
      rw [has_iff l _ hu]
    rw [hm]
/-- What a right Farm is. -/
theorem right_up (a : Int) (l : List S80) (m : List S83) (h : spec_FarmRight.f a l m = some true) : l.length ≤ 30 ∧ m.length ≤ 60 ∧ UpGroup l ∧ (∀ j, j < l.length → spec_FarmRight.g l j = true) ∧ ∀ j, j < m.length → spec_FarmRight.m l m j = true := by
  have h2 := Option.some.inj h
  simp only [Bool.and_eq_true, decide_eq_true_iff, range_all] at h2
  exact ⟨h2.2.1, h2.2.2.1, g_up_spec l h2.2.2.2.1, h2.2.2.2.1, h2.2.2.2.2⟩
theorem right_some (a : Int) (l : List S80) (m : List S83) : ∃ b, spec_FarmRight.f a l m = some b := ⟨_, rfl⟩

theorem bs_spec_Member (key : Nat → Int) (t : Int) (N : Nat) (mono : ∀ p q, p < q → q < N → key p < key q) : ∀ (n i j : Nat), i ≤ j → j ≤ N → j - i < n →
    i ≤ bsI_Member key t n i j ∧ bsI_Member key t n i j ≤ j ∧ (∀ q, i ≤ q → q < bsI_Member key t n i j → key q < t) ∧ (∀ q, bsI_Member key t n i j ≤ q → q < j → ¬ key q < t) := by
  intro n
  induction n with
  | zero => intro i j _ _ h; omega
  | succ n ih =>
    intro i j hij hj hn
    unfold bsI_Member
    by_cases hlt : i < j
    · rw [if_pos hlt]
      have hm : i ≤ (i + j) / 2 ∧ (i + j) / 2 < j := by omega
      generalize (i + j) / 2 = h at hm
      by_cases hk : key h < t
      · rw [if_pos hk]
        obtain ⟨a1, a2, a3, a4⟩ := ih (h + 1) j (by omega) hj (by omega)
        refine ⟨by omega, a2, fun q q1 q2 => ?_, a4⟩
        by_cases hq : q < h
        · have := mono q h hq (by omega); omega
        · by_cases hq2 : q = h
          · rw [hq2]; exact hk
          · exact a3 q (by omega) q2
      · rw [if_neg hk]
        obtain ⟨a1, a2, a3, a4⟩ := ih i h (by omega) (by omega) (by omega)
        refine ⟨a1, by omega, a3, fun q q1 q2 => ?_⟩
        by_cases hq : q < h
        · exact a4 q q1 hq
        · by_cases hq2 : q = h
          · rw [hq2]; exact hk
          · have := mono h q (by omega) (by omega); omega
    · rw [if_neg hlt]
      exact ⟨Nat.le_refl _, hij, fun q q1 q2 => by omega, fun q q1 q2 => by omega⟩
/-- A list whose Ids rise. -/
def UpMember (l : List S83) : Prop := ∀ p q : Nat, p < q → q < l.length → (rd_T83 l (p : Int)).f0 < (rd_T83 l (q : Int)).f0
theorem at_Member_spec (l : List S83) (t : Int) (hu : UpMember l) : at_Member l t ≤ l.length ∧ (∀ q : Nat, q < at_Member l t → (rd_T83 l (q : Int)).f0 < t) ∧ ∀ q : Nat, at_Member l t ≤ q → q < l.length → t ≤ (rd_T83 l (q : Int)).f0 := by
  obtain ⟨_, a2, a3, a4⟩ := bs_spec_Member (keys_Member l) t l.length (fun p q h1 h2 => hu p q h1 h2) (l.length + 1) 0 l.length (Nat.zero_le _) (Nat.le_refl _) (by omega)
  exact ⟨a2, fun q hq => a3 q (Nat.zero_le _) hq, fun q h1 h2 => Int.not_lt.1 (a4 q h1 h2)⟩
theorem is_Member_iff (l : List S83) (t : Int) (hu : UpMember l) : is_Member l t = true ↔ ∃ q : Nat, q < l.length ∧ (rd_T83 l (q : Int)).f0 = t := by
  obtain ⟨a1, a2, a3⟩ := at_Member_spec l t hu
  unfold is_Member
  rw [Bool.and_eq_true, decide_eq_true_iff, beq_iff_eq]
  constructor
  · rintro ⟨h1, h2⟩
    exact ⟨_, h1, h2⟩
  · rintro ⟨q, h1, h2⟩
    have h3 : ¬ q < at_Member l t := fun h => by have := a2 q h; omega
    have h4 := a3 (at_Member l t) (Nat.le_refl _) (by omega)
    refine ⟨by omega, ?_⟩
    show (rd_T83 l ((at_Member l t : Nat) : Int)).f0 = t
    by_cases h5 : at_Member l t = q
    · rw [h5]; exact h2
    · have := hu (at_Member l t) q (by omega) h1
      omega

/-- A Group, the one above it, and so on: the Ids. -/
inductive Chain (l : List S80) : Int → List Int → Prop
  | top : Chain l 0 []
  | up (q : Nat) (hq : q < l.length) (h0 : (rd_T80 l (q : Int)).f0 ≠ 0) (p : List Int) (h : Chain l (rd_T80 l (q : Int)).f1 p) : Chain l (rd_T80 l (q : Int)).f0 ((rd_T80 l (q : Int)).f0 :: p)
theorem chain_ex (l : List S80) (hu : UpGroup l) (hg : ∀ j, j < l.length → spec_FarmRight.g l j = true) : ∀ (n q : Nat), q < n → q < l.length → ∃ p, Chain l (rd_T80 l (q : Int)).f0 p ∧ p.length ≤ q + 1 := by
  intro n
  induction n with
  | zero => intro q h; omega
  | succ n ih =>
    intro q hq hl
    have h := hg q hl
    unfold spec_FarmRight.g at h
    simp only [Bool.and_eq_true, Bool.or_eq_true, decide_eq_true_iff, hf_id, hs_in_iff] at h
    obtain ⟨h1, _, h2, _⟩ := h
    have h0 : (rd_T80 l (q : Int)).f0 ≠ 0 := by omega
    rcases h2 with h2 | ⟨⟨q', h3, h4⟩, h5⟩
    · exact ⟨_, .up q hl h0 [] (by rw [h2]; exact .top), by simp⟩
    · have hlt : q' < q := by
        rcases Nat.lt_or_ge q' q with h | h
        · exact h
        · rcases Nat.lt_or_ge q q' with h' | h'
          · have := hu q q' h' h3; omega
          · have : q' = q := by omega
            subst this; omega
      obtain ⟨p, hp, hp2⟩ := ih q' (by omega) h3
      rw [h4] at hp
      exact ⟨_, .up q hl h0 p hp, by simp; omega⟩
theorem grp_loop (a : Int) (l : List S80) (m : List S83) (hl : l.length < 9223372036854775807) (hu : UpGroup l) (q : Nat) (hq : q < l.length) : ∀ (d k i : Nat), q - i = d → i ≤ q → d < k → spec_l05Group.l0 k (rd_T80 l (q : Int)).f0 (i : Int) a l m = some (q : Int) := by
  intro d
  induction d with
  | zero =>
    intro k i hd hi hk
    obtain ⟨k, rfl⟩ : ∃ m, k = m + 1 := ⟨k - 1, by omega⟩
    obtain rfl : i = q := by omega
    simp only [spec_l05Group.l0]
    rw [if_pos (by omega), if_pos (by omega)]
    simp
  | succ d ih =>
    intro k i hd hi hk
    obtain ⟨k, rfl⟩ : ∃ m, k = m + 1 := ⟨k - 1, by omega⟩
    have := hu i q (by omega) hq
    simp only [spec_l05Group.l0]
    rw [if_pos (by omega), if_pos (by omega), if_neg (by omega), succ_cast i (by omega)]
    exact ih k (i + 1) (by omega) (by omega) (by omega)
theorem grp_eq (a : Int) (l : List S80) (m : List S83) (hl : l.length < 9223372036854775807) (hu : UpGroup l) (q : Nat) (hq : q < l.length) (k : Nat) (hk : l.length < k) : spec_l05Group.f k a l m (rd_T80 l (q : Int)).f0 = some (q : Int) :=
  grp_loop a l m hl hu q hq q k 0 (by omega) (by omega) (by omega)
theorem at_eq (l : List S80) (hu : UpGroup l) (q : Nat) (hq : q < l.length) : at_Group l (rd_T80 l (q : Int)).f0 = q := by
  obtain ⟨a1, a2, a3⟩ := at_Group_spec l (rd_T80 l (q : Int)).f0 hu
  rcases Nat.lt_trichotomy (at_Group l (rd_T80 l (q : Int)).f0) q with h | h | h
  · have := a3 (at_Group l (rd_T80 l (q : Int)).f0) (Nat.le_refl _) (by omega)
    have := hu _ q h hq
    omega
  · exact h
  · have := a2 q h
    omega
theorem above_chain (a : Int) (l : List S80) (m : List S83) (hl : l.length ≤ 30) (hu : UpGroup l) {id : Int} {p : List Int} (h : Chain l id p) : ∀ (acc : List Int) (k : Nat), p.length < k → acc.length + p.length < 1000 → impl_Farm_above.l0 k id acc a l m = some (acc ++ p) := by
  induction h with
  | top =>
    intro acc k hk _
    obtain ⟨k, rfl⟩ : ∃ m, k = m + 1 := ⟨k - 1, by omega⟩
    simp [impl_Farm_above.l0]
  | up q hq h0 p _ ih =>
    intro acc k hk ha
    simp only [List.length_cons] at hk ha
    obtain ⟨k, rfl⟩ : ∃ m, k = m + 1 := ⟨k - 1, by omega⟩
    simp only [impl_Farm_above.l0]
    rw [if_neg h0]
    simp only [impl_Farm_group.f]
    rw [if_pos (by omega), at_eq l hu q hq]
    simp only [Option.bind_some]
    rw [if_pos (by omega), if_pos (by omega), if_pos (by omega), ih _ _ (by omega) (by simp; omega)]
    simp

theorem path_chain (a : Int) (l : List S80) (m : List S83) (hl : l.length ≤ 30) (hu : UpGroup l) {id : Int} {p : List Int} (h : Chain l id p) : ∀ (acc : List Int) (k : Nat), p.length + 40 < k → acc.length + p.length < 1000 → spec_FarmPath.l0 k acc id a l m = some (acc ++ p) := by
  induction h with
  | top =>
    intro acc k hk _
    obtain ⟨k, rfl⟩ : ∃ m, k = m + 1 := ⟨k - 1, by omega⟩
    simp [spec_FarmPath.l0]
  | up q hq h0 p _ ih =>
    intro acc k hk ha
    simp only [List.length_cons] at hk ha
    obtain ⟨k, rfl⟩ : ∃ m, k = m + 1 := ⟨k - 1, by omega⟩
    simp only [spec_FarmPath.l0]
    rw [if_neg h0, if_pos (by omega), grp_eq a l m (by omega) hu q hq k (by omega)]
    simp only [Option.bind_some]
    rw [if_pos (by omega), if_pos (by omega), ih _ _ (by omega) (by simp; omega)]
    simp

theorem rdset80 (xs : List S80) (i j : Nat) (v : S80) (h : i < xs.length) : rd_T80 (xs.set i v) (j : Int) = if j = i then v else rd_T80 xs (j : Int) := by
  unfold rd_T80
  rw [Int.toNat_natCast, List.getD_eq_getElem?_getD, List.getD_eq_getElem?_getD, List.getElem?_set]
  by_cases e : j = i
  · subst e; simp [h]
  · have e' : i ≠ j := fun q => e q.symm
    simp [e, e']
def markOfGroup (c : Int) (j : Nat) : S80 := ⟨c + 4 * (j : Int), c + 4 * (j : Int) + 1, c + 4 * (j : Int) + 2, c + 4 * (j : Int) + 3⟩
theorem markGroupS_loop (c : Int) (hc0 : 0 ≤ c) (hc : c ≤ 1099511627776) (n : Nat) (hn : n ≤ 1048576) : ∀ (d k i : Nat) (x0 : List S80), x0.length = n → n - i = d → i ≤ n → d < k → (∀ j : Nat, j < i → rd_T80 x0 j = markOfGroup c j) →
    ∃ l', laws_markGroupS.l0 k x0 (c + 4 * (i : Int)) (i : Int) = some (c + 4 * (n : Int), l') ∧ l'.length = n ∧ ∀ j : Nat, j < n → rd_T80 l' j = markOfGroup c j := by
  intro d
  induction d with
  | zero =>
    intro k i x0 hx hd hi hk hm
    obtain ⟨k, rfl⟩ : ∃ m, k = m + 1 := ⟨k - 1, by omega⟩
    obtain rfl : i = n := by omega
    simp only [laws_markGroupS.l0]
    rw [if_neg (by omega)]
    exact ⟨x0, rfl, hx, hm⟩
  | succ d ih =>
    intro k i x0 hx hd hi hk hm
    obtain ⟨k, rfl⟩ : ∃ m, k = m + 1 := ⟨k - 1, by omega⟩
    simp only [laws_markGroupS.l0]
    rw [if_pos (by omega), if_pos (by omega)]
    simp only [Option.bind_some, Int.toNat_natCast, List.length_set, hx, rdset80, show i < n from by omega, if_true, List.set_set]
    rw [show wrap64 ((c + 4 * (i : Int)) + 1) = c + 4 * (i : Int) + 1 from by rw [wrap_small (by omega) (by omega)]]
    rw [show wrap64 ((c + 4 * (i : Int) + 1) + 1) = c + 4 * (i : Int) + 2 from by rw [wrap_small (by omega) (by omega)]; omega]
    rw [show wrap64 ((c + 4 * (i : Int) + 2) + 1) = c + 4 * (i : Int) + 3 from by rw [wrap_small (by omega) (by omega)]; omega]
    rw [show wrap64 ((c + 4 * (i : Int) + 3) + 1) = c + 4 * (i : Int) + 4 from by rw [wrap_small (by omega) (by omega)]; omega]
    obtain ⟨l', h1, h2, h3⟩ := ih k (i + 1) (x0.set i (markOfGroup c i)) (by simp [hx]) (by omega) (by omega) (by omega) (fun j hj => by
      rw [rdset80 _ _ _ _ (by omega)]
      by_cases e : j = i
      · rw [if_pos e, e]
      · rw [if_neg e]; exact hm j (by omega))
    refine ⟨l', ?_, h2, h3⟩
    rw [← h1, succ_cast i (by omega)]
    congr 1
    omega
theorem markGroupS_eq (c : Int) (hc0 : 0 ≤ c) (hc : c ≤ 1099511627776) (l : List S80) (hn : l.length ≤ 1048576) (k : Nat) (hk : l.length < k) : ∃ l', laws_markGroupS.f k l c = some (c + 4 * (l.length : Int), l') ∧ l'.length = l.length ∧ ∀ j : Nat, j < l.length → rd_T80 l' j = markOfGroup c j := by
  have h := markGroupS_loop c hc0 hc l.length hn l.length k 0 l rfl (by omega) (by omega) hk (fun j hj => absurd hj (by omega))
  unfold laws_markGroupS.f
  simpa using h

theorem rdset83 (xs : List S83) (i j : Nat) (v : S83) (h : i < xs.length) : rd_T83 (xs.set i v) (j : Int) = if j = i then v else rd_T83 xs (j : Int) := by
  unfold rd_T83
  rw [Int.toNat_natCast, List.getD_eq_getElem?_getD, List.getD_eq_getElem?_getD, List.getElem?_set]
  by_cases e : j = i
  · subst e; simp [h]
  · have e' : i ≠ j := fun q => e q.symm
    simp [e, e']
def markOfMember (c : Int) (j : Nat) : S83 := ⟨c + 4 * (j : Int), c + 4 * (j : Int) + 1, c + 4 * (j : Int) + 2, c + 4 * (j : Int) + 3⟩
theorem markMemberS_loop (c : Int) (hc0 : 0 ≤ c) (hc : c ≤ 1099511627776) (n : Nat) (hn : n ≤ 1048576) : ∀ (d k i : Nat) (x0 : List S83), x0.length = n → n - i = d → i ≤ n → d < k → (∀ j : Nat, j < i → rd_T83 x0 j = markOfMember c j) →
    ∃ l', laws_markMemberS.l0 k x0 (c + 4 * (i : Int)) (i : Int) = some (c + 4 * (n : Int), l') ∧ l'.length = n ∧ ∀ j : Nat, j < n → rd_T83 l' j = markOfMember c j := by
  intro d
  induction d with
  | zero =>
    intro k i x0 hx hd hi hk hm
    obtain ⟨k, rfl⟩ : ∃ m, k = m + 1 := ⟨k - 1, by omega⟩
    obtain rfl : i = n := by omega
    simp only [laws_markMemberS.l0]
    rw [if_neg (by omega)]
    exact ⟨x0, rfl, hx, hm⟩
  | succ d ih =>
    intro k i x0 hx hd hi hk hm
    obtain ⟨k, rfl⟩ : ∃ m, k = m + 1 := ⟨k - 1, by omega⟩
    simp only [laws_markMemberS.l0]
    rw [if_pos (by omega), if_pos (by omega)]
    simp only [Option.bind_some, Int.toNat_natCast, List.length_set, hx, rdset83, show i < n from by omega, if_true, List.set_set]
    rw [show wrap64 ((c + 4 * (i : Int)) + 1) = c + 4 * (i : Int) + 1 from by rw [wrap_small (by omega) (by omega)]]
    rw [show wrap64 ((c + 4 * (i : Int) + 1) + 1) = c + 4 * (i : Int) + 2 from by rw [wrap_small (by omega) (by omega)]; omega]
    rw [show wrap64 ((c + 4 * (i : Int) + 2) + 1) = c + 4 * (i : Int) + 3 from by rw [wrap_small (by omega) (by omega)]; omega]
    rw [show wrap64 ((c + 4 * (i : Int) + 3) + 1) = c + 4 * (i : Int) + 4 from by rw [wrap_small (by omega) (by omega)]; omega]
    obtain ⟨l', h1, h2, h3⟩ := ih k (i + 1) (x0.set i (markOfMember c i)) (by simp [hx]) (by omega) (by omega) (by omega) (fun j hj => by
      rw [rdset83 _ _ _ _ (by omega)]
      by_cases e : j = i
      · rw [if_pos e, e]
      · rw [if_neg e]; exact hm j (by omega))
    refine ⟨l', ?_, h2, h3⟩
    rw [← h1, succ_cast i (by omega)]
    congr 1
    omega
theorem markMemberS_eq (c : Int) (hc0 : 0 ≤ c) (hc : c ≤ 1099511627776) (l : List S83) (hn : l.length ≤ 1048576) (k : Nat) (hk : l.length < k) : ∃ l', laws_markMemberS.f k l c = some (c + 4 * (l.length : Int), l') ∧ l'.length = l.length ∧ ∀ j : Nat, j < l.length → rd_T83 l' j = markOfMember c j := by
  have h := markMemberS_loop c hc0 hc l.length hn l.length k 0 l rfl (by omega) (by omega) hk (fun j hj => absurd hj (by omega))
  unfold laws_markMemberS.f
  simpa using h

theorem rdInt (xs : List Int) (i : Nat) (h : i < xs.length) : rd xs (i : Int) = xs[i] := by
  simp [rd, List.getD_eq_getElem?_getD, h]
theorem rdsetInt (xs : List Int) (i j : Nat) (v : Int) (h : i < xs.length) : rd (xs.set i v) (j : Int) = if j = i then v else rd xs (j : Int) := by
  unfold rd
  rw [Int.toNat_natCast, List.getD_eq_getElem?_getD, List.getD_eq_getElem?_getD, List.getElem?_set]
  by_cases e : j = i
  · subst e; simp [h]
  · have e' : i ≠ j := fun q => e q.symm
    simp [e, e']
theorem eqInt64S_loop (l : List Int) (hl : l.length < 9223372036854775807) : ∀ (d k i : Nat), l.length - i = d → i ≤ l.length → d < k → laws_eqInt64S.l0 k l l (i : Int) = some true := by
  intro d
  induction d with
  | zero =>
    intro k i hd hi hk
    obtain ⟨k, rfl⟩ : ∃ m, k = m + 1 := ⟨k - 1, by omega⟩
    simp only [laws_eqInt64S.l0]
    rw [if_neg (by omega)]
  | succ d ih =>
    intro k i hd hi hk
    obtain ⟨k, rfl⟩ : ∃ m, k = m + 1 := ⟨k - 1, by omega⟩
    simp only [laws_eqInt64S.l0]
    rw [if_pos (by omega), if_pos (by omega), if_pos (by omega), succ_cast i (by omega)]
    simp only [if_true]
    exact ih k (i + 1) (by omega) (by omega) (by omega)
theorem eqInt64S_same (l : List Int) (hl : l.length < 9223372036854775807) (k : Nat) (hk : l.length < k) : laws_eqInt64S.f k l l = some true := by
  unfold laws_eqInt64S.f
  rw [if_pos rfl]
  exact eqInt64S_loop l hl l.length k 0 (by omega) (by omega) hk
theorem markInt64S_loop (n : Nat) (hn : n ≤ 1048576) : ∀ (d k i : Nat) (x0 : List Int), x0.length = n → n - i = d → i ≤ n → d < k → (∀ j : Nat, j < i → rd x0 j = 1 + (j : Int)) →
    ∃ l', laws_markInt64S.l0 k x0 (1 + (i : Int)) (i : Int) = some (1 + (n : Int), l') ∧ l'.length = n ∧ ∀ j : Nat, j < n → rd l' j = 1 + (j : Int) := by
  intro d
  induction d with
  | zero =>
    intro k i x0 hx hd hi hk hm
    obtain ⟨k, rfl⟩ : ∃ m, k = m + 1 := ⟨k - 1, by omega⟩
    obtain rfl : i = n := by omega
    simp only [laws_markInt64S.l0]
    rw [if_neg (by omega)]
    exact ⟨x0, rfl, hx, hm⟩
  | succ d ih =>
    intro k i x0 hx hd hi hk hm
    obtain ⟨k, rfl⟩ : ∃ m, k = m + 1 := ⟨k - 1, by omega⟩
    simp only [laws_markInt64S.l0]
    rw [if_pos (by omega), if_pos (by omega), Int.toNat_natCast, succ_cast i (by omega), wrap_small (by omega) (by omega)]
    obtain ⟨l', h1, h2, h3⟩ := ih k (i + 1) (x0.set i (1 + (i : Int))) (by simp [hx]) (by omega) (by omega) (by omega) (fun j hj => by
      rw [rdsetInt _ _ _ _ (by omega)]
      by_cases e : j = i
      · rw [if_pos e, e]
      · rw [if_neg e]; exact hm j (by omega))
    refine ⟨l', ?_, h2, h3⟩
    rw [← h1]
    congr 1
theorem markInt64S_eq (l : List Int) (hn : l.length ≤ 1048576) (k : Nat) (hk : l.length < k) : ∃ l', laws_markInt64S.f k l 1 = some (1 + (l.length : Int), l') ∧ l'.length = l.length ∧ ∀ j : Nat, j < l.length → rd l' j = 1 + (j : Int) :=
  markInt64S_loop l.length hn l.length k 0 l rfl (by omega) (by omega) hk (fun j hj => absurd hj (by omega))
theorem heldInt64S_loop (n : Nat) (hn : n ≤ 1048576) (l : List Int) (hl : l.length = n) (hm : ∀ j : Nat, j < n → rd l j = 1 + (j : Int)) : ∀ (d k i : Nat), n - i = d → i ≤ n → d < k → laws_heldInt64S.l0 k l (1 + (i : Int)) (i : Int) = some (1 + (n : Int)) := by
  intro d
  induction d with
  | zero =>
    intro k i hd hi hk
    obtain ⟨k, rfl⟩ : ∃ m, k = m + 1 := ⟨k - 1, by omega⟩
    obtain rfl : i = n := by omega
    simp only [laws_heldInt64S.l0]
    rw [if_neg (by omega)]
  | succ d ih =>
    intro k i hd hi hk
    obtain ⟨k, rfl⟩ : ∃ m, k = m + 1 := ⟨k - 1, by omega⟩
    simp only [laws_heldInt64S.l0]
    rw [if_pos (by omega), if_pos (by omega), if_pos (hm i (by omega)), succ_cast i (by omega), wrap_small (by omega) (by omega)]
    have := ih k (i + 1) (by omega) (by omega) (by omega)
    rw [← this]
    congr 1
theorem heldInt64S_eq (l : List Int) (n : Nat) (hl : l.length = n) (hn : n ≤ 1048576) (hm : ∀ j : Nat, j < n → rd l j = 1 + (j : Int)) (k : Nat) (hk : n < k) : laws_heldInt64S.f k l 1 = some (1 + (n : Int)) :=
  heldInt64S_loop n hn l hl hm n k 0 (by omega) (by omega) hk

theorem member_up (l : List S80) (m : List S83) (h : ∀ j, j < m.length → spec_FarmRight.m l m j = true) : UpMember m := by
  have h0 : ∀ j : Nat, j < m.length → j = 0 ∨ (rd_T83 m ((j - 1 : Nat) : Int)).f0 < (rd_T83 m (j : Int)).f0 := fun j hj => by
    have := h j hj
    unfold spec_FarmRight.m at this
    simp only [Bool.and_eq_true, Bool.or_eq_true, decide_eq_true_iff] at this
    exact this.2.1
  intro p q
  induction q with
  | zero => intro h1; omega
  | succ q ih =>
    intro h1 h2
    have h3 := h0 (q + 1) h2
    rw [show q + 1 - 1 = q by omega] at h3
    by_cases hp : p = q
    · subst hp; omega
    · have := ih (by omega) (by omega)
      omega
theorem mem_loop (a : Int) (l : List S80) (m : List S83) (hl : m.length < 9223372036854775807) (hu : UpMember m) (id : Int) : ∀ (d k i : Nat), m.length - i = d → i ≤ m.length → d < k →
    (∀ q : Nat, q < i → (rd_T83 m (q : Int)).f0 ≠ id) → spec_l05Member.l0 k id (i : Int) a l m = some (if is_Member m id = true then (at_Member m id : Int) else -1) := by
  obtain ⟨a1, a2, a3⟩ := at_Member_spec m id hu
  have hiff := is_Member_iff m id hu
  intro d
  induction d with
  | zero =>
    intro k i hd hi hk hno
    obtain ⟨k, rfl⟩ : ∃ m, k = m + 1 := ⟨k - 1, by omega⟩
    simp only [spec_l05Member.l0]
    rw [if_neg (by omega), if_neg]
    rw [hiff]
    rintro ⟨q, h1, h2⟩
    exact hno q (by omega) h2
  | succ d ih =>
    intro k i hd hi hk hno
    obtain ⟨k, rfl⟩ : ∃ m, k = m + 1 := ⟨k - 1, by omega⟩
    simp only [spec_l05Member.l0]
    rw [if_pos (by omega), if_pos (by omega)]
    by_cases he : (rd_T83 m (i : Int)).f0 = id
    · rw [if_pos he, if_pos (hiff.2 ⟨i, by omega, he⟩)]
      have hat : at_Member m id = i := by
        rcases Nat.lt_trichotomy (at_Member m id) i with h | h | h
        · have := a3 (at_Member m id) (Nat.le_refl _) (by omega)
          have := hu _ i h (by omega)
          omega
        · exact h
        · have := a2 i h
          omega
      rw [hat]
    · rw [if_neg he, succ_cast i (by omega)]
      exact ih k (i + 1) (by omega) (by omega) (by omega) (fun q hq => by
        by_cases e : q = i
        · rw [e]; exact he
        · exact hno q (by omega))
theorem mem_eq (a : Int) (l : List S80) (m : List S83) (hl : m.length < 9223372036854775807) (hu : UpMember m) (id : Int) (k : Nat) (hk : m.length < k) : spec_l05Member.f k a l m id = some (if is_Member m id = true then (at_Member m id : Int) else -1) :=
  mem_loop a l m hl hu id m.length k 0 (by omega) (by omega) hk (fun q hq => absurd hq (by omega))
theorem path_same (a : Int) (l : List S80) (m : List S83) (id : Int) : ∃ v K, v.length ≤ 100 ∧ ∀ k, K ≤ k → impl_FarmPath.f k a l m id = some v ∧ spec_FarmPath.f k a l m id = some v := by
  obtain ⟨b, hb⟩ := right_some a l m
  unfold impl_FarmPath.f spec_FarmPath.f
  simp only [Option.bind_some]
  rw [right_same, hb]
  simp only [Option.bind_some]
  cases b with
  | false =>
    refine ⟨[], 1, by simp, fun k hk => ?_⟩
    obtain ⟨k, rfl⟩ : ∃ m, k = m + 1 := ⟨k - 1, by omega⟩
    simp [spec_FarmPath.j0]
  | true =>
    obtain ⟨h1, h2, h3, h4, h5⟩ := right_up a l m hb
    have hum := member_up l m h5
    obtain ⟨a1, a2, a3⟩ := at_Member_spec m id hum
    simp only [if_true, impl_Farm_member.f]
    rw [if_pos (by omega)]
    simp only [Option.bind_some]
    cases his : is_Member m id with
    | false =>
      refine ⟨[], 100, by simp, fun k hk => ?_⟩
      obtain ⟨k, rfl⟩ : ∃ m, k = m + 1 := ⟨k - 1, by omega⟩
      rw [mem_eq a l m (by omega) hum id (k + 1) (by omega), his]
      simp [spec_FarmPath.j0]
    | true =>
      have hlt : at_Member m id < m.length := by
        unfold is_Member at his
        simp only [Bool.and_eq_true, decide_eq_true_iff] at his
        exact his.1
      have hm := h5 _ hlt
      unfold spec_FarmRight.m at hm
      simp only [Bool.and_eq_true, Bool.or_eq_true, decide_eq_true_iff, hs_in_iff] at hm
      obtain ⟨p, hp, hpl⟩ : ∃ p, Chain l (rd_T83 m ((at_Member m id : Nat) : Int)).f1 p ∧ p.length ≤ 40 := by
        rcases hm.2.2.1 with h0 | ⟨q, h6, h7⟩
        · exact ⟨[], by rw [h0]; exact .top, by simp⟩
        · obtain ⟨p, hp, hp2⟩ := chain_ex l h3 h4 (q + 1) q (by omega) h6
          rw [h7] at hp
          exact ⟨p, hp, by omega⟩
      refine ⟨p, 200, by omega, fun k hk => ?_⟩
      obtain ⟨k, rfl⟩ : ∃ m, k = m + 1 := ⟨k - 1, by omega⟩
      have h8 := above_chain a l m h1 h3 hp [] (k + 1) (by omega) (by simp; omega)
      have h9 := path_chain a l m h1 h3 hp [] k (by omega) (by simp; omega)
      refine ⟨?_, ?_⟩
      · simp only [if_true]
        rw [if_pos (by omega), if_pos (by omega)]
        unfold impl_Farm_above.f
        rw [h8]
        simp
      · rw [mem_eq a l m (by omega) hum id (k + 1) (by omega), his]
        simp only [if_true, Option.bind_some]
        rw [show decide (((at_Member m id : Nat) : Int) < 0) = false from decide_eq_false (by omega)]
        simp only [spec_FarmPath.j0, Bool.false_eq_true, if_false]
        rw [mem_eq a l m (by omega) hum id k (by omega), his]
        simp only [if_true, Option.bind_some]
        rw [if_pos (by omega), if_pos (by omega), h9]
        simp
theorem markFarm_eq (a : Int) (l : List S80) (m : List S83) (hl : l.length ≤ 1048576) (hm : m.length ≤ 1048576) (k : Nat) (hk : l.length < k) (hk2 : m.length < k) : ∃ v, laws_markFarm.f k a l m 1 = some v ∧ 0 ≤ v.1 := by
  unfold laws_markFarm.f
  obtain ⟨l', h1, _, _⟩ := markGroupS_eq 1 (by omega) (by omega) l hl k hk
  rw [h1]
  simp only [Option.bind_some]
  obtain ⟨m', h2, _, _⟩ := markMemberS_eq (1 + 4 * (l.length : Int)) (by omega) (by omega) m hm k hk2
  rw [h2]
  exact ⟨_, rfl, by simp; omega⟩
theorem FnExactFarmPath : BridgeFnExactFarmPath.Pure := by
  intro a l m id _ hl _ hm _ _
  obtain ⟨v, hv, hv2⟩ := szFarm_eq a l m hl hm
  obtain ⟨u, K, hul, hK⟩ := path_same a (l.map convGroup) (m.map convMember) id
  refine ⟨l.length + m.length + 300 + K + 1, ?_⟩
  unfold laws_FnExactFarmPath.f
  rw [hv]
  simp only [Option.bind_some]
  by_cases hn : v < 0
  · rw [if_pos hn]
  · rw [if_neg hn]
    obtain ⟨h1, h2⟩ := hv2.resolve_left hn
    obtain ⟨i1, i2⟩ := hK (l.length + m.length + 300 + K + 1) (by omega)
    obtain ⟨i3, _⟩ := hK (l.length + m.length + 300 + K) (by omega)
    obtain ⟨fm, hfm, hfm0⟩ := markFarm_eq a (l.map convGroup) (m.map convMember) (by simp; omega) (by simp; omega) (l.length + m.length + 300 + K + 1) (by simp; omega) (by simp; omega)
    obtain ⟨um, hum, hum1, hum2⟩ := markInt64S_eq u (by omega) (l.length + m.length + 300 + K) (by omega)
    rw [toFarm_eq a l m h1 h2 _ (by omega) (by omega)]
    simp only [Option.bind_some]
    rw [i1, i2]
    simp only [Option.bind_some]
    rw [eqInt64S_same u (by omega) _ (by omega)]
    simp only [Option.bind_some, if_true]
    rw [eqFarm_same _ _ _ (by simp; omega) (by simp; omega) _ (by simp; omega) (by simp; omega)]
    simp only [Option.bind_some, if_true]
    rw [hfm]
    simp only [Option.bind_some]
    rw [if_neg (by omega)]
    simp only [laws_FnExactFarmPath.j0, Bool.not_true, Bool.false_eq_true, if_false, hum, Option.bind_some, heldInt64S_eq um u.length hum1 (by omega) hum2 (l.length + m.length + 300 + K) (by omega), if_true, toFarm_eq a l m h1 h2 (l.length + m.length + 300 + K) (by omega) (by omega), i3, eqInt64S_same u (by omega) (l.length + m.length + 300 + K) (by omega)]
    rw [if_neg (by omega), if_neg (by omega)]
end Go.Proofs.Ythpggkpidbieeaa.Pure
