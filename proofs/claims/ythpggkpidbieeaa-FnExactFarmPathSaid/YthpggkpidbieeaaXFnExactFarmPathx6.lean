/- Functions that FnExactFarmPath comes to, as Lean functions with their contracts: written by the prover's own program (wip/tpl/myprint.py) over the kit's printer, some contracts by hand. Conditions: none. -/
import Derived.Test.YthpggkpidbieeaaXFnExactFarmPathx0
import Derived.Test.YthpggkpidbieeaaXFnExactFarmPathx4
import Derived.Test.YthpggkpidbieeaaXFnExactFarmPathx5
namespace Go.Proofs.Ythpggkpidbieeaa.XFnExactFarmPath
open Go.RowKit Go.Proofs.YthpggkpidbieeaaW.PrintWords Go.Proofs.YthpggkpidbieeaaW.PrintLast Go.Proofs.YthpggkpidbieeaaW.PrintMore
attribute [local go_sem] max2_int min2_int max_two min_two max_three min_three max_four min_four   -- for this text's walks alone
set_option linter.unusedVariables false
set_option linter.unusedSimpArgs false

/-! ### impl_Farm_group: function 87 -/
/-! ### slices.BinarySearchFunc at Group, by Id -/
def bsI_Group (key : Nat → Int) (t : Int) : Nat → Nat → Nat → Nat
  | 0, i, _ => i
  | n + 1, i, j => if i < j then (if key ((i + j) / 2) < t then bsI_Group key t n ((i + j) / 2 + 1) j else bsI_Group key t n i ((i + j) / 2)) else i
theorem bsI_Group_le (key : Nat → Int) (t : Int) : ∀ (n i j : Nat), i ≤ j → bsI_Group key t n i j ≤ j
  | 0, i, j, h => h
  | n + 1, i, j, h => by
    unfold bsI_Group
    split
    · split
      · exact bsI_Group_le key t n _ j (by omega)
      · exact Nat.le_trans (bsI_Group_le key t n i _ (by omega)) (by omega)
    · exact h
def keys_Group (l : List S80) (i : Nat) : Int := (rd_T80 l (i : Int)).f0
def at_Group (l : List S80) (t : Int) : Nat := bsI_Group (keys_Group l) t (l.length + 1) 0 l.length
def is_Group (l : List S80) (t : Int) : Bool := decide (at_Group l t < l.length) && (keys_Group l (at_Group l t) == t)
def cmp_Group (a b : Int) : Int := if a < b then -1 else if b < a then 1 else 0
set_option maxHeartbeats 8000000 in
set_option maxRecDepth 100000 in
theorem cmp_Group_calls (x : S80) (t : Int) (w : World) : Calls Try.prog 99 #[.agg #[.int .i64 x.f0, .int .i64 x.f1, .int .i64 x.f2, .int .i64 x.f3], .int .i64 t] w fun e w' => e = .returned (.int .i64 (cmp_Group x.f0 t)) ∧ Below w.heap.size w w' := by
  have hu80 := Try.underlying80
  by_cases c1 : x.f0 < t
  · have e1 : cmp_Group x.f0 t = -1 := by unfold cmp_Group; rw [if_pos c1]
    rw [e1]
    go_enter Try.func99, Try.ntmps99
    go_wp2
    go_ret
    exact ⟨rfl, (Below.refl _ _).alloc (Nat.le_refl _) _⟩
  · by_cases c2 : t < x.f0
    · have e1 : cmp_Group x.f0 t = 1 := by unfold cmp_Group; rw [if_neg c1, if_pos c2]
      rw [e1]
      go_enter Try.func99, Try.ntmps99
      go_wp2
      go_ret
      exact ⟨rfl, (Below.refl _ _).alloc (Nat.le_refl _) _⟩
    · have e1 : cmp_Group x.f0 t = 0 := by unfold cmp_Group; rw [if_neg c1, if_neg c2]
      rw [e1]
      go_enter Try.func99, Try.ntmps99
      go_wp2
      go_ret
      exact ⟨rfl, (Below.refl _ _).alloc (Nat.le_refl _) _⟩
theorem cmp_Group_neg {a b : Int} : cmp_Group a b < 0 ↔ a < b := by unfold cmp_Group; split <;> (try split) <;> omega
theorem cmp_Group_zero {a b : Int} : (cmp_Group a b == 0) = (a == b) := by
  rw [Bool.eq_iff_iff]; simp only [beq_iff_eq]; unfold cmp_Group; split <;> (try split) <;> omega
set_option maxHeartbeats 8000000 in
set_option maxRecDepth 100000 in
theorem search_Group_calls (A : Option Addr) (c : Nat) (l : List S80) (t : Int) (w : World) (hr : Kd.C k80 w A l.length l) (hl : l.length ≤ 4611686018427387904) :
    Calls Try.prog 98 #[.slice A l.length c, .int .i64 t, .func (.func 99) #[] #[]] w fun e w' => e = .returned (.tuple #[.int .i64 (at_Group l t : Nat), .bool (is_Group l t)]) ∧ Below w.heap.size w w' := by
  have hu80 := Try.underlying80
  have HR := Aside0.mk hr
  clear hr
  go_enter Try.func98, Try.ntmps98
  go_wp2_with fail
  go_loopg [9, 10, 11] (l.length + 1) (fun gg s9 s10 _ wr => ∃ (i j : Nat), s9 = .int .i64 i ∧ s10 = .int .i64 j ∧ i ≤ j ∧ j ≤ l.length ∧ j - i < gg ∧ Aside0 (bsI_Group (keys_Group l) t gg i j = at_Group l t) ∧ Aside0 (Below w.heap.size w wr))
  case atStart => exact ⟨0, l.length, rfl, rfl, Nat.zero_le _, Nat.le_refl _, by omega, ⟨rfl⟩, ⟨Below.refl _ _⟩⟩
  case round =>
    obtain ⟨i, j, rfl, rfl, hij, hjl, hg, HA, HB⟩ := hrel
    obtain ⟨gk, rfl⟩ : ∃ m, gk = m + 1 := ⟨gk - 1, by omega⟩
    by_cases hlt : i < j
    · have hltz : (i : Int) < (j : Int) := by omega
      have hA := HA.out
      clear HA
      unfold bsI_Group at hA
      rw [if_pos hlt] at hA
      obtain ⟨h, hh⟩ : ∃ h : Nat, h = (i + j) / 2 := ⟨_, rfl⟩
      rw [← hh] at hA
      have hhlt : h < l.length := by omega
      have e1 : IntKind.u64.wrap ((i : Int) + (j : Int)) = (i : Int) + (j : Int) := by simp [IntKind.wrap, IntKind.bits, IntKind.signed]; omega
      have e2 : ((i : Int) + (j : Int)) / 2 = (h : Int) := by omega
      obtain ⟨ad, e, hx0, hx1, hx2, hx3⟩ := at_T80 HR.out (h : Int) (by omega) (by omega)
      cases e
      replace hx0 := pw_cell_below HB.out hx0
      replace hx1 := pw_cell_below HB.out hx1
      replace hx2 := pw_cell_below HB.out hx2
      replace hx3 := pw_cell_below HB.out hx3
      simp only [Int.toNat_natCast] at hx0 hx1 hx2 hx3
      have hk : keys_Group l h = (rd_T80 l (h : Int)).f0 := rfl
      rw [hk] at hA
      generalize rd_T80 l (h : Int) = y at hA hk hx0 hx1 hx2 hx3
      have hcall := cmp_Group_calls y t wr
      by_cases hc : y.f0 < t
      · rw [if_pos hc] at hA
        have HA := Aside0.mk hA
        have HC := Aside0.mk hc
        have HK := Aside0.mk hk
        have HH := Aside0.mk hh
        have hn : decide (cmp_Group y.f0 t < 0) = true := decide_eq_true (cmp_Group_neg.2 hc)
        clear hA hc hk hh
        go_wp2_with fail
        refine hcall.mono ?_
        clear hcall hx0 hx1 hx2 hx3
        rintro e w' ⟨rfl, hb'⟩
        have HB' := Aside0.mk hb'
        clear hb'
        go_wp2
        go_roundg gk
        case measure => omega
        case rel => exact ⟨h + 1, j, by go_num, rfl, by have := HH.out; omega, hjl, by have := HH.out; omega, HA, ⟨below_then HB.out HB.out.size HB'.out⟩⟩
      · rw [if_neg hc] at hA
        have HA := Aside0.mk hA
        have HC := Aside0.mk hc
        have HK := Aside0.mk hk
        have HH := Aside0.mk hh
        have hn : decide (cmp_Group y.f0 t < 0) = false := decide_eq_false (fun q => hc (cmp_Group_neg.1 q))
        clear hA hc hk hh
        go_wp2_with fail
        refine hcall.mono ?_
        clear hcall hx0 hx1 hx2 hx3
        rintro e w' ⟨rfl, hb'⟩
        have HB' := Aside0.mk hb'
        clear hb'
        go_wp2
        go_roundg gk
        case measure => omega
        case rel => exact ⟨i, h, rfl, rfl, by have := HH.out; omega, by have := HH.out; omega, by have := HH.out; omega, HA, ⟨below_then HB.out HB.out.size HB'.out⟩⟩
    · have hltz : ¬ (i : Int) < (j : Int) := by omega
      have hA := HA.out
      clear HA
      unfold bsI_Group at hA
      rw [if_neg hlt] at hA
      subst hA
      by_cases hin : at_Group l t < l.length
      · have hinz : ((at_Group l t : Nat) : Int) < (l.length : Int) := by omega
        obtain ⟨ad, e, hx0, hx1, hx2, hx3⟩ := at_T80 HR.out ((at_Group l t : Nat) : Int) (by omega) (by omega)
        cases e
        replace hx0 := pw_cell_below HB.out hx0
        replace hx1 := pw_cell_below HB.out hx1
        replace hx2 := pw_cell_below HB.out hx2
        replace hx3 := pw_cell_below HB.out hx3
        simp only [Int.toNat_natCast] at hx0 hx1 hx2 hx3
        have hk : keys_Group l (at_Group l t) = (rd_T80 l ((at_Group l t : Nat) : Int)).f0 := rfl
        have hI : is_Group l t = (cmp_Group (rd_T80 l ((at_Group l t : Nat) : Int)).f0 t == 0) := by unfold is_Group; rw [hk, cmp_Group_zero]; simp [hin]
        generalize rd_T80 l ((at_Group l t : Nat) : Int) = y at hI hk hx0 hx1 hx2 hx3
        have hcall := cmp_Group_calls y t wr
        have HI := Aside0.mk hI
        clear hI hk
        go_wp2_with fail
        refine hcall.mono ?_
        clear hcall hx0 hx1 hx2 hx3
        rintro e w' ⟨rfl, hb'⟩
        have HB' := Aside0.mk hb'
        clear hb'
        go_wp2
        go_ret2
        exact ⟨by rw [HI.out]; rfl, below_then HB.out HB.out.size HB'.out⟩
      · have hinz : ¬ ((at_Group l t : Nat) : Int) < (l.length : Int) := by omega
        have hI : is_Group l t = false := by unfold is_Group; simp [hin]
        have HI := Aside0.mk hI
        clear hI
        go_wp2
        go_ret2
        exact ⟨by rw [HI.out]; rfl, HB.out⟩

def impl_Farm_group.f (a0_0 : Int) (l0_1 : List (S80)) (l0_2 : List (S83)) (a1 : Int) : Option (Int × Bool) := if l0_1.length ≤ 4611686018427387904 then some ((at_Group l0_1 a1 : Nat), is_Group l0_1 a1) else none
set_option maxHeartbeats 8000000 in
set_option maxRecDepth 100000 in
theorem impl_Farm_group.calls (a0_0 : Int) (A0_1 : Option Addr) (c0_1 : Nat) (l0_1 : List (S80)) (A0_2 : Option Addr) (c0_2 : Nat) (l0_2 : List (S83)) (a1 : Int) (r1 : Int) (r2 : Bool) (w : World) (hr0_1 : Kd.C k80 w A0_1 l0_1.length l0_1) (hc0_1 : l0_1.length ≤ c0_1) (hr0_2 : Kd.C k83 w A0_2 l0_2.length l0_2) (hc0_2 : l0_2.length ≤ c0_2) (h : impl_Farm_group.f a0_0 l0_1 l0_2 a1 = some (r1, r2)) :
    Calls Try.prog 87 #[.agg #[.int .i64 a0_0, .slice A0_1 l0_1.length c0_1, .slice A0_2 l0_2.length c0_2], .int .i64 a1] w fun e w' => e = .returned (.tuple #[.int .i64 r1, .bool r2]) ∧ Below w.heap.size w w' := by
  have hu55 := Try.underlying55
  unfold impl_Farm_group.f at h
  by_cases hl : l0_1.length ≤ 4611686018427387904
  · rw [if_pos hl] at h
    simp only [Option.some.injEq, Prod.mk.injEq] at h
    obtain ⟨rfl, rfl⟩ := h
    have hb := (Below.refl w.heap.size w).alloc (Nat.le_refl _) (.cells #[.int .i64 a0_0, .slice A0_1 l0_1.length c0_1, .slice A0_2 l0_2.length c0_2] 55)
    have hcon := search_Group_calls A0_1 c0_1 l0_1 a1 _ (Kd.C_below hr0_1 hb) hl
    have HB := Aside0.mk hb
    clear hr0_1 hc0_1 hr0_2 hc0_2 hb
    go_enter Try.func87, Try.ntmps87
    go_wp2_with fail
    refine hcon.mono ?_
    clear hcon
    rintro e w1 ⟨rfl, hB1⟩
    have HB1 := Aside0.mk hB1
    clear hB1
    go_wp2
    go_ret2
    exact ⟨rfl, HB.out.trans (HB1.out.mono (by simp))⟩
  · rw [if_neg hl] at h
    cases h

/-! ### impl_Farm_hasGroup: function 69 -/
def impl_Farm_hasGroup.f (a0_0 : Int) (l0_1 : List (S80)) (l0_2 : List (S83)) (a1 : Int) : Option (Bool) := (impl_Farm_group.f a0_0 l0_1 l0_2 a1).bind fun bt171 => (if bt171.2 = true then (some true) else (some (a1 == 0)))
set_option maxHeartbeats 8000000 in
set_option maxRecDepth 100000 in
theorem impl_Farm_hasGroup.calls (a0_0 : Int) (A0_1 : Option Addr) (c0_1 : Nat) (l0_1 : List (S80)) (A0_2 : Option Addr) (c0_2 : Nat) (l0_2 : List (S83)) (a1 : Int) (r : Bool) (w : World) (hr0_1 : Kd.C k80 w A0_1 l0_1.length l0_1) (hc0_1 : l0_1.length ≤ c0_1) (hr0_2 : Kd.C k83 w A0_2 l0_2.length l0_2) (hc0_2 : l0_2.length ≤ c0_2) (h : impl_Farm_hasGroup.f a0_0 l0_1 l0_2 a1 = some r) :
    Calls Try.prog 69 #[.agg #[.int .i64 a0_0, .slice A0_1 l0_1.length c0_1, .slice A0_2 l0_2.length c0_2], .int .i64 a1] w fun e w' => e = .returned (.bool r) ∧ Below w.heap.size w w' := by
  have hu55 := Try.underlying55
  have HR0_1 := Aside0.mk hr0_1
  have HC0_1 := Aside0.mk hc0_1
  clear hr0_1 hc0_1
  have HR0_2 := Aside0.mk hr0_2
  have HC0_2 := Aside0.mk hc0_2
  clear hr0_2 hc0_2
  have HB := Aside0.mk (Below.refl w.heap.size w)
  have H : ((impl_Farm_group.f a0_0 l0_1 l0_2 a1).bind fun bt171 => (if bt171.2 = true then (some true) else (some (a1 == 0)))) = some r := h
  clear h
  replace H := Option.bind_eq_some_iff.mp H
  obtain ⟨⟨t171, t172⟩, A30, H⟩ := H
  replace H : (if t172 = true then (some true) else (some (a1 == 0))) = some r := H
  have A3 := Aside0.mk A30
  clear A30
  by_cases c4 : t172 = true
  · subst c4
    have H1 : (some true) = some r := by rw [if_pos rfl] at H; exact H
    clear H
    have H := H1
    clear H1
    obtain rfl := Option.some.inj H
    go_enter Try.func69, Try.ntmps69
    go_wp2_with (first | ((with_reducible refine gate_dst (N := 2) rfl ?_); refine box_event ?hg (N := 2) ?hd (cs := #[.int .i64 a0_0, .slice A0_1 l0_1.length c0_1, .slice A0_2 l0_2.length c0_2]) (t := 55) ?hr ?_; (case hd => rfl); (case hg => rfl); (case hr => first | (go_simp; done) | (go_simp; rfl)); intro gb170 hg w5 hbox hb; have n0_ := Aside0.mk (below_step (by repeat (first | (with_reducible first | exact HB.out | apply below_alloc | apply pw_below_drewN | apply below_drew1) | exact HB.out)) hb); have n1_ := Aside0.mk (hbox); have n2_ := Aside0.mk ((by rw [hg]; exact (below_size (by repeat (first | (with_reducible first | exact HB.out | apply below_alloc | apply pw_below_drewN | apply below_drew1) | exact HB.out))) : w.heap.size ≤ gb170)); have n3_ := Aside0.mk ((by rw [hg]; exact (below_size (by repeat (first | (with_reducible first | exact HB.out | apply below_alloc | apply pw_below_drewN | apply below_drew1) | exact HB.out))) : w.heap.size ≤ gb170)); clear HB; have HB := n0_; have BK170 := n1_; have GW170 := n2_; have GE170 := n3_; clear n0_ n1_ n2_ n3_; clear hb hbox hg; have hcz6_0 : w5.cell? ⟨gb170, 0, none⟩ = some (.int .i64 a0_0) := (blk_cell BK170.out 0).trans rfl; have hcz6_1 : w5.cell? ⟨gb170, 1, none⟩ = some (.slice A0_1 l0_1.length c0_1) := (blk_cell BK170.out 1).trans rfl; have hcz6_2 : w5.cell? ⟨gb170, 2, none⟩ = some (.slice A0_2 l0_2.length c0_2) := (blk_cell BK170.out 2).trans rfl; have hfz6_0 := blk_frozen BK170.out 0; have hfz6_1 := blk_frozen BK170.out 1; have hfz6_2 := blk_frozen BK170.out 2) | ((with_reducible refine gate_callee (f := 87) rfl ?_); refine goesL_ (some 10) rfl rfl Try.func87 (by kernel_rfl) rfl #[.agg #[.int .i64 a0_0, .slice A0_1 l0_1.length c0_1, .slice A0_2 l0_2.length c0_2], .int .i64 a1] rfl (by (try simp only [List.map_toArray, List.map_cons, List.map_nil]); first | done | rfl | (simp only [List.length_drop, List.length_take]; rfl)) ?_; (with_reducible refine (impl_Farm_group.calls a0_0 _ _ l0_1 _ _ l0_2 a1 t171 true _ ?side1 ?side2 ?side3 ?side4 A3.out).mono ?_); (case side1 => repeat (first | exact (Kd.C_below HR0_1.out HB.out) | (with_reducible refine Kd.C_alloc ?_ _) | (with_reducible refine Kd.C_drewN ?_ _) | (with_reducible refine Kd.C_drew ?_))); (case side2 => exact HC0_1.out); (case side3 => repeat (first | exact (Kd.C_below HR0_2.out HB.out) | (with_reducible refine Kd.C_alloc ?_ _) | (with_reducible refine Kd.C_drewN ?_ _) | (with_reducible refine Kd.C_drew ?_))); (case side4 => exact HC0_2.out); rintro e w7 ⟨rfl, hb⟩; refine ⟨_, rfl, ?_⟩; have n0_ := Aside0.mk (blk_below (g := gb170) (o := .cells #[.int .i64 a0_0, .slice A0_1 l0_1.length c0_1, .slice A0_2 l0_2.length c0_2] 55 (0, 0)) (by (with_reducible repeat (first | refine blk_drewN ?_ _ | refine blk_drew ?_ | refine blk_alloc ?_ _)); exact BK170.out) hb); have n1_ := Aside0.mk (below_step (by repeat (first | (with_reducible first | exact HB.out | apply below_alloc | apply pw_below_drewN | apply below_drew1 | refine below_set ?_ GE170.out) | exact HB.out)) hb); clear BK170; clear HB; have BK170 := n0_; have HB := n1_; clear n0_ n1_; (try clear hb); (try clear hb2); (try clear hk); (try clear hi)))
    go_ret
    exact ⟨by first | rfl | (simp [errW_none, errW_some] <;> rfl) | (simp [*, errW_none, errW_some] <;> rfl), by repeat (first | (with_reducible first | exact HB.out | apply below_alloc | apply pw_below_drewN | apply below_drew1 | refine below_set ?_ GE170.out) | exact HB.out)⟩
  · replace c4 := Bool.eq_false_iff.mpr c4
    subst c4
    have H1 : (some (a1 == 0)) = some r := by rw [if_neg (show ¬ (false = true) by decide)] at H; exact H
    clear H
    have H := H1
    clear H1
    obtain rfl := Option.some.inj H
    go_enter Try.func69, Try.ntmps69
    go_wp2_with (first | ((with_reducible refine gate_dst (N := 2) rfl ?_); refine box_event ?hg (N := 2) ?hd (cs := #[.int .i64 a0_0, .slice A0_1 l0_1.length c0_1, .slice A0_2 l0_2.length c0_2]) (t := 55) ?hr ?_; (case hd => rfl); (case hg => rfl); (case hr => first | (go_simp; done) | (go_simp; rfl)); intro gb170 hg w8 hbox hb; have n0_ := Aside0.mk (below_step (by repeat (first | (with_reducible first | exact HB.out | apply below_alloc | apply pw_below_drewN | apply below_drew1) | exact HB.out)) hb); have n1_ := Aside0.mk (hbox); have n2_ := Aside0.mk ((by rw [hg]; exact (below_size (by repeat (first | (with_reducible first | exact HB.out | apply below_alloc | apply pw_below_drewN | apply below_drew1) | exact HB.out))) : w.heap.size ≤ gb170)); have n3_ := Aside0.mk ((by rw [hg]; exact (below_size (by repeat (first | (with_reducible first | exact HB.out | apply below_alloc | apply pw_below_drewN | apply below_drew1) | exact HB.out))) : w.heap.size ≤ gb170)); clear HB; have HB := n0_; have BK170 := n1_; have GW170 := n2_; have GE170 := n3_; clear n0_ n1_ n2_ n3_; clear hb hbox hg; have hcz9_0 : w8.cell? ⟨gb170, 0, none⟩ = some (.int .i64 a0_0) := (blk_cell BK170.out 0).trans rfl; have hcz9_1 : w8.cell? ⟨gb170, 1, none⟩ = some (.slice A0_1 l0_1.length c0_1) := (blk_cell BK170.out 1).trans rfl; have hcz9_2 : w8.cell? ⟨gb170, 2, none⟩ = some (.slice A0_2 l0_2.length c0_2) := (blk_cell BK170.out 2).trans rfl; have hfz9_0 := blk_frozen BK170.out 0; have hfz9_1 := blk_frozen BK170.out 1; have hfz9_2 := blk_frozen BK170.out 2) | ((with_reducible refine gate_callee (f := 87) rfl ?_); refine goesL_ (some 10) rfl rfl Try.func87 (by kernel_rfl) rfl #[.agg #[.int .i64 a0_0, .slice A0_1 l0_1.length c0_1, .slice A0_2 l0_2.length c0_2], .int .i64 a1] rfl (by (try simp only [List.map_toArray, List.map_cons, List.map_nil]); first | done | rfl | (simp only [List.length_drop, List.length_take]; rfl)) ?_; (with_reducible refine (impl_Farm_group.calls a0_0 _ _ l0_1 _ _ l0_2 a1 t171 false _ ?side1 ?side2 ?side3 ?side4 A3.out).mono ?_); (case side1 => repeat (first | exact (Kd.C_below HR0_1.out HB.out) | (with_reducible refine Kd.C_alloc ?_ _) | (with_reducible refine Kd.C_drewN ?_ _) | (with_reducible refine Kd.C_drew ?_))); (case side2 => exact HC0_1.out); (case side3 => repeat (first | exact (Kd.C_below HR0_2.out HB.out) | (with_reducible refine Kd.C_alloc ?_ _) | (with_reducible refine Kd.C_drewN ?_ _) | (with_reducible refine Kd.C_drew ?_))); (case side4 => exact HC0_2.out); rintro e w10 ⟨rfl, hb⟩; refine ⟨_, rfl, ?_⟩; have n0_ := Aside0.mk (blk_below (g := gb170) (o := .cells #[.int .i64 a0_0, .slice A0_1 l0_1.length c0_1, .slice A0_2 l0_2.length c0_2] 55 (0, 0)) (by (with_reducible repeat (first | refine blk_drewN ?_ _ | refine blk_drew ?_ | refine blk_alloc ?_ _)); exact BK170.out) hb); have n1_ := Aside0.mk (below_step (by repeat (first | (with_reducible first | exact HB.out | apply below_alloc | apply pw_below_drewN | apply below_drew1 | refine below_set ?_ GE170.out) | exact HB.out)) hb); clear BK170; clear HB; have BK170 := n0_; have HB := n1_; clear n0_ n1_; (try clear hb); (try clear hb2); (try clear hk); (try clear hi)))
    go_ret
    exact ⟨by first | rfl | (simp [errW_none, errW_some] <;> rfl) | (simp [*, errW_none, errW_some] <;> rfl), by repeat (first | (with_reducible first | exact HB.out | apply below_alloc | apply pw_below_drewN | apply below_drew1 | refine below_set ?_ GE170.out) | exact HB.out)⟩

/-! ### impl_isWeight: function 70 -/
def impl_isWeight.f (a0 : Int) : Option (Bool) := (impl_in.f a0 1 1073741824).bind fun t173 => (some t173)
set_option maxHeartbeats 8000000 in
set_option maxRecDepth 100000 in
theorem impl_isWeight.calls (a0 : Int) (r : Bool) (w : World) (h : impl_isWeight.f a0 = some r) :
    Calls Try.prog 70 #[.int .i64 a0] w fun e w' => e = .returned (.bool r) ∧ Drawn0 w w' := by
  have H : ((impl_in.f a0 1 1073741824).bind fun t173 => (some t173)) = some r := h
  clear h
  replace H := Option.bind_eq_some_iff.mp H
  obtain ⟨t173, A20, H⟩ := H
  replace H : (some t173) = some r := H
  have A2 := Aside0.mk A20
  clear A20
  obtain rfl := Option.some.inj H
  go_enter Try.func70, Try.ntmps70
  go_wp2_with (first | ((with_reducible refine gate_callee (f := 84) rfl ?_); refine goesL_ (some 4) rfl rfl Try.func84 (by kernel_rfl) rfl #[.int .i64 a0, .int .i64 1, .int .i64 1073741824] rfl (by (try simp only [List.map_toArray, List.map_cons, List.map_nil]); first | done | rfl | (simp only [List.length_drop, List.length_take]; rfl)) ?_; (with_reducible refine (impl_in.calls a0 1 1073741824 t173 _ A2.out).mono ?_); rintro e w' ⟨rfl, ⟨nd, rfl⟩⟩; refine ⟨_, rfl, ?_⟩))
  go_ret
  exact ⟨by first | rfl | (simp; done) | (simp [*]; done), by repeat (first | exact Drawn0.refl _ | apply Drawn0.step)⟩

/-! ### impl_FarmRight: function 34 -/
theorem hf_in (a b c : Int) : impl_in.f a b c = some (decide (b ≤ a ∧ a ≤ c)) := by
  unfold impl_in.f
  by_cases h : b ≤ a <;> simp [h]
theorem hf_id_eq (a : Int) : impl_isId.f a = some (hf_id a) := by simp [impl_isId.f, hf_in, hf_id]
theorem hf_want_eq (a : Int) : impl_isWant.f a = some (hf_want a) := by simp [impl_isWant.f, hf_in, hf_want]
theorem hf_weight_eq (a : Int) : impl_isWeight.f a = some (hf_weight a) := by simp [impl_isWeight.f, hf_in, hf_weight]
def hf_has (l : List S80) (id : Int) : Bool := is_Group l id || id == 0
theorem hf_has_eq (a : Int) (l : List S80) (m : List S83) (id : Int) (hl : l.length ≤ 4611686018427387904) : impl_Farm_hasGroup.f a l m id = some (hf_has l id) := by
  unfold impl_Farm_hasGroup.f impl_Farm_group.f hf_has
  rw [if_pos hl]
  simp only [Option.bind_some]
  cases is_Group l id <;> simp
def impl_FarmRight.g (l : List S80) (i : Nat) : Bool := hf_id (rd_T80 l i).f0 && ((decide (i = 0) || decide ((rd_T80 l ((i - 1 : Nat) : Int)).f0 < (rd_T80 l i).f0)) && (hf_has (l.take i) (rd_T80 l i).f1 && (hf_want (rd_T80 l i).f2 && hf_weight (rd_T80 l i).f3)))
def impl_FarmRight.m (l : List S80) (m : List S83) (i : Nat) : Bool := hf_id (rd_T83 m i).f0 && ((decide (i = 0) || decide ((rd_T83 m ((i - 1 : Nat) : Int)).f0 < (rd_T83 m i).f0)) && (hf_has l (rd_T83 m i).f1 && (hf_want (rd_T83 m i).f2 && hf_weight (rd_T83 m i).f3)))
def impl_FarmRight.f (a0_0 : Int) (l0_1 : List S80) (l0_2 : List S83) : Option Bool :=
  some (hf_want a0_0 && (decide (l0_1.length ≤ 30) && (decide (l0_2.length ≤ 60) && ((List.range l0_1.length).all (impl_FarmRight.g l0_1) && (List.range l0_2.length).all (impl_FarmRight.m l0_1 l0_2)))))
set_option maxHeartbeats 32000000 in
set_option maxRecDepth 100000 in
theorem impl_FarmRight.calls (a0_0 : Int) (A0_1 : Option Addr) (c0_1 : Nat) (l0_1 : List (S80)) (A0_2 : Option Addr) (c0_2 : Nat) (l0_2 : List (S83)) (r : Bool) (w : World) (hr0_1 : Kd.C k80 w A0_1 l0_1.length l0_1) (hc0_1 : l0_1.length ≤ c0_1) (hr0_2 : Kd.C k83 w A0_2 l0_2.length l0_2) (hc0_2 : l0_2.length ≤ c0_2) (h : impl_FarmRight.f a0_0 l0_1 l0_2 = some r) :
    Calls Try.prog 34 #[.agg #[.int .i64 a0_0, .slice A0_1 l0_1.length c0_1, .slice A0_2 l0_2.length c0_2]] w fun e w' => e = .returned (.bool r) ∧ Below w.heap.size w w' := by
  have hu1 := Try.underlying55
  have hu2 := Try.underlying80
  have hu3 := Try.underlying83
  have HR1 := Aside0.mk hr0_1
  have HR2 := Aside0.mk hr0_2
  have HC1 := Aside0.mk hc0_1
  have HC2 := Aside0.mk hc0_2
  have H := Aside0.mk (Option.some.inj h)
  clear h hr0_1 hr0_2 hc0_2
  have E1 := Aside0.mk (hf_want_eq a0_0)
  cases hw : hf_want a0_0 with
  | false =>
    rw [hw] at E1 H
    have HW := Aside0.mk hw
    clear hw
    go_enter Try.func34, Try.ntmps34
    go_wp2_with (go_at_call 59; refine (impl_isWant.calls _ _ _ E1.out).mono ?_; rintro e w1 ⟨rfl, ⟨n, rfl⟩⟩)
    go_ret
    exact ⟨by rw [← H.out]; rfl, pw_below_drewN ((Below.refl _ _).alloc (Nat.le_refl _) _) _⟩
  | true =>
    rw [hw] at E1 H
    have HW := Aside0.mk hw
    clear hw
    by_cases h1 : l0_1.length ≤ 30
    · by_cases h2 : l0_2.length ≤ 60
      · have h1z : ¬ ((l0_1.length : Nat) : Int) > 30 := by omega
        have h2z : ¬ ((l0_2.length : Nat) : Int) > 60 := by omega
        replace H := Aside0.mk (show ((List.range l0_1.length).all (impl_FarmRight.g l0_1) && (List.range l0_2.length).all (impl_FarmRight.m l0_1 l0_2)) = r by rw [← H.out]; simp [h1, h2])
        go_enter Try.func34, Try.ntmps34
        go_wp2_with (go_at_call 59; refine (impl_isWant.calls _ _ _ E1.out).mono ?_; rintro e w1 ⟨rfl, ⟨n, rfl⟩⟩)
        obtain ⟨w2, hw2⟩ : ∃ w2, w2 = (w.alloc (Obj.cells #[Value.int IntKind.i64 a0_0, Value.slice A0_1 l0_1.length c0_1, Value.slice A0_2 l0_2.length c0_2] 55)).drewN n := ⟨_, rfl⟩
        have hbk := Aside0.mk (show w2.heap[w.heap.size]? = some (Obj.cells #[Value.int IntKind.i64 a0_0, Value.slice A0_1 l0_1.length c0_1, Value.slice A0_2 l0_2.length c0_2] 55) by rw [hw2]; exact heap_alloc_new w _)
        have HB2 := Aside0.mk (show Below w.heap.size w w2 by rw [hw2]; exact pw_below_drewN ((Below.refl _ _).alloc (Nat.le_refl _) _) _)
        rw [← hw2]
        clear hw2
        go_loopg [3, 4, 5, 27] l0_1.length (fun gg _ _ _ s27 wr => ∃ i : Nat, s27 = .int .i64 i ∧ i ≤ l0_1.length ∧ l0_1.length - i ≤ gg ∧ Aside0 (Below w.heap.size w wr) ∧ Aside0 (wr.heap[w.heap.size]? = some (Obj.cells #[Value.int IntKind.i64 a0_0, Value.slice A0_1 l0_1.length c0_1, Value.slice A0_2 l0_2.length c0_2] 55)) ∧ Aside0 (∀ j, j < i → impl_FarmRight.g l0_1 j = true))
        case atStart => exact ⟨0, rfl, Nat.zero_le _, by omega, HB2, hbk, ⟨fun j hj => absurd hj (Nat.not_lt_zero _)⟩⟩
        case round =>
          clear hbk HB2
          obtain ⟨i, rfl, hil, hg, HB, HK, HG⟩ := hrel
          have hk0 := blk_cell HK.out 0
          have hk1 := blk_cell HK.out 1
          have hk2 := blk_cell HK.out 2
          simp only [List.getElem?_toArray, List.getElem?_cons_zero, List.getElem?_cons_succ] at hk0 hk1 hk2
          have hsz : w.heap.size < wr.heap.size := blk_lt HK.out
          by_cases hlt : i < l0_1.length
          · have hltz : (i : Int) < (l0_1.length : Int) := by omega
            obtain ⟨ad1, e, hx0, hx1, hx2, hx3⟩ := at_T80 HR1.out (i : Int) (by omega) (by omega)
            cases e
            replace hx0 := pw_cell_below HB.out hx0
            replace hx1 := pw_cell_below HB.out hx1
            replace hx2 := pw_cell_below HB.out hx2
            replace hx3 := pw_cell_below HB.out hx3
            simp only [Int.toNat_natCast] at hx0 hx1 hx2 hx3
            obtain ⟨y, hy⟩ : ∃ y, y = rd_T80 l0_1 (i : Int) := ⟨_, rfl⟩
            rw [← hy] at hx0 hx1 hx2 hx3
            have HY := Aside0.mk hy
            clear hy
            go_wp2_with fail
            obtain ⟨w3, hw3⟩ : ∃ w3, w3 = (wr.alloc (Obj.cells #[Value.int IntKind.i64 y.f0, Value.int IntKind.i64 y.f1, Value.int IntKind.i64 y.f2, Value.int IntKind.i64 y.f3] 80)).alloc (Obj.cells #[Value.int IntKind.i64 0, Value.slice (some ad1) i c0_1, Value.slice none 0 0] 55) := ⟨_, rfl⟩
            rw [← hw3]
            have hb80 : w3.heap[wr.heap.size]? = some (Obj.cells #[Value.int IntKind.i64 y.f0, Value.int IntKind.i64 y.f1, Value.int IntKind.i64 y.f2, Value.int IntKind.i64 y.f3] 80 (0, 0)) := by rw [hw3]; exact (Below.heap_alloc _ _ _ (by simp)).trans (heap_alloc_new wr _)
            have hb55 : w3.heap[wr.heap.size + 1]? = some (Obj.cells #[Value.int IntKind.i64 0, Value.slice (some ad1) i c0_1, Value.slice none 0 0] 55 (0, 0)) := by
              have := heap_alloc_new (wr.alloc (Obj.cells #[Value.int IntKind.i64 y.f0, Value.int IntKind.i64 y.f1, Value.int IntKind.i64 y.f2, Value.int IntKind.i64 y.f3] 80)) (Obj.cells #[Value.int IntKind.i64 0, Value.slice (some ad1) i c0_1, Value.slice none 0 0] 55)
              rw [← hw3] at this
              simpa using this
            have hB3 : Below wr.heap.size wr w3 := by rw [hw3]; exact ((Below.refl _ _).alloc (Nat.le_refl _) _).alloc (by simp) _
            have HB3 := Aside0.mk (HB.out.trans (hB3.mono (by omega)))
            have HK3 := Aside0.mk ((hB3.block _ hsz).trans HK.out)
            have f80_0 : ∀ p : BW w3, p.W.cell? ⟨wr.heap.size, 0, none⟩ = some (.int .i64 y.f0) := fun p => p.cell (blk_cell hb80 0)
            have f80_1 : ∀ p : BW w3, p.W.cell? ⟨wr.heap.size, 1, none⟩ = some (.int .i64 y.f1) := fun p => p.cell (blk_cell hb80 1)
            have f80_2 : ∀ p : BW w3, p.W.cell? ⟨wr.heap.size, 2, none⟩ = some (.int .i64 y.f2) := fun p => p.cell (blk_cell hb80 2)
            have f80_3 : ∀ p : BW w3, p.W.cell? ⟨wr.heap.size, 3, none⟩ = some (.int .i64 y.f3) := fun p => p.cell (blk_cell hb80 3)
            have f55_0 : ∀ p : BW w3, p.W.cell? ⟨wr.heap.size + 1, 0, none⟩ = some (.int .i64 0) := fun p => p.cell (blk_cell hb55 0)
            have f55_1 : ∀ p : BW w3, p.W.cell? ⟨wr.heap.size + 1, 1, none⟩ = some (.slice (some ad1) i c0_1) := fun p => p.cell (blk_cell hb55 1)
            have f55_2 : ∀ p : BW w3, p.W.cell? ⟨wr.heap.size + 1, 2, none⟩ = some (.slice none 0 0) := fun p => p.cell (blk_cell hb55 2)
            have ff_0 : ∀ p : BW w3, p.W.cell? ⟨w.heap.size, 0, none⟩ = some (.int .i64 a0_0) := fun p => p.cell (blk_cell HK3.out 0)
            have ff_1 : ∀ p : BW w3, p.W.cell? ⟨w.heap.size, 1, none⟩ = some (.slice (some ad1) l0_1.length c0_1) := fun p => p.cell (blk_cell HK3.out 1)
            have ff_2 : ∀ p : BW w3, p.W.cell? ⟨w.heap.size, 2, none⟩ = some (.slice A0_2 l0_2.length c0_2) := fun p => p.cell (blk_cell HK3.out 2)
            have e1 := Aside0.mk (hf_id_eq y.f0)
            have e3 := Aside0.mk (hf_want_eq y.f2)
            have e4 := Aside0.mk (hf_weight_eq y.f3)
            have e2 := Aside0.mk (hf_has_eq 0 (l0_1.take i) [] y.f1 (by simp; omega))
            have hG := Aside0.mk (show impl_FarmRight.g l0_1 i = (hf_id y.f0 && ((decide (i = 0) || decide ((rd_T80 l0_1 ((i - 1 : Nat) : Int)).f0 < y.f0)) && (hf_has (l0_1.take i) y.f1 && (hf_want y.f2 && hf_weight y.f3)))) by rw [HY.out]; rfl)
            clear hw3 hb80 hb55 hB3 hx0 hx1 hx2 hx3 hk0 hk1 hk2
            have hti := Aside0.mk (show (l0_1.take i).length = i by simp; omega)
            have hCi := Aside0.mk (show Kd.C k80 w (some ad1) (l0_1.take i).length (l0_1.take i) from Kd.C_take HR1.out (by omega))
            cases c1 : hf_id y.f0 with
            | false =>
              rw [c1] at e1 hG
              have C1 := Aside0.mk c1
              clear c1
              refine wp_region_bw (by kernel_rfl) (by kernel_rfl) ?_
              repeat (go_big_quiet_step (first | (go_at_call 68; exact Calls.bwd (impl_isId.calls _ _ _ e1.out)) | (go_at_call 59; exact Calls.bwd (impl_isWant.calls _ _ _ e3.out)) | (go_at_call 70; exact Calls.bwd (impl_isWeight.calls _ _ _ e4.out)) | (go_at_call 69; exact Calls.bw (calls_of_args (by rw [hti.out]; rfl) (impl_Farm_hasGroup.calls 0 (some ad1) c0_1 (l0_1.take i) none 0 [] _ _ _ (Kd.C_below (Kd.C_below hCi.out HB3.out) (BW.h _)) (by rw [hti.out]; have := HC1.out; omega) (Kd.C_nil _ _) (Nat.le_refl _) e2.out)))))
              refine wpQuiet_nil ?_
              intro _ hw'
              obtain ⟨⟨w4, hb4⟩, hw''⟩ := hw'
              subst hw''
              have HB4 := Aside0.mk (below_then HB3.out HB3.out.size hb4)
              have HK4 := Aside0.mk ((hb4.block _ (blk_lt HK3.out)).trans HK3.out)
              clear hb4
              go_wp2
              go_ret
              exact ⟨by rw [← H.out, all_range_false hlt (by rw [hG.out]; simp)]; rfl, HB4.out⟩
            | true =>
              rw [c1] at e1 hG
              have C1 := Aside0.mk c1
              clear c1
              by_cases hi0 : i = 0
              · have hi1 : decide (0 < i) = false := decide_eq_false (by omega)
                rw [show decide (i = 0) = true from decide_eq_true hi0] at hG
                have HI0 := Aside0.mk hi0
                clear hi0
                cases c3 : hf_has (l0_1.take i) y.f1 with
                | false =>
                  rw [c3] at e2 hG
                  have C3 := Aside0.mk c3
                  clear c3
                  refine wp_region_bw (by kernel_rfl) (by kernel_rfl) ?_
                  repeat (go_big_quiet_step (first | (go_at_call 68; exact Calls.bwd (impl_isId.calls _ _ _ e1.out)) | (go_at_call 59; exact Calls.bwd (impl_isWant.calls _ _ _ e3.out)) | (go_at_call 70; exact Calls.bwd (impl_isWeight.calls _ _ _ e4.out)) | (go_at_call 69; exact Calls.bw (calls_of_args (by rw [hti.out]; rfl) (impl_Farm_hasGroup.calls 0 (some ad1) c0_1 (l0_1.take i) none 0 [] _ _ _ (Kd.C_below (Kd.C_below hCi.out HB3.out) (BW.h _)) (by rw [hti.out]; have := HC1.out; omega) (Kd.C_nil _ _) (Nat.le_refl _) e2.out)))))
                  refine wpQuiet_nil ?_
                  intro _ hw'
                  obtain ⟨⟨w4, hb4⟩, hw''⟩ := hw'
                  subst hw''
                  have HB4 := Aside0.mk (below_then HB3.out HB3.out.size hb4)
                  have HK4 := Aside0.mk ((hb4.block _ (blk_lt HK3.out)).trans HK3.out)
                  clear hb4
                  go_wp2
                  go_ret
                  exact ⟨by rw [← H.out, all_range_false hlt (by rw [hG.out]; simp)]; rfl, HB4.out⟩
                | true =>
                  rw [c3] at e2 hG
                  have C3 := Aside0.mk c3
                  clear c3
                  cases c4 : hf_want y.f2 with
                  | false =>
                    rw [c4] at e3 hG
                    have C4 := Aside0.mk c4
                    clear c4
                    refine wp_region_bw (by kernel_rfl) (by kernel_rfl) ?_
                    repeat (go_big_quiet_step (first | (go_at_call 68; exact Calls.bwd (impl_isId.calls _ _ _ e1.out)) | (go_at_call 59; exact Calls.bwd (impl_isWant.calls _ _ _ e3.out)) | (go_at_call 70; exact Calls.bwd (impl_isWeight.calls _ _ _ e4.out)) | (go_at_call 69; exact Calls.bw (calls_of_args (by rw [hti.out]; rfl) (impl_Farm_hasGroup.calls 0 (some ad1) c0_1 (l0_1.take i) none 0 [] _ _ _ (Kd.C_below (Kd.C_below hCi.out HB3.out) (BW.h _)) (by rw [hti.out]; have := HC1.out; omega) (Kd.C_nil _ _) (Nat.le_refl _) e2.out)))))
                    refine wpQuiet_nil ?_
                    intro _ hw'
                    obtain ⟨⟨w4, hb4⟩, hw''⟩ := hw'
                    subst hw''
                    have HB4 := Aside0.mk (below_then HB3.out HB3.out.size hb4)
                    have HK4 := Aside0.mk ((hb4.block _ (blk_lt HK3.out)).trans HK3.out)
                    clear hb4
                    go_wp2
                    go_ret
                    exact ⟨by rw [← H.out, all_range_false hlt (by rw [hG.out]; simp)]; rfl, HB4.out⟩
                  | true =>
                    rw [c4] at e3 hG
                    have C4 := Aside0.mk c4
                    clear c4
                    cases c5 : hf_weight y.f3 with
                    | false =>
                      rw [c5] at e4 hG
                      have C5 := Aside0.mk c5
                      clear c5
                      refine wp_region_bw (by kernel_rfl) (by kernel_rfl) ?_
                      repeat (go_big_quiet_step (first | (go_at_call 68; exact Calls.bwd (impl_isId.calls _ _ _ e1.out)) | (go_at_call 59; exact Calls.bwd (impl_isWant.calls _ _ _ e3.out)) | (go_at_call 70; exact Calls.bwd (impl_isWeight.calls _ _ _ e4.out)) | (go_at_call 69; exact Calls.bw (calls_of_args (by rw [hti.out]; rfl) (impl_Farm_hasGroup.calls 0 (some ad1) c0_1 (l0_1.take i) none 0 [] _ _ _ (Kd.C_below (Kd.C_below hCi.out HB3.out) (BW.h _)) (by rw [hti.out]; have := HC1.out; omega) (Kd.C_nil _ _) (Nat.le_refl _) e2.out)))))
                      refine wpQuiet_nil ?_
                      intro _ hw'
                      obtain ⟨⟨w4, hb4⟩, hw''⟩ := hw'
                      subst hw''
                      have HB4 := Aside0.mk (below_then HB3.out HB3.out.size hb4)
                      have HK4 := Aside0.mk ((hb4.block _ (blk_lt HK3.out)).trans HK3.out)
                      clear hb4
                      go_wp2
                      go_ret
                      exact ⟨by rw [← H.out, all_range_false hlt (by rw [hG.out]; simp)]; rfl, HB4.out⟩
                    | true =>
                      rw [c5] at e4 hG
                      have C5 := Aside0.mk c5
                      clear c5
                      refine wp_region_bw (by kernel_rfl) (by kernel_rfl) ?_
                      repeat (go_big_quiet_step (first | (go_at_call 68; exact Calls.bwd (impl_isId.calls _ _ _ e1.out)) | (go_at_call 59; exact Calls.bwd (impl_isWant.calls _ _ _ e3.out)) | (go_at_call 70; exact Calls.bwd (impl_isWeight.calls _ _ _ e4.out)) | (go_at_call 69; exact Calls.bw (calls_of_args (by rw [hti.out]; rfl) (impl_Farm_hasGroup.calls 0 (some ad1) c0_1 (l0_1.take i) none 0 [] _ _ _ (Kd.C_below (Kd.C_below hCi.out HB3.out) (BW.h _)) (by rw [hti.out]; have := HC1.out; omega) (Kd.C_nil _ _) (Nat.le_refl _) e2.out)))))
                      refine wpQuiet_nil ?_
                      intro _ hw'
                      obtain ⟨⟨w4, hb4⟩, hw''⟩ := hw'
                      subst hw''
                      have HB4 := Aside0.mk (below_then HB3.out HB3.out.size hb4)
                      have HK4 := Aside0.mk ((hb4.block _ (blk_lt HK3.out)).trans HK3.out)
                      clear hb4
                      go_wp2
                      go_roundg (l0_1.length - (i + 1))
                      case measure => omega
                      case rel => exact ⟨i + 1, by go_num, by omega, by omega, HB4, HK4, ⟨fun j hj => by
                        by_cases e : j = i
                        · rw [e, hG.out]; simp
                        · exact HG.out j (by omega)⟩⟩
              · have hi1 : decide (0 < i) = true := decide_eq_true (by omega)
                have hi2 : 0 < i := by omega
                have hi3 : (0 : Int) ≤ (i : Int) - 1 := by omega
                have hi4 : (i : Int) - 1 < (l0_1.length : Int) := by omega
                obtain ⟨ad', e', hp0, _⟩ := at_T80 HR1.out ((i : Int) - 1) hi3 hi4
                cases e'
                rw [show ((i : Int) - 1).toNat = i - 1 by omega] at hp0
                have fp := fun p : BW w3 => p.cell (pw_cell_below HB3.out hp0)
                rw [show decide (i = 0) = false from decide_eq_false hi0, show rd_T80 l0_1 ((i - 1 : Nat) : Int) = rd_T80 l0_1 ((i : Int) - 1) by congr 1; omega] at hG
                clear hp0 hi0
                generalize (rd_T80 l0_1 ((i : Int) - 1)).f0 = pv at fp hG
                by_cases hpv : pv < y.f0
                · have hpv1 : decide (pv ≥ y.f0) = false := decide_eq_false (by omega)
                  have hpv2 : decide (y.f0 ≤ pv) = false := decide_eq_false (by omega)
                  rw [show decide (pv < y.f0) = true from decide_eq_true hpv] at hG
                  clear hpv
                  cases c3 : hf_has (l0_1.take i) y.f1 with
                  | false =>
                    rw [c3] at e2 hG
                    have C3 := Aside0.mk c3
                    clear c3
                    refine wp_region_bw (by kernel_rfl) (by kernel_rfl) ?_
                    repeat (go_big_quiet_step (first | (go_at_call 68; exact Calls.bwd (impl_isId.calls _ _ _ e1.out)) | (go_at_call 59; exact Calls.bwd (impl_isWant.calls _ _ _ e3.out)) | (go_at_call 70; exact Calls.bwd (impl_isWeight.calls _ _ _ e4.out)) | (go_at_call 69; exact Calls.bw (calls_of_args (by rw [hti.out]; rfl) (impl_Farm_hasGroup.calls 0 (some ad1) c0_1 (l0_1.take i) none 0 [] _ _ _ (Kd.C_below (Kd.C_below hCi.out HB3.out) (BW.h _)) (by rw [hti.out]; have := HC1.out; omega) (Kd.C_nil _ _) (Nat.le_refl _) e2.out)))))
                    refine wpQuiet_nil ?_
                    intro _ hw'
                    obtain ⟨⟨w4, hb4⟩, hw''⟩ := hw'
                    subst hw''
                    have HB4 := Aside0.mk (below_then HB3.out HB3.out.size hb4)
                    have HK4 := Aside0.mk ((hb4.block _ (blk_lt HK3.out)).trans HK3.out)
                    clear hb4
                    go_wp2
                    go_ret
                    exact ⟨by rw [← H.out, all_range_false hlt (by rw [hG.out]; simp)]; rfl, HB4.out⟩
                  | true =>
                    rw [c3] at e2 hG
                    have C3 := Aside0.mk c3
                    clear c3
                    cases c4 : hf_want y.f2 with
                    | false =>
                      rw [c4] at e3 hG
                      have C4 := Aside0.mk c4
                      clear c4
                      refine wp_region_bw (by kernel_rfl) (by kernel_rfl) ?_
                      repeat (go_big_quiet_step (first | (go_at_call 68; exact Calls.bwd (impl_isId.calls _ _ _ e1.out)) | (go_at_call 59; exact Calls.bwd (impl_isWant.calls _ _ _ e3.out)) | (go_at_call 70; exact Calls.bwd (impl_isWeight.calls _ _ _ e4.out)) | (go_at_call 69; exact Calls.bw (calls_of_args (by rw [hti.out]; rfl) (impl_Farm_hasGroup.calls 0 (some ad1) c0_1 (l0_1.take i) none 0 [] _ _ _ (Kd.C_below (Kd.C_below hCi.out HB3.out) (BW.h _)) (by rw [hti.out]; have := HC1.out; omega) (Kd.C_nil _ _) (Nat.le_refl _) e2.out)))))
                      refine wpQuiet_nil ?_
                      intro _ hw'
                      obtain ⟨⟨w4, hb4⟩, hw''⟩ := hw'
                      subst hw''
                      have HB4 := Aside0.mk (below_then HB3.out HB3.out.size hb4)
                      have HK4 := Aside0.mk ((hb4.block _ (blk_lt HK3.out)).trans HK3.out)
                      clear hb4
                      go_wp2
                      go_ret
                      exact ⟨by rw [← H.out, all_range_false hlt (by rw [hG.out]; simp)]; rfl, HB4.out⟩
                    | true =>
                      rw [c4] at e3 hG
                      have C4 := Aside0.mk c4
                      clear c4
                      cases c5 : hf_weight y.f3 with
                      | false =>
                        rw [c5] at e4 hG
                        have C5 := Aside0.mk c5
                        clear c5
                        refine wp_region_bw (by kernel_rfl) (by kernel_rfl) ?_
                        repeat (go_big_quiet_step (first | (go_at_call 68; exact Calls.bwd (impl_isId.calls _ _ _ e1.out)) | (go_at_call 59; exact Calls.bwd (impl_isWant.calls _ _ _ e3.out)) | (go_at_call 70; exact Calls.bwd (impl_isWeight.calls _ _ _ e4.out)) | (go_at_call 69; exact Calls.bw (calls_of_args (by rw [hti.out]; rfl) (impl_Farm_hasGroup.calls 0 (some ad1) c0_1 (l0_1.take i) none 0 [] _ _ _ (Kd.C_below (Kd.C_below hCi.out HB3.out) (BW.h _)) (by rw [hti.out]; have := HC1.out; omega) (Kd.C_nil _ _) (Nat.le_refl _) e2.out)))))
                        refine wpQuiet_nil ?_
                        intro _ hw'
                        obtain ⟨⟨w4, hb4⟩, hw''⟩ := hw'
                        subst hw''
                        have HB4 := Aside0.mk (below_then HB3.out HB3.out.size hb4)
                        have HK4 := Aside0.mk ((hb4.block _ (blk_lt HK3.out)).trans HK3.out)
                        clear hb4
                        go_wp2
                        go_ret
                        exact ⟨by rw [← H.out, all_range_false hlt (by rw [hG.out]; simp)]; rfl, HB4.out⟩
                      | true =>
                        rw [c5] at e4 hG
                        have C5 := Aside0.mk c5
                        clear c5
                        refine wp_region_bw (by kernel_rfl) (by kernel_rfl) ?_
                        repeat (go_big_quiet_step (first | (go_at_call 68; exact Calls.bwd (impl_isId.calls _ _ _ e1.out)) | (go_at_call 59; exact Calls.bwd (impl_isWant.calls _ _ _ e3.out)) | (go_at_call 70; exact Calls.bwd (impl_isWeight.calls _ _ _ e4.out)) | (go_at_call 69; exact Calls.bw (calls_of_args (by rw [hti.out]; rfl) (impl_Farm_hasGroup.calls 0 (some ad1) c0_1 (l0_1.take i) none 0 [] _ _ _ (Kd.C_below (Kd.C_below hCi.out HB3.out) (BW.h _)) (by rw [hti.out]; have := HC1.out; omega) (Kd.C_nil _ _) (Nat.le_refl _) e2.out)))))
                        refine wpQuiet_nil ?_
                        intro _ hw'
                        obtain ⟨⟨w4, hb4⟩, hw''⟩ := hw'
                        subst hw''
                        have HB4 := Aside0.mk (below_then HB3.out HB3.out.size hb4)
                        have HK4 := Aside0.mk ((hb4.block _ (blk_lt HK3.out)).trans HK3.out)
                        clear hb4
                        go_wp2
                        go_roundg (l0_1.length - (i + 1))
                        case measure => omega
                        case rel => exact ⟨i + 1, by go_num, by omega, by omega, HB4, HK4, ⟨fun j hj => by
                          by_cases e : j = i
                          · rw [e, hG.out]; simp
                          · exact HG.out j (by omega)⟩⟩
                · have hpv1 : decide (pv ≥ y.f0) = true := decide_eq_true (by omega)
                  have hpv2 : decide (y.f0 ≤ pv) = true := decide_eq_true (by omega)
                  rw [show decide (pv < y.f0) = false from decide_eq_false hpv] at hG
                  clear hpv
                  refine wp_region_bw (by kernel_rfl) (by kernel_rfl) ?_
                  repeat (go_big_quiet_step (first | (go_at_call 68; exact Calls.bwd (impl_isId.calls _ _ _ e1.out)) | (go_at_call 59; exact Calls.bwd (impl_isWant.calls _ _ _ e3.out)) | (go_at_call 70; exact Calls.bwd (impl_isWeight.calls _ _ _ e4.out)) | (go_at_call 69; exact Calls.bw (calls_of_args (by rw [hti.out]; rfl) (impl_Farm_hasGroup.calls 0 (some ad1) c0_1 (l0_1.take i) none 0 [] _ _ _ (Kd.C_below (Kd.C_below hCi.out HB3.out) (BW.h _)) (by rw [hti.out]; have := HC1.out; omega) (Kd.C_nil _ _) (Nat.le_refl _) e2.out)))))
                  refine wpQuiet_nil ?_
                  intro _ hw'
                  obtain ⟨⟨w4, hb4⟩, hw''⟩ := hw'
                  subst hw''
                  have HB4 := Aside0.mk (below_then HB3.out HB3.out.size hb4)
                  have HK4 := Aside0.mk ((hb4.block _ (blk_lt HK3.out)).trans HK3.out)
                  clear hb4
                  go_wp2
                  go_ret
                  exact ⟨by rw [← H.out, all_range_false hlt (by rw [hG.out]; simp)]; rfl, HB4.out⟩
          · have hie : i = l0_1.length := by omega
            subst hie
            have hltz : ¬ (l0_1.length : Int) < (l0_1.length : Int) := by omega
            go_wp2_with fail
            replace H := Aside0.mk (show ((List.range l0_2.length).all (impl_FarmRight.m l0_1 l0_2)) = r by rw [← H.out, all_range_true HG.out]; rfl)
            clear HG hk0 hk1 hk2 hltz hg
            go_loopg [6, 7, 80] l0_2.length (fun gg _ _ s27 wr => ∃ i : Nat, s27 = .int .i64 i ∧ i ≤ l0_2.length ∧ l0_2.length - i ≤ gg ∧ Aside0 (Below w.heap.size w wr) ∧ Aside0 (wr.heap[w.heap.size]? = some (Obj.cells #[Value.int IntKind.i64 a0_0, Value.slice A0_1 l0_1.length c0_1, Value.slice A0_2 l0_2.length c0_2] 55)) ∧ Aside0 (∀ j, j < i → impl_FarmRight.m l0_1 l0_2 j = true))
            case atStart => exact ⟨0, rfl, Nat.zero_le _, by omega, HB, HK, ⟨fun j hj => absurd hj (Nat.not_lt_zero _)⟩⟩
            case round =>
              clear HB HK hsz
              obtain ⟨i, rfl, hil, hg, HB, HK, HG⟩ := hrel
              have hk0 := blk_cell HK.out 0
              have hk1 := blk_cell HK.out 1
              have hk2 := blk_cell HK.out 2
              simp only [List.getElem?_toArray, List.getElem?_cons_zero, List.getElem?_cons_succ] at hk0 hk1 hk2
              have hsz : w.heap.size < wr.heap.size := blk_lt HK.out
              by_cases hlt : i < l0_2.length
              · have hltz : (i : Int) < (l0_2.length : Int) := by omega
                obtain ⟨ad2, e, hx0, hx1, hx2, hx3⟩ := at_T83 HR2.out (i : Int) (by omega) (by omega)
                cases e
                replace hx0 := pw_cell_below HB.out hx0
                replace hx1 := pw_cell_below HB.out hx1
                replace hx2 := pw_cell_below HB.out hx2
                replace hx3 := pw_cell_below HB.out hx3
                simp only [Int.toNat_natCast] at hx0 hx1 hx2 hx3
                obtain ⟨y, hy⟩ : ∃ y, y = rd_T83 l0_2 (i : Int) := ⟨_, rfl⟩
                rw [← hy] at hx0 hx1 hx2 hx3
                have HY := Aside0.mk hy
                clear hy
                go_wp2_with fail
                obtain ⟨w3, hw3⟩ : ∃ w3, w3 = wr.alloc (Obj.cells #[Value.int IntKind.i64 y.f0, Value.int IntKind.i64 y.f1, Value.int IntKind.i64 y.f2, Value.int IntKind.i64 y.f3] 83) := ⟨_, rfl⟩
                rw [← hw3]
                have hb80 : w3.heap[wr.heap.size]? = some (Obj.cells #[Value.int IntKind.i64 y.f0, Value.int IntKind.i64 y.f1, Value.int IntKind.i64 y.f2, Value.int IntKind.i64 y.f3] 83 (0, 0)) := by rw [hw3]; exact heap_alloc_new wr _
                have hB3 : Below wr.heap.size wr w3 := by rw [hw3]; exact (Below.refl _ _).alloc (Nat.le_refl _) _
                have HB3 := Aside0.mk (HB.out.trans (hB3.mono (by omega)))
                have HK3 := Aside0.mk ((hB3.block _ hsz).trans HK.out)
                have f80_0 : ∀ p : BW w3, p.W.cell? ⟨wr.heap.size, 0, none⟩ = some (.int .i64 y.f0) := fun p => p.cell (blk_cell hb80 0)
                have f80_1 : ∀ p : BW w3, p.W.cell? ⟨wr.heap.size, 1, none⟩ = some (.int .i64 y.f1) := fun p => p.cell (blk_cell hb80 1)
                have f80_2 : ∀ p : BW w3, p.W.cell? ⟨wr.heap.size, 2, none⟩ = some (.int .i64 y.f2) := fun p => p.cell (blk_cell hb80 2)
                have f80_3 : ∀ p : BW w3, p.W.cell? ⟨wr.heap.size, 3, none⟩ = some (.int .i64 y.f3) := fun p => p.cell (blk_cell hb80 3)
                have ff_0 : ∀ p : BW w3, p.W.cell? ⟨w.heap.size, 0, none⟩ = some (.int .i64 a0_0) := fun p => p.cell (blk_cell HK3.out 0)
                have ff_1 : ∀ p : BW w3, p.W.cell? ⟨w.heap.size, 1, none⟩ = some (.slice A0_1 l0_1.length c0_1) := fun p => p.cell (blk_cell HK3.out 1)
                have ff_2 : ∀ p : BW w3, p.W.cell? ⟨w.heap.size, 2, none⟩ = some (.slice (some ad2) l0_2.length c0_2) := fun p => p.cell (blk_cell HK3.out 2)
                have e1 := Aside0.mk (hf_id_eq y.f0)
                have e3 := Aside0.mk (hf_want_eq y.f2)
                have e4 := Aside0.mk (hf_weight_eq y.f3)
                have e2 := Aside0.mk (hf_has_eq a0_0 l0_1 l0_2 y.f1 (by omega))
                have hG := Aside0.mk (show impl_FarmRight.m l0_1 l0_2 i = (hf_id y.f0 && ((decide (i = 0) || decide ((rd_T83 l0_2 ((i - 1 : Nat) : Int)).f0 < y.f0)) && (hf_has l0_1 y.f1 && (hf_want y.f2 && hf_weight y.f3)))) by rw [HY.out]; rfl)
                clear hw3 hb80 hB3 hx0 hx1 hx2 hx3 hk0 hk1 hk2
                cases c1 : hf_id y.f0 with
                | false =>
                  rw [c1] at e1 hG
                  have C1 := Aside0.mk c1
                  clear c1
                  refine wp_region_bw (by kernel_rfl) (by kernel_rfl) ?_
                  repeat (go_big_quiet_step (first | (go_at_call 68; exact Calls.bwd (impl_isId.calls _ _ _ e1.out)) | (go_at_call 59; exact Calls.bwd (impl_isWant.calls _ _ _ e3.out)) | (go_at_call 70; exact Calls.bwd (impl_isWeight.calls _ _ _ e4.out)) | (go_at_call 69; exact Calls.bw (impl_Farm_hasGroup.calls a0_0 A0_1 c0_1 l0_1 (some ad2) c0_2 l0_2 _ _ _ (Kd.C_below (Kd.C_below HR1.out HB3.out) (BW.h _)) HC1.out (Kd.C_below (Kd.C_below HR2.out HB3.out) (BW.h _)) HC2.out e2.out))))
                  refine wpQuiet_nil ?_
                  intro _ hw'
                  obtain ⟨⟨w4, hb4⟩, hw''⟩ := hw'
                  subst hw''
                  have HB4 := Aside0.mk (below_then HB3.out HB3.out.size hb4)
                  have HK4 := Aside0.mk ((hb4.block _ (blk_lt HK3.out)).trans HK3.out)
                  clear hb4
                  go_wp2
                  go_ret
                  exact ⟨by rw [← H.out, all_range_false hlt (by rw [hG.out]; simp)]; simp, HB4.out⟩
                | true =>
                  rw [c1] at e1 hG
                  have C1 := Aside0.mk c1
                  clear c1
                  by_cases hi0 : i = 0
                  · have hi1 : decide (0 < i) = false := decide_eq_false (by omega)
                    rw [show decide (i = 0) = true from decide_eq_true hi0] at hG
                    have HI0 := Aside0.mk hi0
                    clear hi0
                    cases c3 : hf_has l0_1 y.f1 with
                    | false =>
                      rw [c3] at e2 hG
                      have C3 := Aside0.mk c3
                      clear c3
                      refine wp_region_bw (by kernel_rfl) (by kernel_rfl) ?_
                      repeat (go_big_quiet_step (first | (go_at_call 68; exact Calls.bwd (impl_isId.calls _ _ _ e1.out)) | (go_at_call 59; exact Calls.bwd (impl_isWant.calls _ _ _ e3.out)) | (go_at_call 70; exact Calls.bwd (impl_isWeight.calls _ _ _ e4.out)) | (go_at_call 69; exact Calls.bw (impl_Farm_hasGroup.calls a0_0 A0_1 c0_1 l0_1 (some ad2) c0_2 l0_2 _ _ _ (Kd.C_below (Kd.C_below HR1.out HB3.out) (BW.h _)) HC1.out (Kd.C_below (Kd.C_below HR2.out HB3.out) (BW.h _)) HC2.out e2.out))))
                      refine wpQuiet_nil ?_
                      intro _ hw'
                      obtain ⟨⟨w4, hb4⟩, hw''⟩ := hw'
                      subst hw''
                      have HB4 := Aside0.mk (below_then HB3.out HB3.out.size hb4)
                      have HK4 := Aside0.mk ((hb4.block _ (blk_lt HK3.out)).trans HK3.out)
                      clear hb4
                      go_wp2
                      go_ret
                      exact ⟨by rw [← H.out, all_range_false hlt (by rw [hG.out]; simp)]; simp, HB4.out⟩
                    | true =>
                      rw [c3] at e2 hG
                      have C3 := Aside0.mk c3
                      clear c3
                      cases c4 : hf_want y.f2 with
                      | false =>
                        rw [c4] at e3 hG
                        have C4 := Aside0.mk c4
                        clear c4
                        refine wp_region_bw (by kernel_rfl) (by kernel_rfl) ?_
                        repeat (go_big_quiet_step (first | (go_at_call 68; exact Calls.bwd (impl_isId.calls _ _ _ e1.out)) | (go_at_call 59; exact Calls.bwd (impl_isWant.calls _ _ _ e3.out)) | (go_at_call 70; exact Calls.bwd (impl_isWeight.calls _ _ _ e4.out)) | (go_at_call 69; exact Calls.bw (impl_Farm_hasGroup.calls a0_0 A0_1 c0_1 l0_1 (some ad2) c0_2 l0_2 _ _ _ (Kd.C_below (Kd.C_below HR1.out HB3.out) (BW.h _)) HC1.out (Kd.C_below (Kd.C_below HR2.out HB3.out) (BW.h _)) HC2.out e2.out))))
                        refine wpQuiet_nil ?_
                        intro _ hw'
                        obtain ⟨⟨w4, hb4⟩, hw''⟩ := hw'
                        subst hw''
                        have HB4 := Aside0.mk (below_then HB3.out HB3.out.size hb4)
                        have HK4 := Aside0.mk ((hb4.block _ (blk_lt HK3.out)).trans HK3.out)
                        clear hb4
                        go_wp2
                        go_ret
                        exact ⟨by rw [← H.out, all_range_false hlt (by rw [hG.out]; simp)]; simp, HB4.out⟩
                      | true =>
                        rw [c4] at e3 hG
                        have C4 := Aside0.mk c4
                        clear c4
                        cases c5 : hf_weight y.f3 with
                        | false =>
                          rw [c5] at e4 hG
                          have C5 := Aside0.mk c5
                          clear c5
                          refine wp_region_bw (by kernel_rfl) (by kernel_rfl) ?_
                          repeat (go_big_quiet_step (first | (go_at_call 68; exact Calls.bwd (impl_isId.calls _ _ _ e1.out)) | (go_at_call 59; exact Calls.bwd (impl_isWant.calls _ _ _ e3.out)) | (go_at_call 70; exact Calls.bwd (impl_isWeight.calls _ _ _ e4.out)) | (go_at_call 69; exact Calls.bw (impl_Farm_hasGroup.calls a0_0 A0_1 c0_1 l0_1 (some ad2) c0_2 l0_2 _ _ _ (Kd.C_below (Kd.C_below HR1.out HB3.out) (BW.h _)) HC1.out (Kd.C_below (Kd.C_below HR2.out HB3.out) (BW.h _)) HC2.out e2.out))))
                          refine wpQuiet_nil ?_
                          intro _ hw'
                          obtain ⟨⟨w4, hb4⟩, hw''⟩ := hw'
                          subst hw''
                          have HB4 := Aside0.mk (below_then HB3.out HB3.out.size hb4)
                          have HK4 := Aside0.mk ((hb4.block _ (blk_lt HK3.out)).trans HK3.out)
                          clear hb4
                          go_wp2
                          go_ret
                          exact ⟨by rw [← H.out, all_range_false hlt (by rw [hG.out]; simp)]; simp, HB4.out⟩
                        | true =>
                          rw [c5] at e4 hG
                          have C5 := Aside0.mk c5
                          clear c5
                          refine wp_region_bw (by kernel_rfl) (by kernel_rfl) ?_
                          repeat (go_big_quiet_step (first | (go_at_call 68; exact Calls.bwd (impl_isId.calls _ _ _ e1.out)) | (go_at_call 59; exact Calls.bwd (impl_isWant.calls _ _ _ e3.out)) | (go_at_call 70; exact Calls.bwd (impl_isWeight.calls _ _ _ e4.out)) | (go_at_call 69; exact Calls.bw (impl_Farm_hasGroup.calls a0_0 A0_1 c0_1 l0_1 (some ad2) c0_2 l0_2 _ _ _ (Kd.C_below (Kd.C_below HR1.out HB3.out) (BW.h _)) HC1.out (Kd.C_below (Kd.C_below HR2.out HB3.out) (BW.h _)) HC2.out e2.out))))
                          refine wpQuiet_nil ?_
                          intro _ hw'
                          obtain ⟨⟨w4, hb4⟩, hw''⟩ := hw'
                          subst hw''
                          have HB4 := Aside0.mk (below_then HB3.out HB3.out.size hb4)
                          have HK4 := Aside0.mk ((hb4.block _ (blk_lt HK3.out)).trans HK3.out)
                          clear hb4
                          go_wp2
                          go_roundg (l0_2.length - (i + 1))
                          case measure => omega
                          case rel => exact ⟨i + 1, by go_num, by omega, by omega, HB4, HK4, ⟨fun j hj => by
                            by_cases e : j = i
                            · rw [e, hG.out]; simp
                            · exact HG.out j (by omega)⟩⟩
                  · have hi1 : decide (0 < i) = true := decide_eq_true (by omega)
                    have hi2 : 0 < i := by omega
                    have hi3 : (0 : Int) ≤ (i : Int) - 1 := by omega
                    have hi4 : (i : Int) - 1 < (l0_2.length : Int) := by omega
                    obtain ⟨ad', e', hp0, _⟩ := at_T83 HR2.out ((i : Int) - 1) hi3 hi4
                    cases e'
                    rw [show ((i : Int) - 1).toNat = i - 1 by omega] at hp0
                    have fp := fun p : BW w3 => p.cell (pw_cell_below HB3.out hp0)
                    rw [show decide (i = 0) = false from decide_eq_false hi0, show rd_T83 l0_2 ((i - 1 : Nat) : Int) = rd_T83 l0_2 ((i : Int) - 1) by congr 1; omega] at hG
                    clear hp0 hi0
                    generalize (rd_T83 l0_2 ((i : Int) - 1)).f0 = pv at fp hG
                    by_cases hpv : pv < y.f0
                    · have hpv1 : decide (pv ≥ y.f0) = false := decide_eq_false (by omega)
                      have hpv2 : decide (y.f0 ≤ pv) = false := decide_eq_false (by omega)
                      rw [show decide (pv < y.f0) = true from decide_eq_true hpv] at hG
                      clear hpv
                      cases c3 : hf_has l0_1 y.f1 with
                      | false =>
                        rw [c3] at e2 hG
                        have C3 := Aside0.mk c3
                        clear c3
                        refine wp_region_bw (by kernel_rfl) (by kernel_rfl) ?_
                        repeat (go_big_quiet_step (first | (go_at_call 68; exact Calls.bwd (impl_isId.calls _ _ _ e1.out)) | (go_at_call 59; exact Calls.bwd (impl_isWant.calls _ _ _ e3.out)) | (go_at_call 70; exact Calls.bwd (impl_isWeight.calls _ _ _ e4.out)) | (go_at_call 69; exact Calls.bw (impl_Farm_hasGroup.calls a0_0 A0_1 c0_1 l0_1 (some ad2) c0_2 l0_2 _ _ _ (Kd.C_below (Kd.C_below HR1.out HB3.out) (BW.h _)) HC1.out (Kd.C_below (Kd.C_below HR2.out HB3.out) (BW.h _)) HC2.out e2.out))))
                        refine wpQuiet_nil ?_
                        intro _ hw'
                        obtain ⟨⟨w4, hb4⟩, hw''⟩ := hw'
                        subst hw''
                        have HB4 := Aside0.mk (below_then HB3.out HB3.out.size hb4)
                        have HK4 := Aside0.mk ((hb4.block _ (blk_lt HK3.out)).trans HK3.out)
                        clear hb4
                        go_wp2
                        go_ret
                        exact ⟨by rw [← H.out, all_range_false hlt (by rw [hG.out]; simp)]; simp, HB4.out⟩
                      | true =>
                        rw [c3] at e2 hG
                        have C3 := Aside0.mk c3
                        clear c3
                        cases c4 : hf_want y.f2 with
                        | false =>
                          rw [c4] at e3 hG
                          have C4 := Aside0.mk c4
                          clear c4
                          refine wp_region_bw (by kernel_rfl) (by kernel_rfl) ?_
                          repeat (go_big_quiet_step (first | (go_at_call 68; exact Calls.bwd (impl_isId.calls _ _ _ e1.out)) | (go_at_call 59; exact Calls.bwd (impl_isWant.calls _ _ _ e3.out)) | (go_at_call 70; exact Calls.bwd (impl_isWeight.calls _ _ _ e4.out)) | (go_at_call 69; exact Calls.bw (impl_Farm_hasGroup.calls a0_0 A0_1 c0_1 l0_1 (some ad2) c0_2 l0_2 _ _ _ (Kd.C_below (Kd.C_below HR1.out HB3.out) (BW.h _)) HC1.out (Kd.C_below (Kd.C_below HR2.out HB3.out) (BW.h _)) HC2.out e2.out))))
                          refine wpQuiet_nil ?_
                          intro _ hw'
                          obtain ⟨⟨w4, hb4⟩, hw''⟩ := hw'
                          subst hw''
                          have HB4 := Aside0.mk (below_then HB3.out HB3.out.size hb4)
                          have HK4 := Aside0.mk ((hb4.block _ (blk_lt HK3.out)).trans HK3.out)
                          clear hb4
                          go_wp2
                          go_ret
                          exact ⟨by rw [← H.out, all_range_false hlt (by rw [hG.out]; simp)]; simp, HB4.out⟩
                        | true =>
                          rw [c4] at e3 hG
                          have C4 := Aside0.mk c4
                          clear c4
                          cases c5 : hf_weight y.f3 with
                          | false =>
                            rw [c5] at e4 hG
                            have C5 := Aside0.mk c5
                            clear c5
                            refine wp_region_bw (by kernel_rfl) (by kernel_rfl) ?_
                            repeat (go_big_quiet_step (first | (go_at_call 68; exact Calls.bwd (impl_isId.calls _ _ _ e1.out)) | (go_at_call 59; exact Calls.bwd (impl_isWant.calls _ _ _ e3.out)) | (go_at_call 70; exact Calls.bwd (impl_isWeight.calls _ _ _ e4.out)) | (go_at_call 69; exact Calls.bw (impl_Farm_hasGroup.calls a0_0 A0_1 c0_1 l0_1 (some ad2) c0_2 l0_2 _ _ _ (Kd.C_below (Kd.C_below HR1.out HB3.out) (BW.h _)) HC1.out (Kd.C_below (Kd.C_below HR2.out HB3.out) (BW.h _)) HC2.out e2.out))))
                            refine wpQuiet_nil ?_
                            intro _ hw'
                            obtain ⟨⟨w4, hb4⟩, hw''⟩ := hw'
                            subst hw''
                            have HB4 := Aside0.mk (below_then HB3.out HB3.out.size hb4)
                            have HK4 := Aside0.mk ((hb4.block _ (blk_lt HK3.out)).trans HK3.out)
                            clear hb4
                            go_wp2
                            go_ret
                            exact ⟨by rw [← H.out, all_range_false hlt (by rw [hG.out]; simp)]; simp, HB4.out⟩
                          | true =>
                            rw [c5] at e4 hG
                            have C5 := Aside0.mk c5
                            clear c5
                            refine wp_region_bw (by kernel_rfl) (by kernel_rfl) ?_
                            repeat (go_big_quiet_step (first | (go_at_call 68; exact Calls.bwd (impl_isId.calls _ _ _ e1.out)) | (go_at_call 59; exact Calls.bwd (impl_isWant.calls _ _ _ e3.out)) | (go_at_call 70; exact Calls.bwd (impl_isWeight.calls _ _ _ e4.out)) | (go_at_call 69; exact Calls.bw (impl_Farm_hasGroup.calls a0_0 A0_1 c0_1 l0_1 (some ad2) c0_2 l0_2 _ _ _ (Kd.C_below (Kd.C_below HR1.out HB3.out) (BW.h _)) HC1.out (Kd.C_below (Kd.C_below HR2.out HB3.out) (BW.h _)) HC2.out e2.out))))
                            refine wpQuiet_nil ?_
                            intro _ hw'
                            obtain ⟨⟨w4, hb4⟩, hw''⟩ := hw'
                            subst hw''
                            have HB4 := Aside0.mk (below_then HB3.out HB3.out.size hb4)
                            have HK4 := Aside0.mk ((hb4.block _ (blk_lt HK3.out)).trans HK3.out)
                            clear hb4
                            go_wp2
                            go_roundg (l0_2.length - (i + 1))
                            case measure => omega
                            case rel => exact ⟨i + 1, by go_num, by omega, by omega, HB4, HK4, ⟨fun j hj => by
                              by_cases e : j = i
                              · rw [e, hG.out]; simp
                              · exact HG.out j (by omega)⟩⟩
                    · have hpv1 : decide (pv ≥ y.f0) = true := decide_eq_true (by omega)
                      have hpv2 : decide (y.f0 ≤ pv) = true := decide_eq_true (by omega)
                      rw [show decide (pv < y.f0) = false from decide_eq_false hpv] at hG
                      clear hpv
                      refine wp_region_bw (by kernel_rfl) (by kernel_rfl) ?_
                      repeat (go_big_quiet_step (first | (go_at_call 68; exact Calls.bwd (impl_isId.calls _ _ _ e1.out)) | (go_at_call 59; exact Calls.bwd (impl_isWant.calls _ _ _ e3.out)) | (go_at_call 70; exact Calls.bwd (impl_isWeight.calls _ _ _ e4.out)) | (go_at_call 69; exact Calls.bw (impl_Farm_hasGroup.calls a0_0 A0_1 c0_1 l0_1 (some ad2) c0_2 l0_2 _ _ _ (Kd.C_below (Kd.C_below HR1.out HB3.out) (BW.h _)) HC1.out (Kd.C_below (Kd.C_below HR2.out HB3.out) (BW.h _)) HC2.out e2.out))))
                      refine wpQuiet_nil ?_
                      intro _ hw'
                      obtain ⟨⟨w4, hb4⟩, hw''⟩ := hw'
                      subst hw''
                      have HB4 := Aside0.mk (below_then HB3.out HB3.out.size hb4)
                      have HK4 := Aside0.mk ((hb4.block _ (blk_lt HK3.out)).trans HK3.out)
                      clear hb4
                      go_wp2
                      go_ret
                      exact ⟨by rw [← H.out, all_range_false hlt (by rw [hG.out]; simp)]; simp, HB4.out⟩
              · have hie : i = l0_2.length := by omega
                subst hie
                have hltz : ¬ (l0_2.length : Int) < (l0_2.length : Int) := by omega
                go_wp2
                go_ret
                exact ⟨by rw [← H.out, all_range_true HG.out]; rfl, HB.out⟩
      · have h1z : ¬ ((l0_1.length : Nat) : Int) > 30 := by omega
        have h2z : ((l0_2.length : Nat) : Int) > 60 := by omega
        go_enter Try.func34, Try.ntmps34
        go_wp2_with (go_at_call 59; refine (impl_isWant.calls _ _ _ E1.out).mono ?_; rintro e w1 ⟨rfl, ⟨n, rfl⟩⟩)
        go_ret
        exact ⟨by rw [← H.out]; simp [h2], pw_below_drewN ((Below.refl _ _).alloc (Nat.le_refl _) _) _⟩
    · have h1z : ((l0_1.length : Nat) : Int) > 30 := by omega
      go_enter Try.func34, Try.ntmps34
      go_wp2_with (go_at_call 59; refine (impl_isWant.calls _ _ _ E1.out).mono ?_; rintro e w1 ⟨rfl, ⟨n, rfl⟩⟩)
      go_ret
      exact ⟨by rw [← H.out]; simp [h1], pw_below_drewN ((Below.refl _ _).alloc (Nat.le_refl _) _) _⟩

end Go.Proofs.Ythpggkpidbieeaa.XFnExactFarmPath
