/- Functions that FnExactFarmPath comes to, as Lean functions with their contracts: written by the prover's own program (wip/tpl/myprint.py) over the kit's printer, some contracts by hand. Conditions: none. -/
import Derived.Test.YthpggkpidbieeaaXFnExactFarmPathx0
import Derived.Test.YthpggkpidbieeaaXFnExactFarmPathx3
namespace Go.Proofs.Ythpggkpidbieeaa.XFnExactFarmPath
open Go.RowKit Go.Proofs.YthpggkpidbieeaaW.PrintWords Go.Proofs.YthpggkpidbieeaaW.PrintLast Go.Proofs.YthpggkpidbieeaaW.PrintMore
attribute [local go_sem] max2_int min2_int max_two min_two max_three min_three max_four min_four   -- for this text's walks alone
set_option linter.unusedVariables false
set_option linter.unusedSimpArgs false

/-! ### spec_FarmRight: function 32 -/
/-- A world that has come of w by growth alone. -/
structure BW (w : World) where
  W : World
  h : Below w.heap.size w W
instance {w : World} : Nonempty (BW w) := ⟨⟨w, Below.refl _ _⟩⟩
theorem BW.cell {w : World} (p : BW w) {a : Addr} {v : Value} (h : w.cell? a = some v) : p.W.cell? a = some v := pw_cell_below p.h h
theorem Calls.bw {P : Program} {f : FuncId} {args : Array Value} {w : World} {p : BW w} {v : Value} (h : Calls P f args p.W fun e w' => e = .returned v ∧ Below p.W.heap.size p.W w') : Calls P f args p.W fun e w'' => e = .returned v ∧ ∃ q : BW w, w'' = q.W :=
  h.mono fun _ w' ⟨he, hb⟩ => ⟨he, ⟨w', below_then p.h p.h.size hb⟩, rfl⟩
theorem Calls.bwd {P : Program} {f : FuncId} {args : Array Value} {w : World} {p : BW w} {v : Value} (h : Calls P f args p.W fun e w' => e = .returned v ∧ Drawn0 p.W w') : Calls P f args p.W fun e w'' => e = .returned v ∧ ∃ q : BW w, w'' = q.W :=
  Calls.bw (h.mono fun _ _ ⟨he, hb⟩ => ⟨he, hb.below⟩)
theorem wp_region_bw {P : Program} {id : Nat} {Q : Exit → Act → World → Prop} {a : Act} {w : World} {l : List Oper} (hm : P.follows .mixedOrders = true) (hB : Region.lexB .any l.toArray = true)
    (h : wpQuiet P l.toArray (fun w' => ∃ p : BW w, w' = p.W) (fun a' => ∀ w', (∃ p : BW w, w' = p.W) → Q .normal a' w') l a) : (Code.region id l.toArray true).wp P Q a w :=
  wp_region_quiet (C := fun w' => ∃ p : BW w, w' = p.W) hm hB ⟨⟨w.drew, below_drew (Below.refl _ _)⟩, rfl⟩ (by simpa using h)
def hf_id (x : Int) : Bool := decide (1 ≤ x ∧ x ≤ 1000000)
def hf_want (x : Int) : Bool := decide (0 ≤ x ∧ x ≤ 1125899906842624)
def hf_weight (x : Int) : Bool := decide (1 ≤ x ∧ x ≤ 1073741824)
theorem all_range_false {n i : Nat} {p : Nat → Bool} (hi : i < n) (h : p i = false) : (List.range n).all p = false := by
  rw [List.all_eq_false]
  exact ⟨i, List.mem_range.2 hi, by simp [h]⟩
theorem all_range_true {n : Nat} {p : Nat → Bool} (h : ∀ j, j < n → p j = true) : (List.range n).all p = true := by
  rw [List.all_eq_true]
  intro j hj
  exact h j (List.mem_range.1 hj)
theorem hs_id_eq (a : Int) : spec_l02Id.f a = some (hf_id a) := by
  unfold spec_l02Id.f hf_id
  by_cases h : a ≥ 1
  · rw [if_pos h]; simp; omega
  · rw [if_neg h]; simp; omega
theorem hs_want_eq (a : Int) : spec_l02Want.f a = some (hf_want a) := by
  unfold spec_l02Want.f hf_want
  by_cases h : a ≥ 0
  · rw [if_pos h]; simp; omega
  · rw [if_neg h]; simp; omega
theorem hs_weight_eq (a : Int) : spec_l02Weight.f a = some (hf_weight a) := by
  unfold spec_l02Weight.f hf_weight
  by_cases h : a ≥ 1
  · rw [if_pos h]; simp; omega
  · rw [if_neg h]; simp; omega
/-- There is a Group of the Id. -/
def hs_in (l : List S80) (id : Int) : Bool := l.any (fun x => x.f0 == id)
theorem hs_grp_loop (a : Int) (l : List S80) (m : List S83) (id : Int) (hl : l.length ≤ 4611686018427387904) : ∀ (d k i : Nat), l.length - i = d → i ≤ l.length → d < k → ∃ r, spec_l05Group.l0 k id (i : Int) a l m = some r ∧ decide (r < 0) = !(l.drop i).any (fun x => x.f0 == id) := by
  intro d
  induction d with
  | zero =>
    intro k i hd hi hk
    obtain ⟨k, rfl⟩ : ∃ m, k = m + 1 := ⟨k - 1, by omega⟩
    simp only [spec_l05Group.l0]
    rw [if_neg (by omega), List.drop_eq_nil_of_le (by omega)]
    exact ⟨-1, rfl, by simp⟩
  | succ d ih =>
    intro k i hd hi hk
    obtain ⟨k, rfl⟩ : ∃ m, k = m + 1 := ⟨k - 1, by omega⟩
    have hlt : i < l.length := by omega
    have hrd : rd_T80 l (i : Int) = l[i] := by simp [rd_T80, List.getD_eq_getElem?_getD, hlt]
    simp only [spec_l05Group.l0]
    rw [if_pos (by omega), if_pos (by omega), hrd, List.drop_eq_getElem_cons hlt, List.any_cons]
    by_cases he : l[i].f0 = id
    · rw [if_pos he]
      exact ⟨_, rfl, by rw [beq_iff_eq.2 he]; simp⟩
    · rw [if_neg he, show wrap64 ((i : Int) + 1) = ((i + 1 : Nat) : Int) by unfold wrap64; omega, beq_eq_false_iff_ne.2 he, Bool.false_or]
      exact ih k (i + 1) (by omega) (by omega) (by omega)
theorem hs_grp_eq (a : Int) (l : List S80) (m : List S83) (id : Int) (hl : l.length ≤ 4611686018427387904) : ∃ r, spec_l05Group.f (l.length + 1) a l m id = some r ∧ decide (r < 0) = !hs_in l id := by
  obtain ⟨r, h1, h2⟩ := hs_grp_loop a l m id hl l.length (l.length + 1) 0 (by omega) (by omega) (by omega)
  exact ⟨r, h1, by rw [h2]; rfl⟩
def spec_FarmRight.g (l : List S80) (i : Nat) : Bool := hf_id (rd_T80 l i).f0 && ((decide (i = 0) || decide ((rd_T80 l ((i - 1 : Nat) : Int)).f0 < (rd_T80 l i).f0)) && ((decide ((rd_T80 l i).f1 = 0) || (hs_in l (rd_T80 l i).f1 && decide ((rd_T80 l i).f1 < (rd_T80 l i).f0))) && (hf_want (rd_T80 l i).f2 && hf_weight (rd_T80 l i).f3)))
def spec_FarmRight.m (l : List S80) (m : List S83) (i : Nat) : Bool := hf_id (rd_T83 m i).f0 && ((decide (i = 0) || decide ((rd_T83 m ((i - 1 : Nat) : Int)).f0 < (rd_T83 m i).f0)) && ((decide ((rd_T83 m i).f1 = 0) || hs_in l (rd_T83 m i).f1) && (hf_want (rd_T83 m i).f2 && hf_weight (rd_T83 m i).f3)))
def spec_FarmRight.f (a0_0 : Int) (l0_1 : List S80) (l0_2 : List S83) : Option Bool :=
  some (hf_want a0_0 && (decide (l0_1.length ≤ 30) && (decide (l0_2.length ≤ 60) && ((List.range l0_1.length).all (spec_FarmRight.g l0_1) && (List.range l0_2.length).all (spec_FarmRight.m l0_1 l0_2)))))
set_option maxHeartbeats 32000000 in
set_option maxRecDepth 100000 in
theorem spec_FarmRight.calls (a0_0 : Int) (A0_1 : Option Addr) (c0_1 : Nat) (l0_1 : List (S80)) (A0_2 : Option Addr) (c0_2 : Nat) (l0_2 : List (S83)) (r : Bool) (w : World) (hr0_1 : Kd.C k80 w A0_1 l0_1.length l0_1) (hc0_1 : l0_1.length ≤ c0_1) (hr0_2 : Kd.C k83 w A0_2 l0_2.length l0_2) (hc0_2 : l0_2.length ≤ c0_2) (h : spec_FarmRight.f a0_0 l0_1 l0_2 = some r) :
    Calls Try.prog 32 #[.agg #[.int .i64 a0_0, .slice A0_1 l0_1.length c0_1, .slice A0_2 l0_2.length c0_2]] w fun e w' => e = .returned (.bool r) ∧ Below w.heap.size w w' := by
  have hu1 := Try.underlying55
  have hu2 := Try.underlying80
  have hu3 := Try.underlying83
  have HR1 := Aside0.mk hr0_1
  have HR2 := Aside0.mk hr0_2
  have HC1 := Aside0.mk hc0_1
  have HC2 := Aside0.mk hc0_2
  have H := Aside0.mk (Option.some.inj h)
  clear h hr0_1 hr0_2 hc0_2
  have E1 := Aside0.mk (hs_want_eq a0_0)
  cases hw : hf_want a0_0 with
  | false =>
    rw [hw] at E1 H
    have HW := Aside0.mk hw
    clear hw
    go_enter Try.func32, Try.ntmps32
    go_wp2_with (go_at_call 62; refine (spec_l02Want.calls _ _ _ E1.out).mono ?_; rintro e w1 ⟨rfl, ⟨n, rfl⟩⟩)
    go_ret
    exact ⟨by rw [← H.out]; rfl, pw_below_drewN ((Below.refl _ _).alloc (Nat.le_refl _) _) _⟩
  | true =>
    rw [hw] at E1 H
    have HW := Aside0.mk hw
    clear hw
    by_cases h1 : l0_1.length ≤ 30
    · by_cases h2 : l0_2.length ≤ 60
      · have h1z : ¬ ((l0_1.length : Nat) : Int) > 30 := by omega
        have h2z : ¬ ((l0_2.length : Nat) : Int) > 60 := by omega
        replace H := Aside0.mk (show ((List.range l0_1.length).all (spec_FarmRight.g l0_1) && (List.range l0_2.length).all (spec_FarmRight.m l0_1 l0_2)) = r by rw [← H.out]; simp [h1, h2])
        go_enter Try.func32, Try.ntmps32
        go_wp2_with (go_at_call 62; refine (spec_l02Want.calls _ _ _ E1.out).mono ?_; rintro e w1 ⟨rfl, ⟨n, rfl⟩⟩)
        obtain ⟨w2, hw2⟩ : ∃ w2, w2 = (w.alloc (Obj.cells #[Value.int IntKind.i64 a0_0, Value.slice A0_1 l0_1.length c0_1, Value.slice A0_2 l0_2.length c0_2] 55)).drewN n := ⟨_, rfl⟩
        have hbk := Aside0.mk (show w2.heap[w.heap.size]? = some (Obj.cells #[Value.int IntKind.i64 a0_0, Value.slice A0_1 l0_1.length c0_1, Value.slice A0_2 l0_2.length c0_2] 55) by rw [hw2]; exact heap_alloc_new w _)
        have HB2 := Aside0.mk (show Below w.heap.size w w2 by rw [hw2]; exact pw_below_drewN ((Below.refl _ _).alloc (Nat.le_refl _) _) _)
        rw [← hw2]
        clear hw2
        go_loopg [3, 4] l0_1.length (fun gg s27 _ wr => ∃ i : Nat, s27 = .int .i64 i ∧ i ≤ l0_1.length ∧ l0_1.length - i ≤ gg ∧ Aside0 (Below w.heap.size w wr) ∧ Aside0 (wr.heap[w.heap.size]? = some (Obj.cells #[Value.int IntKind.i64 a0_0, Value.slice A0_1 l0_1.length c0_1, Value.slice A0_2 l0_2.length c0_2] 55)) ∧ Aside0 (∀ j, j < i → spec_FarmRight.g l0_1 j = true))
        case atStart => exact ⟨0, rfl, Nat.zero_le _, by omega, HB2, hbk, ⟨fun j hj => absurd hj (Nat.not_lt_zero _)⟩⟩
        case round =>
          clear hbk HB2
          obtain ⟨i, rfl, hil, hg, HB, HK, HG⟩ := hrel
          have hk0 := blk_cell HK.out 0
          have hk1 := blk_cell HK.out 1
          have hk2 := blk_cell HK.out 2
          simp only [List.getElem?_toArray, List.getElem?_cons_zero, List.getElem?_cons_succ] at hk0 hk1 hk2
          have hsz : w.heap.size < wr.heap.size := blk_lt HK.out
          by_cases hlt : i < l0_1.length
          · have hltz : (i : Int) < (l0_1.length : Int) := by omega
            obtain ⟨ad1, e, hx0, hx1, hx2, hx3⟩ := at_T80 HR1.out (i : Int) (by omega) (by omega)
            cases e
            replace hx0 := pw_cell_below HB.out hx0
            replace hx1 := pw_cell_below HB.out hx1
            replace hx2 := pw_cell_below HB.out hx2
            replace hx3 := pw_cell_below HB.out hx3
            simp only [Int.toNat_natCast] at hx0 hx1 hx2 hx3
            obtain ⟨y, hy⟩ : ∃ y, y = rd_T80 l0_1 (i : Int) := ⟨_, rfl⟩
            rw [← hy] at hx0 hx1 hx2 hx3
            have HY := Aside0.mk hy
            clear hy
            go_wp2_with fail
            obtain ⟨w3, hw3⟩ : ∃ w3, w3 = wr.alloc (Obj.cells #[Value.int IntKind.i64 y.f0, Value.int IntKind.i64 y.f1, Value.int IntKind.i64 y.f2, Value.int IntKind.i64 y.f3] 80) := ⟨_, rfl⟩
            rw [← hw3]
            have hb80 : w3.heap[wr.heap.size]? = some (Obj.cells #[Value.int IntKind.i64 y.f0, Value.int IntKind.i64 y.f1, Value.int IntKind.i64 y.f2, Value.int IntKind.i64 y.f3] 80 (0, 0)) := by rw [hw3]; exact heap_alloc_new wr _
            have hB3 : Below wr.heap.size wr w3 := by rw [hw3]; exact (Below.refl _ _).alloc (Nat.le_refl _) _
            have HB3 := Aside0.mk (HB.out.trans (hB3.mono (by omega)))
            have HK3 := Aside0.mk ((hB3.block _ hsz).trans HK.out)
            have f80_0 : ∀ p : BW w3, p.W.cell? ⟨wr.heap.size, 0, none⟩ = some (.int .i64 y.f0) := fun p => p.cell (blk_cell hb80 0)
            have f80_1 : ∀ p : BW w3, p.W.cell? ⟨wr.heap.size, 1, none⟩ = some (.int .i64 y.f1) := fun p => p.cell (blk_cell hb80 1)
            have f80_2 : ∀ p : BW w3, p.W.cell? ⟨wr.heap.size, 2, none⟩ = some (.int .i64 y.f2) := fun p => p.cell (blk_cell hb80 2)
            have f80_3 : ∀ p : BW w3, p.W.cell? ⟨wr.heap.size, 3, none⟩ = some (.int .i64 y.f3) := fun p => p.cell (blk_cell hb80 3)
            have ff_0 : ∀ p : BW w3, p.W.cell? ⟨w.heap.size, 0, none⟩ = some (.int .i64 a0_0) := fun p => p.cell (blk_cell HK3.out 0)
            have ff_1 : ∀ p : BW w3, p.W.cell? ⟨w.heap.size, 1, none⟩ = some (.slice (some ad1) l0_1.length c0_1) := fun p => p.cell (blk_cell HK3.out 1)
            have ff_2 : ∀ p : BW w3, p.W.cell? ⟨w.heap.size, 2, none⟩ = some (.slice A0_2 l0_2.length c0_2) := fun p => p.cell (blk_cell HK3.out 2)
            have e1 := Aside0.mk (hs_id_eq y.f0)
            have e3 := Aside0.mk (hs_want_eq y.f2)
            have e4 := Aside0.mk (hs_weight_eq y.f3)
            obtain ⟨gr, hgr, hgi⟩ := hs_grp_eq a0_0 l0_1 l0_2 y.f1 (by omega)
            have e2 := Aside0.mk hgr
            clear hgr
            have hG := Aside0.mk (show spec_FarmRight.g l0_1 i = (hf_id y.f0 && ((decide (i = 0) || decide ((rd_T80 l0_1 ((i - 1 : Nat) : Int)).f0 < y.f0)) && ((decide (y.f1 = 0) || (hs_in l0_1 y.f1 && decide (y.f1 < y.f0))) && (hf_want y.f2 && hf_weight y.f3)))) by rw [HY.out]; rfl)
            clear hw3 hb80 hB3 hx0 hx1 hx2 hx3 hk0 hk1 hk2
            cases c1 : hf_id y.f0 with
            | false =>
              rw [c1] at e1 hG
              have C1 := Aside0.mk c1
              clear c1
              refine wp_region_bw (by kernel_rfl) (by kernel_rfl) ?_
              repeat (go_big_quiet_step (first | (go_at_call 63; exact Calls.bwd (spec_l02Id.calls _ _ _ e1.out)) | (go_at_call 62; exact Calls.bwd (spec_l02Want.calls _ _ _ e3.out)) | (go_at_call 65; exact Calls.bwd (spec_l02Weight.calls _ _ _ e4.out)) | (go_at_call 64; exact Calls.bw (spec_l05Group.calls (l0_1.length + 1) a0_0 (some ad1) c0_1 l0_1 A0_2 c0_2 l0_2 _ _ _ (Kd.C_below (Kd.C_below HR1.out HB3.out) (BW.h _)) HC1.out (Kd.C_below (Kd.C_below HR2.out HB3.out) (BW.h _)) HC2.out e2.out))))
              refine wpQuiet_nil ?_
              intro _ hw'
              obtain ⟨⟨w4, hb4⟩, hw''⟩ := hw'
              subst hw''
              have HB4 := Aside0.mk (below_then HB3.out HB3.out.size hb4)
              have HK4 := Aside0.mk ((hb4.block _ (blk_lt HK3.out)).trans HK3.out)
              clear hb4
              go_wp2
              go_ret
              exact ⟨by rw [← H.out, all_range_false hlt (by rw [hG.out]; simp)]; rfl, HB4.out⟩
            | true =>
              rw [c1] at e1 hG
              have C1 := Aside0.mk c1
              clear c1
              by_cases hi0 : i = 0
              · have hi1 : decide (0 < i) = false := decide_eq_false (by omega)
                rw [show decide (i = 0) = true from decide_eq_true hi0] at hG
                have HI0 := Aside0.mk hi0
                clear hi0
                by_cases c8 : y.f1 = 0
                · skip
                  have c8b : (y.f1 == 0) = true := beq_iff_eq.2 c8
                  have c8c : (y.f1 != 0) = false := by simp [c8]
                  rw [show decide (y.f1 = 0) = true from decide_eq_true c8] at hG
                  clear c8 hgi
                  cases c4 : hf_want y.f2 with
                  | false =>
                    rw [c4] at e3 hG
                    have C4 := Aside0.mk c4
                    clear c4
                    refine wp_region_bw (by kernel_rfl) (by kernel_rfl) ?_
                    repeat (go_big_quiet_step (first | (go_at_call 63; exact Calls.bwd (spec_l02Id.calls _ _ _ e1.out)) | (go_at_call 62; exact Calls.bwd (spec_l02Want.calls _ _ _ e3.out)) | (go_at_call 65; exact Calls.bwd (spec_l02Weight.calls _ _ _ e4.out)) | (go_at_call 64; exact Calls.bw (spec_l05Group.calls (l0_1.length + 1) a0_0 (some ad1) c0_1 l0_1 A0_2 c0_2 l0_2 _ _ _ (Kd.C_below (Kd.C_below HR1.out HB3.out) (BW.h _)) HC1.out (Kd.C_below (Kd.C_below HR2.out HB3.out) (BW.h _)) HC2.out e2.out))))
                    refine wpQuiet_nil ?_
                    intro _ hw'
                    obtain ⟨⟨w4, hb4⟩, hw''⟩ := hw'
                    subst hw''
                    have HB4 := Aside0.mk (below_then HB3.out HB3.out.size hb4)
                    have HK4 := Aside0.mk ((hb4.block _ (blk_lt HK3.out)).trans HK3.out)
                    clear hb4
                    go_wp2
                    go_ret
                    exact ⟨by rw [← H.out, all_range_false hlt (by rw [hG.out]; simp)]; rfl, HB4.out⟩
                  | true =>
                    rw [c4] at e3 hG
                    have C4 := Aside0.mk c4
                    clear c4
                    cases c5 : hf_weight y.f3 with
                    | false =>
                      rw [c5] at e4 hG
                      have C5 := Aside0.mk c5
                      clear c5
                      refine wp_region_bw (by kernel_rfl) (by kernel_rfl) ?_
                      repeat (go_big_quiet_step (first | (go_at_call 63; exact Calls.bwd (spec_l02Id.calls _ _ _ e1.out)) | (go_at_call 62; exact Calls.bwd (spec_l02Want.calls _ _ _ e3.out)) | (go_at_call 65; exact Calls.bwd (spec_l02Weight.calls _ _ _ e4.out)) | (go_at_call 64; exact Calls.bw (spec_l05Group.calls (l0_1.length + 1) a0_0 (some ad1) c0_1 l0_1 A0_2 c0_2 l0_2 _ _ _ (Kd.C_below (Kd.C_below HR1.out HB3.out) (BW.h _)) HC1.out (Kd.C_below (Kd.C_below HR2.out HB3.out) (BW.h _)) HC2.out e2.out))))
                      refine wpQuiet_nil ?_
                      intro _ hw'
                      obtain ⟨⟨w4, hb4⟩, hw''⟩ := hw'
                      subst hw''
                      have HB4 := Aside0.mk (below_then HB3.out HB3.out.size hb4)
                      have HK4 := Aside0.mk ((hb4.block _ (blk_lt HK3.out)).trans HK3.out)
                      clear hb4
                      go_wp2
                      go_ret
                      exact ⟨by rw [← H.out, all_range_false hlt (by rw [hG.out]; simp)]; rfl, HB4.out⟩
                    | true =>
                      rw [c5] at e4 hG
                      have C5 := Aside0.mk c5
                      clear c5
                      refine wp_region_bw (by kernel_rfl) (by kernel_rfl) ?_
                      repeat (go_big_quiet_step (first | (go_at_call 63; exact Calls.bwd (spec_l02Id.calls _ _ _ e1.out)) | (go_at_call 62; exact Calls.bwd (spec_l02Want.calls _ _ _ e3.out)) | (go_at_call 65; exact Calls.bwd (spec_l02Weight.calls _ _ _ e4.out)) | (go_at_call 64; exact Calls.bw (spec_l05Group.calls (l0_1.length + 1) a0_0 (some ad1) c0_1 l0_1 A0_2 c0_2 l0_2 _ _ _ (Kd.C_below (Kd.C_below HR1.out HB3.out) (BW.h _)) HC1.out (Kd.C_below (Kd.C_below HR2.out HB3.out) (BW.h _)) HC2.out e2.out))))
                      refine wpQuiet_nil ?_
                      intro _ hw'
                      obtain ⟨⟨w4, hb4⟩, hw''⟩ := hw'
                      subst hw''
                      have HB4 := Aside0.mk (below_then HB3.out HB3.out.size hb4)
                      have HK4 := Aside0.mk ((hb4.block _ (blk_lt HK3.out)).trans HK3.out)
                      clear hb4
                      go_wp2
                      go_roundg (l0_1.length - (i + 1))
                      case measure => omega
                      case rel => exact ⟨i + 1, by go_num, by omega, by omega, HB4, HK4, ⟨fun j hj => by
                        by_cases e : j = i
                        · rw [e, hG.out]; simp
                        · exact HG.out j (by omega)⟩⟩
                · skip
                  have c8b : (y.f1 == 0) = false := beq_eq_false_iff_ne.2 c8
                  have c8c : (y.f1 != 0) = true := bne_iff_ne.2 c8
                  rw [show decide (y.f1 = 0) = false from decide_eq_false c8] at hG
                  clear c8
                  by_cases c7 : gr < 0
                  · skip
                    have c7b : decide (gr < 0) = true := decide_eq_true c7
                    rw [c7b] at hgi
                    have hgi2 : hs_in l0_1 y.f1 = false := by simpa using hgi.symm
                    rw [hgi2] at hG
                    clear c7 hgi hgi2
                    refine wp_region_bw (by kernel_rfl) (by kernel_rfl) ?_
                    repeat (go_big_quiet_step (first | (go_at_call 63; exact Calls.bwd (spec_l02Id.calls _ _ _ e1.out)) | (go_at_call 62; exact Calls.bwd (spec_l02Want.calls _ _ _ e3.out)) | (go_at_call 65; exact Calls.bwd (spec_l02Weight.calls _ _ _ e4.out)) | (go_at_call 64; exact Calls.bw (spec_l05Group.calls (l0_1.length + 1) a0_0 (some ad1) c0_1 l0_1 A0_2 c0_2 l0_2 _ _ _ (Kd.C_below (Kd.C_below HR1.out HB3.out) (BW.h _)) HC1.out (Kd.C_below (Kd.C_below HR2.out HB3.out) (BW.h _)) HC2.out e2.out))))
                    refine wpQuiet_nil ?_
                    intro _ hw'
                    obtain ⟨⟨w4, hb4⟩, hw''⟩ := hw'
                    subst hw''
                    have HB4 := Aside0.mk (below_then HB3.out HB3.out.size hb4)
                    have HK4 := Aside0.mk ((hb4.block _ (blk_lt HK3.out)).trans HK3.out)
                    clear hb4
                    go_wp2
                    go_ret
                    exact ⟨by rw [← H.out, all_range_false hlt (by rw [hG.out]; simp)]; rfl, HB4.out⟩
                  · skip
                    have c7b : decide (gr < 0) = false := decide_eq_false c7
                    rw [c7b] at hgi
                    have hgi2 : hs_in l0_1 y.f1 = true := by simpa using hgi.symm
                    rw [hgi2] at hG
                    clear c7 hgi hgi2
                    by_cases c6 : y.f1 < y.f0
                    · skip
                      have c6b : decide (y.f1 ≥ y.f0) = false := decide_eq_false (by omega)
                      have c6c : decide (y.f0 ≤ y.f1) = false := decide_eq_false (by omega)
                      rw [show decide (y.f1 < y.f0) = true from decide_eq_true c6] at hG
                      clear c6
                      cases c4 : hf_want y.f2 with
                      | false =>
                        rw [c4] at e3 hG
                        have C4 := Aside0.mk c4
                        clear c4
                        refine wp_region_bw (by kernel_rfl) (by kernel_rfl) ?_
                        repeat (go_big_quiet_step (first | (go_at_call 63; exact Calls.bwd (spec_l02Id.calls _ _ _ e1.out)) | (go_at_call 62; exact Calls.bwd (spec_l02Want.calls _ _ _ e3.out)) | (go_at_call 65; exact Calls.bwd (spec_l02Weight.calls _ _ _ e4.out)) | (go_at_call 64; exact Calls.bw (spec_l05Group.calls (l0_1.length + 1) a0_0 (some ad1) c0_1 l0_1 A0_2 c0_2 l0_2 _ _ _ (Kd.C_below (Kd.C_below HR1.out HB3.out) (BW.h _)) HC1.out (Kd.C_below (Kd.C_below HR2.out HB3.out) (BW.h _)) HC2.out e2.out))))
                        refine wpQuiet_nil ?_
                        intro _ hw'
                        obtain ⟨⟨w4, hb4⟩, hw''⟩ := hw'
                        subst hw''
                        have HB4 := Aside0.mk (below_then HB3.out HB3.out.size hb4)
                        have HK4 := Aside0.mk ((hb4.block _ (blk_lt HK3.out)).trans HK3.out)
                        clear hb4
                        go_wp2
                        go_ret
                        exact ⟨by rw [← H.out, all_range_false hlt (by rw [hG.out]; simp)]; rfl, HB4.out⟩
                      | true =>
                        rw [c4] at e3 hG
                        have C4 := Aside0.mk c4
                        clear c4
                        cases c5 : hf_weight y.f3 with
                        | false =>
                          rw [c5] at e4 hG
                          have C5 := Aside0.mk c5
                          clear c5
                          refine wp_region_bw (by kernel_rfl) (by kernel_rfl) ?_
                          repeat (go_big_quiet_step (first | (go_at_call 63; exact Calls.bwd (spec_l02Id.calls _ _ _ e1.out)) | (go_at_call 62; exact Calls.bwd (spec_l02Want.calls _ _ _ e3.out)) | (go_at_call 65; exact Calls.bwd (spec_l02Weight.calls _ _ _ e4.out)) | (go_at_call 64; exact Calls.bw (spec_l05Group.calls (l0_1.length + 1) a0_0 (some ad1) c0_1 l0_1 A0_2 c0_2 l0_2 _ _ _ (Kd.C_below (Kd.C_below HR1.out HB3.out) (BW.h _)) HC1.out (Kd.C_below (Kd.C_below HR2.out HB3.out) (BW.h _)) HC2.out e2.out))))
                          refine wpQuiet_nil ?_
                          intro _ hw'
                          obtain ⟨⟨w4, hb4⟩, hw''⟩ := hw'
                          subst hw''
                          have HB4 := Aside0.mk (below_then HB3.out HB3.out.size hb4)
                          have HK4 := Aside0.mk ((hb4.block _ (blk_lt HK3.out)).trans HK3.out)
                          clear hb4
                          go_wp2
                          go_ret
                          exact ⟨by rw [← H.out, all_range_false hlt (by rw [hG.out]; simp)]; rfl, HB4.out⟩
                        | true =>
                          rw [c5] at e4 hG
                          have C5 := Aside0.mk c5
                          clear c5
                          refine wp_region_bw (by kernel_rfl) (by kernel_rfl) ?_
                          repeat (go_big_quiet_step (first | (go_at_call 63; exact Calls.bwd (spec_l02Id.calls _ _ _ e1.out)) | (go_at_call 62; exact Calls.bwd (spec_l02Want.calls _ _ _ e3.out)) | (go_at_call 65; exact Calls.bwd (spec_l02Weight.calls _ _ _ e4.out)) | (go_at_call 64; exact Calls.bw (spec_l05Group.calls (l0_1.length + 1) a0_0 (some ad1) c0_1 l0_1 A0_2 c0_2 l0_2 _ _ _ (Kd.C_below (Kd.C_below HR1.out HB3.out) (BW.h _)) HC1.out (Kd.C_below (Kd.C_below HR2.out HB3.out) (BW.h _)) HC2.out e2.out))))
                          refine wpQuiet_nil ?_
                          intro _ hw'
                          obtain ⟨⟨w4, hb4⟩, hw''⟩ := hw'
                          subst hw''
                          have HB4 := Aside0.mk (below_then HB3.out HB3.out.size hb4)
                          have HK4 := Aside0.mk ((hb4.block _ (blk_lt HK3.out)).trans HK3.out)
                          clear hb4
                          go_wp2
                          go_roundg (l0_1.length - (i + 1))
                          case measure => omega
                          case rel => exact ⟨i + 1, by go_num, by omega, by omega, HB4, HK4, ⟨fun j hj => by
                            by_cases e : j = i
                            · rw [e, hG.out]; simp
                            · exact HG.out j (by omega)⟩⟩
                    · skip
                      have c6b : decide (y.f1 ≥ y.f0) = true := decide_eq_true (by omega)
                      have c6c : decide (y.f0 ≤ y.f1) = true := decide_eq_true (by omega)
                      rw [show decide (y.f1 < y.f0) = false from decide_eq_false c6] at hG
                      clear c6
                      refine wp_region_bw (by kernel_rfl) (by kernel_rfl) ?_
                      repeat (go_big_quiet_step (first | (go_at_call 63; exact Calls.bwd (spec_l02Id.calls _ _ _ e1.out)) | (go_at_call 62; exact Calls.bwd (spec_l02Want.calls _ _ _ e3.out)) | (go_at_call 65; exact Calls.bwd (spec_l02Weight.calls _ _ _ e4.out)) | (go_at_call 64; exact Calls.bw (spec_l05Group.calls (l0_1.length + 1) a0_0 (some ad1) c0_1 l0_1 A0_2 c0_2 l0_2 _ _ _ (Kd.C_below (Kd.C_below HR1.out HB3.out) (BW.h _)) HC1.out (Kd.C_below (Kd.C_below HR2.out HB3.out) (BW.h _)) HC2.out e2.out))))
                      refine wpQuiet_nil ?_
                      intro _ hw'
                      obtain ⟨⟨w4, hb4⟩, hw''⟩ := hw'
                      subst hw''
                      have HB4 := Aside0.mk (below_then HB3.out HB3.out.size hb4)
                      have HK4 := Aside0.mk ((hb4.block _ (blk_lt HK3.out)).trans HK3.out)
                      clear hb4
                      go_wp2
                      go_ret
                      exact ⟨by rw [← H.out, all_range_false hlt (by rw [hG.out]; simp)]; rfl, HB4.out⟩
              · have hi1 : decide (0 < i) = true := decide_eq_true (by omega)
                have hi2 : 0 < i := by omega
                have hi3 : (0 : Int) ≤ (i : Int) - 1 := by omega
                have hi4 : (i : Int) - 1 < (l0_1.length : Int) := by omega
                obtain ⟨ad', e', hp0, _⟩ := at_T80 HR1.out ((i : Int) - 1) hi3 hi4
                cases e'
                rw [show ((i : Int) - 1).toNat = i - 1 by omega] at hp0
                have fp := fun p : BW w3 => p.cell (pw_cell_below HB3.out hp0)
                rw [show decide (i = 0) = false from decide_eq_false hi0, show rd_T80 l0_1 ((i - 1 : Nat) : Int) = rd_T80 l0_1 ((i : Int) - 1) by congr 1; omega] at hG
                clear hp0 hi0
                generalize (rd_T80 l0_1 ((i : Int) - 1)).f0 = pv at fp hG
                by_cases hpv : pv < y.f0
                · have hpv1 : decide (pv ≥ y.f0) = false := decide_eq_false (by omega)
                  have hpv2 : decide (y.f0 ≤ pv) = false := decide_eq_false (by omega)
                  rw [show decide (pv < y.f0) = true from decide_eq_true hpv] at hG
                  clear hpv
                  by_cases c8 : y.f1 = 0
                  · skip
                    have c8b : (y.f1 == 0) = true := beq_iff_eq.2 c8
                    have c8c : (y.f1 != 0) = false := by simp [c8]
                    rw [show decide (y.f1 = 0) = true from decide_eq_true c8] at hG
                    clear c8 hgi
                    cases c4 : hf_want y.f2 with
                    | false =>
                      rw [c4] at e3 hG
                      have C4 := Aside0.mk c4
                      clear c4
                      refine wp_region_bw (by kernel_rfl) (by kernel_rfl) ?_
                      repeat (go_big_quiet_step (first | (go_at_call 63; exact Calls.bwd (spec_l02Id.calls _ _ _ e1.out)) | (go_at_call 62; exact Calls.bwd (spec_l02Want.calls _ _ _ e3.out)) | (go_at_call 65; exact Calls.bwd (spec_l02Weight.calls _ _ _ e4.out)) | (go_at_call 64; exact Calls.bw (spec_l05Group.calls (l0_1.length + 1) a0_0 (some ad1) c0_1 l0_1 A0_2 c0_2 l0_2 _ _ _ (Kd.C_below (Kd.C_below HR1.out HB3.out) (BW.h _)) HC1.out (Kd.C_below (Kd.C_below HR2.out HB3.out) (BW.h _)) HC2.out e2.out))))
                      refine wpQuiet_nil ?_
                      intro _ hw'
                      obtain ⟨⟨w4, hb4⟩, hw''⟩ := hw'
                      subst hw''
                      have HB4 := Aside0.mk (below_then HB3.out HB3.out.size hb4)
                      have HK4 := Aside0.mk ((hb4.block _ (blk_lt HK3.out)).trans HK3.out)
                      clear hb4
                      go_wp2
                      go_ret
                      exact ⟨by rw [← H.out, all_range_false hlt (by rw [hG.out]; simp)]; rfl, HB4.out⟩
                    | true =>
                      rw [c4] at e3 hG
                      have C4 := Aside0.mk c4
                      clear c4
                      cases c5 : hf_weight y.f3 with
                      | false =>
                        rw [c5] at e4 hG
                        have C5 := Aside0.mk c5
                        clear c5
                        refine wp_region_bw (by kernel_rfl) (by kernel_rfl) ?_
                        repeat (go_big_quiet_step (first | (go_at_call 63; exact Calls.bwd (spec_l02Id.calls _ _ _ e1.out)) | (go_at_call 62; exact Calls.bwd (spec_l02Want.calls _ _ _ e3.out)) | (go_at_call 65; exact Calls.bwd (spec_l02Weight.calls _ _ _ e4.out)) | (go_at_call 64; exact Calls.bw (spec_l05Group.calls (l0_1.length + 1) a0_0 (some ad1) c0_1 l0_1 A0_2 c0_2 l0_2 _ _ _ (Kd.C_below (Kd.C_below HR1.out HB3.out) (BW.h _)) HC1.out (Kd.C_below (Kd.C_below HR2.out HB3.out) (BW.h _)) HC2.out e2.out))))
                        refine wpQuiet_nil ?_
                        intro _ hw'
                        obtain ⟨⟨w4, hb4⟩, hw''⟩ := hw'
                        subst hw''
                        have HB4 := Aside0.mk (below_then HB3.out HB3.out.size hb4)
                        have HK4 := Aside0.mk ((hb4.block _ (blk_lt HK3.out)).trans HK3.out)
                        clear hb4
                        go_wp2
                        go_ret
                        exact ⟨by rw [← H.out, all_range_false hlt (by rw [hG.out]; simp)]; rfl, HB4.out⟩
                      | true =>
                        rw [c5] at e4 hG
                        have C5 := Aside0.mk c5
                        clear c5
                        refine wp_region_bw (by kernel_rfl) (by kernel_rfl) ?_
                        repeat (go_big_quiet_step (first | (go_at_call 63; exact Calls.bwd (spec_l02Id.calls _ _ _ e1.out)) | (go_at_call 62; exact Calls.bwd (spec_l02Want.calls _ _ _ e3.out)) | (go_at_call 65; exact Calls.bwd (spec_l02Weight.calls _ _ _ e4.out)) | (go_at_call 64; exact Calls.bw (spec_l05Group.calls (l0_1.length + 1) a0_0 (some ad1) c0_1 l0_1 A0_2 c0_2 l0_2 _ _ _ (Kd.C_below (Kd.C_below HR1.out HB3.out) (BW.h _)) HC1.out (Kd.C_below (Kd.C_below HR2.out HB3.out) (BW.h _)) HC2.out e2.out))))
                        refine wpQuiet_nil ?_
                        intro _ hw'
                        obtain ⟨⟨w4, hb4⟩, hw''⟩ := hw'
                        subst hw''
                        have HB4 := Aside0.mk (below_then HB3.out HB3.out.size hb4)
                        have HK4 := Aside0.mk ((hb4.block _ (blk_lt HK3.out)).trans HK3.out)
                        clear hb4
                        go_wp2
                        go_roundg (l0_1.length - (i + 1))
                        case measure => omega
                        case rel => exact ⟨i + 1, by go_num, by omega, by omega, HB4, HK4, ⟨fun j hj => by
                          by_cases e : j = i
                          · rw [e, hG.out]; simp
                          · exact HG.out j (by omega)⟩⟩
                  · skip
                    have c8b : (y.f1 == 0) = false := beq_eq_false_iff_ne.2 c8
                    have c8c : (y.f1 != 0) = true := bne_iff_ne.2 c8
                    rw [show decide (y.f1 = 0) = false from decide_eq_false c8] at hG
                    clear c8
                    by_cases c7 : gr < 0
                    · skip
                      have c7b : decide (gr < 0) = true := decide_eq_true c7
                      rw [c7b] at hgi
                      have hgi2 : hs_in l0_1 y.f1 = false := by simpa using hgi.symm
                      rw [hgi2] at hG
                      clear c7 hgi hgi2
                      refine wp_region_bw (by kernel_rfl) (by kernel_rfl) ?_
                      repeat (go_big_quiet_step (first | (go_at_call 63; exact Calls.bwd (spec_l02Id.calls _ _ _ e1.out)) | (go_at_call 62; exact Calls.bwd (spec_l02Want.calls _ _ _ e3.out)) | (go_at_call 65; exact Calls.bwd (spec_l02Weight.calls _ _ _ e4.out)) | (go_at_call 64; exact Calls.bw (spec_l05Group.calls (l0_1.length + 1) a0_0 (some ad1) c0_1 l0_1 A0_2 c0_2 l0_2 _ _ _ (Kd.C_below (Kd.C_below HR1.out HB3.out) (BW.h _)) HC1.out (Kd.C_below (Kd.C_below HR2.out HB3.out) (BW.h _)) HC2.out e2.out))))
                      refine wpQuiet_nil ?_
                      intro _ hw'
                      obtain ⟨⟨w4, hb4⟩, hw''⟩ := hw'
                      subst hw''
                      have HB4 := Aside0.mk (below_then HB3.out HB3.out.size hb4)
                      have HK4 := Aside0.mk ((hb4.block _ (blk_lt HK3.out)).trans HK3.out)
                      clear hb4
                      go_wp2
                      go_ret
                      exact ⟨by rw [← H.out, all_range_false hlt (by rw [hG.out]; simp)]; rfl, HB4.out⟩
                    · skip
                      have c7b : decide (gr < 0) = false := decide_eq_false c7
                      rw [c7b] at hgi
                      have hgi2 : hs_in l0_1 y.f1 = true := by simpa using hgi.symm
                      rw [hgi2] at hG
                      clear c7 hgi hgi2
                      by_cases c6 : y.f1 < y.f0
                      · skip
                        have c6b : decide (y.f1 ≥ y.f0) = false := decide_eq_false (by omega)
                        have c6c : decide (y.f0 ≤ y.f1) = false := decide_eq_false (by omega)
                        rw [show decide (y.f1 < y.f0) = true from decide_eq_true c6] at hG
                        clear c6
                        cases c4 : hf_want y.f2 with
                        | false =>
                          rw [c4] at e3 hG
                          have C4 := Aside0.mk c4
                          clear c4
                          refine wp_region_bw (by kernel_rfl) (by kernel_rfl) ?_
                          repeat (go_big_quiet_step (first | (go_at_call 63; exact Calls.bwd (spec_l02Id.calls _ _ _ e1.out)) | (go_at_call 62; exact Calls.bwd (spec_l02Want.calls _ _ _ e3.out)) | (go_at_call 65; exact Calls.bwd (spec_l02Weight.calls _ _ _ e4.out)) | (go_at_call 64; exact Calls.bw (spec_l05Group.calls (l0_1.length + 1) a0_0 (some ad1) c0_1 l0_1 A0_2 c0_2 l0_2 _ _ _ (Kd.C_below (Kd.C_below HR1.out HB3.out) (BW.h _)) HC1.out (Kd.C_below (Kd.C_below HR2.out HB3.out) (BW.h _)) HC2.out e2.out))))
                          refine wpQuiet_nil ?_
                          intro _ hw'
                          obtain ⟨⟨w4, hb4⟩, hw''⟩ := hw'
                          subst hw''
                          have HB4 := Aside0.mk (below_then HB3.out HB3.out.size hb4)
                          have HK4 := Aside0.mk ((hb4.block _ (blk_lt HK3.out)).trans HK3.out)
                          clear hb4
                          go_wp2
                          go_ret
                          exact ⟨by rw [← H.out, all_range_false hlt (by rw [hG.out]; simp)]; rfl, HB4.out⟩
                        | true =>
                          rw [c4] at e3 hG
                          have C4 := Aside0.mk c4
                          clear c4
                          cases c5 : hf_weight y.f3 with
                          | false =>
                            rw [c5] at e4 hG
                            have C5 := Aside0.mk c5
                            clear c5
                            refine wp_region_bw (by kernel_rfl) (by kernel_rfl) ?_
                            repeat (go_big_quiet_step (first | (go_at_call 63; exact Calls.bwd (spec_l02Id.calls _ _ _ e1.out)) | (go_at_call 62; exact Calls.bwd (spec_l02Want.calls _ _ _ e3.out)) | (go_at_call 65; exact Calls.bwd (spec_l02Weight.calls _ _ _ e4.out)) | (go_at_call 64; exact Calls.bw (spec_l05Group.calls (l0_1.length + 1) a0_0 (some ad1) c0_1 l0_1 A0_2 c0_2 l0_2 _ _ _ (Kd.C_below (Kd.C_below HR1.out HB3.out) (BW.h _)) HC1.out (Kd.C_below (Kd.C_below HR2.out HB3.out) (BW.h _)) HC2.out e2.out))))
                            refine wpQuiet_nil ?_
                            intro _ hw'
                            obtain ⟨⟨w4, hb4⟩, hw''⟩ := hw'
                            subst hw''
                            have HB4 := Aside0.mk (below_then HB3.out HB3.out.size hb4)
                            have HK4 := Aside0.mk ((hb4.block _ (blk_lt HK3.out)).trans HK3.out)
                            clear hb4
                            go_wp2
                            go_ret
                            exact ⟨by rw [← H.out, all_range_false hlt (by rw [hG.out]; simp)]; rfl, HB4.out⟩
                          | true =>
                            rw [c5] at e4 hG
                            have C5 := Aside0.mk c5
                            clear c5
                            refine wp_region_bw (by kernel_rfl) (by kernel_rfl) ?_
                            repeat (go_big_quiet_step (first | (go_at_call 63; exact Calls.bwd (spec_l02Id.calls _ _ _ e1.out)) | (go_at_call 62; exact Calls.bwd (spec_l02Want.calls _ _ _ e3.out)) | (go_at_call 65; exact Calls.bwd (spec_l02Weight.calls _ _ _ e4.out)) | (go_at_call 64; exact Calls.bw (spec_l05Group.calls (l0_1.length + 1) a0_0 (some ad1) c0_1 l0_1 A0_2 c0_2 l0_2 _ _ _ (Kd.C_below (Kd.C_below HR1.out HB3.out) (BW.h _)) HC1.out (Kd.C_below (Kd.C_below HR2.out HB3.out) (BW.h _)) HC2.out e2.out))))
                            refine wpQuiet_nil ?_
                            intro _ hw'
                            obtain ⟨⟨w4, hb4⟩, hw''⟩ := hw'
                            subst hw''
                            have HB4 := Aside0.mk (below_then HB3.out HB3.out.size hb4)
                            have HK4 := Aside0.mk ((hb4.block _ (blk_lt HK3.out)).trans HK3.out)
                            clear hb4
                            go_wp2
                            go_roundg (l0_1.length - (i + 1))
                            case measure => omega
                            case rel => exact ⟨i + 1, by go_num, by omega, by omega, HB4, HK4, ⟨fun j hj => by
                              by_cases e : j = i
                              · rw [e, hG.out]; simp
                              · exact HG.out j (by omega)⟩⟩
                      · skip
                        have c6b : decide (y.f1 ≥ y.f0) = true := decide_eq_true (by omega)
                        have c6c : decide (y.f0 ≤ y.f1) = true := decide_eq_true (by omega)
                        rw [show decide (y.f1 < y.f0) = false from decide_eq_false c6] at hG
                        clear c6
                        refine wp_region_bw (by kernel_rfl) (by kernel_rfl) ?_
                        repeat (go_big_quiet_step (first | (go_at_call 63; exact Calls.bwd (spec_l02Id.calls _ _ _ e1.out)) | (go_at_call 62; exact Calls.bwd (spec_l02Want.calls _ _ _ e3.out)) | (go_at_call 65; exact Calls.bwd (spec_l02Weight.calls _ _ _ e4.out)) | (go_at_call 64; exact Calls.bw (spec_l05Group.calls (l0_1.length + 1) a0_0 (some ad1) c0_1 l0_1 A0_2 c0_2 l0_2 _ _ _ (Kd.C_below (Kd.C_below HR1.out HB3.out) (BW.h _)) HC1.out (Kd.C_below (Kd.C_below HR2.out HB3.out) (BW.h _)) HC2.out e2.out))))
                        refine wpQuiet_nil ?_
                        intro _ hw'
                        obtain ⟨⟨w4, hb4⟩, hw''⟩ := hw'
                        subst hw''
                        have HB4 := Aside0.mk (below_then HB3.out HB3.out.size hb4)
                        have HK4 := Aside0.mk ((hb4.block _ (blk_lt HK3.out)).trans HK3.out)
                        clear hb4
                        go_wp2
                        go_ret
                        exact ⟨by rw [← H.out, all_range_false hlt (by rw [hG.out]; simp)]; rfl, HB4.out⟩
                · have hpv1 : decide (pv ≥ y.f0) = true := decide_eq_true (by omega)
                  have hpv2 : decide (y.f0 ≤ pv) = true := decide_eq_true (by omega)
                  rw [show decide (pv < y.f0) = false from decide_eq_false hpv] at hG
                  clear hpv
                  refine wp_region_bw (by kernel_rfl) (by kernel_rfl) ?_
                  repeat (go_big_quiet_step (first | (go_at_call 63; exact Calls.bwd (spec_l02Id.calls _ _ _ e1.out)) | (go_at_call 62; exact Calls.bwd (spec_l02Want.calls _ _ _ e3.out)) | (go_at_call 65; exact Calls.bwd (spec_l02Weight.calls _ _ _ e4.out)) | (go_at_call 64; exact Calls.bw (spec_l05Group.calls (l0_1.length + 1) a0_0 (some ad1) c0_1 l0_1 A0_2 c0_2 l0_2 _ _ _ (Kd.C_below (Kd.C_below HR1.out HB3.out) (BW.h _)) HC1.out (Kd.C_below (Kd.C_below HR2.out HB3.out) (BW.h _)) HC2.out e2.out))))
                  refine wpQuiet_nil ?_
                  intro _ hw'
                  obtain ⟨⟨w4, hb4⟩, hw''⟩ := hw'
                  subst hw''
                  have HB4 := Aside0.mk (below_then HB3.out HB3.out.size hb4)
                  have HK4 := Aside0.mk ((hb4.block _ (blk_lt HK3.out)).trans HK3.out)
                  clear hb4
                  go_wp2
                  go_ret
                  exact ⟨by rw [← H.out, all_range_false hlt (by rw [hG.out]; simp)]; rfl, HB4.out⟩
          · have hie : i = l0_1.length := by omega
            subst hie
            have hltz : ¬ (l0_1.length : Int) < (l0_1.length : Int) := by omega
            go_wp2_with fail
            replace H := Aside0.mk (show ((List.range l0_2.length).all (spec_FarmRight.m l0_1 l0_2)) = r by rw [← H.out, all_range_true HG.out]; rfl)
            clear HG hk0 hk1 hk2 hltz hg
            go_loopg [5, 6] l0_2.length (fun gg s27 _ wr => ∃ i : Nat, s27 = .int .i64 i ∧ i ≤ l0_2.length ∧ l0_2.length - i ≤ gg ∧ Aside0 (Below w.heap.size w wr) ∧ Aside0 (wr.heap[w.heap.size]? = some (Obj.cells #[Value.int IntKind.i64 a0_0, Value.slice A0_1 l0_1.length c0_1, Value.slice A0_2 l0_2.length c0_2] 55)) ∧ Aside0 (∀ j, j < i → spec_FarmRight.m l0_1 l0_2 j = true))
            case atStart => exact ⟨0, rfl, Nat.zero_le _, by omega, HB, HK, ⟨fun j hj => absurd hj (Nat.not_lt_zero _)⟩⟩
            case round =>
              clear HB HK hsz
              obtain ⟨i, rfl, hil, hg, HB, HK, HG⟩ := hrel
              have hk0 := blk_cell HK.out 0
              have hk1 := blk_cell HK.out 1
              have hk2 := blk_cell HK.out 2
              simp only [List.getElem?_toArray, List.getElem?_cons_zero, List.getElem?_cons_succ] at hk0 hk1 hk2
              have hsz : w.heap.size < wr.heap.size := blk_lt HK.out
              by_cases hlt : i < l0_2.length
              · have hltz : (i : Int) < (l0_2.length : Int) := by omega
                obtain ⟨ad2, e, hx0, hx1, hx2, hx3⟩ := at_T83 HR2.out (i : Int) (by omega) (by omega)
                cases e
                replace hx0 := pw_cell_below HB.out hx0
                replace hx1 := pw_cell_below HB.out hx1
                replace hx2 := pw_cell_below HB.out hx2
                replace hx3 := pw_cell_below HB.out hx3
                simp only [Int.toNat_natCast] at hx0 hx1 hx2 hx3
                obtain ⟨y, hy⟩ : ∃ y, y = rd_T83 l0_2 (i : Int) := ⟨_, rfl⟩
                rw [← hy] at hx0 hx1 hx2 hx3
                have HY := Aside0.mk hy
                clear hy
                go_wp2_with fail
                obtain ⟨w3, hw3⟩ : ∃ w3, w3 = wr.alloc (Obj.cells #[Value.int IntKind.i64 y.f0, Value.int IntKind.i64 y.f1, Value.int IntKind.i64 y.f2, Value.int IntKind.i64 y.f3] 83) := ⟨_, rfl⟩
                rw [← hw3]
                have hb80 : w3.heap[wr.heap.size]? = some (Obj.cells #[Value.int IntKind.i64 y.f0, Value.int IntKind.i64 y.f1, Value.int IntKind.i64 y.f2, Value.int IntKind.i64 y.f3] 83 (0, 0)) := by rw [hw3]; exact heap_alloc_new wr _
                have hB3 : Below wr.heap.size wr w3 := by rw [hw3]; exact (Below.refl _ _).alloc (Nat.le_refl _) _
                have HB3 := Aside0.mk (HB.out.trans (hB3.mono (by omega)))
                have HK3 := Aside0.mk ((hB3.block _ hsz).trans HK.out)
                have f80_0 : ∀ p : BW w3, p.W.cell? ⟨wr.heap.size, 0, none⟩ = some (.int .i64 y.f0) := fun p => p.cell (blk_cell hb80 0)
                have f80_1 : ∀ p : BW w3, p.W.cell? ⟨wr.heap.size, 1, none⟩ = some (.int .i64 y.f1) := fun p => p.cell (blk_cell hb80 1)
                have f80_2 : ∀ p : BW w3, p.W.cell? ⟨wr.heap.size, 2, none⟩ = some (.int .i64 y.f2) := fun p => p.cell (blk_cell hb80 2)
                have f80_3 : ∀ p : BW w3, p.W.cell? ⟨wr.heap.size, 3, none⟩ = some (.int .i64 y.f3) := fun p => p.cell (blk_cell hb80 3)
                have ff_0 : ∀ p : BW w3, p.W.cell? ⟨w.heap.size, 0, none⟩ = some (.int .i64 a0_0) := fun p => p.cell (blk_cell HK3.out 0)
                have ff_1 : ∀ p : BW w3, p.W.cell? ⟨w.heap.size, 1, none⟩ = some (.slice A0_1 l0_1.length c0_1) := fun p => p.cell (blk_cell HK3.out 1)
                have ff_2 : ∀ p : BW w3, p.W.cell? ⟨w.heap.size, 2, none⟩ = some (.slice (some ad2) l0_2.length c0_2) := fun p => p.cell (blk_cell HK3.out 2)
                have e1 := Aside0.mk (hs_id_eq y.f0)
                have e3 := Aside0.mk (hs_want_eq y.f2)
                have e4 := Aside0.mk (hs_weight_eq y.f3)
                obtain ⟨gr, hgr, hgi⟩ := hs_grp_eq a0_0 l0_1 l0_2 y.f1 (by omega)
                have e2 := Aside0.mk hgr
                clear hgr
                have hG := Aside0.mk (show spec_FarmRight.m l0_1 l0_2 i = (hf_id y.f0 && ((decide (i = 0) || decide ((rd_T83 l0_2 ((i - 1 : Nat) : Int)).f0 < y.f0)) && ((decide (y.f1 = 0) || hs_in l0_1 y.f1) && (hf_want y.f2 && hf_weight y.f3)))) by rw [HY.out]; rfl)
                clear hw3 hb80 hB3 hx0 hx1 hx2 hx3 hk0 hk1 hk2
                cases c1 : hf_id y.f0 with
                | false =>
                  rw [c1] at e1 hG
                  have C1 := Aside0.mk c1
                  clear c1
                  refine wp_region_bw (by kernel_rfl) (by kernel_rfl) ?_
                  repeat (go_big_quiet_step (first | (go_at_call 63; exact Calls.bwd (spec_l02Id.calls _ _ _ e1.out)) | (go_at_call 62; exact Calls.bwd (spec_l02Want.calls _ _ _ e3.out)) | (go_at_call 65; exact Calls.bwd (spec_l02Weight.calls _ _ _ e4.out)) | (go_at_call 64; exact Calls.bw (spec_l05Group.calls (l0_1.length + 1) a0_0 A0_1 c0_1 l0_1 (some ad2) c0_2 l0_2 _ _ _ (Kd.C_below (Kd.C_below HR1.out HB3.out) (BW.h _)) HC1.out (Kd.C_below (Kd.C_below HR2.out HB3.out) (BW.h _)) HC2.out e2.out))))
                  refine wpQuiet_nil ?_
                  intro _ hw'
                  obtain ⟨⟨w4, hb4⟩, hw''⟩ := hw'
                  subst hw''
                  have HB4 := Aside0.mk (below_then HB3.out HB3.out.size hb4)
                  have HK4 := Aside0.mk ((hb4.block _ (blk_lt HK3.out)).trans HK3.out)
                  clear hb4
                  go_wp2
                  go_ret
                  exact ⟨by rw [← H.out, all_range_false hlt (by rw [hG.out]; simp)]; simp, HB4.out⟩
                | true =>
                  rw [c1] at e1 hG
                  have C1 := Aside0.mk c1
                  clear c1
                  by_cases hi0 : i = 0
                  · have hi1 : decide (0 < i) = false := decide_eq_false (by omega)
                    rw [show decide (i = 0) = true from decide_eq_true hi0] at hG
                    have HI0 := Aside0.mk hi0
                    clear hi0
                    by_cases c8 : y.f1 = 0
                    · skip
                      have c8b : (y.f1 == 0) = true := beq_iff_eq.2 c8
                      have c8c : (y.f1 != 0) = false := by simp [c8]
                      rw [show decide (y.f1 = 0) = true from decide_eq_true c8] at hG
                      clear c8 hgi
                      cases c4 : hf_want y.f2 with
                      | false =>
                        rw [c4] at e3 hG
                        have C4 := Aside0.mk c4
                        clear c4
                        refine wp_region_bw (by kernel_rfl) (by kernel_rfl) ?_
                        repeat (go_big_quiet_step (first | (go_at_call 63; exact Calls.bwd (spec_l02Id.calls _ _ _ e1.out)) | (go_at_call 62; exact Calls.bwd (spec_l02Want.calls _ _ _ e3.out)) | (go_at_call 65; exact Calls.bwd (spec_l02Weight.calls _ _ _ e4.out)) | (go_at_call 64; exact Calls.bw (spec_l05Group.calls (l0_1.length + 1) a0_0 A0_1 c0_1 l0_1 (some ad2) c0_2 l0_2 _ _ _ (Kd.C_below (Kd.C_below HR1.out HB3.out) (BW.h _)) HC1.out (Kd.C_below (Kd.C_below HR2.out HB3.out) (BW.h _)) HC2.out e2.out))))
                        refine wpQuiet_nil ?_
                        intro _ hw'
                        obtain ⟨⟨w4, hb4⟩, hw''⟩ := hw'
                        subst hw''
                        have HB4 := Aside0.mk (below_then HB3.out HB3.out.size hb4)
                        have HK4 := Aside0.mk ((hb4.block _ (blk_lt HK3.out)).trans HK3.out)
                        clear hb4
                        go_wp2
                        go_ret
                        exact ⟨by rw [← H.out, all_range_false hlt (by rw [hG.out]; simp)]; simp, HB4.out⟩
                      | true =>
                        rw [c4] at e3 hG
                        have C4 := Aside0.mk c4
                        clear c4
                        cases c5 : hf_weight y.f3 with
                        | false =>
                          rw [c5] at e4 hG
                          have C5 := Aside0.mk c5
                          clear c5
                          refine wp_region_bw (by kernel_rfl) (by kernel_rfl) ?_
                          repeat (go_big_quiet_step (first | (go_at_call 63; exact Calls.bwd (spec_l02Id.calls _ _ _ e1.out)) | (go_at_call 62; exact Calls.bwd (spec_l02Want.calls _ _ _ e3.out)) | (go_at_call 65; exact Calls.bwd (spec_l02Weight.calls _ _ _ e4.out)) | (go_at_call 64; exact Calls.bw (spec_l05Group.calls (l0_1.length + 1) a0_0 A0_1 c0_1 l0_1 (some ad2) c0_2 l0_2 _ _ _ (Kd.C_below (Kd.C_below HR1.out HB3.out) (BW.h _)) HC1.out (Kd.C_below (Kd.C_below HR2.out HB3.out) (BW.h _)) HC2.out e2.out))))
                          refine wpQuiet_nil ?_
                          intro _ hw'
                          obtain ⟨⟨w4, hb4⟩, hw''⟩ := hw'
                          subst hw''
                          have HB4 := Aside0.mk (below_then HB3.out HB3.out.size hb4)
                          have HK4 := Aside0.mk ((hb4.block _ (blk_lt HK3.out)).trans HK3.out)
                          clear hb4
                          go_wp2
                          go_ret
                          exact ⟨by rw [← H.out, all_range_false hlt (by rw [hG.out]; simp)]; simp, HB4.out⟩
                        | true =>
                          rw [c5] at e4 hG
                          have C5 := Aside0.mk c5
                          clear c5
                          refine wp_region_bw (by kernel_rfl) (by kernel_rfl) ?_
                          repeat (go_big_quiet_step (first | (go_at_call 63; exact Calls.bwd (spec_l02Id.calls _ _ _ e1.out)) | (go_at_call 62; exact Calls.bwd (spec_l02Want.calls _ _ _ e3.out)) | (go_at_call 65; exact Calls.bwd (spec_l02Weight.calls _ _ _ e4.out)) | (go_at_call 64; exact Calls.bw (spec_l05Group.calls (l0_1.length + 1) a0_0 A0_1 c0_1 l0_1 (some ad2) c0_2 l0_2 _ _ _ (Kd.C_below (Kd.C_below HR1.out HB3.out) (BW.h _)) HC1.out (Kd.C_below (Kd.C_below HR2.out HB3.out) (BW.h _)) HC2.out e2.out))))
                          refine wpQuiet_nil ?_
                          intro _ hw'
                          obtain ⟨⟨w4, hb4⟩, hw''⟩ := hw'
                          subst hw''
                          have HB4 := Aside0.mk (below_then HB3.out HB3.out.size hb4)
                          have HK4 := Aside0.mk ((hb4.block _ (blk_lt HK3.out)).trans HK3.out)
                          clear hb4
                          go_wp2
                          go_roundg (l0_2.length - (i + 1))
                          case measure => omega
                          case rel => exact ⟨i + 1, by go_num, by omega, by omega, HB4, HK4, ⟨fun j hj => by
                            by_cases e : j = i
                            · rw [e, hG.out]; simp
                            · exact HG.out j (by omega)⟩⟩
                    · skip
                      have c8b : (y.f1 == 0) = false := beq_eq_false_iff_ne.2 c8
                      have c8c : (y.f1 != 0) = true := bne_iff_ne.2 c8
                      rw [show decide (y.f1 = 0) = false from decide_eq_false c8] at hG
                      clear c8
                      by_cases c7 : gr < 0
                      · skip
                        have c7b : decide (gr < 0) = true := decide_eq_true c7
                        rw [c7b] at hgi
                        have hgi2 : hs_in l0_1 y.f1 = false := by simpa using hgi.symm
                        rw [hgi2] at hG
                        clear c7 hgi hgi2
                        refine wp_region_bw (by kernel_rfl) (by kernel_rfl) ?_
                        repeat (go_big_quiet_step (first | (go_at_call 63; exact Calls.bwd (spec_l02Id.calls _ _ _ e1.out)) | (go_at_call 62; exact Calls.bwd (spec_l02Want.calls _ _ _ e3.out)) | (go_at_call 65; exact Calls.bwd (spec_l02Weight.calls _ _ _ e4.out)) | (go_at_call 64; exact Calls.bw (spec_l05Group.calls (l0_1.length + 1) a0_0 A0_1 c0_1 l0_1 (some ad2) c0_2 l0_2 _ _ _ (Kd.C_below (Kd.C_below HR1.out HB3.out) (BW.h _)) HC1.out (Kd.C_below (Kd.C_below HR2.out HB3.out) (BW.h _)) HC2.out e2.out))))
                        refine wpQuiet_nil ?_
                        intro _ hw'
                        obtain ⟨⟨w4, hb4⟩, hw''⟩ := hw'
                        subst hw''
                        have HB4 := Aside0.mk (below_then HB3.out HB3.out.size hb4)
                        have HK4 := Aside0.mk ((hb4.block _ (blk_lt HK3.out)).trans HK3.out)
                        clear hb4
                        go_wp2
                        go_ret
                        exact ⟨by rw [← H.out, all_range_false hlt (by rw [hG.out]; simp)]; simp, HB4.out⟩
                      · skip
                        have c7b : decide (gr < 0) = false := decide_eq_false c7
                        rw [c7b] at hgi
                        have hgi2 : hs_in l0_1 y.f1 = true := by simpa using hgi.symm
                        rw [hgi2] at hG
                        clear c7 hgi hgi2
                        cases c4 : hf_want y.f2 with
                        | false =>
                          rw [c4] at e3 hG
                          have C4 := Aside0.mk c4
                          clear c4
                          refine wp_region_bw (by kernel_rfl) (by kernel_rfl) ?_
                          repeat (go_big_quiet_step (first | (go_at_call 63; exact Calls.bwd (spec_l02Id.calls _ _ _ e1.out)) | (go_at_call 62; exact Calls.bwd (spec_l02Want.calls _ _ _ e3.out)) | (go_at_call 65; exact Calls.bwd (spec_l02Weight.calls _ _ _ e4.out)) | (go_at_call 64; exact Calls.bw (spec_l05Group.calls (l0_1.length + 1) a0_0 A0_1 c0_1 l0_1 (some ad2) c0_2 l0_2 _ _ _ (Kd.C_below (Kd.C_below HR1.out HB3.out) (BW.h _)) HC1.out (Kd.C_below (Kd.C_below HR2.out HB3.out) (BW.h _)) HC2.out e2.out))))
                          refine wpQuiet_nil ?_
                          intro _ hw'
                          obtain ⟨⟨w4, hb4⟩, hw''⟩ := hw'
                          subst hw''
                          have HB4 := Aside0.mk (below_then HB3.out HB3.out.size hb4)
                          have HK4 := Aside0.mk ((hb4.block _ (blk_lt HK3.out)).trans HK3.out)
                          clear hb4
                          go_wp2
                          go_ret
                          exact ⟨by rw [← H.out, all_range_false hlt (by rw [hG.out]; simp)]; simp, HB4.out⟩
                        | true =>
                          rw [c4] at e3 hG
                          have C4 := Aside0.mk c4
                          clear c4
                          cases c5 : hf_weight y.f3 with
                          | false =>
                            rw [c5] at e4 hG
                            have C5 := Aside0.mk c5
                            clear c5
                            refine wp_region_bw (by kernel_rfl) (by kernel_rfl) ?_
                            repeat (go_big_quiet_step (first | (go_at_call 63; exact Calls.bwd (spec_l02Id.calls _ _ _ e1.out)) | (go_at_call 62; exact Calls.bwd (spec_l02Want.calls _ _ _ e3.out)) | (go_at_call 65; exact Calls.bwd (spec_l02Weight.calls _ _ _ e4.out)) | (go_at_call 64; exact Calls.bw (spec_l05Group.calls (l0_1.length + 1) a0_0 A0_1 c0_1 l0_1 (some ad2) c0_2 l0_2 _ _ _ (Kd.C_below (Kd.C_below HR1.out HB3.out) (BW.h _)) HC1.out (Kd.C_below (Kd.C_below HR2.out HB3.out) (BW.h _)) HC2.out e2.out))))
                            refine wpQuiet_nil ?_
                            intro _ hw'
                            obtain ⟨⟨w4, hb4⟩, hw''⟩ := hw'
                            subst hw''
                            have HB4 := Aside0.mk (below_then HB3.out HB3.out.size hb4)
                            have HK4 := Aside0.mk ((hb4.block _ (blk_lt HK3.out)).trans HK3.out)
                            clear hb4
                            go_wp2
                            go_ret
                            exact ⟨by rw [← H.out, all_range_false hlt (by rw [hG.out]; simp)]; simp, HB4.out⟩
                          | true =>
                            rw [c5] at e4 hG
                            have C5 := Aside0.mk c5
                            clear c5
                            refine wp_region_bw (by kernel_rfl) (by kernel_rfl) ?_
                            repeat (go_big_quiet_step (first | (go_at_call 63; exact Calls.bwd (spec_l02Id.calls _ _ _ e1.out)) | (go_at_call 62; exact Calls.bwd (spec_l02Want.calls _ _ _ e3.out)) | (go_at_call 65; exact Calls.bwd (spec_l02Weight.calls _ _ _ e4.out)) | (go_at_call 64; exact Calls.bw (spec_l05Group.calls (l0_1.length + 1) a0_0 A0_1 c0_1 l0_1 (some ad2) c0_2 l0_2 _ _ _ (Kd.C_below (Kd.C_below HR1.out HB3.out) (BW.h _)) HC1.out (Kd.C_below (Kd.C_below HR2.out HB3.out) (BW.h _)) HC2.out e2.out))))
                            refine wpQuiet_nil ?_
                            intro _ hw'
                            obtain ⟨⟨w4, hb4⟩, hw''⟩ := hw'
                            subst hw''
                            have HB4 := Aside0.mk (below_then HB3.out HB3.out.size hb4)
                            have HK4 := Aside0.mk ((hb4.block _ (blk_lt HK3.out)).trans HK3.out)
                            clear hb4
                            go_wp2
                            go_roundg (l0_2.length - (i + 1))
                            case measure => omega
                            case rel => exact ⟨i + 1, by go_num, by omega, by omega, HB4, HK4, ⟨fun j hj => by
                              by_cases e : j = i
                              · rw [e, hG.out]; simp
                              · exact HG.out j (by omega)⟩⟩
                  · have hi1 : decide (0 < i) = true := decide_eq_true (by omega)
                    have hi2 : 0 < i := by omega
                    have hi3 : (0 : Int) ≤ (i : Int) - 1 := by omega
                    have hi4 : (i : Int) - 1 < (l0_2.length : Int) := by omega
                    obtain ⟨ad', e', hp0, _⟩ := at_T83 HR2.out ((i : Int) - 1) hi3 hi4
                    cases e'
                    rw [show ((i : Int) - 1).toNat = i - 1 by omega] at hp0
                    have fp := fun p : BW w3 => p.cell (pw_cell_below HB3.out hp0)
                    rw [show decide (i = 0) = false from decide_eq_false hi0, show rd_T83 l0_2 ((i - 1 : Nat) : Int) = rd_T83 l0_2 ((i : Int) - 1) by congr 1; omega] at hG
                    clear hp0 hi0
                    generalize (rd_T83 l0_2 ((i : Int) - 1)).f0 = pv at fp hG
                    by_cases hpv : pv < y.f0
                    · have hpv1 : decide (pv ≥ y.f0) = false := decide_eq_false (by omega)
                      have hpv2 : decide (y.f0 ≤ pv) = false := decide_eq_false (by omega)
                      rw [show decide (pv < y.f0) = true from decide_eq_true hpv] at hG
                      clear hpv
                      by_cases c8 : y.f1 = 0
                      · skip
                        have c8b : (y.f1 == 0) = true := beq_iff_eq.2 c8
                        have c8c : (y.f1 != 0) = false := by simp [c8]
                        rw [show decide (y.f1 = 0) = true from decide_eq_true c8] at hG
                        clear c8 hgi
                        cases c4 : hf_want y.f2 with
                        | false =>
                          rw [c4] at e3 hG
                          have C4 := Aside0.mk c4
                          clear c4
                          refine wp_region_bw (by kernel_rfl) (by kernel_rfl) ?_
                          repeat (go_big_quiet_step (first | (go_at_call 63; exact Calls.bwd (spec_l02Id.calls _ _ _ e1.out)) | (go_at_call 62; exact Calls.bwd (spec_l02Want.calls _ _ _ e3.out)) | (go_at_call 65; exact Calls.bwd (spec_l02Weight.calls _ _ _ e4.out)) | (go_at_call 64; exact Calls.bw (spec_l05Group.calls (l0_1.length + 1) a0_0 A0_1 c0_1 l0_1 (some ad2) c0_2 l0_2 _ _ _ (Kd.C_below (Kd.C_below HR1.out HB3.out) (BW.h _)) HC1.out (Kd.C_below (Kd.C_below HR2.out HB3.out) (BW.h _)) HC2.out e2.out))))
                          refine wpQuiet_nil ?_
                          intro _ hw'
                          obtain ⟨⟨w4, hb4⟩, hw''⟩ := hw'
                          subst hw''
                          have HB4 := Aside0.mk (below_then HB3.out HB3.out.size hb4)
                          have HK4 := Aside0.mk ((hb4.block _ (blk_lt HK3.out)).trans HK3.out)
                          clear hb4
                          go_wp2
                          go_ret
                          exact ⟨by rw [← H.out, all_range_false hlt (by rw [hG.out]; simp)]; simp, HB4.out⟩
                        | true =>
                          rw [c4] at e3 hG
                          have C4 := Aside0.mk c4
                          clear c4
                          cases c5 : hf_weight y.f3 with
                          | false =>
                            rw [c5] at e4 hG
                            have C5 := Aside0.mk c5
                            clear c5
                            refine wp_region_bw (by kernel_rfl) (by kernel_rfl) ?_
                            repeat (go_big_quiet_step (first | (go_at_call 63; exact Calls.bwd (spec_l02Id.calls _ _ _ e1.out)) | (go_at_call 62; exact Calls.bwd (spec_l02Want.calls _ _ _ e3.out)) | (go_at_call 65; exact Calls.bwd (spec_l02Weight.calls _ _ _ e4.out)) | (go_at_call 64; exact Calls.bw (spec_l05Group.calls (l0_1.length + 1) a0_0 A0_1 c0_1 l0_1 (some ad2) c0_2 l0_2 _ _ _ (Kd.C_below (Kd.C_below HR1.out HB3.out) (BW.h _)) HC1.out (Kd.C_below (Kd.C_below HR2.out HB3.out) (BW.h _)) HC2.out e2.out))))
                            refine wpQuiet_nil ?_
                            intro _ hw'
                            obtain ⟨⟨w4, hb4⟩, hw''⟩ := hw'
                            subst hw''
                            have HB4 := Aside0.mk (below_then HB3.out HB3.out.size hb4)
                            have HK4 := Aside0.mk ((hb4.block _ (blk_lt HK3.out)).trans HK3.out)
                            clear hb4
                            go_wp2
                            go_ret
                            exact ⟨by rw [← H.out, all_range_false hlt (by rw [hG.out]; simp)]; simp, HB4.out⟩
                          | true =>
                            rw [c5] at e4 hG
                            have C5 := Aside0.mk c5
                            clear c5
                            refine wp_region_bw (by kernel_rfl) (by kernel_rfl) ?_
                            repeat (go_big_quiet_step (first | (go_at_call 63; exact Calls.bwd (spec_l02Id.calls _ _ _ e1.out)) | (go_at_call 62; exact Calls.bwd (spec_l02Want.calls _ _ _ e3.out)) | (go_at_call 65; exact Calls.bwd (spec_l02Weight.calls _ _ _ e4.out)) | (go_at_call 64; exact Calls.bw (spec_l05Group.calls (l0_1.length + 1) a0_0 A0_1 c0_1 l0_1 (some ad2) c0_2 l0_2 _ _ _ (Kd.C_below (Kd.C_below HR1.out HB3.out) (BW.h _)) HC1.out (Kd.C_below (Kd.C_below HR2.out HB3.out) (BW.h _)) HC2.out e2.out))))
                            refine wpQuiet_nil ?_
                            intro _ hw'
                            obtain ⟨⟨w4, hb4⟩, hw''⟩ := hw'
                            subst hw''
                            have HB4 := Aside0.mk (below_then HB3.out HB3.out.size hb4)
                            have HK4 := Aside0.mk ((hb4.block _ (blk_lt HK3.out)).trans HK3.out)
                            clear hb4
                            go_wp2
                            go_roundg (l0_2.length - (i + 1))
                            case measure => omega
                            case rel => exact ⟨i + 1, by go_num, by omega, by omega, HB4, HK4, ⟨fun j hj => by
                              by_cases e : j = i
                              · rw [e, hG.out]; simp
                              · exact HG.out j (by omega)⟩⟩
                      · skip
                        have c8b : (y.f1 == 0) = false := beq_eq_false_iff_ne.2 c8
                        have c8c : (y.f1 != 0) = true := bne_iff_ne.2 c8
                        rw [show decide (y.f1 = 0) = false from decide_eq_false c8] at hG
                        clear c8
                        by_cases c7 : gr < 0
                        · skip
                          have c7b : decide (gr < 0) = true := decide_eq_true c7
                          rw [c7b] at hgi
                          have hgi2 : hs_in l0_1 y.f1 = false := by simpa using hgi.symm
                          rw [hgi2] at hG
                          clear c7 hgi hgi2
                          refine wp_region_bw (by kernel_rfl) (by kernel_rfl) ?_
                          repeat (go_big_quiet_step (first | (go_at_call 63; exact Calls.bwd (spec_l02Id.calls _ _ _ e1.out)) | (go_at_call 62; exact Calls.bwd (spec_l02Want.calls _ _ _ e3.out)) | (go_at_call 65; exact Calls.bwd (spec_l02Weight.calls _ _ _ e4.out)) | (go_at_call 64; exact Calls.bw (spec_l05Group.calls (l0_1.length + 1) a0_0 A0_1 c0_1 l0_1 (some ad2) c0_2 l0_2 _ _ _ (Kd.C_below (Kd.C_below HR1.out HB3.out) (BW.h _)) HC1.out (Kd.C_below (Kd.C_below HR2.out HB3.out) (BW.h _)) HC2.out e2.out))))
                          refine wpQuiet_nil ?_
                          intro _ hw'
                          obtain ⟨⟨w4, hb4⟩, hw''⟩ := hw'
                          subst hw''
                          have HB4 := Aside0.mk (below_then HB3.out HB3.out.size hb4)
                          have HK4 := Aside0.mk ((hb4.block _ (blk_lt HK3.out)).trans HK3.out)
                          clear hb4
                          go_wp2
                          go_ret
                          exact ⟨by rw [← H.out, all_range_false hlt (by rw [hG.out]; simp)]; simp, HB4.out⟩
                        · skip
                          have c7b : decide (gr < 0) = false := decide_eq_false c7
                          rw [c7b] at hgi
                          have hgi2 : hs_in l0_1 y.f1 = true := by simpa using hgi.symm
                          rw [hgi2] at hG
                          clear c7 hgi hgi2
                          cases c4 : hf_want y.f2 with
                          | false =>
                            rw [c4] at e3 hG
                            have C4 := Aside0.mk c4
                            clear c4
                            refine wp_region_bw (by kernel_rfl) (by kernel_rfl) ?_
                            repeat (go_big_quiet_step (first | (go_at_call 63; exact Calls.bwd (spec_l02Id.calls _ _ _ e1.out)) | (go_at_call 62; exact Calls.bwd (spec_l02Want.calls _ _ _ e3.out)) | (go_at_call 65; exact Calls.bwd (spec_l02Weight.calls _ _ _ e4.out)) | (go_at_call 64; exact Calls.bw (spec_l05Group.calls (l0_1.length + 1) a0_0 A0_1 c0_1 l0_1 (some ad2) c0_2 l0_2 _ _ _ (Kd.C_below (Kd.C_below HR1.out HB3.out) (BW.h _)) HC1.out (Kd.C_below (Kd.C_below HR2.out HB3.out) (BW.h _)) HC2.out e2.out))))
                            refine wpQuiet_nil ?_
                            intro _ hw'
                            obtain ⟨⟨w4, hb4⟩, hw''⟩ := hw'
                            subst hw''
                            have HB4 := Aside0.mk (below_then HB3.out HB3.out.size hb4)
                            have HK4 := Aside0.mk ((hb4.block _ (blk_lt HK3.out)).trans HK3.out)
                            clear hb4
                            go_wp2
                            go_ret
                            exact ⟨by rw [← H.out, all_range_false hlt (by rw [hG.out]; simp)]; simp, HB4.out⟩
                          | true =>
                            rw [c4] at e3 hG
                            have C4 := Aside0.mk c4
                            clear c4
                            cases c5 : hf_weight y.f3 with
                            | false =>
                              rw [c5] at e4 hG
                              have C5 := Aside0.mk c5
                              clear c5
                              refine wp_region_bw (by kernel_rfl) (by kernel_rfl) ?_
                              repeat (go_big_quiet_step (first | (go_at_call 63; exact Calls.bwd (spec_l02Id.calls _ _ _ e1.out)) | (go_at_call 62; exact Calls.bwd (spec_l02Want.calls _ _ _ e3.out)) | (go_at_call 65; exact Calls.bwd (spec_l02Weight.calls _ _ _ e4.out)) | (go_at_call 64; exact Calls.bw (spec_l05Group.calls (l0_1.length + 1) a0_0 A0_1 c0_1 l0_1 (some ad2) c0_2 l0_2 _ _ _ (Kd.C_below (Kd.C_below HR1.out HB3.out) (BW.h _)) HC1.out (Kd.C_below (Kd.C_below HR2.out HB3.out) (BW.h _)) HC2.out e2.out))))
                              refine wpQuiet_nil ?_
                              intro _ hw'
                              obtain ⟨⟨w4, hb4⟩, hw''⟩ := hw'
                              subst hw''
                              have HB4 := Aside0.mk (below_then HB3.out HB3.out.size hb4)
                              have HK4 := Aside0.mk ((hb4.block _ (blk_lt HK3.out)).trans HK3.out)
                              clear hb4
                              go_wp2
                              go_ret
                              exact ⟨by rw [← H.out, all_range_false hlt (by rw [hG.out]; simp)]; simp, HB4.out⟩
                            | true =>
                              rw [c5] at e4 hG
                              have C5 := Aside0.mk c5
                              clear c5
                              refine wp_region_bw (by kernel_rfl) (by kernel_rfl) ?_
                              repeat (go_big_quiet_step (first | (go_at_call 63; exact Calls.bwd (spec_l02Id.calls _ _ _ e1.out)) | (go_at_call 62; exact Calls.bwd (spec_l02Want.calls _ _ _ e3.out)) | (go_at_call 65; exact Calls.bwd (spec_l02Weight.calls _ _ _ e4.out)) | (go_at_call 64; exact Calls.bw (spec_l05Group.calls (l0_1.length + 1) a0_0 A0_1 c0_1 l0_1 (some ad2) c0_2 l0_2 _ _ _ (Kd.C_below (Kd.C_below HR1.out HB3.out) (BW.h _)) HC1.out (Kd.C_below (Kd.C_below HR2.out HB3.out) (BW.h _)) HC2.out e2.out))))
                              refine wpQuiet_nil ?_
                              intro _ hw'
                              obtain ⟨⟨w4, hb4⟩, hw''⟩ := hw'
                              subst hw''
                              have HB4 := Aside0.mk (below_then HB3.out HB3.out.size hb4)
                              have HK4 := Aside0.mk ((hb4.block _ (blk_lt HK3.out)).trans HK3.out)
                              clear hb4
                              go_wp2
                              go_roundg (l0_2.length - (i + 1))
                              case measure => omega
                              case rel => exact ⟨i + 1, by go_num, by omega, by omega, HB4, HK4, ⟨fun j hj => by
                                by_cases e : j = i
                                · rw [e, hG.out]; simp
                                · exact HG.out j (by omega)⟩⟩
                    · have hpv1 : decide (pv ≥ y.f0) = true := decide_eq_true (by omega)
                      have hpv2 : decide (y.f0 ≤ pv) = true := decide_eq_true (by omega)
                      rw [show decide (pv < y.f0) = false from decide_eq_false hpv] at hG
                      clear hpv
                      refine wp_region_bw (by kernel_rfl) (by kernel_rfl) ?_
                      repeat (go_big_quiet_step (first | (go_at_call 63; exact Calls.bwd (spec_l02Id.calls _ _ _ e1.out)) | (go_at_call 62; exact Calls.bwd (spec_l02Want.calls _ _ _ e3.out)) | (go_at_call 65; exact Calls.bwd (spec_l02Weight.calls _ _ _ e4.out)) | (go_at_call 64; exact Calls.bw (spec_l05Group.calls (l0_1.length + 1) a0_0 A0_1 c0_1 l0_1 (some ad2) c0_2 l0_2 _ _ _ (Kd.C_below (Kd.C_below HR1.out HB3.out) (BW.h _)) HC1.out (Kd.C_below (Kd.C_below HR2.out HB3.out) (BW.h _)) HC2.out e2.out))))
                      refine wpQuiet_nil ?_
                      intro _ hw'
                      obtain ⟨⟨w4, hb4⟩, hw''⟩ := hw'
                      subst hw''
                      have HB4 := Aside0.mk (below_then HB3.out HB3.out.size hb4)
                      have HK4 := Aside0.mk ((hb4.block _ (blk_lt HK3.out)).trans HK3.out)
                      clear hb4
                      go_wp2
                      go_ret
                      exact ⟨by rw [← H.out, all_range_false hlt (by rw [hG.out]; simp)]; simp, HB4.out⟩
              · have hie : i = l0_2.length := by omega
                subst hie
                have hltz : ¬ (l0_2.length : Int) < (l0_2.length : Int) := by omega
                go_wp2
                go_ret
                exact ⟨by rw [← H.out, all_range_true HG.out]; rfl, HB.out⟩
      · have h1z : ¬ ((l0_1.length : Nat) : Int) > 30 := by omega
        have h2z : ((l0_2.length : Nat) : Int) > 60 := by omega
        go_enter Try.func32, Try.ntmps32
        go_wp2_with (go_at_call 62; refine (spec_l02Want.calls _ _ _ E1.out).mono ?_; rintro e w1 ⟨rfl, ⟨n, rfl⟩⟩)
        go_ret
        exact ⟨by rw [← H.out]; simp [h2], pw_below_drewN ((Below.refl _ _).alloc (Nat.le_refl _) _) _⟩
    · have h1z : ((l0_1.length : Nat) : Int) > 30 := by omega
      go_enter Try.func32, Try.ntmps32
      go_wp2_with (go_at_call 62; refine (spec_l02Want.calls _ _ _ E1.out).mono ?_; rintro e w1 ⟨rfl, ⟨n, rfl⟩⟩)
      go_ret
      exact ⟨by rw [← H.out]; simp [h1], pw_below_drewN ((Below.refl _ _).alloc (Nat.le_refl _) _) _⟩

end Go.Proofs.Ythpggkpidbieeaa.XFnExactFarmPath
