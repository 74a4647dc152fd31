/- Functions that FnExactFarmRight comes to, as Lean functions with their contracts: written by the prover's own program (wip/tpl/myprint.py) over the kit's printer, some contracts by hand. Conditions: none. -/
import Derived.Test.YthpggkpidbieeaaXFnExactFarmRightx0
import Derived.Test.YthpggkpidbieeaaXFnExactFarmRightx2
import Derived.Test.YthpggkpidbieeaaXFnExactFarmRightx3
namespace Go.Proofs.Ythpggkpidbieeaa.XFnExactFarmRight
open Go.RowKit Go.Proofs.YthpggkpidbieeaaW.PrintWords Go.Proofs.YthpggkpidbieeaaW.PrintLast Go.Proofs.YthpggkpidbieeaaW.PrintMore
attribute [local go_sem] max2_int min2_int max_two min_two max_three min_three max_four min_four   -- for this text's walks alone
set_option linter.unusedVariables false
set_option linter.unusedSimpArgs false

/-! ### impl_FarmRight: function 34 -/
theorem hf_in (a b c : Int) : impl_in.f a b c = some (decide (b ≤ a ∧ a ≤ c)) := by
  unfold impl_in.f
  by_cases h : b ≤ a <;> simp [h]
theorem hf_id_eq (a : Int) : impl_isId.f a = some (hf_id a) := by simp [impl_isId.f, hf_in, hf_id]
theorem hf_want_eq (a : Int) : impl_isWant.f a = some (hf_want a) := by simp [impl_isWant.f, hf_in, hf_want]
theorem hf_weight_eq (a : Int) : impl_isWeight.f a = some (hf_weight a) := by simp [impl_isWeight.f, hf_in, hf_weight]
def hf_has (l : List S80) (id : Int) : Bool := is_Group l id || id == 0
theorem hf_has_eq (a : Int) (l : List S80) (m : List S83) (id : Int) (hl : l.length ≤ 4611686018427387904) : impl_Farm_hasGroup.f a l m id = some (hf_has l id) := by
  unfold impl_Farm_hasGroup.f impl_Farm_group.f hf_has
  rw [if_pos hl]
  simp only [Option.bind_some]
  cases is_Group l id <;> simp
def impl_FarmRight.g (l : List S80) (i : Nat) : Bool := hf_id (rd_T80 l i).f0 && ((decide (i = 0) || decide ((rd_T80 l ((i - 1 : Nat) : Int)).f0 < (rd_T80 l i).f0)) && (hf_has (l.take i) (rd_T80 l i).f1 && (hf_want (rd_T80 l i).f2 && hf_weight (rd_T80 l i).f3)))
def impl_FarmRight.m (l : List S80) (m : List S83) (i : Nat) : Bool := hf_id (rd_T83 m i).f0 && ((decide (i = 0) || decide ((rd_T83 m ((i - 1 : Nat) : Int)).f0 < (rd_T83 m i).f0)) && (hf_has l (rd_T83 m i).f1 && (hf_want (rd_T83 m i).f2 && hf_weight (rd_T83 m i).f3)))
def impl_FarmRight.f (a0_0 : Int) (l0_1 : List S80) (l0_2 : List S83) : Option Bool :=
  some (hf_want a0_0 && (decide (l0_1.length ≤ 30) && (decide (l0_2.length ≤ 60) && ((List.range l0_1.length).all (impl_FarmRight.g l0_1) && (List.range l0_2.length).all (impl_FarmRight.m l0_1 l0_2)))))
set_option maxHeartbeats 32000000 in
set_option maxRecDepth 100000 in
theorem impl_FarmRight.calls (a0_0 : Int) (A0_1 : Option Addr) (c0_1 : Nat) (l0_1 : List (S80)) (A0_2 : Option Addr) (c0_2 : Nat) (l0_2 : List (S83)) (r : Bool) (w : World) (hr0_1 : Kd.C k80 w A0_1 l0_1.length l0_1) (hc0_1 : l0_1.length ≤ c0_1) (hr0_2 : Kd.C k83 w A0_2 l0_2.length l0_2) (hc0_2 : l0_2.length ≤ c0_2) (h : impl_FarmRight.f a0_0 l0_1 l0_2 = some r) :
    Calls Try.prog 34 #[.agg #[.int .i64 a0_0, .slice A0_1 l0_1.length c0_1, .slice A0_2 l0_2.length c0_2]] w fun e w' => e = .returned (.bool r) ∧ Below w.heap.size w w' := by
  have hu1 := Try.underlying55
  have hu2 := Try.underlying80
  have hu3 := Try.underlying83
  have HR1 := Aside0.mk hr0_1
  have HR2 := Aside0.mk hr0_2
  have HC1 := Aside0.mk hc0_1
  have HC2 := Aside0.mk hc0_2
  have H := Aside0.mk (Option.some.inj h)
  clear h hr0_1 hr0_2 hc0_2
  have E1 := Aside0.mk (hf_want_eq a0_0)
  cases hw : hf_want a0_0 with
  | false =>
    rw [hw] at E1 H
    have HW := Aside0.mk hw
    clear hw
    go_enter Try.func34, Try.ntmps34
    go_wp2_with (go_at_call 59; refine (impl_isWant.calls _ _ _ E1.out).mono ?_; rintro e w1 ⟨rfl, ⟨n, rfl⟩⟩)
    go_ret
    exact ⟨by rw [← H.out]; rfl, pw_below_drewN ((Below.refl _ _).alloc (Nat.le_refl _) _) _⟩
  | true =>
    rw [hw] at E1 H
    have HW := Aside0.mk hw
    clear hw
    by_cases h1 : l0_1.length ≤ 30
    · by_cases h2 : l0_2.length ≤ 60
      · have h1z : ¬ ((l0_1.length : Nat) : Int) > 30 := by omega
        have h2z : ¬ ((l0_2.length : Nat) : Int) > 60 := by omega
        replace H := Aside0.mk (show ((List.range l0_1.length).all (impl_FarmRight.g l0_1) && (List.range l0_2.length).all (impl_FarmRight.m l0_1 l0_2)) = r by rw [← H.out]; simp [h1, h2])
        go_enter Try.func34, Try.ntmps34
        go_wp2_with (go_at_call 59; refine (impl_isWant.calls _ _ _ E1.out).mono ?_; rintro e w1 ⟨rfl, ⟨n, rfl⟩⟩)
        obtain ⟨w2, hw2⟩ : ∃ w2, w2 = (w.alloc (Obj.cells #[Value.int IntKind.i64 a0_0, Value.slice A0_1 l0_1.length c0_1, Value.slice A0_2 l0_2.length c0_2] 55)).drewN n := ⟨_, rfl⟩
        have hbk := Aside0.mk (show w2.heap[w.heap.size]? = some (Obj.cells #[Value.int IntKind.i64 a0_0, Value.slice A0_1 l0_1.length c0_1, Value.slice A0_2 l0_2.length c0_2] 55) by rw [hw2]; exact heap_alloc_new w _)
        have HB2 := Aside0.mk (show Below w.heap.size w w2 by rw [hw2]; exact pw_below_drewN ((Below.refl _ _).alloc (Nat.le_refl _) _) _)
        rw [← hw2]
        clear hw2
        go_loopg [3, 4, 5, 27] l0_1.length (fun gg _ _ _ s27 wr => ∃ i : Nat, s27 = .int .i64 i ∧ i ≤ l0_1.length ∧ l0_1.length - i ≤ gg ∧ Aside0 (Below w.heap.size w wr) ∧ Aside0 (wr.heap[w.heap.size]? = some (Obj.cells #[Value.int IntKind.i64 a0_0, Value.slice A0_1 l0_1.length c0_1, Value.slice A0_2 l0_2.length c0_2] 55)) ∧ Aside0 (∀ j, j < i → impl_FarmRight.g l0_1 j = true))
        case atStart => exact ⟨0, rfl, Nat.zero_le _, by omega, HB2, hbk, ⟨fun j hj => absurd hj (Nat.not_lt_zero _)⟩⟩
        case round =>
          clear hbk HB2
          obtain ⟨i, rfl, hil, hg, HB, HK, HG⟩ := hrel
          have hk0 := blk_cell HK.out 0
          have hk1 := blk_cell HK.out 1
          have hk2 := blk_cell HK.out 2
          simp only [List.getElem?_toArray, List.getElem?_cons_zero, List.getElem?_cons_succ] at hk0 hk1 hk2
          have hsz : w.heap.size < wr.heap.size := blk_lt HK.out
          by_cases hlt : i < l0_1.length
          · have hltz : (i : Int) < (l0_1.length : Int) := by omega
            obtain ⟨ad1, e, hx0, hx1, hx2, hx3⟩ := at_T80 HR1.out (i : Int) (by omega) (by omega)
            cases e
            replace hx0 := pw_cell_below HB.out hx0
            replace hx1 := pw_cell_below HB.out hx1
            replace hx2 := pw_cell_below HB.out hx2
            replace hx3 := pw_cell_below HB.out hx3
            simp only [Int.toNat_natCast] at hx0 hx1 hx2 hx3
            obtain ⟨y, hy⟩ : ∃ y, y = rd_T80 l0_1 (i : Int) := ⟨_, rfl⟩
            rw [← hy] at hx0 hx1 hx2 hx3
            have HY := Aside0.mk hy
            clear hy
            go_wp2_with fail
            obtain ⟨w3, hw3⟩ : ∃ w3, w3 = (wr.alloc (Obj.cells #[Value.int IntKind.i64 y.f0, Value.int IntKind.i64 y.f1, Value.int IntKind.i64 y.f2, Value.int IntKind.i64 y.f3] 80)).alloc (Obj.cells #[Value.int IntKind.i64 0, Value.slice (some ad1) i c0_1, Value.slice none 0 0] 55) := ⟨_, rfl⟩
            rw [← hw3]
            have hb80 : w3.heap[wr.heap.size]? = some (Obj.cells #[Value.int IntKind.i64 y.f0, Value.int IntKind.i64 y.f1, Value.int IntKind.i64 y.f2, Value.int IntKind.i64 y.f3] 80 (0, 0)) := by rw [hw3]; exact (Below.heap_alloc _ _ _ (by simp)).trans (heap_alloc_new wr _)
            have hb55 : w3.heap[wr.heap.size + 1]? = some (Obj.cells #[Value.int IntKind.i64 0, Value.slice (some ad1) i c0_1, Value.slice none 0 0] 55 (0, 0)) := by
              have := heap_alloc_new (wr.alloc (Obj.cells #[Value.int IntKind.i64 y.f0, Value.int IntKind.i64 y.f1, Value.int IntKind.i64 y.f2, Value.int IntKind.i64 y.f3] 80)) (Obj.cells #[Value.int IntKind.i64 0, Value.slice (some ad1) i c0_1, Value.slice none 0 0] 55)
              rw [← hw3] at this
              simpa using this
            have hB3 : Below wr.heap.size wr w3 := by rw [hw3]; exact ((Below.refl _ _).alloc (Nat.le_refl _) _).alloc (by simp) _
            have HB3 := Aside0.mk (HB.out.trans (hB3.mono (by omega)))
            have HK3 := Aside0.mk ((hB3.block _ hsz).trans HK.out)
            have f80_0 : ∀ p : BW w3, p.W.cell? ⟨wr.heap.size, 0, none⟩ = some (.int .i64 y.f0) := fun p => p.cell (blk_cell hb80 0)
            have f80_1 : ∀ p : BW w3, p.W.cell? ⟨wr.heap.size, 1, none⟩ = some (.int .i64 y.f1) := fun p => p.cell (blk_cell hb80 1)
            have f80_2 : ∀ p : BW w3, p.W.cell? ⟨wr.heap.size, 2, none⟩ = some (.int .i64 y.f2) := fun p => p.cell (blk_cell hb80 2)
            have f80_3 : ∀ p : BW w3, p.W.cell? ⟨wr.heap.size, 3, none⟩ = some (.int .i64 y.f3) := fun p => p.cell (blk_cell hb80 3)
            have f55_0 : ∀ p : BW w3, p.W.cell? ⟨wr.heap.size + 1, 0, none⟩ = some (.int .i64 0) := fun p => p.cell (blk_cell hb55 0)
            have f55_1 : ∀ p : BW w3, p.W.cell? ⟨wr.heap.size + 1, 1, none⟩ = some (.slice (some ad1) i c0_1) := fun p => p.cell (blk_cell hb55 1)
            have f55_2 : ∀ p : BW w3, p.W.cell? ⟨wr.heap.size + 1, 2, none⟩ = some (.slice none 0 0) := fun p => p.cell (blk_cell hb55 2)
            have ff_0 : ∀ p : BW w3, p.W.cell? ⟨w.heap.size, 0, none⟩ = some (.int .i64 a0_0) := fun p => p.cell (blk_cell HK3.out 0)
            have ff_1 : ∀ p : BW w3, p.W.cell? ⟨w.heap.size, 1, none⟩ = some (.slice (some ad1) l0_1.length c0_1) := fun p => p.cell (blk_cell HK3.out 1)
            have ff_2 : ∀ p : BW w3, p.W.cell? ⟨w.heap.size, 2, none⟩ = some (.slice A0_2 l0_2.length c0_2) := fun p => p.cell (blk_cell HK3.out 2)
            have e1 := Aside0.mk (hf_id_eq y.f0)
            have e3 := Aside0.mk (hf_want_eq y.f2)
            have e4 := Aside0.mk (hf_weight_eq y.f3)
            have e2 := Aside0.mk (hf_has_eq 0 (l0_1.take i) [] y.f1 (by simp; omega))
            have hG := Aside0.mk (show impl_FarmRight.g l0_1 i = (hf_id y.f0 && ((decide (i = 0) || decide ((rd_T80 l0_1 ((i - 1 : Nat) : Int)).f0 < y.f0)) && (hf_has (l0_1.take i) y.f1 && (hf_want y.f2 && hf_weight y.f3)))) by rw [HY.out]; rfl)
            clear hw3 hb80 hb55 hB3 hx0 hx1 hx2 hx3 hk0 hk1 hk2
            have hti := Aside0.mk (show (l0_1.take i).length = i by simp; omega)
            have hCi := Aside0.mk (show Kd.C k80 w (some ad1) (l0_1.take i).length (l0_1.take i) from Kd.C_take HR1.out (by omega))
            cases c1 : hf_id y.f0 with
            | false =>
              rw [c1] at e1 hG
              have C1 := Aside0.mk c1
              clear c1
              refine wp_region_bw (by kernel_rfl) (by kernel_rfl) ?_
              repeat (go_big_quiet_step (first | (go_at_call 68; exact Calls.bwd (impl_isId.calls _ _ _ e1.out)) | (go_at_call 59; exact Calls.bwd (impl_isWant.calls _ _ _ e3.out)) | (go_at_call 70; exact Calls.bwd (impl_isWeight.calls _ _ _ e4.out)) | (go_at_call 69; exact Calls.bw (calls_of_args (by rw [hti.out]; rfl) (impl_Farm_hasGroup.calls 0 (some ad1) c0_1 (l0_1.take i) none 0 [] _ _ _ (Kd.C_below (Kd.C_below hCi.out HB3.out) (BW.h _)) (by rw [hti.out]; have := HC1.out; omega) (Kd.C_nil _ _) (Nat.le_refl _) e2.out)))))
              refine wpQuiet_nil ?_
              intro _ hw'
              obtain ⟨⟨w4, hb4⟩, hw''⟩ := hw'
              subst hw''
              have HB4 := Aside0.mk (below_then HB3.out HB3.out.size hb4)
              have HK4 := Aside0.mk ((hb4.block _ (blk_lt HK3.out)).trans HK3.out)
              clear hb4
              go_wp2
              go_ret
              exact ⟨by rw [← H.out, all_range_false hlt (by rw [hG.out]; simp)]; rfl, HB4.out⟩
            | true =>
              rw [c1] at e1 hG
              have C1 := Aside0.mk c1
              clear c1
              by_cases hi0 : i = 0
              · have hi1 : decide (0 < i) = false := decide_eq_false (by omega)
                rw [show decide (i = 0) = true from decide_eq_true hi0] at hG
                have HI0 := Aside0.mk hi0
                clear hi0
                cases c3 : hf_has (l0_1.take i) y.f1 with
                | false =>
                  rw [c3] at e2 hG
                  have C3 := Aside0.mk c3
                  clear c3
                  refine wp_region_bw (by kernel_rfl) (by kernel_rfl) ?_
                  repeat (go_big_quiet_step (first | (go_at_call 68; exact Calls.bwd (impl_isId.calls _ _ _ e1.out)) | (go_at_call 59; exact Calls.bwd (impl_isWant.calls _ _ _ e3.out)) | (go_at_call 70; exact Calls.bwd (impl_isWeight.calls _ _ _ e4.out)) | (go_at_call 69; exact Calls.bw (calls_of_args (by rw [hti.out]; rfl) (impl_Farm_hasGroup.calls 0 (some ad1) c0_1 (l0_1.take i) none 0 [] _ _ _ (Kd.C_below (Kd.C_below hCi.out HB3.out) (BW.h _)) (by rw [hti.out]; have := HC1.out; omega) (Kd.C_nil _ _) (Nat.le_refl _) e2.out)))))
                  refine wpQuiet_nil ?_
                  intro _ hw'
                  obtain ⟨⟨w4, hb4⟩, hw''⟩ := hw'
                  subst hw''
                  have HB4 := Aside0.mk (below_then HB3.out HB3.out.size hb4)
                  have HK4 := Aside0.mk ((hb4.block _ (blk_lt HK3.out)).trans HK3.out)
                  clear hb4
                  go_wp2
                  go_ret
                  exact ⟨by rw [← H.out, all_range_false hlt (by rw [hG.out]; simp)]; rfl, HB4.out⟩
                | true =>
                  rw [c3] at e2 hG
                  have C3 := Aside0.mk c3
                  clear c3
                  cases c4 : hf_want y.f2 with
                  | false =>
                    rw [c4] at e3 hG
                    have C4 := Aside0.mk c4
                    clear c4
                    refine wp_region_bw (by kernel_rfl) (by kernel_rfl) ?_
                    repeat (go_big_quiet_step (first | (go_at_call 68; exact Calls.bwd (impl_isId.calls _ _ _ e1.out)) | (go_at_call 59; exact Calls.bwd (impl_isWant.calls _ _ _ e3.out)) | (go_at_call 70; exact Calls.bwd (impl_isWeight.calls _ _ _ e4.out)) | (go_at_call 69; exact Calls.bw (calls_of_args (by rw [hti.out]; rfl) (impl_Farm_hasGroup.calls 0 (some ad1) c0_1 (l0_1.take i) none 0 [] _ _ _ (Kd.C_below (Kd.C_below hCi.out HB3.out) (BW.h _)) (by rw [hti.out]; have := HC1.out; omega) (Kd.C_nil _ _) (Nat.le_refl _) e2.out)))))
                    refine wpQuiet_nil ?_
                    intro _ hw'
                    obtain ⟨⟨w4, hb4⟩, hw''⟩ := hw'
                    subst hw''
                    have HB4 := Aside0.mk (below_then HB3.out HB3.out.size hb4)
                    have HK4 := Aside0.mk ((hb4.block _ (blk_lt HK3.out)).trans HK3.out)
                    clear hb4
                    go_wp2
                    go_ret
                    exact ⟨by rw [← H.out, all_range_false hlt (by rw [hG.out]; simp)]; rfl, HB4.out⟩
                  | true =>
                    rw [c4] at e3 hG
                    have C4 := Aside0.mk c4
                    clear c4
                    cases c5 : hf_weight y.f3 with
                    | false =>
                      rw [c5] at e4 hG
                      have C5 := Aside0.mk c5
                      clear c5
                      refine wp_region_bw (by kernel_rfl) (by kernel_rfl) ?_
                      repeat (go_big_quiet_step (first | (go_at_call 68; exact Calls.bwd (impl_isId.calls _ _ _ e1.out)) | (go_at_call 59; exact Calls.bwd (impl_isWant.calls _ _ _ e3.out)) | (go_at_call 70; exact Calls.bwd (impl_isWeight.calls _ _ _ e4.out)) | (go_at_call 69; exact Calls.bw (calls_of_args (by rw [hti.out]; rfl) (impl_Farm_hasGroup.calls 0 (some ad1) c0_1 (l0_1.take i) none 0 [] _ _ _ (Kd.C_below (Kd.C_below hCi.out HB3.out) (BW.h _)) (by rw [hti.out]; have := HC1.out; omega) (Kd.C_nil _ _) (Nat.le_refl _) e2.out)))))
                      refine wpQuiet_nil ?_
                      intro _ hw'
                      obtain ⟨⟨w4, hb4⟩, hw''⟩ := hw'
                      subst hw''
                      have HB4 := Aside0.mk (below_then HB3.out HB3.out.size hb4)
                      have HK4 := Aside0.mk ((hb4.block _ (blk_lt HK3.out)).trans HK3.out)
                      clear hb4
                      go_wp2
                      go_ret
                      exact ⟨by rw [← H.out, all_range_false hlt (by rw [hG.out]; simp)]; rfl, HB4.out⟩
                    | true =>
                      rw [c5] at e4 hG
                      have C5 := Aside0.mk c5
                      clear c5
                      refine wp_region_bw (by kernel_rfl) (by kernel_rfl) ?_
                      repeat (go_big_quiet_step (first | (go_at_call 68; exact Calls.bwd (impl_isId.calls _ _ _ e1.out)) | (go_at_call 59; exact Calls.bwd (impl_isWant.calls _ _ _ e3.out)) | (go_at_call 70; exact Calls.bwd (impl_isWeight.calls _ _ _ e4.out)) | (go_at_call 69; exact Calls.bw (calls_of_args (by rw [hti.out]; rfl) (impl_Farm_hasGroup.calls 0 (some ad1) c0_1 (l0_1.take i) none 0 [] _ _ _ (Kd.C_below (Kd.C_below hCi.out HB3.out) (BW.h _)) (by rw [hti.out]; have := HC1.out; omega) (Kd.C_nil _ _) (Nat.le_refl _) e2.out)))))
                      refine wpQuiet_nil ?_
                      intro _ hw'
                      obtain ⟨⟨w4, hb4⟩, hw''⟩ := hw'
                      subst hw''
                      have HB4 := Aside0.mk (below_then HB3.out HB3.out.size hb4)
                      have HK4 := Aside0.mk ((hb4.block _ (blk_lt HK3.out)).trans HK3.out)
                      clear hb4
                      go_wp2
                      go_roundg (l0_1.length - (i + 1))
                      case measure => omega
                      case rel => exact ⟨i + 1, by go_num, by omega, by omega, HB4, HK4, ⟨fun j hj => by
                        by_cases e : j = i
                        · rw [e, hG.out]; simp
                        · exact HG.out j (by omega)⟩⟩
              · have hi1 : decide (0 < i) = true := decide_eq_true (by omega)
                have hi2 : 0 < i := by omega
                have hi3 : (0 : Int) ≤ (i : Int) - 1 := by omega
                have hi4 : (i : Int) - 1 < (l0_1.length : Int) := by omega
                obtain ⟨ad', e', hp0, _⟩ := at_T80 HR1.out ((i : Int) - 1) hi3 hi4
                cases e'
                rw [show ((i : Int) - 1).toNat = i - 1 by omega] at hp0
                have fp := fun p : BW w3 => p.cell (pw_cell_below HB3.out hp0)
                rw [show decide (i = 0) = false from decide_eq_false hi0, show rd_T80 l0_1 ((i - 1 : Nat) : Int) = rd_T80 l0_1 ((i : Int) - 1) by congr 1; omega] at hG
                clear hp0 hi0
                generalize (rd_T80 l0_1 ((i : Int) - 1)).f0 = pv at fp hG
                by_cases hpv : pv < y.f0
                · have hpv1 : decide (pv ≥ y.f0) = false := decide_eq_false (by omega)
                  have hpv2 : decide (y.f0 ≤ pv) = false := decide_eq_false (by omega)
                  rw [show decide (pv < y.f0) = true from decide_eq_true hpv] at hG
                  clear hpv
                  cases c3 : hf_has (l0_1.take i) y.f1 with
                  | false =>
                    rw [c3] at e2 hG
                    have C3 := Aside0.mk c3
                    clear c3
                    refine wp_region_bw (by kernel_rfl) (by kernel_rfl) ?_
                    repeat (go_big_quiet_step (first | (go_at_call 68; exact Calls.bwd (impl_isId.calls _ _ _ e1.out)) | (go_at_call 59; exact Calls.bwd (impl_isWant.calls _ _ _ e3.out)) | (go_at_call 70; exact Calls.bwd (impl_isWeight.calls _ _ _ e4.out)) | (go_at_call 69; exact Calls.bw (calls_of_args (by rw [hti.out]; rfl) (impl_Farm_hasGroup.calls 0 (some ad1) c0_1 (l0_1.take i) none 0 [] _ _ _ (Kd.C_below (Kd.C_below hCi.out HB3.out) (BW.h _)) (by rw [hti.out]; have := HC1.out; omega) (Kd.C_nil _ _) (Nat.le_refl _) e2.out)))))
                    refine wpQuiet_nil ?_
                    intro _ hw'
                    obtain ⟨⟨w4, hb4⟩, hw''⟩ := hw'
                    subst hw''
                    have HB4 := Aside0.mk (below_then HB3.out HB3.out.size hb4)
                    have HK4 := Aside0.mk ((hb4.block _ (blk_lt HK3.out)).trans HK3.out)
                    clear hb4
                    go_wp2
                    go_ret
                    exact ⟨by rw [← H.out, all_range_false hlt (by rw [hG.out]; simp)]; rfl, HB4.out⟩
                  | true =>
                    rw [c3] at e2 hG
                    have C3 := Aside0.mk c3
                    clear c3
                    cases c4 : hf_want y.f2 with
                    | false =>
                      rw [c4] at e3 hG
                      have C4 := Aside0.mk c4
                      clear c4
                      refine wp_region_bw (by kernel_rfl) (by kernel_rfl) ?_
                      repeat (go_big_quiet_step (first | (go_at_call 68; exact Calls.bwd (impl_isId.calls _ _ _ e1.out)) | (go_at_call 59; exact Calls.bwd (impl_isWant.calls _ _ _ e3.out)) | (go_at_call 70; exact Calls.bwd (impl_isWeight.calls _ _ _ e4.out)) | (go_at_call 69; exact Calls.bw (calls_of_args (by rw [hti.out]; rfl) (impl_Farm_hasGroup.calls 0 (some ad1) c0_1 (l0_1.take i) none 0 [] _ _ _ (Kd.C_below (Kd.C_below hCi.out HB3.out) (BW.h _)) (by rw [hti.out]; have := HC1.out; omega) (Kd.C_nil _ _) (Nat.le_refl _) e2.out)))))
                      refine wpQuiet_nil ?_
                      intro _ hw'
                      obtain ⟨⟨w4, hb4⟩, hw''⟩ := hw'
                      subst hw''
                      have HB4 := Aside0.mk (below_then HB3.out HB3.out.size hb4)
                      have HK4 := Aside0.mk ((hb4.block _ (blk_lt HK3.out)).trans HK3.out)
                      clear hb4
                      go_wp2
                      go_ret
                      exact ⟨by rw [← H.out, all_range_false hlt (by rw [hG.out]; simp)]; rfl, HB4.out⟩
                    | true =>
                      rw [c4] at e3 hG
                      have C4 := Aside0.mk c4
                      clear c4
                      cases c5 : hf_weight y.f3 with
                      | false =>
                        rw [c5] at e4 hG
                        have C5 := Aside0.mk c5
                        clear c5
                        refine wp_region_bw (by kernel_rfl) (by kernel_rfl) ?_
                        repeat (go_big_quiet_step (first | (go_at_call 68; exact Calls.bwd (impl_isId.calls _ _ _ e1.out)) | (go_at_call 59; exact Calls.bwd (impl_isWant.calls _ _ _ e3.out)) | (go_at_call 70; exact Calls.bwd (impl_isWeight.calls _ _ _ e4.out)) | (go_at_call 69; exact Calls.bw (calls_of_args (by rw [hti.out]; rfl) (impl_Farm_hasGroup.calls 0 (some ad1) c0_1 (l0_1.take i) none 0 [] _ _ _ (Kd.C_below (Kd.C_below hCi.out HB3.out) (BW.h _)) (by rw [hti.out]; have := HC1.out; omega) (Kd.C_nil _ _) (Nat.le_refl _) e2.out)))))
                        refine wpQuiet_nil ?_
                        intro _ hw'
                        obtain ⟨⟨w4, hb4⟩, hw''⟩ := hw'
                        subst hw''
                        have HB4 := Aside0.mk (below_then HB3.out HB3.out.size hb4)
                        have HK4 := Aside0.mk ((hb4.block _ (blk_lt HK3.out)).trans HK3.out)
                        clear hb4
                        go_wp2
                        go_ret
                        exact ⟨by rw [← H.out, all_range_false hlt (by rw [hG.out]; simp)]; rfl, HB4.out⟩
                      | true =>
                        rw [c5] at e4 hG
                        have C5 := Aside0.mk c5
                        clear c5
                        refine wp_region_bw (by kernel_rfl) (by kernel_rfl) ?_
                        repeat (go_big_quiet_step (first | (go_at_call 68; exact Calls.bwd (impl_isId.calls _ _ _ e1.out)) | (go_at_call 59; exact Calls.bwd (impl_isWant.calls _ _ _ e3.out)) | (go_at_call 70; exact Calls.bwd (impl_isWeight.calls _ _ _ e4.out)) | (go_at_call 69; exact Calls.bw (calls_of_args (by rw [hti.out]; rfl) (impl_Farm_hasGroup.calls 0 (some ad1) c0_1 (l0_1.take i) none 0 [] _ _ _ (Kd.C_below (Kd.C_below hCi.out HB3.out) (BW.h _)) (by rw [hti.out]; have := HC1.out; omega) (Kd.C_nil _ _) (Nat.le_refl _) e2.out)))))
                        refine wpQuiet_nil ?_
                        intro _ hw'
                        obtain ⟨⟨w4, hb4⟩, hw''⟩ := hw'
                        subst hw''
                        have HB4 := Aside0.mk (below_then HB3.out HB3.out.size hb4)
                        have HK4 := Aside0.mk ((hb4.block _ (blk_lt HK3.out)).trans HK3.out)
                        clear hb4
                        go_wp2
                        go_roundg (l0_1.length - (i + 1))
                        case measure => omega
                        case rel => exact ⟨i + 1, by go_num, by omega, by omega, HB4, HK4, ⟨fun j hj => by
                          by_cases e : j = i
                          · rw [e, hG.out]; simp
                          · exact HG.out j (by omega)⟩⟩
                · have hpv1 : decide (pv ≥ y.f0) = true := decide_eq_true (by omega)
                  have hpv2 : decide (y.f0 ≤ pv) = true := decide_eq_true (by omega)
                  rw [show decide (pv < y.f0) = false from decide_eq_false hpv] at hG
                  clear hpv
                  refine wp_region_bw (by kernel_rfl) (by kernel_rfl) ?_
                  repeat (go_big_quiet_step (first | (go_at_call 68; exact Calls.bwd (impl_isId.calls _ _ _ e1.out)) | (go_at_call 59; exact Calls.bwd (impl_isWant.calls _ _ _ e3.out)) | (go_at_call 70; exact Calls.bwd (impl_isWeight.calls _ _ _ e4.out)) | (go_at_call 69; exact Calls.bw (calls_of_args (by rw [hti.out]; rfl) (impl_Farm_hasGroup.calls 0 (some ad1) c0_1 (l0_1.take i) none 0 [] _ _ _ (Kd.C_below (Kd.C_below hCi.out HB3.out) (BW.h _)) (by rw [hti.out]; have := HC1.out; omega) (Kd.C_nil _ _) (Nat.le_refl _) e2.out)))))
                  refine wpQuiet_nil ?_
                  intro _ hw'
                  obtain ⟨⟨w4, hb4⟩, hw''⟩ := hw'
                  subst hw''
                  have HB4 := Aside0.mk (below_then HB3.out HB3.out.size hb4)
                  have HK4 := Aside0.mk ((hb4.block _ (blk_lt HK3.out)).trans HK3.out)
                  clear hb4
                  go_wp2
                  go_ret
                  exact ⟨by rw [← H.out, all_range_false hlt (by rw [hG.out]; simp)]; rfl, HB4.out⟩
          · have hie : i = l0_1.length := by omega
            subst hie
            have hltz : ¬ (l0_1.length : Int) < (l0_1.length : Int) := by omega
            go_wp2_with fail
            replace H := Aside0.mk (show ((List.range l0_2.length).all (impl_FarmRight.m l0_1 l0_2)) = r by rw [← H.out, all_range_true HG.out]; rfl)
            clear HG hk0 hk1 hk2 hltz hg
            go_loopg [6, 7, 80] l0_2.length (fun gg _ _ s27 wr => ∃ i : Nat, s27 = .int .i64 i ∧ i ≤ l0_2.length ∧ l0_2.length - i ≤ gg ∧ Aside0 (Below w.heap.size w wr) ∧ Aside0 (wr.heap[w.heap.size]? = some (Obj.cells #[Value.int IntKind.i64 a0_0, Value.slice A0_1 l0_1.length c0_1, Value.slice A0_2 l0_2.length c0_2] 55)) ∧ Aside0 (∀ j, j < i → impl_FarmRight.m l0_1 l0_2 j = true))
            case atStart => exact ⟨0, rfl, Nat.zero_le _, by omega, HB, HK, ⟨fun j hj => absurd hj (Nat.not_lt_zero _)⟩⟩
            case round =>
              clear HB HK hsz
              obtain ⟨i, rfl, hil, hg, HB, HK, HG⟩ := hrel
              have hk0 := blk_cell HK.out 0
              have hk1 := blk_cell HK.out 1
              have hk2 := blk_cell HK.out 2
              simp only [List.getElem?_toArray, List.getElem?_cons_zero, List.getElem?_cons_succ] at hk0 hk1 hk2
              have hsz : w.heap.size < wr.heap.size := blk_lt HK.out
              by_cases hlt : i < l0_2.length
              · have hltz : (i : Int) < (l0_2.length : Int) := by omega
                obtain ⟨ad2, e, hx0, hx1, hx2, hx3⟩ := at_T83 HR2.out (i : Int) (by omega) (by omega)
                cases e
                replace hx0 := pw_cell_below HB.out hx0
                replace hx1 := pw_cell_below HB.out hx1
                replace hx2 := pw_cell_below HB.out hx2
                replace hx3 := pw_cell_below HB.out hx3
                simp only [Int.toNat_natCast] at hx0 hx1 hx2 hx3
                obtain ⟨y, hy⟩ : ∃ y, y = rd_T83 l0_2 (i : Int) := ⟨_, rfl⟩
                rw [← hy] at hx0 hx1 hx2 hx3
                have HY := Aside0.mk hy
                clear hy
                go_wp2_with fail
                obtain ⟨w3, hw3⟩ : ∃ w3, w3 = wr.alloc (Obj.cells #[Value.int IntKind.i64 y.f0, Value.int IntKind.i64 y.f1, Value.int IntKind.i64 y.f2, Value.int IntKind.i64 y.f3] 83) := ⟨_, rfl⟩
                rw [← hw3]
                have hb80 : w3.heap[wr.heap.size]? = some (Obj.cells #[Value.int IntKind.i64 y.f0, Value.int IntKind.i64 y.f1, Value.int IntKind.i64 y.f2, Value.int IntKind.i64 y.f3] 83 (0, 0)) := by rw [hw3]; exact heap_alloc_new wr _
                have hB3 : Below wr.heap.size wr w3 := by rw [hw3]; exact (Below.refl _ _).alloc (Nat.le_refl _) _
                have HB3 := Aside0.mk (HB.out.trans (hB3.mono (by omega)))
                have HK3 := Aside0.mk ((hB3.block _ hsz).trans HK.out)
                have f80_0 : ∀ p : BW w3, p.W.cell? ⟨wr.heap.size, 0, none⟩ = some (.int .i64 y.f0) := fun p => p.cell (blk_cell hb80 0)
                have f80_1 : ∀ p : BW w3, p.W.cell? ⟨wr.heap.size, 1, none⟩ = some (.int .i64 y.f1) := fun p => p.cell (blk_cell hb80 1)
                have f80_2 : ∀ p : BW w3, p.W.cell? ⟨wr.heap.size, 2, none⟩ = some (.int .i64 y.f2) := fun p => p.cell (blk_cell hb80 2)
                have f80_3 : ∀ p : BW w3, p.W.cell? ⟨wr.heap.size, 3, none⟩ = some (.int .i64 y.f3) := fun p => p.cell (blk_cell hb80 3)
                have ff_0 : ∀ p : BW w3, p.W.cell? ⟨w.heap.size, 0, none⟩ = some (.int .i64 a0_0) := fun p => p.cell (blk_cell HK3.out 0)
                have ff_1 : ∀ p : BW w3, p.W.cell? ⟨w.heap.size, 1, none⟩ = some (.slice A0_1 l0_1.length c0_1) := fun p => p.cell (blk_cell HK3.out 1)
                have ff_2 : ∀ p : BW w3, p.W.cell? ⟨w.heap.size, 2, none⟩ = some (.slice (some ad2) l0_2.length c0_2) := fun p => p.cell (blk_cell HK3.out 2)
                have e1 := Aside0.mk (hf_id_eq y.f0)
                have e3 := Aside0.mk (hf_want_eq y.f2)
                have e4 := Aside0.mk (hf_weight_eq y.f3)
                have e2 := Aside0.mk (hf_has_eq a0_0 l0_1 l0_2 y.f1 (by omega))
                have hG := Aside0.mk (show impl_FarmRight.m l0_1 l0_2 i = (hf_id y.f0 && ((decide (i = 0) || decide ((rd_T83 l0_2 ((i - 1 : Nat) : Int)).f0 < y.f0)) && (hf_has l0_1 y.f1 && (hf_want y.f2 && hf_weight y.f3)))) by rw [HY.out]; rfl)
                clear hw3 hb80 hB3 hx0 hx1 hx2 hx3 hk0 hk1 hk2
                cases c1 : hf_id y.f0 with
                | false =>
                  rw [c1] at e1 hG
                  have C1 := Aside0.mk c1
                  clear c1
                  refine wp_region_bw (by kernel_rfl) (by kernel_rfl) ?_
                  repeat (go_big_quiet_step (first | (go_at_call 68; exact Calls.bwd (impl_isId.calls _ _ _ e1.out)) | (go_at_call 59; exact Calls.bwd (impl_isWant.calls _ _ _ e3.out)) | (go_at_call 70; exact Calls.bwd (impl_isWeight.calls _ _ _ e4.out)) | (go_at_call 69; exact Calls.bw (impl_Farm_hasGroup.calls a0_0 A0_1 c0_1 l0_1 (some ad2) c0_2 l0_2 _ _ _ (Kd.C_below (Kd.C_below HR1.out HB3.out) (BW.h _)) HC1.out (Kd.C_below (Kd.C_below HR2.out HB3.out) (BW.h _)) HC2.out e2.out))))
                  refine wpQuiet_nil ?_
                  intro _ hw'
                  obtain ⟨⟨w4, hb4⟩, hw''⟩ := hw'
                  subst hw''
                  have HB4 := Aside0.mk (below_then HB3.out HB3.out.size hb4)
                  have HK4 := Aside0.mk ((hb4.block _ (blk_lt HK3.out)).trans HK3.out)
                  clear hb4
                  go_wp2
                  go_ret
                  exact ⟨by rw [← H.out, all_range_false hlt (by rw [hG.out]; simp)]; simp, HB4.out⟩
                | true =>
                  rw [c1] at e1 hG
                  have C1 := Aside0.mk c1
                  clear c1
                  by_cases hi0 : i = 0
                  · have hi1 : decide (0 < i) = false := decide_eq_false (by omega)
                    rw [show decide (i = 0) = true from decide_eq_true hi0] at hG
                    have HI0 := Aside0.mk hi0
                    clear hi0
                    cases c3 : hf_has l0_1 y.f1 with
                    | false =>
                      rw [c3] at e2 hG
                      have C3 := Aside0.mk c3
                      clear c3
                      refine wp_region_bw (by kernel_rfl) (by kernel_rfl) ?_
                      repeat (go_big_quiet_step (first | (go_at_call 68; exact Calls.bwd (impl_isId.calls _ _ _ e1.out)) | (go_at_call 59; exact Calls.bwd (impl_isWant.calls _ _ _ e3.out)) | (go_at_call 70; exact Calls.bwd (impl_isWeight.calls _ _ _ e4.out)) | (go_at_call 69; exact Calls.bw (impl_Farm_hasGroup.calls a0_0 A0_1 c0_1 l0_1 (some ad2) c0_2 l0_2 _ _ _ (Kd.C_below (Kd.C_below HR1.out HB3.out) (BW.h _)) HC1.out (Kd.C_below (Kd.C_below HR2.out HB3.out) (BW.h _)) HC2.out e2.out))))
                      refine wpQuiet_nil ?_
                      intro _ hw'
                      obtain ⟨⟨w4, hb4⟩, hw''⟩ := hw'
                      subst hw''
                      have HB4 := Aside0.mk (below_then HB3.out HB3.out.size hb4)
                      have HK4 := Aside0.mk ((hb4.block _ (blk_lt HK3.out)).trans HK3.out)
                      clear hb4
                      go_wp2
                      go_ret
                      exact ⟨by rw [← H.out, all_range_false hlt (by rw [hG.out]; simp)]; simp, HB4.out⟩
                    | true =>
                      rw [c3] at e2 hG
                      have C3 := Aside0.mk c3
                      clear c3
                      cases c4 : hf_want y.f2 with
                      | false =>
                        rw [c4] at e3 hG
                        have C4 := Aside0.mk c4
                        clear c4
                        refine wp_region_bw (by kernel_rfl) (by kernel_rfl) ?_
                        repeat (go_big_quiet_step (first | (go_at_call 68; exact Calls.bwd (impl_isId.calls _ _ _ e1.out)) | (go_at_call 59; exact Calls.bwd (impl_isWant.calls _ _ _ e3.out)) | (go_at_call 70; exact Calls.bwd (impl_isWeight.calls _ _ _ e4.out)) | (go_at_call 69; exact Calls.bw (impl_Farm_hasGroup.calls a0_0 A0_1 c0_1 l0_1 (some ad2) c0_2 l0_2 _ _ _ (Kd.C_below (Kd.C_below HR1.out HB3.out) (BW.h _)) HC1.out (Kd.C_below (Kd.C_below HR2.out HB3.out) (BW.h _)) HC2.out e2.out))))
                        refine wpQuiet_nil ?_
                        intro _ hw'
                        obtain ⟨⟨w4, hb4⟩, hw''⟩ := hw'
                        subst hw''
                        have HB4 := Aside0.mk (below_then HB3.out HB3.out.size hb4)
                        have HK4 := Aside0.mk ((hb4.block _ (blk_lt HK3.out)).trans HK3.out)
                        clear hb4
                        go_wp2
                        go_ret
                        exact ⟨by rw [← H.out, all_range_false hlt (by rw [hG.out]; simp)]; simp, HB4.out⟩
                      | true =>
                        rw [c4] at e3 hG
                        have C4 := Aside0.mk c4
                        clear c4
                        cases c5 : hf_weight y.f3 with
                        | false =>
                          rw [c5] at e4 hG
                          have C5 := Aside0.mk c5
                          clear c5
                          refine wp_region_bw (by kernel_rfl) (by kernel_rfl) ?_
                          repeat (go_big_quiet_step (first | (go_at_call 68; exact Calls.bwd (impl_isId.calls _ _ _ e1.out)) | (go_at_call 59; exact Calls.bwd (impl_isWant.calls _ _ _ e3.out)) | (go_at_call 70; exact Calls.bwd (impl_isWeight.calls _ _ _ e4.out)) | (go_at_call 69; exact Calls.bw (impl_Farm_hasGroup.calls a0_0 A0_1 c0_1 l0_1 (some ad2) c0_2 l0_2 _ _ _ (Kd.C_below (Kd.C_below HR1.out HB3.out) (BW.h _)) HC1.out (Kd.C_below (Kd.C_below HR2.out HB3.out) (BW.h _)) HC2.out e2.out))))
                          refine wpQuiet_nil ?_
                          intro _ hw'
                          obtain ⟨⟨w4, hb4⟩, hw''⟩ := hw'
                          subst hw''
                          have HB4 := Aside0.mk (below_then HB3.out HB3.out.size hb4)
                          have HK4 := Aside0.mk ((hb4.block _ (blk_lt HK3.out)).trans HK3.out)
                          clear hb4
                          go_wp2
                          go_ret
                          exact ⟨by rw [← H.out, all_range_false hlt (by rw [hG.out]; simp)]; simp, HB4.out⟩
                        | true =>
                          rw [c5] at e4 hG
                          have C5 := Aside0.mk c5
                          clear c5
                          refine wp_region_bw (by kernel_rfl) (by kernel_rfl) ?_
                          repeat (go_big_quiet_step (first | (go_at_call 68; exact Calls.bwd (impl_isId.calls _ _ _ e1.out)) | (go_at_call 59; exact Calls.bwd (impl_isWant.calls _ _ _ e3.out)) | (go_at_call 70; exact Calls.bwd (impl_isWeight.calls _ _ _ e4.out)) | (go_at_call 69; exact Calls.bw (impl_Farm_hasGroup.calls a0_0 A0_1 c0_1 l0_1 (some ad2) c0_2 l0_2 _ _ _ (Kd.C_below (Kd.C_below HR1.out HB3.out) (BW.h _)) HC1.out (Kd.C_below (Kd.C_below HR2.out HB3.out) (BW.h _)) HC2.out e2.out))))
                          refine wpQuiet_nil ?_
                          intro _ hw'
                          obtain ⟨⟨w4, hb4⟩, hw''⟩ := hw'
                          subst hw''
                          have HB4 := Aside0.mk (below_then HB3.out HB3.out.size hb4)
                          have HK4 := Aside0.mk ((hb4.block _ (blk_lt HK3.out)).trans HK3.out)
                          clear hb4
                          go_wp2
                          go_roundg (l0_2.length - (i + 1))
                          case measure => omega
                          case rel => exact ⟨i + 1, by go_num, by omega, by omega, HB4, HK4, ⟨fun j hj => by
                            by_cases e : j = i
                            · rw [e, hG.out]; simp
                            · exact HG.out j (by omega)⟩⟩
                  · have hi1 : decide (0 < i) = true := decide_eq_true (by omega)
                    have hi2 : 0 < i := by omega
                    have hi3 : (0 : Int) ≤ (i : Int) - 1 := by omega
                    have hi4 : (i : Int) - 1 < (l0_2.length : Int) := by omega
                    obtain ⟨ad', e', hp0, _⟩ := at_T83 HR2.out ((i : Int) - 1) hi3 hi4
                    cases e'
                    rw [show ((i : Int) - 1).toNat = i - 1 by omega] at hp0
                    have fp := fun p : BW w3 => p.cell (pw_cell_below HB3.out hp0)
                    rw [show decide (i = 0) = false from decide_eq_false hi0, show rd_T83 l0_2 ((i - 1 : Nat) : Int) = rd_T83 l0_2 ((i : Int) - 1) by congr 1; omega] at hG
                    clear hp0 hi0
                    generalize (rd_T83 l0_2 ((i : Int) - 1)).f0 = pv at fp hG
                    by_cases hpv : pv < y.f0
                    · have hpv1 : decide (pv ≥ y.f0) = false := decide_eq_false (by omega)
                      have hpv2 : decide (y.f0 ≤ pv) = false := decide_eq_false (by omega)
                      rw [show decide (pv < y.f0) = true from decide_eq_true hpv] at hG
                      clear hpv
                      cases c3 : hf_has l0_1 y.f1 with
                      | false =>
                        rw [c3] at e2 hG
                        have C3 := Aside0.mk c3
                        clear c3
                        refine wp_region_bw (by kernel_rfl) (by kernel_rfl) ?_
                        repeat (go_big_quiet_step (first | (go_at_call 68; exact Calls.bwd (impl_isId.calls _ _ _ e1.out)) | (go_at_call 59; exact Calls.bwd (impl_isWant.calls _ _ _ e3.out)) | (go_at_call 70; exact Calls.bwd (impl_isWeight.calls _ _ _ e4.out)) | (go_at_call 69; exact Calls.bw (impl_Farm_hasGroup.calls a0_0 A0_1 c0_1 l0_1 (some ad2) c0_2 l0_2 _ _ _ (Kd.C_below (Kd.C_below HR1.out HB3.out) (BW.h _)) HC1.out (Kd.C_below (Kd.C_below HR2.out HB3.out) (BW.h _)) HC2.out e2.out))))
                        refine wpQuiet_nil ?_
                        intro _ hw'
                        obtain ⟨⟨w4, hb4⟩, hw''⟩ := hw'
                        subst hw''
                        have HB4 := Aside0.mk (below_then HB3.out HB3.out.size hb4)
                        have HK4 := Aside0.mk ((hb4.block _ (blk_lt HK3.out)).trans HK3.out)
                        clear hb4
                        go_wp2
                        go_ret
                        exact ⟨by rw [← H.out, all_range_false hlt (by rw [hG.out]; simp)]; simp, HB4.out⟩
                      | true =>
                        rw [c3] at e2 hG
                        have C3 := Aside0.mk c3
                        clear c3
                        cases c4 : hf_want y.f2 with
                        | false =>
                          rw [c4] at e3 hG
                          have C4 := Aside0.mk c4
                          clear c4
                          refine wp_region_bw (by kernel_rfl) (by kernel_rfl) ?_
                          repeat (go_big_quiet_step (first | (go_at_call 68; exact Calls.bwd (impl_isId.calls _ _ _ e1.out)) | (go_at_call 59; exact Calls.bwd (impl_isWant.calls _ _ _ e3.out)) | (go_at_call 70; exact Calls.bwd (impl_isWeight.calls _ _ _ e4.out)) | (go_at_call 69; exact Calls.bw (impl_Farm_hasGroup.calls a0_0 A0_1 c0_1 l0_1 (some ad2) c0_2 l0_2 _ _ _ (Kd.C_below (Kd.C_below HR1.out HB3.out) (BW.h _)) HC1.out (Kd.C_below (Kd.C_below HR2.out HB3.out) (BW.h _)) HC2.out e2.out))))
                          refine wpQuiet_nil ?_
                          intro _ hw'
                          obtain ⟨⟨w4, hb4⟩, hw''⟩ := hw'
                          subst hw''
                          have HB4 := Aside0.mk (below_then HB3.out HB3.out.size hb4)
                          have HK4 := Aside0.mk ((hb4.block _ (blk_lt HK3.out)).trans HK3.out)
                          clear hb4
                          go_wp2
                          go_ret
                          exact ⟨by rw [← H.out, all_range_false hlt (by rw [hG.out]; simp)]; simp, HB4.out⟩
                        | true =>
                          rw [c4] at e3 hG
                          have C4 := Aside0.mk c4
                          clear c4
                          cases c5 : hf_weight y.f3 with
                          | false =>
                            rw [c5] at e4 hG
                            have C5 := Aside0.mk c5
                            clear c5
                            refine wp_region_bw (by kernel_rfl) (by kernel_rfl) ?_
                            repeat (go_big_quiet_step (first | (go_at_call 68; exact Calls.bwd (impl_isId.calls _ _ _ e1.out)) | (go_at_call 59; exact Calls.bwd (impl_isWant.calls _ _ _ e3.out)) | (go_at_call 70; exact Calls.bwd (impl_isWeight.calls _ _ _ e4.out)) | (go_at_call 69; exact Calls.bw (impl_Farm_hasGroup.calls a0_0 A0_1 c0_1 l0_1 (some ad2) c0_2 l0_2 _ _ _ (Kd.C_below (Kd.C_below HR1.out HB3.out) (BW.h _)) HC1.out (Kd.C_below (Kd.C_below HR2.out HB3.out) (BW.h _)) HC2.out e2.out))))
                            refine wpQuiet_nil ?_
                            intro _ hw'
                            obtain ⟨⟨w4, hb4⟩, hw''⟩ := hw'
                            subst hw''
                            have HB4 := Aside0.mk (below_then HB3.out HB3.out.size hb4)
                            have HK4 := Aside0.mk ((hb4.block _ (blk_lt HK3.out)).trans HK3.out)
                            clear hb4
                            go_wp2
                            go_ret
                            exact ⟨by rw [← H.out, all_range_false hlt (by rw [hG.out]; simp)]; simp, HB4.out⟩
                          | true =>
                            rw [c5] at e4 hG
                            have C5 := Aside0.mk c5
                            clear c5
                            refine wp_region_bw (by kernel_rfl) (by kernel_rfl) ?_
                            repeat (go_big_quiet_step (first | (go_at_call 68; exact Calls.bwd (impl_isId.calls _ _ _ e1.out)) | (go_at_call 59; exact Calls.bwd (impl_isWant.calls _ _ _ e3.out)) | (go_at_call 70; exact Calls.bwd (impl_isWeight.calls _ _ _ e4.out)) | (go_at_call 69; exact Calls.bw (impl_Farm_hasGroup.calls a0_0 A0_1 c0_1 l0_1 (some ad2) c0_2 l0_2 _ _ _ (Kd.C_below (Kd.C_below HR1.out HB3.out) (BW.h _)) HC1.out (Kd.C_below (Kd.C_below HR2.out HB3.out) (BW.h _)) HC2.out e2.out))))
                            refine wpQuiet_nil ?_
                            intro _ hw'
                            obtain ⟨⟨w4, hb4⟩, hw''⟩ := hw'
                            subst hw''
                            have HB4 := Aside0.mk (below_then HB3.out HB3.out.size hb4)
                            have HK4 := Aside0.mk ((hb4.block _ (blk_lt HK3.out)).trans HK3.out)
                            clear hb4
                            go_wp2
                            go_roundg (l0_2.length - (i + 1))
                            case measure => omega
                            case rel => exact ⟨i + 1, by go_num, by omega, by omega, HB4, HK4, ⟨fun j hj => by
                              by_cases e : j = i
                              · rw [e, hG.out]; simp
                              · exact HG.out j (by omega)⟩⟩
                    · have hpv1 : decide (pv ≥ y.f0) = true := decide_eq_true (by omega)
                      have hpv2 : decide (y.f0 ≤ pv) = true := decide_eq_true (by omega)
                      rw [show decide (pv < y.f0) = false from decide_eq_false hpv] at hG
                      clear hpv
                      refine wp_region_bw (by kernel_rfl) (by kernel_rfl) ?_
                      repeat (go_big_quiet_step (first | (go_at_call 68; exact Calls.bwd (impl_isId.calls _ _ _ e1.out)) | (go_at_call 59; exact Calls.bwd (impl_isWant.calls _ _ _ e3.out)) | (go_at_call 70; exact Calls.bwd (impl_isWeight.calls _ _ _ e4.out)) | (go_at_call 69; exact Calls.bw (impl_Farm_hasGroup.calls a0_0 A0_1 c0_1 l0_1 (some ad2) c0_2 l0_2 _ _ _ (Kd.C_below (Kd.C_below HR1.out HB3.out) (BW.h _)) HC1.out (Kd.C_below (Kd.C_below HR2.out HB3.out) (BW.h _)) HC2.out e2.out))))
                      refine wpQuiet_nil ?_
                      intro _ hw'
                      obtain ⟨⟨w4, hb4⟩, hw''⟩ := hw'
                      subst hw''
                      have HB4 := Aside0.mk (below_then HB3.out HB3.out.size hb4)
                      have HK4 := Aside0.mk ((hb4.block _ (blk_lt HK3.out)).trans HK3.out)
                      clear hb4
                      go_wp2
                      go_ret
                      exact ⟨by rw [← H.out, all_range_false hlt (by rw [hG.out]; simp)]; simp, HB4.out⟩
              · have hie : i = l0_2.length := by omega
                subst hie
                have hltz : ¬ (l0_2.length : Int) < (l0_2.length : Int) := by omega
                go_wp2
                go_ret
                exact ⟨by rw [← H.out, all_range_true HG.out]; rfl, HB.out⟩
      · have h1z : ¬ ((l0_1.length : Nat) : Int) > 30 := by omega
        have h2z : ((l0_2.length : Nat) : Int) > 60 := by omega
        go_enter Try.func34, Try.ntmps34
        go_wp2_with (go_at_call 59; refine (impl_isWant.calls _ _ _ E1.out).mono ?_; rintro e w1 ⟨rfl, ⟨n, rfl⟩⟩)
        go_ret
        exact ⟨by rw [← H.out]; simp [h2], pw_below_drewN ((Below.refl _ _).alloc (Nat.le_refl _) _) _⟩
    · have h1z : ((l0_1.length : Nat) : Int) > 30 := by omega
      go_enter Try.func34, Try.ntmps34
      go_wp2_with (go_at_call 59; refine (impl_isWant.calls _ _ _ E1.out).mono ?_; rintro e w1 ⟨rfl, ⟨n, rfl⟩⟩)
      go_ret
      exact ⟨by rw [← H.out]; simp [h1], pw_below_drewN ((Below.refl _ _).alloc (Nat.le_refl _) _) _⟩

/-! ### laws_eqGroup: function 88 -/
def laws_eqGroup.f (a0_0 : Int) (a0_1 : Int) (a0_2 : Int) (a0_3 : Int) (a1_0 : Int) (a1_1 : Int) (a1_2 : Int) (a1_3 : Int) : Option (Bool) := if a0_0 = a1_0 then (if a0_1 = a1_1 then (if a0_2 = a1_2 then (if a0_3 = a1_3 then (some true) else (some false)) else (some false)) else (some false)) else (some false)
set_option maxHeartbeats 8000000 in
set_option maxRecDepth 100000 in
theorem laws_eqGroup.calls (a0_0 : Int) (a0_1 : Int) (a0_2 : Int) (a0_3 : Int) (a1_0 : Int) (a1_1 : Int) (a1_2 : Int) (a1_3 : Int) (r : Bool) (w : World) (h : laws_eqGroup.f a0_0 a0_1 a0_2 a0_3 a1_0 a1_1 a1_2 a1_3 = some r) :
    Calls Try.prog 88 #[.agg #[.int .i64 a0_0, .int .i64 a0_1, .int .i64 a0_2, .int .i64 a0_3], .agg #[.int .i64 a1_0, .int .i64 a1_1, .int .i64 a1_2, .int .i64 a1_3]] w fun e w' => e = .returned (.bool r) ∧ Below w.heap.size w w' := by
  have hu80 := Try.underlying80
  have HB := Aside0.mk (Below.refl w.heap.size w)
  have H : (if a0_0 = a1_0 then (if a0_1 = a1_1 then (if a0_2 = a1_2 then (if a0_3 = a1_3 then (some true) else (some false)) else (some false)) else (some false)) else (some false)) = some r := h
  clear h
  by_cases c3 : a0_0 = a1_0
  · rw [if_pos c3] at H
    have c3b0 : (a0_0 == a1_0) = true := beq_iff_eq.mpr c3
    have c3b1 : (a0_0 != a1_0) = false := bne_eq_false_iff_eq.mpr c3
    clear c3
    by_cases c4 : a0_1 = a1_1
    · rw [if_pos c4] at H
      have c4b0 : (a0_1 == a1_1) = true := beq_iff_eq.mpr c4
      have c4b1 : (a0_1 != a1_1) = false := bne_eq_false_iff_eq.mpr c4
      clear c4
      by_cases c5 : a0_2 = a1_2
      · rw [if_pos c5] at H
        have c5b0 : (a0_2 == a1_2) = true := beq_iff_eq.mpr c5
        have c5b1 : (a0_2 != a1_2) = false := bne_eq_false_iff_eq.mpr c5
        clear c5
        by_cases c6 : a0_3 = a1_3
        · rw [if_pos c6] at H
          have c6b0 : (a0_3 == a1_3) = true := beq_iff_eq.mpr c6
          have c6b1 : (a0_3 != a1_3) = false := bne_eq_false_iff_eq.mpr c6
          clear c6
          obtain rfl := Option.some.inj H
          go_enter Try.func88, Try.ntmps88
          go_wp2_with (first | ((with_reducible refine gate_dst (N := 2) rfl ?_); refine box_event ?hg (N := 2) ?hd (cs := #[.int .i64 a0_0, .int .i64 a0_1, .int .i64 a0_2, .int .i64 a0_3]) (t := 80) ?hr ?_; (case hd => rfl); (case hg => rfl); (case hr => first | (go_simp; done) | (go_simp; rfl)); intro gb145 hg w7 hbox hb; have n0_ := Aside0.mk (below_step (by repeat (first | (with_reducible first | exact HB.out | apply below_alloc | apply pw_below_drewN | apply below_drew1) | exact HB.out)) hb); have n1_ := Aside0.mk (hbox); have n2_ := Aside0.mk ((by rw [hg]; exact (below_size (by repeat (first | (with_reducible first | exact HB.out | apply below_alloc | apply pw_below_drewN | apply below_drew1) | exact HB.out))) : w.heap.size ≤ gb145)); have n3_ := Aside0.mk ((by rw [hg]; exact (below_size (by repeat (first | (with_reducible first | exact HB.out | apply below_alloc | apply pw_below_drewN | apply below_drew1) | exact HB.out))) : w.heap.size ≤ gb145)); clear HB; have HB := n0_; have BK145 := n1_; have GW145 := n2_; have GE145 := n3_; clear n0_ n1_ n2_ n3_; clear hb hbox hg) | ((with_reducible refine gate_dst (N := 3) rfl ?_); refine box_event ?hg (N := 3) ?hd (cs := #[.int .i64 a1_0, .int .i64 a1_1, .int .i64 a1_2, .int .i64 a1_3]) (t := 80) ?hr ?_; (case hd => rfl); (case hg => rfl); (case hr => first | (go_simp; done) | (go_simp; rfl)); intro gb146 hg w8 hbox hb; have n0_ := Aside0.mk (blk_below (g := gb145) (o := .cells #[.int .i64 a0_0, .int .i64 a0_1, .int .i64 a0_2, .int .i64 a0_3] 80 (0, 0)) (by (with_reducible repeat (first | refine blk_drewN ?_ _ | refine blk_drew ?_ | refine blk_alloc ?_ _)); exact BK145.out) hb); have n1_ := Aside0.mk (below_step (by repeat (first | (with_reducible first | exact HB.out | apply below_alloc | apply pw_below_drewN | apply below_drew1 | refine below_set ?_ GE145.out) | exact HB.out)) hb); have n2_ := Aside0.mk (hbox); have n3_ := Aside0.mk ((by rw [hg]; exact (below_size (by repeat (first | (with_reducible first | exact HB.out | apply below_alloc | apply pw_below_drewN | apply below_drew1 | refine below_set ?_ GE145.out) | exact HB.out))) : w.heap.size ≤ gb146)); have n4_ := Aside0.mk ((by rw [hg]; exact (below_size (by repeat (first | (with_reducible first | exact HB.out | apply below_alloc | apply pw_below_drewN | apply below_drew1 | refine below_set ?_ GE145.out) | exact HB.out))) : w.heap.size ≤ gb146)); have n5_ := Aside0.mk ((by rw [hg]; exact Nat.ne_of_lt (blk_lt (g := gb145) (o := .cells #[.int .i64 a0_0, .int .i64 a0_1, .int .i64 a0_2, .int .i64 a0_3] 80 (0, 0)) (by (with_reducible repeat (first | refine blk_drewN ?_ _ | refine blk_drew ?_ | refine blk_alloc ?_ _)); exact BK145.out)) : gb145 ≠ gb146)); have n6_ := Aside0.mk ((by rw [hg]; exact Nat.ne_of_gt (blk_lt (g := gb145) (o := .cells #[.int .i64 a0_0, .int .i64 a0_1, .int .i64 a0_2, .int .i64 a0_3] 80 (0, 0)) (by (with_reducible repeat (first | refine blk_drewN ?_ _ | refine blk_drew ?_ | refine blk_alloc ?_ _)); exact BK145.out)) : gb146 ≠ gb145)); clear BK145; clear HB; have BK145 := n0_; have HB := n1_; have BK146 := n2_; have GW146 := n3_; have GE146 := n4_; have NB145_146 := n5_; have NB146_145 := n6_; clear n0_ n1_ n2_ n3_ n4_ n5_ n6_; clear hb hbox hg; have hnb9 := NB145_146.out; have hnc9 := NB146_145.out; have hcz10_0 : w8.cell? ⟨gb145, 0, none⟩ = some (.int .i64 a0_0) := (blk_cell BK145.out 0).trans rfl; have hcz10_1 : w8.cell? ⟨gb145, 1, none⟩ = some (.int .i64 a0_1) := (blk_cell BK145.out 1).trans rfl; have hcz10_2 : w8.cell? ⟨gb145, 2, none⟩ = some (.int .i64 a0_2) := (blk_cell BK145.out 2).trans rfl; have hcz10_3 : w8.cell? ⟨gb145, 3, none⟩ = some (.int .i64 a0_3) := (blk_cell BK145.out 3).trans rfl; have hfz10_0 := blk_frozen BK145.out 0; have hfz10_1 := blk_frozen BK145.out 1; have hfz10_2 := blk_frozen BK145.out 2; have hfz10_3 := blk_frozen BK145.out 3; have hcz11_0 : w8.cell? ⟨gb146, 0, none⟩ = some (.int .i64 a1_0) := (blk_cell BK146.out 0).trans rfl; have hcz11_1 : w8.cell? ⟨gb146, 1, none⟩ = some (.int .i64 a1_1) := (blk_cell BK146.out 1).trans rfl; have hcz11_2 : w8.cell? ⟨gb146, 2, none⟩ = some (.int .i64 a1_2) := (blk_cell BK146.out 2).trans rfl; have hcz11_3 : w8.cell? ⟨gb146, 3, none⟩ = some (.int .i64 a1_3) := (blk_cell BK146.out 3).trans rfl; have hfz11_0 := blk_frozen BK146.out 0; have hfz11_1 := blk_frozen BK146.out 1; have hfz11_2 := blk_frozen BK146.out 2; have hfz11_3 := blk_frozen BK146.out 3))
          go_ret
          exact ⟨by first | rfl | (simp [errW_none, errW_some] <;> rfl) | (simp [*, errW_none, errW_some] <;> rfl), by repeat (first | (with_reducible first | exact HB.out | apply below_alloc | apply pw_below_drewN | apply below_drew1 | refine below_set ?_ GE145.out | refine below_set ?_ GE146.out) | exact HB.out)⟩
        · rw [if_neg c6] at H
          have c6b0 : (a0_3 == a1_3) = false := beq_eq_false_iff_ne.mpr c6
          have c6b1 : (a0_3 != a1_3) = true := bne_iff_ne.mpr c6
          obtain rfl := Option.some.inj H
          go_enter Try.func88, Try.ntmps88
          go_wp2_with (first | ((with_reducible refine gate_dst (N := 2) rfl ?_); refine box_event ?hg (N := 2) ?hd (cs := #[.int .i64 a0_0, .int .i64 a0_1, .int .i64 a0_2, .int .i64 a0_3]) (t := 80) ?hr ?_; (case hd => rfl); (case hg => rfl); (case hr => first | (go_simp; done) | (go_simp; rfl)); intro gb145 hg w12 hbox hb; have n0_ := Aside0.mk (below_step (by repeat (first | (with_reducible first | exact HB.out | apply below_alloc | apply pw_below_drewN | apply below_drew1) | exact HB.out)) hb); have n1_ := Aside0.mk (hbox); have n2_ := Aside0.mk ((by rw [hg]; exact (below_size (by repeat (first | (with_reducible first | exact HB.out | apply below_alloc | apply pw_below_drewN | apply below_drew1) | exact HB.out))) : w.heap.size ≤ gb145)); have n3_ := Aside0.mk ((by rw [hg]; exact (below_size (by repeat (first | (with_reducible first | exact HB.out | apply below_alloc | apply pw_below_drewN | apply below_drew1) | exact HB.out))) : w.heap.size ≤ gb145)); clear HB; have HB := n0_; have BK145 := n1_; have GW145 := n2_; have GE145 := n3_; clear n0_ n1_ n2_ n3_; clear hb hbox hg) | ((with_reducible refine gate_dst (N := 3) rfl ?_); refine box_event ?hg (N := 3) ?hd (cs := #[.int .i64 a1_0, .int .i64 a1_1, .int .i64 a1_2, .int .i64 a1_3]) (t := 80) ?hr ?_; (case hd => rfl); (case hg => rfl); (case hr => first | (go_simp; done) | (go_simp; rfl)); intro gb146 hg w13 hbox hb; have n0_ := Aside0.mk (blk_below (g := gb145) (o := .cells #[.int .i64 a0_0, .int .i64 a0_1, .int .i64 a0_2, .int .i64 a0_3] 80 (0, 0)) (by (with_reducible repeat (first | refine blk_drewN ?_ _ | refine blk_drew ?_ | refine blk_alloc ?_ _)); exact BK145.out) hb); have n1_ := Aside0.mk (below_step (by repeat (first | (with_reducible first | exact HB.out | apply below_alloc | apply pw_below_drewN | apply below_drew1 | refine below_set ?_ GE145.out) | exact HB.out)) hb); have n2_ := Aside0.mk (hbox); have n3_ := Aside0.mk ((by rw [hg]; exact (below_size (by repeat (first | (with_reducible first | exact HB.out | apply below_alloc | apply pw_below_drewN | apply below_drew1 | refine below_set ?_ GE145.out) | exact HB.out))) : w.heap.size ≤ gb146)); have n4_ := Aside0.mk ((by rw [hg]; exact (below_size (by repeat (first | (with_reducible first | exact HB.out | apply below_alloc | apply pw_below_drewN | apply below_drew1 | refine below_set ?_ GE145.out) | exact HB.out))) : w.heap.size ≤ gb146)); have n5_ := Aside0.mk ((by rw [hg]; exact Nat.ne_of_lt (blk_lt (g := gb145) (o := .cells #[.int .i64 a0_0, .int .i64 a0_1, .int .i64 a0_2, .int .i64 a0_3] 80 (0, 0)) (by (with_reducible repeat (first | refine blk_drewN ?_ _ | refine blk_drew ?_ | refine blk_alloc ?_ _)); exact BK145.out)) : gb145 ≠ gb146)); have n6_ := Aside0.mk ((by rw [hg]; exact Nat.ne_of_gt (blk_lt (g := gb145) (o := .cells #[.int .i64 a0_0, .int .i64 a0_1, .int .i64 a0_2, .int .i64 a0_3] 80 (0, 0)) (by (with_reducible repeat (first | refine blk_drewN ?_ _ | refine blk_drew ?_ | refine blk_alloc ?_ _)); exact BK145.out)) : gb146 ≠ gb145)); clear BK145; clear HB; have BK145 := n0_; have HB := n1_; have BK146 := n2_; have GW146 := n3_; have GE146 := n4_; have NB145_146 := n5_; have NB146_145 := n6_; clear n0_ n1_ n2_ n3_ n4_ n5_ n6_; clear hb hbox hg; have hnb14 := NB145_146.out; have hnc14 := NB146_145.out; have hcz15_0 : w13.cell? ⟨gb145, 0, none⟩ = some (.int .i64 a0_0) := (blk_cell BK145.out 0).trans rfl; have hcz15_1 : w13.cell? ⟨gb145, 1, none⟩ = some (.int .i64 a0_1) := (blk_cell BK145.out 1).trans rfl; have hcz15_2 : w13.cell? ⟨gb145, 2, none⟩ = some (.int .i64 a0_2) := (blk_cell BK145.out 2).trans rfl; have hcz15_3 : w13.cell? ⟨gb145, 3, none⟩ = some (.int .i64 a0_3) := (blk_cell BK145.out 3).trans rfl; have hfz15_0 := blk_frozen BK145.out 0; have hfz15_1 := blk_frozen BK145.out 1; have hfz15_2 := blk_frozen BK145.out 2; have hfz15_3 := blk_frozen BK145.out 3; have hcz16_0 : w13.cell? ⟨gb146, 0, none⟩ = some (.int .i64 a1_0) := (blk_cell BK146.out 0).trans rfl; have hcz16_1 : w13.cell? ⟨gb146, 1, none⟩ = some (.int .i64 a1_1) := (blk_cell BK146.out 1).trans rfl; have hcz16_2 : w13.cell? ⟨gb146, 2, none⟩ = some (.int .i64 a1_2) := (blk_cell BK146.out 2).trans rfl; have hcz16_3 : w13.cell? ⟨gb146, 3, none⟩ = some (.int .i64 a1_3) := (blk_cell BK146.out 3).trans rfl; have hfz16_0 := blk_frozen BK146.out 0; have hfz16_1 := blk_frozen BK146.out 1; have hfz16_2 := blk_frozen BK146.out 2; have hfz16_3 := blk_frozen BK146.out 3))
          go_ret
          exact ⟨by first | rfl | (simp [errW_none, errW_some] <;> rfl) | (simp [*, errW_none, errW_some] <;> rfl), by repeat (first | (with_reducible first | exact HB.out | apply below_alloc | apply pw_below_drewN | apply below_drew1 | refine below_set ?_ GE145.out | refine below_set ?_ GE146.out) | exact HB.out)⟩
      · rw [if_neg c5] at H
        have c5b0 : (a0_2 == a1_2) = false := beq_eq_false_iff_ne.mpr c5
        have c5b1 : (a0_2 != a1_2) = true := bne_iff_ne.mpr c5
        obtain rfl := Option.some.inj H
        go_enter Try.func88, Try.ntmps88
        go_wp2_with (first | ((with_reducible refine gate_dst (N := 2) rfl ?_); refine box_event ?hg (N := 2) ?hd (cs := #[.int .i64 a0_0, .int .i64 a0_1, .int .i64 a0_2, .int .i64 a0_3]) (t := 80) ?hr ?_; (case hd => rfl); (case hg => rfl); (case hr => first | (go_simp; done) | (go_simp; rfl)); intro gb145 hg w17 hbox hb; have n0_ := Aside0.mk (below_step (by repeat (first | (with_reducible first | exact HB.out | apply below_alloc | apply pw_below_drewN | apply below_drew1) | exact HB.out)) hb); have n1_ := Aside0.mk (hbox); have n2_ := Aside0.mk ((by rw [hg]; exact (below_size (by repeat (first | (with_reducible first | exact HB.out | apply below_alloc | apply pw_below_drewN | apply below_drew1) | exact HB.out))) : w.heap.size ≤ gb145)); have n3_ := Aside0.mk ((by rw [hg]; exact (below_size (by repeat (first | (with_reducible first | exact HB.out | apply below_alloc | apply pw_below_drewN | apply below_drew1) | exact HB.out))) : w.heap.size ≤ gb145)); clear HB; have HB := n0_; have BK145 := n1_; have GW145 := n2_; have GE145 := n3_; clear n0_ n1_ n2_ n3_; clear hb hbox hg) | ((with_reducible refine gate_dst (N := 3) rfl ?_); refine box_event ?hg (N := 3) ?hd (cs := #[.int .i64 a1_0, .int .i64 a1_1, .int .i64 a1_2, .int .i64 a1_3]) (t := 80) ?hr ?_; (case hd => rfl); (case hg => rfl); (case hr => first | (go_simp; done) | (go_simp; rfl)); intro gb146 hg w18 hbox hb; have n0_ := Aside0.mk (blk_below (g := gb145) (o := .cells #[.int .i64 a0_0, .int .i64 a0_1, .int .i64 a0_2, .int .i64 a0_3] 80 (0, 0)) (by (with_reducible repeat (first | refine blk_drewN ?_ _ | refine blk_drew ?_ | refine blk_alloc ?_ _)); exact BK145.out) hb); have n1_ := Aside0.mk (below_step (by repeat (first | (with_reducible first | exact HB.out | apply below_alloc | apply pw_below_drewN | apply below_drew1 | refine below_set ?_ GE145.out) | exact HB.out)) hb); have n2_ := Aside0.mk (hbox); have n3_ := Aside0.mk ((by rw [hg]; exact (below_size (by repeat (first | (with_reducible first | exact HB.out | apply below_alloc | apply pw_below_drewN | apply below_drew1 | refine below_set ?_ GE145.out) | exact HB.out))) : w.heap.size ≤ gb146)); have n4_ := Aside0.mk ((by rw [hg]; exact (below_size (by repeat (first | (with_reducible first | exact HB.out | apply below_alloc | apply pw_below_drewN | apply below_drew1 | refine below_set ?_ GE145.out) | exact HB.out))) : w.heap.size ≤ gb146)); have n5_ := Aside0.mk ((by rw [hg]; exact Nat.ne_of_lt (blk_lt (g := gb145) (o := .cells #[.int .i64 a0_0, .int .i64 a0_1, .int .i64 a0_2, .int .i64 a0_3] 80 (0, 0)) (by (with_reducible repeat (first | refine blk_drewN ?_ _ | refine blk_drew ?_ | refine blk_alloc ?_ _)); exact BK145.out)) : gb145 ≠ gb146)); have n6_ := Aside0.mk ((by rw [hg]; exact Nat.ne_of_gt (blk_lt (g := gb145) (o := .cells #[.int .i64 a0_0, .int .i64 a0_1, .int .i64 a0_2, .int .i64 a0_3] 80 (0, 0)) (by (with_reducible repeat (first | refine blk_drewN ?_ _ | refine blk_drew ?_ | refine blk_alloc ?_ _)); exact BK145.out)) : gb146 ≠ gb145)); clear BK145; clear HB; have BK145 := n0_; have HB := n1_; have BK146 := n2_; have GW146 := n3_; have GE146 := n4_; have NB145_146 := n5_; have NB146_145 := n6_; clear n0_ n1_ n2_ n3_ n4_ n5_ n6_; clear hb hbox hg; have hnb19 := NB145_146.out; have hnc19 := NB146_145.out; have hcz20_0 : w18.cell? ⟨gb145, 0, none⟩ = some (.int .i64 a0_0) := (blk_cell BK145.out 0).trans rfl; have hcz20_1 : w18.cell? ⟨gb145, 1, none⟩ = some (.int .i64 a0_1) := (blk_cell BK145.out 1).trans rfl; have hcz20_2 : w18.cell? ⟨gb145, 2, none⟩ = some (.int .i64 a0_2) := (blk_cell BK145.out 2).trans rfl; have hcz20_3 : w18.cell? ⟨gb145, 3, none⟩ = some (.int .i64 a0_3) := (blk_cell BK145.out 3).trans rfl; have hfz20_0 := blk_frozen BK145.out 0; have hfz20_1 := blk_frozen BK145.out 1; have hfz20_2 := blk_frozen BK145.out 2; have hfz20_3 := blk_frozen BK145.out 3; have hcz21_0 : w18.cell? ⟨gb146, 0, none⟩ = some (.int .i64 a1_0) := (blk_cell BK146.out 0).trans rfl; have hcz21_1 : w18.cell? ⟨gb146, 1, none⟩ = some (.int .i64 a1_1) := (blk_cell BK146.out 1).trans rfl; have hcz21_2 : w18.cell? ⟨gb146, 2, none⟩ = some (.int .i64 a1_2) := (blk_cell BK146.out 2).trans rfl; have hcz21_3 : w18.cell? ⟨gb146, 3, none⟩ = some (.int .i64 a1_3) := (blk_cell BK146.out 3).trans rfl; have hfz21_0 := blk_frozen BK146.out 0; have hfz21_1 := blk_frozen BK146.out 1; have hfz21_2 := blk_frozen BK146.out 2; have hfz21_3 := blk_frozen BK146.out 3))
        go_ret
        exact ⟨by first | rfl | (simp [errW_none, errW_some] <;> rfl) | (simp [*, errW_none, errW_some] <;> rfl), by repeat (first | (with_reducible first | exact HB.out | apply below_alloc | apply pw_below_drewN | apply below_drew1 | refine below_set ?_ GE145.out | refine below_set ?_ GE146.out) | exact HB.out)⟩
    · rw [if_neg c4] at H
      have c4b0 : (a0_1 == a1_1) = false := beq_eq_false_iff_ne.mpr c4
      have c4b1 : (a0_1 != a1_1) = true := bne_iff_ne.mpr c4
      obtain rfl := Option.some.inj H
      go_enter Try.func88, Try.ntmps88
      go_wp2_with (first | ((with_reducible refine gate_dst (N := 2) rfl ?_); refine box_event ?hg (N := 2) ?hd (cs := #[.int .i64 a0_0, .int .i64 a0_1, .int .i64 a0_2, .int .i64 a0_3]) (t := 80) ?hr ?_; (case hd => rfl); (case hg => rfl); (case hr => first | (go_simp; done) | (go_simp; rfl)); intro gb145 hg w22 hbox hb; have n0_ := Aside0.mk (below_step (by repeat (first | (with_reducible first | exact HB.out | apply below_alloc | apply pw_below_drewN | apply below_drew1) | exact HB.out)) hb); have n1_ := Aside0.mk (hbox); have n2_ := Aside0.mk ((by rw [hg]; exact (below_size (by repeat (first | (with_reducible first | exact HB.out | apply below_alloc | apply pw_below_drewN | apply below_drew1) | exact HB.out))) : w.heap.size ≤ gb145)); have n3_ := Aside0.mk ((by rw [hg]; exact (below_size (by repeat (first | (with_reducible first | exact HB.out | apply below_alloc | apply pw_below_drewN | apply below_drew1) | exact HB.out))) : w.heap.size ≤ gb145)); clear HB; have HB := n0_; have BK145 := n1_; have GW145 := n2_; have GE145 := n3_; clear n0_ n1_ n2_ n3_; clear hb hbox hg) | ((with_reducible refine gate_dst (N := 3) rfl ?_); refine box_event ?hg (N := 3) ?hd (cs := #[.int .i64 a1_0, .int .i64 a1_1, .int .i64 a1_2, .int .i64 a1_3]) (t := 80) ?hr ?_; (case hd => rfl); (case hg => rfl); (case hr => first | (go_simp; done) | (go_simp; rfl)); intro gb146 hg w23 hbox hb; have n0_ := Aside0.mk (blk_below (g := gb145) (o := .cells #[.int .i64 a0_0, .int .i64 a0_1, .int .i64 a0_2, .int .i64 a0_3] 80 (0, 0)) (by (with_reducible repeat (first | refine blk_drewN ?_ _ | refine blk_drew ?_ | refine blk_alloc ?_ _)); exact BK145.out) hb); have n1_ := Aside0.mk (below_step (by repeat (first | (with_reducible first | exact HB.out | apply below_alloc | apply pw_below_drewN | apply below_drew1 | refine below_set ?_ GE145.out) | exact HB.out)) hb); have n2_ := Aside0.mk (hbox); have n3_ := Aside0.mk ((by rw [hg]; exact (below_size (by repeat (first | (with_reducible first | exact HB.out | apply below_alloc | apply pw_below_drewN | apply below_drew1 | refine below_set ?_ GE145.out) | exact HB.out))) : w.heap.size ≤ gb146)); have n4_ := Aside0.mk ((by rw [hg]; exact (below_size (by repeat (first | (with_reducible first | exact HB.out | apply below_alloc | apply pw_below_drewN | apply below_drew1 | refine below_set ?_ GE145.out) | exact HB.out))) : w.heap.size ≤ gb146)); have n5_ := Aside0.mk ((by rw [hg]; exact Nat.ne_of_lt (blk_lt (g := gb145) (o := .cells #[.int .i64 a0_0, .int .i64 a0_1, .int .i64 a0_2, .int .i64 a0_3] 80 (0, 0)) (by (with_reducible repeat (first | refine blk_drewN ?_ _ | refine blk_drew ?_ | refine blk_alloc ?_ _)); exact BK145.out)) : gb145 ≠ gb146)); have n6_ := Aside0.mk ((by rw [hg]; exact Nat.ne_of_gt (blk_lt (g := gb145) (o := .cells #[.int .i64 a0_0, .int .i64 a0_1, .int .i64 a0_2, .int .i64 a0_3] 80 (0, 0)) (by (with_reducible repeat (first | refine blk_drewN ?_ _ | refine blk_drew ?_ | refine blk_alloc ?_ _)); exact BK145.out)) : gb146 ≠ gb145)); clear BK145; clear HB; have BK145 := n0_; have HB := n1_; have BK146 := n2_; have GW146 := n3_; have GE146 := n4_; have NB145_146 := n5_; have NB146_145 := n6_; clear n0_ n1_ n2_ n3_ n4_ n5_ n6_; clear hb hbox hg; have hnb24 := NB145_146.out; have hnc24 := NB146_145.out; have hcz25_0 : w23.cell? ⟨gb145, 0, none⟩ = some (.int .i64 a0_0) := (blk_cell BK145.out 0).trans rfl; have hcz25_1 : w23.cell? ⟨gb145, 1, none⟩ = some (.int .i64 a0_1) := (blk_cell BK145.out 1).trans rfl; have hcz25_2 : w23.cell? ⟨gb145, 2, none⟩ = some (.int .i64 a0_2) := (blk_cell BK145.out 2).trans rfl; have hcz25_3 : w23.cell? ⟨gb145, 3, none⟩ = some (.int .i64 a0_3) := (blk_cell BK145.out 3).trans rfl; have hfz25_0 := blk_frozen BK145.out 0; have hfz25_1 := blk_frozen BK145.out 1; have hfz25_2 := blk_frozen BK145.out 2; have hfz25_3 := blk_frozen BK145.out 3; have hcz26_0 : w23.cell? ⟨gb146, 0, none⟩ = some (.int .i64 a1_0) := (blk_cell BK146.out 0).trans rfl; have hcz26_1 : w23.cell? ⟨gb146, 1, none⟩ = some (.int .i64 a1_1) := (blk_cell BK146.out 1).trans rfl; have hcz26_2 : w23.cell? ⟨gb146, 2, none⟩ = some (.int .i64 a1_2) := (blk_cell BK146.out 2).trans rfl; have hcz26_3 : w23.cell? ⟨gb146, 3, none⟩ = some (.int .i64 a1_3) := (blk_cell BK146.out 3).trans rfl; have hfz26_0 := blk_frozen BK146.out 0; have hfz26_1 := blk_frozen BK146.out 1; have hfz26_2 := blk_frozen BK146.out 2; have hfz26_3 := blk_frozen BK146.out 3))
      go_ret
      exact ⟨by first | rfl | (simp [errW_none, errW_some] <;> rfl) | (simp [*, errW_none, errW_some] <;> rfl), by repeat (first | (with_reducible first | exact HB.out | apply below_alloc | apply pw_below_drewN | apply below_drew1 | refine below_set ?_ GE145.out | refine below_set ?_ GE146.out) | exact HB.out)⟩
  · rw [if_neg c3] at H
    have c3b0 : (a0_0 == a1_0) = false := beq_eq_false_iff_ne.mpr c3
    have c3b1 : (a0_0 != a1_0) = true := bne_iff_ne.mpr c3
    obtain rfl := Option.some.inj H
    go_enter Try.func88, Try.ntmps88
    go_wp2_with (first | ((with_reducible refine gate_dst (N := 2) rfl ?_); refine box_event ?hg (N := 2) ?hd (cs := #[.int .i64 a0_0, .int .i64 a0_1, .int .i64 a0_2, .int .i64 a0_3]) (t := 80) ?hr ?_; (case hd => rfl); (case hg => rfl); (case hr => first | (go_simp; done) | (go_simp; rfl)); intro gb145 hg w27 hbox hb; have n0_ := Aside0.mk (below_step (by repeat (first | (with_reducible first | exact HB.out | apply below_alloc | apply pw_below_drewN | apply below_drew1) | exact HB.out)) hb); have n1_ := Aside0.mk (hbox); have n2_ := Aside0.mk ((by rw [hg]; exact (below_size (by repeat (first | (with_reducible first | exact HB.out | apply below_alloc | apply pw_below_drewN | apply below_drew1) | exact HB.out))) : w.heap.size ≤ gb145)); have n3_ := Aside0.mk ((by rw [hg]; exact (below_size (by repeat (first | (with_reducible first | exact HB.out | apply below_alloc | apply pw_below_drewN | apply below_drew1) | exact HB.out))) : w.heap.size ≤ gb145)); clear HB; have HB := n0_; have BK145 := n1_; have GW145 := n2_; have GE145 := n3_; clear n0_ n1_ n2_ n3_; clear hb hbox hg) | ((with_reducible refine gate_dst (N := 3) rfl ?_); refine box_event ?hg (N := 3) ?hd (cs := #[.int .i64 a1_0, .int .i64 a1_1, .int .i64 a1_2, .int .i64 a1_3]) (t := 80) ?hr ?_; (case hd => rfl); (case hg => rfl); (case hr => first | (go_simp; done) | (go_simp; rfl)); intro gb146 hg w28 hbox hb; have n0_ := Aside0.mk (blk_below (g := gb145) (o := .cells #[.int .i64 a0_0, .int .i64 a0_1, .int .i64 a0_2, .int .i64 a0_3] 80 (0, 0)) (by (with_reducible repeat (first | refine blk_drewN ?_ _ | refine blk_drew ?_ | refine blk_alloc ?_ _)); exact BK145.out) hb); have n1_ := Aside0.mk (below_step (by repeat (first | (with_reducible first | exact HB.out | apply below_alloc | apply pw_below_drewN | apply below_drew1 | refine below_set ?_ GE145.out) | exact HB.out)) hb); have n2_ := Aside0.mk (hbox); have n3_ := Aside0.mk ((by rw [hg]; exact (below_size (by repeat (first | (with_reducible first | exact HB.out | apply below_alloc | apply pw_below_drewN | apply below_drew1 | refine below_set ?_ GE145.out) | exact HB.out))) : w.heap.size ≤ gb146)); have n4_ := Aside0.mk ((by rw [hg]; exact (below_size (by repeat (first | (with_reducible first | exact HB.out | apply below_alloc | apply pw_below_drewN | apply below_drew1 | refine below_set ?_ GE145.out) | exact HB.out))) : w.heap.size ≤ gb146)); have n5_ := Aside0.mk ((by rw [hg]; exact Nat.ne_of_lt (blk_lt (g := gb145) (o := .cells #[.int .i64 a0_0, .int .i64 a0_1, .int .i64 a0_2, .int .i64 a0_3] 80 (0, 0)) (by (with_reducible repeat (first | refine blk_drewN ?_ _ | refine blk_drew ?_ | refine blk_alloc ?_ _)); exact BK145.out)) : gb145 ≠ gb146)); have n6_ := Aside0.mk ((by rw [hg]; exact Nat.ne_of_gt (blk_lt (g := gb145) (o := .cells #[.int .i64 a0_0, .int .i64 a0_1, .int .i64 a0_2, .int .i64 a0_3] 80 (0, 0)) (by (with_reducible repeat (first | refine blk_drewN ?_ _ | refine blk_drew ?_ | refine blk_alloc ?_ _)); exact BK145.out)) : gb146 ≠ gb145)); clear BK145; clear HB; have BK145 := n0_; have HB := n1_; have BK146 := n2_; have GW146 := n3_; have GE146 := n4_; have NB145_146 := n5_; have NB146_145 := n6_; clear n0_ n1_ n2_ n3_ n4_ n5_ n6_; clear hb hbox hg; have hnb29 := NB145_146.out; have hnc29 := NB146_145.out; have hcz30_0 : w28.cell? ⟨gb145, 0, none⟩ = some (.int .i64 a0_0) := (blk_cell BK145.out 0).trans rfl; have hcz30_1 : w28.cell? ⟨gb145, 1, none⟩ = some (.int .i64 a0_1) := (blk_cell BK145.out 1).trans rfl; have hcz30_2 : w28.cell? ⟨gb145, 2, none⟩ = some (.int .i64 a0_2) := (blk_cell BK145.out 2).trans rfl; have hcz30_3 : w28.cell? ⟨gb145, 3, none⟩ = some (.int .i64 a0_3) := (blk_cell BK145.out 3).trans rfl; have hfz30_0 := blk_frozen BK145.out 0; have hfz30_1 := blk_frozen BK145.out 1; have hfz30_2 := blk_frozen BK145.out 2; have hfz30_3 := blk_frozen BK145.out 3; have hcz31_0 : w28.cell? ⟨gb146, 0, none⟩ = some (.int .i64 a1_0) := (blk_cell BK146.out 0).trans rfl; have hcz31_1 : w28.cell? ⟨gb146, 1, none⟩ = some (.int .i64 a1_1) := (blk_cell BK146.out 1).trans rfl; have hcz31_2 : w28.cell? ⟨gb146, 2, none⟩ = some (.int .i64 a1_2) := (blk_cell BK146.out 2).trans rfl; have hcz31_3 : w28.cell? ⟨gb146, 3, none⟩ = some (.int .i64 a1_3) := (blk_cell BK146.out 3).trans rfl; have hfz31_0 := blk_frozen BK146.out 0; have hfz31_1 := blk_frozen BK146.out 1; have hfz31_2 := blk_frozen BK146.out 2; have hfz31_3 := blk_frozen BK146.out 3))
    go_ret
    exact ⟨by first | rfl | (simp [errW_none, errW_some] <;> rfl) | (simp [*, errW_none, errW_some] <;> rfl), by repeat (first | (with_reducible first | exact HB.out | apply below_alloc | apply pw_below_drewN | apply below_drew1 | refine below_set ?_ GE145.out | refine below_set ?_ GE146.out) | exact HB.out)⟩

end Go.Proofs.Ythpggkpidbieeaa.XFnExactFarmRight
