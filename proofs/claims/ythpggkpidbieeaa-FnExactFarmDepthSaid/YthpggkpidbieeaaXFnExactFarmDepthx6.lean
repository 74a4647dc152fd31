/- Functions that FnExactFarmDepth comes to, as Lean functions with their contracts: written by the prover's own program (wip/tpl/myprint.py) over the kit's printer, some contracts by hand. Conditions: none. -/
import Derived.Test.YthpggkpidbieeaaXFnExactFarmDepthx0
import Derived.Test.YthpggkpidbieeaaXFnExactFarmDepthx4
import Derived.Test.YthpggkpidbieeaaXFnExactFarmDepthx5
namespace Go.Proofs.Ythpggkpidbieeaa.XFnExactFarmDepth
open Go.RowKit Go.Proofs.YthpggkpidbieeaaW.PrintWords Go.Proofs.YthpggkpidbieeaaW.PrintLast Go.Proofs.YthpggkpidbieeaaW.PrintMore
attribute [local go_sem] max2_int min2_int max_two min_two max_three min_three max_four min_four   -- for this text's walks alone
set_option linter.unusedVariables false
set_option linter.unusedSimpArgs false

/-! ### impl_FarmRight: function 34 -/
theorem hf_in (a b c : Int) : impl_in.f a b c = some (decide (b ≤ a ∧ a ≤ c)) := by
  unfold impl_in.f
  by_cases h : b ≤ a <;> simp [h]
theorem hf_id_eq (a : Int) : impl_isId.f a = some (hf_id a) := by simp [impl_isId.f, hf_in, hf_id]
theorem hf_want_eq (a : Int) : impl_isWant.f a = some (hf_want a) := by simp [impl_isWant.f, hf_in, hf_want]
theorem hf_weight_eq (a : Int) : impl_isWeight.f a = some (hf_weight a) := by simp [impl_isWeight.f, hf_in, hf_weight]
def hf_has (l : List S80) (id : Int) : Bool := is_Group l id || id == 0
theorem hf_has_eq (a : Int) (l : List S80) (m : List S83) (id : Int) (hl : l.length ≤ 4611686018427387904) : impl_Farm_hasGroup.f a l m id = some (hf_has l id) := by
  unfold impl_Farm_hasGroup.f impl_Farm_group.f hf_has
  rw [if_pos hl]
  simp only [Option.bind_some]
  cases is_Group l id <;> simp
def impl_FarmRight.g (l : List S80) (i : Nat) : Bool := hf_id (rd_T80 l i).f0 && ((decide (i = 0) || decide ((rd_T80 l ((i - 1 : Nat) : Int)).f0 < (rd_T80 l i).f0)) && (hf_has (l.take i) (rd_T80 l i).f1 && (hf_want (rd_T80 l i).f2 && hf_weight (rd_T80 l i).f3)))
def impl_FarmRight.m (l : List S80) (m : List S83) (i : Nat) : Bool := hf_id (rd_T83 m i).f0 && ((decide (i = 0) || decide ((rd_T83 m ((i - 1 : Nat) : Int)).f0 < (rd_T83 m i).f0)) && (hf_has l (rd_T83 m i).f1 && (hf_want (rd_T83 m i).f2 && hf_weight (rd_T83 m i).f3)))
def impl_FarmRight.f (a0_0 : Int) (l0_1 : List S80) (l0_2 : List S83) : Option Bool :=
  some (hf_want a0_0 && (decide (l0_1.length ≤ 30) && (decide (l0_2.length ≤ 60) && ((List.range l0_1.length).all (impl_FarmRight.g l0_1) && (List.range l0_2.length).all (impl_FarmRight.m l0_1 l0_2)))))
set_option maxHeartbeats 32000000 in
set_option maxRecDepth 100000 in
theorem impl_FarmRight.calls (a0_0 : Int) (A0_1 : Option Addr) (c0_1 : Nat) (l0_1 : List (S80)) (A0_2 : Option Addr) (c0_2 : Nat) (l0_2 : List (S83)) (r : Bool) (w : World) (hr0_1 : Kd.C k80 w A0_1 l0_1.length l0_1) (hc0_1 : l0_1.length ≤ c0_1) (hr0_2 : Kd.C k83 w A0_2 l0_2.length l0_2) (hc0_2 : l0_2.length ≤ c0_2) (h : impl_FarmRight.f a0_0 l0_1 l0_2 = some r) :
    Calls Try.prog 34 #[.agg #[.int .i64 a0_0, .slice A0_1 l0_1.length c0_1, .slice A0_2 l0_2.length c0_2]] w fun e w' => e = .returned (.bool r) ∧ Below w.heap.size w w' := by
  have hu1 := Try.underlying55
  have hu2 := Try.underlying80
  have hu3 := Try.underlying83
  have HR1 := Aside0.mk hr0_1
  have HR2 := Aside0.mk hr0_2
  have HC1 := Aside0.mk hc0_1
  have HC2 := Aside0.mk hc0_2
  have H := Aside0.mk (Option.some.inj h)
  clear h hr0_1 hr0_2 hc0_2
  have E1 := Aside0.mk (hf_want_eq a0_0)
  cases hw : hf_want a0_0 with
  | false =>
    rw [hw] at E1 H
    have HW := Aside0.mk hw
    clear hw
    go_enter Try.func34, Try.ntmps34
    go_wp2_with (go_at_call 59; refine (impl_isWant.calls _ _ _ E1.out).mono ?_; rintro e w1 ⟨rfl, ⟨n, rfl⟩⟩)
    go_ret
    exact ⟨by rw [← H.out]; rfl, pw_below_drewN ((Below.refl _ _).alloc (Nat.le_refl _) _) _⟩
  | true =>
    rw [hw] at E1 H
    have HW := Aside0.mk hw
    clear hw
    by_cases h1 : l0_1.length ≤ 30
    · by_cases h2 : l0_2.length ≤ 60
      · have h1z : ¬ ((l0_1.length : Nat) : Int) > 30 := by omega
        have h2z : ¬ ((l0_2.length : Nat) : Int) > 60 := by omega
        replace H := Aside0.mk (show ((List.range l0_1.length).all (impl_FarmRight.g l0_1) && (List.range l0_2.length).all (impl_FarmRight.m l0_1 l0_2)) = r by rw [← H.out]; simp [h1, h2])
        go_enter Try.func34, Try.ntmps34
        go_wp2_with (go_at_call 59; refine (impl_isWant.calls _ _ _ E1.out).mono ?_; rintro e w1 ⟨rfl, ⟨n, rfl⟩⟩)
        obtain ⟨w2, hw2⟩ : ∃ w2, w2 = (w.alloc (Obj.cells #[Value.int IntKind.i64 a0_0, Value.slice A0_1 l0_1.length c0_1, Value.slice A0_2 l0_2.length c0_2] 55)).drewN n := ⟨_, rfl⟩
        have hbk := Aside0.mk (show w2.heap[w.heap.size]? = some (Obj.cells #[Value.int IntKind.i64 a0_0, Value.slice A0_1 l0_1.length c0_1, Value.slice A0_2 l0_2.length c0_2] 55) by rw [hw2]; exact heap_alloc_new w _)
        have HB2 := Aside0.mk (show Below w.heap.size w w2 by rw [hw2]; exact pw_below_drewN ((Below.refl _ _).alloc (Nat.le_refl _) _) _)
        rw [← hw2]
        clear hw2
        go_loopg [3, 4, 5, 27] l0_1.length (fun gg _ _ _ s27 wr => ∃ i : Nat, s27 = .int .i64 i ∧ i ≤ l0_1.length ∧ l0_1.length - i ≤ gg ∧ Aside0 (Below w.heap.size w wr) ∧ Aside0 (wr.heap[w.heap.size]? = some (Obj.cells #[Value.int IntKind.i64 a0_0, Value.slice A0_1 l0_1.length c0_1, Value.slice A0_2 l0_2.length c0_2] 55)) ∧ Aside0 (∀ j, j < i → impl_FarmRight.g l0_1 j = true))
        case atStart => exact ⟨0, rfl, Nat.zero_le _, by omega, HB2, hbk, ⟨fun j hj => absurd hj (Nat.not_lt_zero _)⟩⟩
        case round =>
          clear hbk HB2
          obtain ⟨i, rfl, hil, hg, HB, HK, HG⟩ := hrel
          have hk0 := blk_cell HK.out 0
          have hk1 := blk_cell HK.out 1
          have hk2 := blk_cell HK.out 2
          simp only [List.getElem?_toArray, List.getElem?_cons_zero, List.getElem?_cons_succ] at hk0 hk1 hk2
          have hsz : w.heap.size < wr.heap.size := blk_lt HK.out
          by_cases hlt : i < l0_1.length
          · have hltz : (i : Int) < (l0_1.length : Int) := by omega
            obtain ⟨ad1, e, hx0, hx1, hx2, hx3⟩ := at_T80 HR1.out (i : Int) (by omega) (by omega)
            cases e
            replace hx0 := pw_cell_below HB.out hx0
            replace hx1 := pw_cell_below HB.out hx1
            replace hx2 := pw_cell_below HB.out hx2
            replace hx3 := pw_cell_below HB.out hx3
            simp only [Int.toNat_natCast] at hx0 hx1 hx2 hx3
            obtain ⟨y, hy⟩ : ∃ y, y = rd_T80 l0_1 (i : Int) := ⟨_, rfl⟩
            rw [← hy] at hx0 hx1 hx2 hx3
            have HY := Aside0.mk hy
            clear hy
            go_wp2_with fail
            obtain ⟨w3, hw3⟩ : ∃ w3, w3 = (wr.alloc (Obj.cells #[Value.int IntKind.i64 y.f0, Value.int IntKind.i64 y.f1, Value.int IntKind.i64 y.f2, Value.int IntKind.i64 y.f3] 80)).alloc (Obj.cells #[Value.int IntKind.i64 0, Value.slice (some ad1) i c0_1, Value.slice none 0 0] 55) := ⟨_, rfl⟩
            rw [← hw3]
            have hb80 : w3.heap[wr.heap.size]? = some (Obj.cells #[Value.int IntKind.i64 y.f0, Value.int IntKind.i64 y.f1, Value.int IntKind.i64 y.f2, Value.int IntKind.i64 y.f3] 80 (0, 0)) := by rw [hw3]; exact (Below.heap_alloc _ _ _ (by simp)).trans (heap_alloc_new wr _)
            have hb55 : w3.heap[wr.heap.size + 1]? = some (Obj.cells #[Value.int IntKind.i64 0, Value.slice (some ad1) i c0_1, Value.slice none 0 0] 55 (0, 0)) := by
              have := heap_alloc_new (wr.alloc (Obj.cells #[Value.int IntKind.i64 y.f0, Value.int IntKind.i64 y.f1, Value.int IntKind.i64 y.f2, Value.int IntKind.i64 y.f3] 80)) (Obj.cells #[Value.int IntKind.i64 0, Value.slice (some ad1) i c0_1, Value.slice none 0 0] 55)
              rw [← hw3] at this
              simpa using this
            have hB3 : Below wr.heap.size wr w3 := by rw [hw3]; exact ((Below.refl _ _).alloc (Nat.le_refl _) _).alloc (by simp) _
            have HB3 := Aside0.mk (HB.out.trans (hB3.mono (by omega)))
            have HK3 := Aside0.mk ((hB3.block _ hsz).trans HK.out)
            have f80_0 : ∀ p : BW w3, p.W.cell? ⟨wr.heap.size, 0, none⟩ = some (.int .i64 y.f0) := fun p => p.cell (blk_cell hb80 0)
            have f80_1 : ∀ p : BW w3, p.W.cell? ⟨wr.heap.size, 1, none⟩ = some (.int .i64 y.f1) := fun p => p.cell (blk_cell hb80 1)
            have f80_2 : ∀ p : BW w3, p.W.cell? ⟨wr.heap.size, 2, none⟩ = some (.int .i64 y.f2) := fun p => p.cell (blk_cell hb80 2)
            have f80_3 : ∀ p : BW w3, p.W.cell? ⟨wr.heap.size, 3, none⟩ = some (.int .i64 y.f3) := fun p => p.cell (blk_cell hb80 3)
            have f55_0 : ∀ p : BW w3, p.W.cell? ⟨wr.heap.size + 1, 0, none⟩ = some (.int .i64 0) := fun p => p.cell (blk_cell hb55 0)
            have f55_1 : ∀ p : BW w3, p.W.cell? ⟨wr.heap.size + 1, 1, none⟩ = some (.slice (some ad1) i c0_1) := fun p => p.cell (blk_cell hb55 1)
            have f55_2 : ∀ p : BW w3, p.W.cell? ⟨wr.heap.size + 1, 2, none⟩ = some (.slice none 0 0) := fun p => p.cell (blk_cell hb55 2)
            have ff_0 : ∀ p : BW w3, p.W.cell? ⟨w.heap.size, 0, none⟩ = some (.int .i64 a0_0) := fun p => p.cell (blk_cell HK3.out 0)
            have ff_1 : ∀ p : BW w3, p.W.cell? ⟨w.heap.size, 1, none⟩ = some (.slice (some ad1) l0_1.length c0_1) := fun p => p.cell (blk_cell HK3.out 1)
            have ff_2 : ∀ p : BW w3, p.W.cell? ⟨w.heap.size, 2, none⟩ = some (.slice A0_2 l0_2.length c0_2) := fun p => p.cell (blk_cell HK3.out 2)
            have e1 := Aside0.mk (hf_id_eq y.f0)
            have e3 := Aside0.mk (hf_want_eq y.f2)
            have e4 := Aside0.mk (hf_weight_eq y.f3)
            have e2 := Aside0.mk (hf_has_eq 0 (l0_1.take i) [] y.f1 (by simp; omega))
            have hG := Aside0.mk (show impl_FarmRight.g l0_1 i = (hf_id y.f0 && ((decide (i = 0) || decide ((rd_T80 l0_1 ((i - 1 : Nat) : Int)).f0 < y.f0)) && (hf_has (l0_1.take i) y.f1 && (hf_want y.f2 && hf_weight y.f3)))) by rw [HY.out]; rfl)
            clear hw3 hb80 hb55 hB3 hx0 hx1 hx2 hx3 hk0 hk1 hk2
            have hti := Aside0.mk (show (l0_1.take i).length = i by simp; omega)
            have hCi := Aside0.mk (show Kd.C k80 w (some ad1) (l0_1.take i).length (l0_1.take i) from Kd.C_take HR1.out (by omega))
            cases c1 : hf_id y.f0 with
            | false =>
              rw [c1] at e1 hG
              have C1 := Aside0.mk c1
              clear c1
              refine wp_region_bw (by kernel_rfl) (by kernel_rfl) ?_
              repeat (go_big_quiet_step (first | (go_at_call 68; exact Calls.bwd (impl_isId.calls _ _ _ e1.out)) | (go_at_call 59; exact Calls.bwd (impl_isWant.calls _ _ _ e3.out)) | (go_at_call 70; exact Calls.bwd (impl_isWeight.calls _ _ _ e4.out)) | (go_at_call 69; exact Calls.bw (calls_of_args (by rw [hti.out]; rfl) (impl_Farm_hasGroup.calls 0 (some ad1) c0_1 (l0_1.take i) none 0 [] _ _ _ (Kd.C_below (Kd.C_below hCi.out HB3.out) (BW.h _)) (by rw [hti.out]; have := HC1.out; omega) (Kd.C_nil _ _) (Nat.le_refl _) e2.out)))))
              refine wpQuiet_nil ?_
              intro _ hw'
              obtain ⟨⟨w4, hb4⟩, hw''⟩ := hw'
              subst hw''
              have HB4 := Aside0.mk (below_then HB3.out HB3.out.size hb4)
              have HK4 := Aside0.mk ((hb4.block _ (blk_lt HK3.out)).trans HK3.out)
              clear hb4
              go_wp2
              go_ret
              exact ⟨by rw [← H.out, all_range_false hlt (by rw [hG.out]; simp)]; rfl, HB4.out⟩
            | true =>
              rw [c1] at e1 hG
              have C1 := Aside0.mk c1
              clear c1
              by_cases hi0 : i = 0
              · have hi1 : decide (0 < i) = false := decide_eq_false (by omega)
                rw [show decide (i = 0) = true from decide_eq_true hi0] at hG
                have HI0 := Aside0.mk hi0
                clear hi0
                cases c3 : hf_has (l0_1.take i) y.f1 with
                | false =>
                  rw [c3] at e2 hG
                  have C3 := Aside0.mk c3
                  clear c3
                  refine wp_region_bw (by kernel_rfl) (by kernel_rfl) ?_
                  repeat (go_big_quiet_step (first | (go_at_call 68; exact Calls.bwd (impl_isId.calls _ _ _ e1.out)) | (go_at_call 59; exact Calls.bwd (impl_isWant.calls _ _ _ e3.out)) | (go_at_call 70; exact Calls.bwd (impl_isWeight.calls _ _ _ e4.out)) | (go_at_call 69; exact Calls.bw (calls_of_args (by rw [hti.out]; rfl) (impl_Farm_hasGroup.calls 0 (some ad1) c0_1 (l0_1.take i) none 0 [] _ _ _ (Kd.C_below (Kd.C_below hCi.out HB3.out) (BW.h _)) (by rw [hti.out]; have := HC1.out; omega) (Kd.C_nil _ _) (Nat.le_refl _) e2.out)))))
                  refine wpQuiet_nil ?_
                  intro _ hw'
                  obtain ⟨⟨w4, hb4⟩, hw''⟩ := hw'
                  subst hw''
                  have HB4 := Aside0.mk (below_then HB3.out HB3.out.size hb4)
                  have HK4 := Aside0.mk ((hb4.block _ (blk_lt HK3.out)).trans HK3.out)
                  clear hb4
                  go_wp2
                  go_ret
                  exact ⟨by rw [← H.out, all_range_false hlt (by rw [hG.out]; simp)]; rfl, HB4.out⟩
                | true =>
                  rw [c3] at e2 hG
                  have C3 := Aside0.mk c3
                  clear c3
                  cases c4 : hf_want y.f2 with
                  | false =>
                    rw [c4] at e3 hG
                    have C4 := Aside0.mk c4
                    clear c4
                    refine wp_region_bw (by kernel_rfl) (by kernel_rfl) ?_
                    repeat (go_big_quiet_step (first | (go_at_call 68; exact Calls.bwd (impl_isId.calls _ _ _ e1.out)) | (go_at_call 59; exact Calls.bwd (impl_isWant.calls _ _ _ e3.out)) | (go_at_call 70; exact Calls.bwd (impl_isWeight.calls _ _ _ e4.out)) | (go_at_call 69; exact Calls.bw (calls_of_args (by rw [hti.out]; rfl) (impl_Farm_hasGroup.calls 0 (some ad1) c0_1 (l0_1.take i) none 0 [] _ _ _ (Kd.C_below (Kd.C_below hCi.out HB3.out) (BW.h _)) (by rw [hti.out]; have := HC1.out; omega) (Kd.C_nil _ _) (Nat.le_refl _) e2.out)))))
                    refine wpQuiet_nil ?_
                    intro _ hw'
                    obtain ⟨⟨w4, hb4⟩, hw''⟩ := hw'
                    subst hw''
                    have HB4 := Aside0.mk (below_then HB3.out HB3.out.size hb4)
                    have HK4 := Aside0.mk ((hb4.block _ (blk_lt HK3.out)).trans HK3.out)
                    clear hb4
                    go_wp2
                    go_ret
                    exact ⟨by rw [← H.out, all_range_false hlt (by rw [hG.out]; simp)]; rfl, HB4.out⟩
                  | true =>
                    rw [c4] at e3 hG
                    have C4 := Aside0.mk c4
                    clear c4
                    cases c5 : hf_weight y.f3 with
                    | false =>
                      rw [c5] at e4 hG
                      have C5 := Aside0.mk c5
                      clear c5
                      refine wp_region_bw (by kernel_rfl) (by kernel_rfl) ?_
                      repeat (go_big_quiet_step (first | (go_at_call 68; exact Calls.bwd (impl_isId.calls _ _ _ e1.out)) | (go_at_call 59; exact Calls.bwd (impl_isWant.calls _ _ _ e3.out)) | (go_at_call 70; exact Calls.bwd (impl_isWeight.calls _ _ _ e4.out)) | (go_at_call 69; exact Calls.bw (calls_of_args (by rw [hti.out]; rfl) (impl_Farm_hasGroup.calls 0 (some ad1) c0_1 (l0_1.take i) none 0 [] _ _ _ (Kd.C_below (Kd.C_below hCi.out HB3.out) (BW.h _)) (by rw [hti.out]; have := HC1.out; omega) (Kd.C_nil _ _) (Nat.le_refl _) e2.out)))))
                      refine wpQuiet_nil ?_
                      intro _ hw'
                      obtain ⟨⟨w4, hb4⟩, hw''⟩ := hw'
                      subst hw''
                      have HB4 := Aside0.mk (below_then HB3.out HB3.out.size hb4)
                      have HK4 := Aside0.mk ((hb4.block _ (blk_lt HK3.out)).trans HK3.out)
                      clear hb4
                      go_wp2
                      go_ret
                      exact ⟨by rw [← H.out, all_range_false hlt (by rw [hG.out]; simp)]; rfl, HB4.out⟩
                    | true =>
                      rw [c5] at e4 hG
                      have C5 := Aside0.mk c5
                      clear c5
                      refine wp_region_bw (by kernel_rfl) (by kernel_rfl) ?_
                      repeat (go_big_quiet_step (first | (go_at_call 68; exact Calls.bwd (impl_isId.calls _ _ _ e1.out)) | (go_at_call 59; exact Calls.bwd (impl_isWant.calls _ _ _ e3.out)) | (go_at_call 70; exact Calls.bwd (impl_isWeight.calls _ _ _ e4.out)) | (go_at_call 69; exact Calls.bw (calls_of_args (by rw [hti.out]; rfl) (impl_Farm_hasGroup.calls 0 (some ad1) c0_1 (l0_1.take i) none 0 [] _ _ _ (Kd.C_below (Kd.C_below hCi.out HB3.out) (BW.h _)) (by rw [hti.out]; have := HC1.out; omega) (Kd.C_nil _ _) (Nat.le_refl _) e2.out)))))
                      refine wpQuiet_nil ?_
                      intro _ hw'
                      obtain ⟨⟨w4, hb4⟩, hw''⟩ := hw'
                      subst hw''
                      have HB4 := Aside0.mk (below_then HB3.out HB3.out.size hb4)
                      have HK4 := Aside0.mk ((hb4.block _ (blk_lt HK3.out)).trans HK3.out)
                      clear hb4
                      go_wp2
                      go_roundg (l0_1.length - (i + 1))
                      case measure => omega
                      case rel => exact ⟨i + 1, by go_num, by omega, by omega, HB4, HK4, ⟨fun j hj => by
                        by_cases e : j = i
                        · rw [e, hG.out]; simp
                        · exact HG.out j (by omega)⟩⟩
              · have hi1 : decide (0 < i) = true := decide_eq_true (by omega)
                have hi2 : 0 < i := by omega
                have hi3 : (0 : Int) ≤ (i : Int) - 1 := by omega
                have hi4 : (i : Int) - 1 < (l0_1.length : Int) := by omega
                obtain ⟨ad', e', hp0, _⟩ := at_T80 HR1.out ((i : Int) - 1) hi3 hi4
                cases e'
                rw [show ((i : Int) - 1).toNat = i - 1 by omega] at hp0
                have fp := fun p : BW w3 => p.cell (pw_cell_below HB3.out hp0)
                rw [show decide (i = 0) = false from decide_eq_false hi0, show rd_T80 l0_1 ((i - 1 : Nat) : Int) = rd_T80 l0_1 ((i : Int) - 1) by congr 1; omega] at hG
                clear hp0 hi0
                generalize (rd_T80 l0_1 ((i : Int) - 1)).f0 = pv at fp hG
                by_cases hpv : pv < y.f0
                · have hpv1 : decide (pv ≥ y.f0) = false := decide_eq_false (by omega)
                  have hpv2 : decide (y.f0 ≤ pv) = false := decide_eq_false (by omega)
                  rw [show decide (pv < y.f0) = true from decide_eq_true hpv] at hG
                  clear hpv
                  cases c3 : hf_has (l0_1.take i) y.f1 with
                  | false =>
                    rw [c3] at e2 hG
                    have C3 := Aside0.mk c3
                    clear c3
                    refine wp_region_bw (by kernel_rfl) (by kernel_rfl) ?_
                    repeat (go_big_quiet_step (first | (go_at_call 68; exact Calls.bwd (impl_isId.calls _ _ _ e1.out)) | (go_at_call 59; exact Calls.bwd (impl_isWant.calls _ _ _ e3.out)) | (go_at_call 70; exact Calls.bwd (impl_isWeight.calls _ _ _ e4.out)) | (go_at_call 69; exact Calls.bw (calls_of_args (by rw [hti.out]; rfl) (impl_Farm_hasGroup.calls 0 (some ad1) c0_1 (l0_1.take i) none 0 [] _ _ _ (Kd.C_below (Kd.C_below hCi.out HB3.out) (BW.h _)) (by rw [hti.out]; have := HC1.out; omega) (Kd.C_nil _ _) (Nat.le_refl _) e2.out)))))
                    refine wpQuiet_nil ?_
                    intro _ hw'
                    obtain ⟨⟨w4, hb4⟩, hw''⟩ := hw'
                    subst hw''
                    have HB4 := Aside0.mk (below_then HB3.out HB3.out.size hb4)
                    have HK4 := Aside0.mk ((hb4.block _ (blk_lt HK3.out)).trans HK3.out)
                    clear hb4
                    go_wp2
                    go_ret
                    exact ⟨by rw [← H.out, all_range_false hlt (by rw [hG.out]; simp)]; rfl, HB4.out⟩
                  | true =>
                    rw [c3] at e2 hG
                    have C3 := Aside0.mk c3
                    clear c3
                    cases c4 : hf_want y.f2 with
                    | false =>
                      rw [c4] at e3 hG
                      have C4 := Aside0.mk c4
                      clear c4
                      refine wp_region_bw (by kernel_rfl) (by kernel_rfl) ?_
                      repeat (go_big_quiet_step (first | (go_at_call 68; exact Calls.bwd (impl_isId.calls _ _ _ e1.out)) | (go_at_call 59; exact Calls.bwd (impl_isWant.calls _ _ _ e3.out)) | (go_at_call 70; exact Calls.bwd (impl_isWeight.calls _ _ _ e4.out)) | (go_at_call 69; exact Calls.bw (calls_of_args (by rw [hti.out]; rfl) (impl_Farm_hasGroup.calls 0 (some ad1) c0_1 (l0_1.take i) none 0 [] _ _ _ (Kd.C_below (Kd.C_below hCi.out HB3.out) (BW.h _)) (by rw [hti.out]; have := HC1.out; omega) (Kd.C_nil _ _) (Nat.le_refl _) e2.out)))))
                      refine wpQuiet_nil ?_
                      intro _ hw'
                      obtain ⟨⟨w4, hb4⟩, hw''⟩ := hw'
                      subst hw''
                      have HB4 := Aside0.mk (below_then HB3.out HB3.out.size hb4)
                      have HK4 := Aside0.mk ((hb4.block _ (blk_lt HK3.out)).trans HK3.out)
                      clear hb4
                      go_wp2
                      go_ret
                      exact ⟨by rw [← H.out, all_range_false hlt (by rw [hG.out]; simp)]; rfl, HB4.out⟩
                    | true =>
                      rw [c4] at e3 hG
                      have C4 := Aside0.mk c4
                      clear c4
                      cases c5 : hf_weight y.f3 with
                      | false =>
                        rw [c5] at e4 hG
                        have C5 := Aside0.mk c5
                        clear c5
                        refine wp_region_bw (by kernel_rfl) (by kernel_rfl) ?_
                        repeat (go_big_quiet_step (first | (go_at_call 68; exact Calls.bwd (impl_isId.calls _ _ _ e1.out)) | (go_at_call 59; exact Calls.bwd (impl_isWant.calls _ _ _ e3.out)) | (go_at_call 70; exact Calls.bwd (impl_isWeight.calls _ _ _ e4.out)) | (go_at_call 69; exact Calls.bw (calls_of_args (by rw [hti.out]; rfl) (impl_Farm_hasGroup.calls 0 (some ad1) c0_1 (l0_1.take i) none 0 [] _ _ _ (Kd.C_below (Kd.C_below hCi.out HB3.out) (BW.h _)) (by rw [hti.out]; have := HC1.out; omega) (Kd.C_nil _ _) (Nat.le_refl _) e2.out)))))
                        refine wpQuiet_nil ?_
                        intro _ hw'
                        obtain ⟨⟨w4, hb4⟩, hw''⟩ := hw'
                        subst hw''
                        have HB4 := Aside0.mk (below_then HB3.out HB3.out.size hb4)
                        have HK4 := Aside0.mk ((hb4.block _ (blk_lt HK3.out)).trans HK3.out)
                        clear hb4
                        go_wp2
                        go_ret
                        exact ⟨by rw [← H.out, all_range_false hlt (by rw [hG.out]; simp)]; rfl, HB4.out⟩
                      | true =>
                        rw [c5] at e4 hG
                        have C5 := Aside0.mk c5
                        clear c5
                        refine wp_region_bw (by kernel_rfl) (by kernel_rfl) ?_
                        repeat (go_big_quiet_step (first | (go_at_call 68; exact Calls.bwd (impl_isId.calls _ _ _ e1.out)) | (go_at_call 59; exact Calls.bwd (impl_isWant.calls _ _ _ e3.out)) | (go_at_call 70; exact Calls.bwd (impl_isWeight.calls _ _ _ e4.out)) | (go_at_call 69; exact Calls.bw (calls_of_args (by rw [hti.out]; rfl) (impl_Farm_hasGroup.calls 0 (some ad1) c0_1 (l0_1.take i) none 0 [] _ _ _ (Kd.C_below (Kd.C_below hCi.out HB3.out) (BW.h _)) (by rw [hti.out]; have := HC1.out; omega) (Kd.C_nil _ _) (Nat.le_refl _) e2.out)))))
                        refine wpQuiet_nil ?_
                        intro _ hw'
                        obtain ⟨⟨w4, hb4⟩, hw''⟩ := hw'
                        subst hw''
                        have HB4 := Aside0.mk (below_then HB3.out HB3.out.size hb4)
                        have HK4 := Aside0.mk ((hb4.block _ (blk_lt HK3.out)).trans HK3.out)
                        clear hb4
                        go_wp2
                        go_roundg (l0_1.length - (i + 1))
                        case measure => omega
                        case rel => exact ⟨i + 1, by go_num, by omega, by omega, HB4, HK4, ⟨fun j hj => by
                          by_cases e : j = i
                          · rw [e, hG.out]; simp
                          · exact HG.out j (by omega)⟩⟩
                · have hpv1 : decide (pv ≥ y.f0) = true := decide_eq_true (by omega)
                  have hpv2 : decide (y.f0 ≤ pv) = true := decide_eq_true (by omega)
                  rw [show decide (pv < y.f0) = false from decide_eq_false hpv] at hG
                  clear hpv
                  refine wp_region_bw (by kernel_rfl) (by kernel_rfl) ?_
                  repeat (go_big_quiet_step (first | (go_at_call 68; exact Calls.bwd (impl_isId.calls _ _ _ e1.out)) | (go_at_call 59; exact Calls.bwd (impl_isWant.calls _ _ _ e3.out)) | (go_at_call 70; exact Calls.bwd (impl_isWeight.calls _ _ _ e4.out)) | (go_at_call 69; exact Calls.bw (calls_of_args (by rw [hti.out]; rfl) (impl_Farm_hasGroup.calls 0 (some ad1) c0_1 (l0_1.take i) none 0 [] _ _ _ (Kd.C_below (Kd.C_below hCi.out HB3.out) (BW.h _)) (by rw [hti.out]; have := HC1.out; omega) (Kd.C_nil _ _) (Nat.le_refl _) e2.out)))))
                  refine wpQuiet_nil ?_
                  intro _ hw'
                  obtain ⟨⟨w4, hb4⟩, hw''⟩ := hw'
                  subst hw''
                  have HB4 := Aside0.mk (below_then HB3.out HB3.out.size hb4)
                  have HK4 := Aside0.mk ((hb4.block _ (blk_lt HK3.out)).trans HK3.out)
                  clear hb4
                  go_wp2
                  go_ret
                  exact ⟨by rw [← H.out, all_range_false hlt (by rw [hG.out]; simp)]; rfl, HB4.out⟩
          · have hie : i = l0_1.length := by omega
            subst hie
            have hltz : ¬ (l0_1.length : Int) < (l0_1.length : Int) := by omega
            go_wp2_with fail
            replace H := Aside0.mk (show ((List.range l0_2.length).all (impl_FarmRight.m l0_1 l0_2)) = r by rw [← H.out, all_range_true HG.out]; rfl)
            clear HG hk0 hk1 hk2 hltz hg
            go_loopg [6, 7, 80] l0_2.length (fun gg _ _ s27 wr => ∃ i : Nat, s27 = .int .i64 i ∧ i ≤ l0_2.length ∧ l0_2.length - i ≤ gg ∧ Aside0 (Below w.heap.size w wr) ∧ Aside0 (wr.heap[w.heap.size]? = some (Obj.cells #[Value.int IntKind.i64 a0_0, Value.slice A0_1 l0_1.length c0_1, Value.slice A0_2 l0_2.length c0_2] 55)) ∧ Aside0 (∀ j, j < i → impl_FarmRight.m l0_1 l0_2 j = true))
            case atStart => exact ⟨0, rfl, Nat.zero_le _, by omega, HB, HK, ⟨fun j hj => absurd hj (Nat.not_lt_zero _)⟩⟩
            case round =>
              clear HB HK hsz
              obtain ⟨i, rfl, hil, hg, HB, HK, HG⟩ := hrel
              have hk0 := blk_cell HK.out 0
              have hk1 := blk_cell HK.out 1
              have hk2 := blk_cell HK.out 2
              simp only [List.getElem?_toArray, List.getElem?_cons_zero, List.getElem?_cons_succ] at hk0 hk1 hk2
              have hsz : w.heap.size < wr.heap.size := blk_lt HK.out
              by_cases hlt : i < l0_2.length
              · have hltz : (i : Int) < (l0_2.length : Int) := by omega
                obtain ⟨ad2, e, hx0, hx1, hx2, hx3⟩ := at_T83 HR2.out (i : Int) (by omega) (by omega)
                cases e
                replace hx0 := pw_cell_below HB.out hx0
                replace hx1 := pw_cell_below HB.out hx1
                replace hx2 := pw_cell_below HB.out hx2
                replace hx3 := pw_cell_below HB.out hx3
                simp only [Int.toNat_natCast] at hx0 hx1 hx2 hx3
                obtain ⟨y, hy⟩ : ∃ y, y = rd_T83 l0_2 (i : Int) := ⟨_, rfl⟩
                rw [← hy] at hx0 hx1 hx2 hx3
                have HY := Aside0.mk hy
                clear hy
                go_wp2_with fail
                obtain ⟨w3, hw3⟩ : ∃ w3, w3 = wr.alloc (Obj.cells #[Value.int IntKind.i64 y.f0, Value.int IntKind.i64 y.f1, Value.int IntKind.i64 y.f2, Value.int IntKind.i64 y.f3] 83) := ⟨_, rfl⟩
                rw [← hw3]
                have hb80 : w3.heap[wr.heap.size]? = some (Obj.cells #[Value.int IntKind.i64 y.f0, Value.int IntKind.i64 y.f1, Value.int IntKind.i64 y.f2, Value.int IntKind.i64 y.f3] 83 (0, 0)) := by rw [hw3]; exact heap_alloc_new wr _
                have hB3 : Below wr.heap.size wr w3 := by rw [hw3]; exact (Below.refl _ _).alloc (Nat.le_refl _) _
                have HB3 := Aside0.mk (HB.out.trans (hB3.mono (by omega)))
                have HK3 := Aside0.mk ((hB3.block _ hsz).trans HK.out)
                have f80_0 : ∀ p : BW w3, p.W.cell? ⟨wr.heap.size, 0, none⟩ = some (.int .i64 y.f0) := fun p => p.cell (blk_cell hb80 0)
                have f80_1 : ∀ p : BW w3, p.W.cell? ⟨wr.heap.size, 1, none⟩ = some (.int .i64 y.f1) := fun p => p.cell (blk_cell hb80 1)
                have f80_2 : ∀ p : BW w3, p.W.cell? ⟨wr.heap.size, 2, none⟩ = some (.int .i64 y.f2) := fun p => p.cell (blk_cell hb80 2)
                have f80_3 : ∀ p : BW w3, p.W.cell? ⟨wr.heap.size, 3, none⟩ = some (.int .i64 y.f3) := fun p => p.cell (blk_cell hb80 3)
                have ff_0 : ∀ p : BW w3, p.W.cell? ⟨w.heap.size, 0, none⟩ = some (.int .i64 a0_0) := fun p => p.cell (blk_cell HK3.out 0)
                have ff_1 : ∀ p : BW w3, p.W.cell? ⟨w.heap.size, 1, none⟩ = some (.slice A0_1 l0_1.length c0_1) := fun p => p.cell (blk_cell HK3.out 1)
                have ff_2 : ∀ p : BW w3, p.W.cell? ⟨w.heap.size, 2, none⟩ = some (.slice (some ad2) l0_2.length c0_2) := fun p => p.cell (blk_cell HK3.out 2)
                have e1 := Aside0.mk (hf_id_eq y.f0)
                have e3 := Aside0.mk (hf_want_eq y.f2)
                have e4 := Aside0.mk (hf_weight_eq y.f3)
                have e2 := Aside0.mk (hf_has_eq a0_0 l0_1 l0_2 y.f1 (by omega))
                have hG := Aside0.mk (show impl_FarmRight.m l0_1 l0_2 i = (hf_id y.f0 && ((decide (i = 0) || decide ((rd_T83 l0_2 ((i - 1 : Nat) : Int)).f0 < y.f0)) && (hf_has l0_1 y.f1 && (hf_want y.f2 && hf_weight y.f3)))) by rw [HY.out]; rfl)
                clear hw3 hb80 hB3 hx0 hx1 hx2 hx3 hk0 hk1 hk2
                cases c1 : hf_id y.f0 with
                | false =>
                  rw [c1] at e1 hG
                  have C1 := Aside0.mk c1
                  clear c1
                  refine wp_region_bw (by kernel_rfl) (by kernel_rfl) ?_
                  repeat (go_big_quiet_step (first | (go_at_call 68; exact Calls.bwd (impl_isId.calls _ _ _ e1.out)) | (go_at_call 59; exact Calls.bwd (impl_isWant.calls _ _ _ e3.out)) | (go_at_call 70; exact Calls.bwd (impl_isWeight.calls _ _ _ e4.out)) | (go_at_call 69; exact Calls.bw (impl_Farm_hasGroup.calls a0_0 A0_1 c0_1 l0_1 (some ad2) c0_2 l0_2 _ _ _ (Kd.C_below (Kd.C_below HR1.out HB3.out) (BW.h _)) HC1.out (Kd.C_below (Kd.C_below HR2.out HB3.out) (BW.h _)) HC2.out e2.out))))
                  refine wpQuiet_nil ?_
                  intro _ hw'
                  obtain ⟨⟨w4, hb4⟩, hw''⟩ := hw'
                  subst hw''
                  have HB4 := Aside0.mk (below_then HB3.out HB3.out.size hb4)
                  have HK4 := Aside0.mk ((hb4.block _ (blk_lt HK3.out)).trans HK3.out)
                  clear hb4
                  go_wp2
                  go_ret
                  exact ⟨by rw [← H.out, all_range_false hlt (by rw [hG.out]; simp)]; simp, HB4.out⟩
                | true =>
                  rw [c1] at e1 hG
                  have C1 := Aside0.mk c1
                  clear c1
                  by_cases hi0 : i = 0
                  · have hi1 : decide (0 < i) = false := decide_eq_false (by omega)
                    rw [show decide (i = 0) = true from decide_eq_true hi0] at hG
                    have HI0 := Aside0.mk hi0
                    clear hi0
                    cases c3 : hf_has l0_1 y.f1 with
                    | false =>
                      rw [c3] at e2 hG
                      have C3 := Aside0.mk c3
                      clear c3
                      refine wp_region_bw (by kernel_rfl) (by kernel_rfl) ?_
                      repeat (go_big_quiet_step (first | (go_at_call 68; exact Calls.bwd (impl_isId.calls _ _ _ e1.out)) | (go_at_call 59; exact Calls.bwd (impl_isWant.calls _ _ _ e3.out)) | (go_at_call 70; exact Calls.bwd (impl_isWeight.calls _ _ _ e4.out)) | (go_at_call 69; exact Calls.bw (impl_Farm_hasGroup.calls a0_0 A0_1 c0_1 l0_1 (some ad2) c0_2 l0_2 _ _ _ (Kd.C_below (Kd.C_below HR1.out HB3.out) (BW.h _)) HC1.out (Kd.C_below (Kd.C_below HR2.out HB3.out) (BW.h _)) HC2.out e2.out))))
                      refine wpQuiet_nil ?_
                      intro _ hw'
                      obtain ⟨⟨w4, hb4⟩, hw''⟩ := hw'
                      subst hw''
                      have HB4 := Aside0.mk (below_then HB3.out HB3.out.size hb4)
                      have HK4 := Aside0.mk ((hb4.block _ (blk_lt HK3.out)).trans HK3.out)
                      clear hb4
                      go_wp2
                      go_ret
                      exact ⟨by rw [← H.out, all_range_false hlt (by rw [hG.out]; simp)]; simp, HB4.out⟩
                    | true =>
                      rw [c3] at e2 hG
                      have C3 := Aside0.mk c3
                      clear c3
                      cases c4 : hf_want y.f2 with
                      | false =>
                        rw [c4] at e3 hG
                        have C4 := Aside0.mk c4
                        clear c4
                        refine wp_region_bw (by kernel_rfl) (by kernel_rfl) ?_
                        repeat (go_big_quiet_step (first | (go_at_call 68; exact Calls.bwd (impl_isId.calls _ _ _ e1.out)) | (go_at_call 59; exact Calls.bwd (impl_isWant.calls _ _ _ e3.out)) | (go_at_call 70; exact Calls.bwd (impl_isWeight.calls _ _ _ e4.out)) | (go_at_call 69; exact Calls.bw (impl_Farm_hasGroup.calls a0_0 A0_1 c0_1 l0_1 (some ad2) c0_2 l0_2 _ _ _ (Kd.C_below (Kd.C_below HR1.out HB3.out) (BW.h _)) HC1.out (Kd.C_below (Kd.C_below HR2.out HB3.out) (BW.h _)) HC2.out e2.out))))
                        refine wpQuiet_nil ?_
                        intro _ hw'
                        obtain ⟨⟨w4, hb4⟩, hw''⟩ := hw'
                        subst hw''
                        have HB4 := Aside0.mk (below_then HB3.out HB3.out.size hb4)
                        have HK4 := Aside0.mk ((hb4.block _ (blk_lt HK3.out)).trans HK3.out)
                        clear hb4
                        go_wp2
                        go_ret
                        exact ⟨by rw [← H.out, all_range_false hlt (by rw [hG.out]; simp)]; simp, HB4.out⟩
                      | true =>
                        rw [c4] at e3 hG
                        have C4 := Aside0.mk c4
                        clear c4
                        cases c5 : hf_weight y.f3 with
                        | false =>
                          rw [c5] at e4 hG
                          have C5 := Aside0.mk c5
                          clear c5
                          refine wp_region_bw (by kernel_rfl) (by kernel_rfl) ?_
                          repeat (go_big_quiet_step (first | (go_at_call 68; exact Calls.bwd (impl_isId.calls _ _ _ e1.out)) | (go_at_call 59; exact Calls.bwd (impl_isWant.calls _ _ _ e3.out)) | (go_at_call 70; exact Calls.bwd (impl_isWeight.calls _ _ _ e4.out)) | (go_at_call 69; exact Calls.bw (impl_Farm_hasGroup.calls a0_0 A0_1 c0_1 l0_1 (some ad2) c0_2 l0_2 _ _ _ (Kd.C_below (Kd.C_below HR1.out HB3.out) (BW.h _)) HC1.out (Kd.C_below (Kd.C_below HR2.out HB3.out) (BW.h _)) HC2.out e2.out))))
                          refine wpQuiet_nil ?_
                          intro _ hw'
                          obtain ⟨⟨w4, hb4⟩, hw''⟩ := hw'
                          subst hw''
                          have HB4 := Aside0.mk (below_then HB3.out HB3.out.size hb4)
                          have HK4 := Aside0.mk ((hb4.block _ (blk_lt HK3.out)).trans HK3.out)
                          clear hb4
                          go_wp2
                          go_ret
                          exact ⟨by rw [← H.out, all_range_false hlt (by rw [hG.out]; simp)]; simp, HB4.out⟩
                        | true =>
                          rw [c5] at e4 hG
                          have C5 := Aside0.mk c5
                          clear c5
                          refine wp_region_bw (by kernel_rfl) (by kernel_rfl) ?_
                          repeat (go_big_quiet_step (first | (go_at_call 68; exact Calls.bwd (impl_isId.calls _ _ _ e1.out)) | (go_at_call 59; exact Calls.bwd (impl_isWant.calls _ _ _ e3.out)) | (go_at_call 70; exact Calls.bwd (impl_isWeight.calls _ _ _ e4.out)) | (go_at_call 69; exact Calls.bw (impl_Farm_hasGroup.calls a0_0 A0_1 c0_1 l0_1 (some ad2) c0_2 l0_2 _ _ _ (Kd.C_below (Kd.C_below HR1.out HB3.out) (BW.h _)) HC1.out (Kd.C_below (Kd.C_below HR2.out HB3.out) (BW.h _)) HC2.out e2.out))))
                          refine wpQuiet_nil ?_
                          intro _ hw'
                          obtain ⟨⟨w4, hb4⟩, hw''⟩ := hw'
                          subst hw''
                          have HB4 := Aside0.mk (below_then HB3.out HB3.out.size hb4)
                          have HK4 := Aside0.mk ((hb4.block _ (blk_lt HK3.out)).trans HK3.out)
                          clear hb4
                          go_wp2
                          go_roundg (l0_2.length - (i + 1))
                          case measure => omega
                          case rel => exact ⟨i + 1, by go_num, by omega, by omega, HB4, HK4, ⟨fun j hj => by
                            by_cases e : j = i
                            · rw [e, hG.out]; simp
                            · exact HG.out j (by omega)⟩⟩
                  · have hi1 : decide (0 < i) = true := decide_eq_true (by omega)
                    have hi2 : 0 < i := by omega
                    have hi3 : (0 : Int) ≤ (i : Int) - 1 := by omega
                    have hi4 : (i : Int) - 1 < (l0_2.length : Int) := by omega
                    obtain ⟨ad', e', hp0, _⟩ := at_T83 HR2.out ((i : Int) - 1) hi3 hi4
                    cases e'
                    rw [show ((i : Int) - 1).toNat = i - 1 by omega] at hp0
                    have fp := fun p : BW w3 => p.cell (pw_cell_below HB3.out hp0)
                    rw [show decide (i = 0) = false from decide_eq_false hi0, show rd_T83 l0_2 ((i - 1 : Nat) : Int) = rd_T83 l0_2 ((i : Int) - 1) by congr 1; omega] at hG
                    clear hp0 hi0
                    generalize (rd_T83 l0_2 ((i : Int) - 1)).f0 = pv at fp hG
                    by_cases hpv : pv < y.f0
                    · have hpv1 : decide (pv ≥ y.f0) = false := decide_eq_false (by omega)
                      have hpv2 : decide (y.f0 ≤ pv) = false := decide_eq_false (by omega)
                      rw [show decide (pv < y.f0) = true from decide_eq_true hpv] at hG
                      clear hpv
                      cases c3 : hf_has l0_1 y.f1 with
                      | false =>
                        rw [c3] at e2 hG
                        have C3 := Aside0.mk c3
                        clear c3
                        refine wp_region_bw (by kernel_rfl) (by kernel_rfl) ?_
                        repeat (go_big_quiet_step (first | (go_at_call 68; exact Calls.bwd (impl_isId.calls _ _ _ e1.out)) | (go_at_call 59; exact Calls.bwd (impl_isWant.calls _ _ _ e3.out)) | (go_at_call 70; exact Calls.bwd (impl_isWeight.calls _ _ _ e4.out)) | (go_at_call 69; exact Calls.bw (impl_Farm_hasGroup.calls a0_0 A0_1 c0_1 l0_1 (some ad2) c0_2 l0_2 _ _ _ (Kd.C_below (Kd.C_below HR1.out HB3.out) (BW.h _)) HC1.out (Kd.C_below (Kd.C_below HR2.out HB3.out) (BW.h _)) HC2.out e2.out))))
                        refine wpQuiet_nil ?_
                        intro _ hw'
                        obtain ⟨⟨w4, hb4⟩, hw''⟩ := hw'
                        subst hw''
                        have HB4 := Aside0.mk (below_then HB3.out HB3.out.size hb4)
                        have HK4 := Aside0.mk ((hb4.block _ (blk_lt HK3.out)).trans HK3.out)
                        clear hb4
                        go_wp2
                        go_ret
                        exact ⟨by rw [← H.out, all_range_false hlt (by rw [hG.out]; simp)]; simp, HB4.out⟩
                      | true =>
                        rw [c3] at e2 hG
                        have C3 := Aside0.mk c3
                        clear c3
                        cases c4 : hf_want y.f2 with
                        | false =>
                          rw [c4] at e3 hG
                          have C4 := Aside0.mk c4
                          clear c4
                          refine wp_region_bw (by kernel_rfl) (by kernel_rfl) ?_
                          repeat (go_big_quiet_step (first | (go_at_call 68; exact Calls.bwd (impl_isId.calls _ _ _ e1.out)) | (go_at_call 59; exact Calls.bwd (impl_isWant.calls _ _ _ e3.out)) | (go_at_call 70; exact Calls.bwd (impl_isWeight.calls _ _ _ e4.out)) | (go_at_call 69; exact Calls.bw (impl_Farm_hasGroup.calls a0_0 A0_1 c0_1 l0_1 (some ad2) c0_2 l0_2 _ _ _ (Kd.C_below (Kd.C_below HR1.out HB3.out) (BW.h _)) HC1.out (Kd.C_below (Kd.C_below HR2.out HB3.out) (BW.h _)) HC2.out e2.out))))
                          refine wpQuiet_nil ?_
                          intro _ hw'
                          obtain ⟨⟨w4, hb4⟩, hw''⟩ := hw'
                          subst hw''
                          have HB4 := Aside0.mk (below_then HB3.out HB3.out.size hb4)
                          have HK4 := Aside0.mk ((hb4.block _ (blk_lt HK3.out)).trans HK3.out)
                          clear hb4
                          go_wp2
                          go_ret
                          exact ⟨by rw [← H.out, all_range_false hlt (by rw [hG.out]; simp)]; simp, HB4.out⟩
                        | true =>
                          rw [c4] at e3 hG
                          have C4 := Aside0.mk c4
                          clear c4
                          cases c5 : hf_weight y.f3 with
                          | false =>
                            rw [c5] at e4 hG
                            have C5 := Aside0.mk c5
                            clear c5
                            refine wp_region_bw (by kernel_rfl) (by kernel_rfl) ?_
                            repeat (go_big_quiet_step (first | (go_at_call 68; exact Calls.bwd (impl_isId.calls _ _ _ e1.out)) | (go_at_call 59; exact Calls.bwd (impl_isWant.calls _ _ _ e3.out)) | (go_at_call 70; exact Calls.bwd (impl_isWeight.calls _ _ _ e4.out)) | (go_at_call 69; exact Calls.bw (impl_Farm_hasGroup.calls a0_0 A0_1 c0_1 l0_1 (some ad2) c0_2 l0_2 _ _ _ (Kd.C_below (Kd.C_below HR1.out HB3.out) (BW.h _)) HC1.out (Kd.C_below (Kd.C_below HR2.out HB3.out) (BW.h _)) HC2.out e2.out))))
                            refine wpQuiet_nil ?_
                            intro _ hw'
                            obtain ⟨⟨w4, hb4⟩, hw''⟩ := hw'
                            subst hw''
                            have HB4 := Aside0.mk (below_then HB3.out HB3.out.size hb4)
                            have HK4 := Aside0.mk ((hb4.block _ (blk_lt HK3.out)).trans HK3.out)
                            clear hb4
                            go_wp2
                            go_ret
                            exact ⟨by rw [← H.out, all_range_false hlt (by rw [hG.out]; simp)]; simp, HB4.out⟩
                          | true =>
                            rw [c5] at e4 hG
                            have C5 := Aside0.mk c5
                            clear c5
                            refine wp_region_bw (by kernel_rfl) (by kernel_rfl) ?_
                            repeat (go_big_quiet_step (first | (go_at_call 68; exact Calls.bwd (impl_isId.calls _ _ _ e1.out)) | (go_at_call 59; exact Calls.bwd (impl_isWant.calls _ _ _ e3.out)) | (go_at_call 70; exact Calls.bwd (impl_isWeight.calls _ _ _ e4.out)) | (go_at_call 69; exact Calls.bw (impl_Farm_hasGroup.calls a0_0 A0_1 c0_1 l0_1 (some ad2) c0_2 l0_2 _ _ _ (Kd.C_below (Kd.C_below HR1.out HB3.out) (BW.h _)) HC1.out (Kd.C_below (Kd.C_below HR2.out HB3.out) (BW.h _)) HC2.out e2.out))))
                            refine wpQuiet_nil ?_
                            intro _ hw'
                            obtain ⟨⟨w4, hb4⟩, hw''⟩ := hw'
                            subst hw''
                            have HB4 := Aside0.mk (below_then HB3.out HB3.out.size hb4)
                            have HK4 := Aside0.mk ((hb4.block _ (blk_lt HK3.out)).trans HK3.out)
                            clear hb4
                            go_wp2
                            go_roundg (l0_2.length - (i + 1))
                            case measure => omega
                            case rel => exact ⟨i + 1, by go_num, by omega, by omega, HB4, HK4, ⟨fun j hj => by
                              by_cases e : j = i
                              · rw [e, hG.out]; simp
                              · exact HG.out j (by omega)⟩⟩
                    · have hpv1 : decide (pv ≥ y.f0) = true := decide_eq_true (by omega)
                      have hpv2 : decide (y.f0 ≤ pv) = true := decide_eq_true (by omega)
                      rw [show decide (pv < y.f0) = false from decide_eq_false hpv] at hG
                      clear hpv
                      refine wp_region_bw (by kernel_rfl) (by kernel_rfl) ?_
                      repeat (go_big_quiet_step (first | (go_at_call 68; exact Calls.bwd (impl_isId.calls _ _ _ e1.out)) | (go_at_call 59; exact Calls.bwd (impl_isWant.calls _ _ _ e3.out)) | (go_at_call 70; exact Calls.bwd (impl_isWeight.calls _ _ _ e4.out)) | (go_at_call 69; exact Calls.bw (impl_Farm_hasGroup.calls a0_0 A0_1 c0_1 l0_1 (some ad2) c0_2 l0_2 _ _ _ (Kd.C_below (Kd.C_below HR1.out HB3.out) (BW.h _)) HC1.out (Kd.C_below (Kd.C_below HR2.out HB3.out) (BW.h _)) HC2.out e2.out))))
                      refine wpQuiet_nil ?_
                      intro _ hw'
                      obtain ⟨⟨w4, hb4⟩, hw''⟩ := hw'
                      subst hw''
                      have HB4 := Aside0.mk (below_then HB3.out HB3.out.size hb4)
                      have HK4 := Aside0.mk ((hb4.block _ (blk_lt HK3.out)).trans HK3.out)
                      clear hb4
                      go_wp2
                      go_ret
                      exact ⟨by rw [← H.out, all_range_false hlt (by rw [hG.out]; simp)]; simp, HB4.out⟩
              · have hie : i = l0_2.length := by omega
                subst hie
                have hltz : ¬ (l0_2.length : Int) < (l0_2.length : Int) := by omega
                go_wp2
                go_ret
                exact ⟨by rw [← H.out, all_range_true HG.out]; rfl, HB.out⟩
      · have h1z : ¬ ((l0_1.length : Nat) : Int) > 30 := by omega
        have h2z : ((l0_2.length : Nat) : Int) > 60 := by omega
        go_enter Try.func34, Try.ntmps34
        go_wp2_with (go_at_call 59; refine (impl_isWant.calls _ _ _ E1.out).mono ?_; rintro e w1 ⟨rfl, ⟨n, rfl⟩⟩)
        go_ret
        exact ⟨by rw [← H.out]; simp [h2], pw_below_drewN ((Below.refl _ _).alloc (Nat.le_refl _) _) _⟩
    · have h1z : ((l0_1.length : Nat) : Int) > 30 := by omega
      go_enter Try.func34, Try.ntmps34
      go_wp2_with (go_at_call 59; refine (impl_isWant.calls _ _ _ E1.out).mono ?_; rintro e w1 ⟨rfl, ⟨n, rfl⟩⟩)
      go_ret
      exact ⟨by rw [← H.out]; simp [h1], pw_below_drewN ((Below.refl _ _).alloc (Nat.le_refl _) _) _⟩

/-! ### impl_Farm_above: function 74 -/
def impl_Farm_above.l0 : Nat → Int → List Int → Int → List (S80) → List (S83) → Option (List Int)
  | 0, _, _, _, _, _ => none
  | k + 1, x1, x5, x166000, x166001, x166002 => if x1 = 0 then (some x5) else ((impl_Farm_group.f x166000 x166001 x166002 x1).bind fun bt169 => (if x5.length < 17592186044416 then (if 0 ≤ bt169.1 then (if bt169.1 < (x166001.length : Int) then (impl_Farm_above.l0 k ((rd_T80 x166001 bt169.1).f1) (x5 ++ [x1]) x166000 x166001 x166002) else (none)) else (none)) else (none)))
def impl_Farm_above.f (k : Nat) (a0_0 : Int) (l0_1 : List (S80)) (l0_2 : List (S83)) (a1 : Int) : Option (List Int) := impl_Farm_above.l0 k a1 (([] : List Int)) a0_0 l0_1 l0_2
theorem impl_Farm_above.mono_l : ∀ k, (∀ y0 y1 y2 y3 y4, LeO (impl_Farm_above.l0 k y0 y1 y2 y3 y4) (impl_Farm_above.l0 (k + 1) y0 y1 y2 y3 y4))
  | 0 => fun _ _ _ _ _ r h => by simp [impl_Farm_above.l0] at h
  | k + 1 => by
    have ih0 := impl_Farm_above.mono_l k
    · intro y0 y1 y2 y3 y4
      unfold impl_Farm_above.l0
      repeat' first
      | (with_reducible exact ih0 _ _ _ _ _)
      | (with_reducible exact LeO.refl _)
      | (with_reducible exact LeO.none _)
      | (with_reducible refine LeO.ite ?_ ?_)
      | (with_reducible refine LeO.bind ?_ (fun _ => ?_))
      | exact ih0 _ _ _ _ _
      | exact LeO.none _
      | refine LeO.ite ?_ ?_
      | refine LeO.bind ?_ (fun _ => ?_)
theorem impl_Farm_above.mono : ∀ a0 a1 a2 a3 k, LeO (impl_Farm_above.f k a0 a1 a2 a3) (impl_Farm_above.f (k + 1) a0 a1 a2 a3) := by
  intro a0 a1 a2 a3 k
  have ih0 := impl_Farm_above.mono_l k
  unfold impl_Farm_above.f
  repeat' first
      | (with_reducible exact ih0 _ _ _ _ _)
      | (with_reducible exact LeO.refl _)
      | (with_reducible exact LeO.none _)
      | (with_reducible refine LeO.ite ?_ ?_)
      | (with_reducible refine LeO.bind ?_ (fun _ => ?_))
      | exact ih0 _ _ _ _ _
      | exact LeO.none _
      | refine LeO.ite ?_ ?_
      | refine LeO.bind ?_ (fun _ => ?_)
def impl_Farm_above.T4 : Bool × List (List Nat × List Nat) := (true, [([], []), ([], []), ([1], [1]), ([0, 2], [0, 2]), ([], []), ([4], [4]), ([], []), ([5, 6], [5, 6]), ([7], [7]), ([8], [8]), ([3, 3, 0, 1, 2, 3], [0, 3]), ([9, 10, 0, 1, 2, 3, 4, 5, 6, 7, 8, 9, 10], [1, 9])])
def impl_Farm_above.B4 : List Nat := [0, 0, 2, 7, 0, 16, 0, 112, 240, 496, 15, 2047]
theorem impl_Farm_above.tab4 : rtab .any (opsOf Try.f74 4) = impl_Farm_above.T4 := by kernel_rfl
theorem impl_Farm_above.bits4 : waitsOk impl_Farm_above.T4.2 impl_Farm_above.B4 = true := by kernel_rfl
set_option maxHeartbeats 8000000 in
set_option maxRecDepth 100000 in
theorem impl_Farm_above.calls (k : Nat) (a0_0 : Int) (A0_1 : Option Addr) (c0_1 : Nat) (l0_1 : List (S80)) (A0_2 : Option Addr) (c0_2 : Nat) (l0_2 : List (S83)) (a1 : Int) (r : List Int) (w : World) (hr0_1 : Kd.C k80 w A0_1 l0_1.length l0_1) (hc0_1 : l0_1.length ≤ c0_1) (hr0_2 : Kd.C k83 w A0_2 l0_2.length l0_2) (hc0_2 : l0_2.length ≤ c0_2) (h : impl_Farm_above.f k a0_0 l0_1 l0_2 a1 = some r) :
    Calls Try.prog 74 #[.agg #[.int .i64 a0_0, .slice A0_1 l0_1.length c0_1, .slice A0_2 l0_2.length c0_2], .int .i64 a1] w fun e w' => ∃ v0_ : Value, e = .returned (v0_) ∧ Kd.R (Kd.int .i64) 2 w' w.heap.size (fun _ => True) v0_ r ∧ Below w.heap.size w w' := by
  have hu55 := Try.underlying55
  have HR0_1 := Aside0.mk hr0_1
  have HC0_1 := Aside0.mk hc0_1
  clear hr0_1 hc0_1
  have HR0_2 := Aside0.mk hr0_2
  have HC0_2 := Aside0.mk hc0_2
  clear hr0_2 hc0_2
  have HB := Aside0.mk (Below.refl w.heap.size w)
  have H : (impl_Farm_above.l0 k a1 (([] : List Int)) a0_0 l0_1 l0_2) = some r := h
  clear h
  obtain ⟨y166, hy166⟩ : ∃ y_ : List Int, y_ = (([] : List Int)) := ⟨_, rfl⟩
  replace H : (impl_Farm_above.l0 k a1 y166 a0_0 l0_1 l0_2) = some r := by first | (rw [hy166]; with_reducible exact H) | (have H2_ := (Option.bind_some _ _).symm.trans H; rw [hy166]; with_reducible exact H2_) | (have H2_ := (Option.bind_some _ _).symm.trans H; with_reducible exact H2_) | with_reducible exact H | (rw [hy166]; exact H) | exact H
  have Ny166 := Aside0.mk hy166
  clear hy166
  have H' := Aside0.mk H
  clear H
  go_enter Try.func74, Try.ntmps74
  go_wp2_with (first | ((with_reducible refine gate_dst (N := 2) rfl ?_); refine box_event ?hg (N := 2) ?hd (cs := #[.int .i64 a0_0, .slice A0_1 l0_1.length c0_1, .slice A0_2 l0_2.length c0_2]) (t := 55) ?hr ?_; (case hd => rfl); (case hg => rfl); (case hr => first | (go_simp; done) | (go_simp; rfl)); intro gb165 hg w3 hbox hb; have n0_ := Aside0.mk (below_step (by repeat (first | (with_reducible first | exact HB.out | apply below_alloc | apply pw_below_drewN | apply below_drew1) | exact HB.out)) hb); have n1_ := Aside0.mk (hbox); have n2_ := Aside0.mk ((by rw [hg]; exact (below_size (by repeat (first | (with_reducible first | exact HB.out | apply below_alloc | apply pw_below_drewN | apply below_drew1) | exact HB.out))) : w.heap.size ≤ gb165)); have n3_ := Aside0.mk ((by rw [hg]; exact (below_size (by repeat (first | (with_reducible first | exact HB.out | apply below_alloc | apply pw_below_drewN | apply below_drew1) | exact HB.out))) : w.heap.size ≤ gb165)); clear HB; have HB := n0_; have BK165 := n1_; have GW165 := n2_; have GE165 := n3_; clear n0_ n1_ n2_ n3_; clear hb hbox hg) | ((with_reducible refine gate_dst (N := 8) rfl ?_); refine Kd.R_lit (Kd.int .i64) _ 2 ?hg (N := 8) ?hd (xs := ([] : List Int)) (inner := []) (ok := fun _ => True) (okp := fun _ => True) ?hr ?hp (fun _ hk => hk) trivial (Below.refl _ _) (Nat.le_refl _) (by simp) ?_; (case hd => rfl); (case hg => rfl); (case hr => first | (go_simp; done) | (go_simp; rfl)); (case hp => exact (Reps.none _ _)); intro v167 w4 ho5 hb hg_ hnew_; clear hg_ hnew_; (first | rw [← Ny166.out] at ho5 | (simp only [Int.reduceToNat] at ho5; rw [← Ny166.out] at ho5)); have n0_ := Aside0.mk (Kd.R_lower ho5 (below_size (by repeat (first | (with_reducible first | exact HB.out | apply below_alloc | apply pw_below_drewN | apply below_drew1 | refine below_set ?_ GE165.out) | exact HB.out)))); have n1_ := Aside0.mk (blk_below (g := gb165) (o := .cells #[.int .i64 a0_0, .slice A0_1 l0_1.length c0_1, .slice A0_2 l0_2.length c0_2] 55 (0, 0)) (by (with_reducible repeat (first | refine blk_drewN ?_ _ | refine blk_drew ?_ | refine blk_alloc ?_ _)); exact BK165.out) hb); have n2_ := Aside0.mk (below_step (by repeat (first | (with_reducible first | exact HB.out | apply below_alloc | apply pw_below_drewN | apply below_drew1 | refine below_set ?_ GE165.out) | exact HB.out)) hb); clear BK165; clear HB; have HO168 := n0_; have BK165 := n1_; have HB := n2_; clear n0_ n1_ n2_; clear hb ho5))
  go_loopg [1, 5] k (fun kq v1 v5 w' => ∃ (x1_1 : Int) (x5_1 : List Int), v1 = .int .i64 x1_1 ∧ Aside0 (impl_Farm_above.l0 kq x1_1 x5_1 a0_0 l0_1 l0_2 = some r) ∧ Aside0 (kq ≤ k) ∧ Aside0 (Kd.R (Kd.int .i64) 2 w' w.heap.size (fun _ => True) v5 x5_1) ∧ Aside0 (w'.heap[gb165]? = some (.cells #[.int .i64 a0_0, (.slice A0_1 l0_1.length c0_1), (.slice A0_2 l0_2.length c0_2)] 55 (0, 0))) ∧ Aside0 (Below w.heap.size w w'))
  case atStart => exact ⟨(a1), (y166), (by first | rfl | (simp; done) | (simp [*]; done)), H', ⟨Nat.le_refl _⟩, ⟨by (with_reducible repeat (first | apply Kd.R_alloc | apply Kd.R_drewN | apply Kd.R_drew)); exact HO168.out⟩, ⟨by (with_reducible repeat (first | refine blk_drewN ?_ _ | refine blk_drew ?_ | refine blk_alloc ?_ _)); exact BK165.out⟩, ⟨by repeat (first | (with_reducible first | exact HB.out | apply below_alloc | apply pw_below_drewN | apply below_drew1 | refine below_set ?_ GE165.out) | exact HB.out)⟩⟩
  case round =>
    clear H'
    try clear p2
    obtain ⟨x1_1, x5_1, rfl, HA, HK1, HO_5, BK165, HB⟩ := hrel
    cases gk with
    | zero => exact absurd HA.out (by simp [impl_Farm_above.l0])
    | succ k1 =>
      have H := HA.out
      clear HA
      simp only [impl_Farm_above.l0] at H
      by_cases c6 : x1_1 = 0
      · rw [if_pos c6] at H
        have c6b0 : (x1_1 == 0) = true := beq_iff_eq.mpr c6
        have c6b1 : (x1_1 != 0) = false := bne_eq_false_iff_eq.mpr c6
        clear c6
        obtain rfl := Option.some.inj H
        go_wp2
        go_ret
        exact ⟨_, by first | rfl | (simp [errW_none, errW_some] <;> rfl) | (simp [*, errW_none, errW_some] <;> rfl), by (with_reducible repeat (first | apply Kd.R_alloc | apply Kd.R_drewN | apply Kd.R_drew)); exact HO_5.out, by repeat (first | (with_reducible first | exact HB.out | apply below_alloc | apply pw_below_drewN | apply below_drew1 | refine below_set ?_ GE165.out) | exact HB.out)⟩
      · rw [if_neg c6] at H
        have c6b0 : (x1_1 == 0) = false := beq_eq_false_iff_ne.mpr c6
        have c6b1 : (x1_1 != 0) = true := bne_iff_ne.mpr c6
        replace H := Option.bind_eq_some_iff.mp H
        obtain ⟨⟨t169, t170⟩, A70, H⟩ := H
        replace H : (if x5_1.length < 17592186044416 then (if 0 ≤ t169 then (if t169 < (l0_1.length : Int) then (impl_Farm_above.l0 k1 ((rd_T80 l0_1 t169).f1) (x5_1 ++ [x1_1]) a0_0 l0_1 l0_2) else (none)) else (none)) else (none)) = some r := H
        have A7 := Aside0.mk A70
        clear A70
        by_cases c8 : x5_1.length < 17592186044416
        · rw [if_pos c8] at H
          have LMc8 := Aside0.mk c8
          clear c8
          obtain ⟨y171, hy171⟩ : ∃ y_ : List Int, y_ = (x5_1 ++ [x1_1]) := ⟨_, rfl⟩
          replace H : (if 0 ≤ t169 then (if t169 < (l0_1.length : Int) then (impl_Farm_above.l0 k1 ((rd_T80 l0_1 t169).f1) y171 a0_0 l0_1 l0_2) else (none)) else (none)) = some r := by first | (rw [hy171]; with_reducible exact H) | (have H2_ := (Option.bind_some _ _).symm.trans H; rw [hy171]; with_reducible exact H2_) | (have H2_ := (Option.bind_some _ _).symm.trans H; with_reducible exact H2_) | with_reducible exact H | (rw [hy171]; exact H) | exact H
          have Ny171 := Aside0.mk hy171
          clear hy171
          by_cases c9 : 0 ≤ t169
          · rw [if_pos c9] at H
            have c9b0 : decide (0 ≤ t169) = true := decide_eq_true c9
            clear c9
            by_cases c10 : t169 < (l0_1.length : Int)
            · rw [if_pos c10] at H
              have c10b0 : decide (t169 < (l0_1.length : Int)) = true := decide_eq_true c10
              clear c10
              have H' := Aside0.mk H
              clear H
              have hcz11_0 : wr.cell? ⟨gb165, 0, none⟩ = some (.int .i64 a0_0) := (blk_cell BK165.out 0).trans rfl
              have hcz11_1 : wr.cell? ⟨gb165, 1, none⟩ = some (.slice A0_1 l0_1.length c0_1) := (blk_cell BK165.out 1).trans rfl
              have hcz11_2 : wr.cell? ⟨gb165, 2, none⟩ = some (.slice A0_2 l0_2.length c0_2) := (blk_cell BK165.out 2).trans rfl
              have hfz11_0 := blk_frozen BK165.out 0
              have hfz11_1 := blk_frozen BK165.out 1
              have hfz11_2 := blk_frozen BK165.out 2
              try go_wp2_with (first | ((with_reducible refine gate_callee (f := 87) rfl ?_); refine goesL_ (some 14) rfl rfl Try.func87 (by kernel_rfl) rfl #[.agg #[.int .i64 a0_0, .slice A0_1 l0_1.length c0_1, .slice A0_2 l0_2.length c0_2], .int .i64 x1_1] rfl (by (try simp only [List.map_toArray, List.map_cons, List.map_nil]); first | done | rfl | (simp only [List.length_drop, List.length_take]; rfl)) ?_; (with_reducible refine (impl_Farm_group.calls a0_0 _ _ l0_1 _ _ l0_2 x1_1 t169 t170 _ ?side1 ?side2 ?side3 ?side4 A7.out).mono ?_); (case side1 => repeat (first | exact (Kd.C_below HR0_1.out HB.out) | (with_reducible refine Kd.C_alloc ?_ _) | (with_reducible refine Kd.C_drewN ?_ _) | (with_reducible refine Kd.C_drew ?_))); (case side2 => exact HC0_1.out); (case side3 => repeat (first | exact (Kd.C_below HR0_2.out HB.out) | (with_reducible refine Kd.C_alloc ?_ _) | (with_reducible refine Kd.C_drewN ?_ _) | (with_reducible refine Kd.C_drew ?_))); (case side4 => exact HC0_2.out); rintro e w12 ⟨rfl, hb⟩; refine ⟨_, rfl, ?_⟩; have n0_ := Aside0.mk (Kd.R_below (by (with_reducible repeat (first | apply Kd.R_alloc | apply Kd.R_drewN | apply Kd.R_drew)); exact HO_5.out) hb); have n1_ := Aside0.mk (blk_below (g := gb165) (o := .cells #[.int .i64 a0_0, .slice A0_1 l0_1.length c0_1, .slice A0_2 l0_2.length c0_2] 55 (0, 0)) (by (with_reducible repeat (first | refine blk_drewN ?_ _ | refine blk_drew ?_ | refine blk_alloc ?_ _)); exact BK165.out) hb); have n2_ := Aside0.mk (below_step (by repeat (first | (with_reducible first | exact HB.out | apply below_alloc | apply pw_below_drewN | apply below_drew1 | refine below_set ?_ GE165.out) | exact HB.out)) hb); clear HO_5; clear BK165; clear HB; have HO_5 := n0_; have BK165 := n1_; have HB := n2_; clear n0_ n1_ n2_; (try clear hb); (try clear hb2); (try clear hk); (try clear hi)))
              have n0_ := Aside0.mk (Kd.R_drew HO_5.out)
              have n1_ := Aside0.mk (blk_drew BK165.out)
              have n2_ := Aside0.mk (below_drew1 HB.out)
              clear HO_5
              clear BK165
              clear HB
              have HO_5 := n0_
              have BK165 := n1_
              have HB := n2_
              clear n0_ n1_ n2_
              have p174 : 0 ≤ (t169 : Int) := of_decide_eq_true (by first | (with_reducible assumption) | assumption)
              have q174 : t169 < (l0_1.length : Int) := of_decide_eq_true (by first | (with_reducible assumption) | assumption)
              obtain ⟨ad174, e174, hx174_0, hx174_1, hx174_2, hx174_3⟩ := at_T80 HR0_1.out t169 p174 q174
              have hw174_3 := hx174_3
              have hw174_2 := hx174_2
              have hw174_1 := hx174_1
              have hw174_0 := hx174_0
              cases e174
              replace hx174_0 := (HB.out.cell (World.block_lt_of_cell? w _ hx174_0)).trans hx174_0
              replace hx174_1 := (HB.out.cell (World.block_lt_of_cell? w _ hx174_1)).trans hx174_1
              replace hx174_2 := (HB.out.cell (World.block_lt_of_cell? w _ hx174_2)).trans hx174_2
              replace hx174_3 := (HB.out.cell (World.block_lt_of_cell? w _ hx174_3)).trans hx174_3
              replace p174 := eq_true p174
              replace q174 := eq_true q174
              refine start_ (n := 12) (S := fun w' => w'.cell? ⟨gb165, 0, none⟩ = some (.int .i64 a0_0) ∧ w'.cell? ⟨gb165, 1, none⟩ = some (.slice (some ad174) l0_1.length c0_1) ∧ w'.cell? ⟨gb165, 2, none⟩ = some (.slice A0_2 l0_2.length c0_2) ∧ w'.cell? (ad174.add ((t169).toNat * 4)) = some (.int .i64 ((rd_T80 l0_1 t169).f0)) ∧ w'.cell? ⟨(ad174.add ((t169).toNat * 4)).block, (ad174.add ((t169).toNat * 4)).off + 1, none⟩ = some (.int .i64 ((rd_T80 l0_1 t169).f1)) ∧ w'.cell? ⟨(ad174.add ((t169).toNat * 4)).block, (ad174.add ((t169).toNat * 4)).off + 2, none⟩ = some (.int .i64 ((rd_T80 l0_1 t169).f2)) ∧ w'.cell? ⟨(ad174.add ((t169).toNat * 4)).block, (ad174.add ((t169).toNat * 4)).off + 3, none⟩ = some (.int .i64 ((rd_T80 l0_1 t169).f3))) (ds := []) #[false, false, false, false, false, false, false, false, false, false, false, false] (by kernel_rfl) rfl rfl ⟨(blk_cell BK165.out 0).trans rfl, (blk_cell BK165.out 1).trans rfl, (blk_cell BK165.out 2).trans rfl, ((HB.out.cell (World.block_lt_of_cell? w _ hw174_0)).trans hw174_0), ((HB.out.cell (World.block_lt_of_cell? w _ hw174_1)).trans hw174_1), ((HB.out.cell (World.block_lt_of_cell? w _ hw174_2)).trans hw174_2), ((HB.out.cell (World.block_lt_of_cell? w _ hw174_3)).trans hw174_3)⟩ (fun hHeld => ?_); refine with_tabW impl_Farm_above.tab4 impl_Farm_above.bits4 (fun HT_ HW_ => ?_)
              generalize w12.drew = w13 at HO_5 BK165 HB hx174_0 hx174_1 hx174_2 hx174_3 hHeld ⊢
              refine pure_ (i := 0) (N := some 17) (v := ?_) (a' := ?_) #[true, false, false, false, false, false, false, false, false, false, false, false] rfl rfl (any_of HT_.out (by kernel_rfl)) (fun _ _ _ h => h) (Or.inl ⟨by rfl, ?_⟩) ?_ ?_
              rotate_left
              · intro w'
                go_simp
                with_reducible rfl
              rotate_left
              · simp only [Act.put, List.setIfInBounds_toArray, List.set_cons_zero, List.set_cons_succ, i64_w, i32_w]
                rfl
              refine pure_ (i := 1) (N := some 18) (v := ?_) (a' := ?_) #[true, true, false, false, false, false, false, false, false, false, false, false] rfl rfl (any_of HT_.out (by kernel_rfl)) (fun _ _ _ h => h) (Or.inl ⟨by rfl, ?_⟩) ?_ ?_
              rotate_left
              · intro w'
                go_simp
                with_reducible rfl
              rotate_left
              · simp only [Act.put, List.setIfInBounds_toArray, List.set_cons_zero, List.set_cons_succ, i64_w, i32_w]
                rfl
              refine pure_ (i := 4) (N := some 21) (v := ?_) (a' := ?_) #[true, true, false, false, true, false, false, false, false, false, false, false] rfl rfl (any_of HT_.out (by kernel_rfl)) (fun _ _ _ h => h) (Or.inl ⟨by rfl, ?_⟩) ?_ ?_
              rotate_left
              · intro w'
                go_simp
                with_reducible rfl
              rotate_left
              · simp only [Act.put, List.setIfInBounds_toArray, List.set_cons_zero, List.set_cons_succ, i64_w, i32_w]
                rfl
              refine pure_ (i := 6) (N := some 23) (v := ?_) (a' := ?_) #[true, true, false, false, true, false, true, false, false, false, false, false] rfl rfl (any_of HT_.out (by kernel_rfl)) (fun _ _ _ h => h) (Or.inl ⟨by rfl, ?_⟩) ?_ ?_
              rotate_left
              · intro w'
                go_simp
                with_reducible rfl
              rotate_left
              · simp only [Act.put, List.setIfInBounds_toArray, List.set_cons_zero, List.set_cons_succ, i64_w, i32_w]
                rfl
              refine take_ (i := 5) (N := some 22) (v := ?_) (a' := ?_) #[true, true, false, false, true, true, true, false, false, false, false, false] rfl rfl (take_ofW HT_.out HW_.out (by kernel_rfl)) (fun _ _ _ h => h) (Or.inl ⟨by rfl, ?_⟩) hHeld ?_ ?_
              rotate_left
              · rintro w' ⟨s0, s1, s2, s3, s4, s5, s6⟩
                go_simp
                with_reducible rfl
              rotate_left
              · simp only [Act.put, List.setIfInBounds_toArray, List.set_cons_zero, List.set_cons_succ, i64_w, i32_w]
                rfl
              refine pure_ (i := 7) (N := some 24) (v := ?_) (a' := ?_) #[true, true, false, false, true, true, true, true, false, false, false, false] rfl rfl (any_of HT_.out (by kernel_rfl)) (fun _ _ _ h => h) (Or.inl ⟨by rfl, ?_⟩) ?_ ?_
              rotate_left
              · intro w'
                go_simp
                with_reducible rfl
              rotate_left
              · simp only [Act.put, List.setIfInBounds_toArray, List.set_cons_zero, List.set_cons_succ, i64_w, i32_w]
                rfl
              refine pure_ (i := 8) (N := some 25) (v := ?_) (a' := ?_) #[true, true, false, false, true, true, true, true, true, false, false, false] rfl rfl (any_of HT_.out (by kernel_rfl)) (fun _ _ _ h => h) (Or.inl ⟨by rfl, ?_⟩) ?_ ?_
              rotate_left
              · intro w'
                go_simp
                with_reducible rfl
              rotate_left
              · simp only [Act.put, List.setIfInBounds_toArray, List.set_cons_zero, List.set_cons_succ, i64_w, i32_w]
                rfl
              refine take_ (i := 9) (N := some 26) (v := ?_) (a' := ?_) #[true, true, false, false, true, true, true, true, true, true, false, false] rfl rfl (take_ofW HT_.out HW_.out (by kernel_rfl)) (fun _ _ _ h => h) (Or.inl ⟨by rfl, ?_⟩) hHeld ?_ ?_
              rotate_left
              · rintro w' ⟨s0, s1, s2, s3, s4, s5, s6⟩
                go_simp
                with_reducible rfl
              rotate_left
              · simp only [Act.put, List.setIfInBounds_toArray, List.set_cons_zero, List.set_cons_succ, i64_w, i32_w]
                rfl
              refine one_ (i := 2) (N := some 19) #[true, true, true, false, true, true, true, true, true, true, false, false] rfl rfl (one_of HT_.out (by kernel_rfl)) (by decide) (fun K hK => ?_)
              refine value_ (w1 := ?_) (v := ?_) (by rfl) rfl ?_ ?_
              rotate_left 2
              · go_simp
                constructor
                · rfl
                · rfl
              refine hK.out _ _ ⟨(blk_cell (blk_alloc BK165.out _) 0).trans rfl, (blk_cell (blk_alloc BK165.out _) 1).trans rfl, (blk_cell (blk_alloc BK165.out _) 2).trans rfl, (World.cell?_alloc_lt _ _ _ (World.block_lt_of_cell? _ _ (((HB.out.cell (World.block_lt_of_cell? w _ hw174_0)).trans hw174_0)))).trans (((HB.out.cell (World.block_lt_of_cell? w _ hw174_0)).trans hw174_0)), (World.cell?_alloc_lt _ _ _ (World.block_lt_of_cell? _ _ (((HB.out.cell (World.block_lt_of_cell? w _ hw174_1)).trans hw174_1)))).trans (((HB.out.cell (World.block_lt_of_cell? w _ hw174_1)).trans hw174_1)), (World.cell?_alloc_lt _ _ _ (World.block_lt_of_cell? _ _ (((HB.out.cell (World.block_lt_of_cell? w _ hw174_2)).trans hw174_2)))).trans (((HB.out.cell (World.block_lt_of_cell? w _ hw174_2)).trans hw174_2)), (World.cell?_alloc_lt _ _ _ (World.block_lt_of_cell? _ _ (((HB.out.cell (World.block_lt_of_cell? w _ hw174_3)).trans hw174_3)))).trans (((HB.out.cell (World.block_lt_of_cell? w _ hw174_3)).trans hw174_3))⟩ (fun hHeld => ?_)
              clear hK K
              refine norm_ (a' := ?_) ?_ ?_
              rotate_left
              · show Act.put _ (some 19) _ = _
                simp only [Act.put, List.setIfInBounds_toArray, List.set_cons_zero, List.set_cons_succ, i64_w, i32_w]
                rfl
              refine one_ (i := 3) (N := some 20) #[true, true, true, true, true, true, true, true, true, true, false, false] rfl rfl (one_of HT_.out (by kernel_rfl)) (by decide) (fun K hK => ?_)
              refine Kd.R_append_step (Kd.int .i64) (w0 := w) w.heap.size (by rfl) (.tmp 17) (.tmp 19) 60 2 (.int .i64 0) 8 rfl Try.underlying60 info2 rfl (by decide) (by omega) u5 x5_1 x1_1 [.int .i64 x1_1] (fun _ => True) (fun _ => False) rfl rfl ?aP (fun _ hk => hk.elim) ?aF ?aO ?aB ?aS ?aL ?_
              (case aP => exact rfl)
              (case aB => exact (by repeat (first | (with_reducible first | exact HB.out | apply below_alloc | apply pw_below_drewN | apply below_drew1 | refine below_set ?_ GE165.out) | exact HB.out)))
              (case aF => exact (fun _ _ => trivial))
              (case aO => exact (by (with_reducible repeat (first | apply Kd.R_alloc | apply Kd.R_drewN | apply Kd.R_drew)); exact HO_5.out))
              (case aS => exact (below_size (by repeat (first | (with_reducible first | exact HB.out | apply below_alloc | apply pw_below_drewN | apply below_drew1 | refine below_set ?_ GE165.out) | exact HB.out))))
              (case aL => have := LMc8.out; omega)
              intro v172 w14 ho hb hg hat
              rw [← Ny171.out] at ho
              have n0_ := Aside0.mk (blk_grown (g := gb165) (o := .cells #[.int .i64 a0_0, .slice (some ad174) l0_1.length c0_1, .slice A0_2 l0_2.length c0_2] 55 (0, 0)) (by (with_reducible repeat (first | refine blk_drewN ?_ _ | refine blk_drew ?_ | refine blk_alloc ?_ _)); exact BK165.out) hg (Kd.R_ne HO_5.out BK165.out (by decide)))
              have n1_ := Aside0.mk (hb)
              have n2_ := Aside0.mk (ho)
              clear BK165
              clear HB
              clear HO_5
              have BK165 := n0_
              have HB := n1_
              have HO173 := n2_
              clear n0_ n1_ n2_
              clear ho hb hg hat
              refine hK.out _ _ ⟨(blk_cell BK165.out 0).trans rfl, (blk_cell BK165.out 1).trans rfl, (blk_cell BK165.out 2).trans rfl, ((HB.out.cell (World.block_lt_of_cell? w _ hw174_0)).trans hw174_0), ((HB.out.cell (World.block_lt_of_cell? w _ hw174_1)).trans hw174_1), ((HB.out.cell (World.block_lt_of_cell? w _ hw174_2)).trans hw174_2), ((HB.out.cell (World.block_lt_of_cell? w _ hw174_3)).trans hw174_3)⟩ (fun hHeld => ?_)
              clear hK K
              refine norm_ (a' := ?_) ?_ ?_
              rotate_left
              · show Act.put _ (some 20) _ = _
                simp only [Act.put, List.setIfInBounds_toArray, List.set_cons_zero, List.set_cons_succ, i64_w, i32_w]
                rfl
              refine pure_ (i := 10) (N := some 5) (v := ?_) (a' := ?_) #[true, true, true, true, true, true, true, true, true, true, true, false] rfl rfl (any_of HT_.out (by kernel_rfl)) (fun _ _ _ h => h) (Or.inl ⟨by rfl, ?_⟩) ?_ ?_
              rotate_left
              · intro w'
                go_simp
                with_reducible rfl
              rotate_left
              · simp only [Act.put, List.setIfInBounds_toArray, List.set_cons_zero, List.set_cons_succ, i64_w, i32_w]
                rfl
              refine pure_ (i := 11) (N := some 1) (v := ?_) (a' := ?_) #[true, true, true, true, true, true, true, true, true, true, true, true] rfl rfl (any_of HT_.out (by kernel_rfl)) (fun _ _ _ h => h) (Or.inl ⟨by rfl, ?_⟩) ?_ ?_
              rotate_left
              · intro w'
                go_simp
                with_reducible rfl
              rotate_left
              · simp only [Act.put, List.setIfInBounds_toArray, List.set_cons_zero, List.set_cons_succ, i64_w, i32_w]
                rfl
              refine done_ (done_of HT_.out (by kernel_rfl)) ?_
              try go_wp2
              go_roundg k1
              case measure => have := HK1.out; omega
              case rel => exact ⟨((rd_T80 l0_1 t169).f1), (y171), (by first | rfl | (simp; done) | (simp [*]; done)), H', ⟨by have := HK1.out; omega⟩, ⟨by (with_reducible repeat (first | apply Kd.R_alloc | apply Kd.R_drewN | apply Kd.R_drew)); exact HO173.out⟩, ⟨by (with_reducible repeat (first | refine blk_drewN ?_ _ | refine blk_drew ?_ | refine blk_alloc ?_ _)); exact BK165.out⟩, ⟨by repeat (first | (with_reducible first | exact HB.out | apply below_alloc | apply pw_below_drewN | apply below_drew1 | refine below_set ?_ GE165.out) | exact HB.out)⟩⟩
            · rw [if_neg c10] at H
              exact absurd H (by simp)
          · rw [if_neg c9] at H
            exact absurd H (by simp)
        · rw [if_neg c8] at H
          exact absurd H (by simp)

end Go.Proofs.Ythpggkpidbieeaa.XFnExactFarmDepth
