/- Functions that FnExactTreeBelow comes to, as Lean functions with their contracts: written by the prover's own program (wip/tpl/myprint.py) over the kit's printer, some contracts by hand. Conditions: none. -/
import Derived.Test.YtenlceojmjkbkaaXFnExactTreeBelowx0
namespace Go.Proofs.Ytenlceojmjkbkaa.XFnExactTreeBelow
open Go.RowKit Go.Proofs.YtenlceojmjkbkaaW.PrintWords Go.Proofs.YtenlceojmjkbkaaW.PrintLast Go.Proofs.YtenlceojmjkbkaaW.PrintMore
attribute [local go_sem] max2_int min2_int max_two min_two max_three min_three max_four min_four   -- for this text's walks alone
set_option linter.unusedVariables false
set_option linter.unusedSimpArgs false

/-! ### spec_l04Shape: function 90 -/
mutual
def spec_l04Shape.j0 : Nat → List (S156) → Bool → Option (Bool)
  | 0, _, _ => none
  | k + 1, x0, x20 => if x20 = true then (some false) else (if 0 < (x0.length : Int) then (if 1 ≤ (wrap64 (1 + ((rd_T156 x0 0).f1))) then (if (wrap64 (1 + ((rd_T156 x0 0).f1))) ≤ (x0.length : Int) then ((spec_l04Shape.f k ((x0.take ((wrap64 (1 + ((rd_T156 x0 0).f1))) : Int).toNat).drop 1)).bind fun t178 => (if t178 = true then (if 0 ≤ (wrap64 (1 + ((rd_T156 x0 0).f1))) then ((spec_l04Shape.f k (x0.drop ((wrap64 (1 + ((rd_T156 x0 0).f1))) : Int).toNat)).bind fun t183 => (some t183)) else (none)) else (some false))) else (none)) else (none)) else (none))
def spec_l04Shape.f : Nat → List (S156) → Option (Bool)
  | 0, _ => none
  | k + 1, l0 => if (l0.length : Int) = 0 then (some true) else (if 0 < (l0.length : Int) then (if ((rd_T156 l0 0).f1) < 0 then (spec_l04Shape.j0 k l0 true) else (spec_l04Shape.j0 k l0 (decide (((rd_T156 l0 0).f1) ≥ (l0.length : Int))))) else (none))
end
theorem spec_l04Shape.mono_l : ∀ k, (∀ y0, LeO (spec_l04Shape.f k y0) (spec_l04Shape.f (k + 1) y0)) ∧ (∀ y0 y1, LeO (spec_l04Shape.j0 k y0 y1) (spec_l04Shape.j0 (k + 1) y0 y1))
  | 0 => ⟨fun _ r h => by simp [spec_l04Shape.f] at h, fun _ _ r h => by simp [spec_l04Shape.j0] at h⟩
  | k + 1 => by
    obtain ⟨ih0, ih1⟩ := spec_l04Shape.mono_l k
    refine ⟨?_, ?_⟩
    · intro y0
      unfold spec_l04Shape.f
      repeat' first
      | (with_reducible exact ih0 _)
      | (with_reducible exact ih1 _ _)
      | (with_reducible exact LeO.refl _)
      | (with_reducible exact LeO.none _)
      | (with_reducible refine LeO.ite ?_ ?_)
      | (with_reducible refine LeO.bind ?_ (fun _ => ?_))
      | exact ih0 _
      | exact ih1 _ _
      | exact LeO.none _
      | refine LeO.ite ?_ ?_
      | refine LeO.bind ?_ (fun _ => ?_)
    · intro y0 y1
      unfold spec_l04Shape.j0
      repeat' first
      | (with_reducible exact ih0 _)
      | (with_reducible exact ih1 _ _)
      | (with_reducible exact LeO.refl _)
      | (with_reducible exact LeO.none _)
      | (with_reducible refine LeO.ite ?_ ?_)
      | (with_reducible refine LeO.bind ?_ (fun _ => ?_))
      | exact ih0 _
      | exact ih1 _ _
      | exact LeO.none _
      | refine LeO.ite ?_ ?_
      | refine LeO.bind ?_ (fun _ => ?_)
theorem spec_l04Shape.mono : ∀ a0 k, LeO (spec_l04Shape.f k a0) (spec_l04Shape.f (k + 1) a0) := by
  intro a0 k
  obtain ⟨ih0, ih1⟩ := spec_l04Shape.mono_l k
  exact ih0 a0
set_option maxHeartbeats 8000000 in
set_option maxRecDepth 100000 in
theorem spec_l04Shape.calls (k : Nat) : ∀ (A0 : Option Addr) (c0 : Nat) (l0 : List (S156)) (r : Bool) (w : World) (hr0 : Kd.C k156 w A0 l0.length l0) (hc0 : l0.length ≤ c0) (h : spec_l04Shape.f k l0 = some r),
    Calls Try.prog 90 #[.slice A0 l0.length c0] w fun e w' => e = .returned (.bool r) ∧ Drawn0 w w' := by
  induction k using Nat.strongRecOn with
  | _ k ih =>
  intro A0 c0 l0 r w hr0 hc0 h
  cases k with
  | zero => exact absurd h (by simp [spec_l04Shape.f])
  | succ k =>
  simp only [spec_l04Shape.f] at h
  have HR0 := Aside0.mk hr0
  have HC0 := Aside0.mk hc0
  clear hr0 hc0
  have H : (if (l0.length : Int) = 0 then (some true) else (if 0 < (l0.length : Int) then (if ((rd_T156 l0 0).f1) < 0 then (spec_l04Shape.j0 k l0 true) else (spec_l04Shape.j0 k l0 (decide (((rd_T156 l0 0).f1) ≥ (l0.length : Int))))) else (none))) = some r := h
  clear h
  by_cases c2 : (l0.length : Int) = 0
  · rw [if_pos c2] at H
    have c2b0 : ((l0.length : Int) == 0) = true := beq_iff_eq.mpr c2
    have c2b1 : ((l0.length : Int) != 0) = false := bne_eq_false_iff_eq.mpr c2
    clear c2
    obtain rfl := Option.some.inj H
    go_enter Try.func90, Try.ntmps90
    go_wp2
    go_ret
    exact ⟨by first | rfl | (simp; done) | (simp [*]; done), by repeat (first | exact Drawn0.refl _ | apply Drawn0.step)⟩
  · rw [if_neg c2] at H
    have c2b0 : ((l0.length : Int) == 0) = false := beq_eq_false_iff_ne.mpr c2
    have c2b1 : ((l0.length : Int) != 0) = true := bne_iff_ne.mpr c2
    have c2b2 : ¬ (l0 = []) := fun h_ => c2 (by rw [h_]; rfl)
    have HC3 := Aside0.mk H
    clear H
    go_enter Try.func90, Try.ntmps90
    go_upto_region 3 with (fail)
    go_cut [20] (fun v20 wc => ∃ (kq : Nat) (x20_2 : Bool), v20 = .bool x20_2 ∧ Aside0 (spec_l04Shape.j0 kq l0 x20_2 = some r) ∧ Aside0 (kq ≤ k) ∧ Drawn0 w wc)
    case first =>
      have H := HC3.out
      clear HC3
      by_cases c4 : 0 < (l0.length : Int)
      · rw [if_pos c4] at H
        have c4b0 : decide (0 < (l0.length : Int)) = true := decide_eq_true c4
        have c4b1 : decide (0 < l0.length) = true := decide_eq_true (by omega)
        clear c4
        (first | rw [c4b0] | (simp only [i64_w, i32_w]; rw [c4b0]) | skip)
        by_cases c5 : ((rd_T156 l0 0).f1) < 0
        · rw [if_pos c5] at H
          have c5b0 : decide (((rd_T156 l0 0).f1) < 0) = true := decide_eq_true c5
          clear c5
          have H' := Aside0.mk H
          clear H
          have p171 : 0 ≤ (0 : Int) := (by omega)
          have q171 : 0 < (l0.length : Int) := of_decide_eq_true (by first | (with_reducible assumption) | assumption)
          obtain ⟨ad171, e171, hx171_0, hx171_1, hx171_2, hx171_3⟩ := at_T156 HR0.out 0 p171 q171
          cases e171
          have qi171 : (0 < l0.length) = True := eq_true (by omega)
          (try rw [show ((0 : Int)).toNat = 0 from rfl] at hx171_0)
          (try rw [show 0 * 4 = 0 from rfl] at hx171_0)
          (try rw [Addr.add_zero'] at hx171_0)
          (try rw [show ((0 : Int)).toNat = 0 from rfl] at hx171_1)
          (try rw [show 0 * 4 = 0 from rfl] at hx171_1)
          (try rw [Addr.add_zero'] at hx171_1)
          (try rw [show ((0 : Int)).toNat = 0 from rfl] at hx171_2)
          (try rw [show 0 * 4 = 0 from rfl] at hx171_2)
          (try rw [Addr.add_zero'] at hx171_2)
          (try rw [show ((0 : Int)).toNat = 0 from rfl] at hx171_3)
          (try rw [show 0 * 4 = 0 from rfl] at hx171_3)
          (try rw [Addr.add_zero'] at hx171_3)
          replace p171 := eq_true p171
          replace q171 := eq_true q171
          go_wp2
          go_meet
          case rel => exact ⟨_, (true), (by first | rfl | (simp; done) | (simp [*]; done)), H', ⟨by first | omega | exact Nat.le_refl _⟩, by repeat (first | exact Drawn0.refl _ | apply Drawn0.step)⟩
        · rw [if_neg c5] at H
          have c5b0 : decide (((rd_T156 l0 0).f1) < 0) = false := decide_eq_false c5
          clear c5
          have H' := Aside0.mk H
          clear H
          have p171 : 0 ≤ (0 : Int) := (by omega)
          have q171 : 0 < (l0.length : Int) := of_decide_eq_true (by first | (with_reducible assumption) | assumption)
          obtain ⟨ad171, e171, hx171_0, hx171_1, hx171_2, hx171_3⟩ := at_T156 HR0.out 0 p171 q171
          cases e171
          have qi171 : (0 < l0.length) = True := eq_true (by omega)
          (try rw [show ((0 : Int)).toNat = 0 from rfl] at hx171_0)
          (try rw [show 0 * 4 = 0 from rfl] at hx171_0)
          (try rw [Addr.add_zero'] at hx171_0)
          (try rw [show ((0 : Int)).toNat = 0 from rfl] at hx171_1)
          (try rw [show 0 * 4 = 0 from rfl] at hx171_1)
          (try rw [Addr.add_zero'] at hx171_1)
          (try rw [show ((0 : Int)).toNat = 0 from rfl] at hx171_2)
          (try rw [show 0 * 4 = 0 from rfl] at hx171_2)
          (try rw [Addr.add_zero'] at hx171_2)
          (try rw [show ((0 : Int)).toNat = 0 from rfl] at hx171_3)
          (try rw [show 0 * 4 = 0 from rfl] at hx171_3)
          (try rw [Addr.add_zero'] at hx171_3)
          replace p171 := eq_true p171
          replace q171 := eq_true q171
          have p172 : 0 ≤ (0 : Int) := (by omega)
          have q172 : 0 < (l0.length : Int) := of_decide_eq_true (by first | (with_reducible assumption) | assumption)
          obtain ⟨ad172, e172, hx172_0, hx172_1, hx172_2, hx172_3⟩ := at_T156 HR0.out 0 p172 q172
          obtain rfl : ad171 = ad172 := (by injection e172)
          have qi172 : (0 < l0.length) = True := eq_true (by omega)
          (try rw [show ((0 : Int)).toNat = 0 from rfl] at hx172_0)
          (try rw [show 0 * 4 = 0 from rfl] at hx172_0)
          (try rw [Addr.add_zero'] at hx172_0)
          (try rw [show ((0 : Int)).toNat = 0 from rfl] at hx172_1)
          (try rw [show 0 * 4 = 0 from rfl] at hx172_1)
          (try rw [Addr.add_zero'] at hx172_1)
          (try rw [show ((0 : Int)).toNat = 0 from rfl] at hx172_2)
          (try rw [show 0 * 4 = 0 from rfl] at hx172_2)
          (try rw [Addr.add_zero'] at hx172_2)
          (try rw [show ((0 : Int)).toNat = 0 from rfl] at hx172_3)
          (try rw [show 0 * 4 = 0 from rfl] at hx172_3)
          (try rw [Addr.add_zero'] at hx172_3)
          replace p172 := eq_true p172
          replace q172 := eq_true q172
          go_wp2
          go_meet
          case rel => exact ⟨_, (decide (((rd_T156 l0 0).f1) ≥ (l0.length : Int))), (by first | rfl | (simp; done) | (simp [*]; done)), H', ⟨by first | omega | exact Nat.le_refl _⟩, by repeat (first | exact Drawn0.refl _ | apply Drawn0.step)⟩
      · rw [if_neg c4] at H
        exact absurd H (by simp)
    case rest =>
      clear HC3
      try clear p1
      try clear q1
      try clear hx1
      try clear qi1
      try clear c2
      try clear c2b0
      try clear c2b1
      try clear c2b2
      try clear p2
      try clear c4
      try clear c4b0
      try clear c4b1
      try clear c5
      try clear c5b0
      try clear hx171_0
      try clear hx171_1
      try clear hx171_2
      try clear hx171_3
      try clear hx172_0
      try clear hx172_1
      try clear hx172_2
      try clear hx172_3
      try clear p171
      try clear p172
      try clear q171
      try clear q172
      obtain ⟨kq, x20_2, rfl, HA, HJ2, ⟨mc2, rfl⟩⟩ := hcut
      cases kq with
      | zero => exact absurd HA.out (by simp [spec_l04Shape.j0])
      | succ kj2 =>
        have H := HA.out
        clear HA
        simp only [spec_l04Shape.j0] at H
        by_cases c6 : x20_2 = true
        · subst c6
          have H1 : (some false) = some r := by rw [if_pos rfl] at H; exact H
          clear H
          have H := H1
          clear H1
          obtain rfl := Option.some.inj H
          go_wp2
          go_ret
          exact ⟨by first | rfl | (simp; done) | (simp [*]; done), by repeat (first | exact Drawn0.refl _ | apply Drawn0.step)⟩
        · replace c6 := Bool.eq_false_iff.mpr c6
          subst c6
          have H1 : (if 0 < (l0.length : Int) then (if 1 ≤ (wrap64 (1 + ((rd_T156 l0 0).f1))) then (if (wrap64 (1 + ((rd_T156 l0 0).f1))) ≤ (l0.length : Int) then ((spec_l04Shape.f kj2 ((l0.take ((wrap64 (1 + ((rd_T156 l0 0).f1))) : Int).toNat).drop 1)).bind fun t178 => (if t178 = true then (if 0 ≤ (wrap64 (1 + ((rd_T156 l0 0).f1))) then ((spec_l04Shape.f kj2 (l0.drop ((wrap64 (1 + ((rd_T156 l0 0).f1))) : Int).toNat)).bind fun t183 => (some t183)) else (none)) else (some false))) else (none)) else (none)) else (none)) = some r := by rw [if_neg (show ¬ (false = true) by decide)] at H; exact H
          clear H
          have H := H1
          clear H1
          by_cases c7 : 0 < (l0.length : Int)
          · rw [if_pos c7] at H
            have c7b0 : decide (0 < (l0.length : Int)) = true := decide_eq_true c7
            have c7b1 : decide (0 < l0.length) = true := decide_eq_true (by omega)
            clear c7
            by_cases c8 : 1 ≤ (wrap64 (1 + ((rd_T156 l0 0).f1)))
            · rw [if_pos c8] at H
              have c8b0 := eq_true c8
              have c8b1 : decide (1 ≤ (wrap64 (1 + ((rd_T156 l0 0).f1)))) = true := decide_eq_true c8
              by_cases c9 : (wrap64 (1 + ((rd_T156 l0 0).f1))) ≤ (l0.length : Int)
              · rw [if_pos c9] at H
                have c9b0 := eq_true c9
                have c9b1 : decide ((wrap64 (1 + ((rd_T156 l0 0).f1))) ≤ (l0.length : Int)) = true := decide_eq_true c9
                obtain ⟨y174, hy174⟩ : ∃ y_ : List (S156), y_ = ((l0.take ((wrap64 (1 + ((rd_T156 l0 0).f1))) : Int).toNat).drop 1) := ⟨_, rfl⟩
                replace H : ((spec_l04Shape.f kj2 y174).bind fun t178 => (if t178 = true then (if 0 ≤ (wrap64 (1 + ((rd_T156 l0 0).f1))) then ((spec_l04Shape.f kj2 (l0.drop ((wrap64 (1 + ((rd_T156 l0 0).f1))) : Int).toNat)).bind fun t183 => (some t183)) else (none)) else (some false))) = some r := by first | (rw [hy174]; with_reducible exact H) | (have H2_ := (Option.bind_some _ _).symm.trans H; rw [hy174]; with_reducible exact H2_) | (have H2_ := (Option.bind_some _ _).symm.trans H; with_reducible exact H2_) | with_reducible exact H | (rw [hy174]; exact H) | exact H
                have Ny174 := Aside0.mk hy174
                clear hy174
                replace H := Option.bind_eq_some_iff.mp H
                obtain ⟨t178, A100, H⟩ := H
                replace H : (if t178 = true then (if 0 ≤ (wrap64 (1 + ((rd_T156 l0 0).f1))) then ((spec_l04Shape.f kj2 (l0.drop ((wrap64 (1 + ((rd_T156 l0 0).f1))) : Int).toNat)).bind fun t183 => (some t183)) else (none)) else (some false)) = some r := H
                have A10 := Aside0.mk A100
                clear A100
                by_cases c11 : t178 = true
                · subst c11
                  have H1 : (if 0 ≤ (wrap64 (1 + ((rd_T156 l0 0).f1))) then ((spec_l04Shape.f kj2 (l0.drop ((wrap64 (1 + ((rd_T156 l0 0).f1))) : Int).toNat)).bind fun t183 => (some t183)) else (none)) = some r := by rw [if_pos rfl] at H; exact H
                  clear H
                  have H := H1
                  clear H1
                  obtain ⟨ji12, hji12⟩ : ∃ j_ : Int, (wrap64 (1 + ((rd_T156 l0 0).f1))) = j_ := ⟨_, rfl⟩
                  replace H : (if 0 ≤ (ji12) then ((spec_l04Shape.f kj2 (l0.drop ((ji12) : Int).toNat)).bind fun t183 => (some t183)) else (none)) = some r := by first | (rw [hji12] at H; exact H) | (simp only [hji12] at H ⊢; exact H)
                  (try rw [hji12] at c8b0)
                  (try rw [hji12] at c8b1)
                  (try rw [hji12] at c8)
                  (try rw [hji12] at c9b0)
                  (try rw [hji12] at c9b1)
                  (try rw [hji12] at c9)
                  (try rw [hji12] at Ny174)
                  (try rw [hji12] at A10)
                  have hji12w : (IntKind.i64.wrap (1 + ((rd_T156 l0 0).f1))) = ji12 := (i64_w _).trans hji12
                  by_cases c13 : 0 ≤ (ji12)
                  · rw [if_pos c13] at H
                    have c13b0 := eq_true c13
                    have c13b1 : decide (0 ≤ (ji12)) = true := decide_eq_true c13
                    clear c13
                    have c14b0 := eq_true (of_decide_eq_true (by first | (with_reducible assumption) | assumption) : (ji12) ≤ (l0.length : Int))
                    obtain ⟨y179, hy179⟩ : ∃ y_ : List (S156), y_ = (l0.drop ((ji12) : Int).toNat) := ⟨_, rfl⟩
                    replace H : ((spec_l04Shape.f kj2 y179).bind fun t183 => (some t183)) = some r := by first | (rw [hy179]; with_reducible exact H) | (have H2_ := (Option.bind_some _ _).symm.trans H; rw [hy179]; with_reducible exact H2_) | (have H2_ := (Option.bind_some _ _).symm.trans H; with_reducible exact H2_) | with_reducible exact H | (rw [hy179]; exact H) | exact H
                    have Ny179 := Aside0.mk hy179
                    clear hy179
                    replace H := Option.bind_eq_some_iff.mp H
                    obtain ⟨t183, A150, H⟩ := H
                    replace H : (some t183) = some r := H
                    have A15 := Aside0.mk A150
                    clear A150
                    obtain rfl := Option.some.inj H
                    have p173 : 0 ≤ (0 : Int) := (by omega)
                    have q173 : 0 < (l0.length : Int) := of_decide_eq_true (by first | (with_reducible assumption) | assumption)
                    obtain ⟨ad173, e173, hx173_0, hx173_1, hx173_2, hx173_3⟩ := at_T156 HR0.out 0 p173 q173
                    cases e173
                    have qi173 : (0 < l0.length) = True := eq_true (by omega)
                    (try rw [show ((0 : Int)).toNat = 0 from rfl] at hx173_0)
                    (try rw [show 0 * 4 = 0 from rfl] at hx173_0)
                    (try rw [Addr.add_zero'] at hx173_0)
                    (try rw [show ((0 : Int)).toNat = 0 from rfl] at hx173_1)
                    (try rw [show 0 * 4 = 0 from rfl] at hx173_1)
                    (try rw [Addr.add_zero'] at hx173_1)
                    (try rw [show ((0 : Int)).toNat = 0 from rfl] at hx173_2)
                    (try rw [show 0 * 4 = 0 from rfl] at hx173_2)
                    (try rw [Addr.add_zero'] at hx173_2)
                    (try rw [show ((0 : Int)).toNat = 0 from rfl] at hx173_3)
                    (try rw [show 0 * 4 = 0 from rfl] at hx173_3)
                    (try rw [Addr.add_zero'] at hx173_3)
                    replace p173 := eq_true p173
                    replace q173 := eq_true q173
                    have q16 : ((ji12) : Int) ≤ ((l0.length : Int) : Int) := of_decide_eq_true (by first | (with_reducible assumption) | assumption)
                    obtain ⟨i016, hi016, _, hsz16, _⟩ := info_parts info156
                    have hroom16 : l0.length ≤ c0 := HC0.out
                    have hC16 : Kd.C k156 _ (some ad173) l0.length l0 := HR0.out
                    have ql16 : (1 : Int) ≤ ((ji12) : Int) := of_decide_eq_true (by first | (with_reducible assumption) | assumption)
                    have hcut16 := cut_mid (P := Try.prog) 62 156 .i64 .i64 Try.underlying62 hi016 4 hsz16 (some ad173) l0.length c0 1 (ji12) (by omega) ql16 q16 hroom16
                    have hr16 := Kd.C_mid (lo := (1 : Int).toNat) (hi := ((ji12) : Int).toNat) (c := c0) hC16 (by omega) (by omega) hroom16
                    obtain ⟨A16, hA16⟩ : ∃ An_, An_ = (if c0 = (1 : Int).toNat then (some ad173) else ((some ad173) : Option Addr).map (·.add ((1 : Int).toNat * 4))) := ⟨_, rfl⟩
                    obtain ⟨c16, hc16⟩ : ∃ cn_, cn_ = c0 - (1 : Int).toNat := ⟨_, rfl⟩
                    have hy16 : y174.length = ((ji12) : Int).toNat - (1 : Int).toNat := (by rw [Ny174.out, List.length_drop, List.length_take] <;> omega)
                    rw [show ((l0).take ((ji12) : Int).toNat).drop (1 : Int).toNat = y174 from Ny174.out.symm] at hr16
                    replace hr16 : Kd.C k156 _ A16 y174.length y174 := (by rw [hA16]; exact hr16)
                    rw [← hy16, ← hA16, ← hc16] at hcut16
                    have HR177 := Aside0.mk hr16
                    have HC177 := Aside0.mk (show y174.length ≤ c16 from by rw [hy16, hc16]; exact Nat.sub_le_sub_right (Nat.le_trans (by omega) hroom16) _)
                    clear hr16 hC16 hroom16 hi016 hsz16 hc16
                    have KY16 := Aside0.mk hy16
                    have KA16 := Aside0.mk hA16
                    clear hy16 hA16
                    replace q16 := eq_true q16
                    go_wp2_with (first | ((with_reducible refine gate_callee (f := 90) rfl ?_); refine goesL_ (some 29) rfl rfl Try.func90 (by kernel_rfl) rfl #[.slice A16 y174.length c16] rfl (by (try simp only [List.map_toArray, List.map_cons, List.map_nil]); first | done | rfl | (simp only [List.length_drop, List.length_take]; rfl)) ?_; (with_reducible refine (ih kj2 (by have := HJ2.out; omega) _ _ y174 true _ ?side1 ?side2 A10.out).mono ?_); (case side1 => repeat (first | exact HR177.out | (with_reducible refine Kd.C_alloc ?_ _) | (with_reducible refine Kd.C_drewN ?_ _) | (with_reducible refine Kd.C_drew ?_))); (case side2 => exact HC177.out); rintro e w' ⟨rfl, ⟨nd, rfl⟩⟩; refine ⟨_, rfl, ?_⟩; have q17 : ((ji12) : Int) ≤ ((l0.length : Int) : Int) := of_decide_eq_true (by first | (with_reducible assumption) | assumption); obtain ⟨i017, hi017, _, hsz17, _⟩ := info_parts info156; have hroom17 : l0.length ≤ c0 := HC0.out; have hC17 : Kd.C k156 _ (some ad173) l0.length l0 := HR0.out; have q017 : (0 : Int) ≤ ((ji12) : Int) := of_decide_eq_true (by first | (with_reducible assumption) | assumption); have hcut17 := cut_from (P := Try.prog) 62 156 .i64 Try.underlying62 hi017 4 hsz17 (some ad173) l0.length c0 (ji12) q017 q17; have hr17 := Kd.C_drop (m := ((ji12) : Int).toNat) (c := c0) hC17 (by omega) hroom17; obtain ⟨A17, hA17⟩ : ∃ An_, An_ = (if c0 = ((ji12) : Int).toNat then (some ad173) else ((some ad173) : Option Addr).map (·.add (((ji12) : Int).toNat * 4))) := ⟨_, rfl⟩; obtain ⟨c17, hc17⟩ : ∃ cn_, cn_ = c0 - ((ji12) : Int).toNat := ⟨_, rfl⟩; have hy17 : y179.length = l0.length - ((ji12) : Int).toNat := (by rw [Ny179.out, List.length_drop] <;> omega); rw [show (l0).drop ((ji12) : Int).toNat = y179 from Ny179.out.symm] at hr17; replace hr17 : Kd.C k156 _ A17 y179.length y179 := (by rw [hA17]; exact hr17); rw [← hy17, ← hA17, ← hc17] at hcut17; have HR182 := Aside0.mk hr17; have HC182 := Aside0.mk (show y179.length ≤ c17 from by rw [hy17, hc17]; exact Nat.sub_le_sub_right hroom17 _); clear hr17 hC17 hroom17 hi017 hsz17 hc17; have KY17 := Aside0.mk hy17; have KA17 := Aside0.mk hA17; clear hy17 hA17; replace q17 := eq_true q17) | (go_at_call 90; (with_reducible refine (ih kj2 (by have := HJ2.out; omega) _ _ y179 t183 _ ?side1 ?side2 A15.out).mono ?_); (case side1 => repeat (first | exact HR182.out | (with_reducible refine Kd.C_alloc ?_ _) | (with_reducible refine Kd.C_drewN ?_ _) | (with_reducible refine Kd.C_drew ?_))); (case side2 => exact HC182.out); rintro e w' ⟨rfl, ⟨nd, rfl⟩⟩))
                    go_ret
                    exact ⟨by first | rfl | (simp; done) | (simp only [← hji12] <;> (first | rfl | simp)) | (simp [*]; done), by repeat (first | exact Drawn0.refl _ | apply Drawn0.step)⟩
                  · rw [if_neg c13] at H
                    exact absurd H (by simp)
                · replace c11 := Bool.eq_false_iff.mpr c11
                  subst c11
                  have H1 : (some false) = some r := by rw [if_neg (show ¬ (false = true) by decide)] at H; exact H
                  clear H
                  have H := H1
                  clear H1
                  obtain rfl := Option.some.inj H
                  have p173 : 0 ≤ (0 : Int) := (by omega)
                  have q173 : 0 < (l0.length : Int) := of_decide_eq_true (by first | (with_reducible assumption) | assumption)
                  obtain ⟨ad173, e173, hx173_0, hx173_1, hx173_2, hx173_3⟩ := at_T156 HR0.out 0 p173 q173
                  cases e173
                  have qi173 : (0 < l0.length) = True := eq_true (by omega)
                  (try rw [show ((0 : Int)).toNat = 0 from rfl] at hx173_0)
                  (try rw [show 0 * 4 = 0 from rfl] at hx173_0)
                  (try rw [Addr.add_zero'] at hx173_0)
                  (try rw [show ((0 : Int)).toNat = 0 from rfl] at hx173_1)
                  (try rw [show 0 * 4 = 0 from rfl] at hx173_1)
                  (try rw [Addr.add_zero'] at hx173_1)
                  (try rw [show ((0 : Int)).toNat = 0 from rfl] at hx173_2)
                  (try rw [show 0 * 4 = 0 from rfl] at hx173_2)
                  (try rw [Addr.add_zero'] at hx173_2)
                  (try rw [show ((0 : Int)).toNat = 0 from rfl] at hx173_3)
                  (try rw [show 0 * 4 = 0 from rfl] at hx173_3)
                  (try rw [Addr.add_zero'] at hx173_3)
                  replace p173 := eq_true p173
                  replace q173 := eq_true q173
                  have q18 : ((wrap64 (1 + ((rd_T156 l0 0).f1))) : Int) ≤ ((l0.length : Int) : Int) := of_decide_eq_true (by first | (with_reducible assumption) | assumption)
                  obtain ⟨i018, hi018, _, hsz18, _⟩ := info_parts info156
                  have hroom18 : l0.length ≤ c0 := HC0.out
                  have hC18 : Kd.C k156 _ (some ad173) l0.length l0 := HR0.out
                  have ql18 : (1 : Int) ≤ ((wrap64 (1 + ((rd_T156 l0 0).f1))) : Int) := of_decide_eq_true (by first | (with_reducible assumption) | assumption)
                  have hcut18 := cut_mid (P := Try.prog) 62 156 .i64 .i64 Try.underlying62 hi018 4 hsz18 (some ad173) l0.length c0 1 (wrap64 (1 + ((rd_T156 l0 0).f1))) (by omega) ql18 q18 hroom18
                  have hr18 := Kd.C_mid (lo := (1 : Int).toNat) (hi := ((wrap64 (1 + ((rd_T156 l0 0).f1))) : Int).toNat) (c := c0) hC18 (by omega) (by omega) hroom18
                  obtain ⟨A18, hA18⟩ : ∃ An_, An_ = (if c0 = (1 : Int).toNat then (some ad173) else ((some ad173) : Option Addr).map (·.add ((1 : Int).toNat * 4))) := ⟨_, rfl⟩
                  obtain ⟨c18, hc18⟩ : ∃ cn_, cn_ = c0 - (1 : Int).toNat := ⟨_, rfl⟩
                  have hy18 : y174.length = ((wrap64 (1 + ((rd_T156 l0 0).f1))) : Int).toNat - (1 : Int).toNat := (by rw [Ny174.out, List.length_drop, List.length_take] <;> omega)
                  rw [show ((l0).take ((wrap64 (1 + ((rd_T156 l0 0).f1))) : Int).toNat).drop (1 : Int).toNat = y174 from Ny174.out.symm] at hr18
                  replace hr18 : Kd.C k156 _ A18 y174.length y174 := (by rw [hA18]; exact hr18)
                  rw [← hy18, ← hA18, ← hc18] at hcut18
                  have HR177 := Aside0.mk hr18
                  have HC177 := Aside0.mk (show y174.length ≤ c18 from by rw [hy18, hc18]; exact Nat.sub_le_sub_right (Nat.le_trans (by omega) hroom18) _)
                  clear hr18 hC18 hroom18 hi018 hsz18 hc18
                  have KY18 := Aside0.mk hy18
                  have KA18 := Aside0.mk hA18
                  clear hy18 hA18
                  replace q18 := eq_true q18
                  go_wp2_with (first | ((with_reducible refine gate_callee (f := 90) rfl ?_); refine goesL_ (some 29) rfl rfl Try.func90 (by kernel_rfl) rfl #[.slice A18 y174.length c18] rfl (by (try simp only [List.map_toArray, List.map_cons, List.map_nil]); first | done | rfl | (simp only [List.length_drop, List.length_take]; rfl)) ?_; (with_reducible refine (ih kj2 (by have := HJ2.out; omega) _ _ y174 false _ ?side1 ?side2 A10.out).mono ?_); (case side1 => repeat (first | exact HR177.out | (with_reducible refine Kd.C_alloc ?_ _) | (with_reducible refine Kd.C_drewN ?_ _) | (with_reducible refine Kd.C_drew ?_))); (case side2 => exact HC177.out); rintro e w' ⟨rfl, ⟨nd, rfl⟩⟩; refine ⟨_, rfl, ?_⟩))
                  go_ret
                  exact ⟨by first | rfl | (simp; done) | (simp [*]; done), by repeat (first | exact Drawn0.refl _ | apply Drawn0.step)⟩
              · rw [if_neg c9] at H
                exact absurd H (by simp)
            · rw [if_neg c8] at H
              exact absurd H (by simp)
          · rw [if_neg c7] at H
            exact absurd H (by simp)

end Go.Proofs.Ytenlceojmjkbkaa.XFnExactTreeBelow
