/- Functions that FnExactTreeTake comes to, as Lean functions with their contracts: written by the prover's own program (wip/tpl/myprint.py) over the kit's printer, some contracts by hand. Conditions: none. -/
import Derived.Test.YtenlceojmjkbkaaGreatXFnExactTreeTakex0
namespace Go.Proofs.YtenlceojmjkbkaaGreat.XFnExactTreeTake
open Go.RowKit Go.Proofs.YtenlceojmjkbkaaGreatW.PrintWords Go.Proofs.YtenlceojmjkbkaaGreatW.PrintLast Go.Proofs.YtenlceojmjkbkaaGreatW.PrintMore
attribute [local go_sem] max2_int min2_int max_two min_two max_three min_three max_four min_four   -- for this text's walks alone
set_option linter.unusedVariables false
set_option linter.unusedSimpArgs false

/-! ### laws_szTwigS: function 14 -/
def laws_szTwigS.f (l0 : List (S81)) (a1 : Int) : Option (Int) := if (wrap64 (a1 - (l0.length : Int))) < 0 then (some (-1)) else (some (wrap64 (a1 - (l0.length : Int))))
set_option maxHeartbeats 8000000 in
set_option maxRecDepth 100000 in
theorem laws_szTwigS.calls (A0 : Option Addr) (c0 : Nat) (l0 : List (S81)) (a1 : Int) (r : Int) (w : World) (hr0 : Kd.C k81 w A0 l0.length l0) (hc0 : l0.length ≤ c0) (h : laws_szTwigS.f l0 a1 = some r) :
  Calls Tryz.prog 14 #[.slice A0 l0.length c0, .int .i64 a1] w fun e w' => e = .returned (.int .i64 r) ∧ Drawn0 w w' := by
 have HR0 := Aside0.mk hr0
 have HC0 := Aside0.mk hc0
 clear hr0 hc0
 have H : (if (wrap64 (a1 - (l0.length : Int))) < 0 then (some (-1)) else (some (wrap64 (a1 - (l0.length : Int))))) = some r := h
 clear h
 by_cases c3 : (wrap64 (a1 - (l0.length : Int))) < 0
 ·
  rw [if_pos c3] at H
  have c3b0 : decide ((wrap64 (a1 - (l0.length : Int))) < 0) = true := decide_eq_true c3
  clear c3
  obtain rfl := Option.some.inj H
  go_enter Tryz.func14, Tryz.ntmps14
  go_wp2
  go_ret
  exact ⟨by first | rfl | (simp; done) | (simp [*]; done), by repeat (first | exact Drawn0.refl _ | apply Drawn0.step)⟩
 ·
  rw [if_neg c3] at H
  have c3b0 : decide ((wrap64 (a1 - (l0.length : Int))) < 0) = false := decide_eq_false c3
  clear c3
  obtain rfl := Option.some.inj H
  go_enter Tryz.func14, Tryz.ntmps14
  go_wp2
  go_ret
  exact ⟨by first | rfl | (simp; done) | (simp [*]; done), by repeat (first | exact Drawn0.refl _ | apply Drawn0.step)⟩

/-! ### laws_szTree: function 4 -/
def laws_szTree.f (l0_0 : List (S81)) (a1 : Int) : Option (Int) := (laws_szTwigS.f l0_0 a1).bind fun t102 => (if t102 < 0 then (some (-1)) else (some t102))
set_option maxHeartbeats 8000000 in
set_option maxRecDepth 100000 in
theorem laws_szTree.calls (A0_0 : Option Addr) (c0_0 : Nat) (l0_0 : List (S81)) (a1 : Int) (r : Int) (w : World) (hr0_0 : Kd.C k81 w A0_0 l0_0.length l0_0) (hc0_0 : l0_0.length ≤ c0_0) (h : laws_szTree.f l0_0 a1 = some r) :
  Calls Tryz.prog 4 #[.agg #[.slice A0_0 l0_0.length c0_0], .int .i64 a1] w fun e w' => e = .returned (.int .i64 r) ∧ Below w.heap.size w w' := by
 have hu24 := Tryz.underlying24
 have HR0_0 := Aside0.mk hr0_0
 have HC0_0 := Aside0.mk hc0_0
 clear hr0_0 hc0_0
 have HB := Aside0.mk (Below.refl w.heap.size w)
 have H : ((laws_szTwigS.f l0_0 a1).bind fun t102 => (if t102 < 0 then (some (-1)) else (some t102))) = some r := h
 clear h
 replace H := Option.bind_eq_some_iff.mp H
 obtain ⟨t102, A30, H⟩ := H
 replace H : (if t102 < 0 then (some (-1)) else (some t102)) = some r := H
 have A3 := Aside0.mk A30
 clear A30
 by_cases c4 : t102 < 0
 ·
  rw [if_pos c4] at H
  have c4b0 : decide (t102 < 0) = true := decide_eq_true c4
  clear c4
  obtain rfl := Option.some.inj H
  go_enter Tryz.func4, Tryz.ntmps4
  go_wp2_with (first | ((with_reducible refine gate_dst (N := 2) rfl ?_); refine box_event ?hg (N := 2) ?hd (cs := #[.slice A0_0 l0_0.length c0_0]) (t := 24) ?hr ?_; (case hd => rfl); (case hg => rfl); (case hr => first | (go_simp; done) | (go_simp; rfl)); intro gb101 hg w5 hbox hb; have n0_ := Aside0.mk (below_step bl_ hb); have n1_ := Aside0.mk (hbox); have n2_ := Aside0.mk ((by rw [hg]; exact (below_size bl_) : w.heap.size ≤ gb101)); have n3_ := Aside0.mk ((by rw [hg]; exact (below_size bl_) : w.heap.size ≤ gb101)); clear HB; have HB := n0_; have BK101 := n1_; have GW101 := n2_; have GE101 := n3_; clear n0_ n1_ n2_ n3_; clear hb hbox hg; have hcz6_0 : w5.cell? ⟨gb101, 0, none⟩ = some (.slice A0_0 l0_0.length c0_0) := (blk_cell BK101.out 0).trans rfl; have hfz6_0 := blk_frozen BK101.out 0) | ((with_reducible refine gate_callee (f := 14) rfl ?_); refine gL_ (some 8) Tryz.func14 #[.slice A0_0 l0_0.length c0_0, .int .i64 a1] ?_; (with_reducible refine (laws_szTwigS.calls _ _ l0_0 a1 t102 _ ?side1 ?side2 A3.out).mono ?_); (case side1 => exact Kd.C_below HR0_0.out bl_); (case side2 => exact HC0_0.out); rintro e w' ⟨rfl, ⟨nd, rfl⟩⟩; refine ⟨_, rfl, ?_⟩))
  go_ret
  exact ⟨by first | rfl | (simp [errW_none, errW_some] <;> rfl) | (simp [*, errW_none, errW_some] <;> rfl), bl_⟩
 ·
  rw [if_neg c4] at H
  have c4b0 : decide (t102 < 0) = false := decide_eq_false c4
  clear c4
  obtain rfl := Option.some.inj H
  go_enter Tryz.func4, Tryz.ntmps4
  go_wp2_with (first | ((with_reducible refine gate_dst (N := 2) rfl ?_); refine box_event ?hg (N := 2) ?hd (cs := #[.slice A0_0 l0_0.length c0_0]) (t := 24) ?hr ?_; (case hd => rfl); (case hg => rfl); (case hr => first | (go_simp; done) | (go_simp; rfl)); intro gb101 hg w7 hbox hb; have n0_ := Aside0.mk (below_step bl_ hb); have n1_ := Aside0.mk (hbox); have n2_ := Aside0.mk ((by rw [hg]; exact (below_size bl_) : w.heap.size ≤ gb101)); have n3_ := Aside0.mk ((by rw [hg]; exact (below_size bl_) : w.heap.size ≤ gb101)); clear HB; have HB := n0_; have BK101 := n1_; have GW101 := n2_; have GE101 := n3_; clear n0_ n1_ n2_ n3_; clear hb hbox hg; have hcz8_0 : w7.cell? ⟨gb101, 0, none⟩ = some (.slice A0_0 l0_0.length c0_0) := (blk_cell BK101.out 0).trans rfl; have hfz8_0 := blk_frozen BK101.out 0) | ((with_reducible refine gate_callee (f := 14) rfl ?_); refine gL_ (some 8) Tryz.func14 #[.slice A0_0 l0_0.length c0_0, .int .i64 a1] ?_; (with_reducible refine (laws_szTwigS.calls _ _ l0_0 a1 t102 _ ?side1 ?side2 A3.out).mono ?_); (case side1 => exact Kd.C_below HR0_0.out bl_); (case side2 => exact HC0_0.out); rintro e w' ⟨rfl, ⟨nd, rfl⟩⟩; refine ⟨_, rfl, ?_⟩))
  go_ret
  exact ⟨by first | rfl | (simp [errW_none, errW_some] <;> rfl) | (simp [*, errW_none, errW_some] <;> rfl), bl_⟩

/-! ### spec_l02Id: function 34 -/
def spec_l02Id.f (a0 : Int) : Option (Bool) := if a0 ≥ 1 then (some (decide (a0 ≤ 1000000))) else (some false)
set_option maxHeartbeats 8000000 in
set_option maxRecDepth 100000 in
theorem spec_l02Id.calls (a0 : Int) (r : Bool) (w : World) (h : spec_l02Id.f a0 = some r) :
  Calls Tryz.prog 34 #[.int .i64 a0] w fun e w' => e = .returned (.bool r) ∧ Drawn0 w w' := by
 have H : (if a0 ≥ 1 then (some (decide (a0 ≤ 1000000))) else (some false)) = some r := h
 clear h
 by_cases c2 : a0 ≥ 1
 ·
  rw [if_pos c2] at H
  have c2b0 : decide (1 ≤ a0) = true := decide_eq_true c2
  clear c2
  obtain rfl := Option.some.inj H
  go_enter Tryz.func34, Tryz.ntmps34
  go_wp2
  go_ret
  exact ⟨by first | rfl | (simp; done) | (simp [*]; done), by repeat (first | exact Drawn0.refl _ | apply Drawn0.step)⟩
 ·
  rw [if_neg c2] at H
  have c2b0 : decide (1 ≤ a0) = false := decide_eq_false c2
  clear c2
  obtain rfl := Option.some.inj H
  go_enter Tryz.func34, Tryz.ntmps34
  go_wp2
  go_ret
  exact ⟨by first | rfl | (simp; done) | (simp [*]; done), by repeat (first | exact Drawn0.refl _ | apply Drawn0.step)⟩

/-! ### spec_l02Want: function 35 -/
def spec_l02Want.f (a0 : Int) : Option (Bool) := if a0 ≥ 0 then (some (decide (a0 ≤ 1125899906842624))) else (some false)
set_option maxHeartbeats 8000000 in
set_option maxRecDepth 100000 in
theorem spec_l02Want.calls (a0 : Int) (r : Bool) (w : World) (h : spec_l02Want.f a0 = some r) :
  Calls Tryz.prog 35 #[.int .i64 a0] w fun e w' => e = .returned (.bool r) ∧ Drawn0 w w' := by
 have H : (if a0 ≥ 0 then (some (decide (a0 ≤ 1125899906842624))) else (some false)) = some r := h
 clear h
 by_cases c2 : a0 ≥ 0
 ·
  rw [if_pos c2] at H
  have c2b0 : decide (0 ≤ a0) = true := decide_eq_true c2
  clear c2
  obtain rfl := Option.some.inj H
  go_enter Tryz.func35, Tryz.ntmps35
  go_wp2
  go_ret
  exact ⟨by first | rfl | (simp; done) | (simp [*]; done), by repeat (first | exact Drawn0.refl _ | apply Drawn0.step)⟩
 ·
  rw [if_neg c2] at H
  have c2b0 : decide (0 ≤ a0) = false := decide_eq_false c2
  clear c2
  obtain rfl := Option.some.inj H
  go_enter Tryz.func35, Tryz.ntmps35
  go_wp2
  go_ret
  exact ⟨by first | rfl | (simp; done) | (simp [*]; done), by repeat (first | exact Drawn0.refl _ | apply Drawn0.step)⟩

/-! ### spec_l02Weight: function 36 -/
def spec_l02Weight.f (a0 : Int) : Option (Bool) := if a0 ≥ 1 then (some (decide (a0 ≤ 1073741824))) else (some false)
set_option maxHeartbeats 8000000 in
set_option maxRecDepth 100000 in
theorem spec_l02Weight.calls (a0 : Int) (r : Bool) (w : World) (h : spec_l02Weight.f a0 = some r) :
  Calls Tryz.prog 36 #[.int .i64 a0] w fun e w' => e = .returned (.bool r) ∧ Drawn0 w w' := by
 have H : (if a0 ≥ 1 then (some (decide (a0 ≤ 1073741824))) else (some false)) = some r := h
 clear h
 by_cases c2 : a0 ≥ 1
 ·
  rw [if_pos c2] at H
  have c2b0 : decide (1 ≤ a0) = true := decide_eq_true c2
  clear c2
  obtain rfl := Option.some.inj H
  go_enter Tryz.func36, Tryz.ntmps36
  go_wp2
  go_ret
  exact ⟨by first | rfl | (simp; done) | (simp [*]; done), by repeat (first | exact Drawn0.refl _ | apply Drawn0.step)⟩
 ·
  rw [if_neg c2] at H
  have c2b0 : decide (1 ≤ a0) = false := decide_eq_false c2
  clear c2
  obtain rfl := Option.some.inj H
  go_enter Tryz.func36, Tryz.ntmps36
  go_wp2
  go_ret
  exact ⟨by first | rfl | (simp; done) | (simp [*]; done), by repeat (first | exact Drawn0.refl _ | apply Drawn0.step)⟩

/-! ### spec_ItemRight: function 16 -/
def spec_ItemRight.f (a0_0 : Int) (a0_1 : Int) (a0_2 : Int) : Option (Bool) := (spec_l02Id.f a0_0).bind fun t104 => (if t104 = true then ((spec_l02Want.f a0_1).bind fun t105 => (if t105 = true then ((spec_l02Weight.f a0_2).bind fun t106 => (some t106)) else (some false))) else (some false))
set_option maxHeartbeats 8000000 in
set_option maxRecDepth 100000 in
theorem spec_ItemRight.calls (a0_0 : Int) (a0_1 : Int) (a0_2 : Int) (r : Bool) (w : World) (h : spec_ItemRight.f a0_0 a0_1 a0_2 = some r) :
  Calls Tryz.prog 16 #[.agg #[.int .i64 a0_0, .int .i64 a0_1, .int .i64 a0_2]] w fun e w' => e = .returned (.bool r) ∧ Below w.heap.size w w' := by
 have hu35 := Tryz.underlying35
 have HB := Aside0.mk (Below.refl w.heap.size w)
 have H : ((spec_l02Id.f a0_0).bind fun t104 => (if t104 = true then ((spec_l02Want.f a0_1).bind fun t105 => (if t105 = true then ((spec_l02Weight.f a0_2).bind fun t106 => (some t106)) else (some false))) else (some false))) = some r := h
 clear h
 replace H := Option.bind_eq_some_iff.mp H
 obtain ⟨t104, A20, H⟩ := H
 replace H : (if t104 = true then ((spec_l02Want.f a0_1).bind fun t105 => (if t105 = true then ((spec_l02Weight.f a0_2).bind fun t106 => (some t106)) else (some false))) else (some false)) = some r := H
 have A2 := Aside0.mk A20
 clear A20
 by_cases c3 : t104 = true
 ·
  subst c3
  have H1 : ((spec_l02Want.f a0_1).bind fun t105 => (if t105 = true then ((spec_l02Weight.f a0_2).bind fun t106 => (some t106)) else (some false))) = some r := by rw [if_pos rfl] at H; exact H
  clear H
  have H := H1
  clear H1
  replace H := Option.bind_eq_some_iff.mp H
  obtain ⟨t105, A40, H⟩ := H
  replace H : (if t105 = true then ((spec_l02Weight.f a0_2).bind fun t106 => (some t106)) else (some false)) = some r := H
  have A4 := Aside0.mk A40
  clear A40
  by_cases c5 : t105 = true
  ·
   subst c5
   have H1 : ((spec_l02Weight.f a0_2).bind fun t106 => (some t106)) = some r := by rw [if_pos rfl] at H; exact H
   clear H
   have H := H1
   clear H1
   replace H := Option.bind_eq_some_iff.mp H
   obtain ⟨t106, A60, H⟩ := H
   replace H : (some t106) = some r := H
   have A6 := Aside0.mk A60
   clear A60
   obtain rfl := Option.some.inj H
   go_enter Tryz.func16, Tryz.ntmps16
   go_wp2_with (first | ((with_reducible refine gate_dst (N := 1) rfl ?_); refine box_event ?hg (N := 1) ?hd (cs := #[.int .i64 a0_0, .int .i64 a0_1, .int .i64 a0_2]) (t := 35) ?hr ?_; (case hd => rfl); (case hg => rfl); (case hr => first | (go_simp; done) | (go_simp; rfl)); intro gb103 hg w7 hbox hb; have n0_ := Aside0.mk (below_step bl_ hb); have n1_ := Aside0.mk (hbox); have n2_ := Aside0.mk ((by rw [hg]; exact (below_size bl_) : w.heap.size ≤ gb103)); have n3_ := Aside0.mk ((by rw [hg]; exact (below_size bl_) : w.heap.size ≤ gb103)); clear HB; have HB := n0_; have BK103 := n1_; have GW103 := n2_; have GE103 := n3_; clear n0_ n1_ n2_ n3_; clear hb hbox hg; have hcz8_0 : w7.cell? ⟨gb103, 0, none⟩ = some (.int .i64 a0_0) := (blk_cell BK103.out 0).trans rfl; have hcz8_1 : w7.cell? ⟨gb103, 1, none⟩ = some (.int .i64 a0_1) := (blk_cell BK103.out 1).trans rfl; have hcz8_2 : w7.cell? ⟨gb103, 2, none⟩ = some (.int .i64 a0_2) := (blk_cell BK103.out 2).trans rfl; have hfz8_0 := blk_frozen BK103.out 0; have hfz8_1 := blk_frozen BK103.out 1; have hfz8_2 := blk_frozen BK103.out 2) | ((with_reducible refine gate_callee (f := 34) rfl ?_); refine gL_ (some 5) Tryz.func34 #[.int .i64 a0_0] ?_; (with_reducible refine (spec_l02Id.calls a0_0 true _ A2.out).mono ?_); rintro e w' ⟨rfl, ⟨nd, rfl⟩⟩; refine ⟨_, rfl, ?_⟩) | (go_at_call 35; (with_reducible refine (spec_l02Want.calls a0_1 true _ A4.out).mono ?_); rintro e w' ⟨rfl, ⟨nd, rfl⟩⟩) | (go_at_call 36; (with_reducible refine (spec_l02Weight.calls a0_2 t106 _ A6.out).mono ?_); rintro e w' ⟨rfl, ⟨nd, rfl⟩⟩))
   go_ret
   exact ⟨by first | rfl | (simp [errW_none, errW_some] <;> rfl) | (simp [*, errW_none, errW_some] <;> rfl), bl_⟩
  ·
   replace c5 := Bool.eq_false_iff.mpr c5
   subst c5
   have H1 : (some false) = some r := by rw [if_neg (show ¬ (false = true) by decide)] at H; exact H
   clear H
   have H := H1
   clear H1
   obtain rfl := Option.some.inj H
   go_enter Tryz.func16, Tryz.ntmps16
   go_wp2_with (first | ((with_reducible refine gate_dst (N := 1) rfl ?_); refine box_event ?hg (N := 1) ?hd (cs := #[.int .i64 a0_0, .int .i64 a0_1, .int .i64 a0_2]) (t := 35) ?hr ?_; (case hd => rfl); (case hg => rfl); (case hr => first | (go_simp; done) | (go_simp; rfl)); intro gb103 hg w9 hbox hb; have n0_ := Aside0.mk (below_step bl_ hb); have n1_ := Aside0.mk (hbox); have n2_ := Aside0.mk ((by rw [hg]; exact (below_size bl_) : w.heap.size ≤ gb103)); have n3_ := Aside0.mk ((by rw [hg]; exact (below_size bl_) : w.heap.size ≤ gb103)); clear HB; have HB := n0_; have BK103 := n1_; have GW103 := n2_; have GE103 := n3_; clear n0_ n1_ n2_ n3_; clear hb hbox hg; have hcz10_0 : w9.cell? ⟨gb103, 0, none⟩ = some (.int .i64 a0_0) := (blk_cell BK103.out 0).trans rfl; have hcz10_1 : w9.cell? ⟨gb103, 1, none⟩ = some (.int .i64 a0_1) := (blk_cell BK103.out 1).trans rfl; have hcz10_2 : w9.cell? ⟨gb103, 2, none⟩ = some (.int .i64 a0_2) := (blk_cell BK103.out 2).trans rfl; have hfz10_0 := blk_frozen BK103.out 0; have hfz10_1 := blk_frozen BK103.out 1; have hfz10_2 := blk_frozen BK103.out 2) | ((with_reducible refine gate_callee (f := 34) rfl ?_); refine gL_ (some 5) Tryz.func34 #[.int .i64 a0_0] ?_; (with_reducible refine (spec_l02Id.calls a0_0 true _ A2.out).mono ?_); rintro e w' ⟨rfl, ⟨nd, rfl⟩⟩; refine ⟨_, rfl, ?_⟩) | (go_at_call 35; (with_reducible refine (spec_l02Want.calls a0_1 false _ A4.out).mono ?_); rintro e w' ⟨rfl, ⟨nd, rfl⟩⟩))
   go_ret
   exact ⟨by first | rfl | (simp [errW_none, errW_some] <;> rfl) | (simp [*, errW_none, errW_some] <;> rfl), bl_⟩
 ·
  replace c3 := Bool.eq_false_iff.mpr c3
  subst c3
  have H1 : (some false) = some r := by rw [if_neg (show ¬ (false = true) by decide)] at H; exact H
  clear H
  have H := H1
  clear H1
  obtain rfl := Option.some.inj H
  go_enter Tryz.func16, Tryz.ntmps16
  go_wp2_with (first | ((with_reducible refine gate_dst (N := 1) rfl ?_); refine box_event ?hg (N := 1) ?hd (cs := #[.int .i64 a0_0, .int .i64 a0_1, .int .i64 a0_2]) (t := 35) ?hr ?_; (case hd => rfl); (case hg => rfl); (case hr => first | (go_simp; done) | (go_simp; rfl)); intro gb103 hg w11 hbox hb; have n0_ := Aside0.mk (below_step bl_ hb); have n1_ := Aside0.mk (hbox); have n2_ := Aside0.mk ((by rw [hg]; exact (below_size bl_) : w.heap.size ≤ gb103)); have n3_ := Aside0.mk ((by rw [hg]; exact (below_size bl_) : w.heap.size ≤ gb103)); clear HB; have HB := n0_; have BK103 := n1_; have GW103 := n2_; have GE103 := n3_; clear n0_ n1_ n2_ n3_; clear hb hbox hg; have hcz12_0 : w11.cell? ⟨gb103, 0, none⟩ = some (.int .i64 a0_0) := (blk_cell BK103.out 0).trans rfl; have hcz12_1 : w11.cell? ⟨gb103, 1, none⟩ = some (.int .i64 a0_1) := (blk_cell BK103.out 1).trans rfl; have hcz12_2 : w11.cell? ⟨gb103, 2, none⟩ = some (.int .i64 a0_2) := (blk_cell BK103.out 2).trans rfl; have hfz12_0 := blk_frozen BK103.out 0; have hfz12_1 := blk_frozen BK103.out 1; have hfz12_2 := blk_frozen BK103.out 2) | ((with_reducible refine gate_callee (f := 34) rfl ?_); refine gL_ (some 5) Tryz.func34 #[.int .i64 a0_0] ?_; (with_reducible refine (spec_l02Id.calls a0_0 false _ A2.out).mono ?_); rintro e w' ⟨rfl, ⟨nd, rfl⟩⟩; refine ⟨_, rfl, ?_⟩))
  go_ret
  exact ⟨by first | rfl | (simp [errW_none, errW_some] <;> rfl) | (simp [*, errW_none, errW_some] <;> rfl), bl_⟩

/-! ### spec_l04Read: function 17 -/
attribute [local go_sem] Oper.semAt_some
theorem info35t : (Tryz.prog.info? 35).map (fun i => (i.zero, i.size, i.bytes)) = some (some (.agg #[(.int .i64 0), (.int .i64 0), (.int .i64 0)]), 3, 24) := by kernel_rfl
theorem info74t : (Tryz.prog.info? 74).map (fun i => (i.zero, i.size, i.bytes)) = some (some (.agg #[(.int .i64 0), (.int .i64 0), (.int .i64 0), (.int .i64 0), (.int .i64 0)]), 5, 40) := by kernel_rfl
theorem info46t : (Tryz.prog.info? 46).map (fun i => (i.zero, i.size, i.bytes)) = some (some (.agg #[(.int .i64 0), (.int .i64 0), (.int .i64 0), (.int .i64 0)]), 4, 32) := by kernel_rfl
/-! ### Trees, in plain terms -/
inductive Tr where
 | nil
 | node (x : S35) (l r : Tr)
def Tr.ht : Tr → Nat
 | .nil => 0
 | .node _ l r => 1 + max l.ht r.ht
def Tr.sz : Tr → Nat
 | .nil => 0
 | .node _ l r => l.sz + r.sz + 1
def Tr.items : Tr → List S35
 | .nil => []
 | .node x l r => l.items ++ x :: r.items
def Tr.flat : Tr → Bool
 | .nil => true
 | .node _ l r => decide (-1 ≤ (l.ht : Int) - r.ht ∧ (l.ht : Int) - r.ht ≤ 1) && (l.flat && r.flat)
theorem Tr.ht_le : ∀ t : Tr, t.ht ≤ t.sz
 | .nil => Nat.le_refl _
 | .node _ l r => by
  have := Tr.ht_le l
  have := Tr.ht_le r
  simp only [Tr.ht, Tr.sz]; omega
theorem Tr.items_len : ∀ t : Tr, t.items.length = t.sz
 | .nil => rfl
 | .node _ l r => by
  have := Tr.items_len l
  have := Tr.items_len r
  simp only [Tr.items, Tr.sz, List.length_append, List.length_cons]; omega

/-- The tree that a list tells, and whether it tells one. -/
def trd : Nat → List S46 → Tr × Bool
 | 0, _ => (.nil, true)
 | _ + 1, [] => (.nil, true)
 | k + 1, x :: l => if 0 ≤ x.f1 ∧ x.f1 ≤ l.length then (.node x.f0 (trd k (l.take x.f1.toNat)).1 (trd k (l.drop x.f1.toNat)).1, (trd k (l.take x.f1.toNat)).2 && (trd k (l.drop x.f1.toNat)).2) else (.nil, false)
theorem trd_sz : ∀ (k : Nat) (l : List S46), (trd k l).1.sz ≤ l.length
 | 0, _ => Nat.zero_le _
 | _ + 1, [] => Nat.zero_le _
 | k + 1, x :: l => by
  rw [trd]
  split
  ·
   have h1 := trd_sz k (l.take x.f1.toNat)
   have h2 := trd_sz k (l.drop x.f1.toNat)
   simp only [Tr.sz, List.length_take, List.length_drop, List.length_cons] at *
   omega
  ·
   exact Nat.zero_le _

theorem items_mem_l {x y : S35} {l r : Tr} (h : y ∈ l.items) : y ∈ (Tr.node x l r).items := by simp only [Tr.items, List.mem_append]; exact .inl h
theorem items_mem_r {x y : S35} {l r : Tr} (h : y ∈ r.items) : y ∈ (Tr.node x l r).items := by simp only [Tr.items, List.mem_append, List.mem_cons]; exact .inr (.inr h)
theorem items_mem_x {x : S35} {l r : Tr} : x ∈ (Tr.node x l r).items := by simp [Tr.items]
/-- A world that has come of w by growth alone. -/
structure BW (w : World) where
 W : World
 h : Below w.heap.size w W
instance {w : World} : Nonempty (BW w) := ⟨⟨w, Below.refl _ _⟩⟩
theorem BW.cell {w : World} (p : BW w) {a : Addr} {v : Value} (h : w.cell? a = some v) : p.W.cell? a = some v := pw_cell_below p.h h
theorem Calls.bw {P : Program} {f : FuncId} {args : Array Value} {w : World} {p : BW w} {v : Value} (h : Calls P f args p.W fun e w' => e = .returned v ∧ Below p.W.heap.size p.W w') : Calls P f args p.W fun e w'' => e = .returned v ∧ ∃ q : BW w, w'' = q.W :=
 h.mono fun _ w' ⟨he, hb⟩ => ⟨he, ⟨w', below_then p.h p.h.size hb⟩, rfl⟩
theorem Calls.bwd {P : Program} {f : FuncId} {args : Array Value} {w : World} {p : BW w} {v : Value} (h : Calls P f args p.W fun e w' => e = .returned v ∧ Drawn0 p.W w') : Calls P f args p.W fun e w'' => e = .returned v ∧ ∃ q : BW w, w'' = q.W :=
 Calls.bw (h.mono fun _ _ ⟨he, hb⟩ => ⟨he, hb.below⟩)
theorem wp_region_bw {P : Program} {id : Nat} {Q : Exit → Act → World → Prop} {a : Act} {w : World} {l : List Oper} (hm : P.follows .mixedOrders = true) (hB : Region.lexB .any l.toArray = true)
  (h : wpQuiet P l.toArray (fun w' => ∃ p : BW w, w' = p.W) (fun a' => ∀ w', (∃ p : BW w, w' = p.W) → Q .normal a' w') l a) : (Code.region id l.toArray true).wp P Q a w :=
 wp_region_quiet (C := fun w' => ∃ p : BW w, w' = p.W) hm hB ⟨⟨w.drew, below_drew (Below.refl _ _)⟩, rfl⟩ (by simpa using h)
/-! #### struct type 74 -/
structure S74 where
 f0 : S35
 f1 : Int
 f2 : Int
def z74 : S74 := ⟨z35, (0 : Int), (0 : Int)⟩
def k74 : Kd S74 := Kd.iso (Kd.pair k35 (Kd.pair (Kd.int .i64) (Kd.int .i64))) (fun x : S74 => (x.f0, x.f1, x.f2))
theorem k74_open {w : World} {x : S74} {cs : List Value} (h : k74.K w x cs) : cs = [.int .i64 x.f0.f0, .int .i64 x.f0.f1, .int .i64 x.f0.f2, .int .i64 x.f1, .int .i64 x.f2] := by
 obtain ⟨_, _, rfl, s0, ⟨_, _, rfl, rfl, rfl⟩⟩ := h
 obtain rfl := k35_open s0
 exact rfl
theorem k74_openM {w : World} {base : Nat} {ok : Nat → Prop} {x : S74} {cs : List Value} (h : k74.M w base ok x cs) : cs = [.int .i64 x.f0.f0, .int .i64 x.f0.f1, .int .i64 x.f0.f2, .int .i64 x.f1, .int .i64 x.f2] := by
 obtain ⟨_, _, rfl, s0, ⟨_, _, rfl, rfl, rfl⟩⟩ := h
 obtain rfl := k35_openM s0
 exact rfl
theorem k74_mk (w : World) (x : S74)  : k74.K w x [.int .i64 x.f0.f0, .int .i64 x.f0.f1, .int .i64 x.f0.f2, .int .i64 x.f1, .int .i64 x.f2] := ⟨[.int .i64 x.f0.f0, .int .i64 x.f0.f1, .int .i64 x.f0.f2], [.int .i64 x.f1, .int .i64 x.f2], rfl, (k35_mk w x.f0 ), ⟨[.int .i64 x.f1], [.int .i64 x.f2], rfl, rfl, rfl⟩⟩
theorem k74_mkM (w : World) (base : Nat) (ok : Nat → Prop) (x : S74)  : k74.M w base ok x [.int .i64 x.f0.f0, .int .i64 x.f0.f1, .int .i64 x.f0.f2, .int .i64 x.f1, .int .i64 x.f2] := ⟨[.int .i64 x.f0.f0, .int .i64 x.f0.f1, .int .i64 x.f0.f2], [.int .i64 x.f1, .int .i64 x.f2], rfl, (k35_mkM w base ok x.f0 ), ⟨[.int .i64 x.f1], [.int .i64 x.f2], rfl, rfl, rfl⟩⟩
def rd_T74 (xs : List S74) (i : Int) : S74 := xs.getD i.toNat z74
theorem at_T74 {w : World} {A : Option Addr} {n : Nat} {xs : List S74} (h : Kd.C k74 w A n xs) (i : Int) (h0 : 0 ≤ i) (h1 : i < n) : ∃ ad , A = some ad ∧ w.cell? (ad.add (i.toNat * 5)) = some (.int .i64 (rd_T74 xs i).f0.f0) ∧ w.cell? ⟨(ad.add (i.toNat * 5)).block, (ad.add (i.toNat * 5)).off + 1, none⟩ = some (.int .i64 (rd_T74 xs i).f0.f1) ∧ w.cell? ⟨(ad.add (i.toNat * 5)).block, (ad.add (i.toNat * 5)).off + 2, none⟩ = some (.int .i64 (rd_T74 xs i).f0.f2) ∧ w.cell? ⟨(ad.add (i.toNat * 5)).block, (ad.add (i.toNat * 5)).off + 3, none⟩ = some (.int .i64 (rd_T74 xs i).f1) ∧ w.cell? ⟨(ad.add (i.toNat * 5)).block, (ad.add (i.toNat * 5)).off + 4, none⟩ = some (.int .i64 (rd_T74 xs i).f2) := by
 obtain ⟨ad, c, e, _, hK, hc0⟩ := Kd.C_get h z74 i h0 h1
 have hc : ∀ j u, c[j]? = some u → w.cell? (ad.add (i.toNat * 5 + j)) = some u := hc0
 obtain rfl := k74_open hK
 exact ⟨ad, e, hc 0 _ rfl, by rw [← add_field _ _ 1 (by omega)]; exact hc 1 _ rfl, by rw [← add_field _ _ 2 (by omega)]; exact hc 2 _ rfl, by rw [← add_field _ _ 3 (by omega)]; exact hc 3 _ rfl, by rw [← add_field _ _ 4 (by omega)]; exact hc 4 _ rfl⟩

/-! ### The reference's wood: its nodes' row stands behind the box -/
def IsS53 (w0 W : World) (g : Nat) (f0 : List S74) (f1 : Int) : Prop := ∃ A0 c0, W.heap[g]? = some (.cells #[.slice A0 f0.length c0, .int .i64 f1] 53 (0, 0)) ∧ w0.heap.size ≤ g ∧ Kd.R k74 74 W w0.heap.size (fun _ => True) (.slice A0 f0.length c0) f0
section
variable {w0 W : World} {g : Nat} {f0 : List S74} {f1 : Int}
theorem IsS53.below {W1 : World} (h : IsS53 w0 W g f0 f1) (hw : Below W.heap.size W W1) : IsS53 w0 W1 g f0 f1 := by
 obtain ⟨A0, c0, h1, h2, h3⟩ := h
 exact ⟨A0, c0, blk_below h1 hw, h2, Kd.R_below h3 hw⟩
theorem IsS53.alloc (h : IsS53 w0 W g f0 f1) (o : Obj) : IsS53 w0 (W.alloc o) g f0 f1 := h.below (below_alloc (Below.refl _ _) o)
theorem IsS53.drewN (h : IsS53 w0 W g f0 f1) (m : Nat) : IsS53 w0 (W.drewN m) g f0 f1 := h.below (pw_below_drewN (Below.refl _ _) m)
theorem IsS53.drew (h : IsS53 w0 W g f0 f1) : IsS53 w0 W.drew g f0 f1 := h.below (below_drew (Below.refl _ _))
theorem IsS53.at_ {w' : World} {m : Nat} (hq : W.drewN m = w') (h : IsS53 w0 W g f0 f1) : IsS53 w0 w' g f0 f1 := by subst hq; exact IsS53.drewN h m
theorem IsS53.lt (h : IsS53 w0 W g f0 f1) : g < W.heap.size := by obtain ⟨_, _, h1, _⟩ := h; exact blk_lt h1
theorem IsS53.ge (h : IsS53 w0 W g f0 f1) : w0.heap.size ≤ g := by obtain ⟨_, _, _, h2, _⟩ := h; exact h2
theorem IsS53.fresh (h : IsS53 w0 W g f0 f1) : ∀ k, W.heap.size ≤ k → k ≠ g := fun k hk e => by have := h.lt; omega
theorem IsS53.apart {α : Type} {d : Kd α} {e : Nat} {base : Nat} {ok : Nat → Prop} {v : Value} {xs : List α} (h : IsS53 w0 W g f0 f1) (ho : d.R e W base ok v xs) (ht : ∀ q, q ∈ e :: d.E → q ≠ 53) : d.R e W base (fun k => ok k ∧ k ≠ g) v xs := by
 obtain ⟨_, _, h1, _⟩ := h
 exact Kd.R_types ho h1 ht
theorem IsS53.own_ne {α : Type} {d : Kd α} {e : Nat} {base : Nat} {ok : Nat → Prop} {v : Value} {xs : List α} (h : IsS53 w0 W g f0 f1) (ho : d.R e W base ok v xs) (ht : e ≠ 53) : some g ≠ v.ownBlock := by
 obtain ⟨_, _, h1, _⟩ := h
 exact Kd.R_ne ho h1 ht
theorem IsS53.ne_blk {a : Nat} {cs : Array Value} {t : TypeId} (h : IsS53 w0 W g f0 f1) (hb2 : W.heap[a]? = some (.cells cs t (0, 0))) (ht : t ≠ 53) : g ≠ a := by
 obtain ⟨_, _, h1, _⟩ := h
 intro e; subst e
 rw [h1] at hb2
 simp only [Option.some.injEq, Obj.cells.injEq] at hb2
 exact ht hb2.2.1.symm
end
theorem cellS53_0 {W : World} {g : Nat} {A0 : Option Addr} {c0 : Nat} {f0 : List (S74)} {f1 : Int} (h : W.heap[g]? = some (.cells #[.slice A0 f0.length c0, .int .i64 f1] 53 (0, 0))) : W.cell? ⟨g, 0, none⟩ = some (.slice A0 f0.length c0) := (blk_cell h 0).trans rfl
theorem cellS53_1 {W : World} {g : Nat} {A0 : Option Addr} {c0 : Nat} {f0 : List (S74)} {f1 : Int} (h : W.heap[g]? = some (.cells #[.slice A0 f0.length c0, .int .i64 f1] 53 (0, 0))) : W.cell? ⟨g, 1, none⟩ = some (.int .i64 f1) := (blk_cell h 1).trans rfl
/-- The part of the wood at a place tells a tree. -/
def Rep (ns : List S74) : Tr → Int → Prop
 | .nil, a => a < 0
 | .node x l r, a => 0 ≤ a ∧ a < ns.length ∧ (rd_T74 ns a).f0 = x ∧ Rep ns l (rd_T74 ns a).f1 ∧ Rep ns r (rd_T74 ns a).f2
theorem Rep.uniq {ns : List S74} : ∀ {t t' : Tr} {a : Int}, Rep ns t a → Rep ns t' a → t = t'
 | .nil, .nil, _, _, _ => rfl
 | .nil, .node _ _ _, _, h, h' => by have := h'.1; simp only [Rep] at h; omega
 | .node _ _ _, .nil, _, h, h' => by have := h.1; simp only [Rep] at h'; omega
 | .node _ _ _, .node _ _ _, _, ⟨_, _, h1, h2, h3⟩, ⟨_, _, h1', h2', h3'⟩ => by
  rw [← h1, ← h1', Rep.uniq h2 h2', Rep.uniq h3 h3']
attribute [local go_sem] Oper.semAt_some
/-! ### The wood that a list tells -/
def topO (o : Nat) : Tr → Int
 | .nil => -1
 | .node _ _ _ => o
def lay : Nat → Tr → List S74
 | _, .nil => []
 | o, .node x l r => ⟨x, topO (o + 1) l, topO (o + 1 + l.sz) r⟩ :: (lay (o + 1) l ++ lay (o + 1 + l.sz) r)
theorem lay_len : ∀ (t : Tr) (o : Nat), (lay o t).length = t.sz
 | .nil, _ => rfl
 | .node _ l r, o => by simp [lay, Tr.sz, lay_len l, lay_len r]
theorem rd130_at (p : List S74) (y : S74) (q : List S74) : rd_T74 (p ++ y :: q) (p.length : Int) = y := by simp [rd_T74]
theorem Rep_lay : ∀ (t : Tr) (p q : List S74), Rep (p ++ lay p.length t ++ q) t (topO p.length t)
 | .nil, _, _ => by simp [Rep, topO]
 | .node x l r, p, q => by
  have e1 : p ++ lay p.length (.node x l r) ++ q = (p ++ [⟨x, topO (p.length + 1) l, topO (p.length + 1 + l.sz) r⟩]) ++ lay (p ++ [(⟨x, topO (p.length + 1) l, topO (p.length + 1 + l.sz) r⟩ : S74)]).length l ++ (lay (p.length + 1 + l.sz) r ++ q) := by simp [lay]
  have e2 : p ++ lay p.length (.node x l r) ++ q = (p ++ [⟨x, topO (p.length + 1) l, topO (p.length + 1 + l.sz) r⟩] ++ lay (p.length + 1) l) ++ lay (p ++ [(⟨x, topO (p.length + 1) l, topO (p.length + 1 + l.sz) r⟩ : S74)] ++ lay (p.length + 1) l).length r ++ q := by
   rw [show (p ++ [(⟨x, topO (p.length + 1) l, topO (p.length + 1 + l.sz) r⟩ : S74)] ++ lay (p.length + 1) l).length = p.length + 1 + l.sz by simp [lay_len]; omega]
   simp [lay]
  have h1 := Rep_lay l (p ++ [⟨x, topO (p.length + 1) l, topO (p.length + 1 + l.sz) r⟩]) (lay (p.length + 1 + l.sz) r ++ q)
  have h2 := Rep_lay r (p ++ [⟨x, topO (p.length + 1) l, topO (p.length + 1 + l.sz) r⟩] ++ lay (p.length + 1) l) q
  rw [← e1] at h1
  rw [← e2, show (p ++ [(⟨x, topO (p.length + 1) l, topO (p.length + 1 + l.sz) r⟩ : S74)] ++ lay (p.length + 1) l).length = p.length + 1 + l.sz by simp [lay_len]; omega] at h2
  have e3 : rd_T74 (p ++ lay p.length (.node x l r) ++ q) (p.length : Int) = ⟨x, topO (p.length + 1) l, topO (p.length + 1 + l.sz) r⟩ := by
   simp only [lay, List.append_assoc, List.cons_append]
   exact rd130_at _ _ _
  refine ⟨by simp [topO], by simp [topO, lay]; omega, by rw [show topO p.length (.node x l r) = (p.length : Int) from rfl, e3], ?_, ?_⟩
  ·
   rw [show topO p.length (.node x l r) = (p.length : Int) from rfl, e3]
   simpa using h1
  ·
   rw [show topO p.length (.node x l r) = (p.length : Int) from rfl, e3]
   exact h2
theorem wfin (ns : List S74) (x : S35) (t1 t2 : Tr) (ns1 ns3 : List S74) (h1 : ns1 = ns ++ [⟨x, 0, 0⟩]) (h3 : ns3 = ns1 ++ lay ns1.length t1 ++ lay (ns1.length + (lay ns1.length t1).length) t2) :
  (ns3.set ns.length ⟨(rd_T74 ns3 ns.length).f0, topO ns1.length t1, (rd_T74 ns3 ns.length).f2⟩).set ns.length ⟨(rd_T74 (ns3.set ns.length ⟨(rd_T74 ns3 ns.length).f0, topO ns1.length t1, (rd_T74 ns3 ns.length).f2⟩) ns.length).f0, (rd_T74 (ns3.set ns.length ⟨(rd_T74 ns3 ns.length).f0, topO ns1.length t1, (rd_T74 ns3 ns.length).f2⟩) ns.length).f1, topO (ns1.length + (lay ns1.length t1).length) t2⟩ = ns ++ lay ns.length (.node x t1 t2) := by
 have e3 : ns3 = ns ++ ⟨x, 0, 0⟩ :: (lay ns1.length t1 ++ lay (ns1.length + (lay ns1.length t1).length) t2) := by rw [h3, h1]; simp
 have hn : ns1.length = ns.length + 1 := by rw [h1]; simp
 have es : ∀ y : S74, ns3.set ns.length y = ns ++ y :: (lay ns1.length t1 ++ lay (ns1.length + (lay ns1.length t1).length) t2) := fun y => by rw [e3]; simp
 rw [es]
 have e4 : rd_T74 ns3 (ns.length : Int) = ⟨x, 0, 0⟩ := by rw [e3]; exact rd130_at _ _ _
 rw [e4, rd130_at, hn, lay_len]
 simp [lay]

theorem k74_at {W : World} {base g n cap : Nat} {ok : Nat → Prop} {xs : List S74} (h : Kd.R k74 74 W base ok (.slice (some ⟨g, 0, none⟩) n cap) xs) (i : Nat) (hi : i < n) :
  W.cell? ⟨g, i * 5 + 3, none⟩ = some (.int .i64 (rd_T74 xs i).f1) ∧ W.frozen? ⟨g, i * 5 + 3, none⟩ = false ∧ W.cell? ⟨g, i * 5 + 4, none⟩ = some (.int .i64 (rd_T74 xs i).f2) ∧ W.frozen? ⟨g, i * 5 + 4, none⟩ = false := by
 obtain ⟨ce, hcl, hM, hcc, hfr⟩ := Kd.R_elem h z74 (i : Int) (by omega) (by omega)
 obtain rfl := k74_openM hM
 exact ⟨hcc 3 _ rfl, hfr 3, hcc 4 _ rfl, hfr 4⟩
theorem k74_set1 {W : World} {base g n cap : Nat} {ok : Nat → Prop} {xs : List S74} (h : Kd.R k74 74 W base ok (.slice (some ⟨g, 0, none⟩) n cap) xs) (i : Nat) (hi : i < n) (u : Int) :
  Kd.R k74 74 (W.setCell ⟨g, i * 5 + 3, none⟩ (.int .i64 u)) base ok (.slice (some ⟨g, 0, none⟩) n cap) (xs.set i ⟨(rd_T74 xs i).f0, u, (rd_T74 xs i).f2⟩) := by
 obtain ⟨ce, hcl, hM, hcc, hfr⟩ := Kd.R_elem h z74 (i : Int) (by omega) (by omega)
 obtain rfl := k74_openM hM
 exact (Kd.R_seg h (i : Int) (by omega) (by omega) (seg := [.int .i64 u]) (j := 3) hcl hcc (show 3 + 1 ≤ 5 by decide) (x' := (⟨(rd_T74 xs i).f0, u, (rd_T74 xs i).f2⟩ : S74)) (k74_mkM _ _ _ _) (fun _ hk => hk)).1
theorem k74_set2 {W : World} {base g n cap : Nat} {ok : Nat → Prop} {xs : List S74} (h : Kd.R k74 74 W base ok (.slice (some ⟨g, 0, none⟩) n cap) xs) (i : Nat) (hi : i < n) (u : Int) :
  Kd.R k74 74 (W.setCell ⟨g, i * 5 + 4, none⟩ (.int .i64 u)) base ok (.slice (some ⟨g, 0, none⟩) n cap) (xs.set i ⟨(rd_T74 xs i).f0, (rd_T74 xs i).f1, u⟩) := by
 obtain ⟨ce, hcl, hM, hcc, hfr⟩ := Kd.R_elem h z74 (i : Int) (by omega) (by omega)
 obtain rfl := k74_openM hM
 exact (Kd.R_seg h (i : Int) (by omega) (by omega) (seg := [.int .i64 u]) (j := 4) hcl hcc (show 4 + 1 ≤ 5 by decide) (x' := (⟨(rd_T74 xs i).f0, (rd_T74 xs i).f1, u⟩ : S74)) (k74_mkM _ _ _ _) (fun _ hk => hk)).1
theorem IsS53.open_ {w0 W : World} {g : Nat} {f0 : List S74} {f1 : Int} (h : IsS53 w0 W g f0 f1) : ∃ A0 c0, W.heap[g]? = some (.cells #[.slice A0 f0.length c0, .int .i64 f1] 53 (0, 0)) ∧ w0.heap.size ≤ g ∧ Kd.R k74 74 W w0.heap.size (fun _ => True) (.slice A0 f0.length c0) f0 := h
set_option maxHeartbeats 4000000 in
set_option maxRecDepth 100000 in
theorem wread_calls (k : Nat) : ∀ (A : Option Addr) (c : Nat) (l : List S46) (g : Nat) (top : Int) (w0 : World) (hk : l.length ≤ k) (ht : (trd k l).2 = true) (hr : Kd.C k46 w0 A l.length l) (hc : l.length ≤ c) (w : World) (ns : List S74) (hlen : ns.length + l.length ≤ 1000) (hB : Below w0.heap.size w0 w) (hI : IsS53 w0 w g ns top),
  Calls Tryz.prog 37 #[.pointer (some ⟨g, 0, none⟩), .slice A l.length c] w fun e w' => e = .returned (.int .i64 (topO ns.length (trd k l).1)) ∧ IsS53 w0 w' g (ns ++ lay ns.length (trd k l).1) top ∧ Below w0.heap.size w0 w' := by
 have empty : ∀ (A : Option Addr) (c j : Nat) (g : Nat) (top : Int) (w0 w : World) (ns : List S74) (hB : Below w0.heap.size w0 w) (hI : IsS53 w0 w g ns top), Calls Tryz.prog 37 #[.pointer (some ⟨g, 0, none⟩), .slice A 0 c] w fun e w' => e = .returned (.int .i64 (topO ns.length (trd j []).1)) ∧ IsS53 w0 w' g (ns ++ lay ns.length (trd j []).1) top ∧ Below w0.heap.size w0 w' := by
  intro A c j g top w0 w ns hB hI
  have e1 : trd j [] = (.nil, true) := by cases j <;> rfl
  rw [e1]
  have HI := Aside0.mk hI
  have HB := Aside0.mk hB
  clear hI hB e1
  go_enter Tryz.func37, Tryz.ntmps37
  go_wp2
  go_ret
  exact ⟨rfl, by simpa [lay] using HI.out, HB.out⟩
 induction k with
 | zero =>
  intro A c l g top w0 hk ht hr hc w ns hlen hB hI
  obtain rfl : l = [] := List.length_eq_zero_iff.1 (by omega)
  exact empty A c 0 g top w0 w ns hB hI
 | succ k ih =>
  intro A c l g top w0 hk ht hr hc w ns hlen hB hI
  cases l with
  | nil => exact empty A c (k + 1) g top w0 w ns hB hI
  | cons x l =>
  clear empty
  have hu28 := Tryz.underlying28
  have hlen1 : ((x :: l).length : Int) = (l.length : Int) + 1 := by simp
  have hlm : l.length ≤ 999 := by simp at hlen; omega
  obtain ⟨ad, e, hx0, hx1, hx2, hx3⟩ := at_T46 hr 0 (by omega) (by omega)
  cases e
  have e0 : rd_T46 (x :: l) 0 = x := rfl
  rw [show ((0 : Int)).toNat = 0 from rfl, show 0 * 4 = 0 from rfl, Addr.add_zero', e0] at hx0 hx1 hx2 hx3
  have hz : ((((x :: l).length : Int)) == 0) = false := beq_eq_false_iff_ne.2 (by omega)
  have hp : (0 : Int) < ((x :: l).length : Int) := by omega
  have hq : (0 < (x :: l).length) = True := eq_true (by simp)
  rw [trd] at ht ⊢
  clear e0
  by_cases cc : 0 ≤ x.f1 ∧ x.f1 ≤ l.length
  ·
   rw [if_pos cc] at ht ⊢
   obtain ⟨ht1, ht2⟩ := Bool.and_eq_true_iff.1 ht
   obtain ⟨n, hn⟩ : ∃ n : Nat, x.f1 = n := ⟨x.f1.toNat, by omega⟩
   have hnl : n ≤ l.length := by omega
   rw [hn] at hx3 ht1 ht2 ⊢
   rw [Int.toNat_natCast] at ht1 ht2 ⊢
   have hwe : wrap64 (1 + (n : Int)) = ((n + 1 : Nat) : Int) := by unfold wrap64; omega
   obtain ⟨i0, hi0, _, hsz, _⟩ := info_parts info46t
   have hcut1 := cut_mid (P := Tryz.prog) 28 46 .i64 .i64 Tryz.underlying28 hi0 4 hsz (some ad) (x :: l).length c 1 ((n + 1 : Nat) : Int) (by omega) (by omega) (by simp; omega) hc
   have hcut2 := cut_from (P := Tryz.prog) 28 46 .i64 Tryz.underlying28 hi0 4 hsz (some ad) (x :: l).length c ((n + 1 : Nat) : Int) (by omega) (by simp; omega)
   have hr1 := Kd.C_mid (lo := (1 : Int).toNat) (hi := (((n + 1 : Nat) : Int)).toNat) (c := c) hr (by omega) (by simp; omega) hc
   have hr2 := Kd.C_drop (m := (((n + 1 : Nat) : Int)).toNat) (c := c) hr (by simp; omega) hc
   simp only [Int.toNat_natCast, show (1 : Int).toNat = 1 from rfl, List.take_succ_cons, List.drop_succ_cons, List.drop_zero, Nat.add_sub_cancel] at hcut1 hcut2 hr1 hr2
   obtain ⟨A1, hA1⟩ : ∃ A1, A1 = (if c = 1 then (some ad) else ((some ad) : Option Addr).map (·.add (1 * 4))) := ⟨_, rfl⟩
   obtain ⟨A2, hA2⟩ : ∃ A1, A1 = (if c = n + 1 then (some ad) else ((some ad) : Option Addr).map (·.add ((n + 1) * 4))) := ⟨_, rfl⟩
   obtain ⟨c1, hc1⟩ : ∃ c1, c1 = c - 1 := ⟨_, rfl⟩
   obtain ⟨c2, hc2⟩ : ∃ c1, c1 = c - (n + 1) := ⟨_, rfl⟩
   obtain ⟨y1, hy1⟩ : ∃ y, y = l.take n := ⟨_, rfl⟩
   obtain ⟨y2, hy2⟩ : ∃ y, y = l.drop n := ⟨_, rfl⟩
   have l1 : y1.length = n := by rw [hy1, List.length_take]; omega
   have l2 : y2.length = (x :: l).length - (n + 1) := by rw [hy2, List.length_drop]; simp
   rw [← hA1, ← hc1] at hcut1
   rw [← hA2, ← hc2, ← l2] at hcut2
   replace hcut2 : ∀ W : World, (Instr.slice 28 (.slice (some ad) (x :: l).length c) (some (.int .i64 (wrap64 (1 + (n : Int))))) none none).run Tryz.prog W = .ok (.slice A2 y2.length c2) W := by rw [hwe]; exact hcut2
   replace hcut1 : ∀ W : World, (Instr.slice 28 (.slice (some ad) (x :: l).length c) (some (.int .i64 1)) (some (.int .i64 (wrap64 (1 + (n : Int))))) none).run Tryz.prog W = .ok (.slice A1 y1.length c1) W := by rw [l1, hwe]; exact hcut1
   have C1 : Kd.C k46 w0 A1 y1.length y1 := by rw [hA1, l1, hy1]; have h_ := hr1; simpa [show k46.sz = 4 from rfl, Nat.min_eq_left hnl] using h_
   have C2 : Kd.C k46 w0 A2 y2.length y2 := by rw [hA2, l2, hy2]; have h_ := hr2; simpa [show k46.sz = 4 from rfl] using h_
   have s1 := trd_sz k y1
   have s2 := trd_sz k y2
   rw [← hy1] at ht1 ⊢
   rw [← hy2] at ht2 ⊢
   have b1 : y1.length ≤ c1 := by rw [l1, hc1]; simp at hc; omega
   have b2 : y2.length ≤ c2 := by rw [l2, hc2]; omega
   have k1 : y1.length ≤ k := by simp at hk; omega
   have k2 : y2.length ≤ k := by simp at hk l2; omega
   obtain ⟨ns1, hn1⟩ : ∃ ns1 : List S74, ns1 = ns ++ [⟨x.f0, 0, 0⟩] := ⟨_, rfl⟩
   have hn1l : ns1.length = ns.length + 1 := by rw [hn1]; simp
   have hL1 : ns1.length + y1.length ≤ 1000 := by simp at hlen; omega
   have IH1 := Aside0.mk (fun W ns h a b => ih A1 c1 y1 g top w0 k1 ht1 C1 b1 W ns h a b)
   have IH2 := Aside0.mk (fun W ns h a b => ih A2 c2 y2 g top w0 k2 ht2 C2 b2 W ns h a b)
   have hL2 : (ns1 ++ lay ns1.length (trd k y1).1).length + y2.length ≤ 1000 := by rw [List.length_append, lay_len]; simp at hlen l2; omega
   have hlen0 : ns.length + 1 ≤ 1000 := by simp at hlen; omega
   generalize (x :: l).length = M at *
   clear hwe ih hr hk hc hr1 hr2 hA1 hA2 hc1 hc2 hy1 hy2 l1 l2 k1 k2 b1 b2 hi0 hsz hlm hnl cc hn hu28 s1 s2 hlen1 ht ht1 ht2 C1 C2 hlen
   generalize trd k y1 = t1 at IH1 IH2 hL2 ⊢
   generalize trd k y2 = t2 at IH2 ⊢
   obtain ⟨t1, o1⟩ := t1
   obtain ⟨t2, o2⟩ := t2
   simp only at IH1 IH2 hL2 ⊢
   obtain ⟨ns3, hn3⟩ : ∃ ns3, ns3 = ns1 ++ lay ns1.length t1 ++ lay (ns1 ++ lay ns1.length t1).length t2 := ⟨_, rfl⟩
   have HN3 := Aside0.mk hn3
   have HFIN := Aside0.mk (wfin ns x.f0 t1 t2 ns1 ns3 hn1 (by rw [hn3, List.length_append]))
   have HN1 := Aside0.mk hn1
   have HL1 := Aside0.mk hL1
   have HL2 := Aside0.mk hL2
   have hlen := Aside0.mk hlen0
   have hq3 : ns.length < ns3.length := by rw [hn3, hn1]; simp
   have HP3 : Aside0 (0 < ns3.length) := ⟨by omega⟩
   have HQ3 : Aside0 (ns.length < ns3.length) := ⟨hq3⟩
   have hq3b : (ns.length < ns3.length) = True := eq_true hq3
   obtain ⟨A0, c0, bk, ge, hR⟩ := hI
   have bk := Aside0.mk bk
   have ge := Aside0.mk ge
   have hR := Aside0.mk hR
   have HB := Aside0.mk hB
   have hy0 := pw_cell_below hB hx0
   have hy1 := pw_cell_below hB hx1
   have hy2 := pw_cell_below hB hx2
   have hy3 := pw_cell_below hB hx3
   have hbb0 := blk_cell bk.out 0
   simp only [List.getElem?_toArray, List.getElem?_cons_zero, List.getElem?_cons_succ] at hbb0
   clear hB hn1 hn1l hn3 hL1 hL2 hlen0 hq3
   go_enter Tryz.func37, Tryz.ntmps37
   go_wp2
   refine start_ (n := 15) (S := fun w' => w'.heap[g]? = some (.cells #[.slice A0 ns.length c0, .int .i64 top] 53 (0, 0)) ∧ Below w0.heap.size w0 w') (ds := [14]) #[false, false, false, false, false, false, false, false, false, false, false, false, false, false, false] (by kernel_rfl) rfl rfl ⟨blk_drew bk.out, below_drew HB.out⟩ (fun hHeld => ?_)
   refine pure_ (i := 0) (N := (some 22)) (v := ?_) (a' := ?_) #[true, false, false, false, false, false, false, false, false, false, false, false, false, false, false] rfl rfl (by kernel_rfl) (fun _ _ _ h => h) (Or.inl ⟨by rfl, ?_⟩) ?_ ?_
   rotate_left
   ·
    intro w'
    go_simp
    with_reducible rfl
   rotate_left
   ·
    simp only [Act.put, List.setIfInBounds_toArray, List.set_cons_zero, List.set_cons_succ, i64_w, i32_w]
    rfl
   refine pure_ (i := 1) (N := (some 23)) (v := ?_) (a' := ?_) #[true, true, false, false, false, false, false, false, false, false, false, false, false, false, false] rfl rfl (by kernel_rfl) (fun _ _ _ h => h) (Or.inl ⟨by rfl, ?_⟩) ?_ ?_
   rotate_left
   ·
    intro w'
    go_simp
    with_reducible rfl
   rotate_left
   ·
    simp only [Act.put, List.setIfInBounds_toArray, List.set_cons_zero, List.set_cons_succ, i64_w, i32_w]
    rfl
   refine pure_ (i := 2) (N := (some 24)) (v := ?_) (a' := ?_) #[true, true, true, false, false, false, false, false, false, false, false, false, false, false, false] rfl rfl (by kernel_rfl) (fun _ _ _ h => h) (Or.inl ⟨by rfl, ?_⟩) ?_ ?_
   rotate_left
   ·
    intro w'
    go_simp
    with_reducible rfl
   rotate_left
   ·
    simp only [Act.put, List.setIfInBounds_toArray, List.set_cons_zero, List.set_cons_succ, i64_w, i32_w]
    rfl
   refine pure_ (i := 3) (N := (some 25)) (v := ?_) (a' := ?_) #[true, true, true, true, false, false, false, false, false, false, false, false, false, false, false] rfl rfl (by kernel_rfl) (fun _ _ _ h => h) (Or.inl ⟨by rfl, ?_⟩) ?_ ?_
   rotate_left
   ·
    intro w'
    go_simp
    with_reducible rfl
   rotate_left
   ·
    simp only [Act.put, List.setIfInBounds_toArray, List.set_cons_zero, List.set_cons_succ, i64_w, i32_w]
    rfl
   refine take_ (i := 4) (N := (some 26)) (v := ?_) (a' := ?_) #[true, true, true, true, true, false, false, false, false, false, false, false, false, false, false] rfl rfl (by kernel_rfl) (fun _ _ _ h => h) (Or.inl ⟨by rfl, ?_⟩) hHeld ?_ ?_
   rotate_left
   ·
    intro w' sb_
    have s0_ : w'.cell? ⟨g, 0, none⟩ = some (.slice A0 ns.length c0) := (blk_cell sb_.1 0).trans rfl
    clear sb_
    go_simp
    with_reducible rfl
   rotate_left
   ·
    simp only [Act.put, List.setIfInBounds_toArray, List.set_cons_zero, List.set_cons_succ, i64_w, i32_w]
    rfl
   refine pure_ (i := 5) (N := (some 27)) (v := ?_) (a' := ?_) #[true, true, true, true, true, true, false, false, false, false, false, false, false, false, false] rfl rfl (by kernel_rfl) (fun _ _ _ h => h) (Or.inl ⟨by rfl, ?_⟩) ?_ ?_
   rotate_left
   ·
    intro w'
    go_simp
    with_reducible rfl
   rotate_left
   ·
    simp only [Act.put, List.setIfInBounds_toArray, List.set_cons_zero, List.set_cons_succ, i64_w, i32_w]
    rfl
   refine pure_ (i := 6) (N := (some 28)) (v := ?_) (a' := ?_) #[true, true, true, true, true, true, true, false, false, false, false, false, false, false, false] rfl rfl (by kernel_rfl) (fun _ _ _ h => h) (Or.inl ⟨by rfl, ?_⟩) ?_ ?_
   rotate_left
   ·
    intro w'
    go_simp
    with_reducible rfl
   rotate_left
   ·
    simp only [Act.put, List.setIfInBounds_toArray, List.set_cons_zero, List.set_cons_succ, i64_w, i32_w]
    rfl
   refine pure_ (i := 7) (N := (some 29)) (v := ?_) (a' := ?_) #[true, true, true, true, true, true, true, true, false, false, false, false, false, false, false] rfl rfl (by kernel_rfl) (fun _ _ _ h => h) (Or.inl ⟨by rfl, ?_⟩) ?_ ?_
   rotate_left
   ·
    intro w'
    go_simp
    with_reducible rfl
   rotate_left
   ·
    simp only [Act.put, List.setIfInBounds_toArray, List.set_cons_zero, List.set_cons_succ, i64_w, i32_w]
    rfl
   refine take_ (i := 8) (N := (some 30)) (v := ?_) (a' := ?_) #[true, true, true, true, true, true, true, true, true, false, false, false, false, false, false] rfl rfl (by kernel_rfl) (fun _ _ _ h => h) (Or.inl ⟨by rfl, ?_⟩) hHeld ?_ ?_
   rotate_left
   ·
    intro w' sb_
    have s0_ := pw_cell_below sb_.2 hx0
    have s1_ := pw_cell_below sb_.2 hx1
    have s2_ := pw_cell_below sb_.2 hx2
    clear sb_
    go_simp
    with_reducible rfl
   rotate_left
   ·
    simp only [Act.put, List.setIfInBounds_toArray, List.set_cons_zero, List.set_cons_succ, i64_w, i32_w]
    rfl
   refine pure_ (i := 9) (N := (some 31)) (v := ?_) (a' := ?_) #[true, true, true, true, true, true, true, true, true, true, false, false, false, false, false] rfl rfl (by kernel_rfl) (fun _ _ _ h => h) (Or.inl ⟨by rfl, ?_⟩) ?_ ?_
   rotate_left
   ·
    intro w'
    go_simp
    with_reducible rfl
   rotate_left
   ·
    simp only [Act.put, List.setIfInBounds_toArray, List.set_cons_zero, List.set_cons_succ, i64_w, i32_w]
    rfl
   refine one_ (i := 10) (N := (some 32)) #[true, true, true, true, true, true, true, true, true, true, true, false, false, false, false] rfl rfl (by kernel_rfl) (by decide) (fun K hK => ?_)
   refine Kd.R_lit_step k74 _ 74 ?hg (N := 32) ?hd (xs := [(⟨x.f0, 0, 0⟩ : S74)]) (inner := [.int .i64 x.f0.f0, .int .i64 x.f0.f1, .int .i64 x.f0.f2, .int .i64 0, .int .i64 0]) (ok := fun _ => True) (okp := fun _ => True) ?hr ?hp (fun _ hk => hk) trivial (Below.refl _ _) (Nat.le_refl _) (by simp) ?_; (case hd => rfl); (case hg => rfl); (case hr => first | (go_simp; done) | (go_simp; rfl)); (case hp => exact ⟨by simp; rfl, fun j p hj => by cases j with | zero => (simp only [List.getElem?_cons_zero, Option.some.injEq] at hj; subst hj; exact k74_mkM _ _ _ _) | succ j => simp at hj⟩)
   intro v32 w1 hl hb hg_ hnew_
   clear hg_ hnew_
   have bk1 := Aside0.mk (blk_below (blk_drew bk.out) hb)
   have HB1 : Aside0 (Below w0.heap.size w0 w1) := ⟨below_then (below_drew HB.out) HB.out.size hb⟩
   have n1_ := Aside0.mk (Kd.R_elder' (Kd.R_drew hR.out) (Kd.R_base hl) hb)
   have n2_ := Aside0.mk (Kd.R_lower (Kd.R_new' hl (Kd.R_lt (Kd.R_drew hR.out))) HB.out.size)
   clear hl hb
   refine hK.out _ _ ⟨bk1.out, HB1.out⟩ (fun hHeld => ?_)
   clear hK K
   refine norm_ (a' := ?_) ?_ ?_
   rotate_left
   ·
    show Act.put _ (some 32) _ = _
    simp only [Act.put, List.setIfInBounds_toArray, List.set_cons_zero, List.set_cons_succ, i64_w, i32_w]
    rfl
   obtain ⟨A2, c2, e2⟩ := Kd.R_slice n2_.out
   subst e2
   refine one_ (i := 11) (N := (some 33)) #[true, true, true, true, true, true, true, true, true, true, true, true, false, false, false] rfl rfl (by kernel_rfl) (by decide) (fun K hK => ?_)
   refine Kd.R_append_rows_step k74 w0.heap.size (by rfl) (.tmp 26) (.tmp 32) 51 74 (.agg #[(.int .i64 0), (.int .i64 0), (.int .i64 0), (.int .i64 0), (.int .i64 0)]) 40 rfl Tryz.underlying51 info74t rfl (by decide) (by omega) _ ns [(⟨x.f0, 0, 0⟩ : S74)] _ _ _ (fun k_ => some k_ ≠ (.slice A2 [(⟨x.f0, 0, 0⟩ : S74)].length c2 : Value).ownBlock) (fun _ => False) rfl rfl (Kd.R_mono n1_.out (fun _ hk => hk.2)) (Kd.R_reads' n2_.out).2.2 (fun _ _ h => h) (fun _ h => h.elim) (fun k_ hk => Kd.fresh' (Kd.R_lt n2_.out) k_ hk) (Below.refl _ _) HB1.out.size ?aL ?_
   (case aL => have := hlen.out; simp only [List.length_cons, List.length_nil]; omega)
   intro v33 w2 ho hb hg hat
   rw [← HN1.out] at ho
   have bk2 := Aside0.mk (blk_grown bk1.out hg (Kd.R_ne n1_.out bk1.out (by decide)))
   have HB2 : Aside0 (Below w0.heap.size w0 w2) := ⟨below_weaken HB1.out (Nat.le_refl _) hb⟩
   have HO := Aside0.mk (Kd.R_mono (ok' := fun _ => True) ho (fun _ _ => trivial))
   clear ho hb hg hat n1_ n2_
   refine hK.out _ _ ⟨bk2.out, HB2.out⟩ (fun hHeld => ?_)
   clear hK K
   refine norm_ (a' := ?_) ?_ ?_
   rotate_left
   ·
    show Act.put _ (some 33) _ = _
    simp only [Act.put, List.setIfInBounds_toArray, List.set_cons_zero, List.set_cons_succ, i64_w, i32_w]
    rfl
   refine pure_ (i := 12) (N := (some 34)) (v := ?_) (a' := ?_) #[true, true, true, true, true, true, true, true, true, true, true, true, true, false, false] rfl rfl (by kernel_rfl) (fun _ _ _ h => h) (Or.inl ⟨by rfl, ?_⟩) ?_ ?_
   rotate_left
   ·
    intro w'
    go_simp
    with_reducible rfl
   rotate_left
   ·
    simp only [Act.put, List.setIfInBounds_toArray, List.set_cons_zero, List.set_cons_succ, i64_w, i32_w]
    rfl
   refine pure_ (i := 13) (N := (some 35)) (v := ?_) (a' := ?_) #[true, true, true, true, true, true, true, true, true, true, true, true, true, true, false] rfl rfl (by kernel_rfl) (fun _ _ _ h => h) (Or.inl ⟨by rfl, ?_⟩) ?_ ?_
   rotate_left
   ·
    intro w'
    go_simp
    with_reducible rfl
   rotate_left
   ·
    simp only [Act.put, List.setIfInBounds_toArray, List.set_cons_zero, List.set_cons_succ, i64_w, i32_w]
    rfl
   refine last_ (i := 14) (N := none) #[true, true, true, true, true, true, true, true, true, true, true, true, true, true, true] rfl rfl (by kernel_rfl) (by decide) (fun K hK => ?_)
   clear hHeld
   obtain ⟨A3, c3, e3⟩ := Kd.R_slice HO.out
   subst e3
   have hcs : w2.cell? ⟨g, 0, none⟩ = some (.slice A0 ns.length c0) := (blk_cell bk2.out 0).trans rfl
   have hfs : w2.frozen? ⟨g, 0, none⟩ = false := blk_frozen bk2.out 0
   refine skip_ (w1 := ?_) (by rfl) rfl ?_ ?_
   rotate_left
   ·
    go_simp
    rfl
   refine hK.out _ _ ?_
   clear hK K
   refine done_ (by kernel_rfl) ?_
   have HI3 : Aside0 (IsS53 w0 (w2.setCell ⟨g, 0, none⟩ (.slice A3 ns1.length c3)) g ns1 top) := ⟨⟨A3, c3, blk_put (cs := #[.slice A0 ns.length c0, .int .i64 top]) bk2.out 0 _ rfl, ge.out, Kd.R_mono (ok' := fun _ => True) (Kd.R_far (p := ⟨g, 0, none⟩) (Kd.R_types HO.out bk2.out (by decide)) (fun _ hk => hk.2) _) (fun _ _ => trivial)⟩⟩
   have HB3 : Aside0 (Below w0.heap.size w0 (w2.setCell ⟨g, 0, none⟩ (.slice A3 ns1.length c3))) := ⟨below_set HB2.out ge.out⟩
   clear hcs hfs HO bk1 HB1 HB2
   generalize w2.setCell ⟨g, 0, none⟩ (.slice A3 ns1.length c3) = w3 at HI3 HB3 ⊢
   clear bk2
   go_wp2_with (first
    | (go_at_call_of 37 y1; with_reducible refine (IH1.out _ ns1 ?side0 ?side1 ?side2).mono ?_; (case side0 => exact HL1.out); (case side1 => exact HB3.out); (case side2 => exact HI3.out); rintro e w4 ⟨rfl, hi4, hb4⟩; have HI4 := Aside0.mk hi4; have HB4 := Aside0.mk hb4; clear hi4 hb4)
    | (go_at_call_of 37 y2; with_reducible refine (IH2.out _ (ns1 ++ lay ns1.length t1) ?side0 ?side1 ?side2).mono ?_; (case side0 => exact HL2.out); (case side1 => exact HB4.out); (case side2 => exact HI4.out); rintro e w5 ⟨rfl, hi5, hb5⟩; rw [← HN3.out] at hi5; have HB5 := Aside0.mk hb5; have hi5_ := Aside0.mk hi5; clear hi5 hb5; obtain ⟨A5, c5, bk5, _, hR5⟩ := IsS53.open_ hi5_.out; obtain ⟨g5, cap5, e5, gb5, gl5, cl5, HG5⟩ := Kd.R_form hR5 HP3.out; simp only [Value.slice.injEq, true_and] at e5; obtain ⟨ea_, ec_⟩ := e5; subst ea_; subst ec_; have RR5 := Aside0.mk hR5; have BK5 := Aside0.mk bk5; have NE5 := Aside0.mk (Kd.R_ne hR5 bk5 (by decide)); have GB5 := Aside0.mk gb5; have hb5_0 := blk_cell bk5 0; simp only [List.getElem?_toArray, List.getElem?_cons_zero, List.getElem?_cons_succ] at hb5_0; obtain ⟨hx5, hf5, _, _⟩ := k74_at hR5 ns.length HQ3.out; clear gb5 gl5 cl5 HG5 hR5 bk5)
    | ((with_reducible refine gate_store (t := 3) (p := 53) rfl ?_); refine store_event (t := 3) (p := 53) (v := ?vo_6) (w1 := (w5.setCell ⟨g5, ns.length * 5 + 3, none⟩ (.int .i64 (topO ns1.length t1)))) ?hg ?ho ?hn ?hr ?_; (case ho => rfl); (case hg => rfl); (case hn => rfl); (case hr => first | (go_simp; done) | (go_simp; rfl)); intro w6 hw; have hR6 : Kd.R k74 74 w6 w0.heap.size (fun _ => True) (.slice (some ⟨g5, 0, none⟩) ns3.length c5) (ns3.set ns.length ⟨(rd_T74 ns3 ns.length).f0, topO ns1.length t1, (rd_T74 ns3 ns.length).f2⟩) := (by rw [hw]; exact k74_set1 RR5.out ns.length HQ3.out _); have bk6 : w6.heap[g]? = some (.cells #[.slice (some ⟨g5, 0, none⟩) ns3.length c5, .int .i64 top] 53 (0, 0)) := (by rw [hw]; exact blk_far BK5.out (fun e_ => NE5.out (by rw [e_]; rfl)) _); have HB6 : Aside0 (Below w0.heap.size w0 w6) := ⟨by rw [hw]; exact below_set HB5.out GB5.out⟩; have hb6_0 := blk_cell bk6 0; simp only [List.getElem?_toArray, List.getElem?_cons_zero, List.getElem?_cons_succ] at hb6_0; clear hw hx5 hf5 hb5_0; obtain ⟨_, _, hx6, hf6⟩ := k74_at hR6 ns.length HQ3.out; have RR6 := Aside0.mk hR6; have BK6 := Aside0.mk bk6; clear hR6 bk6)
    | ((with_reducible refine gate_store (t := 3) (p := 61) rfl ?_); refine store_event (t := 3) (p := 61) (v := ?vo_7) (w1 := (w6.setCell ⟨g5, ns.length * 5 + 4, none⟩ (.int .i64 (topO (ns1.length + (lay ns1.length t1).length) t2)))) ?hg ?ho ?hn ?hr ?_; (case ho => rfl); (case hg => rfl); (case hn => rfl); (case hr => first | (go_simp; done) | (go_simp; rfl)); intro w7 hw; have hR7 := Aside0.mk (show Kd.R k74 74 w7 w0.heap.size (fun _ => True) (.slice (some ⟨g5, 0, none⟩) ns3.length c5) ((ns3.set ns.length ⟨(rd_T74 ns3 ns.length).f0, topO ns1.length t1, (rd_T74 ns3 ns.length).f2⟩).set ns.length _) from (by rw [hw]; exact k74_set2 RR6.out ns.length HQ3.out _)); have bk7 : w7.heap[g]? = some (.cells #[.slice (some ⟨g5, 0, none⟩) ns3.length c5, .int .i64 top] 53 (0, 0)) := (by rw [hw]; exact blk_far BK6.out (fun e_ => NE5.out (by rw [e_]; rfl)) _); have HB7 : Aside0 (Below w0.heap.size w0 w7) := ⟨by rw [hw]; exact below_set HB6.out GB5.out⟩; have BK7 := Aside0.mk bk7; clear hw hx6 hf6 hb6_0 bk7))
   go_ret
   refine ⟨rfl, ?_, HB7.out⟩
   have hfin := HFIN.out
   rw [← hfin]
   exact ⟨_, c5, by simpa using BK7.out, ge.out, by simpa using hR7.out⟩
  ·
   rw [if_neg cc] at ht
   cases ht
theorem IsS53.lower {w0 w1 W : World} {g : Nat} {f0 : List S74} {f1 : Int} (h : IsS53 w1 W g f0 f1) (hs : w0.heap.size ≤ w1.heap.size) : IsS53 w0 W g f0 f1 := by
 obtain ⟨A0, c0, h1, h2, h3⟩ := h
 exact ⟨A0, c0, h1, Nat.le_trans hs h2, Kd.R_lower h3 hs⟩
theorem IsS53.top {w0 W : World} {g : Nat} {f0 : List S74} {f1 : Int} (h : IsS53 w0 W g f0 f1) (x : Int) : IsS53 w0 (W.setCell ⟨g, 1, none⟩ (.int .i64 x)) g f0 x := by
 obtain ⟨A0, c0, h1, h2, h3⟩ := h
 exact ⟨A0, c0, blk_put (cs := #[.slice A0 f0.length c0, .int .i64 f1]) h1 1 _ rfl, h2, Kd.R_mono (ok' := fun _ => True) (Kd.R_far (p := ⟨g, 1, none⟩) (Kd.R_types h3 h1 (by decide)) (fun _ hk => hk.2) _) (fun _ _ => trivial)⟩
theorem IsS53.new0 {w w1 : World} {gb : Nat} (h : w1.heap[gb]? = some (.cells #[.slice none 0 0, .int .i64 0] 53 (0, 0))) (hg : w.heap.size ≤ gb) : IsS53 w w1 gb [] 0 := ⟨none, 0, h, hg, Kd.R_nil _ _ _ _ _⟩
def spec_l04Read.f (l0_0 : List S46) : Option (List S74 × Int) := if l0_0.length ≤ 60 ∧ (trd 60 l0_0).2 = true then some (lay 0 (trd 60 l0_0).1, topO 0 (trd 60 l0_0).1) else none
set_option maxHeartbeats 4000000 in
set_option maxRecDepth 100000 in
theorem spec_l04Read.calls (A0_0 : Option Addr) (c0_0 : Nat) (l0_0 : List S46) (r1 : List S74) (r2 : Int) (w0 w : World) (hB : Below w0.heap.size w0 w) (hr0_0 : Kd.C k46 w0 A0_0 l0_0.length l0_0) (hc0_0 : l0_0.length ≤ c0_0) (h : spec_l04Read.f l0_0 = some (r1, r2)) :
  Calls Tryz.prog 17 #[.agg #[.slice A0_0 l0_0.length c0_0]] w fun e w' => ∃ g_ : Nat, e = .returned (.pointer (some ⟨g_, 0, none⟩)) ∧ IsS53 w0 w' g_ r1 r2 ∧ Below w0.heap.size w0 w' ∧ Below w.heap.size w w' := by
 have hu30 := Tryz.underlying30
 unfold spec_l04Read.f at h
 by_cases hh : l0_0.length ≤ 60 ∧ (trd 60 l0_0).2 = true
 ·
  rw [if_pos hh] at h
  simp only [Option.some.injEq, Prod.mk.injEq] at h
  obtain ⟨rfl, rfl⟩ := h
  obtain ⟨h60, ht⟩ := hh
  have hrw : Kd.C k46 w A0_0 l0_0.length l0_0 := Kd.C_below hr0_0 hB
  have HB := Aside0.mk hB
  have IH := Aside0.mk (fun g top => wread_calls 60 A0_0 c0_0 l0_0 g top w h60 ht hrw hc0_0)
  have HLN := Aside0.mk h60
  clear hB hr0_0 hrw
  generalize trd 60 l0_0 = t at IH ⊢
  obtain ⟨t, o⟩ := t
  simp only at IH ⊢
  have HSZ : Aside0 (w0.heap.size ≤ w.heap.size) := ⟨HB.out.size⟩
  clear ht h60 hc0_0
  go_enter Tryz.func17, Tryz.ntmps17
  go_wp2_with (first
   | ((with_reducible refine gate_dst (N := 5) rfl ?_); refine box_event ?hg (N := 5) ?hd (cs := #[.slice none 0 0, .int .i64 0]) (t := 53) ?hr ?_; (case hd => rfl); (case hg => rfl); (case hr => first | (go_simp; done) | (go_simp; rfl)); intro gb hgb w1 hbox hb1; have bX := Aside0.mk hbox; have HB1 : Aside0 (Below w.heap.size w w1) := ⟨below_step (below_alloc (Below.refl _ _) _) hb1⟩; have HG := Aside0.mk (hb1.size); have hl1 := (blk_cell (blk_below (blk_new w (.cells #[.slice A0_0 l0_0.length c0_0] 30)) hb1) 0); simp only [List.getElem?_toArray, List.getElem?_cons_zero, List.getElem?_cons_succ] at hl1; have HGE : Aside0 (w.heap.size ≤ gb) := ⟨by rw [hgb]; simp⟩; clear hbox hb1 hgb)
   | (go_at_call 37; with_reducible refine (IH.out gb 0 _ [] ?side0 ?side1 ?side2).mono ?_; (case side0 => have := HLN.out; simp; omega); (case side1 => exact HB1.out); (case side2 => exact IsS53.new0 bX.out HGE.out); rintro e w2 ⟨rfl, hi, hb⟩; have HI := Aside0.mk hi; have HB2 := Aside0.mk hb; obtain ⟨A5, c5, bk5, _, _⟩ := IsS53.open_ hi; have hb5_1 := blk_cell bk5 1; have hf5_1 := blk_frozen bk5 1; simp only [List.getElem?_toArray, List.getElem?_cons_zero, List.getElem?_cons_succ] at hb5_1; clear hi hb bk5))
  go_ret
  refine ⟨gb, rfl, ?_, ?_, ?_⟩
  ·
   have h_ := (HI.out.top (topO 0 t)).lower HSZ.out
   simpa using h_
  ·
   exact below_set (below_then HB.out HB.out.size HB2.out) (Nat.le_trans HSZ.out HGE.out)
  ·
   exact below_set HB2.out HGE.out
 ·
  rw [if_neg hh] at h
  cases h
def unlay : Nat → List S74 → Int → Option Tr
 | 0, _, _ => none
 | k + 1, ns, a => if a < 0 then some .nil else if a < ns.length then (unlay k ns (rd_T74 ns a).f1).bind fun l => (unlay k ns (rd_T74 ns a).f2).bind fun r => some (.node (rd_T74 ns a).f0 l r) else none
theorem unlay_rep : ∀ (k : Nat) (ns : List S74) (a : Int) (t : Tr), unlay k ns a = some t → Rep ns t a
 | 0, _, _, _, h => by cases h
 | k + 1, ns, a, t, h => by
  rw [unlay] at h
  split at h
  ·
   rename_i h0
   obtain rfl := Option.some.inj h
   exact h0
  ·
   rename_i h0
   split at h
   ·
    rename_i h1
    obtain ⟨l, hl, h⟩ := Option.bind_eq_some_iff.1 h
    obtain ⟨r, hr, h⟩ := Option.bind_eq_some_iff.1 h
    obtain rfl := Option.some.inj h
    exact ⟨by omega, h1, rfl, unlay_rep k ns _ l hl, unlay_rep k ns _ r hr⟩
   ·
    cases h
theorem rep_unlay : ∀ (k : Nat) (ns : List S74) (a : Int) (t : Tr), Rep ns t a → t.sz < k → unlay k ns a = some t
 | 0, _, _, _, _, h => absurd h (Nat.not_lt_zero _)
 | k + 1, ns, a, .nil, h, _ => by rw [unlay, if_pos (show a < 0 from h)]
 | k + 1, ns, a, .node x l r, ⟨h0, h1, hx, hl, hr⟩, hk => by
  simp only [Tr.sz] at hk
  rw [unlay, if_neg (by omega), if_pos h1, rep_unlay k ns _ l hl (by omega), Option.bind_some, rep_unlay k ns _ r hr (by omega), Option.bind_some, hx]

end Go.Proofs.YtenlceojmjkbkaaGreat.XFnExactTreeTake
