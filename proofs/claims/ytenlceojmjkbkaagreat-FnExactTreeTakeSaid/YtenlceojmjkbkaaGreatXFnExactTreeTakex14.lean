/- Functions that FnExactTreeTake comes to, as Lean functions with their contracts: written by the prover's own program (wip/tpl/myprint.py) over the kit's printer, some contracts by hand. Conditions: none. -/
import Derived.Test.YtenlceojmjkbkaaGreatXFnExactTreeTakex0
import Derived.Test.YtenlceojmjkbkaaGreatXFnExactTreeTakex1
import Derived.Test.YtenlceojmjkbkaaGreatXFnExactTreeTakex6
import Derived.Test.YtenlceojmjkbkaaGreatXFnExactTreeTakex7
import Derived.Test.YtenlceojmjkbkaaGreatXFnExactTreeTakex11
import Derived.Test.YtenlceojmjkbkaaGreatXFnExactTreeTakex12
import Derived.Test.YtenlceojmjkbkaaGreatXFnExactTreeTakex13
namespace Go.Proofs.YtenlceojmjkbkaaGreat.XFnExactTreeTake
open Go.RowKit Go.Proofs.YtenlceojmjkbkaaGreatW.PrintWords Go.Proofs.YtenlceojmjkbkaaGreatW.PrintLast Go.Proofs.YtenlceojmjkbkaaGreatW.PrintMore
attribute [local go_sem] max2_int min2_int max_two min_two max_three min_three max_four min_four   -- for this text's walks alone
set_option linter.unusedVariables false
set_option linter.unusedSimpArgs false

/-! ### laws_FnExactTreeTake: function 3 -/
def laws_FnExactTreeTake.j0 : Nat → Bool → List (S81) → Int → Int → Int → List (S46) → Int → Int → List (S46) → Int → Int → Option (Bool)
 | 0, _, _, _, _, _, _, _, _, _, _, _ => none
 | k + 1, x48, x267000, x268000, x268001, x268002, x281000, x281001, x281002, x294000, x294001, x294002 => if x48 = true then (some false) else ((laws_markTreeOut.f k x294000 x294001 x294002 1).bind fun bt302 => ((laws_heldTreeOut.f k bt302.2 x294001 x294002 1).bind fun t304 => (if t304 < 0 then (some false) else (if t304 = bt302.1 then ((laws_toTree.f k x267000).bind fun t305 => ((laws_toItem.f x268000 x268001 x268002).bind fun bt308 => ((impl_TreeTake.f t305 bt308.1 bt308.2.1 bt308.2.2).bind fun bt311 => ((laws_eqTreeOut.f k bt311.1 bt311.2.1 bt311.2.2 x281000 x281001 x281002).bind fun t317 => (if t317 = true then ((laws_heldTreeOut.f k bt302.2 x294001 x294002 1).bind fun t318 => (if t318 < 0 then (some false) else (if t318 = bt302.1 then (some true) else (some false)))) else (some false)))))) else (some false)))))
def laws_FnExactTreeTake.f (k : Nat) (l0_0 : List (S81)) (a1_0 : Int) (a1_1 : Int) (a1_2 : Int) : Option (Bool) := (laws_szTree.f l0_0 1048576).bind fun t268 => (if t268 < 0 then (some true) else ((laws_toTree.f k l0_0).bind fun t269 => ((laws_toItem.f a1_0 a1_1 a1_2).bind fun bt272 => ((spec_TreeTake.f t269 bt272.1 bt272.2.1 bt272.2.2).bind fun bt275 => ((laws_toTree.f k l0_0).bind fun t281 => ((laws_toItem.f a1_0 a1_1 a1_2).bind fun bt285 => ((impl_TreeTake.f t281 bt285.1 bt285.2.1 bt285.2.2).bind fun bt288 => ((laws_eqTreeOut.f k bt288.1 bt288.2.1 bt288.2.2 bt275.1 bt275.2.1 bt275.2.2).bind fun t294 => (if t294 = true then ((laws_toTree.f k l0_0).bind fun t295 => ((laws_eqTree.f k t281 t295).bind fun t298 => (if t298 = true then ((laws_markTree.f k t281 1).bind fun bt299 => (if bt299.1 < 0 then (laws_FnExactTreeTake.j0 k true l0_0 a1_0 a1_1 a1_2 bt275.1 bt275.2.1 bt275.2.2 bt288.1 bt288.2.1 bt288.2.2) else ((laws_eqTreeOut.f k bt288.1 bt288.2.1 bt288.2.2 bt275.1 bt275.2.1 bt275.2.2).bind fun t301 => (laws_FnExactTreeTake.j0 k (!t301) l0_0 a1_0 a1_1 a1_2 bt275.1 bt275.2.1 bt275.2.2 bt288.1 bt288.2.1 bt288.2.2)))) else (some false)))) else (some false))))))))))
set_option maxHeartbeats 8000000 in
set_option maxRecDepth 100000 in
theorem laws_FnExactTreeTake.calls (k : Nat) (A0_0 : Option Addr) (c0_0 : Nat) (l0_0 : List (S81)) (a1_0 : Int) (a1_1 : Int) (a1_2 : Int) (r : Bool) (w : World) (hr0_0 : Kd.C k81 w A0_0 l0_0.length l0_0) (hc0_0 : l0_0.length ≤ c0_0) (h : laws_FnExactTreeTake.f k l0_0 a1_0 a1_1 a1_2 = some r) (ht_ : r = true) :
  Calls Tryz.prog 3 #[.agg #[.slice A0_0 l0_0.length c0_0], .agg #[.int .i64 a1_0, .int .i64 a1_1, .int .i64 a1_2]] w fun e w' => e = .returned (.bool r) ∧ Below w.heap.size w w' := by
 have hu24 := Tryz.underlying24
 have hu26 := Tryz.underlying26
 have hu32 := Tryz.underlying32
 have hu30 := Tryz.underlying30
 have HTRUE_ := Aside0.mk ht_
 clear ht_
 have HR0_0 := Aside0.mk hr0_0
 have HC0_0 := Aside0.mk hc0_0
 clear hr0_0 hc0_0
 have HB := Aside0.mk (Below.refl w.heap.size w)
 have H : ((laws_szTree.f l0_0 1048576).bind fun t268 => (if t268 < 0 then (some true) else ((laws_toTree.f k l0_0).bind fun t269 => ((laws_toItem.f a1_0 a1_1 a1_2).bind fun bt272 => ((spec_TreeTake.f t269 bt272.1 bt272.2.1 bt272.2.2).bind fun bt275 => ((laws_toTree.f k l0_0).bind fun t281 => ((laws_toItem.f a1_0 a1_1 a1_2).bind fun bt285 => ((impl_TreeTake.f t281 bt285.1 bt285.2.1 bt285.2.2).bind fun bt288 => ((laws_eqTreeOut.f k bt288.1 bt288.2.1 bt288.2.2 bt275.1 bt275.2.1 bt275.2.2).bind fun t294 => (if t294 = true then ((laws_toTree.f k l0_0).bind fun t295 => ((laws_eqTree.f k t281 t295).bind fun t298 => (if t298 = true then ((laws_markTree.f k t281 1).bind fun bt299 => (if bt299.1 < 0 then (laws_FnExactTreeTake.j0 k true l0_0 a1_0 a1_1 a1_2 bt275.1 bt275.2.1 bt275.2.2 bt288.1 bt288.2.1 bt288.2.2) else ((laws_eqTreeOut.f k bt288.1 bt288.2.1 bt288.2.2 bt275.1 bt275.2.1 bt275.2.2).bind fun t301 => (laws_FnExactTreeTake.j0 k (!t301) l0_0 a1_0 a1_1 a1_2 bt275.1 bt275.2.1 bt275.2.2 bt288.1 bt288.2.1 bt288.2.2)))) else (some false)))) else (some false))))))))))) = some r := h
 clear h
 replace H := Option.bind_eq_some_iff.mp H
 obtain ⟨t268, A30, H⟩ := H
 replace H : (if t268 < 0 then (some true) else ((laws_toTree.f k l0_0).bind fun t269 => ((laws_toItem.f a1_0 a1_1 a1_2).bind fun bt272 => ((spec_TreeTake.f t269 bt272.1 bt272.2.1 bt272.2.2).bind fun bt275 => ((laws_toTree.f k l0_0).bind fun t281 => ((laws_toItem.f a1_0 a1_1 a1_2).bind fun bt285 => ((impl_TreeTake.f t281 bt285.1 bt285.2.1 bt285.2.2).bind fun bt288 => ((laws_eqTreeOut.f k bt288.1 bt288.2.1 bt288.2.2 bt275.1 bt275.2.1 bt275.2.2).bind fun t294 => (if t294 = true then ((laws_toTree.f k l0_0).bind fun t295 => ((laws_eqTree.f k t281 t295).bind fun t298 => (if t298 = true then ((laws_markTree.f k t281 1).bind fun bt299 => (if bt299.1 < 0 then (laws_FnExactTreeTake.j0 k true l0_0 a1_0 a1_1 a1_2 bt275.1 bt275.2.1 bt275.2.2 bt288.1 bt288.2.1 bt288.2.2) else ((laws_eqTreeOut.f k bt288.1 bt288.2.1 bt288.2.2 bt275.1 bt275.2.1 bt275.2.2).bind fun t301 => (laws_FnExactTreeTake.j0 k (!t301) l0_0 a1_0 a1_1 a1_2 bt275.1 bt275.2.1 bt275.2.2 bt288.1 bt288.2.1 bt288.2.2)))) else (some false)))) else (some false)))))))))) = some r := H
 have A3 := Aside0.mk A30
 clear A30
 by_cases c4 : t268 < 0
 ·
  rw [if_pos c4] at H
  have c4b0 : decide (t268 < 0) = true := decide_eq_true c4
  clear c4
  obtain rfl := Option.some.inj H
  go_enter Tryz.func3, Tryz.ntmps3
  go_wp2_with (first | ((with_reducible refine gate_dst (N := 2) rfl ?_); refine box_event ?hg (N := 2) ?hd (cs := #[.slice A0_0 l0_0.length c0_0]) (t := 24) ?hr ?_; (case hd => rfl); (case hg => rfl); (case hr => first | (go_simp; done) | (go_simp; rfl)); intro gb266 hg w5 hbox hb; have n0_ := Aside0.mk (below_step bl_ hb); have n1_ := Aside0.mk (hbox); have n2_ := Aside0.mk ((by rw [hg]; exact (below_size bl_) : w.heap.size ≤ gb266)); have n3_ := Aside0.mk ((by rw [hg]; exact (below_size bl_) : w.heap.size ≤ gb266)); clear HB; have HB := n0_; have BK266 := n1_; have GW266 := n2_; have GE266 := n3_; clear n0_ n1_ n2_ n3_; clear hb hbox hg) | ((with_reducible refine gate_dst (N := 3) rfl ?_); refine box_event ?hg (N := 3) ?hd (cs := #[.int .i64 a1_0, .int .i64 a1_1, .int .i64 a1_2]) (t := 26) ?hr ?_; (case hd => rfl); (case hg => rfl); (case hr => first | (go_simp; done) | (go_simp; rfl)); intro gb267 hg w6 hbox hb; have n0_ := Aside0.mk (blk_below (up_ BK266.out) hb); have n1_ := Aside0.mk (below_step bl_ hb); have n2_ := Aside0.mk (hbox); have n3_ := Aside0.mk ((by rw [hg]; exact (below_size bl_) : w.heap.size ≤ gb267)); have n4_ := Aside0.mk ((by rw [hg]; exact (below_size bl_) : w.heap.size ≤ gb267)); have n5_ := Aside0.mk ((by rw [hg]; exact Nat.ne_of_lt (blk_lt (up_ BK266.out)) : gb266 ≠ gb267)); have n6_ := Aside0.mk ((by rw [hg]; exact Nat.ne_of_gt (blk_lt (up_ BK266.out)) : gb267 ≠ gb266)); clear BK266; clear HB; have BK266 := n0_; have HB := n1_; have BK267 := n2_; have GW267 := n3_; have GE267 := n4_; have NB266_267 := n5_; have NB267_266 := n6_; clear n0_ n1_ n2_ n3_ n4_ n5_ n6_; clear hb hbox hg; have hnb7 := NB266_267.out; have hnc7 := NB267_266.out; have hcz8_0 : w6.cell? ⟨gb266, 0, none⟩ = some (.slice A0_0 l0_0.length c0_0) := (blk_cell BK266.out 0).trans rfl; have hfz8_0 := blk_frozen BK266.out 0) | ((with_reducible refine gate_callee (f := 4) rfl ?_); refine gL_ (some 15) Tryz.func4 #[.agg #[.slice A0_0 l0_0.length c0_0], .int .i64 1048576] ?_; (with_reducible refine (laws_szTree.calls _ _ l0_0 1048576 t268 _ ?side1 ?side2 A3.out).mono ?_); (case side1 => exact Kd.C_below HR0_0.out bl_); (case side2 => exact HC0_0.out); rintro e w9 ⟨rfl, hb⟩; refine ⟨_, rfl, ?_⟩; have n0_ := Aside0.mk (blk_below (up_ BK266.out) hb); have n1_ := Aside0.mk (blk_below (up_ BK267.out) hb); have n2_ := Aside0.mk (below_step bl_ hb); clear BK266; clear BK267; clear HB; have BK266 := n0_; have BK267 := n1_; have HB := n2_; clear n0_ n1_ n2_; (try clear hb); (try clear hb2); (try clear hk); (try clear hi)))
  go_ret
  exact ⟨by first | rfl | (simp [errW_none, errW_some] <;> rfl) | (simp [*, errW_none, errW_some] <;> rfl), bl_⟩
 ·
  rw [if_neg c4] at H
  have c4b0 : decide (t268 < 0) = false := decide_eq_false c4
  clear c4
  replace H := Option.bind_eq_some_iff.mp H
  obtain ⟨t269, A100, H⟩ := H
  replace H : ((laws_toItem.f a1_0 a1_1 a1_2).bind fun bt272 => ((spec_TreeTake.f t269 bt272.1 bt272.2.1 bt272.2.2).bind fun bt275 => ((laws_toTree.f k l0_0).bind fun t281 => ((laws_toItem.f a1_0 a1_1 a1_2).bind fun bt285 => ((impl_TreeTake.f t281 bt285.1 bt285.2.1 bt285.2.2).bind fun bt288 => ((laws_eqTreeOut.f k bt288.1 bt288.2.1 bt288.2.2 bt275.1 bt275.2.1 bt275.2.2).bind fun t294 => (if t294 = true then ((laws_toTree.f k l0_0).bind fun t295 => ((laws_eqTree.f k t281 t295).bind fun t298 => (if t298 = true then ((laws_markTree.f k t281 1).bind fun bt299 => (if bt299.1 < 0 then (laws_FnExactTreeTake.j0 k true l0_0 a1_0 a1_1 a1_2 bt275.1 bt275.2.1 bt275.2.2 bt288.1 bt288.2.1 bt288.2.2) else ((laws_eqTreeOut.f k bt288.1 bt288.2.1 bt288.2.2 bt275.1 bt275.2.1 bt275.2.2).bind fun t301 => (laws_FnExactTreeTake.j0 k (!t301) l0_0 a1_0 a1_1 a1_2 bt275.1 bt275.2.1 bt275.2.2 bt288.1 bt288.2.1 bt288.2.2)))) else (some false)))) else (some false)))))))) = some r := H
  have A10 := Aside0.mk A100
  clear A100
  replace H := Option.bind_eq_some_iff.mp H
  obtain ⟨⟨t272, t273, t274⟩, A110, H⟩ := H
  replace H : ((spec_TreeTake.f t269 t272 t273 t274).bind fun bt275 => ((laws_toTree.f k l0_0).bind fun t281 => ((laws_toItem.f a1_0 a1_1 a1_2).bind fun bt285 => ((impl_TreeTake.f t281 bt285.1 bt285.2.1 bt285.2.2).bind fun bt288 => ((laws_eqTreeOut.f k bt288.1 bt288.2.1 bt288.2.2 bt275.1 bt275.2.1 bt275.2.2).bind fun t294 => (if t294 = true then ((laws_toTree.f k l0_0).bind fun t295 => ((laws_eqTree.f k t281 t295).bind fun t298 => (if t298 = true then ((laws_markTree.f k t281 1).bind fun bt299 => (if bt299.1 < 0 then (laws_FnExactTreeTake.j0 k true l0_0 a1_0 a1_1 a1_2 bt275.1 bt275.2.1 bt275.2.2 bt288.1 bt288.2.1 bt288.2.2) else ((laws_eqTreeOut.f k bt288.1 bt288.2.1 bt288.2.2 bt275.1 bt275.2.1 bt275.2.2).bind fun t301 => (laws_FnExactTreeTake.j0 k (!t301) l0_0 a1_0 a1_1 a1_2 bt275.1 bt275.2.1 bt275.2.2 bt288.1 bt288.2.1 bt288.2.2)))) else (some false)))) else (some false))))))) = some r := H
  have A11 := Aside0.mk A110
  clear A110
  replace H := Option.bind_eq_some_iff.mp H
  obtain ⟨⟨t275, t278, t279⟩, A120, H⟩ := H
  replace H : ((laws_toTree.f k l0_0).bind fun t281 => ((laws_toItem.f a1_0 a1_1 a1_2).bind fun bt285 => ((impl_TreeTake.f t281 bt285.1 bt285.2.1 bt285.2.2).bind fun bt288 => ((laws_eqTreeOut.f k bt288.1 bt288.2.1 bt288.2.2 t275 t278 t279).bind fun t294 => (if t294 = true then ((laws_toTree.f k l0_0).bind fun t295 => ((laws_eqTree.f k t281 t295).bind fun t298 => (if t298 = true then ((laws_markTree.f k t281 1).bind fun bt299 => (if bt299.1 < 0 then (laws_FnExactTreeTake.j0 k true l0_0 a1_0 a1_1 a1_2 t275 t278 t279 bt288.1 bt288.2.1 bt288.2.2) else ((laws_eqTreeOut.f k bt288.1 bt288.2.1 bt288.2.2 t275 t278 t279).bind fun t301 => (laws_FnExactTreeTake.j0 k (!t301) l0_0 a1_0 a1_1 a1_2 t275 t278 t279 bt288.1 bt288.2.1 bt288.2.2)))) else (some false)))) else (some false)))))) = some r := H
  have A12 := Aside0.mk A120
  clear A120
  replace H := Option.bind_eq_some_iff.mp H
  obtain ⟨t281, A130, H⟩ := H
  replace H : ((laws_toItem.f a1_0 a1_1 a1_2).bind fun bt285 => ((impl_TreeTake.f t281 bt285.1 bt285.2.1 bt285.2.2).bind fun bt288 => ((laws_eqTreeOut.f k bt288.1 bt288.2.1 bt288.2.2 t275 t278 t279).bind fun t294 => (if t294 = true then ((laws_toTree.f k l0_0).bind fun t295 => ((laws_eqTree.f k t281 t295).bind fun t298 => (if t298 = true then ((laws_markTree.f k t281 1).bind fun bt299 => (if bt299.1 < 0 then (laws_FnExactTreeTake.j0 k true l0_0 a1_0 a1_1 a1_2 t275 t278 t279 bt288.1 bt288.2.1 bt288.2.2) else ((laws_eqTreeOut.f k bt288.1 bt288.2.1 bt288.2.2 t275 t278 t279).bind fun t301 => (laws_FnExactTreeTake.j0 k (!t301) l0_0 a1_0 a1_1 a1_2 t275 t278 t279 bt288.1 bt288.2.1 bt288.2.2)))) else (some false)))) else (some false))))) = some r := H
  have A13 := Aside0.mk A130
  clear A130
  replace H := Option.bind_eq_some_iff.mp H
  obtain ⟨⟨t285, t286, t287⟩, A140, H⟩ := H
  replace H : ((impl_TreeTake.f t281 t285 t286 t287).bind fun bt288 => ((laws_eqTreeOut.f k bt288.1 bt288.2.1 bt288.2.2 t275 t278 t279).bind fun t294 => (if t294 = true then ((laws_toTree.f k l0_0).bind fun t295 => ((laws_eqTree.f k t281 t295).bind fun t298 => (if t298 = true then ((laws_markTree.f k t281 1).bind fun bt299 => (if bt299.1 < 0 then (laws_FnExactTreeTake.j0 k true l0_0 a1_0 a1_1 a1_2 t275 t278 t279 bt288.1 bt288.2.1 bt288.2.2) else ((laws_eqTreeOut.f k bt288.1 bt288.2.1 bt288.2.2 t275 t278 t279).bind fun t301 => (laws_FnExactTreeTake.j0 k (!t301) l0_0 a1_0 a1_1 a1_2 t275 t278 t279 bt288.1 bt288.2.1 bt288.2.2)))) else (some false)))) else (some false)))) = some r := H
  have A14 := Aside0.mk A140
  clear A140
  replace H := Option.bind_eq_some_iff.mp H
  obtain ⟨⟨t288, t291, t292⟩, A150, H⟩ := H
  replace H : ((laws_eqTreeOut.f k t288 t291 t292 t275 t278 t279).bind fun t294 => (if t294 = true then ((laws_toTree.f k l0_0).bind fun t295 => ((laws_eqTree.f k t281 t295).bind fun t298 => (if t298 = true then ((laws_markTree.f k t281 1).bind fun bt299 => (if bt299.1 < 0 then (laws_FnExactTreeTake.j0 k true l0_0 a1_0 a1_1 a1_2 t275 t278 t279 t288 t291 t292) else ((laws_eqTreeOut.f k t288 t291 t292 t275 t278 t279).bind fun t301 => (laws_FnExactTreeTake.j0 k (!t301) l0_0 a1_0 a1_1 a1_2 t275 t278 t279 t288 t291 t292)))) else (some false)))) else (some false))) = some r := H
  have A15 := Aside0.mk A150
  clear A150
  replace H := Option.bind_eq_some_iff.mp H
  obtain ⟨t294, A160, H⟩ := H
  replace H : (if t294 = true then ((laws_toTree.f k l0_0).bind fun t295 => ((laws_eqTree.f k t281 t295).bind fun t298 => (if t298 = true then ((laws_markTree.f k t281 1).bind fun bt299 => (if bt299.1 < 0 then (laws_FnExactTreeTake.j0 k true l0_0 a1_0 a1_1 a1_2 t275 t278 t279 t288 t291 t292) else ((laws_eqTreeOut.f k t288 t291 t292 t275 t278 t279).bind fun t301 => (laws_FnExactTreeTake.j0 k (!t301) l0_0 a1_0 a1_1 a1_2 t275 t278 t279 t288 t291 t292)))) else (some false)))) else (some false)) = some r := H
  have A16 := Aside0.mk A160
  clear A160
  by_cases c17 : t294 = true
  ·
   subst c17
   have H1 : ((laws_toTree.f k l0_0).bind fun t295 => ((laws_eqTree.f k t281 t295).bind fun t298 => (if t298 = true then ((laws_markTree.f k t281 1).bind fun bt299 => (if bt299.1 < 0 then (laws_FnExactTreeTake.j0 k true l0_0 a1_0 a1_1 a1_2 t275 t278 t279 t288 t291 t292) else ((laws_eqTreeOut.f k t288 t291 t292 t275 t278 t279).bind fun t301 => (laws_FnExactTreeTake.j0 k (!t301) l0_0 a1_0 a1_1 a1_2 t275 t278 t279 t288 t291 t292)))) else (some false)))) = some r := by rw [if_pos rfl] at H; exact H
   clear H
   have H := H1
   clear H1
   replace H := Option.bind_eq_some_iff.mp H
   obtain ⟨t295, A180, H⟩ := H
   replace H : ((laws_eqTree.f k t281 t295).bind fun t298 => (if t298 = true then ((laws_markTree.f k t281 1).bind fun bt299 => (if bt299.1 < 0 then (laws_FnExactTreeTake.j0 k true l0_0 a1_0 a1_1 a1_2 t275 t278 t279 t288 t291 t292) else ((laws_eqTreeOut.f k t288 t291 t292 t275 t278 t279).bind fun t301 => (laws_FnExactTreeTake.j0 k (!t301) l0_0 a1_0 a1_1 a1_2 t275 t278 t279 t288 t291 t292)))) else (some false))) = some r := H
   have A18 := Aside0.mk A180
   clear A180
   replace H := Option.bind_eq_some_iff.mp H
   obtain ⟨t298, A190, H⟩ := H
   replace H : (if t298 = true then ((laws_markTree.f k t281 1).bind fun bt299 => (if bt299.1 < 0 then (laws_FnExactTreeTake.j0 k true l0_0 a1_0 a1_1 a1_2 t275 t278 t279 t288 t291 t292) else ((laws_eqTreeOut.f k t288 t291 t292 t275 t278 t279).bind fun t301 => (laws_FnExactTreeTake.j0 k (!t301) l0_0 a1_0 a1_1 a1_2 t275 t278 t279 t288 t291 t292)))) else (some false)) = some r := H
   have A19 := Aside0.mk A190
   clear A190
   by_cases c20 : t298 = true
   ·
    subst c20
    have H1 : ((laws_markTree.f k t281 1).bind fun bt299 => (if bt299.1 < 0 then (laws_FnExactTreeTake.j0 k true l0_0 a1_0 a1_1 a1_2 t275 t278 t279 t288 t291 t292) else ((laws_eqTreeOut.f k t288 t291 t292 t275 t278 t279).bind fun t301 => (laws_FnExactTreeTake.j0 k (!t301) l0_0 a1_0 a1_1 a1_2 t275 t278 t279 t288 t291 t292)))) = some r := by rw [if_pos rfl] at H; exact H
    clear H
    have H := H1
    clear H1
    replace H := Option.bind_eq_some_iff.mp H
    obtain ⟨⟨t299, t300⟩, A210, H⟩ := H
    replace H : (if t299 < 0 then (laws_FnExactTreeTake.j0 k true l0_0 a1_0 a1_1 a1_2 t275 t278 t279 t288 t291 t292) else ((laws_eqTreeOut.f k t288 t291 t292 t275 t278 t279).bind fun t301 => (laws_FnExactTreeTake.j0 k (!t301) l0_0 a1_0 a1_1 a1_2 t275 t278 t279 t288 t291 t292))) = some r := H
    have A21 := Aside0.mk A210
    clear A210
    have HC22 := Aside0.mk H
    clear H
    go_enter Tryz.func3, Tryz.ntmps3
    try go_wp2_with (first | ((with_reducible refine gate_dst (N := 2) rfl ?_); refine box_event ?hg (N := 2) ?hd (cs := #[.slice A0_0 l0_0.length c0_0]) (t := 24) ?hr ?_; (case hd => rfl); (case hg => rfl); (case hr => first | (go_simp; done) | (go_simp; rfl)); intro gb266 hg w23 hbox hb; have n0_ := Aside0.mk (below_step bl_ hb); have n1_ := Aside0.mk (hbox); have n2_ := Aside0.mk ((by rw [hg]; exact (below_size bl_) : w.heap.size ≤ gb266)); have n3_ := Aside0.mk ((by rw [hg]; exact (below_size bl_) : w.heap.size ≤ gb266)); clear HB; have HB := n0_; have BK266 := n1_; have GW266 := n2_; have GE266 := n3_; clear n0_ n1_ n2_ n3_; clear hb hbox hg) | ((with_reducible refine gate_dst (N := 3) rfl ?_); refine box_event ?hg (N := 3) ?hd (cs := #[.int .i64 a1_0, .int .i64 a1_1, .int .i64 a1_2]) (t := 26) ?hr ?_; (case hd => rfl); (case hg => rfl); (case hr => first | (go_simp; done) | (go_simp; rfl)); intro gb267 hg w24 hbox hb; have n0_ := Aside0.mk (blk_below (up_ BK266.out) hb); have n1_ := Aside0.mk (below_step bl_ hb); have n2_ := Aside0.mk (hbox); have n3_ := Aside0.mk ((by rw [hg]; exact (below_size bl_) : w.heap.size ≤ gb267)); have n4_ := Aside0.mk ((by rw [hg]; exact (below_size bl_) : w.heap.size ≤ gb267)); have n5_ := Aside0.mk ((by rw [hg]; exact Nat.ne_of_lt (blk_lt (up_ BK266.out)) : gb266 ≠ gb267)); have n6_ := Aside0.mk ((by rw [hg]; exact Nat.ne_of_gt (blk_lt (up_ BK266.out)) : gb267 ≠ gb266)); clear BK266; clear HB; have BK266 := n0_; have HB := n1_; have BK267 := n2_; have GW267 := n3_; have GE267 := n4_; have NB266_267 := n5_; have NB267_266 := n6_; clear n0_ n1_ n2_ n3_ n4_ n5_ n6_; clear hb hbox hg; have hnb25 := NB266_267.out; have hnc25 := NB267_266.out; have hcz26_0 : w24.cell? ⟨gb266, 0, none⟩ = some (.slice A0_0 l0_0.length c0_0) := (blk_cell BK266.out 0).trans rfl; have hfz26_0 := blk_frozen BK266.out 0) | ((with_reducible refine gate_callee (f := 4) rfl ?_); refine gL_ (some 15) Tryz.func4 #[.agg #[.slice A0_0 l0_0.length c0_0], .int .i64 1048576] ?_; (with_reducible refine (laws_szTree.calls _ _ l0_0 1048576 t268 _ ?side1 ?side2 A3.out).mono ?_); (case side1 => exact Kd.C_below HR0_0.out bl_); (case side2 => exact HC0_0.out); rintro e w27 ⟨rfl, hb⟩; refine ⟨_, rfl, ?_⟩; have n0_ := Aside0.mk (blk_below (up_ BK266.out) hb); have n1_ := Aside0.mk (blk_below (up_ BK267.out) hb); have n2_ := Aside0.mk (below_step bl_ hb); clear BK266; clear BK267; clear HB; have BK266 := n0_; have BK267 := n1_; have HB := n2_; clear n0_ n1_ n2_; (try clear hb); (try clear hb2); (try clear hk); (try clear hi)))
    replace BK266 := Aside0.mk (blk_drew BK266.out)
    replace BK267 := Aside0.mk (blk_drew BK267.out)
    replace HB := Aside0.mk (below_drew1 HB.out)
    refine start_ (n := 7) (S := fun w' => w'.cell? ⟨gb266, 0, none⟩ = some (.slice A0_0 l0_0.length c0_0) ∧ w'.cell? ⟨gb267, 0, none⟩ = some (.int .i64 a1_0) ∧ w'.cell? ⟨gb267, 1, none⟩ = some (.int .i64 a1_1) ∧ w'.cell? ⟨gb267, 2, none⟩ = some (.int .i64 a1_2)) (ds := []) #[false, false, false, false, false, false, false] (by kernel_rfl) rfl rfl ⟨(blk_cell BK266.out 0).trans rfl, (blk_cell BK267.out 0).trans rfl, (blk_cell BK267.out 1).trans rfl, (blk_cell BK267.out 2).trans rfl⟩ (fun hHeld => ?_)
    generalize w27.drew = w28 at BK266 BK267 HB hHeld ⊢
    refine take_ (i := 0) (N := some 18) (v := ?_) (a' := ?_) #[true, false, false, false, false, false, false] rfl rfl (by kernel_rfl) (fun _ _ _ h => h) (Or.inl ⟨by rfl, ?_⟩) hHeld ?_ ?_; rotate_left; (rintro w' ⟨s0, s1, s2, s3⟩; go_simp; with_reducible rfl); rotate_left; (simp only [Act.put, List.setIfInBounds_toArray, List.set_cons_zero, List.set_cons_succ, i64_w, i32_w]; rfl)
    refine take_ (i := 2) (N := some 20) (v := ?_) (a' := ?_) #[true, false, true, false, false, false, false] rfl rfl (by kernel_rfl) (fun _ _ _ h => h) (Or.inl ⟨by rfl, ?_⟩) hHeld ?_ ?_; rotate_left; (rintro w' ⟨s0, s1, s2, s3⟩; go_simp; with_reducible rfl); rotate_left; (simp only [Act.put, List.setIfInBounds_toArray, List.set_cons_zero, List.set_cons_succ, i64_w, i32_w]; rfl)
    refine join_ (σ := Value × Value × Nat) 1 #[true, true, true, true, true, true, false] (fun s_ => [(19, .agg #[s_.1]), (21, .agg #[.int .i64 t272, .int .i64 t273, .int .i64 t274]), (22, .agg #[s_.2.1, .int .i64 t278, .int .i64 t279]), (6, .pointer (some ⟨s_.2.2, 0, none⟩))]) (fun s_ w' => (w'.cell? ⟨gb266, 0, none⟩ = some (.slice A0_0 l0_0.length c0_0) ∧ w'.cell? ⟨gb267, 0, none⟩ = some (.int .i64 a1_0) ∧ w'.cell? ⟨gb267, 1, none⟩ = some (.int .i64 a1_1) ∧ w'.cell? ⟨gb267, 2, none⟩ = some (.int .i64 a1_2)) ∧ (Kd.R k46 46 w' w.heap.size (fun k_ => some k_ ≠ (s_.2.1 : Value).ownBlock) s_.1 t269) ∧ (Kd.R k46 46 w' w.heap.size (fun k_ => some k_ ≠ (s_.1 : Value).ownBlock) s_.2.1 t275) ∧ (w'.heap[gb266]? = some (.cells #[.slice A0_0 l0_0.length c0_0] 24 (0, 0))) ∧ (w'.heap[gb267]? = some (.cells #[.int .i64 a1_0, .int .i64 a1_1, .int .i64 a1_2] 26 (0, 0))) ∧ (w'.heap[s_.2.2]? = some (.cells #[.slice none 0 0, .int .i64 0, .int .i64 0] 32 (0, 0))) ∧ (w.heap.size ≤ s_.2.2) ∧ (w.heap.size ≤ s_.2.2) ∧ (gb266 ≠ s_.2.2) ∧ (s_.2.2 ≠ gb266) ∧ (gb267 ≠ s_.2.2) ∧ (s_.2.2 ≠ gb267) ∧ (Below w.heap.size w w')) ?_ ?_
    rotate_left
    ·
     intro hCont
     refine two_ (i := 1) (j := 5) (Ni := some 19) (Nj := some 6) #[true, true, true, false, false, false, false] #[true, false, true, false, false, true, false] rfl rfl rfl rfl (by kernel_rfl) (by decide) (by decide) (fun K hK => ?_) (fun K hK => ?_)
     ·
      skip
      refine goes_ Tryz.func6 (by kernel_rfl) rfl #[.agg #[.slice A0_0 l0_0.length c0_0]] (by rfl) rfl rfl (by (try simp only [List.map_toArray, List.map_cons, List.map_nil]); first | done | rfl | (simp only [List.length_drop, List.length_take]; rfl)) ?_
      with_reducible refine (laws_toTree.calls k _ _ l0_0 t269 _ ?side1 ?side2 A10.out).mono ?_
      (case side1 => exact Kd.C_below HR0_0.out bl_)
      (case side2 => exact HC0_0.out)
      rintro e w29 ⟨v270, rfl, ho0, hb⟩
      refine ⟨_, rfl, ?_⟩
      have n0_ := Aside0.mk (Kd.R_lower ho0 (below_size bl_))
      have n1_ := Aside0.mk (blk_below (up_ BK266.out) hb)
      have n2_ := Aside0.mk (blk_below (up_ BK267.out) hb)
      have n3_ := Aside0.mk (below_step bl_ hb)
      clear BK266
      clear BK267
      clear HB
      have HO271 := n0_
      have BK266 := n1_
      have BK267 := n2_
      have HB := n3_
      clear n0_ n1_ n2_ n3_
      (try clear hb)
      (try clear hb2)
      (try clear hk)
      (try clear hi)
      (try clear ho0)
      refine hK.out _ _ ⟨(blk_cell BK266.out 0).trans rfl, (blk_cell BK267.out 0).trans rfl, (blk_cell BK267.out 1).trans rfl, (blk_cell BK267.out 2).trans rfl⟩ (fun hHeld => ?_)
      clear hK K
      refine norm_ (a' := ?_) ?_ ?_
      rotate_left
      ·
       show Act.put _ (some 19) _ = _
       simp only [Act.put, List.setIfInBounds_toArray, List.set_cons_zero, List.set_cons_succ, i64_w, i32_w]
       rfl
      refine two_ (i := 3) (j := 5) (Ni := some 21) (Nj := some 6) #[true, true, true, true, false, false, false] #[true, true, true, false, false, true, false] rfl rfl rfl rfl (by kernel_rfl) (by decide) (by decide) (fun K hK => ?_) (fun K hK => ?_)
      ·
       skip
       refine goes_ Tryz.func7 (by kernel_rfl) rfl #[.agg #[.int .i64 a1_0, .int .i64 a1_1, .int .i64 a1_2]] (by rfl) rfl rfl (by (try simp only [List.map_toArray, List.map_cons, List.map_nil]); first | done | rfl | (simp only [List.length_drop, List.length_take]; rfl)) ?_
       with_reducible refine (laws_toItem.calls a1_0 a1_1 a1_2 t272 t273 t274 _ A11.out).mono ?_
       rintro e w30 ⟨rfl, hb⟩
       refine ⟨_, rfl, ?_⟩
       replace HO271 := Aside0.mk (Kd.R_below (by exact rU_ HO271.out) hb)
       replace BK266 := Aside0.mk (blk_below (up_ BK266.out) hb)
       replace BK267 := Aside0.mk (blk_below (up_ BK267.out) hb)
       replace HB := Aside0.mk (below_step bl_ hb)
       (try clear hb)
       (try clear hb2)
       (try clear hk)
       (try clear hi)
       obtain ⟨Ao31, co31, eo31⟩ := Kd.R_slice HO271.out
       (first | subst eo31 | (injection eo31 with f1_ f2_ f3_; have f4_ := f1_.symm; have f5_ := f3_.symm; clear f1_ f2_ f3_; subst f4_; subst f5_))
       refine hK.out _ _ ⟨(blk_cell BK266.out 0).trans rfl, (blk_cell BK267.out 0).trans rfl, (blk_cell BK267.out 1).trans rfl, (blk_cell BK267.out 2).trans rfl⟩ (fun hHeld => ?_)
       clear hK K
       refine norm_ (a' := ?_) ?_ ?_
       rotate_left
       ·
        show Act.put _ (some 21) _ = _
        simp only [Act.put, List.setIfInBounds_toArray, List.set_cons_zero, List.set_cons_succ, i64_w, i32_w]
        rfl
       refine two_ (i := 4) (j := 5) (Ni := some 22) (Nj := some 6) #[true, true, true, true, true, false, false] #[true, true, true, true, false, true, false] rfl rfl rfl rfl (by kernel_rfl) (by decide) (by decide) (fun K hK => ?_) (fun K hK => ?_)
       ·
        skip
        refine goes_ Tryz.func5 (by kernel_rfl) rfl #[.agg #[.slice Ao31 t269.length co31], .agg #[.int .i64 t272, .int .i64 t273, .int .i64 t274]] (by rfl) rfl rfl (by (try simp only [List.map_toArray, List.map_cons, List.map_nil]); first | done | rfl | (simp only [List.length_drop, List.length_take]; rfl)) ?_
        with_reducible refine (spec_TreeTake.calls _ _ t269 t272 t273 t274 t275 t278 t279 _ ?side1 ?side2 A12.out).mono ?_
        (case side1 => repeat (first | exact (Kd.R_reads' HO271.out).2.2 | (with_reducible refine Kd.C_alloc ?_ _) | (with_reducible refine Kd.C_drewN ?_ _) | (with_reducible refine Kd.C_drew ?_)))
        (case side2 => exact (Kd.R_reads' HO271.out).2.1)
        rintro e w32 ⟨v276, rfl, ho0, hb⟩
        refine ⟨_, rfl, ?_⟩
        have n0_ := Aside0.mk (Kd.R_elder' (by exact rU_ HO271.out) (Kd.R_base ho0) hb)
        have n1_ := Aside0.mk (Kd.R_lower (Kd.R_new' ho0 (Kd.R_lt (by exact rU_ HO271.out))) (below_size bl_))
        have n2_ := Aside0.mk (blk_below (up_ BK266.out) hb)
        have n3_ := Aside0.mk (blk_below (up_ BK267.out) hb)
        have n4_ := Aside0.mk (below_step bl_ hb)
        clear HO271
        clear BK266
        clear BK267
        clear HB
        have HO271 := n0_
        have HO277 := n1_
        have BK266 := n2_
        have BK267 := n3_
        have HB := n4_
        clear n0_ n1_ n2_ n3_ n4_
        (try clear hb)
        (try clear hb2)
        (try clear hk)
        (try clear hi)
        (try clear ho0)
        refine hK.out _ _ ⟨(blk_cell BK266.out 0).trans rfl, (blk_cell BK267.out 0).trans rfl, (blk_cell BK267.out 1).trans rfl, (blk_cell BK267.out 2).trans rfl⟩ (fun hHeld => ?_)
        clear hK K
        refine norm_ (a' := ?_) ?_ ?_
        rotate_left
        ·
         show Act.put _ (some 22) _ = _
         simp only [Act.put, List.setIfInBounds_toArray, List.set_cons_zero, List.set_cons_succ, i64_w, i32_w]
         rfl
        refine one_ (i := 5) (N := some 6) #[o_,o_,o_,o_,o_,o_,x_] rfl rfl (by kernel_rfl) (by decide) (fun K hK => ?_)
        refine box_step ?hg (N := 6) ?hd (cs := #[.slice none 0 0, .int .i64 0, .int .i64 0]) (t := 32) ?hr ?_; (case hd => rfl); (case hg => rfl); (case hr => first | (go_simp; done) | (go_simp; rfl))
        intro gb280 hg w33 hbox hb
        have n0_ := Aside0.mk (Kd.R_below (by exact rU_ HO271.out) hb)
        have n1_ := Aside0.mk (Kd.R_below (by exact rU_ HO277.out) hb)
        have n2_ := Aside0.mk (blk_below (up_ BK266.out) hb)
        have n3_ := Aside0.mk (blk_below (up_ BK267.out) hb)
        have n4_ := Aside0.mk (below_step bl_ hb)
        have n5_ := Aside0.mk (hbox)
        have n6_ := Aside0.mk ((by rw [hg]; exact (below_size bl_) : w.heap.size ≤ gb280))
        have n7_ := Aside0.mk ((by rw [hg]; exact (below_size bl_) : w.heap.size ≤ gb280))
        have n8_ := Aside0.mk ((by rw [hg]; exact Nat.ne_of_lt (blk_lt (up_ BK266.out)) : gb266 ≠ gb280))
        have n9_ := Aside0.mk ((by rw [hg]; exact Nat.ne_of_gt (blk_lt (up_ BK266.out)) : gb280 ≠ gb266))
        have n10_ := Aside0.mk ((by rw [hg]; exact Nat.ne_of_lt (blk_lt (up_ BK267.out)) : gb267 ≠ gb280))
        have n11_ := Aside0.mk ((by rw [hg]; exact Nat.ne_of_gt (blk_lt (up_ BK267.out)) : gb280 ≠ gb267))
        clear HO271
        clear HO277
        clear BK266
        clear BK267
        clear HB
        have HO271 := n0_
        have HO277 := n1_
        have BK266 := n2_
        have BK267 := n3_
        have HB := n4_
        have BK280 := n5_
        have GW280 := n6_
        have GE280 := n7_
        have NB266_280 := n8_
        have NB280_266 := n9_
        have NB267_280 := n10_
        have NB280_267 := n11_
        clear n0_ n1_ n2_ n3_ n4_ n5_ n6_ n7_ n8_ n9_ n10_ n11_
        clear hb hbox hg
        refine hK.out _ _ ⟨(blk_cell BK266.out 0).trans rfl, (blk_cell BK267.out 0).trans rfl, (blk_cell BK267.out 1).trans rfl, (blk_cell BK267.out 2).trans rfl⟩ (fun hHeld => ?_)
        clear hK K
        refine norm_ (a' := ?_) ?_ ?_
        rotate_left
        ·
         show Act.put _ (some 6) _ = _
         simp only [Act.put, List.setIfInBounds_toArray, List.set_cons_zero, List.set_cons_succ, i64_w, i32_w]
         rfl
        exact norm_ (by simp only [putAll, Act.put, List.setIfInBounds_toArray, List.set_cons_zero, List.set_cons_succ]) (hCont (.slice Ao31 t269.length co31, v276, gb280) _ ⟨hHeld, (by exact rU_ (Kd.R_mono HO271.out (fun _ hk => hk.2))), (by exact rU_ (Kd.R_mono HO277.out (fun _ hk => hk.2))), (by exact up_ BK266.out), (by exact up_ BK267.out), (by exact up_ BK280.out), GW280.out, GE280.out, NB266_280.out, NB280_266.out, NB267_280.out, NB280_267.out, bl_⟩)
       ·
        skip
        refine box_step ?hg (N := 6) ?hd (cs := #[.slice none 0 0, .int .i64 0, .int .i64 0]) (t := 32) ?hr ?_; (case hd => rfl); (case hg => rfl); (case hr => first | (go_simp; done) | (go_simp; rfl))
        intro gb280 hg w31 hbox hb
        have n0_ := Aside0.mk (Kd.R_below (by exact rU_ HO271.out) hb)
        have n1_ := Aside0.mk (blk_below (up_ BK266.out) hb)
        have n2_ := Aside0.mk (blk_below (up_ BK267.out) hb)
        have n3_ := Aside0.mk (below_step bl_ hb)
        have n4_ := Aside0.mk (hbox)
        have n5_ := Aside0.mk ((by rw [hg]; exact (below_size bl_) : w.heap.size ≤ gb280))
        have n6_ := Aside0.mk ((by rw [hg]; exact (below_size bl_) : w.heap.size ≤ gb280))
        have n7_ := Aside0.mk ((by rw [hg]; exact Nat.ne_of_lt (blk_lt (up_ BK266.out)) : gb266 ≠ gb280))
        have n8_ := Aside0.mk ((by rw [hg]; exact Nat.ne_of_gt (blk_lt (up_ BK266.out)) : gb280 ≠ gb266))
        have n9_ := Aside0.mk ((by rw [hg]; exact Nat.ne_of_lt (blk_lt (up_ BK267.out)) : gb267 ≠ gb280))
        have n10_ := Aside0.mk ((by rw [hg]; exact Nat.ne_of_gt (blk_lt (up_ BK267.out)) : gb280 ≠ gb267))
        clear HO271
        clear BK266
        clear BK267
        clear HB
        have HO271 := n0_
        have BK266 := n1_
        have BK267 := n2_
        have HB := n3_
        have BK280 := n4_
        have GW280 := n5_
        have GE280 := n6_
        have NB266_280 := n7_
        have NB280_266 := n8_
        have NB267_280 := n9_
        have NB280_267 := n10_
        clear n0_ n1_ n2_ n3_ n4_ n5_ n6_ n7_ n8_ n9_ n10_
        clear hb hbox hg
        obtain ⟨Ao32, co32, eo32⟩ := Kd.R_slice HO271.out
        (first | subst eo32 | (injection eo32 with f1_ f2_ f3_; have f4_ := f1_.symm; have f5_ := f3_.symm; clear f1_ f2_ f3_; subst f4_; subst f5_))
        refine hK.out _ _ ⟨(blk_cell BK266.out 0).trans rfl, (blk_cell BK267.out 0).trans rfl, (blk_cell BK267.out 1).trans rfl, (blk_cell BK267.out 2).trans rfl⟩ (fun hHeld => ?_)
        clear hK K
        refine norm_ (a' := ?_) ?_ ?_
        rotate_left
        ·
         show Act.put _ (some 6) _ = _
         simp only [Act.put, List.setIfInBounds_toArray, List.set_cons_zero, List.set_cons_succ, i64_w, i32_w]
         rfl
        refine one_ (i := 4) (N := some 22) #[o_,o_,o_,o_,o_,o_,x_] rfl rfl (by kernel_rfl) (by decide) (fun K hK => ?_)
        refine goes_ Tryz.func5 (by kernel_rfl) rfl #[.agg #[.slice Ao32 t269.length co32], .agg #[.int .i64 t272, .int .i64 t273, .int .i64 t274]] (by rfl) rfl rfl (by (try simp only [List.map_toArray, List.map_cons, List.map_nil]); first | done | rfl | (simp only [List.length_drop, List.length_take]; rfl)) ?_
        with_reducible refine (spec_TreeTake.calls _ _ t269 t272 t273 t274 t275 t278 t279 _ ?side1 ?side2 A12.out).mono ?_
        (case side1 => repeat (first | exact (Kd.R_reads' HO271.out).2.2 | (with_reducible refine Kd.C_alloc ?_ _) | (with_reducible refine Kd.C_drewN ?_ _) | (with_reducible refine Kd.C_drew ?_)))
        (case side2 => exact (Kd.R_reads' HO271.out).2.1)
        rintro e w33 ⟨v276, rfl, ho0, hb⟩
        refine ⟨_, rfl, ?_⟩
        have n0_ := Aside0.mk (Kd.R_elder' (by exact rU_ HO271.out) (Kd.R_base ho0) hb)
        have n1_ := Aside0.mk (Kd.R_lower (Kd.R_new' ho0 (Kd.R_lt (by exact rU_ HO271.out))) (below_size bl_))
        have n2_ := Aside0.mk (blk_below (up_ BK266.out) hb)
        have n3_ := Aside0.mk (blk_below (up_ BK267.out) hb)
        have n4_ := Aside0.mk (blk_below (up_ BK280.out) hb)
        have n5_ := Aside0.mk (below_step bl_ hb)
        clear HO271
        clear BK266
        clear BK267
        clear BK280
        clear HB
        have HO271 := n0_
        have HO277 := n1_
        have BK266 := n2_
        have BK267 := n3_
        have BK280 := n4_
        have HB := n5_
        clear n0_ n1_ n2_ n3_ n4_ n5_
        (try clear hb)
        (try clear hb2)
        (try clear hk)
        (try clear hi)
        (try clear ho0)
        refine hK.out _ _ ⟨(blk_cell BK266.out 0).trans rfl, (blk_cell BK267.out 0).trans rfl, (blk_cell BK267.out 1).trans rfl, (blk_cell BK267.out 2).trans rfl⟩ (fun hHeld => ?_)
        clear hK K
        refine norm_ (a' := ?_) ?_ ?_
        rotate_left
        ·
         show Act.put _ (some 22) _ = _
         simp only [Act.put, List.setIfInBounds_toArray, List.set_cons_zero, List.set_cons_succ, i64_w, i32_w]
         rfl
        exact norm_ (by simp only [putAll, Act.put, List.setIfInBounds_toArray, List.set_cons_zero, List.set_cons_succ]) (hCont (.slice Ao32 t269.length co32, v276, gb280) _ ⟨hHeld, (by exact rU_ (Kd.R_mono HO271.out (fun _ hk => hk.2))), (by exact rU_ (Kd.R_mono HO277.out (fun _ hk => hk.2))), (by exact up_ BK266.out), (by exact up_ BK267.out), (by exact up_ BK280.out), GW280.out, GE280.out, NB266_280.out, NB280_266.out, NB267_280.out, NB280_267.out, bl_⟩)
      ·
       skip
       refine box_step ?hg (N := 6) ?hd (cs := #[.slice none 0 0, .int .i64 0, .int .i64 0]) (t := 32) ?hr ?_; (case hd => rfl); (case hg => rfl); (case hr => first | (go_simp; done) | (go_simp; rfl))
       intro gb280 hg w30 hbox hb
       have n0_ := Aside0.mk (Kd.R_below (by exact rU_ HO271.out) hb)
       have n1_ := Aside0.mk (blk_below (up_ BK266.out) hb)
       have n2_ := Aside0.mk (blk_below (up_ BK267.out) hb)
       have n3_ := Aside0.mk (below_step bl_ hb)
       have n4_ := Aside0.mk (hbox)
       have n5_ := Aside0.mk ((by rw [hg]; exact (below_size bl_) : w.heap.size ≤ gb280))
       have n6_ := Aside0.mk ((by rw [hg]; exact (below_size bl_) : w.heap.size ≤ gb280))
       have n7_ := Aside0.mk ((by rw [hg]; exact Nat.ne_of_lt (blk_lt (up_ BK266.out)) : gb266 ≠ gb280))
       have n8_ := Aside0.mk ((by rw [hg]; exact Nat.ne_of_gt (blk_lt (up_ BK266.out)) : gb280 ≠ gb266))
       have n9_ := Aside0.mk ((by rw [hg]; exact Nat.ne_of_lt (blk_lt (up_ BK267.out)) : gb267 ≠ gb280))
       have n10_ := Aside0.mk ((by rw [hg]; exact Nat.ne_of_gt (blk_lt (up_ BK267.out)) : gb280 ≠ gb267))
       clear HO271
       clear BK266
       clear BK267
       clear HB
       have HO271 := n0_
       have BK266 := n1_
       have BK267 := n2_
       have HB := n3_
       have BK280 := n4_
       have GW280 := n5_
       have GE280 := n6_
       have NB266_280 := n7_
       have NB280_266 := n8_
       have NB267_280 := n9_
       have NB280_267 := n10_
       clear n0_ n1_ n2_ n3_ n4_ n5_ n6_ n7_ n8_ n9_ n10_
       clear hb hbox hg
       refine hK.out _ _ ⟨(blk_cell BK266.out 0).trans rfl, (blk_cell BK267.out 0).trans rfl, (blk_cell BK267.out 1).trans rfl, (blk_cell BK267.out 2).trans rfl⟩ (fun hHeld => ?_)
       clear hK K
       refine norm_ (a' := ?_) ?_ ?_
       rotate_left
       ·
        show Act.put _ (some 6) _ = _
        simp only [Act.put, List.setIfInBounds_toArray, List.set_cons_zero, List.set_cons_succ, i64_w, i32_w]
        rfl
       refine one_ (i := 3) (N := some 21) #[o_,o_,o_,o_,x_,o_,x_] rfl rfl (by kernel_rfl) (by decide) (fun K hK => ?_)
       refine goes_ Tryz.func7 (by kernel_rfl) rfl #[.agg #[.int .i64 a1_0, .int .i64 a1_1, .int .i64 a1_2]] (by rfl) rfl rfl (by (try simp only [List.map_toArray, List.map_cons, List.map_nil]); first | done | rfl | (simp only [List.length_drop, List.length_take]; rfl)) ?_
       with_reducible refine (laws_toItem.calls a1_0 a1_1 a1_2 t272 t273 t274 _ A11.out).mono ?_
       rintro e w31 ⟨rfl, hb⟩
       refine ⟨_, rfl, ?_⟩
       replace HO271 := Aside0.mk (Kd.R_below (by exact rU_ HO271.out) hb)
       replace BK266 := Aside0.mk (blk_below (up_ BK266.out) hb)
       replace BK267 := Aside0.mk (blk_below (up_ BK267.out) hb)
       replace BK280 := Aside0.mk (blk_below (up_ BK280.out) hb)
       replace HB := Aside0.mk (below_step bl_ hb)
       (try clear hb)
       (try clear hb2)
       (try clear hk)
       (try clear hi)
       obtain ⟨Ao32, co32, eo32⟩ := Kd.R_slice HO271.out
       (first | subst eo32 | (injection eo32 with f1_ f2_ f3_; have f4_ := f1_.symm; have f5_ := f3_.symm; clear f1_ f2_ f3_; subst f4_; subst f5_))
       refine hK.out _ _ ⟨(blk_cell BK266.out 0).trans rfl, (blk_cell BK267.out 0).trans rfl, (blk_cell BK267.out 1).trans rfl, (blk_cell BK267.out 2).trans rfl⟩ (fun hHeld => ?_)
       clear hK K
       refine norm_ (a' := ?_) ?_ ?_
       rotate_left
       ·
        show Act.put _ (some 21) _ = _
        simp only [Act.put, List.setIfInBounds_toArray, List.set_cons_zero, List.set_cons_succ, i64_w, i32_w]
        rfl
       refine one_ (i := 4) (N := some 22) #[o_,o_,o_,o_,o_,o_,x_] rfl rfl (by kernel_rfl) (by decide) (fun K hK => ?_)
       refine goes_ Tryz.func5 (by kernel_rfl) rfl #[.agg #[.slice Ao32 t269.length co32], .agg #[.int .i64 t272, .int .i64 t273, .int .i64 t274]] (by rfl) rfl rfl (by (try simp only [List.map_toArray, List.map_cons, List.map_nil]); first | done | rfl | (simp only [List.length_drop, List.length_take]; rfl)) ?_
       with_reducible refine (spec_TreeTake.calls _ _ t269 t272 t273 t274 t275 t278 t279 _ ?side1 ?side2 A12.out).mono ?_
       (case side1 => repeat (first | exact (Kd.R_reads' HO271.out).2.2 | (with_reducible refine Kd.C_alloc ?_ _) | (with_reducible refine Kd.C_drewN ?_ _) | (with_reducible refine Kd.C_drew ?_)))
       (case side2 => exact (Kd.R_reads' HO271.out).2.1)
       rintro e w33 ⟨v276, rfl, ho0, hb⟩
       refine ⟨_, rfl, ?_⟩
       have n0_ := Aside0.mk (Kd.R_elder' (by exact rU_ HO271.out) (Kd.R_base ho0) hb)
       have n1_ := Aside0.mk (Kd.R_lower (Kd.R_new' ho0 (Kd.R_lt (by exact rU_ HO271.out))) (below_size bl_))
       have n2_ := Aside0.mk (blk_below (up_ BK266.out) hb)
       have n3_ := Aside0.mk (blk_below (up_ BK267.out) hb)
       have n4_ := Aside0.mk (blk_below (up_ BK280.out) hb)
       have n5_ := Aside0.mk (below_step bl_ hb)
       clear HO271
       clear BK266
       clear BK267
       clear BK280
       clear HB
       have HO271 := n0_
       have HO277 := n1_
       have BK266 := n2_
       have BK267 := n3_
       have BK280 := n4_
       have HB := n5_
       clear n0_ n1_ n2_ n3_ n4_ n5_
       (try clear hb)
       (try clear hb2)
       (try clear hk)
       (try clear hi)
       (try clear ho0)
       refine hK.out _ _ ⟨(blk_cell BK266.out 0).trans rfl, (blk_cell BK267.out 0).trans rfl, (blk_cell BK267.out 1).trans rfl, (blk_cell BK267.out 2).trans rfl⟩ (fun hHeld => ?_)
       clear hK K
       refine norm_ (a' := ?_) ?_ ?_
       rotate_left
       ·
        show Act.put _ (some 22) _ = _
        simp only [Act.put, List.setIfInBounds_toArray, List.set_cons_zero, List.set_cons_succ, i64_w, i32_w]
        rfl
       exact norm_ (by simp only [putAll, Act.put, List.setIfInBounds_toArray, List.set_cons_zero, List.set_cons_succ]) (hCont (.slice Ao32 t269.length co32, v276, gb280) _ ⟨hHeld, (by exact rU_ (Kd.R_mono HO271.out (fun _ hk => hk.2))), (by exact rU_ (Kd.R_mono HO277.out (fun _ hk => hk.2))), (by exact up_ BK266.out), (by exact up_ BK267.out), (by exact up_ BK280.out), GW280.out, GE280.out, NB266_280.out, NB280_266.out, NB267_280.out, NB280_267.out, bl_⟩)
     ·
      skip
      refine box_step ?hg (N := 6) ?hd (cs := #[.slice none 0 0, .int .i64 0, .int .i64 0]) (t := 32) ?hr ?_; (case hd => rfl); (case hg => rfl); (case hr => first | (go_simp; done) | (go_simp; rfl))
      intro gb280 hg w29 hbox hb
      have n0_ := Aside0.mk (blk_below (up_ BK266.out) hb)
      have n1_ := Aside0.mk (blk_below (up_ BK267.out) hb)
      have n2_ := Aside0.mk (below_step bl_ hb)
      have n3_ := Aside0.mk (hbox)
      have n4_ := Aside0.mk ((by rw [hg]; exact (below_size bl_) : w.heap.size ≤ gb280))
      have n5_ := Aside0.mk ((by rw [hg]; exact (below_size bl_) : w.heap.size ≤ gb280))
      have n6_ := Aside0.mk ((by rw [hg]; exact Nat.ne_of_lt (blk_lt (up_ BK266.out)) : gb266 ≠ gb280))
      have n7_ := Aside0.mk ((by rw [hg]; exact Nat.ne_of_gt (blk_lt (up_ BK266.out)) : gb280 ≠ gb266))
      have n8_ := Aside0.mk ((by rw [hg]; exact Nat.ne_of_lt (blk_lt (up_ BK267.out)) : gb267 ≠ gb280))
      have n9_ := Aside0.mk ((by rw [hg]; exact Nat.ne_of_gt (blk_lt (up_ BK267.out)) : gb280 ≠ gb267))
      clear BK266
      clear BK267
      clear HB
      have BK266 := n0_
      have BK267 := n1_
      have HB := n2_
      have BK280 := n3_
      have GW280 := n4_
      have GE280 := n5_
      have NB266_280 := n6_
      have NB280_266 := n7_
      have NB267_280 := n8_
      have NB280_267 := n9_
      clear n0_ n1_ n2_ n3_ n4_ n5_ n6_ n7_ n8_ n9_
      clear hb hbox hg
      refine hK.out _ _ ⟨(blk_cell BK266.out 0).trans rfl, (blk_cell BK267.out 0).trans rfl, (blk_cell BK267.out 1).trans rfl, (blk_cell BK267.out 2).trans rfl⟩ (fun hHeld => ?_)
      clear hK K
      refine norm_ (a' := ?_) ?_ ?_
      rotate_left
      ·
       show Act.put _ (some 6) _ = _
       simp only [Act.put, List.setIfInBounds_toArray, List.set_cons_zero, List.set_cons_succ, i64_w, i32_w]
       rfl
      refine one_ (i := 1) (N := some 19) #[o_,o_,o_,x_,x_,o_,x_] rfl rfl (by kernel_rfl) (by decide) (fun K hK => ?_)
      refine goes_ Tryz.func6 (by kernel_rfl) rfl #[.agg #[.slice A0_0 l0_0.length c0_0]] (by rfl) rfl rfl (by (try simp only [List.map_toArray, List.map_cons, List.map_nil]); first | done | rfl | (simp only [List.length_drop, List.length_take]; rfl)) ?_
      with_reducible refine (laws_toTree.calls k _ _ l0_0 t269 _ ?side1 ?side2 A10.out).mono ?_
      (case side1 => exact Kd.C_below HR0_0.out bl_)
      (case side2 => exact HC0_0.out)
      rintro e w30 ⟨v270, rfl, ho0, hb⟩
      refine ⟨_, rfl, ?_⟩
      have n0_ := Aside0.mk (Kd.R_lower ho0 (below_size bl_))
      have n1_ := Aside0.mk (blk_below (up_ BK266.out) hb)
      have n2_ := Aside0.mk (blk_below (up_ BK267.out) hb)
      have n3_ := Aside0.mk (blk_below (up_ BK280.out) hb)
      have n4_ := Aside0.mk (below_step bl_ hb)
      clear BK266
      clear BK267
      clear BK280
      clear HB
      have HO271 := n0_
      have BK266 := n1_
      have BK267 := n2_
      have BK280 := n3_
      have HB := n4_
      clear n0_ n1_ n2_ n3_ n4_
      (try clear hb)
      (try clear hb2)
      (try clear hk)
      (try clear hi)
      (try clear ho0)
      refine hK.out _ _ ⟨(blk_cell BK266.out 0).trans rfl, (blk_cell BK267.out 0).trans rfl, (blk_cell BK267.out 1).trans rfl, (blk_cell BK267.out 2).trans rfl⟩ (fun hHeld => ?_)
      clear hK K
      refine norm_ (a' := ?_) ?_ ?_
      rotate_left
      ·
       show Act.put _ (some 19) _ = _
       simp only [Act.put, List.setIfInBounds_toArray, List.set_cons_zero, List.set_cons_succ, i64_w, i32_w]
       rfl
      refine one_ (i := 3) (N := some 21) #[o_,o_,o_,o_,x_,o_,x_] rfl rfl (by kernel_rfl) (by decide) (fun K hK => ?_)
      refine goes_ Tryz.func7 (by kernel_rfl) rfl #[.agg #[.int .i64 a1_0, .int .i64 a1_1, .int .i64 a1_2]] (by rfl) rfl rfl (by (try simp only [List.map_toArray, List.map_cons, List.map_nil]); first | done | rfl | (simp only [List.length_drop, List.length_take]; rfl)) ?_
      with_reducible refine (laws_toItem.calls a1_0 a1_1 a1_2 t272 t273 t274 _ A11.out).mono ?_
      rintro e w31 ⟨rfl, hb⟩
      refine ⟨_, rfl, ?_⟩
      replace HO271 := Aside0.mk (Kd.R_below (by exact rU_ HO271.out) hb)
      replace BK266 := Aside0.mk (blk_below (up_ BK266.out) hb)
      replace BK267 := Aside0.mk (blk_below (up_ BK267.out) hb)
      replace BK280 := Aside0.mk (blk_below (up_ BK280.out) hb)
      replace HB := Aside0.mk (below_step bl_ hb)
      (try clear hb)
      (try clear hb2)
      (try clear hk)
      (try clear hi)
      obtain ⟨Ao32, co32, eo32⟩ := Kd.R_slice HO271.out
      (first | subst eo32 | (injection eo32 with f1_ f2_ f3_; have f4_ := f1_.symm; have f5_ := f3_.symm; clear f1_ f2_ f3_; subst f4_; subst f5_))
      refine hK.out _ _ ⟨(blk_cell BK266.out 0).trans rfl, (blk_cell BK267.out 0).trans rfl, (blk_cell BK267.out 1).trans rfl, (blk_cell BK267.out 2).trans rfl⟩ (fun hHeld => ?_)
      clear hK K
      refine norm_ (a' := ?_) ?_ ?_
      rotate_left
      ·
       show Act.put _ (some 21) _ = _
       simp only [Act.put, List.setIfInBounds_toArray, List.set_cons_zero, List.set_cons_succ, i64_w, i32_w]
       rfl
      refine one_ (i := 4) (N := some 22) #[o_,o_,o_,o_,o_,o_,x_] rfl rfl (by kernel_rfl) (by decide) (fun K hK => ?_)
      refine goes_ Tryz.func5 (by kernel_rfl) rfl #[.agg #[.slice Ao32 t269.length co32], .agg #[.int .i64 t272, .int .i64 t273, .int .i64 t274]] (by rfl) rfl rfl (by (try simp only [List.map_toArray, List.map_cons, List.map_nil]); first | done | rfl | (simp only [List.length_drop, List.length_take]; rfl)) ?_
      with_reducible refine (spec_TreeTake.calls _ _ t269 t272 t273 t274 t275 t278 t279 _ ?side1 ?side2 A12.out).mono ?_
      (case side1 => repeat (first | exact (Kd.R_reads' HO271.out).2.2 | (with_reducible refine Kd.C_alloc ?_ _) | (with_reducible refine Kd.C_drewN ?_ _) | (with_reducible refine Kd.C_drew ?_)))
      (case side2 => exact (Kd.R_reads' HO271.out).2.1)
      rintro e w33 ⟨v276, rfl, ho0, hb⟩
      refine ⟨_, rfl, ?_⟩
      have n0_ := Aside0.mk (Kd.R_elder' (by exact rU_ HO271.out) (Kd.R_base ho0) hb)
      have n1_ := Aside0.mk (Kd.R_lower (Kd.R_new' ho0 (Kd.R_lt (by exact rU_ HO271.out))) (below_size bl_))
      have n2_ := Aside0.mk (blk_below (up_ BK266.out) hb)
      have n3_ := Aside0.mk (blk_below (up_ BK267.out) hb)
      have n4_ := Aside0.mk (blk_below (up_ BK280.out) hb)
      have n5_ := Aside0.mk (below_step bl_ hb)
      clear HO271
      clear BK266
      clear BK267
      clear BK280
      clear HB
      have HO271 := n0_
      have HO277 := n1_
      have BK266 := n2_
      have BK267 := n3_
      have BK280 := n4_
      have HB := n5_
      clear n0_ n1_ n2_ n3_ n4_ n5_
      (try clear hb)
      (try clear hb2)
      (try clear hk)
      (try clear hi)
      (try clear ho0)
      refine hK.out _ _ ⟨(blk_cell BK266.out 0).trans rfl, (blk_cell BK267.out 0).trans rfl, (blk_cell BK267.out 1).trans rfl, (blk_cell BK267.out 2).trans rfl⟩ (fun hHeld => ?_)
      clear hK K
      refine norm_ (a' := ?_) ?_ ?_
      rotate_left
      ·
       show Act.put _ (some 22) _ = _
       simp only [Act.put, List.setIfInBounds_toArray, List.set_cons_zero, List.set_cons_succ, i64_w, i32_w]
       rfl
      exact norm_ (by simp only [putAll, Act.put, List.setIfInBounds_toArray, List.set_cons_zero, List.set_cons_succ]) (hCont (.slice Ao32 t269.length co32, v276, gb280) _ ⟨hHeld, (by exact rU_ (Kd.R_mono HO271.out (fun _ hk => hk.2))), (by exact rU_ (Kd.R_mono HO277.out (fun _ hk => hk.2))), (by exact up_ BK266.out), (by exact up_ BK267.out), (by exact up_ BK280.out), GW280.out, GE280.out, NB266_280.out, NB280_266.out, NB267_280.out, NB280_267.out, bl_⟩)
    rintro ⟨v270, v276, gb280⟩ w34 ⟨hS_, h0_, h1_, h2_, h3_, h4_, h5_, h6_, h7_, h8_, h9_, h10_, h11_⟩
    have n0_ : Aside0 (Kd.R k46 46 w34 w.heap.size (fun k_ => some k_ ≠ (v276 : Value).ownBlock) v270 t269) := ⟨h0_⟩
    have n1_ : Aside0 (Kd.R k46 46 w34 w.heap.size (fun k_ => some k_ ≠ (v270 : Value).ownBlock) v276 t275) := ⟨h1_⟩
    have n2_ : Aside0 (w34.heap[gb266]? = some (.cells #[.slice A0_0 l0_0.length c0_0] 24 (0, 0))) := ⟨h2_⟩
    have n3_ : Aside0 (w34.heap[gb267]? = some (.cells #[.int .i64 a1_0, .int .i64 a1_1, .int .i64 a1_2] 26 (0, 0))) := ⟨h3_⟩
    have n4_ : Aside0 (w34.heap[gb280]? = some (.cells #[.slice none 0 0, .int .i64 0, .int .i64 0] 32 (0, 0))) := ⟨h4_⟩
    have n5_ : Aside0 (w.heap.size ≤ gb280) := ⟨h5_⟩
    have n6_ : Aside0 (w.heap.size ≤ gb280) := ⟨h6_⟩
    have n7_ : Aside0 (gb266 ≠ gb280) := ⟨h7_⟩
    have n8_ : Aside0 (gb280 ≠ gb266) := ⟨h8_⟩
    have n9_ : Aside0 (gb267 ≠ gb280) := ⟨h9_⟩
    have n10_ : Aside0 (gb280 ≠ gb267) := ⟨h10_⟩
    have n11_ : Aside0 (Below w.heap.size w w34) := ⟨h11_⟩
    clear BK266
    clear BK267
    clear HB
    clear h0_ h1_ h2_ h3_ h4_ h5_ h6_ h7_ h8_ h9_ h10_ h11_
    have HO271 := n0_
    have HO277 := n1_
    have BK266 := n2_
    have BK267 := n3_
    have BK280 := n4_
    have GW280 := n5_
    have GE280 := n6_
    have NB266_280 := n7_
    have NB280_266 := n8_
    have NB267_280 := n9_
    have NB280_267 := n10_
    have HB := n11_
    clear n0_ n1_ n2_ n3_ n4_ n5_ n6_ n7_ n8_ n9_ n10_ n11_
    have hHeld : w34.cell? ⟨gb266, 0, none⟩ = some (.slice A0_0 l0_0.length c0_0) ∧ w34.cell? ⟨gb267, 0, none⟩ = some (.int .i64 a1_0) ∧ w34.cell? ⟨gb267, 1, none⟩ = some (.int .i64 a1_1) ∧ w34.cell? ⟨gb267, 2, none⟩ = some (.int .i64 a1_2) := hS_
    obtain ⟨Ao35, co35, eo35⟩ := Kd.R_slice HO277.out
    (first | subst eo35 | (injection eo35 with f1_ f2_ f3_; have f4_ := f1_.symm; have f5_ := f3_.symm; clear f1_ f2_ f3_; subst f4_; subst f5_))
    refine norm_ (a' := ?_) ?_ ?_
    rotate_left
    ·
     simp only [putAll, Act.put, List.setIfInBounds_toArray, List.set_cons_zero, List.set_cons_succ]
     rfl
    refine one_ (i := 6) (N := none) #[true, true, true, true, true, true, true] rfl rfl (by kernel_rfl) (by decide) (fun K hK => ?_)
    have hs36 : w34.cell? ⟨gb280, 0, none⟩ = some (.slice none 0 0) := (blk_cell BK280.out 0).trans rfl
    have hfs36 := blk_frozen BK280.out 0
    have hns36_0 := NB266_280.out
    have hns36_1 := NB267_280.out
    have hms36_0 := NB280_266.out
    have hms36_1 := NB280_267.out
    have hs37 : w34.cell? ⟨gb280, 1, none⟩ = some (.int .i64 0) := (blk_cell BK280.out 1).trans rfl
    have hfs37 := blk_frozen BK280.out 1
    have hns37_0 := NB266_280.out
    have hns37_1 := NB267_280.out
    have hms37_0 := NB280_266.out
    have hms37_1 := NB280_267.out
    have hs38 : w34.cell? ⟨gb280, 2, none⟩ = some (.int .i64 0) := (blk_cell BK280.out 2).trans rfl
    have hfs38 := blk_frozen BK280.out 2
    have hns38_0 := NB266_280.out
    have hns38_1 := NB267_280.out
    have hms38_0 := NB280_266.out
    have hms38_1 := NB280_267.out
    refine skip_ (w1 := ?_) (by rfl) rfl ?_ ?_
    rotate_left
    ·
     go_simp
     rfl
    refine hK.out _ _ ⟨((cell_far (p := ⟨gb280, _, none⟩) NB266_280.out _).trans (((cell_far (p := ⟨gb280, _, none⟩) NB266_280.out _).trans (((cell_far (p := ⟨gb280, _, none⟩) NB266_280.out _).trans (hHeld.1)))))), ((cell_far (p := ⟨gb280, _, none⟩) NB267_280.out _).trans (((cell_far (p := ⟨gb280, _, none⟩) NB267_280.out _).trans (((cell_far (p := ⟨gb280, _, none⟩) NB267_280.out _).trans (hHeld.2.1)))))), ((cell_far (p := ⟨gb280, _, none⟩) NB267_280.out _).trans (((cell_far (p := ⟨gb280, _, none⟩) NB267_280.out _).trans (((cell_far (p := ⟨gb280, _, none⟩) NB267_280.out _).trans (hHeld.2.2.1)))))), ((cell_far (p := ⟨gb280, _, none⟩) NB267_280.out _).trans (((cell_far (p := ⟨gb280, _, none⟩) NB267_280.out _).trans (((cell_far (p := ⟨gb280, _, none⟩) NB267_280.out _).trans (hHeld.2.2.2))))))⟩ (fun hHeld => ?_)
    clear hK K
    refine done_ (by kernel_rfl) ?_
    have hnb39 := NB266_280.out
    have hnc39 := NB280_266.out
    have hcz40_0 : w34.cell? ⟨gb266, 0, none⟩ = some (.slice A0_0 l0_0.length c0_0) := (blk_cell BK266.out 0).trans rfl
    have hfz40_0 := blk_frozen BK266.out 0
    try go_wp2_with (first | ((with_reducible refine gate_callee (f := 6) rfl ?_); refine gL_ (some 24) Tryz.func6 #[.agg #[.slice A0_0 l0_0.length c0_0]] ?_; (with_reducible refine (laws_toTree.calls k _ _ l0_0 t281 _ ?side1 ?side2 A13.out).mono ?_); (case side1 => exact Kd.C_below HR0_0.out bl_); (case side2 => exact HC0_0.out); rintro e w41 ⟨v282, rfl, ho0, hb⟩; refine ⟨_, rfl, ?_⟩; have n0_ := Aside0.mk (Kd.R_elder' (by exact rU_ ((Kd.R_mono (Kd.R_far (p := ⟨gb280, 2, none⟩) (Kd.R_far (p := ⟨gb280, 1, none⟩) (Kd.R_far (p := ⟨gb280, 0, none⟩) (Kd.R_types HO271.out BK280.out (by decide)) (fun _ hk => hk.2) (.slice Ao35 t275.length co35)) (fun _ hk => hk.2) (.int .i64 t278)) (fun _ hk => hk.2) (.int .i64 t279)) (fun _ h_ => h_.1)))) (Kd.R_base ho0) hb); have n1_ := Aside0.mk (Kd.R_elder' (by exact rU_ ((Kd.R_mono (Kd.R_far (p := ⟨gb280, 2, none⟩) (Kd.R_far (p := ⟨gb280, 1, none⟩) (Kd.R_far (p := ⟨gb280, 0, none⟩) (Kd.R_types HO277.out BK280.out (by decide)) (fun _ hk => hk.2) (.slice Ao35 t275.length co35)) (fun _ hk => hk.2) (.int .i64 t278)) (fun _ hk => hk.2) (.int .i64 t279)) (fun _ h_ => h_.1)))) (Kd.R_base ho0) hb); have n2_ := Aside0.mk (Kd.R_lower (Kd.R_new' (Kd.R_new' ho0 (Kd.R_lt (by exact rU_ ((Kd.R_mono (Kd.R_far (p := ⟨gb280, 2, none⟩) (Kd.R_far (p := ⟨gb280, 1, none⟩) (Kd.R_far (p := ⟨gb280, 0, none⟩) (Kd.R_types HO271.out BK280.out (by decide)) (fun _ hk => hk.2) (.slice Ao35 t275.length co35)) (fun _ hk => hk.2) (.int .i64 t278)) (fun _ hk => hk.2) (.int .i64 t279)) (fun _ h_ => h_.1)))))) (Kd.R_lt (by exact rU_ ((Kd.R_mono (Kd.R_far (p := ⟨gb280, 2, none⟩) (Kd.R_far (p := ⟨gb280, 1, none⟩) (Kd.R_far (p := ⟨gb280, 0, none⟩) (Kd.R_types HO277.out BK280.out (by decide)) (fun _ hk => hk.2) (.slice Ao35 t275.length co35)) (fun _ hk => hk.2) (.int .i64 t278)) (fun _ hk => hk.2) (.int .i64 t279)) (fun _ h_ => h_.1)))))) (below_size bl_)); have n3_ := Aside0.mk (blk_below (g := gb266) (o := .cells #[.slice A0_0 l0_0.length c0_0] 24 (0, 0)) (by (with_reducible repeat (first | refine blk_drewN ?_ _ | refine blk_drew ?_ | refine blk_alloc ?_ _)); refine blk_far ?_ NB266_280.out _; (with_reducible repeat (first | refine blk_drewN ?_ _ | refine blk_drew ?_ | refine blk_alloc ?_ _)); refine blk_far ?_ NB266_280.out _; (with_reducible repeat (first | refine blk_drewN ?_ _ | refine blk_drew ?_ | refine blk_alloc ?_ _)); refine blk_far ?_ NB266_280.out _; (with_reducible repeat (first | refine blk_drewN ?_ _ | refine blk_drew ?_ | refine blk_alloc ?_ _)); exact BK266.out) hb); have n4_ := Aside0.mk (blk_below (g := gb267) (o := .cells #[.int .i64 a1_0, .int .i64 a1_1, .int .i64 a1_2] 26 (0, 0)) (by (with_reducible repeat (first | refine blk_drewN ?_ _ | refine blk_drew ?_ | refine blk_alloc ?_ _)); refine blk_far ?_ NB267_280.out _; (with_reducible repeat (first | refine blk_drewN ?_ _ | refine blk_drew ?_ | refine blk_alloc ?_ _)); refine blk_far ?_ NB267_280.out _; (with_reducible repeat (first | refine blk_drewN ?_ _ | refine blk_drew ?_ | refine blk_alloc ?_ _)); refine blk_far ?_ NB267_280.out _; (with_reducible repeat (first | refine blk_drewN ?_ _ | refine blk_drew ?_ | refine blk_alloc ?_ _)); exact BK267.out) hb); have n5_ := Aside0.mk (blk_below (g := gb280) (o := .cells #[.slice Ao35 t275.length co35, .int .i64 t278, .int .i64 t279] 32 (0, 0)) (by (with_reducible repeat (first | refine blk_drewN ?_ _ | refine blk_drew ?_ | refine blk_alloc ?_ _)); refine blk_put (cs := #[.slice Ao35 t275.length co35, .int .i64 t278, .int .i64 0]) ?_ 2 _ rfl; (with_reducible repeat (first | refine blk_drewN ?_ _ | refine blk_drew ?_ | refine blk_alloc ?_ _)); refine blk_put (cs := #[.slice Ao35 t275.length co35, .int .i64 0, .int .i64 0]) ?_ 1 _ rfl; (with_reducible repeat (first | refine blk_drewN ?_ _ | refine blk_drew ?_ | refine blk_alloc ?_ _)); refine blk_put (cs := #[.slice none 0 0, .int .i64 0, .int .i64 0]) ?_ 0 _ rfl; (with_reducible repeat (first | refine blk_drewN ?_ _ | refine blk_drew ?_ | refine blk_alloc ?_ _)); exact BK280.out) hb); have n6_ := Aside0.mk (below_step bl_ hb); clear HO271; clear HO277; clear BK266; clear BK267; clear BK280; clear HB; have HO271 := n0_; have HO277 := n1_; have HO283 := n2_; have BK266 := n3_; have BK267 := n4_; have BK280 := n5_; have HB := n6_; clear n0_ n1_ n2_ n3_ n4_ n5_ n6_; (try clear hb); (try clear hb2); (try clear hk); (try clear hi); (try clear ho0)) | ((with_reducible refine gate_dst (N := 7) rfl ?_); refine box_event ?hg (N := 7) ?hd (cs := #[.slice none 0 0]) (t := 30) ?hr ?_; (case hd => rfl); (case hg => rfl); (case hr => first | (go_simp; done) | (go_simp; rfl)); intro gb284 hg w42 hbox hb; have n0_ := Aside0.mk (Kd.R_below (by exact rU_ HO271.out) hb); have n1_ := Aside0.mk (Kd.R_below (by exact rU_ HO277.out) hb); have n2_ := Aside0.mk (Kd.R_below (by exact rU_ HO283.out) hb); have n3_ := Aside0.mk (blk_below (up_ BK266.out) hb); have n4_ := Aside0.mk (blk_below (up_ BK267.out) hb); have n5_ := Aside0.mk (blk_below (up_ BK280.out) hb); have n6_ := Aside0.mk (below_step bl_ hb); have n7_ := Aside0.mk (hbox); have n8_ := Aside0.mk ((by rw [hg]; exact (below_size bl_) : w.heap.size ≤ gb284)); have n9_ := Aside0.mk ((by rw [hg]; exact (below_size bl_) : w.heap.size ≤ gb284)); have n10_ := Aside0.mk ((by rw [hg]; exact Nat.ne_of_lt (blk_lt (up_ BK266.out)) : gb266 ≠ gb284)); have n11_ := Aside0.mk ((by rw [hg]; exact Nat.ne_of_gt (blk_lt (up_ BK266.out)) : gb284 ≠ gb266)); have n12_ := Aside0.mk ((by rw [hg]; exact Nat.ne_of_lt (blk_lt (up_ BK267.out)) : gb267 ≠ gb284)); have n13_ := Aside0.mk ((by rw [hg]; exact Nat.ne_of_gt (blk_lt (up_ BK267.out)) : gb284 ≠ gb267)); have n14_ := Aside0.mk ((by rw [hg]; exact Nat.ne_of_lt (blk_lt (up_ BK280.out)) : gb280 ≠ gb284)); have n15_ := Aside0.mk ((by rw [hg]; exact Nat.ne_of_gt (blk_lt (up_ BK280.out)) : gb284 ≠ gb280)); clear HO271; clear HO277; clear HO283; clear BK266; clear BK267; clear BK280; clear HB; have HO271 := n0_; have HO277 := n1_; have HO283 := n2_; have BK266 := n3_; have BK267 := n4_; have BK280 := n5_; have HB := n6_; have BK284 := n7_; have GW284 := n8_; have GE284 := n9_; have NB266_284 := n10_; have NB284_266 := n11_; have NB267_284 := n12_; have NB284_267 := n13_; have NB280_284 := n14_; have NB284_280 := n15_; clear n0_ n1_ n2_ n3_ n4_ n5_ n6_ n7_ n8_ n9_ n10_ n11_ n12_ n13_ n14_ n15_; clear hb hbox hg; obtain ⟨Ao43, co43, eo43⟩ := Kd.R_slice HO283.out; subst eo43; have hnb44 := NB284_266.out; have hnc44 := NB266_284.out; have hnb45 := NB284_267.out; have hnc45 := NB267_284.out; have hnb46 := NB284_280.out; have hnc46 := NB280_284.out; have hcz47_0 : w42.cell? ⟨gb284, 0, none⟩ = some (.slice none 0 0) := (blk_cell BK284.out 0).trans rfl; have hfz47_0 := blk_frozen BK284.out 0))
    have n0_ : Aside0 (Kd.R k46 46 (w42.setCell ⟨gb284, 0, none⟩ (.slice Ao43 t281.length co43)) w.heap.size (fun k_ => some k_ ≠ (.slice Ao35 t275.length co35 : Value).ownBlock ∧ some k_ ≠ (.slice Ao43 t281.length co43 : Value).ownBlock) v270 t269) := ⟨by (with_reducible repeat (first | apply Kd.R_alloc | apply Kd.R_drewN | apply Kd.R_drew)); exact Kd.R_mono (Kd.R_far (p := ⟨gb284, 0, none⟩) (Kd.R_types HO271.out BK284.out (by decide)) (fun _ hk => hk.2) (.slice Ao43 t281.length co43)) (fun _ hk => ⟨hk.1.1, hk.1.2⟩)⟩
    have n1_ : Aside0 (Kd.R k46 46 (w42.setCell ⟨gb284, 0, none⟩ (.slice Ao43 t281.length co43)) w.heap.size (fun k_ => some k_ ≠ (v270 : Value).ownBlock ∧ some k_ ≠ (.slice Ao43 t281.length co43 : Value).ownBlock) (.slice Ao35 t275.length co35) t275) := ⟨by (with_reducible repeat (first | apply Kd.R_alloc | apply Kd.R_drewN | apply Kd.R_drew)); exact Kd.R_mono (Kd.R_far (p := ⟨gb284, 0, none⟩) (Kd.R_types HO277.out BK284.out (by decide)) (fun _ hk => hk.2) (.slice Ao43 t281.length co43)) (fun _ hk => ⟨hk.1.1, hk.1.2⟩)⟩
    have n2_ : Aside0 (Kd.R k46 46 (w42.setCell ⟨gb284, 0, none⟩ (.slice Ao43 t281.length co43)) w.heap.size (fun k_ => some k_ ≠ (v270 : Value).ownBlock ∧ some k_ ≠ (.slice Ao35 t275.length co35 : Value).ownBlock) (.slice Ao43 t281.length co43) t281) := ⟨by (with_reducible repeat (first | apply Kd.R_alloc | apply Kd.R_drewN | apply Kd.R_drew)); exact Kd.R_mono (Kd.R_far (p := ⟨gb284, 0, none⟩) (Kd.R_types HO283.out BK284.out (by decide)) (fun _ hk => hk.2) (.slice Ao43 t281.length co43)) (fun _ hk => ⟨hk.1.1.2, hk.1.2⟩)⟩
    have n3_ : Aside0 ((w42.setCell ⟨gb284, 0, none⟩ (.slice Ao43 t281.length co43)).heap[gb266]? = some (.cells #[.slice A0_0 l0_0.length c0_0] 24 (0, 0))) := ⟨by (with_reducible repeat (first | refine blk_drewN ?_ _ | refine blk_drew ?_ | refine blk_alloc ?_ _)); refine blk_far ?_ NB266_284.out _; (with_reducible repeat (first | refine blk_drewN ?_ _ | refine blk_drew ?_ | refine blk_alloc ?_ _)); exact BK266.out⟩
    have n4_ : Aside0 ((w42.setCell ⟨gb284, 0, none⟩ (.slice Ao43 t281.length co43)).heap[gb267]? = some (.cells #[.int .i64 a1_0, .int .i64 a1_1, .int .i64 a1_2] 26 (0, 0))) := ⟨by (with_reducible repeat (first | refine blk_drewN ?_ _ | refine blk_drew ?_ | refine blk_alloc ?_ _)); refine blk_far ?_ NB267_284.out _; (with_reducible repeat (first | refine blk_drewN ?_ _ | refine blk_drew ?_ | refine blk_alloc ?_ _)); exact BK267.out⟩
    have n5_ : Aside0 ((w42.setCell ⟨gb284, 0, none⟩ (.slice Ao43 t281.length co43)).heap[gb280]? = some (.cells #[.slice Ao35 t275.length co35, .int .i64 t278, .int .i64 t279] 32 (0, 0))) := ⟨by (with_reducible repeat (first | refine blk_drewN ?_ _ | refine blk_drew ?_ | refine blk_alloc ?_ _)); refine blk_far ?_ NB280_284.out _; (with_reducible repeat (first | refine blk_drewN ?_ _ | refine blk_drew ?_ | refine blk_alloc ?_ _)); exact BK280.out⟩
    have n6_ : Aside0 ((w42.setCell ⟨gb284, 0, none⟩ (.slice Ao43 t281.length co43)).heap[gb284]? = some (.cells #[.slice Ao43 t281.length co43] 30 (0, 0))) := ⟨by (with_reducible repeat (first | refine blk_drewN ?_ _ | refine blk_drew ?_ | refine blk_alloc ?_ _)); refine blk_put (cs := #[.slice none 0 0]) ?_ 0 _ rfl; (with_reducible repeat (first | refine blk_drewN ?_ _ | refine blk_drew ?_ | refine blk_alloc ?_ _)); exact BK284.out⟩
    have n7_ : Aside0 (Below w.heap.size w (w42.setCell ⟨gb284, 0, none⟩ (.slice Ao43 t281.length co43))) := ⟨bl_⟩
    (try clear HO271)
    (try clear HO277)
    (try clear HO283)
    (try clear BK266)
    (try clear BK267)
    (try clear BK280)
    (try clear BK284)
    (try clear HB)
    generalize (w42.setCell ⟨gb284, 0, none⟩ (.slice Ao43 t281.length co43)) = w48 at n0_ n1_ n2_ n3_ n4_ n5_ n6_ n7_ ⊢
    have HO271 := n0_
    have HO277 := n1_
    have HO283 := n2_
    have BK266 := n3_
    have BK267 := n4_
    have BK280 := n5_
    have BK284 := n6_
    have HB := n7_
    clear n0_ n1_ n2_ n3_ n4_ n5_ n6_ n7_
    replace HO271 := Aside0.mk (Kd.R_drew HO271.out)
    replace HO277 := Aside0.mk (Kd.R_drew HO277.out)
    replace HO283 := Aside0.mk (Kd.R_drew HO283.out)
    replace BK266 := Aside0.mk (blk_drew BK266.out)
    replace BK267 := Aside0.mk (blk_drew BK267.out)
    replace BK280 := Aside0.mk (blk_drew BK280.out)
    replace BK284 := Aside0.mk (blk_drew BK284.out)
    replace HB := Aside0.mk (below_drew1 HB.out)
    refine start_ (n := 6) (S := fun w' => w'.cell? ⟨gb284, 0, none⟩ = some (.slice Ao43 t281.length co43) ∧ w'.cell? ⟨gb267, 0, none⟩ = some (.int .i64 a1_0) ∧ w'.cell? ⟨gb267, 1, none⟩ = some (.int .i64 a1_1) ∧ w'.cell? ⟨gb267, 2, none⟩ = some (.int .i64 a1_2)) (ds := []) #[false, false, false, false, false, false] (by kernel_rfl) rfl rfl ⟨(blk_cell BK284.out 0).trans rfl, (blk_cell BK267.out 0).trans rfl, (blk_cell BK267.out 1).trans rfl, (blk_cell BK267.out 2).trans rfl⟩ (fun hHeld => ?_)
    generalize w48.drew = w49 at HO271 HO277 HO283 BK266 BK267 BK280 BK284 HB hHeld ⊢
    refine take_ (i := 0) (N := some 25) (v := ?_) (a' := ?_) #[true, false, false, false, false, false] rfl rfl (by kernel_rfl) (fun _ _ _ h => h) (Or.inl ⟨by rfl, ?_⟩) hHeld ?_ ?_; rotate_left; (rintro w' ⟨s0, s1, s2, s3⟩; go_simp; with_reducible rfl); rotate_left; (simp only [Act.put, List.setIfInBounds_toArray, List.set_cons_zero, List.set_cons_succ, i64_w, i32_w]; rfl)
    refine take_ (i := 1) (N := some 26) (v := ?_) (a' := ?_) #[true, true, false, false, false, false] rfl rfl (by kernel_rfl) (fun _ _ _ h => h) (Or.inl ⟨by rfl, ?_⟩) hHeld ?_ ?_; rotate_left; (rintro w' ⟨s0, s1, s2, s3⟩; go_simp; with_reducible rfl); rotate_left; (simp only [Act.put, List.setIfInBounds_toArray, List.set_cons_zero, List.set_cons_succ, i64_w, i32_w]; rfl)
    refine join_ (σ := Value × Nat) 1 #[true, true, true, true, true, false] (fun s_ => [(27, .agg #[.int .i64 t285, .int .i64 t286, .int .i64 t287]), (28, .agg #[s_.1, .int .i64 t291, .int .i64 t292]), (8, .pointer (some ⟨s_.2, 0, none⟩))]) (fun s_ w' => (w'.cell? ⟨gb284, 0, none⟩ = some (.slice Ao43 t281.length co43) ∧ w'.cell? ⟨gb267, 0, none⟩ = some (.int .i64 a1_0) ∧ w'.cell? ⟨gb267, 1, none⟩ = some (.int .i64 a1_1) ∧ w'.cell? ⟨gb267, 2, none⟩ = some (.int .i64 a1_2)) ∧ (Kd.R k46 46 w' w.heap.size (fun k_ => some k_ ≠ (.slice Ao35 t275.length co35 : Value).ownBlock ∧ some k_ ≠ (.slice Ao43 t281.length co43 : Value).ownBlock ∧ some k_ ≠ (s_.1 : Value).ownBlock) v270 t269) ∧ (Kd.R k46 46 w' w.heap.size (fun k_ => some k_ ≠ (v270 : Value).ownBlock ∧ some k_ ≠ (.slice Ao43 t281.length co43 : Value).ownBlock ∧ some k_ ≠ (s_.1 : Value).ownBlock) (.slice Ao35 t275.length co35) t275) ∧ (Kd.R k46 46 w' w.heap.size (fun k_ => some k_ ≠ (v270 : Value).ownBlock ∧ some k_ ≠ (.slice Ao35 t275.length co35 : Value).ownBlock ∧ some k_ ≠ (s_.1 : Value).ownBlock) (.slice Ao43 t281.length co43) t281) ∧ (Kd.R k46 46 w' w.heap.size (fun k_ => some k_ ≠ (v270 : Value).ownBlock ∧ some k_ ≠ (.slice Ao35 t275.length co35 : Value).ownBlock ∧ some k_ ≠ (.slice Ao43 t281.length co43 : Value).ownBlock) s_.1 t288) ∧ (w'.heap[gb266]? = some (.cells #[.slice A0_0 l0_0.length c0_0] 24 (0, 0))) ∧ (w'.heap[gb267]? = some (.cells #[.int .i64 a1_0, .int .i64 a1_1, .int .i64 a1_2] 26 (0, 0))) ∧ (w'.heap[gb280]? = some (.cells #[.slice Ao35 t275.length co35, .int .i64 t278, .int .i64 t279] 32 (0, 0))) ∧ (w'.heap[gb284]? = some (.cells #[.slice Ao43 t281.length co43] 30 (0, 0))) ∧ (w'.heap[s_.2]? = some (.cells #[.slice none 0 0, .int .i64 0, .int .i64 0] 32 (0, 0))) ∧ (w.heap.size ≤ s_.2) ∧ (w.heap.size ≤ s_.2) ∧ (gb266 ≠ s_.2) ∧ (s_.2 ≠ gb266) ∧ (gb267 ≠ s_.2) ∧ (s_.2 ≠ gb267) ∧ (gb280 ≠ s_.2) ∧ (s_.2 ≠ gb280) ∧ (gb284 ≠ s_.2) ∧ (s_.2 ≠ gb284) ∧ (Below w.heap.size w w')) ?_ ?_
    rotate_left
    ·
     intro hCont
     refine two_ (i := 2) (j := 4) (Ni := some 27) (Nj := some 8) #[true, true, true, false, false, false] #[true, true, false, false, true, false] rfl rfl rfl rfl (by kernel_rfl) (by decide) (by decide) (fun K hK => ?_) (fun K hK => ?_)
     ·
      skip
      refine goes_ Tryz.func7 (by kernel_rfl) rfl #[.agg #[.int .i64 a1_0, .int .i64 a1_1, .int .i64 a1_2]] (by rfl) rfl rfl (by (try simp only [List.map_toArray, List.map_cons, List.map_nil]); first | done | rfl | (simp only [List.length_drop, List.length_take]; rfl)) ?_
      with_reducible refine (laws_toItem.calls a1_0 a1_1 a1_2 t285 t286 t287 _ A14.out).mono ?_
      rintro e w50 ⟨rfl, hb⟩
      refine ⟨_, rfl, ?_⟩
      replace HO271 := Aside0.mk (Kd.R_below (by exact rU_ HO271.out) hb)
      replace HO277 := Aside0.mk (Kd.R_below (by exact rU_ HO277.out) hb)
      replace HO283 := Aside0.mk (Kd.R_below (by exact rU_ HO283.out) hb)
      replace BK266 := Aside0.mk (blk_below (up_ BK266.out) hb)
      replace BK267 := Aside0.mk (blk_below (up_ BK267.out) hb)
      replace BK280 := Aside0.mk (blk_below (up_ BK280.out) hb)
      replace BK284 := Aside0.mk (blk_below (up_ BK284.out) hb)
      replace HB := Aside0.mk (below_step bl_ hb)
      (try clear hb)
      (try clear hb2)
      (try clear hk)
      (try clear hi)
      refine hK.out _ _ ⟨(blk_cell BK284.out 0).trans rfl, (blk_cell BK267.out 0).trans rfl, (blk_cell BK267.out 1).trans rfl, (blk_cell BK267.out 2).trans rfl⟩ (fun hHeld => ?_)
      clear hK K
      refine norm_ (a' := ?_) ?_ ?_
      rotate_left
      ·
       show Act.put _ (some 27) _ = _
       simp only [Act.put, List.setIfInBounds_toArray, List.set_cons_zero, List.set_cons_succ, i64_w, i32_w]
       rfl
      refine two_ (i := 3) (j := 4) (Ni := some 28) (Nj := some 8) #[true, true, true, true, false, false] #[true, true, true, false, true, false] rfl rfl rfl rfl (by kernel_rfl) (by decide) (by decide) (fun K hK => ?_) (fun K hK => ?_)
      ·
       skip
       refine goes_ Tryz.func8 (by kernel_rfl) rfl #[.agg #[.slice Ao43 t281.length co43], .agg #[.int .i64 t285, .int .i64 t286, .int .i64 t287]] (by rfl) rfl rfl (by (try simp only [List.map_toArray, List.map_cons, List.map_nil]); first | done | rfl | (simp only [List.length_drop, List.length_take]; rfl)) ?_
       with_reducible refine (impl_TreeTake.calls _ _ t281 t285 t286 t287 t288 t291 t292 _ ?side1 ?side2 A15.out).mono ?_
       (case side1 => repeat (first | exact (Kd.R_reads' HO283.out).2.2 | (with_reducible refine Kd.C_alloc ?_ _) | (with_reducible refine Kd.C_drewN ?_ _) | (with_reducible refine Kd.C_drew ?_)))
       (case side2 => exact (Kd.R_reads' HO283.out).2.1)
       rintro e w51 ⟨v289, rfl, ho0, hb⟩
       refine ⟨_, rfl, ?_⟩
       have n0_ := Aside0.mk (Kd.R_elder' (by exact rU_ HO271.out) (Kd.R_base ho0) hb)
       have n1_ := Aside0.mk (Kd.R_elder' (by exact rU_ HO277.out) (Kd.R_base ho0) hb)
       have n2_ := Aside0.mk (Kd.R_elder' (by exact rU_ HO283.out) (Kd.R_base ho0) hb)
       have n3_ := Aside0.mk (Kd.R_lower (Kd.R_new' (Kd.R_new' (Kd.R_new' ho0 (Kd.R_lt (by exact rU_ HO271.out))) (Kd.R_lt (by exact rU_ HO277.out))) (Kd.R_lt (by exact rU_ HO283.out))) (below_size bl_))
       have n4_ := Aside0.mk (blk_below (up_ BK266.out) hb)
       have n5_ := Aside0.mk (blk_below (up_ BK267.out) hb)
       have n6_ := Aside0.mk (blk_below (up_ BK280.out) hb)
       have n7_ := Aside0.mk (blk_below (up_ BK284.out) hb)
       have n8_ := Aside0.mk (below_step bl_ hb)
       clear HO271
       clear HO277
       clear HO283
       clear BK266
       clear BK267
       clear BK280
       clear BK284
       clear HB
       have HO271 := n0_
       have HO277 := n1_
       have HO283 := n2_
       have HO290 := n3_
       have BK266 := n4_
       have BK267 := n5_
       have BK280 := n6_
       have BK284 := n7_
       have HB := n8_
       clear n0_ n1_ n2_ n3_ n4_ n5_ n6_ n7_ n8_
       (try clear hb)
       (try clear hb2)
       (try clear hk)
       (try clear hi)
       (try clear ho0)
       refine hK.out _ _ ⟨(blk_cell BK284.out 0).trans rfl, (blk_cell BK267.out 0).trans rfl, (blk_cell BK267.out 1).trans rfl, (blk_cell BK267.out 2).trans rfl⟩ (fun hHeld => ?_)
       clear hK K
       refine norm_ (a' := ?_) ?_ ?_
       rotate_left
       ·
        show Act.put _ (some 28) _ = _
        simp only [Act.put, List.setIfInBounds_toArray, List.set_cons_zero, List.set_cons_succ, i64_w, i32_w]
        rfl
       refine one_ (i := 4) (N := some 8) #[o_,o_,o_,o_,o_,x_] rfl rfl (by kernel_rfl) (by decide) (fun K hK => ?_)
       refine box_step ?hg (N := 8) ?hd (cs := #[.slice none 0 0, .int .i64 0, .int .i64 0]) (t := 32) ?hr ?_; (case hd => rfl); (case hg => rfl); (case hr => first | (go_simp; done) | (go_simp; rfl))
       intro gb293 hg w52 hbox hb
       have n0_ := Aside0.mk (Kd.R_below (by exact rU_ HO271.out) hb)
       have n1_ := Aside0.mk (Kd.R_below (by exact rU_ HO277.out) hb)
       have n2_ := Aside0.mk (Kd.R_below (by exact rU_ HO283.out) hb)
       have n3_ := Aside0.mk (Kd.R_below (by exact rU_ HO290.out) hb)
       have n4_ := Aside0.mk (blk_below (up_ BK266.out) hb)
       have n5_ := Aside0.mk (blk_below (up_ BK267.out) hb)
       have n6_ := Aside0.mk (blk_below (up_ BK280.out) hb)
       have n7_ := Aside0.mk (blk_below (up_ BK284.out) hb)
       have n8_ := Aside0.mk (below_step bl_ hb)
       have n9_ := Aside0.mk (hbox)
       have n10_ := Aside0.mk ((by rw [hg]; exact (below_size bl_) : w.heap.size ≤ gb293))
       have n11_ := Aside0.mk ((by rw [hg]; exact (below_size bl_) : w.heap.size ≤ gb293))
       have n12_ := Aside0.mk ((by rw [hg]; exact Nat.ne_of_lt (blk_lt (up_ BK266.out)) : gb266 ≠ gb293))
       have n13_ := Aside0.mk ((by rw [hg]; exact Nat.ne_of_gt (blk_lt (up_ BK266.out)) : gb293 ≠ gb266))
       have n14_ := Aside0.mk ((by rw [hg]; exact Nat.ne_of_lt (blk_lt (up_ BK267.out)) : gb267 ≠ gb293))
       have n15_ := Aside0.mk ((by rw [hg]; exact Nat.ne_of_gt (blk_lt (up_ BK267.out)) : gb293 ≠ gb267))
       have n16_ := Aside0.mk ((by rw [hg]; exact Nat.ne_of_lt (blk_lt (up_ BK280.out)) : gb280 ≠ gb293))
       have n17_ := Aside0.mk ((by rw [hg]; exact Nat.ne_of_gt (blk_lt (up_ BK280.out)) : gb293 ≠ gb280))
       have n18_ := Aside0.mk ((by rw [hg]; exact Nat.ne_of_lt (blk_lt (up_ BK284.out)) : gb284 ≠ gb293))
       have n19_ := Aside0.mk ((by rw [hg]; exact Nat.ne_of_gt (blk_lt (up_ BK284.out)) : gb293 ≠ gb284))
       clear HO271
       clear HO277
       clear HO283
       clear HO290
       clear BK266
       clear BK267
       clear BK280
       clear BK284
       clear HB
       have HO271 := n0_
       have HO277 := n1_
       have HO283 := n2_
       have HO290 := n3_
       have BK266 := n4_
       have BK267 := n5_
       have BK280 := n6_
       have BK284 := n7_
       have HB := n8_
       have BK293 := n9_
       have GW293 := n10_
       have GE293 := n11_
       have NB266_293 := n12_
       have NB293_266 := n13_
       have NB267_293 := n14_
       have NB293_267 := n15_
       have NB280_293 := n16_
       have NB293_280 := n17_
       have NB284_293 := n18_
       have NB293_284 := n19_
       clear n0_ n1_ n2_ n3_ n4_ n5_ n6_ n7_ n8_ n9_ n10_ n11_ n12_ n13_ n14_ n15_ n16_ n17_ n18_ n19_
       clear hb hbox hg
       refine hK.out _ _ ⟨(blk_cell BK284.out 0).trans rfl, (blk_cell BK267.out 0).trans rfl, (blk_cell BK267.out 1).trans rfl, (blk_cell BK267.out 2).trans rfl⟩ (fun hHeld => ?_)
       clear hK K
       refine norm_ (a' := ?_) ?_ ?_
       rotate_left
       ·
        show Act.put _ (some 8) _ = _
        simp only [Act.put, List.setIfInBounds_toArray, List.set_cons_zero, List.set_cons_succ, i64_w, i32_w]
        rfl
       exact norm_ (by simp only [putAll, Act.put, List.setIfInBounds_toArray, List.set_cons_zero, List.set_cons_succ]) (hCont (v289, gb293) _ ⟨hHeld, (by exact rU_ (Kd.R_mono HO271.out (fun _ hk => ⟨hk.1.1, ⟨hk.1.2, hk.2⟩⟩))), (by exact rU_ (Kd.R_mono HO277.out (fun _ hk => ⟨hk.1.1, ⟨hk.1.2, hk.2⟩⟩))), (by exact rU_ (Kd.R_mono HO283.out (fun _ hk => ⟨hk.1.1, ⟨hk.1.2, hk.2⟩⟩))), (by exact rU_ (Kd.R_mono HO290.out (fun _ hk => ⟨hk.1.1.2, ⟨hk.1.2, hk.2⟩⟩))), (by exact up_ BK266.out), (by exact up_ BK267.out), (by exact up_ BK280.out), (by exact up_ BK284.out), (by exact up_ BK293.out), GW293.out, GE293.out, NB266_293.out, NB293_266.out, NB267_293.out, NB293_267.out, NB280_293.out, NB293_280.out, NB284_293.out, NB293_284.out, bl_⟩)
      ·
       skip
       refine box_step ?hg (N := 8) ?hd (cs := #[.slice none 0 0, .int .i64 0, .int .i64 0]) (t := 32) ?hr ?_; (case hd => rfl); (case hg => rfl); (case hr => first | (go_simp; done) | (go_simp; rfl))
       intro gb293 hg w51 hbox hb
       have n0_ := Aside0.mk (Kd.R_below (by exact rU_ HO271.out) hb)
       have n1_ := Aside0.mk (Kd.R_below (by exact rU_ HO277.out) hb)
       have n2_ := Aside0.mk (Kd.R_below (by exact rU_ HO283.out) hb)
       have n3_ := Aside0.mk (blk_below (up_ BK266.out) hb)
       have n4_ := Aside0.mk (blk_below (up_ BK267.out) hb)
       have n5_ := Aside0.mk (blk_below (up_ BK280.out) hb)
       have n6_ := Aside0.mk (blk_below (up_ BK284.out) hb)
       have n7_ := Aside0.mk (below_step bl_ hb)
       have n8_ := Aside0.mk (hbox)
       have n9_ := Aside0.mk ((by rw [hg]; exact (below_size bl_) : w.heap.size ≤ gb293))
       have n10_ := Aside0.mk ((by rw [hg]; exact (below_size bl_) : w.heap.size ≤ gb293))
       have n11_ := Aside0.mk ((by rw [hg]; exact Nat.ne_of_lt (blk_lt (up_ BK266.out)) : gb266 ≠ gb293))
       have n12_ := Aside0.mk ((by rw [hg]; exact Nat.ne_of_gt (blk_lt (up_ BK266.out)) : gb293 ≠ gb266))
       have n13_ := Aside0.mk ((by rw [hg]; exact Nat.ne_of_lt (blk_lt (up_ BK267.out)) : gb267 ≠ gb293))
       have n14_ := Aside0.mk ((by rw [hg]; exact Nat.ne_of_gt (blk_lt (up_ BK267.out)) : gb293 ≠ gb267))
       have n15_ := Aside0.mk ((by rw [hg]; exact Nat.ne_of_lt (blk_lt (up_ BK280.out)) : gb280 ≠ gb293))
       have n16_ := Aside0.mk ((by rw [hg]; exact Nat.ne_of_gt (blk_lt (up_ BK280.out)) : gb293 ≠ gb280))
       have n17_ := Aside0.mk ((by rw [hg]; exact Nat.ne_of_lt (blk_lt (up_ BK284.out)) : gb284 ≠ gb293))
       have n18_ := Aside0.mk ((by rw [hg]; exact Nat.ne_of_gt (blk_lt (up_ BK284.out)) : gb293 ≠ gb284))
       clear HO271
       clear HO277
       clear HO283
       clear BK266
       clear BK267
       clear BK280
       clear BK284
       clear HB
       have HO271 := n0_
       have HO277 := n1_
       have HO283 := n2_
       have BK266 := n3_
       have BK267 := n4_
       have BK280 := n5_
       have BK284 := n6_
       have HB := n7_
       have BK293 := n8_
       have GW293 := n9_
       have GE293 := n10_
       have NB266_293 := n11_
       have NB293_266 := n12_
       have NB267_293 := n13_
       have NB293_267 := n14_
       have NB280_293 := n15_
       have NB293_280 := n16_
       have NB284_293 := n17_
       have NB293_284 := n18_
       clear n0_ n1_ n2_ n3_ n4_ n5_ n6_ n7_ n8_ n9_ n10_ n11_ n12_ n13_ n14_ n15_ n16_ n17_ n18_
       clear hb hbox hg
       refine hK.out _ _ ⟨(blk_cell BK284.out 0).trans rfl, (blk_cell BK267.out 0).trans rfl, (blk_cell BK267.out 1).trans rfl, (blk_cell BK267.out 2).trans rfl⟩ (fun hHeld => ?_)
       clear hK K
       refine norm_ (a' := ?_) ?_ ?_
       rotate_left
       ·
        show Act.put _ (some 8) _ = _
        simp only [Act.put, List.setIfInBounds_toArray, List.set_cons_zero, List.set_cons_succ, i64_w, i32_w]
        rfl
       refine one_ (i := 3) (N := some 28) #[o_,o_,o_,o_,o_,x_] rfl rfl (by kernel_rfl) (by decide) (fun K hK => ?_)
       refine goes_ Tryz.func8 (by kernel_rfl) rfl #[.agg #[.slice Ao43 t281.length co43], .agg #[.int .i64 t285, .int .i64 t286, .int .i64 t287]] (by rfl) rfl rfl (by (try simp only [List.map_toArray, List.map_cons, List.map_nil]); first | done | rfl | (simp only [List.length_drop, List.length_take]; rfl)) ?_
       with_reducible refine (impl_TreeTake.calls _ _ t281 t285 t286 t287 t288 t291 t292 _ ?side1 ?side2 A15.out).mono ?_
       (case side1 => repeat (first | exact (Kd.R_reads' HO283.out).2.2 | (with_reducible refine Kd.C_alloc ?_ _) | (with_reducible refine Kd.C_drewN ?_ _) | (with_reducible refine Kd.C_drew ?_)))
       (case side2 => exact (Kd.R_reads' HO283.out).2.1)
       rintro e w52 ⟨v289, rfl, ho0, hb⟩
       refine ⟨_, rfl, ?_⟩
       have n0_ := Aside0.mk (Kd.R_elder' (by exact rU_ HO271.out) (Kd.R_base ho0) hb)
       have n1_ := Aside0.mk (Kd.R_elder' (by exact rU_ HO277.out) (Kd.R_base ho0) hb)
       have n2_ := Aside0.mk (Kd.R_elder' (by exact rU_ HO283.out) (Kd.R_base ho0) hb)
       have n3_ := Aside0.mk (Kd.R_lower (Kd.R_new' (Kd.R_new' (Kd.R_new' ho0 (Kd.R_lt (by exact rU_ HO271.out))) (Kd.R_lt (by exact rU_ HO277.out))) (Kd.R_lt (by exact rU_ HO283.out))) (below_size bl_))
       have n4_ := Aside0.mk (blk_below (up_ BK266.out) hb)
       have n5_ := Aside0.mk (blk_below (up_ BK267.out) hb)
       have n6_ := Aside0.mk (blk_below (up_ BK280.out) hb)
       have n7_ := Aside0.mk (blk_below (up_ BK284.out) hb)
       have n8_ := Aside0.mk (blk_below (up_ BK293.out) hb)
       have n9_ := Aside0.mk (below_step bl_ hb)
       clear HO271
       clear HO277
       clear HO283
       clear BK266
       clear BK267
       clear BK280
       clear BK284
       clear BK293
       clear HB
       have HO271 := n0_
       have HO277 := n1_
       have HO283 := n2_
       have HO290 := n3_
       have BK266 := n4_
       have BK267 := n5_
       have BK280 := n6_
       have BK284 := n7_
       have BK293 := n8_
       have HB := n9_
       clear n0_ n1_ n2_ n3_ n4_ n5_ n6_ n7_ n8_ n9_
       (try clear hb)
       (try clear hb2)
       (try clear hk)
       (try clear hi)
       (try clear ho0)
       refine hK.out _ _ ⟨(blk_cell BK284.out 0).trans rfl, (blk_cell BK267.out 0).trans rfl, (blk_cell BK267.out 1).trans rfl, (blk_cell BK267.out 2).trans rfl⟩ (fun hHeld => ?_)
       clear hK K
       refine norm_ (a' := ?_) ?_ ?_
       rotate_left
       ·
        show Act.put _ (some 28) _ = _
        simp only [Act.put, List.setIfInBounds_toArray, List.set_cons_zero, List.set_cons_succ, i64_w, i32_w]
        rfl
       exact norm_ (by simp only [putAll, Act.put, List.setIfInBounds_toArray, List.set_cons_zero, List.set_cons_succ]) (hCont (v289, gb293) _ ⟨hHeld, (by exact rU_ (Kd.R_mono HO271.out (fun _ hk => ⟨hk.1.1, ⟨hk.1.2, hk.2⟩⟩))), (by exact rU_ (Kd.R_mono HO277.out (fun _ hk => ⟨hk.1.1, ⟨hk.1.2, hk.2⟩⟩))), (by exact rU_ (Kd.R_mono HO283.out (fun _ hk => ⟨hk.1.1, ⟨hk.1.2, hk.2⟩⟩))), (by exact rU_ (Kd.R_mono HO290.out (fun _ hk => ⟨hk.1.1.2, ⟨hk.1.2, hk.2⟩⟩))), (by exact up_ BK266.out), (by exact up_ BK267.out), (by exact up_ BK280.out), (by exact up_ BK284.out), (by exact up_ BK293.out), GW293.out, GE293.out, NB266_293.out, NB293_266.out, NB267_293.out, NB293_267.out, NB280_293.out, NB293_280.out, NB284_293.out, NB293_284.out, bl_⟩)
     ·
      skip
      refine box_step ?hg (N := 8) ?hd (cs := #[.slice none 0 0, .int .i64 0, .int .i64 0]) (t := 32) ?hr ?_; (case hd => rfl); (case hg => rfl); (case hr => first | (go_simp; done) | (go_simp; rfl))
      intro gb293 hg w50 hbox hb
      have n0_ := Aside0.mk (Kd.R_below (by exact rU_ HO271.out) hb)
      have n1_ := Aside0.mk (Kd.R_below (by exact rU_ HO277.out) hb)
      have n2_ := Aside0.mk (Kd.R_below (by exact rU_ HO283.out) hb)
      have n3_ := Aside0.mk (blk_below (up_ BK266.out) hb)
      have n4_ := Aside0.mk (blk_below (up_ BK267.out) hb)
      have n5_ := Aside0.mk (blk_below (up_ BK280.out) hb)
      have n6_ := Aside0.mk (blk_below (up_ BK284.out) hb)
      have n7_ := Aside0.mk (below_step bl_ hb)
      have n8_ := Aside0.mk (hbox)
      have n9_ := Aside0.mk ((by rw [hg]; exact (below_size bl_) : w.heap.size ≤ gb293))
      have n10_ := Aside0.mk ((by rw [hg]; exact (below_size bl_) : w.heap.size ≤ gb293))
      have n11_ := Aside0.mk ((by rw [hg]; exact Nat.ne_of_lt (blk_lt (up_ BK266.out)) : gb266 ≠ gb293))
      have n12_ := Aside0.mk ((by rw [hg]; exact Nat.ne_of_gt (blk_lt (up_ BK266.out)) : gb293 ≠ gb266))
      have n13_ := Aside0.mk ((by rw [hg]; exact Nat.ne_of_lt (blk_lt (up_ BK267.out)) : gb267 ≠ gb293))
      have n14_ := Aside0.mk ((by rw [hg]; exact Nat.ne_of_gt (blk_lt (up_ BK267.out)) : gb293 ≠ gb267))
      have n15_ := Aside0.mk ((by rw [hg]; exact Nat.ne_of_lt (blk_lt (up_ BK280.out)) : gb280 ≠ gb293))
      have n16_ := Aside0.mk ((by rw [hg]; exact Nat.ne_of_gt (blk_lt (up_ BK280.out)) : gb293 ≠ gb280))
      have n17_ := Aside0.mk ((by rw [hg]; exact Nat.ne_of_lt (blk_lt (up_ BK284.out)) : gb284 ≠ gb293))
      have n18_ := Aside0.mk ((by rw [hg]; exact Nat.ne_of_gt (blk_lt (up_ BK284.out)) : gb293 ≠ gb284))
      clear HO271
      clear HO277
      clear HO283
      clear BK266
      clear BK267
      clear BK280
      clear BK284
      clear HB
      have HO271 := n0_
      have HO277 := n1_
      have HO283 := n2_
      have BK266 := n3_
      have BK267 := n4_
      have BK280 := n5_
      have BK284 := n6_
      have HB := n7_
      have BK293 := n8_
      have GW293 := n9_
      have GE293 := n10_
      have NB266_293 := n11_
      have NB293_266 := n12_
      have NB267_293 := n13_
      have NB293_267 := n14_
      have NB280_293 := n15_
      have NB293_280 := n16_
      have NB284_293 := n17_
      have NB293_284 := n18_
      clear n0_ n1_ n2_ n3_ n4_ n5_ n6_ n7_ n8_ n9_ n10_ n11_ n12_ n13_ n14_ n15_ n16_ n17_ n18_
      clear hb hbox hg
      refine hK.out _ _ ⟨(blk_cell BK284.out 0).trans rfl, (blk_cell BK267.out 0).trans rfl, (blk_cell BK267.out 1).trans rfl, (blk_cell BK267.out 2).trans rfl⟩ (fun hHeld => ?_)
      clear hK K
      refine norm_ (a' := ?_) ?_ ?_
      rotate_left
      ·
       show Act.put _ (some 8) _ = _
       simp only [Act.put, List.setIfInBounds_toArray, List.set_cons_zero, List.set_cons_succ, i64_w, i32_w]
       rfl
      refine one_ (i := 2) (N := some 27) #[o_,o_,o_,x_,o_,x_] rfl rfl (by kernel_rfl) (by decide) (fun K hK => ?_)
      refine goes_ Tryz.func7 (by kernel_rfl) rfl #[.agg #[.int .i64 a1_0, .int .i64 a1_1, .int .i64 a1_2]] (by rfl) rfl rfl (by (try simp only [List.map_toArray, List.map_cons, List.map_nil]); first | done | rfl | (simp only [List.length_drop, List.length_take]; rfl)) ?_
      with_reducible refine (laws_toItem.calls a1_0 a1_1 a1_2 t285 t286 t287 _ A14.out).mono ?_
      rintro e w51 ⟨rfl, hb⟩
      refine ⟨_, rfl, ?_⟩
      replace HO271 := Aside0.mk (Kd.R_below (by exact rU_ HO271.out) hb)
      replace HO277 := Aside0.mk (Kd.R_below (by exact rU_ HO277.out) hb)
      replace HO283 := Aside0.mk (Kd.R_below (by exact rU_ HO283.out) hb)
      replace BK266 := Aside0.mk (blk_below (up_ BK266.out) hb)
      replace BK267 := Aside0.mk (blk_below (up_ BK267.out) hb)
      replace BK280 := Aside0.mk (blk_below (up_ BK280.out) hb)
      replace BK284 := Aside0.mk (blk_below (up_ BK284.out) hb)
      replace BK293 := Aside0.mk (blk_below (up_ BK293.out) hb)
      replace HB := Aside0.mk (below_step bl_ hb)
      (try clear hb)
      (try clear hb2)
      (try clear hk)
      (try clear hi)
      refine hK.out _ _ ⟨(blk_cell BK284.out 0).trans rfl, (blk_cell BK267.out 0).trans rfl, (blk_cell BK267.out 1).trans rfl, (blk_cell BK267.out 2).trans rfl⟩ (fun hHeld => ?_)
      clear hK K
      refine norm_ (a' := ?_) ?_ ?_
      rotate_left
      ·
       show Act.put _ (some 27) _ = _
       simp only [Act.put, List.setIfInBounds_toArray, List.set_cons_zero, List.set_cons_succ, i64_w, i32_w]
       rfl
      refine one_ (i := 3) (N := some 28) #[o_,o_,o_,o_,o_,x_] rfl rfl (by kernel_rfl) (by decide) (fun K hK => ?_)
      refine goes_ Tryz.func8 (by kernel_rfl) rfl #[.agg #[.slice Ao43 t281.length co43], .agg #[.int .i64 t285, .int .i64 t286, .int .i64 t287]] (by rfl) rfl rfl (by (try simp only [List.map_toArray, List.map_cons, List.map_nil]); first | done | rfl | (simp only [List.length_drop, List.length_take]; rfl)) ?_
      with_reducible refine (impl_TreeTake.calls _ _ t281 t285 t286 t287 t288 t291 t292 _ ?side1 ?side2 A15.out).mono ?_
      (case side1 => repeat (first | exact (Kd.R_reads' HO283.out).2.2 | (with_reducible refine Kd.C_alloc ?_ _) | (with_reducible refine Kd.C_drewN ?_ _) | (with_reducible refine Kd.C_drew ?_)))
      (case side2 => exact (Kd.R_reads' HO283.out).2.1)
      rintro e w52 ⟨v289, rfl, ho0, hb⟩
      refine ⟨_, rfl, ?_⟩
      have n0_ := Aside0.mk (Kd.R_elder' (by exact rU_ HO271.out) (Kd.R_base ho0) hb)
      have n1_ := Aside0.mk (Kd.R_elder' (by exact rU_ HO277.out) (Kd.R_base ho0) hb)
      have n2_ := Aside0.mk (Kd.R_elder' (by exact rU_ HO283.out) (Kd.R_base ho0) hb)
      have n3_ := Aside0.mk (Kd.R_lower (Kd.R_new' (Kd.R_new' (Kd.R_new' ho0 (Kd.R_lt (by exact rU_ HO271.out))) (Kd.R_lt (by exact rU_ HO277.out))) (Kd.R_lt (by exact rU_ HO283.out))) (below_size bl_))
      have n4_ := Aside0.mk (blk_below (up_ BK266.out) hb)
      have n5_ := Aside0.mk (blk_below (up_ BK267.out) hb)
      have n6_ := Aside0.mk (blk_below (up_ BK280.out) hb)
      have n7_ := Aside0.mk (blk_below (up_ BK284.out) hb)
      have n8_ := Aside0.mk (blk_below (up_ BK293.out) hb)
      have n9_ := Aside0.mk (below_step bl_ hb)
      clear HO271
      clear HO277
      clear HO283
      clear BK266
      clear BK267
      clear BK280
      clear BK284
      clear BK293
      clear HB
      have HO271 := n0_
      have HO277 := n1_
      have HO283 := n2_
      have HO290 := n3_
      have BK266 := n4_
      have BK267 := n5_
      have BK280 := n6_
      have BK284 := n7_
      have BK293 := n8_
      have HB := n9_
      clear n0_ n1_ n2_ n3_ n4_ n5_ n6_ n7_ n8_ n9_
      (try clear hb)
      (try clear hb2)
      (try clear hk)
      (try clear hi)
      (try clear ho0)
      refine hK.out _ _ ⟨(blk_cell BK284.out 0).trans rfl, (blk_cell BK267.out 0).trans rfl, (blk_cell BK267.out 1).trans rfl, (blk_cell BK267.out 2).trans rfl⟩ (fun hHeld => ?_)
      clear hK K
      refine norm_ (a' := ?_) ?_ ?_
      rotate_left
      ·
       show Act.put _ (some 28) _ = _
       simp only [Act.put, List.setIfInBounds_toArray, List.set_cons_zero, List.set_cons_succ, i64_w, i32_w]
       rfl
      exact norm_ (by simp only [putAll, Act.put, List.setIfInBounds_toArray, List.set_cons_zero, List.set_cons_succ]) (hCont (v289, gb293) _ ⟨hHeld, (by exact rU_ (Kd.R_mono HO271.out (fun _ hk => ⟨hk.1.1, ⟨hk.1.2, hk.2⟩⟩))), (by exact rU_ (Kd.R_mono HO277.out (fun _ hk => ⟨hk.1.1, ⟨hk.1.2, hk.2⟩⟩))), (by exact rU_ (Kd.R_mono HO283.out (fun _ hk => ⟨hk.1.1, ⟨hk.1.2, hk.2⟩⟩))), (by exact rU_ (Kd.R_mono HO290.out (fun _ hk => ⟨hk.1.1.2, ⟨hk.1.2, hk.2⟩⟩))), (by exact up_ BK266.out), (by exact up_ BK267.out), (by exact up_ BK280.out), (by exact up_ BK284.out), (by exact up_ BK293.out), GW293.out, GE293.out, NB266_293.out, NB293_266.out, NB267_293.out, NB293_267.out, NB280_293.out, NB293_280.out, NB284_293.out, NB293_284.out, bl_⟩)
    rintro ⟨v289, gb293⟩ w53 ⟨hS_, h0_, h1_, h2_, h3_, h4_, h5_, h6_, h7_, h8_, h9_, h10_, h11_, h12_, h13_, h14_, h15_, h16_, h17_, h18_, h19_⟩
    have n0_ : Aside0 (Kd.R k46 46 w53 w.heap.size (fun k_ => some k_ ≠ (.slice Ao35 t275.length co35 : Value).ownBlock ∧ some k_ ≠ (.slice Ao43 t281.length co43 : Value).ownBlock ∧ some k_ ≠ (v289 : Value).ownBlock) v270 t269) := ⟨h0_⟩
    have n1_ : Aside0 (Kd.R k46 46 w53 w.heap.size (fun k_ => some k_ ≠ (v270 : Value).ownBlock ∧ some k_ ≠ (.slice Ao43 t281.length co43 : Value).ownBlock ∧ some k_ ≠ (v289 : Value).ownBlock) (.slice Ao35 t275.length co35) t275) := ⟨h1_⟩
    have n2_ : Aside0 (Kd.R k46 46 w53 w.heap.size (fun k_ => some k_ ≠ (v270 : Value).ownBlock ∧ some k_ ≠ (.slice Ao35 t275.length co35 : Value).ownBlock ∧ some k_ ≠ (v289 : Value).ownBlock) (.slice Ao43 t281.length co43) t281) := ⟨h2_⟩
    have n3_ : Aside0 (Kd.R k46 46 w53 w.heap.size (fun k_ => some k_ ≠ (v270 : Value).ownBlock ∧ some k_ ≠ (.slice Ao35 t275.length co35 : Value).ownBlock ∧ some k_ ≠ (.slice Ao43 t281.length co43 : Value).ownBlock) v289 t288) := ⟨h3_⟩
    have n4_ : Aside0 (w53.heap[gb266]? = some (.cells #[.slice A0_0 l0_0.length c0_0] 24 (0, 0))) := ⟨h4_⟩
    have n5_ : Aside0 (w53.heap[gb267]? = some (.cells #[.int .i64 a1_0, .int .i64 a1_1, .int .i64 a1_2] 26 (0, 0))) := ⟨h5_⟩
    have n6_ : Aside0 (w53.heap[gb280]? = some (.cells #[.slice Ao35 t275.length co35, .int .i64 t278, .int .i64 t279] 32 (0, 0))) := ⟨h6_⟩
    have n7_ : Aside0 (w53.heap[gb284]? = some (.cells #[.slice Ao43 t281.length co43] 30 (0, 0))) := ⟨h7_⟩
    have n8_ : Aside0 (w53.heap[gb293]? = some (.cells #[.slice none 0 0, .int .i64 0, .int .i64 0] 32 (0, 0))) := ⟨h8_⟩
    have n9_ : Aside0 (w.heap.size ≤ gb293) := ⟨h9_⟩
    have n10_ : Aside0 (w.heap.size ≤ gb293) := ⟨h10_⟩
    have n11_ : Aside0 (gb266 ≠ gb293) := ⟨h11_⟩
    have n12_ : Aside0 (gb293 ≠ gb266) := ⟨h12_⟩
    have n13_ : Aside0 (gb267 ≠ gb293) := ⟨h13_⟩
    have n14_ : Aside0 (gb293 ≠ gb267) := ⟨h14_⟩
    have n15_ : Aside0 (gb280 ≠ gb293) := ⟨h15_⟩
    have n16_ : Aside0 (gb293 ≠ gb280) := ⟨h16_⟩
    have n17_ : Aside0 (gb284 ≠ gb293) := ⟨h17_⟩
    have n18_ : Aside0 (gb293 ≠ gb284) := ⟨h18_⟩
    have n19_ : Aside0 (Below w.heap.size w w53) := ⟨h19_⟩
    clear HO271
    clear HO277
    clear HO283
    clear BK266
    clear BK267
    clear BK280
    clear BK284
    clear HB
    clear h0_ h1_ h2_ h3_ h4_ h5_ h6_ h7_ h8_ h9_ h10_ h11_ h12_ h13_ h14_ h15_ h16_ h17_ h18_ h19_
    have HO271 := n0_
    have HO277 := n1_
    have HO283 := n2_
    have HO290 := n3_
    have BK266 := n4_
    have BK267 := n5_
    have BK280 := n6_
    have BK284 := n7_
    have BK293 := n8_
    have GW293 := n9_
    have GE293 := n10_
    have NB266_293 := n11_
    have NB293_266 := n12_
    have NB267_293 := n13_
    have NB293_267 := n14_
    have NB280_293 := n15_
    have NB293_280 := n16_
    have NB284_293 := n17_
    have NB293_284 := n18_
    have HB := n19_
    clear n0_ n1_ n2_ n3_ n4_ n5_ n6_ n7_ n8_ n9_ n10_ n11_ n12_ n13_ n14_ n15_ n16_ n17_ n18_ n19_
    have hHeld : w53.cell? ⟨gb284, 0, none⟩ = some (.slice Ao43 t281.length co43) ∧ w53.cell? ⟨gb267, 0, none⟩ = some (.int .i64 a1_0) ∧ w53.cell? ⟨gb267, 1, none⟩ = some (.int .i64 a1_1) ∧ w53.cell? ⟨gb267, 2, none⟩ = some (.int .i64 a1_2) := hS_
    obtain ⟨Ao54, co54, eo54⟩ := Kd.R_slice HO290.out
    (first | subst eo54 | (injection eo54 with f1_ f2_ f3_; have f4_ := f1_.symm; have f5_ := f3_.symm; clear f1_ f2_ f3_; subst f4_; subst f5_))
    refine norm_ (a' := ?_) ?_ ?_
    rotate_left
    ·
     simp only [putAll, Act.put, List.setIfInBounds_toArray, List.set_cons_zero, List.set_cons_succ]
     rfl
    refine one_ (i := 5) (N := none) #[true, true, true, true, true, true] rfl rfl (by kernel_rfl) (by decide) (fun K hK => ?_)
    have hs55 : w53.cell? ⟨gb293, 0, none⟩ = some (.slice none 0 0) := (blk_cell BK293.out 0).trans rfl
    have hfs55 := blk_frozen BK293.out 0
    have hns55_0 := NB266_293.out
    have hns55_1 := NB267_293.out
    have hns55_2 := NB280_293.out
    have hns55_3 := NB284_293.out
    have hms55_0 := NB293_266.out
    have hms55_1 := NB293_267.out
    have hms55_2 := NB293_280.out
    have hms55_3 := NB293_284.out
    have hs56 : w53.cell? ⟨gb293, 1, none⟩ = some (.int .i64 0) := (blk_cell BK293.out 1).trans rfl
    have hfs56 := blk_frozen BK293.out 1
    have hns56_0 := NB266_293.out
    have hns56_1 := NB267_293.out
    have hns56_2 := NB280_293.out
    have hns56_3 := NB284_293.out
    have hms56_0 := NB293_266.out
    have hms56_1 := NB293_267.out
    have hms56_2 := NB293_280.out
    have hms56_3 := NB293_284.out
    have hs57 : w53.cell? ⟨gb293, 2, none⟩ = some (.int .i64 0) := (blk_cell BK293.out 2).trans rfl
    have hfs57 := blk_frozen BK293.out 2
    have hns57_0 := NB266_293.out
    have hns57_1 := NB267_293.out
    have hns57_2 := NB280_293.out
    have hns57_3 := NB284_293.out
    have hms57_0 := NB293_266.out
    have hms57_1 := NB293_267.out
    have hms57_2 := NB293_280.out
    have hms57_3 := NB293_284.out
    refine skip_ (w1 := ?_) (by rfl) rfl ?_ ?_
    rotate_left
    ·
     go_simp
     rfl
    refine hK.out _ _ ⟨((cell_far (p := ⟨gb293, _, none⟩) NB284_293.out _).trans (((cell_far (p := ⟨gb293, _, none⟩) NB284_293.out _).trans (((cell_far (p := ⟨gb293, _, none⟩) NB284_293.out _).trans (hHeld.1)))))), ((cell_far (p := ⟨gb293, _, none⟩) NB267_293.out _).trans (((cell_far (p := ⟨gb293, _, none⟩) NB267_293.out _).trans (((cell_far (p := ⟨gb293, _, none⟩) NB267_293.out _).trans (hHeld.2.1)))))), ((cell_far (p := ⟨gb293, _, none⟩) NB267_293.out _).trans (((cell_far (p := ⟨gb293, _, none⟩) NB267_293.out _).trans (((cell_far (p := ⟨gb293, _, none⟩) NB267_293.out _).trans (hHeld.2.2.1)))))), ((cell_far (p := ⟨gb293, _, none⟩) NB267_293.out _).trans (((cell_far (p := ⟨gb293, _, none⟩) NB267_293.out _).trans (((cell_far (p := ⟨gb293, _, none⟩) NB267_293.out _).trans (hHeld.2.2.2))))))⟩ (fun hHeld => ?_)
    clear hK K
    refine done_ (by kernel_rfl) ?_
    have hnb58 := NB293_266.out
    have hnc58 := NB266_293.out
    have hnb59 := NB293_267.out
    have hnc59 := NB267_293.out
    have hnb60 := NB293_280.out
    have hnc60 := NB280_293.out
    have hnb61 := NB293_284.out
    have hnc61 := NB284_293.out
    have hcz62_0 : w53.cell? ⟨gb293, 0, none⟩ = some (.slice none 0 0) := (blk_cell BK293.out 0).trans rfl
    have hcz62_1 : w53.cell? ⟨gb293, 1, none⟩ = some (.int .i64 0) := (blk_cell BK293.out 1).trans rfl
    have hcz62_2 : w53.cell? ⟨gb293, 2, none⟩ = some (.int .i64 0) := (blk_cell BK293.out 2).trans rfl
    have hfz62_0 := blk_frozen BK293.out 0
    have hfz62_1 := blk_frozen BK293.out 1
    have hfz62_2 := blk_frozen BK293.out 2
    have hnb63 := NB280_267.out
    have hnc63 := NB267_280.out
    have hcz64_0 : w53.cell? ⟨gb280, 0, none⟩ = some (.slice Ao35 t275.length co35) := (blk_cell BK280.out 0).trans rfl
    have hcz64_1 : w53.cell? ⟨gb280, 1, none⟩ = some (.int .i64 t278) := (blk_cell BK280.out 1).trans rfl
    have hcz64_2 : w53.cell? ⟨gb280, 2, none⟩ = some (.int .i64 t279) := (blk_cell BK280.out 2).trans rfl
    have hfz64_0 := blk_frozen BK280.out 0
    have hfz64_1 := blk_frozen BK280.out 1
    have hfz64_2 := blk_frozen BK280.out 2
    try go_wp2_with (first | ((with_reducible refine gate_callee (f := 9) rfl ?_); refine gL_ (some 31) Tryz.func9 #[.agg #[.slice Ao54 t288.length co54, .int .i64 t291, .int .i64 t292], .agg #[.slice Ao35 t275.length co35, .int .i64 t278, .int .i64 t279]] ?_; (with_reducible refine (laws_eqTreeOut.calls k _ _ t288 t291 t292 _ _ t275 t278 t279 true _ ?side1 ?side2 ?side3 ?side4 A16.out).mono ?_); (case side1 => refine (Kd.R_reads' (e := 46) (base := w.heap.size) (ok := fun k_ => (some k_ ≠ (v270 : Value).ownBlock ∧ (some k_ ≠ (.slice Ao35 t275.length co35 : Value).ownBlock ∧ some k_ ≠ (.slice Ao43 t281.length co43 : Value).ownBlock))) (n := t288.length) (c := co54) ?_).2.2; exact (by exact rU_ ((Kd.R_mono (Kd.R_far (p := ⟨gb293, 2, none⟩) (Kd.R_far (p := ⟨gb293, 1, none⟩) (Kd.R_far (p := ⟨gb293, 0, none⟩) (Kd.R_types HO290.out BK293.out (by decide)) (fun _ hk => hk.2) (.slice Ao54 t288.length co54)) (fun _ hk => hk.2) (.int .i64 t291)) (fun _ hk => hk.2) (.int .i64 t292)) (fun _ h_ => h_.1))))); (case side2 => exact (Kd.R_reads' HO290.out).2.1); (case side3 => refine (Kd.R_reads' (e := 46) (base := w.heap.size) (ok := fun k_ => (some k_ ≠ (v270 : Value).ownBlock ∧ (some k_ ≠ (.slice Ao43 t281.length co43 : Value).ownBlock ∧ some k_ ≠ (.slice Ao54 t288.length co54 : Value).ownBlock))) (n := t275.length) (c := co35) ?_).2.2; exact (by exact rU_ ((Kd.R_mono (Kd.R_far (p := ⟨gb293, 2, none⟩) (Kd.R_far (p := ⟨gb293, 1, none⟩) (Kd.R_far (p := ⟨gb293, 0, none⟩) (Kd.R_types HO277.out BK293.out (by decide)) (fun _ hk => hk.2) (.slice Ao54 t288.length co54)) (fun _ hk => hk.2) (.int .i64 t291)) (fun _ hk => hk.2) (.int .i64 t292)) (fun _ h_ => h_.1))))); (case side4 => exact (Kd.R_reads' HO277.out).2.1); rintro e w65 ⟨rfl, hb⟩; refine ⟨_, rfl, ?_⟩; have n0_ := Aside0.mk (Kd.R_below (by exact rU_ ((Kd.R_mono (Kd.R_far (p := ⟨gb293, 2, none⟩) (Kd.R_far (p := ⟨gb293, 1, none⟩) (Kd.R_far (p := ⟨gb293, 0, none⟩) (Kd.R_types HO271.out BK293.out (by decide)) (fun _ hk => hk.2) (.slice Ao54 t288.length co54)) (fun _ hk => hk.2) (.int .i64 t291)) (fun _ hk => hk.2) (.int .i64 t292)) (fun _ h_ => h_.1)))) hb); have n1_ := Aside0.mk (Kd.R_below (by exact rU_ ((Kd.R_mono (Kd.R_far (p := ⟨gb293, 2, none⟩) (Kd.R_far (p := ⟨gb293, 1, none⟩) (Kd.R_far (p := ⟨gb293, 0, none⟩) (Kd.R_types HO277.out BK293.out (by decide)) (fun _ hk => hk.2) (.slice Ao54 t288.length co54)) (fun _ hk => hk.2) (.int .i64 t291)) (fun _ hk => hk.2) (.int .i64 t292)) (fun _ h_ => h_.1)))) hb); have n2_ := Aside0.mk (Kd.R_below (by exact rU_ ((Kd.R_mono (Kd.R_far (p := ⟨gb293, 2, none⟩) (Kd.R_far (p := ⟨gb293, 1, none⟩) (Kd.R_far (p := ⟨gb293, 0, none⟩) (Kd.R_types HO283.out BK293.out (by decide)) (fun _ hk => hk.2) (.slice Ao54 t288.length co54)) (fun _ hk => hk.2) (.int .i64 t291)) (fun _ hk => hk.2) (.int .i64 t292)) (fun _ h_ => h_.1)))) hb); have n3_ := Aside0.mk (Kd.R_below (by exact rU_ ((Kd.R_mono (Kd.R_far (p := ⟨gb293, 2, none⟩) (Kd.R_far (p := ⟨gb293, 1, none⟩) (Kd.R_far (p := ⟨gb293, 0, none⟩) (Kd.R_types HO290.out BK293.out (by decide)) (fun _ hk => hk.2) (.slice Ao54 t288.length co54)) (fun _ hk => hk.2) (.int .i64 t291)) (fun _ hk => hk.2) (.int .i64 t292)) (fun _ h_ => h_.1)))) hb); have n4_ := Aside0.mk (blk_below (g := gb266) (o := .cells #[.slice A0_0 l0_0.length c0_0] 24 (0, 0)) (by (with_reducible repeat (first | refine blk_drewN ?_ _ | refine blk_drew ?_ | refine blk_alloc ?_ _)); refine blk_far ?_ NB266_293.out _; (with_reducible repeat (first | refine blk_drewN ?_ _ | refine blk_drew ?_ | refine blk_alloc ?_ _)); refine blk_far ?_ NB266_293.out _; (with_reducible repeat (first | refine blk_drewN ?_ _ | refine blk_drew ?_ | refine blk_alloc ?_ _)); refine blk_far ?_ NB266_293.out _; (with_reducible repeat (first | refine blk_drewN ?_ _ | refine blk_drew ?_ | refine blk_alloc ?_ _)); exact BK266.out) hb); have n5_ := Aside0.mk (blk_below (g := gb267) (o := .cells #[.int .i64 a1_0, .int .i64 a1_1, .int .i64 a1_2] 26 (0, 0)) (by (with_reducible repeat (first | refine blk_drewN ?_ _ | refine blk_drew ?_ | refine blk_alloc ?_ _)); refine blk_far ?_ NB267_293.out _; (with_reducible repeat (first | refine blk_drewN ?_ _ | refine blk_drew ?_ | refine blk_alloc ?_ _)); refine blk_far ?_ NB267_293.out _; (with_reducible repeat (first | refine blk_drewN ?_ _ | refine blk_drew ?_ | refine blk_alloc ?_ _)); refine blk_far ?_ NB267_293.out _; (with_reducible repeat (first | refine blk_drewN ?_ _ | refine blk_drew ?_ | refine blk_alloc ?_ _)); exact BK267.out) hb); have n6_ := Aside0.mk (blk_below (g := gb280) (o := .cells #[.slice Ao35 t275.length co35, .int .i64 t278, .int .i64 t279] 32 (0, 0)) (by (with_reducible repeat (first | refine blk_drewN ?_ _ | refine blk_drew ?_ | refine blk_alloc ?_ _)); refine blk_far ?_ NB280_293.out _; (with_reducible repeat (first | refine blk_drewN ?_ _ | refine blk_drew ?_ | refine blk_alloc ?_ _)); refine blk_far ?_ NB280_293.out _; (with_reducible repeat (first | refine blk_drewN ?_ _ | refine blk_drew ?_ | refine blk_alloc ?_ _)); refine blk_far ?_ NB280_293.out _; (with_reducible repeat (first | refine blk_drewN ?_ _ | refine blk_drew ?_ | refine blk_alloc ?_ _)); exact BK280.out) hb); have n7_ := Aside0.mk (blk_below (g := gb284) (o := .cells #[.slice Ao43 t281.length co43] 30 (0, 0)) (by (with_reducible repeat (first | refine blk_drewN ?_ _ | refine blk_drew ?_ | refine blk_alloc ?_ _)); refine blk_far ?_ NB284_293.out _; (with_reducible repeat (first | refine blk_drewN ?_ _ | refine blk_drew ?_ | refine blk_alloc ?_ _)); refine blk_far ?_ NB284_293.out _; (with_reducible repeat (first | refine blk_drewN ?_ _ | refine blk_drew ?_ | refine blk_alloc ?_ _)); refine blk_far ?_ NB284_293.out _; (with_reducible repeat (first | refine blk_drewN ?_ _ | refine blk_drew ?_ | refine blk_alloc ?_ _)); exact BK284.out) hb); have n8_ := Aside0.mk (blk_below (g := gb293) (o := .cells #[.slice Ao54 t288.length co54, .int .i64 t291, .int .i64 t292] 32 (0, 0)) (by (with_reducible repeat (first | refine blk_drewN ?_ _ | refine blk_drew ?_ | refine blk_alloc ?_ _)); refine blk_put (cs := #[.slice Ao54 t288.length co54, .int .i64 t291, .int .i64 0]) ?_ 2 _ rfl; (with_reducible repeat (first | refine blk_drewN ?_ _ | refine blk_drew ?_ | refine blk_alloc ?_ _)); refine blk_put (cs := #[.slice Ao54 t288.length co54, .int .i64 0, .int .i64 0]) ?_ 1 _ rfl; (with_reducible repeat (first | refine blk_drewN ?_ _ | refine blk_drew ?_ | refine blk_alloc ?_ _)); refine blk_put (cs := #[.slice none 0 0, .int .i64 0, .int .i64 0]) ?_ 0 _ rfl; (with_reducible repeat (first | refine blk_drewN ?_ _ | refine blk_drew ?_ | refine blk_alloc ?_ _)); exact BK293.out) hb); have n9_ := Aside0.mk (below_step bl_ hb); clear HO271; clear HO277; clear HO283; clear HO290; clear BK266; clear BK267; clear BK280; clear BK284; clear BK293; clear HB; have HO271 := n0_; have HO277 := n1_; have HO283 := n2_; have HO290 := n3_; have BK266 := n4_; have BK267 := n5_; have BK280 := n6_; have BK284 := n7_; have BK293 := n8_; have HB := n9_; clear n0_ n1_ n2_ n3_ n4_ n5_ n6_ n7_ n8_ n9_; (try clear hb); (try clear hb2); (try clear hk); (try clear hi)))
    replace HO271 := Aside0.mk (Kd.R_drew HO271.out)
    replace HO277 := Aside0.mk (Kd.R_drew HO277.out)
    replace HO283 := Aside0.mk (Kd.R_drew HO283.out)
    replace HO290 := Aside0.mk (Kd.R_drew HO290.out)
    replace BK266 := Aside0.mk (blk_drew BK266.out)
    replace BK267 := Aside0.mk (blk_drew BK267.out)
    replace BK280 := Aside0.mk (blk_drew BK280.out)
    replace BK284 := Aside0.mk (blk_drew BK284.out)
    replace BK293 := Aside0.mk (blk_drew BK293.out)
    replace HB := Aside0.mk (below_drew1 HB.out)
    refine start_ (n := 5) (S := fun w' => w'.cell? ⟨gb284, 0, none⟩ = some (.slice Ao43 t281.length co43) ∧ w'.cell? ⟨gb266, 0, none⟩ = some (.slice A0_0 l0_0.length c0_0)) (ds := []) #[false, false, false, false, false] (by kernel_rfl) rfl rfl ⟨(blk_cell BK284.out 0).trans rfl, (blk_cell BK266.out 0).trans rfl⟩ (fun hHeld => ?_)
    generalize w65.drew = w66 at HO271 HO277 HO283 HO290 BK266 BK267 BK280 BK284 BK293 HB hHeld ⊢
    refine take_ (i := 0) (N := some 33) (v := ?_) (a' := ?_) #[true, false, false, false, false] rfl rfl (by kernel_rfl) (fun _ _ _ h => h) (Or.inl ⟨by rfl, ?_⟩) hHeld ?_ ?_; rotate_left; (rintro w' ⟨s0, s1⟩; go_simp; with_reducible rfl); rotate_left; (simp only [Act.put, List.setIfInBounds_toArray, List.set_cons_zero, List.set_cons_succ, i64_w, i32_w]; rfl)
    refine take_ (i := 1) (N := some 34) (v := ?_) (a' := ?_) #[true, true, false, false, false] rfl rfl (by kernel_rfl) (fun _ _ _ h => h) (Or.inl ⟨by rfl, ?_⟩) hHeld ?_ ?_; rotate_left; (rintro w' ⟨s0, s1⟩; go_simp; with_reducible rfl); rotate_left; (simp only [Act.put, List.setIfInBounds_toArray, List.set_cons_zero, List.set_cons_succ, i64_w, i32_w]; rfl)
    refine one_ (i := 2) (N := some 35) #[o_,o_,o_,x_,x_] rfl rfl (by kernel_rfl) (by decide) (fun K hK => ?_)
    refine goes_ Tryz.func6 (by kernel_rfl) rfl #[.agg #[.slice A0_0 l0_0.length c0_0]] (by rfl) rfl rfl (by (try simp only [List.map_toArray, List.map_cons, List.map_nil]); first | done | rfl | (simp only [List.length_drop, List.length_take]; rfl)) ?_
    with_reducible refine (laws_toTree.calls k _ _ l0_0 t295 _ ?side1 ?side2 A18.out).mono ?_
    (case side1 => exact Kd.C_below HR0_0.out bl_)
    (case side2 => exact HC0_0.out)
    rintro e w67 ⟨v296, rfl, ho0, hb⟩
    refine ⟨_, rfl, ?_⟩
    have n0_ := Aside0.mk (Kd.R_elder' (by exact rU_ HO271.out) (Kd.R_base ho0) hb)
    have n1_ := Aside0.mk (Kd.R_elder' (by exact rU_ HO277.out) (Kd.R_base ho0) hb)
    have n2_ := Aside0.mk (Kd.R_elder' (by exact rU_ HO283.out) (Kd.R_base ho0) hb)
    have n3_ := Aside0.mk (Kd.R_elder' (by exact rU_ HO290.out) (Kd.R_base ho0) hb)
    have n4_ := Aside0.mk (Kd.R_lower (Kd.R_new' (Kd.R_new' (Kd.R_new' (Kd.R_new' ho0 (Kd.R_lt (by exact rU_ HO271.out))) (Kd.R_lt (by exact rU_ HO277.out))) (Kd.R_lt (by exact rU_ HO283.out))) (Kd.R_lt (by exact rU_ HO290.out))) (below_size bl_))
    have n5_ := Aside0.mk (blk_below (up_ BK266.out) hb)
    have n6_ := Aside0.mk (blk_below (up_ BK267.out) hb)
    have n7_ := Aside0.mk (blk_below (up_ BK280.out) hb)
    have n8_ := Aside0.mk (blk_below (up_ BK284.out) hb)
    have n9_ := Aside0.mk (blk_below (up_ BK293.out) hb)
    have n10_ := Aside0.mk (below_step bl_ hb)
    clear HO271
    clear HO277
    clear HO283
    clear HO290
    clear BK266
    clear BK267
    clear BK280
    clear BK284
    clear BK293
    clear HB
    have HO271 := n0_
    have HO277 := n1_
    have HO283 := n2_
    have HO290 := n3_
    have HO297 := n4_
    have BK266 := n5_
    have BK267 := n6_
    have BK280 := n7_
    have BK284 := n8_
    have BK293 := n9_
    have HB := n10_
    clear n0_ n1_ n2_ n3_ n4_ n5_ n6_ n7_ n8_ n9_ n10_
    (try clear hb)
    (try clear hb2)
    (try clear hk)
    (try clear hi)
    (try clear ho0)
    obtain ⟨Ao68, co68, eo68⟩ := Kd.R_slice HO297.out
    (first | subst eo68 | (injection eo68 with f1_ f2_ f3_; have f4_ := f1_.symm; have f5_ := f3_.symm; clear f1_ f2_ f3_; subst f4_; subst f5_))
    refine hK.out _ _ ⟨(blk_cell BK284.out 0).trans rfl, (blk_cell BK266.out 0).trans rfl⟩ (fun hHeld => ?_)
    clear hK K
    refine norm_ (a' := ?_) ?_ ?_
    rotate_left
    ·
     show Act.put _ (some 35) _ = _
     simp only [Act.put, List.setIfInBounds_toArray, List.set_cons_zero, List.set_cons_succ, i64_w, i32_w]
     rfl
    refine one_ (i := 3) (N := some 36) #[o_,o_,o_,o_,x_] rfl rfl (by kernel_rfl) (by decide) (fun K hK => ?_)
    refine goes_ Tryz.func10 (by kernel_rfl) rfl #[.agg #[.slice Ao43 t281.length co43], .agg #[.slice Ao68 t295.length co68]] (by rfl) rfl rfl (by (try simp only [List.map_toArray, List.map_cons, List.map_nil]); first | done | rfl | (simp only [List.length_drop, List.length_take]; rfl)) ?_
    with_reducible refine (laws_eqTree.calls k _ _ t281 _ _ t295 true _ ?side1 ?side2 ?side3 ?side4 A19.out).mono ?_
    (case side1 => repeat (first | exact (Kd.R_reads' HO283.out).2.2 | (with_reducible refine Kd.C_alloc ?_ _) | (with_reducible refine Kd.C_drewN ?_ _) | (with_reducible refine Kd.C_drew ?_)))
    (case side2 => exact (Kd.R_reads' HO283.out).2.1)
    (case side3 => repeat (first | exact (Kd.R_reads' HO297.out).2.2 | (with_reducible refine Kd.C_alloc ?_ _) | (with_reducible refine Kd.C_drewN ?_ _) | (with_reducible refine Kd.C_drew ?_)))
    (case side4 => exact (Kd.R_reads' HO297.out).2.1)
    rintro e w69 ⟨rfl, hb⟩
    refine ⟨_, rfl, ?_⟩
    replace HO271 := Aside0.mk (Kd.R_below (by exact rU_ HO271.out) hb)
    replace HO277 := Aside0.mk (Kd.R_below (by exact rU_ HO277.out) hb)
    replace HO283 := Aside0.mk (Kd.R_below (by exact rU_ HO283.out) hb)
    replace HO290 := Aside0.mk (Kd.R_below (by exact rU_ HO290.out) hb)
    replace HO297 := Aside0.mk (Kd.R_below (by exact rU_ HO297.out) hb)
    replace BK266 := Aside0.mk (blk_below (up_ BK266.out) hb)
    replace BK267 := Aside0.mk (blk_below (up_ BK267.out) hb)
    replace BK280 := Aside0.mk (blk_below (up_ BK280.out) hb)
    replace BK284 := Aside0.mk (blk_below (up_ BK284.out) hb)
    replace BK293 := Aside0.mk (blk_below (up_ BK293.out) hb)
    replace HB := Aside0.mk (below_step bl_ hb)
    (try clear hb)
    (try clear hb2)
    (try clear hk)
    (try clear hi)
    refine hK.out _ _ ⟨(blk_cell BK284.out 0).trans rfl, (blk_cell BK266.out 0).trans rfl⟩ (fun hHeld => ?_)
    clear hK K
    refine norm_ (a' := ?_) ?_ ?_
    rotate_left
    ·
     show Act.put _ (some 36) _ = _
     simp only [Act.put, List.setIfInBounds_toArray, List.set_cons_zero, List.set_cons_succ, i64_w, i32_w]
     rfl
    refine pure_ (i := 4) (N := some 37) (v := ?_) (a' := ?_) #[true, true, true, true, true] rfl rfl (by kernel_rfl) (fun _ _ _ h => h) (Or.inl ⟨by rfl, ?_⟩) ?_ ?_; rotate_left; (intro w'; go_simp; with_reducible rfl); rotate_left; (simp only [Act.put, List.setIfInBounds_toArray, List.set_cons_zero, List.set_cons_succ, i64_w, i32_w]; rfl)
    refine done_ (by kernel_rfl) ?_
    have hcz70_0 : w69.cell? ⟨gb284, 0, none⟩ = some (.slice Ao43 t281.length co43) := (blk_cell BK284.out 0).trans rfl
    have hfz70_0 := blk_frozen BK284.out 0
    go_upto_region 14 with (first | ((with_reducible refine gate_callee (f := 11) rfl ?_); refine gL_ (some 40) Tryz.func11 #[.agg #[.slice Ao43 t281.length co43], .int .i64 1] ?_; (with_reducible refine (laws_markTree.calls k (fun k_ => some k_ = (.slice Ao43 t281.length co43 : Value).ownBlock) (.slice Ao43 t281.length co43) t281 1 t299 t300 w _ ?side1 ?side2 A21.out).mono ?_); (case side1 => repeat (first | (with_reducible first | exact HB.out | apply below_alloc | apply pw_below_drewN | apply below_drew1 | refine below_set ?_ GE266.out | refine below_set ?_ GE267.out | refine below_set ?_ GE280.out | refine below_set ?_ GE284.out | refine below_set ?_ GE293.out) | exact HB.out)); (case side2 => exact Kd.R_tight rfl HO283.out); rintro e w71 ⟨rfl, hy0, hb, hkp⟩; refine ⟨_, rfl, ?_⟩; have n0_ := Aside0.mk (blk_kept (by exact up_ BK266.out) hkp (fun hs_ => (fun e_ => (Kd.R_ne HO283.out BK266.out (by decide)) e_) hs_)); have n1_ := Aside0.mk (blk_kept (by exact up_ BK267.out) hkp (fun hs_ => (fun e_ => (Kd.R_ne HO283.out BK267.out (by decide)) e_) hs_)); have n2_ := Aside0.mk (Kd.R_mono (ok' := fun k_ => some k_ ≠ (.slice Ao35 t275.length co35 : Value).ownBlock ∧ some k_ ≠ (.slice Ao43 t281.length co43 : Value).ownBlock ∧ some k_ ≠ (.slice Ao54 t288.length co54 : Value).ownBlock ∧ some k_ ≠ (.slice Ao68 t295.length co68 : Value).ownBlock) (Kd.R_keptB (HO271.out) hkp (fun k_ hk_ hs_ => (hk_.1.2.1) hs_)) (fun k_ hk_ => ⟨hk_.1.1.1, hk_.1.1.2.1, hk_.1.1.2.2, hk_.1.2⟩)); have n3_ := Aside0.mk (Kd.R_mono (ok' := fun k_ => some k_ ≠ (v270 : Value).ownBlock ∧ some k_ ≠ (.slice Ao43 t281.length co43 : Value).ownBlock ∧ some k_ ≠ (.slice Ao54 t288.length co54 : Value).ownBlock ∧ some k_ ≠ (.slice Ao68 t295.length co68 : Value).ownBlock) (Kd.R_keptB (HO277.out) hkp (fun k_ hk_ hs_ => (hk_.1.2.1) hs_)) (fun k_ hk_ => ⟨hk_.1.1.1, hk_.1.1.2.1, hk_.1.1.2.2, hk_.1.2⟩)); have n4_ := Aside0.mk (blk_kept (by exact up_ BK280.out) hkp (fun hs_ => (fun e_ => (Kd.R_ne HO283.out BK280.out (by decide)) e_) hs_)); have n5_ := Aside0.mk (Kd.R_reok rfl hy0 (fun k_ e_ => HO283.out.1 k_ e_)); have n6_ := Aside0.mk (blk_kept (by exact up_ BK284.out) hkp (fun hs_ => (fun e_ => (Kd.R_ne HO283.out BK284.out (by decide)) e_) hs_)); have n7_ := Aside0.mk (Kd.R_mono (ok' := fun k_ => some k_ ≠ (v270 : Value).ownBlock ∧ some k_ ≠ (.slice Ao35 t275.length co35 : Value).ownBlock ∧ some k_ ≠ (.slice Ao43 t281.length co43 : Value).ownBlock ∧ some k_ ≠ (.slice Ao68 t295.length co68 : Value).ownBlock) (Kd.R_keptB (HO290.out) hkp (fun k_ hk_ hs_ => (hk_.1.2.2) hs_)) (fun k_ hk_ => ⟨hk_.1.1.1, hk_.1.1.2.1, hk_.1.1.2.2, hk_.1.2⟩)); have n8_ := Aside0.mk (blk_kept (by exact up_ BK293.out) hkp (fun hs_ => (fun e_ => (Kd.R_ne HO283.out BK293.out (by decide)) e_) hs_)); have n9_ := Aside0.mk (Kd.R_mono (ok' := fun k_ => some k_ ≠ (v270 : Value).ownBlock ∧ some k_ ≠ (.slice Ao35 t275.length co35 : Value).ownBlock ∧ some k_ ≠ (.slice Ao43 t281.length co43 : Value).ownBlock ∧ some k_ ≠ (.slice Ao54 t288.length co54 : Value).ownBlock) (Kd.R_keptB (HO297.out) hkp (fun k_ hk_ hs_ => (hk_.1.2) hs_)) (fun k_ hk_ => ⟨hk_.1.1.1.1.2, hk_.1.1.1.2, hk_.1.1.2, hk_.1.2⟩)); have n10_ := Aside0.mk (hb); clear BK266; clear BK267; clear HO271; clear HO277; clear BK280; clear HO283; clear BK284; clear HO290; clear BK293; clear HO297; clear HB; have BK266 := n0_; have BK267 := n1_; have HO271 := n2_; have HO277 := n3_; have BK280 := n4_; have HO283 := n5_; have BK284 := n6_; have HO290 := n7_; have BK293 := n8_; have HO297 := n9_; have HB := n10_; clear n0_ n1_ n2_ n3_ n4_ n5_ n6_ n7_ n8_ n9_ n10_; (try clear hb); (try clear hkp); (try clear hy0)))
    (try simp only [Act.put, List.setIfInBounds_toArray, List.set_cons_zero, List.set_cons_succ])
    go_cut [48] (fun v48 wc => ∃ (kq : Nat) (x48_21 : Bool), v48 = .bool x48_21 ∧ Aside0 (laws_FnExactTreeTake.j0 kq x48_21 l0_0 a1_0 a1_1 a1_2 t275 t278 t279 t288 t291 t292 = some r) ∧ Aside0 (kq ≤ k) ∧ Aside0 (Kd.R k46 46 wc w.heap.size (fun k_ => some k_ ≠ ((.slice Ao43 t281.length co43) : Value).ownBlock ∧ some k_ ≠ ((.slice Ao54 t288.length co54) : Value).ownBlock) (.slice Ao35 t275.length co35) t275) ∧ Aside0 (Kd.R k46 46 wc w.heap.size (fun k_ => some k_ ≠ ((.slice Ao35 t275.length co35) : Value).ownBlock ∧ some k_ ≠ ((.slice Ao54 t288.length co54) : Value).ownBlock) (.slice Ao43 t281.length co43) t300) ∧ Aside0 (Kd.R k46 46 wc w.heap.size (fun k_ => some k_ ≠ ((.slice Ao35 t275.length co35) : Value).ownBlock ∧ some k_ ≠ ((.slice Ao43 t281.length co43) : Value).ownBlock) (.slice Ao54 t288.length co54) t288) ∧ Aside0 (wc.heap[gb266]? = some (.cells #[(.slice A0_0 l0_0.length c0_0)] 24 (0, 0))) ∧ Aside0 (wc.heap[gb267]? = some (.cells #[.int .i64 a1_0, .int .i64 a1_1, .int .i64 a1_2] 26 (0, 0))) ∧ Aside0 (wc.heap[gb280]? = some (.cells #[(.slice Ao35 t275.length co35), .int .i64 t278, .int .i64 t279] 32 (0, 0))) ∧ Aside0 (wc.heap[gb284]? = some (.cells #[(.slice Ao43 t281.length co43)] 30 (0, 0))) ∧ Aside0 (wc.heap[gb293]? = some (.cells #[(.slice Ao54 t288.length co54), .int .i64 t291, .int .i64 t292] 32 (0, 0))) ∧ Aside0 (Below w.heap.size w wc))
    case first =>
     have H := HC22.out
     clear HC22
     by_cases c72 : t299 < 0
     ·
      rw [if_pos c72] at H
      have c72b0 : decide (t299 < 0) = true := decide_eq_true c72
      clear c72
      (first | rw [c72b0] | (simp only [i64_w, i32_w]; rw [c72b0]) | skip)
      have H' := Aside0.mk H
      clear H
      go_wp2
      go_meet
      case rel => exact ⟨_, (true), (by first | rfl | (simp; done) | (simp [*]; done)), H', ⟨by first | omega | exact Nat.le_refl _⟩, ⟨by (with_reducible repeat (first | apply Kd.R_alloc | apply Kd.R_drewN | apply Kd.R_drew)); exact Kd.R_mono HO277.out (fun _ hk => ⟨hk.2.1, hk.2.2.1⟩)⟩, ⟨by (with_reducible repeat (first | apply Kd.R_alloc | apply Kd.R_drewN | apply Kd.R_drew)); exact Kd.R_mono HO283.out (fun _ hk => ⟨hk.1.2.1, hk.1.2.2⟩)⟩, ⟨by (with_reducible repeat (first | apply Kd.R_alloc | apply Kd.R_drewN | apply Kd.R_drew)); exact Kd.R_mono HO290.out (fun _ hk => ⟨hk.2.1, hk.2.2.1⟩)⟩, ⟨up_ BK266.out⟩, ⟨up_ BK267.out⟩, ⟨up_ BK280.out⟩, ⟨up_ BK284.out⟩, ⟨up_ BK293.out⟩, ⟨bl_⟩⟩
     ·
      rw [if_neg c72] at H
      have c72b0 : decide (t299 < 0) = false := decide_eq_false c72
      clear c72
      (first | rw [c72b0] | (simp only [i64_w, i32_w]; rw [c72b0]) | skip)
      replace H := Option.bind_eq_some_iff.mp H
      obtain ⟨t301, A730, H⟩ := H
      replace H : (laws_FnExactTreeTake.j0 k (!t301) l0_0 a1_0 a1_1 a1_2 t275 t278 t279 t288 t291 t292) = some r := H
      have A73 := Aside0.mk A730
      clear A730
      have H' := Aside0.mk H
      clear H
      have hnb74 := NB293_266.out
      have hnc74 := NB266_293.out
      have hnb75 := NB293_267.out
      have hnc75 := NB267_293.out
      have hnb76 := NB293_280.out
      have hnc76 := NB280_293.out
      have hnb77 := NB293_284.out
      have hnc77 := NB284_293.out
      have hcz78_0 : w71.cell? ⟨gb293, 0, none⟩ = some (.slice Ao54 t288.length co54) := (blk_cell BK293.out 0).trans rfl
      have hcz78_1 : w71.cell? ⟨gb293, 1, none⟩ = some (.int .i64 t291) := (blk_cell BK293.out 1).trans rfl
      have hcz78_2 : w71.cell? ⟨gb293, 2, none⟩ = some (.int .i64 t292) := (blk_cell BK293.out 2).trans rfl
      have hfz78_0 := blk_frozen BK293.out 0
      have hfz78_1 := blk_frozen BK293.out 1
      have hfz78_2 := blk_frozen BK293.out 2
      have hnb79 := NB280_266.out
      have hnc79 := NB266_280.out
      have hnb80 := NB280_267.out
      have hnc80 := NB267_280.out
      have hnb81 := NB280_284.out
      have hnc81 := NB284_280.out
      have hcz82_0 : w71.cell? ⟨gb280, 0, none⟩ = some (.slice Ao35 t275.length co35) := (blk_cell BK280.out 0).trans rfl
      have hcz82_1 : w71.cell? ⟨gb280, 1, none⟩ = some (.int .i64 t278) := (blk_cell BK280.out 1).trans rfl
      have hcz82_2 : w71.cell? ⟨gb280, 2, none⟩ = some (.int .i64 t279) := (blk_cell BK280.out 2).trans rfl
      have hfz82_0 := blk_frozen BK280.out 0
      have hfz82_1 := blk_frozen BK280.out 1
      have hfz82_2 := blk_frozen BK280.out 2
      go_wp2_with (first | (go_at_call 9; (with_reducible refine (laws_eqTreeOut.calls k _ _ t288 t291 t292 _ _ t275 t278 t279 t301 _ ?side1 ?side2 ?side3 ?side4 A73.out).mono ?_); (case side1 => repeat (first | exact (Kd.R_reads' HO290.out).2.2 | (with_reducible refine Kd.C_alloc ?_ _) | (with_reducible refine Kd.C_drewN ?_ _) | (with_reducible refine Kd.C_drew ?_))); (case side2 => exact (Kd.R_reads' HO290.out).2.1); (case side3 => repeat (first | exact (Kd.R_reads' HO277.out).2.2 | (with_reducible refine Kd.C_alloc ?_ _) | (with_reducible refine Kd.C_drewN ?_ _) | (with_reducible refine Kd.C_drew ?_))); (case side4 => exact (Kd.R_reads' HO277.out).2.1); rintro e w83 ⟨rfl, hb⟩; have n0_ := Aside0.mk (Kd.R_below (by exact rU_ HO271.out) hb); have n1_ := Aside0.mk (Kd.R_below (by exact rU_ HO277.out) hb); have n2_ := Aside0.mk (Kd.R_below (by exact rU_ HO283.out) hb); have n3_ := Aside0.mk (Kd.R_below (by exact rU_ HO290.out) hb); have n4_ := Aside0.mk (Kd.R_below (by exact rU_ HO297.out) hb); have n5_ := Aside0.mk (blk_below (up_ BK266.out) hb); have n6_ := Aside0.mk (blk_below (up_ BK267.out) hb); have n7_ := Aside0.mk (blk_below (up_ BK280.out) hb); have n8_ := Aside0.mk (blk_below (up_ BK284.out) hb); have n9_ := Aside0.mk (blk_below (up_ BK293.out) hb); have n10_ := Aside0.mk (below_step bl_ hb); clear HO271; clear HO277; clear HO283; clear HO290; clear HO297; clear BK266; clear BK267; clear BK280; clear BK284; clear BK293; clear HB; have HO271 := n0_; have HO277 := n1_; have HO283 := n2_; have HO290 := n3_; have HO297 := n4_; have BK266 := n5_; have BK267 := n6_; have BK280 := n7_; have BK284 := n8_; have BK293 := n9_; have HB := n10_; clear n0_ n1_ n2_ n3_ n4_ n5_ n6_ n7_ n8_ n9_ n10_; (try clear hb); (try clear hb2); (try clear hk); (try clear hi)))
      go_meet
      case rel => exact ⟨_, (!t301), (by first | rfl | (simp; done) | (simp [*]; done)), H', ⟨by first | omega | exact Nat.le_refl _⟩, ⟨by (with_reducible repeat (first | apply Kd.R_alloc | apply Kd.R_drewN | apply Kd.R_drew)); exact Kd.R_mono HO277.out (fun _ hk => ⟨hk.2.1, hk.2.2.1⟩)⟩, ⟨by (with_reducible repeat (first | apply Kd.R_alloc | apply Kd.R_drewN | apply Kd.R_drew)); exact Kd.R_mono HO283.out (fun _ hk => ⟨hk.1.2.1, hk.1.2.2⟩)⟩, ⟨by (with_reducible repeat (first | apply Kd.R_alloc | apply Kd.R_drewN | apply Kd.R_drew)); exact Kd.R_mono HO290.out (fun _ hk => ⟨hk.2.1, hk.2.2.1⟩)⟩, ⟨up_ BK266.out⟩, ⟨up_ BK267.out⟩, ⟨up_ BK280.out⟩, ⟨up_ BK284.out⟩, ⟨up_ BK293.out⟩, ⟨bl_⟩⟩
    case rest =>
     clear HC22
     try clear c1
     try clear p2
     try clear c5
     try clear c6
     try clear c7
     try clear c8
     try clear c9
     try clear c10
     try clear c11
     try clear c58
     try clear c59
     try clear c60
     try clear c61
     try clear c63
     try clear c72
     try clear c72b0
     try clear c74
     try clear c75
     try clear c76
     try clear c77
     try clear c79
     try clear c80
     try clear c81
     try clear hcz62_0
     try clear hcz62_1
     try clear hcz62_2
     try clear hcz64_0
     try clear hcz64_1
     try clear hcz64_2
     try clear hcz70_0
     try clear hcz78_0
     try clear hcz78_1
     try clear hcz78_2
     try clear hcz82_0
     try clear hcz82_1
     try clear hcz82_2
     try clear hfz62_0
     try clear hfz62_1
     try clear hfz62_2
     try clear hfz64_0
     try clear hfz64_1
     try clear hfz64_2
     try clear hfz70_0
     try clear hfz78_0
     try clear hfz78_1
     try clear hfz78_2
     try clear hfz82_0
     try clear hfz82_1
     try clear hfz82_2
     obtain ⟨kq, x48_21, rfl, HA, HJ21, HO_281000, HO_285000, HO_294000, BK266, BK267, BK280, BK284, BK293, HB⟩ := hcut
     have hl285000_21 := (Kd.R_reads' HO_285000.out).1
     rw [hl285000_21] at HO_285000
     (try simp only [hl285000_21])
     (try simp only [hl285000_21] at BK266)
     (try simp only [hl285000_21] at BK267)
     (try simp only [hl285000_21] at BK280)
     (try simp only [hl285000_21] at BK284)
     (try simp only [hl285000_21] at BK293)
     (try simp only [hl285000_21] at HO_281000)
     (try simp only [hl285000_21] at HO_294000)
     cases kq with
     | zero => exact absurd HA.out (by simp [laws_FnExactTreeTake.j0])
     | succ kj21 =>
      have H := HA.out
      clear HA
      simp only [laws_FnExactTreeTake.j0] at H
      by_cases c84 : x48_21 = true
      ·
       subst c84
       have H1 : (some false) = some r := by rw [if_pos rfl] at H; exact H
       clear H
       have H := H1
       clear H1
       exact absurd (Option.some.inj H) (by rw [HTRUE_.out]; decide)
      ·
       replace c84 := Bool.eq_false_iff.mpr c84
       subst c84
       have H1 : ((laws_markTreeOut.f kj21 t288 t291 t292 1).bind fun bt302 => ((laws_heldTreeOut.f kj21 bt302.2 t291 t292 1).bind fun t304 => (if t304 < 0 then (some false) else (if t304 = bt302.1 then ((laws_toTree.f kj21 l0_0).bind fun t305 => ((laws_toItem.f a1_0 a1_1 a1_2).bind fun bt308 => ((impl_TreeTake.f t305 bt308.1 bt308.2.1 bt308.2.2).bind fun bt311 => ((laws_eqTreeOut.f kj21 bt311.1 bt311.2.1 bt311.2.2 t275 t278 t279).bind fun t317 => (if t317 = true then ((laws_heldTreeOut.f kj21 bt302.2 t291 t292 1).bind fun t318 => (if t318 < 0 then (some false) else (if t318 = bt302.1 then (some true) else (some false)))) else (some false)))))) else (some false))))) = some r := by rw [if_neg (show ¬ (false = true) by decide)] at H; exact H
       clear H
       have H := H1
       clear H1
       replace H := Option.bind_eq_some_iff.mp H
       obtain ⟨⟨t302, t303⟩, A850, H⟩ := H
       replace H : ((laws_heldTreeOut.f kj21 t303 t291 t292 1).bind fun t304 => (if t304 < 0 then (some false) else (if t304 = t302 then ((laws_toTree.f kj21 l0_0).bind fun t305 => ((laws_toItem.f a1_0 a1_1 a1_2).bind fun bt308 => ((impl_TreeTake.f t305 bt308.1 bt308.2.1 bt308.2.2).bind fun bt311 => ((laws_eqTreeOut.f kj21 bt311.1 bt311.2.1 bt311.2.2 t275 t278 t279).bind fun t317 => (if t317 = true then ((laws_heldTreeOut.f kj21 t303 t291 t292 1).bind fun t318 => (if t318 < 0 then (some false) else (if t318 = t302 then (some true) else (some false)))) else (some false)))))) else (some false)))) = some r := H
       have A85 := Aside0.mk A850
       clear A850
       replace H := Option.bind_eq_some_iff.mp H
       obtain ⟨t304, A860, H⟩ := H
       replace H : (if t304 < 0 then (some false) else (if t304 = t302 then ((laws_toTree.f kj21 l0_0).bind fun t305 => ((laws_toItem.f a1_0 a1_1 a1_2).bind fun bt308 => ((impl_TreeTake.f t305 bt308.1 bt308.2.1 bt308.2.2).bind fun bt311 => ((laws_eqTreeOut.f kj21 bt311.1 bt311.2.1 bt311.2.2 t275 t278 t279).bind fun t317 => (if t317 = true then ((laws_heldTreeOut.f kj21 t303 t291 t292 1).bind fun t318 => (if t318 < 0 then (some false) else (if t318 = t302 then (some true) else (some false)))) else (some false)))))) else (some false))) = some r := H
       have A86 := Aside0.mk A860
       clear A860
       by_cases c87 : t304 < 0
       ·
        rw [if_pos c87] at H
        have c87b0 : decide (t304 < 0) = true := decide_eq_true c87
        clear c87
        exact absurd (Option.some.inj H) (by rw [HTRUE_.out]; decide)
       ·
        rw [if_neg c87] at H
        have c87b0 : decide (t304 < 0) = false := decide_eq_false c87
        clear c87
        by_cases c88 : t304 = t302
        ·
         rw [if_pos c88] at H
         have c88b0 : (t304 == t302) = true := beq_iff_eq.mpr c88
         have c88b1 : (t304 != t302) = false := bne_eq_false_iff_eq.mpr c88
         clear c88
         replace H := Option.bind_eq_some_iff.mp H
         obtain ⟨t305, A890, H⟩ := H
         replace H : ((laws_toItem.f a1_0 a1_1 a1_2).bind fun bt308 => ((impl_TreeTake.f t305 bt308.1 bt308.2.1 bt308.2.2).bind fun bt311 => ((laws_eqTreeOut.f kj21 bt311.1 bt311.2.1 bt311.2.2 t275 t278 t279).bind fun t317 => (if t317 = true then ((laws_heldTreeOut.f kj21 t303 t291 t292 1).bind fun t318 => (if t318 < 0 then (some false) else (if t318 = t302 then (some true) else (some false)))) else (some false))))) = some r := H
         have A89 := Aside0.mk A890
         clear A890
         replace H := Option.bind_eq_some_iff.mp H
         obtain ⟨⟨t308, t309, t310⟩, A900, H⟩ := H
         replace H : ((impl_TreeTake.f t305 t308 t309 t310).bind fun bt311 => ((laws_eqTreeOut.f kj21 bt311.1 bt311.2.1 bt311.2.2 t275 t278 t279).bind fun t317 => (if t317 = true then ((laws_heldTreeOut.f kj21 t303 t291 t292 1).bind fun t318 => (if t318 < 0 then (some false) else (if t318 = t302 then (some true) else (some false)))) else (some false)))) = some r := H
         have A90 := Aside0.mk A900
         clear A900
         replace H := Option.bind_eq_some_iff.mp H
         obtain ⟨⟨t311, t314, t315⟩, A910, H⟩ := H
         replace H : ((laws_eqTreeOut.f kj21 t311 t314 t315 t275 t278 t279).bind fun t317 => (if t317 = true then ((laws_heldTreeOut.f kj21 t303 t291 t292 1).bind fun t318 => (if t318 < 0 then (some false) else (if t318 = t302 then (some true) else (some false)))) else (some false))) = some r := H
         have A91 := Aside0.mk A910
         clear A910
         replace H := Option.bind_eq_some_iff.mp H
         obtain ⟨t317, A920, H⟩ := H
         replace H : (if t317 = true then ((laws_heldTreeOut.f kj21 t303 t291 t292 1).bind fun t318 => (if t318 < 0 then (some false) else (if t318 = t302 then (some true) else (some false)))) else (some false)) = some r := H
         have A92 := Aside0.mk A920
         clear A920
         by_cases c93 : t317 = true
         ·
          subst c93
          have H1 : ((laws_heldTreeOut.f kj21 t303 t291 t292 1).bind fun t318 => (if t318 < 0 then (some false) else (if t318 = t302 then (some true) else (some false)))) = some r := by rw [if_pos rfl] at H; exact H
          clear H
          have H := H1
          clear H1
          replace H := Option.bind_eq_some_iff.mp H
          obtain ⟨t318, A940, H⟩ := H
          replace H : (if t318 < 0 then (some false) else (if t318 = t302 then (some true) else (some false))) = some r := H
          have A94 := Aside0.mk A940
          clear A940
          by_cases c95 : t318 < 0
          ·
           rw [if_pos c95] at H
           have c95b0 : decide (t318 < 0) = true := decide_eq_true c95
           clear c95
           exact absurd (Option.some.inj H) (by rw [HTRUE_.out]; decide)
          ·
           rw [if_neg c95] at H
           have c95b0 : decide (t318 < 0) = false := decide_eq_false c95
           clear c95
           by_cases c96 : t318 = t302
           ·
            rw [if_pos c96] at H
            have c96b0 : (t318 == t302) = true := beq_iff_eq.mpr c96
            have c96b1 : (t318 != t302) = false := bne_eq_false_iff_eq.mpr c96
            clear c96
            obtain rfl := Option.some.inj H
            have hnb97 := NB293_266.out
            have hnc97 := NB266_293.out
            have hnb98 := NB293_267.out
            have hnc98 := NB267_293.out
            have hnb99 := NB293_280.out
            have hnc99 := NB280_293.out
            have hnb100 := NB293_284.out
            have hnc100 := NB284_293.out
            have hcz101_0 : wc.cell? ⟨gb293, 0, none⟩ = some (.slice Ao54 t288.length co54) := (blk_cell BK293.out 0).trans rfl
            have hcz101_1 : wc.cell? ⟨gb293, 1, none⟩ = some (.int .i64 t291) := (blk_cell BK293.out 1).trans rfl
            have hcz101_2 : wc.cell? ⟨gb293, 2, none⟩ = some (.int .i64 t292) := (blk_cell BK293.out 2).trans rfl
            have hfz101_0 := blk_frozen BK293.out 0
            have hfz101_1 := blk_frozen BK293.out 1
            have hfz101_2 := blk_frozen BK293.out 2
            try go_wp2_with (first | ((with_reducible refine gate_callee (f := 12) rfl ?_); refine gL_ (some 51) Tryz.func12 #[.agg #[.slice Ao54 t288.length co54, .int .i64 t291, .int .i64 t292], .int .i64 1] ?_; (with_reducible refine (laws_markTreeOut.calls kj21 (fun k_ => some k_ = (.slice Ao54 t288.length co54 : Value).ownBlock) (.slice Ao54 t288.length co54) t288 t291 t292 1 t302 t303 w _ ?side1 ?side2 A85.out).mono ?_); (case side1 => repeat (first | (with_reducible first | exact HB.out | apply below_alloc | apply pw_below_drewN | apply below_drew1 | refine below_set ?_ GE266.out | refine below_set ?_ GE267.out | refine below_set ?_ GE280.out | refine below_set ?_ GE284.out | refine below_set ?_ GE293.out) | exact HB.out)); (case side2 => exact Kd.R_tight rfl HO_294000.out); rintro e w102 ⟨rfl, hy0, hb, hkp⟩; refine ⟨_, rfl, ?_⟩; have n0_ := Aside0.mk (Kd.R_mono (ok' := fun k_ => some k_ ≠ (.slice Ao43 t300.length co43 : Value).ownBlock ∧ some k_ ≠ (.slice Ao54 t288.length co54 : Value).ownBlock) (Kd.R_keptB (HO_281000.out) hkp (fun k_ hk_ hs_ => (hk_.2) hs_)) (fun k_ hk_ => ⟨hk_.1.1, hk_.1.2⟩)); have n1_ := Aside0.mk (Kd.R_mono (ok' := fun k_ => some k_ ≠ (.slice Ao35 t275.length co35 : Value).ownBlock ∧ some k_ ≠ (.slice Ao54 t288.length co54 : Value).ownBlock) (Kd.R_keptB (HO_285000.out) hkp (fun k_ hk_ hs_ => (hk_.2) hs_)) (fun k_ hk_ => ⟨hk_.1.1, hk_.1.2⟩)); have n2_ := Aside0.mk (Kd.R_reok rfl hy0 (fun k_ e_ => HO_294000.out.1 k_ e_)); have n3_ := Aside0.mk (blk_kept (by exact up_ BK266.out) hkp (fun hs_ => (fun e_ => (Kd.R_ne HO_294000.out BK266.out (by decide)) e_) hs_)); have n4_ := Aside0.mk (blk_kept (by exact up_ BK267.out) hkp (fun hs_ => (fun e_ => (Kd.R_ne HO_294000.out BK267.out (by decide)) e_) hs_)); have n5_ := Aside0.mk (blk_kept (by exact up_ BK280.out) hkp (fun hs_ => (fun e_ => (Kd.R_ne HO_294000.out BK280.out (by decide)) e_) hs_)); have n6_ := Aside0.mk (blk_kept (by exact up_ BK284.out) hkp (fun hs_ => (fun e_ => (Kd.R_ne HO_294000.out BK284.out (by decide)) e_) hs_)); have n7_ := Aside0.mk (blk_kept (by exact up_ BK293.out) hkp (fun hs_ => (fun e_ => (Kd.R_ne HO_294000.out BK293.out (by decide)) e_) hs_)); have n8_ := Aside0.mk (hb); clear HO_281000; clear HO_285000; clear HO_294000; clear BK266; clear BK267; clear BK280; clear BK284; clear BK293; clear HB; have HO_281000 := n0_; have HO_285000 := n1_; have HO_294000 := n2_; have BK266 := n3_; have BK267 := n4_; have BK280 := n5_; have BK284 := n6_; have BK293 := n7_; have HB := n8_; clear n0_ n1_ n2_ n3_ n4_ n5_ n6_ n7_ n8_; (try clear hb); (try clear hkp); (try clear hy0); have hcz103_0 : w102.cell? ⟨gb293, 0, none⟩ = some (.slice Ao54 t288.length co54) := (blk_cell BK293.out 0).trans rfl; have hcz103_1 : w102.cell? ⟨gb293, 1, none⟩ = some (.int .i64 t291) := (blk_cell BK293.out 1).trans rfl; have hcz103_2 : w102.cell? ⟨gb293, 2, none⟩ = some (.int .i64 t292) := (blk_cell BK293.out 2).trans rfl; have hfz103_0 := blk_frozen BK293.out 0; have hfz103_1 := blk_frozen BK293.out 1; have hfz103_2 := blk_frozen BK293.out 2) | ((with_reducible refine gate_callee (f := 13) rfl ?_); refine goesL_ (some 54) rfl rfl Tryz.func13 (by kernel_rfl) rfl #[.agg #[.slice Ao54 t303.length co54, .int .i64 t291, .int .i64 t292], .int .i64 1] rfl (by (try simp only [List.map_toArray, List.map_cons, List.map_nil]); first | done | (rw [show t303.length = t288.length from (Kd.R_reads' HO_294000.out).1.symm] <;> rfl) | rfl | (simp only [List.length_drop, List.length_take]; rfl)) ?_; (with_reducible refine (laws_heldTreeOut.calls kj21 _ _ t303 t291 t292 1 t304 _ ?side1 ?side2 A86.out).mono ?_); (case side1 => repeat (first | exact (Kd.R_reads' HO_294000.out).2.2 | (with_reducible refine Kd.C_alloc ?_ _) | (with_reducible refine Kd.C_drewN ?_ _) | (with_reducible refine Kd.C_drew ?_))); (case side2 => rw [show t303.length = t288.length from (Kd.R_reads' HO_294000.out).1.symm]; exact (Kd.R_reads' HO_294000.out).2.1); rintro e w104 ⟨rfl, hb⟩; refine ⟨_, rfl, ?_⟩; have n0_ := Aside0.mk (Kd.R_below (by exact rU_ HO_281000.out) hb); have n1_ := Aside0.mk (Kd.R_below (by exact rU_ HO_285000.out) hb); have n2_ := Aside0.mk (Kd.R_below (by exact rU_ HO_294000.out) hb); have n3_ := Aside0.mk (blk_below (up_ BK266.out) hb); have n4_ := Aside0.mk (blk_below (up_ BK267.out) hb); have n5_ := Aside0.mk (blk_below (up_ BK280.out) hb); have n6_ := Aside0.mk (blk_below (up_ BK284.out) hb); have n7_ := Aside0.mk (blk_below (up_ BK293.out) hb); have n8_ := Aside0.mk (below_step bl_ hb); clear HO_281000; clear HO_285000; clear HO_294000; clear BK266; clear BK267; clear BK280; clear BK284; clear BK293; clear HB; have HO_281000 := n0_; have HO_285000 := n1_; have HO_294000 := n2_; have BK266 := n3_; have BK267 := n4_; have BK280 := n5_; have BK284 := n6_; have BK293 := n7_; have HB := n8_; clear n0_ n1_ n2_ n3_ n4_ n5_ n6_ n7_ n8_; (try clear hb); (try clear hb2); (try clear hk); (try clear hi)))
            replace HO_281000 := Aside0.mk (Kd.R_drew HO_281000.out)
            replace HO_285000 := Aside0.mk (Kd.R_drew HO_285000.out)
            replace HO_294000 := Aside0.mk (Kd.R_drew HO_294000.out)
            replace BK266 := Aside0.mk (blk_drew BK266.out)
            replace BK267 := Aside0.mk (blk_drew BK267.out)
            replace BK280 := Aside0.mk (blk_drew BK280.out)
            replace BK284 := Aside0.mk (blk_drew BK284.out)
            replace BK293 := Aside0.mk (blk_drew BK293.out)
            replace HB := Aside0.mk (below_drew1 HB.out)
            refine start_ (n := 7) (S := fun w' => w'.cell? ⟨gb266, 0, none⟩ = some (.slice A0_0 l0_0.length c0_0) ∧ w'.cell? ⟨gb267, 0, none⟩ = some (.int .i64 a1_0) ∧ w'.cell? ⟨gb267, 1, none⟩ = some (.int .i64 a1_1) ∧ w'.cell? ⟨gb267, 2, none⟩ = some (.int .i64 a1_2)) (ds := []) #[false, false, false, false, false, false, false] (by kernel_rfl) rfl rfl ⟨(blk_cell BK266.out 0).trans rfl, (blk_cell BK267.out 0).trans rfl, (blk_cell BK267.out 1).trans rfl, (blk_cell BK267.out 2).trans rfl⟩ (fun hHeld => ?_)
            generalize w104.drew = w105 at HO_281000 HO_285000 HO_294000 BK266 BK267 BK280 BK284 BK293 HB hHeld ⊢
            refine take_ (i := 0) (N := some 60) (v := ?_) (a' := ?_) #[true, false, false, false, false, false, false] rfl rfl (by kernel_rfl) (fun _ _ _ h => h) (Or.inl ⟨by rfl, ?_⟩) hHeld ?_ ?_; rotate_left; (rintro w' ⟨s0, s1, s2, s3⟩; go_simp; with_reducible rfl); rotate_left; (simp only [Act.put, List.setIfInBounds_toArray, List.set_cons_zero, List.set_cons_succ, i64_w, i32_w]; rfl)
            refine take_ (i := 2) (N := some 62) (v := ?_) (a' := ?_) #[true, false, true, false, false, false, false] rfl rfl (by kernel_rfl) (fun _ _ _ h => h) (Or.inl ⟨by rfl, ?_⟩) hHeld ?_ ?_; rotate_left; (rintro w' ⟨s0, s1, s2, s3⟩; go_simp; with_reducible rfl); rotate_left; (simp only [Act.put, List.setIfInBounds_toArray, List.set_cons_zero, List.set_cons_succ, i64_w, i32_w]; rfl)
            refine join_ (σ := Value × Value × Nat) 1 #[true, true, true, true, true, true, false] (fun s_ => [(61, .agg #[s_.1]), (63, .agg #[.int .i64 t308, .int .i64 t309, .int .i64 t310]), (64, .agg #[s_.2.1, .int .i64 t314, .int .i64 t315]), (12, .pointer (some ⟨s_.2.2, 0, none⟩))]) (fun s_ w' => (w'.cell? ⟨gb266, 0, none⟩ = some (.slice A0_0 l0_0.length c0_0) ∧ w'.cell? ⟨gb267, 0, none⟩ = some (.int .i64 a1_0) ∧ w'.cell? ⟨gb267, 1, none⟩ = some (.int .i64 a1_1) ∧ w'.cell? ⟨gb267, 2, none⟩ = some (.int .i64 a1_2)) ∧ (Kd.R k46 46 w' w.heap.size (fun k_ => some k_ ≠ (s_.2.1 : Value).ownBlock ∧ some k_ ≠ (.slice Ao35 t275.length co35 : Value).ownBlock ∧ some k_ ≠ (.slice Ao43 t300.length co43 : Value).ownBlock ∧ some k_ ≠ (.slice Ao54 t288.length co54 : Value).ownBlock) s_.1 t305) ∧ (Kd.R k46 46 w' w.heap.size (fun k_ => some k_ ≠ (s_.1 : Value).ownBlock ∧ some k_ ≠ (.slice Ao35 t275.length co35 : Value).ownBlock ∧ some k_ ≠ (.slice Ao43 t300.length co43 : Value).ownBlock ∧ some k_ ≠ (.slice Ao54 t288.length co54 : Value).ownBlock) s_.2.1 t311) ∧ (Kd.R k46 46 w' w.heap.size (fun k_ => some k_ ≠ (s_.1 : Value).ownBlock ∧ some k_ ≠ (s_.2.1 : Value).ownBlock ∧ some k_ ≠ (.slice Ao43 t300.length co43 : Value).ownBlock ∧ some k_ ≠ (.slice Ao54 t288.length co54 : Value).ownBlock) (.slice Ao35 t275.length co35) t275) ∧ (Kd.R k46 46 w' w.heap.size (fun k_ => some k_ ≠ (s_.1 : Value).ownBlock ∧ some k_ ≠ (s_.2.1 : Value).ownBlock ∧ some k_ ≠ (.slice Ao35 t275.length co35 : Value).ownBlock ∧ some k_ ≠ (.slice Ao54 t288.length co54 : Value).ownBlock) (.slice Ao43 t300.length co43) t300) ∧ (Kd.R k46 46 w' w.heap.size (fun k_ => some k_ ≠ (s_.1 : Value).ownBlock ∧ some k_ ≠ (s_.2.1 : Value).ownBlock ∧ some k_ ≠ (.slice Ao35 t275.length co35 : Value).ownBlock ∧ some k_ ≠ (.slice Ao43 t300.length co43 : Value).ownBlock) (.slice Ao54 t288.length co54) t303) ∧ (w'.heap[gb266]? = some (.cells #[.slice A0_0 l0_0.length c0_0] 24 (0, 0))) ∧ (w'.heap[gb267]? = some (.cells #[.int .i64 a1_0, .int .i64 a1_1, .int .i64 a1_2] 26 (0, 0))) ∧ (w'.heap[gb280]? = some (.cells #[.slice Ao35 t275.length co35, .int .i64 t278, .int .i64 t279] 32 (0, 0))) ∧ (w'.heap[gb284]? = some (.cells #[.slice Ao43 t300.length co43] 30 (0, 0))) ∧ (w'.heap[gb293]? = some (.cells #[.slice Ao54 t288.length co54, .int .i64 t291, .int .i64 t292] 32 (0, 0))) ∧ (w'.heap[s_.2.2]? = some (.cells #[.slice none 0 0, .int .i64 0, .int .i64 0] 32 (0, 0))) ∧ (w.heap.size ≤ s_.2.2) ∧ (w.heap.size ≤ s_.2.2) ∧ (gb266 ≠ s_.2.2) ∧ (s_.2.2 ≠ gb266) ∧ (gb267 ≠ s_.2.2) ∧ (s_.2.2 ≠ gb267) ∧ (gb280 ≠ s_.2.2) ∧ (s_.2.2 ≠ gb280) ∧ (gb284 ≠ s_.2.2) ∧ (s_.2.2 ≠ gb284) ∧ (gb293 ≠ s_.2.2) ∧ (s_.2.2 ≠ gb293) ∧ (Below w.heap.size w w')) ?_ ?_
            rotate_left
            ·
             intro hCont
             refine two_ (i := 1) (j := 5) (Ni := some 61) (Nj := some 12) #[true, true, true, false, false, false, false] #[true, false, true, false, false, true, false] rfl rfl rfl rfl (by kernel_rfl) (by decide) (by decide) (fun K hK => ?_) (fun K hK => ?_)
             ·
              skip
              refine goes_ Tryz.func6 (by kernel_rfl) rfl #[.agg #[.slice A0_0 l0_0.length c0_0]] (by rfl) rfl rfl (by (try simp only [List.map_toArray, List.map_cons, List.map_nil]); first | done | rfl | (simp only [List.length_drop, List.length_take]; rfl)) ?_
              with_reducible refine (laws_toTree.calls kj21 _ _ l0_0 t305 _ ?side1 ?side2 A89.out).mono ?_
              (case side1 => exact Kd.C_below HR0_0.out bl_)
              (case side2 => exact HC0_0.out)
              rintro e w106 ⟨v306, rfl, ho0, hb⟩
              refine ⟨_, rfl, ?_⟩
              have n0_ := Aside0.mk (Kd.R_elder' (by exact rU_ HO_281000.out) (Kd.R_base ho0) hb)
              have n1_ := Aside0.mk (Kd.R_elder' (by exact rU_ HO_285000.out) (Kd.R_base ho0) hb)
              have n2_ := Aside0.mk (Kd.R_elder' (by exact rU_ HO_294000.out) (Kd.R_base ho0) hb)
              have n3_ := Aside0.mk (Kd.R_lower (Kd.R_new' (Kd.R_new' (Kd.R_new' ho0 (Kd.R_lt (by exact rU_ HO_281000.out))) (Kd.R_lt (by exact rU_ HO_285000.out))) (Kd.R_lt (by exact rU_ HO_294000.out))) (below_size bl_))
              have n4_ := Aside0.mk (blk_below (up_ BK266.out) hb)
              have n5_ := Aside0.mk (blk_below (up_ BK267.out) hb)
              have n6_ := Aside0.mk (blk_below (up_ BK280.out) hb)
              have n7_ := Aside0.mk (blk_below (up_ BK284.out) hb)
              have n8_ := Aside0.mk (blk_below (up_ BK293.out) hb)
              have n9_ := Aside0.mk (below_step bl_ hb)
              clear HO_281000
              clear HO_285000
              clear HO_294000
              clear BK266
              clear BK267
              clear BK280
              clear BK284
              clear BK293
              clear HB
              have HO_281000 := n0_
              have HO_285000 := n1_
              have HO_294000 := n2_
              have HO307 := n3_
              have BK266 := n4_
              have BK267 := n5_
              have BK280 := n6_
              have BK284 := n7_
              have BK293 := n8_
              have HB := n9_
              clear n0_ n1_ n2_ n3_ n4_ n5_ n6_ n7_ n8_ n9_
              (try clear hb)
              (try clear hb2)
              (try clear hk)
              (try clear hi)
              (try clear ho0)
              refine hK.out _ _ ⟨(blk_cell BK266.out 0).trans rfl, (blk_cell BK267.out 0).trans rfl, (blk_cell BK267.out 1).trans rfl, (blk_cell BK267.out 2).trans rfl⟩ (fun hHeld => ?_)
              clear hK K
              refine norm_ (a' := ?_) ?_ ?_
              rotate_left
              ·
               show Act.put _ (some 61) _ = _
               simp only [Act.put, List.setIfInBounds_toArray, List.set_cons_zero, List.set_cons_succ, i64_w, i32_w]
               rfl
              refine two_ (i := 3) (j := 5) (Ni := some 63) (Nj := some 12) #[true, true, true, true, false, false, false] #[true, true, true, false, false, true, false] rfl rfl rfl rfl (by kernel_rfl) (by decide) (by decide) (fun K hK => ?_) (fun K hK => ?_)
              ·
               skip
               refine goes_ Tryz.func7 (by kernel_rfl) rfl #[.agg #[.int .i64 a1_0, .int .i64 a1_1, .int .i64 a1_2]] (by rfl) rfl rfl (by (try simp only [List.map_toArray, List.map_cons, List.map_nil]); first | done | rfl | (simp only [List.length_drop, List.length_take]; rfl)) ?_
               with_reducible refine (laws_toItem.calls a1_0 a1_1 a1_2 t308 t309 t310 _ A90.out).mono ?_
               rintro e w107 ⟨rfl, hb⟩
               refine ⟨_, rfl, ?_⟩
               replace HO_281000 := Aside0.mk (Kd.R_below (by exact rU_ HO_281000.out) hb)
               replace HO_285000 := Aside0.mk (Kd.R_below (by exact rU_ HO_285000.out) hb)
               replace HO_294000 := Aside0.mk (Kd.R_below (by exact rU_ HO_294000.out) hb)
               replace HO307 := Aside0.mk (Kd.R_below (by exact rU_ HO307.out) hb)
               replace BK266 := Aside0.mk (blk_below (up_ BK266.out) hb)
               replace BK267 := Aside0.mk (blk_below (up_ BK267.out) hb)
               replace BK280 := Aside0.mk (blk_below (up_ BK280.out) hb)
               replace BK284 := Aside0.mk (blk_below (up_ BK284.out) hb)
               replace BK293 := Aside0.mk (blk_below (up_ BK293.out) hb)
               replace HB := Aside0.mk (below_step bl_ hb)
               (try clear hb)
               (try clear hb2)
               (try clear hk)
               (try clear hi)
               obtain ⟨Ao108, co108, eo108⟩ := Kd.R_slice HO307.out
               (first | subst eo108 | (injection eo108 with f1_ f2_ f3_; have f4_ := f1_.symm; have f5_ := f3_.symm; clear f1_ f2_ f3_; subst f4_; subst f5_))
               refine hK.out _ _ ⟨(blk_cell BK266.out 0).trans rfl, (blk_cell BK267.out 0).trans rfl, (blk_cell BK267.out 1).trans rfl, (blk_cell BK267.out 2).trans rfl⟩ (fun hHeld => ?_)
               clear hK K
               refine norm_ (a' := ?_) ?_ ?_
               rotate_left
               ·
                show Act.put _ (some 63) _ = _
                simp only [Act.put, List.setIfInBounds_toArray, List.set_cons_zero, List.set_cons_succ, i64_w, i32_w]
                rfl
               refine two_ (i := 4) (j := 5) (Ni := some 64) (Nj := some 12) #[true, true, true, true, true, false, false] #[true, true, true, true, false, true, false] rfl rfl rfl rfl (by kernel_rfl) (by decide) (by decide) (fun K hK => ?_) (fun K hK => ?_)
               ·
                skip
                refine goes_ Tryz.func8 (by kernel_rfl) rfl #[.agg #[.slice Ao108 t305.length co108], .agg #[.int .i64 t308, .int .i64 t309, .int .i64 t310]] (by rfl) rfl rfl (by (try simp only [List.map_toArray, List.map_cons, List.map_nil]); first | done | rfl | (simp only [List.length_drop, List.length_take]; rfl)) ?_
                with_reducible refine (impl_TreeTake.calls _ _ t305 t308 t309 t310 t311 t314 t315 _ ?side1 ?side2 A91.out).mono ?_
                (case side1 => repeat (first | exact (Kd.R_reads' HO307.out).2.2 | (with_reducible refine Kd.C_alloc ?_ _) | (with_reducible refine Kd.C_drewN ?_ _) | (with_reducible refine Kd.C_drew ?_)))
                (case side2 => exact (Kd.R_reads' HO307.out).2.1)
                rintro e w109 ⟨v312, rfl, ho0, hb⟩
                refine ⟨_, rfl, ?_⟩
                have n0_ := Aside0.mk (Kd.R_elder' (by exact rU_ HO_281000.out) (Kd.R_base ho0) hb)
                have n1_ := Aside0.mk (Kd.R_elder' (by exact rU_ HO_285000.out) (Kd.R_base ho0) hb)
                have n2_ := Aside0.mk (Kd.R_elder' (by exact rU_ HO_294000.out) (Kd.R_base ho0) hb)
                have n3_ := Aside0.mk (Kd.R_elder' (by exact rU_ HO307.out) (Kd.R_base ho0) hb)
                have n4_ := Aside0.mk (Kd.R_lower (Kd.R_new' (Kd.R_new' (Kd.R_new' (Kd.R_new' ho0 (Kd.R_lt (by exact rU_ HO_281000.out))) (Kd.R_lt (by exact rU_ HO_285000.out))) (Kd.R_lt (by exact rU_ HO_294000.out))) (Kd.R_lt (by exact rU_ HO307.out))) (below_size bl_))
                have n5_ := Aside0.mk (blk_below (up_ BK266.out) hb)
                have n6_ := Aside0.mk (blk_below (up_ BK267.out) hb)
                have n7_ := Aside0.mk (blk_below (up_ BK280.out) hb)
                have n8_ := Aside0.mk (blk_below (up_ BK284.out) hb)
                have n9_ := Aside0.mk (blk_below (up_ BK293.out) hb)
                have n10_ := Aside0.mk (below_step bl_ hb)
                clear HO_281000
                clear HO_285000
                clear HO_294000
                clear HO307
                clear BK266
                clear BK267
                clear BK280
                clear BK284
                clear BK293
                clear HB
                have HO_281000 := n0_
                have HO_285000 := n1_
                have HO_294000 := n2_
                have HO307 := n3_
                have HO313 := n4_
                have BK266 := n5_
                have BK267 := n6_
                have BK280 := n7_
                have BK284 := n8_
                have BK293 := n9_
                have HB := n10_
                clear n0_ n1_ n2_ n3_ n4_ n5_ n6_ n7_ n8_ n9_ n10_
                (try clear hb)
                (try clear hb2)
                (try clear hk)
                (try clear hi)
                (try clear ho0)
                refine hK.out _ _ ⟨(blk_cell BK266.out 0).trans rfl, (blk_cell BK267.out 0).trans rfl, (blk_cell BK267.out 1).trans rfl, (blk_cell BK267.out 2).trans rfl⟩ (fun hHeld => ?_)
                clear hK K
                refine norm_ (a' := ?_) ?_ ?_
                rotate_left
                ·
                 show Act.put _ (some 64) _ = _
                 simp only [Act.put, List.setIfInBounds_toArray, List.set_cons_zero, List.set_cons_succ, i64_w, i32_w]
                 rfl
                refine one_ (i := 5) (N := some 12) #[o_,o_,o_,o_,o_,o_,x_] rfl rfl (by kernel_rfl) (by decide) (fun K hK => ?_)
                refine box_step ?hg (N := 12) ?hd (cs := #[.slice none 0 0, .int .i64 0, .int .i64 0]) (t := 32) ?hr ?_; (case hd => rfl); (case hg => rfl); (case hr => first | (go_simp; done) | (go_simp; rfl))
                intro gb316 hg w110 hbox hb
                have n0_ := Aside0.mk (Kd.R_below (by exact rU_ HO_281000.out) hb)
                have n1_ := Aside0.mk (Kd.R_below (by exact rU_ HO_285000.out) hb)
                have n2_ := Aside0.mk (Kd.R_below (by exact rU_ HO_294000.out) hb)
                have n3_ := Aside0.mk (Kd.R_below (by exact rU_ HO307.out) hb)
                have n4_ := Aside0.mk (Kd.R_below (by exact rU_ HO313.out) hb)
                have n5_ := Aside0.mk (blk_below (up_ BK266.out) hb)
                have n6_ := Aside0.mk (blk_below (up_ BK267.out) hb)
                have n7_ := Aside0.mk (blk_below (up_ BK280.out) hb)
                have n8_ := Aside0.mk (blk_below (up_ BK284.out) hb)
                have n9_ := Aside0.mk (blk_below (up_ BK293.out) hb)
                have n10_ := Aside0.mk (below_step bl_ hb)
                have n11_ := Aside0.mk (hbox)
                have n12_ := Aside0.mk ((by rw [hg]; exact (below_size bl_) : w.heap.size ≤ gb316))
                have n13_ := Aside0.mk ((by rw [hg]; exact (below_size bl_) : w.heap.size ≤ gb316))
                have n14_ := Aside0.mk ((by rw [hg]; exact Nat.ne_of_lt (blk_lt (up_ BK266.out)) : gb266 ≠ gb316))
                have n15_ := Aside0.mk ((by rw [hg]; exact Nat.ne_of_gt (blk_lt (up_ BK266.out)) : gb316 ≠ gb266))
                have n16_ := Aside0.mk ((by rw [hg]; exact Nat.ne_of_lt (blk_lt (up_ BK267.out)) : gb267 ≠ gb316))
                have n17_ := Aside0.mk ((by rw [hg]; exact Nat.ne_of_gt (blk_lt (up_ BK267.out)) : gb316 ≠ gb267))
                have n18_ := Aside0.mk ((by rw [hg]; exact Nat.ne_of_lt (blk_lt (up_ BK280.out)) : gb280 ≠ gb316))
                have n19_ := Aside0.mk ((by rw [hg]; exact Nat.ne_of_gt (blk_lt (up_ BK280.out)) : gb316 ≠ gb280))
                have n20_ := Aside0.mk ((by rw [hg]; exact Nat.ne_of_lt (blk_lt (up_ BK284.out)) : gb284 ≠ gb316))
                have n21_ := Aside0.mk ((by rw [hg]; exact Nat.ne_of_gt (blk_lt (up_ BK284.out)) : gb316 ≠ gb284))
                have n22_ := Aside0.mk ((by rw [hg]; exact Nat.ne_of_lt (blk_lt (up_ BK293.out)) : gb293 ≠ gb316))
                have n23_ := Aside0.mk ((by rw [hg]; exact Nat.ne_of_gt (blk_lt (up_ BK293.out)) : gb316 ≠ gb293))
                clear HO_281000
                clear HO_285000
                clear HO_294000
                clear HO307
                clear HO313
                clear BK266
                clear BK267
                clear BK280
                clear BK284
                clear BK293
                clear HB
                have HO_281000 := n0_
                have HO_285000 := n1_
                have HO_294000 := n2_
                have HO307 := n3_
                have HO313 := n4_
                have BK266 := n5_
                have BK267 := n6_
                have BK280 := n7_
                have BK284 := n8_
                have BK293 := n9_
                have HB := n10_
                have BK316 := n11_
                have GW316 := n12_
                have GE316 := n13_
                have NB266_316 := n14_
                have NB316_266 := n15_
                have NB267_316 := n16_
                have NB316_267 := n17_
                have NB280_316 := n18_
                have NB316_280 := n19_
                have NB284_316 := n20_
                have NB316_284 := n21_
                have NB293_316 := n22_
                have NB316_293 := n23_
                clear n0_ n1_ n2_ n3_ n4_ n5_ n6_ n7_ n8_ n9_ n10_ n11_ n12_ n13_ n14_ n15_ n16_ n17_ n18_ n19_ n20_ n21_ n22_ n23_
                clear hb hbox hg
                refine hK.out _ _ ⟨(blk_cell BK266.out 0).trans rfl, (blk_cell BK267.out 0).trans rfl, (blk_cell BK267.out 1).trans rfl, (blk_cell BK267.out 2).trans rfl⟩ (fun hHeld => ?_)
                clear hK K
                refine norm_ (a' := ?_) ?_ ?_
                rotate_left
                ·
                 show Act.put _ (some 12) _ = _
                 simp only [Act.put, List.setIfInBounds_toArray, List.set_cons_zero, List.set_cons_succ, i64_w, i32_w]
                 rfl
                exact norm_ (by simp only [putAll, Act.put, List.setIfInBounds_toArray, List.set_cons_zero, List.set_cons_succ]) (hCont (.slice Ao108 t305.length co108, v312, gb316) _ ⟨hHeld, (by exact rU_ (Kd.R_mono HO307.out (fun _ hk => ⟨hk.2, ⟨hk.1.1.1.2, ⟨hk.1.1.2, hk.1.2⟩⟩⟩))), (by exact rU_ (Kd.R_mono HO313.out (fun _ hk => ⟨hk.2, ⟨hk.1.1.1.2, ⟨hk.1.1.2, hk.1.2⟩⟩⟩))), (by exact rU_ (Kd.R_mono HO_281000.out (fun _ hk => ⟨hk.1.2, ⟨hk.2, ⟨hk.1.1.1, hk.1.1.2⟩⟩⟩))), (by exact rU_ (Kd.R_mono HO_285000.out (fun _ hk => ⟨hk.1.2, ⟨hk.2, ⟨hk.1.1.1, hk.1.1.2⟩⟩⟩))), (by exact rU_ (Kd.R_mono HO_294000.out (fun _ hk => ⟨hk.1.2, ⟨hk.2, ⟨hk.1.1.1, hk.1.1.2⟩⟩⟩))), (by exact up_ BK266.out), (by exact up_ BK267.out), (by exact up_ BK280.out), (by exact up_ BK284.out), (by exact up_ BK293.out), (by exact up_ BK316.out), GW316.out, GE316.out, NB266_316.out, NB316_266.out, NB267_316.out, NB316_267.out, NB280_316.out, NB316_280.out, NB284_316.out, NB316_284.out, NB293_316.out, NB316_293.out, bl_⟩)
               ·
                skip
                refine box_step ?hg (N := 12) ?hd (cs := #[.slice none 0 0, .int .i64 0, .int .i64 0]) (t := 32) ?hr ?_; (case hd => rfl); (case hg => rfl); (case hr => first | (go_simp; done) | (go_simp; rfl))
                intro gb316 hg w108 hbox hb
                have n0_ := Aside0.mk (Kd.R_below (by exact rU_ HO_281000.out) hb)
                have n1_ := Aside0.mk (Kd.R_below (by exact rU_ HO_285000.out) hb)
                have n2_ := Aside0.mk (Kd.R_below (by exact rU_ HO_294000.out) hb)
                have n3_ := Aside0.mk (Kd.R_below (by exact rU_ HO307.out) hb)
                have n4_ := Aside0.mk (blk_below (up_ BK266.out) hb)
                have n5_ := Aside0.mk (blk_below (up_ BK267.out) hb)
                have n6_ := Aside0.mk (blk_below (up_ BK280.out) hb)
                have n7_ := Aside0.mk (blk_below (up_ BK284.out) hb)
                have n8_ := Aside0.mk (blk_below (up_ BK293.out) hb)
                have n9_ := Aside0.mk (below_step bl_ hb)
                have n10_ := Aside0.mk (hbox)
                have n11_ := Aside0.mk ((by rw [hg]; exact (below_size bl_) : w.heap.size ≤ gb316))
                have n12_ := Aside0.mk ((by rw [hg]; exact (below_size bl_) : w.heap.size ≤ gb316))
                have n13_ := Aside0.mk ((by rw [hg]; exact Nat.ne_of_lt (blk_lt (up_ BK266.out)) : gb266 ≠ gb316))
                have n14_ := Aside0.mk ((by rw [hg]; exact Nat.ne_of_gt (blk_lt (up_ BK266.out)) : gb316 ≠ gb266))
                have n15_ := Aside0.mk ((by rw [hg]; exact Nat.ne_of_lt (blk_lt (up_ BK267.out)) : gb267 ≠ gb316))
                have n16_ := Aside0.mk ((by rw [hg]; exact Nat.ne_of_gt (blk_lt (up_ BK267.out)) : gb316 ≠ gb267))
                have n17_ := Aside0.mk ((by rw [hg]; exact Nat.ne_of_lt (blk_lt (up_ BK280.out)) : gb280 ≠ gb316))
                have n18_ := Aside0.mk ((by rw [hg]; exact Nat.ne_of_gt (blk_lt (up_ BK280.out)) : gb316 ≠ gb280))
                have n19_ := Aside0.mk ((by rw [hg]; exact Nat.ne_of_lt (blk_lt (up_ BK284.out)) : gb284 ≠ gb316))
                have n20_ := Aside0.mk ((by rw [hg]; exact Nat.ne_of_gt (blk_lt (up_ BK284.out)) : gb316 ≠ gb284))
                have n21_ := Aside0.mk ((by rw [hg]; exact Nat.ne_of_lt (blk_lt (up_ BK293.out)) : gb293 ≠ gb316))
                have n22_ := Aside0.mk ((by rw [hg]; exact Nat.ne_of_gt (blk_lt (up_ BK293.out)) : gb316 ≠ gb293))
                clear HO_281000
                clear HO_285000
                clear HO_294000
                clear HO307
                clear BK266
                clear BK267
                clear BK280
                clear BK284
                clear BK293
                clear HB
                have HO_281000 := n0_
                have HO_285000 := n1_
                have HO_294000 := n2_
                have HO307 := n3_
                have BK266 := n4_
                have BK267 := n5_
                have BK280 := n6_
                have BK284 := n7_
                have BK293 := n8_
                have HB := n9_
                have BK316 := n10_
                have GW316 := n11_
                have GE316 := n12_
                have NB266_316 := n13_
                have NB316_266 := n14_
                have NB267_316 := n15_
                have NB316_267 := n16_
                have NB280_316 := n17_
                have NB316_280 := n18_
                have NB284_316 := n19_
                have NB316_284 := n20_
                have NB293_316 := n21_
                have NB316_293 := n22_
                clear n0_ n1_ n2_ n3_ n4_ n5_ n6_ n7_ n8_ n9_ n10_ n11_ n12_ n13_ n14_ n15_ n16_ n17_ n18_ n19_ n20_ n21_ n22_
                clear hb hbox hg
                obtain ⟨Ao109, co109, eo109⟩ := Kd.R_slice HO307.out
                (first | subst eo109 | (injection eo109 with f1_ f2_ f3_; have f4_ := f1_.symm; have f5_ := f3_.symm; clear f1_ f2_ f3_; subst f4_; subst f5_))
                refine hK.out _ _ ⟨(blk_cell BK266.out 0).trans rfl, (blk_cell BK267.out 0).trans rfl, (blk_cell BK267.out 1).trans rfl, (blk_cell BK267.out 2).trans rfl⟩ (fun hHeld => ?_)
                clear hK K
                refine norm_ (a' := ?_) ?_ ?_
                rotate_left
                ·
                 show Act.put _ (some 12) _ = _
                 simp only [Act.put, List.setIfInBounds_toArray, List.set_cons_zero, List.set_cons_succ, i64_w, i32_w]
                 rfl
                refine one_ (i := 4) (N := some 64) #[o_,o_,o_,o_,o_,o_,x_] rfl rfl (by kernel_rfl) (by decide) (fun K hK => ?_)
                refine goes_ Tryz.func8 (by kernel_rfl) rfl #[.agg #[.slice Ao109 t305.length co109], .agg #[.int .i64 t308, .int .i64 t309, .int .i64 t310]] (by rfl) rfl rfl (by (try simp only [List.map_toArray, List.map_cons, List.map_nil]); first | done | rfl | (simp only [List.length_drop, List.length_take]; rfl)) ?_
                with_reducible refine (impl_TreeTake.calls _ _ t305 t308 t309 t310 t311 t314 t315 _ ?side1 ?side2 A91.out).mono ?_
                (case side1 => repeat (first | exact (Kd.R_reads' HO307.out).2.2 | (with_reducible refine Kd.C_alloc ?_ _) | (with_reducible refine Kd.C_drewN ?_ _) | (with_reducible refine Kd.C_drew ?_)))
                (case side2 => exact (Kd.R_reads' HO307.out).2.1)
                rintro e w110 ⟨v312, rfl, ho0, hb⟩
                refine ⟨_, rfl, ?_⟩
                have n0_ := Aside0.mk (Kd.R_elder' (by exact rU_ HO_281000.out) (Kd.R_base ho0) hb)
                have n1_ := Aside0.mk (Kd.R_elder' (by exact rU_ HO_285000.out) (Kd.R_base ho0) hb)
                have n2_ := Aside0.mk (Kd.R_elder' (by exact rU_ HO_294000.out) (Kd.R_base ho0) hb)
                have n3_ := Aside0.mk (Kd.R_elder' (by exact rU_ HO307.out) (Kd.R_base ho0) hb)
                have n4_ := Aside0.mk (Kd.R_lower (Kd.R_new' (Kd.R_new' (Kd.R_new' (Kd.R_new' ho0 (Kd.R_lt (by exact rU_ HO_281000.out))) (Kd.R_lt (by exact rU_ HO_285000.out))) (Kd.R_lt (by exact rU_ HO_294000.out))) (Kd.R_lt (by exact rU_ HO307.out))) (below_size bl_))
                have n5_ := Aside0.mk (blk_below (up_ BK266.out) hb)
                have n6_ := Aside0.mk (blk_below (up_ BK267.out) hb)
                have n7_ := Aside0.mk (blk_below (up_ BK280.out) hb)
                have n8_ := Aside0.mk (blk_below (up_ BK284.out) hb)
                have n9_ := Aside0.mk (blk_below (up_ BK293.out) hb)
                have n10_ := Aside0.mk (blk_below (up_ BK316.out) hb)
                have n11_ := Aside0.mk (below_step bl_ hb)
                clear HO_281000
                clear HO_285000
                clear HO_294000
                clear HO307
                clear BK266
                clear BK267
                clear BK280
                clear BK284
                clear BK293
                clear BK316
                clear HB
                have HO_281000 := n0_
                have HO_285000 := n1_
                have HO_294000 := n2_
                have HO307 := n3_
                have HO313 := n4_
                have BK266 := n5_
                have BK267 := n6_
                have BK280 := n7_
                have BK284 := n8_
                have BK293 := n9_
                have BK316 := n10_
                have HB := n11_
                clear n0_ n1_ n2_ n3_ n4_ n5_ n6_ n7_ n8_ n9_ n10_ n11_
                (try clear hb)
                (try clear hb2)
                (try clear hk)
                (try clear hi)
                (try clear ho0)
                refine hK.out _ _ ⟨(blk_cell BK266.out 0).trans rfl, (blk_cell BK267.out 0).trans rfl, (blk_cell BK267.out 1).trans rfl, (blk_cell BK267.out 2).trans rfl⟩ (fun hHeld => ?_)
                clear hK K
                refine norm_ (a' := ?_) ?_ ?_
                rotate_left
                ·
                 show Act.put _ (some 64) _ = _
                 simp only [Act.put, List.setIfInBounds_toArray, List.set_cons_zero, List.set_cons_succ, i64_w, i32_w]
                 rfl
                exact norm_ (by simp only [putAll, Act.put, List.setIfInBounds_toArray, List.set_cons_zero, List.set_cons_succ]) (hCont (.slice Ao109 t305.length co109, v312, gb316) _ ⟨hHeld, (by exact rU_ (Kd.R_mono HO307.out (fun _ hk => ⟨hk.2, ⟨hk.1.1.1.2, ⟨hk.1.1.2, hk.1.2⟩⟩⟩))), (by exact rU_ (Kd.R_mono HO313.out (fun _ hk => ⟨hk.2, ⟨hk.1.1.1.2, ⟨hk.1.1.2, hk.1.2⟩⟩⟩))), (by exact rU_ (Kd.R_mono HO_281000.out (fun _ hk => ⟨hk.1.2, ⟨hk.2, ⟨hk.1.1.1, hk.1.1.2⟩⟩⟩))), (by exact rU_ (Kd.R_mono HO_285000.out (fun _ hk => ⟨hk.1.2, ⟨hk.2, ⟨hk.1.1.1, hk.1.1.2⟩⟩⟩))), (by exact rU_ (Kd.R_mono HO_294000.out (fun _ hk => ⟨hk.1.2, ⟨hk.2, ⟨hk.1.1.1, hk.1.1.2⟩⟩⟩))), (by exact up_ BK266.out), (by exact up_ BK267.out), (by exact up_ BK280.out), (by exact up_ BK284.out), (by exact up_ BK293.out), (by exact up_ BK316.out), GW316.out, GE316.out, NB266_316.out, NB316_266.out, NB267_316.out, NB316_267.out, NB280_316.out, NB316_280.out, NB284_316.out, NB316_284.out, NB293_316.out, NB316_293.out, bl_⟩)
              ·
               skip
               refine box_step ?hg (N := 12) ?hd (cs := #[.slice none 0 0, .int .i64 0, .int .i64 0]) (t := 32) ?hr ?_; (case hd => rfl); (case hg => rfl); (case hr => first | (go_simp; done) | (go_simp; rfl))
               intro gb316 hg w107 hbox hb
               have n0_ := Aside0.mk (Kd.R_below (by exact rU_ HO_281000.out) hb)
               have n1_ := Aside0.mk (Kd.R_below (by exact rU_ HO_285000.out) hb)
               have n2_ := Aside0.mk (Kd.R_below (by exact rU_ HO_294000.out) hb)
               have n3_ := Aside0.mk (Kd.R_below (by exact rU_ HO307.out) hb)
               have n4_ := Aside0.mk (blk_below (up_ BK266.out) hb)
               have n5_ := Aside0.mk (blk_below (up_ BK267.out) hb)
               have n6_ := Aside0.mk (blk_below (up_ BK280.out) hb)
               have n7_ := Aside0.mk (blk_below (up_ BK284.out) hb)
               have n8_ := Aside0.mk (blk_below (up_ BK293.out) hb)
               have n9_ := Aside0.mk (below_step bl_ hb)
               have n10_ := Aside0.mk (hbox)
               have n11_ := Aside0.mk ((by rw [hg]; exact (below_size bl_) : w.heap.size ≤ gb316))
               have n12_ := Aside0.mk ((by rw [hg]; exact (below_size bl_) : w.heap.size ≤ gb316))
               have n13_ := Aside0.mk ((by rw [hg]; exact Nat.ne_of_lt (blk_lt (up_ BK266.out)) : gb266 ≠ gb316))
               have n14_ := Aside0.mk ((by rw [hg]; exact Nat.ne_of_gt (blk_lt (up_ BK266.out)) : gb316 ≠ gb266))
               have n15_ := Aside0.mk ((by rw [hg]; exact Nat.ne_of_lt (blk_lt (up_ BK267.out)) : gb267 ≠ gb316))
               have n16_ := Aside0.mk ((by rw [hg]; exact Nat.ne_of_gt (blk_lt (up_ BK267.out)) : gb316 ≠ gb267))
               have n17_ := Aside0.mk ((by rw [hg]; exact Nat.ne_of_lt (blk_lt (up_ BK280.out)) : gb280 ≠ gb316))
               have n18_ := Aside0.mk ((by rw [hg]; exact Nat.ne_of_gt (blk_lt (up_ BK280.out)) : gb316 ≠ gb280))
               have n19_ := Aside0.mk ((by rw [hg]; exact Nat.ne_of_lt (blk_lt (up_ BK284.out)) : gb284 ≠ gb316))
               have n20_ := Aside0.mk ((by rw [hg]; exact Nat.ne_of_gt (blk_lt (up_ BK284.out)) : gb316 ≠ gb284))
               have n21_ := Aside0.mk ((by rw [hg]; exact Nat.ne_of_lt (blk_lt (up_ BK293.out)) : gb293 ≠ gb316))
               have n22_ := Aside0.mk ((by rw [hg]; exact Nat.ne_of_gt (blk_lt (up_ BK293.out)) : gb316 ≠ gb293))
               clear HO_281000
               clear HO_285000
               clear HO_294000
               clear HO307
               clear BK266
               clear BK267
               clear BK280
               clear BK284
               clear BK293
               clear HB
               have HO_281000 := n0_
               have HO_285000 := n1_
               have HO_294000 := n2_
               have HO307 := n3_
               have BK266 := n4_
               have BK267 := n5_
               have BK280 := n6_
               have BK284 := n7_
               have BK293 := n8_
               have HB := n9_
               have BK316 := n10_
               have GW316 := n11_
               have GE316 := n12_
               have NB266_316 := n13_
               have NB316_266 := n14_
               have NB267_316 := n15_
               have NB316_267 := n16_
               have NB280_316 := n17_
               have NB316_280 := n18_
               have NB284_316 := n19_
               have NB316_284 := n20_
               have NB293_316 := n21_
               have NB316_293 := n22_
               clear n0_ n1_ n2_ n3_ n4_ n5_ n6_ n7_ n8_ n9_ n10_ n11_ n12_ n13_ n14_ n15_ n16_ n17_ n18_ n19_ n20_ n21_ n22_
               clear hb hbox hg
               refine hK.out _ _ ⟨(blk_cell BK266.out 0).trans rfl, (blk_cell BK267.out 0).trans rfl, (blk_cell BK267.out 1).trans rfl, (blk_cell BK267.out 2).trans rfl⟩ (fun hHeld => ?_)
               clear hK K
               refine norm_ (a' := ?_) ?_ ?_
               rotate_left
               ·
                show Act.put _ (some 12) _ = _
                simp only [Act.put, List.setIfInBounds_toArray, List.set_cons_zero, List.set_cons_succ, i64_w, i32_w]
                rfl
               refine one_ (i := 3) (N := some 63) #[o_,o_,o_,o_,x_,o_,x_] rfl rfl (by kernel_rfl) (by decide) (fun K hK => ?_)
               refine goes_ Tryz.func7 (by kernel_rfl) rfl #[.agg #[.int .i64 a1_0, .int .i64 a1_1, .int .i64 a1_2]] (by rfl) rfl rfl (by (try simp only [List.map_toArray, List.map_cons, List.map_nil]); first | done | rfl | (simp only [List.length_drop, List.length_take]; rfl)) ?_
               with_reducible refine (laws_toItem.calls a1_0 a1_1 a1_2 t308 t309 t310 _ A90.out).mono ?_
               rintro e w108 ⟨rfl, hb⟩
               refine ⟨_, rfl, ?_⟩
               replace HO_281000 := Aside0.mk (Kd.R_below (by exact rU_ HO_281000.out) hb)
               replace HO_285000 := Aside0.mk (Kd.R_below (by exact rU_ HO_285000.out) hb)
               replace HO_294000 := Aside0.mk (Kd.R_below (by exact rU_ HO_294000.out) hb)
               replace HO307 := Aside0.mk (Kd.R_below (by exact rU_ HO307.out) hb)
               replace BK266 := Aside0.mk (blk_below (up_ BK266.out) hb)
               replace BK267 := Aside0.mk (blk_below (up_ BK267.out) hb)
               replace BK280 := Aside0.mk (blk_below (up_ BK280.out) hb)
               replace BK284 := Aside0.mk (blk_below (up_ BK284.out) hb)
               replace BK293 := Aside0.mk (blk_below (up_ BK293.out) hb)
               replace BK316 := Aside0.mk (blk_below (up_ BK316.out) hb)
               replace HB := Aside0.mk (below_step bl_ hb)
               (try clear hb)
               (try clear hb2)
               (try clear hk)
               (try clear hi)
               obtain ⟨Ao109, co109, eo109⟩ := Kd.R_slice HO307.out
               (first | subst eo109 | (injection eo109 with f1_ f2_ f3_; have f4_ := f1_.symm; have f5_ := f3_.symm; clear f1_ f2_ f3_; subst f4_; subst f5_))
               refine hK.out _ _ ⟨(blk_cell BK266.out 0).trans rfl, (blk_cell BK267.out 0).trans rfl, (blk_cell BK267.out 1).trans rfl, (blk_cell BK267.out 2).trans rfl⟩ (fun hHeld => ?_)
               clear hK K
               refine norm_ (a' := ?_) ?_ ?_
               rotate_left
               ·
                show Act.put _ (some 63) _ = _
                simp only [Act.put, List.setIfInBounds_toArray, List.set_cons_zero, List.set_cons_succ, i64_w, i32_w]
                rfl
               refine one_ (i := 4) (N := some 64) #[o_,o_,o_,o_,o_,o_,x_] rfl rfl (by kernel_rfl) (by decide) (fun K hK => ?_)
               refine goes_ Tryz.func8 (by kernel_rfl) rfl #[.agg #[.slice Ao109 t305.length co109], .agg #[.int .i64 t308, .int .i64 t309, .int .i64 t310]] (by rfl) rfl rfl (by (try simp only [List.map_toArray, List.map_cons, List.map_nil]); first | done | rfl | (simp only [List.length_drop, List.length_take]; rfl)) ?_
               with_reducible refine (impl_TreeTake.calls _ _ t305 t308 t309 t310 t311 t314 t315 _ ?side1 ?side2 A91.out).mono ?_
               (case side1 => repeat (first | exact (Kd.R_reads' HO307.out).2.2 | (with_reducible refine Kd.C_alloc ?_ _) | (with_reducible refine Kd.C_drewN ?_ _) | (with_reducible refine Kd.C_drew ?_)))
               (case side2 => exact (Kd.R_reads' HO307.out).2.1)
               rintro e w110 ⟨v312, rfl, ho0, hb⟩
               refine ⟨_, rfl, ?_⟩
               have n0_ := Aside0.mk (Kd.R_elder' (by exact rU_ HO_281000.out) (Kd.R_base ho0) hb)
               have n1_ := Aside0.mk (Kd.R_elder' (by exact rU_ HO_285000.out) (Kd.R_base ho0) hb)
               have n2_ := Aside0.mk (Kd.R_elder' (by exact rU_ HO_294000.out) (Kd.R_base ho0) hb)
               have n3_ := Aside0.mk (Kd.R_elder' (by exact rU_ HO307.out) (Kd.R_base ho0) hb)
               have n4_ := Aside0.mk (Kd.R_lower (Kd.R_new' (Kd.R_new' (Kd.R_new' (Kd.R_new' ho0 (Kd.R_lt (by exact rU_ HO_281000.out))) (Kd.R_lt (by exact rU_ HO_285000.out))) (Kd.R_lt (by exact rU_ HO_294000.out))) (Kd.R_lt (by exact rU_ HO307.out))) (below_size bl_))
               have n5_ := Aside0.mk (blk_below (up_ BK266.out) hb)
               have n6_ := Aside0.mk (blk_below (up_ BK267.out) hb)
               have n7_ := Aside0.mk (blk_below (up_ BK280.out) hb)
               have n8_ := Aside0.mk (blk_below (up_ BK284.out) hb)
               have n9_ := Aside0.mk (blk_below (up_ BK293.out) hb)
               have n10_ := Aside0.mk (blk_below (up_ BK316.out) hb)
               have n11_ := Aside0.mk (below_step bl_ hb)
               clear HO_281000
               clear HO_285000
               clear HO_294000
               clear HO307
               clear BK266
               clear BK267
               clear BK280
               clear BK284
               clear BK293
               clear BK316
               clear HB
               have HO_281000 := n0_
               have HO_285000 := n1_
               have HO_294000 := n2_
               have HO307 := n3_
               have HO313 := n4_
               have BK266 := n5_
               have BK267 := n6_
               have BK280 := n7_
               have BK284 := n8_
               have BK293 := n9_
               have BK316 := n10_
               have HB := n11_
               clear n0_ n1_ n2_ n3_ n4_ n5_ n6_ n7_ n8_ n9_ n10_ n11_
               (try clear hb)
               (try clear hb2)
               (try clear hk)
               (try clear hi)
               (try clear ho0)
               refine hK.out _ _ ⟨(blk_cell BK266.out 0).trans rfl, (blk_cell BK267.out 0).trans rfl, (blk_cell BK267.out 1).trans rfl, (blk_cell BK267.out 2).trans rfl⟩ (fun hHeld => ?_)
               clear hK K
               refine norm_ (a' := ?_) ?_ ?_
               rotate_left
               ·
                show Act.put _ (some 64) _ = _
                simp only [Act.put, List.setIfInBounds_toArray, List.set_cons_zero, List.set_cons_succ, i64_w, i32_w]
                rfl
               exact norm_ (by simp only [putAll, Act.put, List.setIfInBounds_toArray, List.set_cons_zero, List.set_cons_succ]) (hCont (.slice Ao109 t305.length co109, v312, gb316) _ ⟨hHeld, (by exact rU_ (Kd.R_mono HO307.out (fun _ hk => ⟨hk.2, ⟨hk.1.1.1.2, ⟨hk.1.1.2, hk.1.2⟩⟩⟩))), (by exact rU_ (Kd.R_mono HO313.out (fun _ hk => ⟨hk.2, ⟨hk.1.1.1.2, ⟨hk.1.1.2, hk.1.2⟩⟩⟩))), (by exact rU_ (Kd.R_mono HO_281000.out (fun _ hk => ⟨hk.1.2, ⟨hk.2, ⟨hk.1.1.1, hk.1.1.2⟩⟩⟩))), (by exact rU_ (Kd.R_mono HO_285000.out (fun _ hk => ⟨hk.1.2, ⟨hk.2, ⟨hk.1.1.1, hk.1.1.2⟩⟩⟩))), (by exact rU_ (Kd.R_mono HO_294000.out (fun _ hk => ⟨hk.1.2, ⟨hk.2, ⟨hk.1.1.1, hk.1.1.2⟩⟩⟩))), (by exact up_ BK266.out), (by exact up_ BK267.out), (by exact up_ BK280.out), (by exact up_ BK284.out), (by exact up_ BK293.out), (by exact up_ BK316.out), GW316.out, GE316.out, NB266_316.out, NB316_266.out, NB267_316.out, NB316_267.out, NB280_316.out, NB316_280.out, NB284_316.out, NB316_284.out, NB293_316.out, NB316_293.out, bl_⟩)
             ·
              skip
              refine box_step ?hg (N := 12) ?hd (cs := #[.slice none 0 0, .int .i64 0, .int .i64 0]) (t := 32) ?hr ?_; (case hd => rfl); (case hg => rfl); (case hr => first | (go_simp; done) | (go_simp; rfl))
              intro gb316 hg w106 hbox hb
              have n0_ := Aside0.mk (Kd.R_below (by exact rU_ HO_281000.out) hb)
              have n1_ := Aside0.mk (Kd.R_below (by exact rU_ HO_285000.out) hb)
              have n2_ := Aside0.mk (Kd.R_below (by exact rU_ HO_294000.out) hb)
              have n3_ := Aside0.mk (blk_below (up_ BK266.out) hb)
              have n4_ := Aside0.mk (blk_below (up_ BK267.out) hb)
              have n5_ := Aside0.mk (blk_below (up_ BK280.out) hb)
              have n6_ := Aside0.mk (blk_below (up_ BK284.out) hb)
              have n7_ := Aside0.mk (blk_below (up_ BK293.out) hb)
              have n8_ := Aside0.mk (below_step bl_ hb)
              have n9_ := Aside0.mk (hbox)
              have n10_ := Aside0.mk ((by rw [hg]; exact (below_size bl_) : w.heap.size ≤ gb316))
              have n11_ := Aside0.mk ((by rw [hg]; exact (below_size bl_) : w.heap.size ≤ gb316))
              have n12_ := Aside0.mk ((by rw [hg]; exact Nat.ne_of_lt (blk_lt (up_ BK266.out)) : gb266 ≠ gb316))
              have n13_ := Aside0.mk ((by rw [hg]; exact Nat.ne_of_gt (blk_lt (up_ BK266.out)) : gb316 ≠ gb266))
              have n14_ := Aside0.mk ((by rw [hg]; exact Nat.ne_of_lt (blk_lt (up_ BK267.out)) : gb267 ≠ gb316))
              have n15_ := Aside0.mk ((by rw [hg]; exact Nat.ne_of_gt (blk_lt (up_ BK267.out)) : gb316 ≠ gb267))
              have n16_ := Aside0.mk ((by rw [hg]; exact Nat.ne_of_lt (blk_lt (up_ BK280.out)) : gb280 ≠ gb316))
              have n17_ := Aside0.mk ((by rw [hg]; exact Nat.ne_of_gt (blk_lt (up_ BK280.out)) : gb316 ≠ gb280))
              have n18_ := Aside0.mk ((by rw [hg]; exact Nat.ne_of_lt (blk_lt (up_ BK284.out)) : gb284 ≠ gb316))
              have n19_ := Aside0.mk ((by rw [hg]; exact Nat.ne_of_gt (blk_lt (up_ BK284.out)) : gb316 ≠ gb284))
              have n20_ := Aside0.mk ((by rw [hg]; exact Nat.ne_of_lt (blk_lt (up_ BK293.out)) : gb293 ≠ gb316))
              have n21_ := Aside0.mk ((by rw [hg]; exact Nat.ne_of_gt (blk_lt (up_ BK293.out)) : gb316 ≠ gb293))
              clear HO_281000
              clear HO_285000
              clear HO_294000
              clear BK266
              clear BK267
              clear BK280
              clear BK284
              clear BK293
              clear HB
              have HO_281000 := n0_
              have HO_285000 := n1_
              have HO_294000 := n2_
              have BK266 := n3_
              have BK267 := n4_
              have BK280 := n5_
              have BK284 := n6_
              have BK293 := n7_
              have HB := n8_
              have BK316 := n9_
              have GW316 := n10_
              have GE316 := n11_
              have NB266_316 := n12_
              have NB316_266 := n13_
              have NB267_316 := n14_
              have NB316_267 := n15_
              have NB280_316 := n16_
              have NB316_280 := n17_
              have NB284_316 := n18_
              have NB316_284 := n19_
              have NB293_316 := n20_
              have NB316_293 := n21_
              clear n0_ n1_ n2_ n3_ n4_ n5_ n6_ n7_ n8_ n9_ n10_ n11_ n12_ n13_ n14_ n15_ n16_ n17_ n18_ n19_ n20_ n21_
              clear hb hbox hg
              refine hK.out _ _ ⟨(blk_cell BK266.out 0).trans rfl, (blk_cell BK267.out 0).trans rfl, (blk_cell BK267.out 1).trans rfl, (blk_cell BK267.out 2).trans rfl⟩ (fun hHeld => ?_)
              clear hK K
              refine norm_ (a' := ?_) ?_ ?_
              rotate_left
              ·
               show Act.put _ (some 12) _ = _
               simp only [Act.put, List.setIfInBounds_toArray, List.set_cons_zero, List.set_cons_succ, i64_w, i32_w]
               rfl
              refine one_ (i := 1) (N := some 61) #[o_,o_,o_,x_,x_,o_,x_] rfl rfl (by kernel_rfl) (by decide) (fun K hK => ?_)
              refine goes_ Tryz.func6 (by kernel_rfl) rfl #[.agg #[.slice A0_0 l0_0.length c0_0]] (by rfl) rfl rfl (by (try simp only [List.map_toArray, List.map_cons, List.map_nil]); first | done | rfl | (simp only [List.length_drop, List.length_take]; rfl)) ?_
              with_reducible refine (laws_toTree.calls kj21 _ _ l0_0 t305 _ ?side1 ?side2 A89.out).mono ?_
              (case side1 => exact Kd.C_below HR0_0.out bl_)
              (case side2 => exact HC0_0.out)
              rintro e w107 ⟨v306, rfl, ho0, hb⟩
              refine ⟨_, rfl, ?_⟩
              have n0_ := Aside0.mk (Kd.R_elder' (by exact rU_ HO_281000.out) (Kd.R_base ho0) hb)
              have n1_ := Aside0.mk (Kd.R_elder' (by exact rU_ HO_285000.out) (Kd.R_base ho0) hb)
              have n2_ := Aside0.mk (Kd.R_elder' (by exact rU_ HO_294000.out) (Kd.R_base ho0) hb)
              have n3_ := Aside0.mk (Kd.R_lower (Kd.R_new' (Kd.R_new' (Kd.R_new' ho0 (Kd.R_lt (by exact rU_ HO_281000.out))) (Kd.R_lt (by exact rU_ HO_285000.out))) (Kd.R_lt (by exact rU_ HO_294000.out))) (below_size bl_))
              have n4_ := Aside0.mk (blk_below (up_ BK266.out) hb)
              have n5_ := Aside0.mk (blk_below (up_ BK267.out) hb)
              have n6_ := Aside0.mk (blk_below (up_ BK280.out) hb)
              have n7_ := Aside0.mk (blk_below (up_ BK284.out) hb)
              have n8_ := Aside0.mk (blk_below (up_ BK293.out) hb)
              have n9_ := Aside0.mk (blk_below (up_ BK316.out) hb)
              have n10_ := Aside0.mk (below_step bl_ hb)
              clear HO_281000
              clear HO_285000
              clear HO_294000
              clear BK266
              clear BK267
              clear BK280
              clear BK284
              clear BK293
              clear BK316
              clear HB
              have HO_281000 := n0_
              have HO_285000 := n1_
              have HO_294000 := n2_
              have HO307 := n3_
              have BK266 := n4_
              have BK267 := n5_
              have BK280 := n6_
              have BK284 := n7_
              have BK293 := n8_
              have BK316 := n9_
              have HB := n10_
              clear n0_ n1_ n2_ n3_ n4_ n5_ n6_ n7_ n8_ n9_ n10_
              (try clear hb)
              (try clear hb2)
              (try clear hk)
              (try clear hi)
              (try clear ho0)
              refine hK.out _ _ ⟨(blk_cell BK266.out 0).trans rfl, (blk_cell BK267.out 0).trans rfl, (blk_cell BK267.out 1).trans rfl, (blk_cell BK267.out 2).trans rfl⟩ (fun hHeld => ?_)
              clear hK K
              refine norm_ (a' := ?_) ?_ ?_
              rotate_left
              ·
               show Act.put _ (some 61) _ = _
               simp only [Act.put, List.setIfInBounds_toArray, List.set_cons_zero, List.set_cons_succ, i64_w, i32_w]
               rfl
              refine one_ (i := 3) (N := some 63) #[o_,o_,o_,o_,x_,o_,x_] rfl rfl (by kernel_rfl) (by decide) (fun K hK => ?_)
              refine goes_ Tryz.func7 (by kernel_rfl) rfl #[.agg #[.int .i64 a1_0, .int .i64 a1_1, .int .i64 a1_2]] (by rfl) rfl rfl (by (try simp only [List.map_toArray, List.map_cons, List.map_nil]); first | done | rfl | (simp only [List.length_drop, List.length_take]; rfl)) ?_
              with_reducible refine (laws_toItem.calls a1_0 a1_1 a1_2 t308 t309 t310 _ A90.out).mono ?_
              rintro e w108 ⟨rfl, hb⟩
              refine ⟨_, rfl, ?_⟩
              replace HO_281000 := Aside0.mk (Kd.R_below (by exact rU_ HO_281000.out) hb)
              replace HO_285000 := Aside0.mk (Kd.R_below (by exact rU_ HO_285000.out) hb)
              replace HO_294000 := Aside0.mk (Kd.R_below (by exact rU_ HO_294000.out) hb)
              replace HO307 := Aside0.mk (Kd.R_below (by exact rU_ HO307.out) hb)
              replace BK266 := Aside0.mk (blk_below (up_ BK266.out) hb)
              replace BK267 := Aside0.mk (blk_below (up_ BK267.out) hb)
              replace BK280 := Aside0.mk (blk_below (up_ BK280.out) hb)
              replace BK284 := Aside0.mk (blk_below (up_ BK284.out) hb)
              replace BK293 := Aside0.mk (blk_below (up_ BK293.out) hb)
              replace BK316 := Aside0.mk (blk_below (up_ BK316.out) hb)
              replace HB := Aside0.mk (below_step bl_ hb)
              (try clear hb)
              (try clear hb2)
              (try clear hk)
              (try clear hi)
              obtain ⟨Ao109, co109, eo109⟩ := Kd.R_slice HO307.out
              (first | subst eo109 | (injection eo109 with f1_ f2_ f3_; have f4_ := f1_.symm; have f5_ := f3_.symm; clear f1_ f2_ f3_; subst f4_; subst f5_))
              refine hK.out _ _ ⟨(blk_cell BK266.out 0).trans rfl, (blk_cell BK267.out 0).trans rfl, (blk_cell BK267.out 1).trans rfl, (blk_cell BK267.out 2).trans rfl⟩ (fun hHeld => ?_)
              clear hK K
              refine norm_ (a' := ?_) ?_ ?_
              rotate_left
              ·
               show Act.put _ (some 63) _ = _
               simp only [Act.put, List.setIfInBounds_toArray, List.set_cons_zero, List.set_cons_succ, i64_w, i32_w]
               rfl
              refine one_ (i := 4) (N := some 64) #[o_,o_,o_,o_,o_,o_,x_] rfl rfl (by kernel_rfl) (by decide) (fun K hK => ?_)
              refine goes_ Tryz.func8 (by kernel_rfl) rfl #[.agg #[.slice Ao109 t305.length co109], .agg #[.int .i64 t308, .int .i64 t309, .int .i64 t310]] (by rfl) rfl rfl (by (try simp only [List.map_toArray, List.map_cons, List.map_nil]); first | done | rfl | (simp only [List.length_drop, List.length_take]; rfl)) ?_
              with_reducible refine (impl_TreeTake.calls _ _ t305 t308 t309 t310 t311 t314 t315 _ ?side1 ?side2 A91.out).mono ?_
              (case side1 => repeat (first | exact (Kd.R_reads' HO307.out).2.2 | (with_reducible refine Kd.C_alloc ?_ _) | (with_reducible refine Kd.C_drewN ?_ _) | (with_reducible refine Kd.C_drew ?_)))
              (case side2 => exact (Kd.R_reads' HO307.out).2.1)
              rintro e w110 ⟨v312, rfl, ho0, hb⟩
              refine ⟨_, rfl, ?_⟩
              have n0_ := Aside0.mk (Kd.R_elder' (by exact rU_ HO_281000.out) (Kd.R_base ho0) hb)
              have n1_ := Aside0.mk (Kd.R_elder' (by exact rU_ HO_285000.out) (Kd.R_base ho0) hb)
              have n2_ := Aside0.mk (Kd.R_elder' (by exact rU_ HO_294000.out) (Kd.R_base ho0) hb)
              have n3_ := Aside0.mk (Kd.R_elder' (by exact rU_ HO307.out) (Kd.R_base ho0) hb)
              have n4_ := Aside0.mk (Kd.R_lower (Kd.R_new' (Kd.R_new' (Kd.R_new' (Kd.R_new' ho0 (Kd.R_lt (by exact rU_ HO_281000.out))) (Kd.R_lt (by exact rU_ HO_285000.out))) (Kd.R_lt (by exact rU_ HO_294000.out))) (Kd.R_lt (by exact rU_ HO307.out))) (below_size bl_))
              have n5_ := Aside0.mk (blk_below (up_ BK266.out) hb)
              have n6_ := Aside0.mk (blk_below (up_ BK267.out) hb)
              have n7_ := Aside0.mk (blk_below (up_ BK280.out) hb)
              have n8_ := Aside0.mk (blk_below (up_ BK284.out) hb)
              have n9_ := Aside0.mk (blk_below (up_ BK293.out) hb)
              have n10_ := Aside0.mk (blk_below (up_ BK316.out) hb)
              have n11_ := Aside0.mk (below_step bl_ hb)
              clear HO_281000
              clear HO_285000
              clear HO_294000
              clear HO307
              clear BK266
              clear BK267
              clear BK280
              clear BK284
              clear BK293
              clear BK316
              clear HB
              have HO_281000 := n0_
              have HO_285000 := n1_
              have HO_294000 := n2_
              have HO307 := n3_
              have HO313 := n4_
              have BK266 := n5_
              have BK267 := n6_
              have BK280 := n7_
              have BK284 := n8_
              have BK293 := n9_
              have BK316 := n10_
              have HB := n11_
              clear n0_ n1_ n2_ n3_ n4_ n5_ n6_ n7_ n8_ n9_ n10_ n11_
              (try clear hb)
              (try clear hb2)
              (try clear hk)
              (try clear hi)
              (try clear ho0)
              refine hK.out _ _ ⟨(blk_cell BK266.out 0).trans rfl, (blk_cell BK267.out 0).trans rfl, (blk_cell BK267.out 1).trans rfl, (blk_cell BK267.out 2).trans rfl⟩ (fun hHeld => ?_)
              clear hK K
              refine norm_ (a' := ?_) ?_ ?_
              rotate_left
              ·
               show Act.put _ (some 64) _ = _
               simp only [Act.put, List.setIfInBounds_toArray, List.set_cons_zero, List.set_cons_succ, i64_w, i32_w]
               rfl
              exact norm_ (by simp only [putAll, Act.put, List.setIfInBounds_toArray, List.set_cons_zero, List.set_cons_succ]) (hCont (.slice Ao109 t305.length co109, v312, gb316) _ ⟨hHeld, (by exact rU_ (Kd.R_mono HO307.out (fun _ hk => ⟨hk.2, ⟨hk.1.1.1.2, ⟨hk.1.1.2, hk.1.2⟩⟩⟩))), (by exact rU_ (Kd.R_mono HO313.out (fun _ hk => ⟨hk.2, ⟨hk.1.1.1.2, ⟨hk.1.1.2, hk.1.2⟩⟩⟩))), (by exact rU_ (Kd.R_mono HO_281000.out (fun _ hk => ⟨hk.1.2, ⟨hk.2, ⟨hk.1.1.1, hk.1.1.2⟩⟩⟩))), (by exact rU_ (Kd.R_mono HO_285000.out (fun _ hk => ⟨hk.1.2, ⟨hk.2, ⟨hk.1.1.1, hk.1.1.2⟩⟩⟩))), (by exact rU_ (Kd.R_mono HO_294000.out (fun _ hk => ⟨hk.1.2, ⟨hk.2, ⟨hk.1.1.1, hk.1.1.2⟩⟩⟩))), (by exact up_ BK266.out), (by exact up_ BK267.out), (by exact up_ BK280.out), (by exact up_ BK284.out), (by exact up_ BK293.out), (by exact up_ BK316.out), GW316.out, GE316.out, NB266_316.out, NB316_266.out, NB267_316.out, NB316_267.out, NB280_316.out, NB316_280.out, NB284_316.out, NB316_284.out, NB293_316.out, NB316_293.out, bl_⟩)
            rintro ⟨v306, v312, gb316⟩ w111 ⟨hS_, h0_, h1_, h2_, h3_, h4_, h5_, h6_, h7_, h8_, h9_, h10_, h11_, h12_, h13_, h14_, h15_, h16_, h17_, h18_, h19_, h20_, h21_, h22_, h23_⟩
            have n0_ : Aside0 (Kd.R k46 46 w111 w.heap.size (fun k_ => some k_ ≠ (v312 : Value).ownBlock ∧ some k_ ≠ (.slice Ao35 t275.length co35 : Value).ownBlock ∧ some k_ ≠ (.slice Ao43 t300.length co43 : Value).ownBlock ∧ some k_ ≠ (.slice Ao54 t288.length co54 : Value).ownBlock) v306 t305) := ⟨h0_⟩
            have n1_ : Aside0 (Kd.R k46 46 w111 w.heap.size (fun k_ => some k_ ≠ (v306 : Value).ownBlock ∧ some k_ ≠ (.slice Ao35 t275.length co35 : Value).ownBlock ∧ some k_ ≠ (.slice Ao43 t300.length co43 : Value).ownBlock ∧ some k_ ≠ (.slice Ao54 t288.length co54 : Value).ownBlock) v312 t311) := ⟨h1_⟩
            have n2_ : Aside0 (Kd.R k46 46 w111 w.heap.size (fun k_ => some k_ ≠ (v306 : Value).ownBlock ∧ some k_ ≠ (v312 : Value).ownBlock ∧ some k_ ≠ (.slice Ao43 t300.length co43 : Value).ownBlock ∧ some k_ ≠ (.slice Ao54 t288.length co54 : Value).ownBlock) (.slice Ao35 t275.length co35) t275) := ⟨h2_⟩
            have n3_ : Aside0 (Kd.R k46 46 w111 w.heap.size (fun k_ => some k_ ≠ (v306 : Value).ownBlock ∧ some k_ ≠ (v312 : Value).ownBlock ∧ some k_ ≠ (.slice Ao35 t275.length co35 : Value).ownBlock ∧ some k_ ≠ (.slice Ao54 t288.length co54 : Value).ownBlock) (.slice Ao43 t300.length co43) t300) := ⟨h3_⟩
            have n4_ : Aside0 (Kd.R k46 46 w111 w.heap.size (fun k_ => some k_ ≠ (v306 : Value).ownBlock ∧ some k_ ≠ (v312 : Value).ownBlock ∧ some k_ ≠ (.slice Ao35 t275.length co35 : Value).ownBlock ∧ some k_ ≠ (.slice Ao43 t300.length co43 : Value).ownBlock) (.slice Ao54 t288.length co54) t303) := ⟨h4_⟩
            have n5_ : Aside0 (w111.heap[gb266]? = some (.cells #[.slice A0_0 l0_0.length c0_0] 24 (0, 0))) := ⟨h5_⟩
            have n6_ : Aside0 (w111.heap[gb267]? = some (.cells #[.int .i64 a1_0, .int .i64 a1_1, .int .i64 a1_2] 26 (0, 0))) := ⟨h6_⟩
            have n7_ : Aside0 (w111.heap[gb280]? = some (.cells #[.slice Ao35 t275.length co35, .int .i64 t278, .int .i64 t279] 32 (0, 0))) := ⟨h7_⟩
            have n8_ : Aside0 (w111.heap[gb284]? = some (.cells #[.slice Ao43 t300.length co43] 30 (0, 0))) := ⟨h8_⟩
            have n9_ : Aside0 (w111.heap[gb293]? = some (.cells #[.slice Ao54 t288.length co54, .int .i64 t291, .int .i64 t292] 32 (0, 0))) := ⟨h9_⟩
            have n10_ : Aside0 (w111.heap[gb316]? = some (.cells #[.slice none 0 0, .int .i64 0, .int .i64 0] 32 (0, 0))) := ⟨h10_⟩
            have n11_ : Aside0 (w.heap.size ≤ gb316) := ⟨h11_⟩
            have n12_ : Aside0 (w.heap.size ≤ gb316) := ⟨h12_⟩
            have n13_ : Aside0 (gb266 ≠ gb316) := ⟨h13_⟩
            have n14_ : Aside0 (gb316 ≠ gb266) := ⟨h14_⟩
            have n15_ : Aside0 (gb267 ≠ gb316) := ⟨h15_⟩
            have n16_ : Aside0 (gb316 ≠ gb267) := ⟨h16_⟩
            have n17_ : Aside0 (gb280 ≠ gb316) := ⟨h17_⟩
            have n18_ : Aside0 (gb316 ≠ gb280) := ⟨h18_⟩
            have n19_ : Aside0 (gb284 ≠ gb316) := ⟨h19_⟩
            have n20_ : Aside0 (gb316 ≠ gb284) := ⟨h20_⟩
            have n21_ : Aside0 (gb293 ≠ gb316) := ⟨h21_⟩
            have n22_ : Aside0 (gb316 ≠ gb293) := ⟨h22_⟩
            have n23_ : Aside0 (Below w.heap.size w w111) := ⟨h23_⟩
            clear HO_281000
            clear HO_285000
            clear HO_294000
            clear BK266
            clear BK267
            clear BK280
            clear BK284
            clear BK293
            clear HB
            clear h0_ h1_ h2_ h3_ h4_ h5_ h6_ h7_ h8_ h9_ h10_ h11_ h12_ h13_ h14_ h15_ h16_ h17_ h18_ h19_ h20_ h21_ h22_ h23_
            have HO307 := n0_
            have HO313 := n1_
            have HO_281000 := n2_
            have HO_285000 := n3_
            have HO_294000 := n4_
            have BK266 := n5_
            have BK267 := n6_
            have BK280 := n7_
            have BK284 := n8_
            have BK293 := n9_
            have BK316 := n10_
            have GW316 := n11_
            have GE316 := n12_
            have NB266_316 := n13_
            have NB316_266 := n14_
            have NB267_316 := n15_
            have NB316_267 := n16_
            have NB280_316 := n17_
            have NB316_280 := n18_
            have NB284_316 := n19_
            have NB316_284 := n20_
            have NB293_316 := n21_
            have NB316_293 := n22_
            have HB := n23_
            clear n0_ n1_ n2_ n3_ n4_ n5_ n6_ n7_ n8_ n9_ n10_ n11_ n12_ n13_ n14_ n15_ n16_ n17_ n18_ n19_ n20_ n21_ n22_ n23_
            have hHeld : w111.cell? ⟨gb266, 0, none⟩ = some (.slice A0_0 l0_0.length c0_0) ∧ w111.cell? ⟨gb267, 0, none⟩ = some (.int .i64 a1_0) ∧ w111.cell? ⟨gb267, 1, none⟩ = some (.int .i64 a1_1) ∧ w111.cell? ⟨gb267, 2, none⟩ = some (.int .i64 a1_2) := hS_
            obtain ⟨Ao112, co112, eo112⟩ := Kd.R_slice HO313.out
            (first | subst eo112 | (injection eo112 with f1_ f2_ f3_; have f4_ := f1_.symm; have f5_ := f3_.symm; clear f1_ f2_ f3_; subst f4_; subst f5_))
            refine norm_ (a' := ?_) ?_ ?_
            rotate_left
            ·
             simp only [putAll, Act.put, List.setIfInBounds_toArray, List.set_cons_zero, List.set_cons_succ]
             rfl
            refine one_ (i := 6) (N := none) #[true, true, true, true, true, true, true] rfl rfl (by kernel_rfl) (by decide) (fun K hK => ?_)
            have hs113 : w111.cell? ⟨gb316, 0, none⟩ = some (.slice none 0 0) := (blk_cell BK316.out 0).trans rfl
            have hfs113 := blk_frozen BK316.out 0
            have hns113_0 := NB266_316.out
            have hns113_1 := NB267_316.out
            have hns113_2 := NB280_316.out
            have hns113_3 := NB284_316.out
            have hns113_4 := NB293_316.out
            have hms113_0 := NB316_266.out
            have hms113_1 := NB316_267.out
            have hms113_2 := NB316_280.out
            have hms113_3 := NB316_284.out
            have hms113_4 := NB316_293.out
            have hs114 : w111.cell? ⟨gb316, 1, none⟩ = some (.int .i64 0) := (blk_cell BK316.out 1).trans rfl
            have hfs114 := blk_frozen BK316.out 1
            have hns114_0 := NB266_316.out
            have hns114_1 := NB267_316.out
            have hns114_2 := NB280_316.out
            have hns114_3 := NB284_316.out
            have hns114_4 := NB293_316.out
            have hms114_0 := NB316_266.out
            have hms114_1 := NB316_267.out
            have hms114_2 := NB316_280.out
            have hms114_3 := NB316_284.out
            have hms114_4 := NB316_293.out
            have hs115 : w111.cell? ⟨gb316, 2, none⟩ = some (.int .i64 0) := (blk_cell BK316.out 2).trans rfl
            have hfs115 := blk_frozen BK316.out 2
            have hns115_0 := NB266_316.out
            have hns115_1 := NB267_316.out
            have hns115_2 := NB280_316.out
            have hns115_3 := NB284_316.out
            have hns115_4 := NB293_316.out
            have hms115_0 := NB316_266.out
            have hms115_1 := NB316_267.out
            have hms115_2 := NB316_280.out
            have hms115_3 := NB316_284.out
            have hms115_4 := NB316_293.out
            refine skip_ (w1 := ?_) (by rfl) rfl ?_ ?_
            rotate_left
            ·
             go_simp
             rfl
            refine hK.out _ _ ⟨((cell_far (p := ⟨gb316, _, none⟩) NB266_316.out _).trans (((cell_far (p := ⟨gb316, _, none⟩) NB266_316.out _).trans (((cell_far (p := ⟨gb316, _, none⟩) NB266_316.out _).trans (hHeld.1)))))), ((cell_far (p := ⟨gb316, _, none⟩) NB267_316.out _).trans (((cell_far (p := ⟨gb316, _, none⟩) NB267_316.out _).trans (((cell_far (p := ⟨gb316, _, none⟩) NB267_316.out _).trans (hHeld.2.1)))))), ((cell_far (p := ⟨gb316, _, none⟩) NB267_316.out _).trans (((cell_far (p := ⟨gb316, _, none⟩) NB267_316.out _).trans (((cell_far (p := ⟨gb316, _, none⟩) NB267_316.out _).trans (hHeld.2.2.1)))))), ((cell_far (p := ⟨gb316, _, none⟩) NB267_316.out _).trans (((cell_far (p := ⟨gb316, _, none⟩) NB267_316.out _).trans (((cell_far (p := ⟨gb316, _, none⟩) NB267_316.out _).trans (hHeld.2.2.2))))))⟩ (fun hHeld => ?_)
            clear hK K
            refine done_ (by kernel_rfl) ?_
            have hnb116 := NB316_266.out
            have hnc116 := NB266_316.out
            have hnb117 := NB316_267.out
            have hnc117 := NB267_316.out
            have hnb118 := NB316_280.out
            have hnc118 := NB280_316.out
            have hnb119 := NB316_284.out
            have hnc119 := NB284_316.out
            have hnb120 := NB316_293.out
            have hnc120 := NB293_316.out
            have hcz121_0 : w111.cell? ⟨gb316, 0, none⟩ = some (.slice none 0 0) := (blk_cell BK316.out 0).trans rfl
            have hcz121_1 : w111.cell? ⟨gb316, 1, none⟩ = some (.int .i64 0) := (blk_cell BK316.out 1).trans rfl
            have hcz121_2 : w111.cell? ⟨gb316, 2, none⟩ = some (.int .i64 0) := (blk_cell BK316.out 2).trans rfl
            have hfz121_0 := blk_frozen BK316.out 0
            have hfz121_1 := blk_frozen BK316.out 1
            have hfz121_2 := blk_frozen BK316.out 2
            have hnb122 := NB280_266.out
            have hnc122 := NB266_280.out
            have hnb123 := NB280_267.out
            have hnc123 := NB267_280.out
            have hnb124 := NB280_284.out
            have hnc124 := NB284_280.out
            have hcz125_0 : w111.cell? ⟨gb280, 0, none⟩ = some (.slice Ao35 t275.length co35) := (blk_cell BK280.out 0).trans rfl
            have hcz125_1 : w111.cell? ⟨gb280, 1, none⟩ = some (.int .i64 t278) := (blk_cell BK280.out 1).trans rfl
            have hcz125_2 : w111.cell? ⟨gb280, 2, none⟩ = some (.int .i64 t279) := (blk_cell BK280.out 2).trans rfl
            have hfz125_0 := blk_frozen BK280.out 0
            have hfz125_1 := blk_frozen BK280.out 1
            have hfz125_2 := blk_frozen BK280.out 2
            try go_wp2_with (first | ((with_reducible refine gate_callee (f := 9) rfl ?_); refine gL_ (some 67) Tryz.func9 #[.agg #[.slice Ao112 t311.length co112, .int .i64 t314, .int .i64 t315], .agg #[.slice Ao35 t275.length co35, .int .i64 t278, .int .i64 t279]] ?_; (with_reducible refine (laws_eqTreeOut.calls kj21 _ _ t311 t314 t315 _ _ t275 t278 t279 true _ ?side1 ?side2 ?side3 ?side4 A92.out).mono ?_); (case side1 => refine (Kd.R_reads' (e := 46) (base := w.heap.size) (ok := fun k_ => (some k_ ≠ (v306 : Value).ownBlock ∧ (some k_ ≠ (.slice Ao35 t275.length co35 : Value).ownBlock ∧ (some k_ ≠ (.slice Ao43 t300.length co43 : Value).ownBlock ∧ some k_ ≠ (.slice Ao54 t288.length co54 : Value).ownBlock)))) (n := t311.length) (c := co112) ?_).2.2; exact (by exact rU_ ((Kd.R_mono (Kd.R_far (p := ⟨gb316, 2, none⟩) (Kd.R_far (p := ⟨gb316, 1, none⟩) (Kd.R_far (p := ⟨gb316, 0, none⟩) (Kd.R_types HO313.out BK316.out (by decide)) (fun _ hk => hk.2) (.slice Ao112 t311.length co112)) (fun _ hk => hk.2) (.int .i64 t314)) (fun _ hk => hk.2) (.int .i64 t315)) (fun _ h_ => h_.1))))); (case side2 => exact (Kd.R_reads' HO313.out).2.1); (case side3 => refine (Kd.R_reads' (e := 46) (base := w.heap.size) (ok := fun k_ => (some k_ ≠ (v306 : Value).ownBlock ∧ (some k_ ≠ (.slice Ao112 t311.length co112 : Value).ownBlock ∧ (some k_ ≠ (.slice Ao43 t300.length co43 : Value).ownBlock ∧ some k_ ≠ (.slice Ao54 t288.length co54 : Value).ownBlock)))) (n := t275.length) (c := co35) ?_).2.2; exact (by exact rU_ ((Kd.R_mono (Kd.R_far (p := ⟨gb316, 2, none⟩) (Kd.R_far (p := ⟨gb316, 1, none⟩) (Kd.R_far (p := ⟨gb316, 0, none⟩) (Kd.R_types HO_281000.out BK316.out (by decide)) (fun _ hk => hk.2) (.slice Ao112 t311.length co112)) (fun _ hk => hk.2) (.int .i64 t314)) (fun _ hk => hk.2) (.int .i64 t315)) (fun _ h_ => h_.1))))); (case side4 => exact (Kd.R_reads' HO_281000.out).2.1); rintro e w126 ⟨rfl, hb⟩; refine ⟨_, rfl, ?_⟩; have n0_ := Aside0.mk (Kd.R_below (by exact rU_ ((Kd.R_mono (Kd.R_far (p := ⟨gb316, 2, none⟩) (Kd.R_far (p := ⟨gb316, 1, none⟩) (Kd.R_far (p := ⟨gb316, 0, none⟩) (Kd.R_types HO_281000.out BK316.out (by decide)) (fun _ hk => hk.2) (.slice Ao112 t311.length co112)) (fun _ hk => hk.2) (.int .i64 t314)) (fun _ hk => hk.2) (.int .i64 t315)) (fun _ h_ => h_.1)))) hb); have n1_ := Aside0.mk (Kd.R_below (by exact rU_ ((Kd.R_mono (Kd.R_far (p := ⟨gb316, 2, none⟩) (Kd.R_far (p := ⟨gb316, 1, none⟩) (Kd.R_far (p := ⟨gb316, 0, none⟩) (Kd.R_types HO_285000.out BK316.out (by decide)) (fun _ hk => hk.2) (.slice Ao112 t311.length co112)) (fun _ hk => hk.2) (.int .i64 t314)) (fun _ hk => hk.2) (.int .i64 t315)) (fun _ h_ => h_.1)))) hb); have n2_ := Aside0.mk (Kd.R_below (by exact rU_ ((Kd.R_mono (Kd.R_far (p := ⟨gb316, 2, none⟩) (Kd.R_far (p := ⟨gb316, 1, none⟩) (Kd.R_far (p := ⟨gb316, 0, none⟩) (Kd.R_types HO_294000.out BK316.out (by decide)) (fun _ hk => hk.2) (.slice Ao112 t311.length co112)) (fun _ hk => hk.2) (.int .i64 t314)) (fun _ hk => hk.2) (.int .i64 t315)) (fun _ h_ => h_.1)))) hb); have n3_ := Aside0.mk (Kd.R_below (by exact rU_ ((Kd.R_mono (Kd.R_far (p := ⟨gb316, 2, none⟩) (Kd.R_far (p := ⟨gb316, 1, none⟩) (Kd.R_far (p := ⟨gb316, 0, none⟩) (Kd.R_types HO307.out BK316.out (by decide)) (fun _ hk => hk.2) (.slice Ao112 t311.length co112)) (fun _ hk => hk.2) (.int .i64 t314)) (fun _ hk => hk.2) (.int .i64 t315)) (fun _ h_ => h_.1)))) hb); have n4_ := Aside0.mk (Kd.R_below (by exact rU_ ((Kd.R_mono (Kd.R_far (p := ⟨gb316, 2, none⟩) (Kd.R_far (p := ⟨gb316, 1, none⟩) (Kd.R_far (p := ⟨gb316, 0, none⟩) (Kd.R_types HO313.out BK316.out (by decide)) (fun _ hk => hk.2) (.slice Ao112 t311.length co112)) (fun _ hk => hk.2) (.int .i64 t314)) (fun _ hk => hk.2) (.int .i64 t315)) (fun _ h_ => h_.1)))) hb); have n5_ := Aside0.mk (blk_below (g := gb266) (o := .cells #[.slice A0_0 l0_0.length c0_0] 24 (0, 0)) (by (with_reducible repeat (first | refine blk_drewN ?_ _ | refine blk_drew ?_ | refine blk_alloc ?_ _)); refine blk_far ?_ NB266_316.out _; (with_reducible repeat (first | refine blk_drewN ?_ _ | refine blk_drew ?_ | refine blk_alloc ?_ _)); refine blk_far ?_ NB266_316.out _; (with_reducible repeat (first | refine blk_drewN ?_ _ | refine blk_drew ?_ | refine blk_alloc ?_ _)); refine blk_far ?_ NB266_316.out _; (with_reducible repeat (first | refine blk_drewN ?_ _ | refine blk_drew ?_ | refine blk_alloc ?_ _)); exact BK266.out) hb); have n6_ := Aside0.mk (blk_below (g := gb267) (o := .cells #[.int .i64 a1_0, .int .i64 a1_1, .int .i64 a1_2] 26 (0, 0)) (by (with_reducible repeat (first | refine blk_drewN ?_ _ | refine blk_drew ?_ | refine blk_alloc ?_ _)); refine blk_far ?_ NB267_316.out _; (with_reducible repeat (first | refine blk_drewN ?_ _ | refine blk_drew ?_ | refine blk_alloc ?_ _)); refine blk_far ?_ NB267_316.out _; (with_reducible repeat (first | refine blk_drewN ?_ _ | refine blk_drew ?_ | refine blk_alloc ?_ _)); refine blk_far ?_ NB267_316.out _; (with_reducible repeat (first | refine blk_drewN ?_ _ | refine blk_drew ?_ | refine blk_alloc ?_ _)); exact BK267.out) hb); have n7_ := Aside0.mk (blk_below (g := gb280) (o := .cells #[.slice Ao35 t275.length co35, .int .i64 t278, .int .i64 t279] 32 (0, 0)) (by (with_reducible repeat (first | refine blk_drewN ?_ _ | refine blk_drew ?_ | refine blk_alloc ?_ _)); refine blk_far ?_ NB280_316.out _; (with_reducible repeat (first | refine blk_drewN ?_ _ | refine blk_drew ?_ | refine blk_alloc ?_ _)); refine blk_far ?_ NB280_316.out _; (with_reducible repeat (first | refine blk_drewN ?_ _ | refine blk_drew ?_ | refine blk_alloc ?_ _)); refine blk_far ?_ NB280_316.out _; (with_reducible repeat (first | refine blk_drewN ?_ _ | refine blk_drew ?_ | refine blk_alloc ?_ _)); exact BK280.out) hb); have n8_ := Aside0.mk (blk_below (g := gb284) (o := .cells #[.slice Ao43 t300.length co43] 30 (0, 0)) (by (with_reducible repeat (first | refine blk_drewN ?_ _ | refine blk_drew ?_ | refine blk_alloc ?_ _)); refine blk_far ?_ NB284_316.out _; (with_reducible repeat (first | refine blk_drewN ?_ _ | refine blk_drew ?_ | refine blk_alloc ?_ _)); refine blk_far ?_ NB284_316.out _; (with_reducible repeat (first | refine blk_drewN ?_ _ | refine blk_drew ?_ | refine blk_alloc ?_ _)); refine blk_far ?_ NB284_316.out _; (with_reducible repeat (first | refine blk_drewN ?_ _ | refine blk_drew ?_ | refine blk_alloc ?_ _)); exact BK284.out) hb); have n9_ := Aside0.mk (blk_below (g := gb293) (o := .cells #[.slice Ao54 t288.length co54, .int .i64 t291, .int .i64 t292] 32 (0, 0)) (by (with_reducible repeat (first | refine blk_drewN ?_ _ | refine blk_drew ?_ | refine blk_alloc ?_ _)); refine blk_far ?_ NB293_316.out _; (with_reducible repeat (first | refine blk_drewN ?_ _ | refine blk_drew ?_ | refine blk_alloc ?_ _)); refine blk_far ?_ NB293_316.out _; (with_reducible repeat (first | refine blk_drewN ?_ _ | refine blk_drew ?_ | refine blk_alloc ?_ _)); refine blk_far ?_ NB293_316.out _; (with_reducible repeat (first | refine blk_drewN ?_ _ | refine blk_drew ?_ | refine blk_alloc ?_ _)); exact BK293.out) hb); have n10_ := Aside0.mk (blk_below (g := gb316) (o := .cells #[.slice Ao112 t311.length co112, .int .i64 t314, .int .i64 t315] 32 (0, 0)) (by (with_reducible repeat (first | refine blk_drewN ?_ _ | refine blk_drew ?_ | refine blk_alloc ?_ _)); refine blk_put (cs := #[.slice Ao112 t311.length co112, .int .i64 t314, .int .i64 0]) ?_ 2 _ rfl; (with_reducible repeat (first | refine blk_drewN ?_ _ | refine blk_drew ?_ | refine blk_alloc ?_ _)); refine blk_put (cs := #[.slice Ao112 t311.length co112, .int .i64 0, .int .i64 0]) ?_ 1 _ rfl; (with_reducible repeat (first | refine blk_drewN ?_ _ | refine blk_drew ?_ | refine blk_alloc ?_ _)); refine blk_put (cs := #[.slice none 0 0, .int .i64 0, .int .i64 0]) ?_ 0 _ rfl; (with_reducible repeat (first | refine blk_drewN ?_ _ | refine blk_drew ?_ | refine blk_alloc ?_ _)); exact BK316.out) hb); have n11_ := Aside0.mk (below_step bl_ hb); clear HO_281000; clear HO_285000; clear HO_294000; clear HO307; clear HO313; clear BK266; clear BK267; clear BK280; clear BK284; clear BK293; clear BK316; clear HB; have HO_281000 := n0_; have HO_285000 := n1_; have HO_294000 := n2_; have HO307 := n3_; have HO313 := n4_; have BK266 := n5_; have BK267 := n6_; have BK280 := n7_; have BK284 := n8_; have BK293 := n9_; have BK316 := n10_; have HB := n11_; clear n0_ n1_ n2_ n3_ n4_ n5_ n6_ n7_ n8_ n9_ n10_ n11_; (try clear hb); (try clear hb2); (try clear hk); (try clear hi); have hcz127_0 : w126.cell? ⟨gb293, 0, none⟩ = some (.slice Ao54 t288.length co54) := (blk_cell BK293.out 0).trans rfl; have hcz127_1 : w126.cell? ⟨gb293, 1, none⟩ = some (.int .i64 t291) := (blk_cell BK293.out 1).trans rfl; have hcz127_2 : w126.cell? ⟨gb293, 2, none⟩ = some (.int .i64 t292) := (blk_cell BK293.out 2).trans rfl; have hfz127_0 := blk_frozen BK293.out 0; have hfz127_1 := blk_frozen BK293.out 1; have hfz127_2 := blk_frozen BK293.out 2) | ((with_reducible refine gate_callee (f := 13) rfl ?_); refine goesL_ (some 71) rfl rfl Tryz.func13 (by kernel_rfl) rfl #[.agg #[.slice Ao54 t303.length co54, .int .i64 t291, .int .i64 t292], .int .i64 1] rfl (by (try simp only [List.map_toArray, List.map_cons, List.map_nil]); first | done | (rw [show t303.length = t288.length from (Kd.R_reads' HO_294000.out).1.symm] <;> rfl) | rfl | (simp only [List.length_drop, List.length_take]; rfl)) ?_; (with_reducible refine (laws_heldTreeOut.calls kj21 _ _ t303 t291 t292 1 t318 _ ?side1 ?side2 A94.out).mono ?_); (case side1 => repeat (first | exact (Kd.R_reads' HO_294000.out).2.2 | (with_reducible refine Kd.C_alloc ?_ _) | (with_reducible refine Kd.C_drewN ?_ _) | (with_reducible refine Kd.C_drew ?_))); (case side2 => rw [show t303.length = t288.length from (Kd.R_reads' HO_294000.out).1.symm]; exact (Kd.R_reads' HO_294000.out).2.1); rintro e w128 ⟨rfl, hb⟩; refine ⟨_, rfl, ?_⟩; have n0_ := Aside0.mk (Kd.R_below (by exact rU_ HO_281000.out) hb); have n1_ := Aside0.mk (Kd.R_below (by exact rU_ HO_285000.out) hb); have n2_ := Aside0.mk (Kd.R_below (by exact rU_ HO_294000.out) hb); have n3_ := Aside0.mk (Kd.R_below (by exact rU_ HO307.out) hb); have n4_ := Aside0.mk (Kd.R_below (by exact rU_ HO313.out) hb); have n5_ := Aside0.mk (blk_below (up_ BK266.out) hb); have n6_ := Aside0.mk (blk_below (up_ BK267.out) hb); have n7_ := Aside0.mk (blk_below (up_ BK280.out) hb); have n8_ := Aside0.mk (blk_below (up_ BK284.out) hb); have n9_ := Aside0.mk (blk_below (up_ BK293.out) hb); have n10_ := Aside0.mk (blk_below (up_ BK316.out) hb); have n11_ := Aside0.mk (below_step bl_ hb); clear HO_281000; clear HO_285000; clear HO_294000; clear HO307; clear HO313; clear BK266; clear BK267; clear BK280; clear BK284; clear BK293; clear BK316; clear HB; have HO_281000 := n0_; have HO_285000 := n1_; have HO_294000 := n2_; have HO307 := n3_; have HO313 := n4_; have BK266 := n5_; have BK267 := n6_; have BK280 := n7_; have BK284 := n8_; have BK293 := n9_; have BK316 := n10_; have HB := n11_; clear n0_ n1_ n2_ n3_ n4_ n5_ n6_ n7_ n8_ n9_ n10_ n11_; (try clear hb); (try clear hb2); (try clear hk); (try clear hi)))
            go_ret
            exact ⟨by first | rfl | (simp [errW_none, errW_some] <;> rfl) | (simp [*, errW_none, errW_some] <;> rfl), bl_⟩
           ·
            rw [if_neg c96] at H
            have c96b0 : (t318 == t302) = false := beq_eq_false_iff_ne.mpr c96
            have c96b1 : (t318 != t302) = true := bne_iff_ne.mpr c96
            exact absurd (Option.some.inj H) (by rw [HTRUE_.out]; decide)
         ·
          replace c93 := Bool.eq_false_iff.mpr c93
          subst c93
          have H1 : (some false) = some r := by rw [if_neg (show ¬ (false = true) by decide)] at H; exact H
          clear H
          have H := H1
          clear H1
          exact absurd (Option.some.inj H) (by rw [HTRUE_.out]; decide)
        ·
         rw [if_neg c88] at H
         have c88b0 : (t304 == t302) = false := beq_eq_false_iff_ne.mpr c88
         have c88b1 : (t304 != t302) = true := bne_iff_ne.mpr c88
         exact absurd (Option.some.inj H) (by rw [HTRUE_.out]; decide)
   ·
    replace c20 := Bool.eq_false_iff.mpr c20
    subst c20
    have H1 : (some false) = some r := by rw [if_neg (show ¬ (false = true) by decide)] at H; exact H
    clear H
    have H := H1
    clear H1
    exact absurd (Option.some.inj H) (by rw [HTRUE_.out]; decide)
  ·
   replace c17 := Bool.eq_false_iff.mpr c17
   subst c17
   have H1 : (some false) = some r := by rw [if_neg (show ¬ (false = true) by decide)] at H; exact H
   clear H
   have H := H1
   clear H1
   exact absurd (Option.some.inj H) (by rw [HTRUE_.out]; decide)

end Go.Proofs.YtenlceojmjkbkaaGreat.XFnExactTreeTake
