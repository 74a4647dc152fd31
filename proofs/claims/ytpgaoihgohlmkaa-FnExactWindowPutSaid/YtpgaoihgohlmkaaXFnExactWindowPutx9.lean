/- Functions that FnExactWindowPut comes to, as Lean functions with their contracts: written by the prover's own program (wip/tpl/myprint.py) over the kit's printer, some contracts by hand. Conditions: none. -/
import Derived.Test.YtpgaoihgohlmkaaXFnExactWindowPutx0
import Derived.Test.YtpgaoihgohlmkaaXFnExactWindowPutx1
import Derived.Test.YtpgaoihgohlmkaaXFnExactWindowPutx3
import Derived.Test.YtpgaoihgohlmkaaXFnExactWindowPutx4
import Derived.Test.YtpgaoihgohlmkaaXFnExactWindowPutx7
import Derived.Test.YtpgaoihgohlmkaaXFnExactWindowPutx8
namespace Go.Proofs.Ytpgaoihgohlmkaa.XFnExactWindowPut
open Go.RowKit Go.Proofs.YtpgaoihgohlmkaaW.PrintWords Go.Proofs.YtpgaoihgohlmkaaW.PrintLast Go.Proofs.YtpgaoihgohlmkaaW.PrintMore
attribute [local go_sem] max2_int min2_int max_two min_two max_three min_three max_four min_four   -- for this text's walks alone
set_option linter.unusedVariables false
set_option linter.unusedSimpArgs false

class BB (w w' : World) : Prop where b : Below w.heap.size w w'
instance (w : World) : BB w w := ⟨Below.refl _ _⟩
instance (w w' : World) (n : Nat) [h : BB w w'] : BB w (w'.drewN n) := ⟨pw_below_drewN h.b n⟩
instance (w w' : World) [h : BB w w'] : BB w w'.drew := ⟨below_drew1 h.b⟩
instance (w w' : World) (o : Obj) [h : BB w w'] : BB w (w'.alloc o) := ⟨below_alloc h.b o⟩
theorem up_ {w w' : World} {g : Nat} {o : Obj} [h : BB w w'] (k : w.heap[g]? = some o) : w'.heap[g]? = some o := blk_below k h.b
theorem rU_ {α : Type} {d : Kd α} {e : TypeId} {w w' : World} {base : Nat} {ok : Nat → Prop} {v : Value} {xs : List α} [h : BB w w'] (k : d.R e w base ok v xs) : d.R e w' base ok v xs := Kd.R_below k h.b
theorem qU_ {α : Type} {d : Kd α} {e : TypeId} {w w' : World} {base : Nat} {ok : Nat → Prop} {v : Value} {xs : List α} [h : BB w w'] (k : d.Q e w base ok v xs) : d.Q e w' base ok v xs := Kd.Q_below k h.b

/-! ### laws_FnExactWindowPut: function 3 -/
def laws_FnExactWindowPut.j0 : Nat → Bool → Int → Int → Int → List (S26) → Int → Int → Int → Int → Int → List (S33) → Int → Int → Int → List (S33) → Option (Bool)
 | 0, _, _, _, _, _, _, _, _, _, _, _, _, _, _, _ => none
 | k + 1, x48, x241000, x241001, x241002, x241003, x242000, x242001, x258000, x258001, x258002, x258003, x274000, x274001, x274002, x274003 => if x48 = true then (some false) else ((laws_markWindow.f k x274000 x274001 x274002 x274003 1).bind fun bt285 => ((laws_heldWindow.f k x274000 x274001 x274002 bt285.2 1).bind fun t287 => (if t287 < 0 then (some false) else (if t287 = bt285.1 then ((laws_toWindow.f k x241000 x241001 x241002 x241003).bind fun bt288 => ((laws_toMark.f x242000 x242001).bind fun bt294 => ((impl_WindowPut.f k bt288.1 bt288.2.1 bt288.2.2.1 bt288.2.2.2 bt294.1 bt294.2).bind fun bt296 => ((laws_eqWindow.f k bt296.1 bt296.2.1 bt296.2.2.1 bt296.2.2.2 x258000 x258001 x258002 x258003).bind fun t303 => (if t303 = true then ((laws_heldWindow.f k x274000 x274001 x274002 bt285.2 1).bind fun t304 => (if t304 < 0 then (some false) else (if t304 = bt285.1 then (some true) else (some false)))) else (some false)))))) else (some false)))))
def laws_FnExactWindowPut.f (k : Nat) (a0_0 : Int) (a0_1 : Int) (a0_2 : Int) (l0_3 : List (S26)) (a1_0 : Int) (a1_1 : Int) : Option (Bool) := (laws_szWindow.f a0_0 a0_1 a0_2 l0_3 1048576).bind fun t242 => (if t242 < 0 then (some true) else ((laws_toWindow.f k a0_0 a0_1 a0_2 l0_3).bind fun bt243 => ((laws_toMark.f a1_0 a1_1).bind fun bt249 => ((spec_WindowPut.f k bt243.1 bt243.2.1 bt243.2.2.1 bt243.2.2.2 bt249.1 bt249.2).bind fun bt251 => ((laws_toWindow.f k a0_0 a0_1 a0_2 l0_3).bind fun bt258 => ((laws_toMark.f a1_0 a1_1).bind fun bt265 => ((impl_WindowPut.f k bt258.1 bt258.2.1 bt258.2.2.1 bt258.2.2.2 bt265.1 bt265.2).bind fun bt267 => ((laws_eqWindow.f k bt267.1 bt267.2.1 bt267.2.2.1 bt267.2.2.2 bt251.1 bt251.2.1 bt251.2.2.1 bt251.2.2.2).bind fun t274 => (if t274 = true then ((laws_toWindow.f k a0_0 a0_1 a0_2 l0_3).bind fun bt275 => ((laws_eqWindow.f k bt258.1 bt258.2.1 bt258.2.2.1 bt258.2.2.2 bt275.1 bt275.2.1 bt275.2.2.1 bt275.2.2.2).bind fun t281 => (if t281 = true then ((laws_markWindow.f k bt258.1 bt258.2.1 bt258.2.2.1 bt258.2.2.2 1).bind fun bt282 => (if bt282.1 < 0 then (laws_FnExactWindowPut.j0 k true a0_0 a0_1 a0_2 l0_3 a1_0 a1_1 bt251.1 bt251.2.1 bt251.2.2.1 bt251.2.2.2 bt267.1 bt267.2.1 bt267.2.2.1 bt267.2.2.2) else ((laws_eqWindow.f k bt267.1 bt267.2.1 bt267.2.2.1 bt267.2.2.2 bt251.1 bt251.2.1 bt251.2.2.1 bt251.2.2.2).bind fun t284 => (laws_FnExactWindowPut.j0 k (!t284) a0_0 a0_1 a0_2 l0_3 a1_0 a1_1 bt251.1 bt251.2.1 bt251.2.2.1 bt251.2.2.2 bt267.1 bt267.2.1 bt267.2.2.1 bt267.2.2.2)))) else (some false)))) else (some false))))))))))
theorem laws_FnExactWindowPut.mono_l : ∀ k, (∀ y0 y1 y2 y3 y4 y5 y6 y7 y8 y9 y10 y11 y12 y13 y14, LeO (laws_FnExactWindowPut.j0 k y0 y1 y2 y3 y4 y5 y6 y7 y8 y9 y10 y11 y12 y13 y14) (laws_FnExactWindowPut.j0 (k + 1) y0 y1 y2 y3 y4 y5 y6 y7 y8 y9 y10 y11 y12 y13 y14))
 | 0 => fun _ _ _ _ _ _ _ _ _ _ _ _ _ _ _ r h => by simp [laws_FnExactWindowPut.j0] at h
 | k + 1 => by
  have ih0 := laws_FnExactWindowPut.mono_l k
  ·
   intro y0 y1 y2 y3 y4 y5 y6 y7 y8 y9 y10 y11 y12 y13 y14
   unfold laws_FnExactWindowPut.j0
   repeat' first
   | (with_reducible exact ih0 _ _ _ _ _ _ _ _ _ _ _ _ _ _ _)
   | (with_reducible exact impl_WindowPut.mono _ _ _ _ _ _ _)
   | (with_reducible exact laws_eqWindow.mono _ _ _ _ _ _ _ _ _)
   | (with_reducible exact laws_heldWindow.mono _ _ _ _ _ _)
   | (with_reducible exact laws_markWindow.mono _ _ _ _ _ _)
   | (with_reducible exact laws_toWindow.mono _ _ _ _ _)
   | (with_reducible exact spec_WindowPut.mono _ _ _ _ _ _ _)
   | (with_reducible exact LeO.refl _)
   | (with_reducible exact LeO.none _)
   | (with_reducible refine LeO.ite ?_ ?_)
   | (with_reducible refine LeO.bind ?_ (fun _ => ?_))
   | exact ih0 _ _ _ _ _ _ _ _ _ _ _ _ _ _ _
   | exact impl_WindowPut.mono _ _ _ _ _ _ _
   | exact laws_eqWindow.mono _ _ _ _ _ _ _ _ _
   | exact laws_heldWindow.mono _ _ _ _ _ _
   | exact laws_markWindow.mono _ _ _ _ _ _
   | exact laws_toWindow.mono _ _ _ _ _
   | exact spec_WindowPut.mono _ _ _ _ _ _ _
   | exact LeO.none _
   | refine LeO.ite ?_ ?_
   | refine LeO.bind ?_ (fun _ => ?_)
theorem laws_FnExactWindowPut.mono : ∀ a0 a1 a2 a3 a4 a5 k, LeO (laws_FnExactWindowPut.f k a0 a1 a2 a3 a4 a5) (laws_FnExactWindowPut.f (k + 1) a0 a1 a2 a3 a4 a5) := by
 intro a0 a1 a2 a3 a4 a5 k
 have ih0 := laws_FnExactWindowPut.mono_l k
 unfold laws_FnExactWindowPut.f
 repeat' first
   | (with_reducible exact ih0 _ _ _ _ _ _ _ _ _ _ _ _ _ _ _)
   | (with_reducible exact impl_WindowPut.mono _ _ _ _ _ _ _)
   | (with_reducible exact laws_eqWindow.mono _ _ _ _ _ _ _ _ _)
   | (with_reducible exact laws_heldWindow.mono _ _ _ _ _ _)
   | (with_reducible exact laws_markWindow.mono _ _ _ _ _ _)
   | (with_reducible exact laws_toWindow.mono _ _ _ _ _)
   | (with_reducible exact spec_WindowPut.mono _ _ _ _ _ _ _)
   | (with_reducible exact LeO.refl _)
   | (with_reducible exact LeO.none _)
   | (with_reducible refine LeO.ite ?_ ?_)
   | (with_reducible refine LeO.bind ?_ (fun _ => ?_))
   | exact ih0 _ _ _ _ _ _ _ _ _ _ _ _ _ _ _
   | exact impl_WindowPut.mono _ _ _ _ _ _ _
   | exact laws_eqWindow.mono _ _ _ _ _ _ _ _ _
   | exact laws_heldWindow.mono _ _ _ _ _ _
   | exact laws_markWindow.mono _ _ _ _ _ _
   | exact laws_toWindow.mono _ _ _ _ _
   | exact spec_WindowPut.mono _ _ _ _ _ _ _
   | exact LeO.none _
   | refine LeO.ite ?_ ?_
   | refine LeO.bind ?_ (fun _ => ?_)
set_option maxHeartbeats 8000000 in
set_option maxRecDepth 100000 in
theorem laws_FnExactWindowPut.calls (k : Nat) (a0_0 : Int) (a0_1 : Int) (a0_2 : Int) (A0_3 : Option Addr) (c0_3 : Nat) (l0_3 : List (S26)) (a1_0 : Int) (a1_1 : Int) (r : Bool) (w : World) (hr0_3 : Kd.C k26 w A0_3 l0_3.length l0_3) (hc0_3 : l0_3.length ≤ c0_3) (h : laws_FnExactWindowPut.f k a0_0 a0_1 a0_2 l0_3 a1_0 a1_1 = some r) (ht_ : r = true) :
  Calls Try.prog 3 #[.agg #[.int .i64 a0_0, .int .i64 a0_1, .int .i64 a0_2, .slice A0_3 l0_3.length c0_3], .agg #[.int .i64 a1_0, .int .i64 a1_1]] w fun e w' => e = .returned (.bool r) ∧ Below w.heap.size w w' := by
 have hu24 := Try.underlying24
 have hu26 := Try.underlying26
 have hu30 := Try.underlying30
 have HTRUE_ := Aside0.mk ht_
 clear ht_
 have HR0_3 := Aside0.mk hr0_3
 have HC0_3 := Aside0.mk hc0_3
 clear hr0_3 hc0_3
 have HB := Aside0.mk (Below.refl w.heap.size w)
 have H : ((laws_szWindow.f a0_0 a0_1 a0_2 l0_3 1048576).bind fun t242 => (if t242 < 0 then (some true) else ((laws_toWindow.f k a0_0 a0_1 a0_2 l0_3).bind fun bt243 => ((laws_toMark.f a1_0 a1_1).bind fun bt249 => ((spec_WindowPut.f k bt243.1 bt243.2.1 bt243.2.2.1 bt243.2.2.2 bt249.1 bt249.2).bind fun bt251 => ((laws_toWindow.f k a0_0 a0_1 a0_2 l0_3).bind fun bt258 => ((laws_toMark.f a1_0 a1_1).bind fun bt265 => ((impl_WindowPut.f k bt258.1 bt258.2.1 bt258.2.2.1 bt258.2.2.2 bt265.1 bt265.2).bind fun bt267 => ((laws_eqWindow.f k bt267.1 bt267.2.1 bt267.2.2.1 bt267.2.2.2 bt251.1 bt251.2.1 bt251.2.2.1 bt251.2.2.2).bind fun t274 => (if t274 = true then ((laws_toWindow.f k a0_0 a0_1 a0_2 l0_3).bind fun bt275 => ((laws_eqWindow.f k bt258.1 bt258.2.1 bt258.2.2.1 bt258.2.2.2 bt275.1 bt275.2.1 bt275.2.2.1 bt275.2.2.2).bind fun t281 => (if t281 = true then ((laws_markWindow.f k bt258.1 bt258.2.1 bt258.2.2.1 bt258.2.2.2 1).bind fun bt282 => (if bt282.1 < 0 then (laws_FnExactWindowPut.j0 k true a0_0 a0_1 a0_2 l0_3 a1_0 a1_1 bt251.1 bt251.2.1 bt251.2.2.1 bt251.2.2.2 bt267.1 bt267.2.1 bt267.2.2.1 bt267.2.2.2) else ((laws_eqWindow.f k bt267.1 bt267.2.1 bt267.2.2.1 bt267.2.2.2 bt251.1 bt251.2.1 bt251.2.2.1 bt251.2.2.2).bind fun t284 => (laws_FnExactWindowPut.j0 k (!t284) a0_0 a0_1 a0_2 l0_3 a1_0 a1_1 bt251.1 bt251.2.1 bt251.2.2.1 bt251.2.2.2 bt267.1 bt267.2.1 bt267.2.2.1 bt267.2.2.2)))) else (some false)))) else (some false))))))))))) = some r := h
 clear h
 replace H := Option.bind_eq_some_iff.mp H
 obtain ⟨t242, A30, H⟩ := H
 replace H : (if t242 < 0 then (some true) else ((laws_toWindow.f k a0_0 a0_1 a0_2 l0_3).bind fun bt243 => ((laws_toMark.f a1_0 a1_1).bind fun bt249 => ((spec_WindowPut.f k bt243.1 bt243.2.1 bt243.2.2.1 bt243.2.2.2 bt249.1 bt249.2).bind fun bt251 => ((laws_toWindow.f k a0_0 a0_1 a0_2 l0_3).bind fun bt258 => ((laws_toMark.f a1_0 a1_1).bind fun bt265 => ((impl_WindowPut.f k bt258.1 bt258.2.1 bt258.2.2.1 bt258.2.2.2 bt265.1 bt265.2).bind fun bt267 => ((laws_eqWindow.f k bt267.1 bt267.2.1 bt267.2.2.1 bt267.2.2.2 bt251.1 bt251.2.1 bt251.2.2.1 bt251.2.2.2).bind fun t274 => (if t274 = true then ((laws_toWindow.f k a0_0 a0_1 a0_2 l0_3).bind fun bt275 => ((laws_eqWindow.f k bt258.1 bt258.2.1 bt258.2.2.1 bt258.2.2.2 bt275.1 bt275.2.1 bt275.2.2.1 bt275.2.2.2).bind fun t281 => (if t281 = true then ((laws_markWindow.f k bt258.1 bt258.2.1 bt258.2.2.1 bt258.2.2.2 1).bind fun bt282 => (if bt282.1 < 0 then (laws_FnExactWindowPut.j0 k true a0_0 a0_1 a0_2 l0_3 a1_0 a1_1 bt251.1 bt251.2.1 bt251.2.2.1 bt251.2.2.2 bt267.1 bt267.2.1 bt267.2.2.1 bt267.2.2.2) else ((laws_eqWindow.f k bt267.1 bt267.2.1 bt267.2.2.1 bt267.2.2.2 bt251.1 bt251.2.1 bt251.2.2.1 bt251.2.2.2).bind fun t284 => (laws_FnExactWindowPut.j0 k (!t284) a0_0 a0_1 a0_2 l0_3 a1_0 a1_1 bt251.1 bt251.2.1 bt251.2.2.1 bt251.2.2.2 bt267.1 bt267.2.1 bt267.2.2.1 bt267.2.2.2)))) else (some false)))) else (some false)))))))))) = some r := H
 have A3 := Aside0.mk A30
 clear A30
 by_cases c4 : t242 < 0
 ·
  rw [if_pos c4] at H
  have c4b0 : decide (t242 < 0) = true := decide_eq_true c4
  clear c4
  obtain rfl := Option.some.inj H
  go_enter Try.func3, Try.ntmps3
  go_wp2_with (first | ((with_reducible refine gate_dst (N := 2) rfl ?_); refine box_event ?hg (N := 2) ?hd (cs := #[.int .i64 a0_0, .int .i64 a0_1, .int .i64 a0_2, .slice A0_3 l0_3.length c0_3]) (t := 24) ?hr ?_; (case hd => rfl); (case hg => rfl); (case hr => first | (go_simp; done) | (go_simp; rfl)); intro gb240 hg w5 hbox hb; have n0_ := Aside0.mk (below_step (by repeat (first | (with_reducible first | exact HB.out | apply below_alloc | apply pw_below_drewN | apply below_drew1) | exact HB.out)) hb); have n1_ := Aside0.mk (hbox); have n2_ := Aside0.mk ((by rw [hg]; exact (below_size (by repeat (first | (with_reducible first | exact HB.out | apply below_alloc | apply pw_below_drewN | apply below_drew1) | exact HB.out))) : w.heap.size ≤ gb240)); have n3_ := Aside0.mk ((by rw [hg]; exact (below_size (by repeat (first | (with_reducible first | exact HB.out | apply below_alloc | apply pw_below_drewN | apply below_drew1) | exact HB.out))) : w.heap.size ≤ gb240)); clear HB; have HB := n0_; have BK240 := n1_; have GW240 := n2_; have GE240 := n3_; clear n0_ n1_ n2_ n3_; clear hb hbox hg) | ((with_reducible refine gate_dst (N := 3) rfl ?_); refine box_event ?hg (N := 3) ?hd (cs := #[.int .i64 a1_0, .int .i64 a1_1]) (t := 26) ?hr ?_; (case hd => rfl); (case hg => rfl); (case hr => first | (go_simp; done) | (go_simp; rfl)); intro gb241 hg w6 hbox hb; have n0_ := Aside0.mk (blk_below (up_ BK240.out) hb); have n1_ := Aside0.mk (below_step (by repeat (first | (with_reducible first | exact HB.out | apply below_alloc | apply pw_below_drewN | apply below_drew1 | refine below_set ?_ GE240.out) | exact HB.out)) hb); have n2_ := Aside0.mk (hbox); have n3_ := Aside0.mk ((by rw [hg]; exact (below_size (by repeat (first | (with_reducible first | exact HB.out | apply below_alloc | apply pw_below_drewN | apply below_drew1 | refine below_set ?_ GE240.out) | exact HB.out))) : w.heap.size ≤ gb241)); have n4_ := Aside0.mk ((by rw [hg]; exact (below_size (by repeat (first | (with_reducible first | exact HB.out | apply below_alloc | apply pw_below_drewN | apply below_drew1 | refine below_set ?_ GE240.out) | exact HB.out))) : w.heap.size ≤ gb241)); have n5_ := Aside0.mk ((by rw [hg]; exact Nat.ne_of_lt (blk_lt (up_ BK240.out)) : gb240 ≠ gb241)); have n6_ := Aside0.mk ((by rw [hg]; exact Nat.ne_of_gt (blk_lt (up_ BK240.out)) : gb241 ≠ gb240)); clear BK240; clear HB; have BK240 := n0_; have HB := n1_; have BK241 := n2_; have GW241 := n3_; have GE241 := n4_; have NB240_241 := n5_; have NB241_240 := n6_; clear n0_ n1_ n2_ n3_ n4_ n5_ n6_; clear hb hbox hg; have hnb7 := NB240_241.out; have hnc7 := NB241_240.out; have hcz8_0 : w6.cell? ⟨gb240, 0, none⟩ = some (.int .i64 a0_0) := (blk_cell BK240.out 0).trans rfl; have hcz8_1 : w6.cell? ⟨gb240, 1, none⟩ = some (.int .i64 a0_1) := (blk_cell BK240.out 1).trans rfl; have hcz8_2 : w6.cell? ⟨gb240, 2, none⟩ = some (.int .i64 a0_2) := (blk_cell BK240.out 2).trans rfl; have hcz8_3 : w6.cell? ⟨gb240, 3, none⟩ = some (.slice A0_3 l0_3.length c0_3) := (blk_cell BK240.out 3).trans rfl; have hfz8_0 := blk_frozen BK240.out 0; have hfz8_1 := blk_frozen BK240.out 1; have hfz8_2 := blk_frozen BK240.out 2; have hfz8_3 := blk_frozen BK240.out 3) | ((with_reducible refine gate_callee (f := 8) rfl ?_); refine goesL_ (some 15) rfl rfl Try.func8 (by kernel_rfl) rfl #[.agg #[.int .i64 a0_0, .int .i64 a0_1, .int .i64 a0_2, .slice A0_3 l0_3.length c0_3], .int .i64 1048576] rfl (by (try simp only [List.map_toArray, List.map_cons, List.map_nil]); first | done | rfl | (simp only [List.length_drop, List.length_take]; rfl)) ?_; (with_reducible refine (laws_szWindow.calls a0_0 a0_1 a0_2 _ _ l0_3 1048576 t242 _ ?side1 ?side2 A3.out).mono ?_); (case side1 => repeat (first | exact (Kd.C_below HR0_3.out HB.out) | (with_reducible refine Kd.C_alloc ?_ _) | (with_reducible refine Kd.C_drewN ?_ _) | (with_reducible refine Kd.C_drew ?_))); (case side2 => exact HC0_3.out); rintro e w9 ⟨rfl, hb⟩; refine ⟨_, rfl, ?_⟩; have n0_ := Aside0.mk (blk_below (up_ BK240.out) hb); have n1_ := Aside0.mk (blk_below (up_ BK241.out) hb); have n2_ := Aside0.mk (below_step (by repeat (first | (with_reducible first | exact HB.out | apply below_alloc | apply pw_below_drewN | apply below_drew1 | refine below_set ?_ GE240.out | refine below_set ?_ GE241.out) | exact HB.out)) hb); clear BK240; clear BK241; clear HB; have BK240 := n0_; have BK241 := n1_; have HB := n2_; clear n0_ n1_ n2_; (try clear hb); (try clear hb2); (try clear hk); (try clear hi)))
  go_ret
  exact ⟨by first | rfl | (simp [errW_none, errW_some] <;> rfl) | (simp [*, errW_none, errW_some] <;> rfl), by repeat (first | (with_reducible first | exact HB.out | apply below_alloc | apply pw_below_drewN | apply below_drew1 | refine below_set ?_ GE240.out | refine below_set ?_ GE241.out) | exact HB.out)⟩
 ·
  rw [if_neg c4] at H
  have c4b0 : decide (t242 < 0) = false := decide_eq_false c4
  clear c4
  replace H := Option.bind_eq_some_iff.mp H
  obtain ⟨⟨t243, t244, t245, t246⟩, A100, H⟩ := H
  replace H : ((laws_toMark.f a1_0 a1_1).bind fun bt249 => ((spec_WindowPut.f k t243 t244 t245 t246 bt249.1 bt249.2).bind fun bt251 => ((laws_toWindow.f k a0_0 a0_1 a0_2 l0_3).bind fun bt258 => ((laws_toMark.f a1_0 a1_1).bind fun bt265 => ((impl_WindowPut.f k bt258.1 bt258.2.1 bt258.2.2.1 bt258.2.2.2 bt265.1 bt265.2).bind fun bt267 => ((laws_eqWindow.f k bt267.1 bt267.2.1 bt267.2.2.1 bt267.2.2.2 bt251.1 bt251.2.1 bt251.2.2.1 bt251.2.2.2).bind fun t274 => (if t274 = true then ((laws_toWindow.f k a0_0 a0_1 a0_2 l0_3).bind fun bt275 => ((laws_eqWindow.f k bt258.1 bt258.2.1 bt258.2.2.1 bt258.2.2.2 bt275.1 bt275.2.1 bt275.2.2.1 bt275.2.2.2).bind fun t281 => (if t281 = true then ((laws_markWindow.f k bt258.1 bt258.2.1 bt258.2.2.1 bt258.2.2.2 1).bind fun bt282 => (if bt282.1 < 0 then (laws_FnExactWindowPut.j0 k true a0_0 a0_1 a0_2 l0_3 a1_0 a1_1 bt251.1 bt251.2.1 bt251.2.2.1 bt251.2.2.2 bt267.1 bt267.2.1 bt267.2.2.1 bt267.2.2.2) else ((laws_eqWindow.f k bt267.1 bt267.2.1 bt267.2.2.1 bt267.2.2.2 bt251.1 bt251.2.1 bt251.2.2.1 bt251.2.2.2).bind fun t284 => (laws_FnExactWindowPut.j0 k (!t284) a0_0 a0_1 a0_2 l0_3 a1_0 a1_1 bt251.1 bt251.2.1 bt251.2.2.1 bt251.2.2.2 bt267.1 bt267.2.1 bt267.2.2.1 bt267.2.2.2)))) else (some false)))) else (some false)))))))) = some r := H
  have A10 := Aside0.mk A100
  clear A100
  replace H := Option.bind_eq_some_iff.mp H
  obtain ⟨⟨t249, t250⟩, A110, H⟩ := H
  replace H : ((spec_WindowPut.f k t243 t244 t245 t246 t249 t250).bind fun bt251 => ((laws_toWindow.f k a0_0 a0_1 a0_2 l0_3).bind fun bt258 => ((laws_toMark.f a1_0 a1_1).bind fun bt265 => ((impl_WindowPut.f k bt258.1 bt258.2.1 bt258.2.2.1 bt258.2.2.2 bt265.1 bt265.2).bind fun bt267 => ((laws_eqWindow.f k bt267.1 bt267.2.1 bt267.2.2.1 bt267.2.2.2 bt251.1 bt251.2.1 bt251.2.2.1 bt251.2.2.2).bind fun t274 => (if t274 = true then ((laws_toWindow.f k a0_0 a0_1 a0_2 l0_3).bind fun bt275 => ((laws_eqWindow.f k bt258.1 bt258.2.1 bt258.2.2.1 bt258.2.2.2 bt275.1 bt275.2.1 bt275.2.2.1 bt275.2.2.2).bind fun t281 => (if t281 = true then ((laws_markWindow.f k bt258.1 bt258.2.1 bt258.2.2.1 bt258.2.2.2 1).bind fun bt282 => (if bt282.1 < 0 then (laws_FnExactWindowPut.j0 k true a0_0 a0_1 a0_2 l0_3 a1_0 a1_1 bt251.1 bt251.2.1 bt251.2.2.1 bt251.2.2.2 bt267.1 bt267.2.1 bt267.2.2.1 bt267.2.2.2) else ((laws_eqWindow.f k bt267.1 bt267.2.1 bt267.2.2.1 bt267.2.2.2 bt251.1 bt251.2.1 bt251.2.2.1 bt251.2.2.2).bind fun t284 => (laws_FnExactWindowPut.j0 k (!t284) a0_0 a0_1 a0_2 l0_3 a1_0 a1_1 bt251.1 bt251.2.1 bt251.2.2.1 bt251.2.2.2 bt267.1 bt267.2.1 bt267.2.2.1 bt267.2.2.2)))) else (some false)))) else (some false))))))) = some r := H
  have A11 := Aside0.mk A110
  clear A110
  replace H := Option.bind_eq_some_iff.mp H
  obtain ⟨⟨t251, t252, t253, t254⟩, A120, H⟩ := H
  replace H : ((laws_toWindow.f k a0_0 a0_1 a0_2 l0_3).bind fun bt258 => ((laws_toMark.f a1_0 a1_1).bind fun bt265 => ((impl_WindowPut.f k bt258.1 bt258.2.1 bt258.2.2.1 bt258.2.2.2 bt265.1 bt265.2).bind fun bt267 => ((laws_eqWindow.f k bt267.1 bt267.2.1 bt267.2.2.1 bt267.2.2.2 t251 t252 t253 t254).bind fun t274 => (if t274 = true then ((laws_toWindow.f k a0_0 a0_1 a0_2 l0_3).bind fun bt275 => ((laws_eqWindow.f k bt258.1 bt258.2.1 bt258.2.2.1 bt258.2.2.2 bt275.1 bt275.2.1 bt275.2.2.1 bt275.2.2.2).bind fun t281 => (if t281 = true then ((laws_markWindow.f k bt258.1 bt258.2.1 bt258.2.2.1 bt258.2.2.2 1).bind fun bt282 => (if bt282.1 < 0 then (laws_FnExactWindowPut.j0 k true a0_0 a0_1 a0_2 l0_3 a1_0 a1_1 t251 t252 t253 t254 bt267.1 bt267.2.1 bt267.2.2.1 bt267.2.2.2) else ((laws_eqWindow.f k bt267.1 bt267.2.1 bt267.2.2.1 bt267.2.2.2 t251 t252 t253 t254).bind fun t284 => (laws_FnExactWindowPut.j0 k (!t284) a0_0 a0_1 a0_2 l0_3 a1_0 a1_1 t251 t252 t253 t254 bt267.1 bt267.2.1 bt267.2.2.1 bt267.2.2.2)))) else (some false)))) else (some false)))))) = some r := H
  have A12 := Aside0.mk A120
  clear A120
  replace H := Option.bind_eq_some_iff.mp H
  obtain ⟨⟨t258, t259, t260, t261⟩, A130, H⟩ := H
  replace H : ((laws_toMark.f a1_0 a1_1).bind fun bt265 => ((impl_WindowPut.f k t258 t259 t260 t261 bt265.1 bt265.2).bind fun bt267 => ((laws_eqWindow.f k bt267.1 bt267.2.1 bt267.2.2.1 bt267.2.2.2 t251 t252 t253 t254).bind fun t274 => (if t274 = true then ((laws_toWindow.f k a0_0 a0_1 a0_2 l0_3).bind fun bt275 => ((laws_eqWindow.f k t258 t259 t260 t261 bt275.1 bt275.2.1 bt275.2.2.1 bt275.2.2.2).bind fun t281 => (if t281 = true then ((laws_markWindow.f k t258 t259 t260 t261 1).bind fun bt282 => (if bt282.1 < 0 then (laws_FnExactWindowPut.j0 k true a0_0 a0_1 a0_2 l0_3 a1_0 a1_1 t251 t252 t253 t254 bt267.1 bt267.2.1 bt267.2.2.1 bt267.2.2.2) else ((laws_eqWindow.f k bt267.1 bt267.2.1 bt267.2.2.1 bt267.2.2.2 t251 t252 t253 t254).bind fun t284 => (laws_FnExactWindowPut.j0 k (!t284) a0_0 a0_1 a0_2 l0_3 a1_0 a1_1 t251 t252 t253 t254 bt267.1 bt267.2.1 bt267.2.2.1 bt267.2.2.2)))) else (some false)))) else (some false))))) = some r := H
  have A13 := Aside0.mk A130
  clear A130
  replace H := Option.bind_eq_some_iff.mp H
  obtain ⟨⟨t265, t266⟩, A140, H⟩ := H
  replace H : ((impl_WindowPut.f k t258 t259 t260 t261 t265 t266).bind fun bt267 => ((laws_eqWindow.f k bt267.1 bt267.2.1 bt267.2.2.1 bt267.2.2.2 t251 t252 t253 t254).bind fun t274 => (if t274 = true then ((laws_toWindow.f k a0_0 a0_1 a0_2 l0_3).bind fun bt275 => ((laws_eqWindow.f k t258 t259 t260 t261 bt275.1 bt275.2.1 bt275.2.2.1 bt275.2.2.2).bind fun t281 => (if t281 = true then ((laws_markWindow.f k t258 t259 t260 t261 1).bind fun bt282 => (if bt282.1 < 0 then (laws_FnExactWindowPut.j0 k true a0_0 a0_1 a0_2 l0_3 a1_0 a1_1 t251 t252 t253 t254 bt267.1 bt267.2.1 bt267.2.2.1 bt267.2.2.2) else ((laws_eqWindow.f k bt267.1 bt267.2.1 bt267.2.2.1 bt267.2.2.2 t251 t252 t253 t254).bind fun t284 => (laws_FnExactWindowPut.j0 k (!t284) a0_0 a0_1 a0_2 l0_3 a1_0 a1_1 t251 t252 t253 t254 bt267.1 bt267.2.1 bt267.2.2.1 bt267.2.2.2)))) else (some false)))) else (some false)))) = some r := H
  have A14 := Aside0.mk A140
  clear A140
  replace H := Option.bind_eq_some_iff.mp H
  obtain ⟨⟨t267, t268, t269, t270⟩, A150, H⟩ := H
  replace H : ((laws_eqWindow.f k t267 t268 t269 t270 t251 t252 t253 t254).bind fun t274 => (if t274 = true then ((laws_toWindow.f k a0_0 a0_1 a0_2 l0_3).bind fun bt275 => ((laws_eqWindow.f k t258 t259 t260 t261 bt275.1 bt275.2.1 bt275.2.2.1 bt275.2.2.2).bind fun t281 => (if t281 = true then ((laws_markWindow.f k t258 t259 t260 t261 1).bind fun bt282 => (if bt282.1 < 0 then (laws_FnExactWindowPut.j0 k true a0_0 a0_1 a0_2 l0_3 a1_0 a1_1 t251 t252 t253 t254 t267 t268 t269 t270) else ((laws_eqWindow.f k t267 t268 t269 t270 t251 t252 t253 t254).bind fun t284 => (laws_FnExactWindowPut.j0 k (!t284) a0_0 a0_1 a0_2 l0_3 a1_0 a1_1 t251 t252 t253 t254 t267 t268 t269 t270)))) else (some false)))) else (some false))) = some r := H
  have A15 := Aside0.mk A150
  clear A150
  replace H := Option.bind_eq_some_iff.mp H
  obtain ⟨t274, A160, H⟩ := H
  replace H : (if t274 = true then ((laws_toWindow.f k a0_0 a0_1 a0_2 l0_3).bind fun bt275 => ((laws_eqWindow.f k t258 t259 t260 t261 bt275.1 bt275.2.1 bt275.2.2.1 bt275.2.2.2).bind fun t281 => (if t281 = true then ((laws_markWindow.f k t258 t259 t260 t261 1).bind fun bt282 => (if bt282.1 < 0 then (laws_FnExactWindowPut.j0 k true a0_0 a0_1 a0_2 l0_3 a1_0 a1_1 t251 t252 t253 t254 t267 t268 t269 t270) else ((laws_eqWindow.f k t267 t268 t269 t270 t251 t252 t253 t254).bind fun t284 => (laws_FnExactWindowPut.j0 k (!t284) a0_0 a0_1 a0_2 l0_3 a1_0 a1_1 t251 t252 t253 t254 t267 t268 t269 t270)))) else (some false)))) else (some false)) = some r := H
  have A16 := Aside0.mk A160
  clear A160
  by_cases c17 : t274 = true
  ·
   subst c17
   have H1 : ((laws_toWindow.f k a0_0 a0_1 a0_2 l0_3).bind fun bt275 => ((laws_eqWindow.f k t258 t259 t260 t261 bt275.1 bt275.2.1 bt275.2.2.1 bt275.2.2.2).bind fun t281 => (if t281 = true then ((laws_markWindow.f k t258 t259 t260 t261 1).bind fun bt282 => (if bt282.1 < 0 then (laws_FnExactWindowPut.j0 k true a0_0 a0_1 a0_2 l0_3 a1_0 a1_1 t251 t252 t253 t254 t267 t268 t269 t270) else ((laws_eqWindow.f k t267 t268 t269 t270 t251 t252 t253 t254).bind fun t284 => (laws_FnExactWindowPut.j0 k (!t284) a0_0 a0_1 a0_2 l0_3 a1_0 a1_1 t251 t252 t253 t254 t267 t268 t269 t270)))) else (some false)))) = some r := by rw [if_pos rfl] at H; exact H
   clear H
   have H := H1
   clear H1
   replace H := Option.bind_eq_some_iff.mp H
   obtain ⟨⟨t275, t276, t277, t278⟩, A180, H⟩ := H
   replace H : ((laws_eqWindow.f k t258 t259 t260 t261 t275 t276 t277 t278).bind fun t281 => (if t281 = true then ((laws_markWindow.f k t258 t259 t260 t261 1).bind fun bt282 => (if bt282.1 < 0 then (laws_FnExactWindowPut.j0 k true a0_0 a0_1 a0_2 l0_3 a1_0 a1_1 t251 t252 t253 t254 t267 t268 t269 t270) else ((laws_eqWindow.f k t267 t268 t269 t270 t251 t252 t253 t254).bind fun t284 => (laws_FnExactWindowPut.j0 k (!t284) a0_0 a0_1 a0_2 l0_3 a1_0 a1_1 t251 t252 t253 t254 t267 t268 t269 t270)))) else (some false))) = some r := H
   have A18 := Aside0.mk A180
   clear A180
   replace H := Option.bind_eq_some_iff.mp H
   obtain ⟨t281, A190, H⟩ := H
   replace H : (if t281 = true then ((laws_markWindow.f k t258 t259 t260 t261 1).bind fun bt282 => (if bt282.1 < 0 then (laws_FnExactWindowPut.j0 k true a0_0 a0_1 a0_2 l0_3 a1_0 a1_1 t251 t252 t253 t254 t267 t268 t269 t270) else ((laws_eqWindow.f k t267 t268 t269 t270 t251 t252 t253 t254).bind fun t284 => (laws_FnExactWindowPut.j0 k (!t284) a0_0 a0_1 a0_2 l0_3 a1_0 a1_1 t251 t252 t253 t254 t267 t268 t269 t270)))) else (some false)) = some r := H
   have A19 := Aside0.mk A190
   clear A190
   by_cases c20 : t281 = true
   ·
    subst c20
    have H1 : ((laws_markWindow.f k t258 t259 t260 t261 1).bind fun bt282 => (if bt282.1 < 0 then (laws_FnExactWindowPut.j0 k true a0_0 a0_1 a0_2 l0_3 a1_0 a1_1 t251 t252 t253 t254 t267 t268 t269 t270) else ((laws_eqWindow.f k t267 t268 t269 t270 t251 t252 t253 t254).bind fun t284 => (laws_FnExactWindowPut.j0 k (!t284) a0_0 a0_1 a0_2 l0_3 a1_0 a1_1 t251 t252 t253 t254 t267 t268 t269 t270)))) = some r := by rw [if_pos rfl] at H; exact H
    clear H
    have H := H1
    clear H1
    replace H := Option.bind_eq_some_iff.mp H
    obtain ⟨⟨t282, t283⟩, A210, H⟩ := H
    replace H : (if t282 < 0 then (laws_FnExactWindowPut.j0 k true a0_0 a0_1 a0_2 l0_3 a1_0 a1_1 t251 t252 t253 t254 t267 t268 t269 t270) else ((laws_eqWindow.f k t267 t268 t269 t270 t251 t252 t253 t254).bind fun t284 => (laws_FnExactWindowPut.j0 k (!t284) a0_0 a0_1 a0_2 l0_3 a1_0 a1_1 t251 t252 t253 t254 t267 t268 t269 t270))) = some r := H
    have A21 := Aside0.mk A210
    clear A210
    have HC22 := Aside0.mk H
    clear H
    go_enter Try.func3, Try.ntmps3
    try go_wp2_with (first | ((with_reducible refine gate_dst (N := 2) rfl ?_); refine box_event ?hg (N := 2) ?hd (cs := #[.int .i64 a0_0, .int .i64 a0_1, .int .i64 a0_2, .slice A0_3 l0_3.length c0_3]) (t := 24) ?hr ?_; (case hd => rfl); (case hg => rfl); (case hr => first | (go_simp; done) | (go_simp; rfl)); intro gb240 hg w23 hbox hb; have n0_ := Aside0.mk (below_step (by repeat (first | (with_reducible first | exact HB.out | apply below_alloc | apply pw_below_drewN | apply below_drew1) | exact HB.out)) hb); have n1_ := Aside0.mk (hbox); have n2_ := Aside0.mk ((by rw [hg]; exact (below_size (by repeat (first | (with_reducible first | exact HB.out | apply below_alloc | apply pw_below_drewN | apply below_drew1) | exact HB.out))) : w.heap.size ≤ gb240)); have n3_ := Aside0.mk ((by rw [hg]; exact (below_size (by repeat (first | (with_reducible first | exact HB.out | apply below_alloc | apply pw_below_drewN | apply below_drew1) | exact HB.out))) : w.heap.size ≤ gb240)); clear HB; have HB := n0_; have BK240 := n1_; have GW240 := n2_; have GE240 := n3_; clear n0_ n1_ n2_ n3_; clear hb hbox hg) | ((with_reducible refine gate_dst (N := 3) rfl ?_); refine box_event ?hg (N := 3) ?hd (cs := #[.int .i64 a1_0, .int .i64 a1_1]) (t := 26) ?hr ?_; (case hd => rfl); (case hg => rfl); (case hr => first | (go_simp; done) | (go_simp; rfl)); intro gb241 hg w24 hbox hb; have n0_ := Aside0.mk (blk_below (up_ BK240.out) hb); have n1_ := Aside0.mk (below_step (by repeat (first | (with_reducible first | exact HB.out | apply below_alloc | apply pw_below_drewN | apply below_drew1 | refine below_set ?_ GE240.out) | exact HB.out)) hb); have n2_ := Aside0.mk (hbox); have n3_ := Aside0.mk ((by rw [hg]; exact (below_size (by repeat (first | (with_reducible first | exact HB.out | apply below_alloc | apply pw_below_drewN | apply below_drew1 | refine below_set ?_ GE240.out) | exact HB.out))) : w.heap.size ≤ gb241)); have n4_ := Aside0.mk ((by rw [hg]; exact (below_size (by repeat (first | (with_reducible first | exact HB.out | apply below_alloc | apply pw_below_drewN | apply below_drew1 | refine below_set ?_ GE240.out) | exact HB.out))) : w.heap.size ≤ gb241)); have n5_ := Aside0.mk ((by rw [hg]; exact Nat.ne_of_lt (blk_lt (up_ BK240.out)) : gb240 ≠ gb241)); have n6_ := Aside0.mk ((by rw [hg]; exact Nat.ne_of_gt (blk_lt (up_ BK240.out)) : gb241 ≠ gb240)); clear BK240; clear HB; have BK240 := n0_; have HB := n1_; have BK241 := n2_; have GW241 := n3_; have GE241 := n4_; have NB240_241 := n5_; have NB241_240 := n6_; clear n0_ n1_ n2_ n3_ n4_ n5_ n6_; clear hb hbox hg; have hnb25 := NB240_241.out; have hnc25 := NB241_240.out; have hcz26_0 : w24.cell? ⟨gb240, 0, none⟩ = some (.int .i64 a0_0) := (blk_cell BK240.out 0).trans rfl; have hcz26_1 : w24.cell? ⟨gb240, 1, none⟩ = some (.int .i64 a0_1) := (blk_cell BK240.out 1).trans rfl; have hcz26_2 : w24.cell? ⟨gb240, 2, none⟩ = some (.int .i64 a0_2) := (blk_cell BK240.out 2).trans rfl; have hcz26_3 : w24.cell? ⟨gb240, 3, none⟩ = some (.slice A0_3 l0_3.length c0_3) := (blk_cell BK240.out 3).trans rfl; have hfz26_0 := blk_frozen BK240.out 0; have hfz26_1 := blk_frozen BK240.out 1; have hfz26_2 := blk_frozen BK240.out 2; have hfz26_3 := blk_frozen BK240.out 3) | ((with_reducible refine gate_callee (f := 8) rfl ?_); refine goesL_ (some 15) rfl rfl Try.func8 (by kernel_rfl) rfl #[.agg #[.int .i64 a0_0, .int .i64 a0_1, .int .i64 a0_2, .slice A0_3 l0_3.length c0_3], .int .i64 1048576] rfl (by (try simp only [List.map_toArray, List.map_cons, List.map_nil]); first | done | rfl | (simp only [List.length_drop, List.length_take]; rfl)) ?_; (with_reducible refine (laws_szWindow.calls a0_0 a0_1 a0_2 _ _ l0_3 1048576 t242 _ ?side1 ?side2 A3.out).mono ?_); (case side1 => repeat (first | exact (Kd.C_below HR0_3.out HB.out) | (with_reducible refine Kd.C_alloc ?_ _) | (with_reducible refine Kd.C_drewN ?_ _) | (with_reducible refine Kd.C_drew ?_))); (case side2 => exact HC0_3.out); rintro e w27 ⟨rfl, hb⟩; refine ⟨_, rfl, ?_⟩; have n0_ := Aside0.mk (blk_below (up_ BK240.out) hb); have n1_ := Aside0.mk (blk_below (up_ BK241.out) hb); have n2_ := Aside0.mk (below_step (by repeat (first | (with_reducible first | exact HB.out | apply below_alloc | apply pw_below_drewN | apply below_drew1 | refine below_set ?_ GE240.out | refine below_set ?_ GE241.out) | exact HB.out)) hb); clear BK240; clear BK241; clear HB; have BK240 := n0_; have BK241 := n1_; have HB := n2_; clear n0_ n1_ n2_; (try clear hb); (try clear hb2); (try clear hk); (try clear hi)))
    have n0_ := Aside0.mk (blk_drew BK240.out)
    have n1_ := Aside0.mk (blk_drew BK241.out)
    have n2_ := Aside0.mk (below_drew1 HB.out)
    clear BK240
    clear BK241
    clear HB
    have BK240 := n0_
    have BK241 := n1_
    have HB := n2_
    clear n0_ n1_ n2_
    refine start_ (n := 7) (S := fun w' => w'.cell? ⟨gb240, 0, none⟩ = some (.int .i64 a0_0) ∧ w'.cell? ⟨gb240, 1, none⟩ = some (.int .i64 a0_1) ∧ w'.cell? ⟨gb240, 2, none⟩ = some (.int .i64 a0_2) ∧ w'.cell? ⟨gb240, 3, none⟩ = some (.slice A0_3 l0_3.length c0_3) ∧ w'.cell? ⟨gb241, 0, none⟩ = some (.int .i64 a1_0) ∧ w'.cell? ⟨gb241, 1, none⟩ = some (.int .i64 a1_1)) (ds := []) #[false, false, false, false, false, false, false] (by kernel_rfl) rfl rfl ⟨(blk_cell BK240.out 0).trans rfl, (blk_cell BK240.out 1).trans rfl, (blk_cell BK240.out 2).trans rfl, (blk_cell BK240.out 3).trans rfl, (blk_cell BK241.out 0).trans rfl, (blk_cell BK241.out 1).trans rfl⟩ (fun hHeld => ?_)
    generalize w27.drew = w28 at BK240 BK241 HB hHeld ⊢
    refine take_ (i := 0) (N := some 18) (v := ?_) (a' := ?_) #[true, false, false, false, false, false, false] rfl rfl (by kernel_rfl) (fun _ _ _ h => h) (Or.inl ⟨by rfl, ?_⟩) hHeld ?_ ?_; rotate_left; (rintro w' ⟨s0, s1, s2, s3, s4, s5⟩; go_simp; with_reducible rfl); rotate_left; (simp only [Act.put, List.setIfInBounds_toArray, List.set_cons_zero, List.set_cons_succ, i64_w, i32_w]; rfl)
    refine take_ (i := 2) (N := some 20) (v := ?_) (a' := ?_) #[true, false, true, false, false, false, false] rfl rfl (by kernel_rfl) (fun _ _ _ h => h) (Or.inl ⟨by rfl, ?_⟩) hHeld ?_ ?_; rotate_left; (rintro w' ⟨s0, s1, s2, s3, s4, s5⟩; go_simp; with_reducible rfl); rotate_left; (simp only [Act.put, List.setIfInBounds_toArray, List.set_cons_zero, List.set_cons_succ, i64_w, i32_w]; rfl)
    refine join_ (σ := Value × Value × Nat) 1 #[true, true, true, true, true, true, false] (fun s_ => [(19, .agg #[.int .i64 t243, .int .i64 t244, .int .i64 t245, s_.1]), (21, .agg #[.int .i64 t249, .int .i64 t250]), (22, .agg #[.int .i64 t251, .int .i64 t252, .int .i64 t253, s_.2.1]), (6, .pointer (some ⟨s_.2.2, 0, none⟩))]) (fun s_ w' => (w'.cell? ⟨gb240, 0, none⟩ = some (.int .i64 a0_0) ∧ w'.cell? ⟨gb240, 1, none⟩ = some (.int .i64 a0_1) ∧ w'.cell? ⟨gb240, 2, none⟩ = some (.int .i64 a0_2) ∧ w'.cell? ⟨gb240, 3, none⟩ = some (.slice A0_3 l0_3.length c0_3) ∧ w'.cell? ⟨gb241, 0, none⟩ = some (.int .i64 a1_0) ∧ w'.cell? ⟨gb241, 1, none⟩ = some (.int .i64 a1_1)) ∧ (Kd.R k33 33 w' w.heap.size (fun k_ => some k_ ≠ (s_.2.1 : Value).ownBlock) s_.1 t246) ∧ (Kd.Q k33 33 w' w.heap.size (fun k_ => some k_ ≠ (s_.1 : Value).ownBlock) s_.2.1 t254) ∧ (w'.heap[gb240]? = some (.cells #[.int .i64 a0_0, .int .i64 a0_1, .int .i64 a0_2, .slice A0_3 l0_3.length c0_3] 24 (0, 0))) ∧ (w'.heap[gb241]? = some (.cells #[.int .i64 a1_0, .int .i64 a1_1] 26 (0, 0))) ∧ (w'.heap[s_.2.2]? = some (.cells #[.int .i64 0, .int .i64 0, .int .i64 0, .slice none 0 0] 30 (0, 0))) ∧ (w.heap.size ≤ s_.2.2) ∧ (w.heap.size ≤ s_.2.2) ∧ (gb240 ≠ s_.2.2) ∧ (s_.2.2 ≠ gb240) ∧ (gb241 ≠ s_.2.2) ∧ (s_.2.2 ≠ gb241) ∧ (Below w.heap.size w w')) ?_ ?_
    rotate_left
    ·
     intro hCont
     refine two_ (i := 1) (j := 5) (Ni := some 19) (Nj := some 6) #[true, true, true, false, false, false, false] #[true, false, true, false, false, true, false] rfl rfl rfl rfl (by kernel_rfl) (by decide) (by decide) (fun K hK => ?_) (fun K hK => ?_)
     ·
      skip
      refine goes_ Try.func10 (by kernel_rfl) rfl #[.agg #[.int .i64 a0_0, .int .i64 a0_1, .int .i64 a0_2, .slice A0_3 l0_3.length c0_3]] (by rfl) rfl rfl (by (try simp only [List.map_toArray, List.map_cons, List.map_nil]); first | done | rfl | (simp only [List.length_drop, List.length_take]; rfl)) ?_
      with_reducible refine (laws_toWindow.calls k a0_0 a0_1 a0_2 _ _ l0_3 t243 t244 t245 t246 _ ?side1 ?side2 A10.out).mono ?_
      (case side1 => repeat (first | exact (Kd.C_below HR0_3.out HB.out) | (with_reducible refine Kd.C_alloc ?_ _) | (with_reducible refine Kd.C_drewN ?_ _) | (with_reducible refine Kd.C_drew ?_)))
      (case side2 => exact HC0_3.out)
      rintro e w29 ⟨v247, rfl, ho0, hb⟩
      refine ⟨_, rfl, ?_⟩
      have n0_ := Aside0.mk (Kd.R_lower ho0 (below_size (by repeat (first | (with_reducible first | exact HB.out | apply below_alloc | apply pw_below_drewN | apply below_drew1 | refine below_set ?_ GE240.out | refine below_set ?_ GE241.out) | exact HB.out))))
      have n1_ := Aside0.mk (blk_below (up_ BK240.out) hb)
      have n2_ := Aside0.mk (blk_below (up_ BK241.out) hb)
      have n3_ := Aside0.mk (below_step (by repeat (first | (with_reducible first | exact HB.out | apply below_alloc | apply pw_below_drewN | apply below_drew1 | refine below_set ?_ GE240.out | refine below_set ?_ GE241.out) | exact HB.out)) hb)
      clear BK240
      clear BK241
      clear HB
      have HO248 := n0_
      have BK240 := n1_
      have BK241 := n2_
      have HB := n3_
      clear n0_ n1_ n2_ n3_
      (try clear hb)
      (try clear hb2)
      (try clear hk)
      (try clear hi)
      (try clear ho0)
      refine hK.out _ _ ⟨(blk_cell BK240.out 0).trans rfl, (blk_cell BK240.out 1).trans rfl, (blk_cell BK240.out 2).trans rfl, (blk_cell BK240.out 3).trans rfl, (blk_cell BK241.out 0).trans rfl, (blk_cell BK241.out 1).trans rfl⟩ (fun hHeld => ?_)
      clear hK K
      refine norm_ (a' := ?_) ?_ ?_
      rotate_left
      ·
       show Act.put _ (some 19) _ = _
       simp only [Act.put, List.setIfInBounds_toArray, List.set_cons_zero, List.set_cons_succ, i64_w, i32_w]
       rfl
      refine two_ (i := 3) (j := 5) (Ni := some 21) (Nj := some 6) #[true, true, true, true, false, false, false] #[true, true, true, false, false, true, false] rfl rfl rfl rfl (by kernel_rfl) (by decide) (by decide) (fun K hK => ?_) (fun K hK => ?_)
      ·
       skip
       refine goes_ Try.func11 (by kernel_rfl) rfl #[.agg #[.int .i64 a1_0, .int .i64 a1_1]] (by rfl) rfl rfl (by (try simp only [List.map_toArray, List.map_cons, List.map_nil]); first | done | rfl | (simp only [List.length_drop, List.length_take]; rfl)) ?_
       with_reducible refine (laws_toMark.calls a1_0 a1_1 t249 t250 _ A11.out).mono ?_
       rintro e w30 ⟨rfl, hb⟩
       refine ⟨_, rfl, ?_⟩
       have n0_ := Aside0.mk (Kd.R_below (by exact rU_ HO248.out) hb)
       have n1_ := Aside0.mk (blk_below (up_ BK240.out) hb)
       have n2_ := Aside0.mk (blk_below (up_ BK241.out) hb)
       have n3_ := Aside0.mk (below_step (by repeat (first | (with_reducible first | exact HB.out | apply below_alloc | apply pw_below_drewN | apply below_drew1 | refine below_set ?_ GE240.out | refine below_set ?_ GE241.out) | exact HB.out)) hb)
       clear HO248
       clear BK240
       clear BK241
       clear HB
       have HO248 := n0_
       have BK240 := n1_
       have BK241 := n2_
       have HB := n3_
       clear n0_ n1_ n2_ n3_
       (try clear hb)
       (try clear hb2)
       (try clear hk)
       (try clear hi)
       obtain ⟨Ao31, co31, eo31⟩ := Kd.R_slice HO248.out
       (first | subst eo31 | (injection eo31 with f1_ f2_ f3_; have f4_ := f1_.symm; have f5_ := f3_.symm; clear f1_ f2_ f3_; subst f4_; subst f5_))
       refine hK.out _ _ ⟨(blk_cell BK240.out 0).trans rfl, (blk_cell BK240.out 1).trans rfl, (blk_cell BK240.out 2).trans rfl, (blk_cell BK240.out 3).trans rfl, (blk_cell BK241.out 0).trans rfl, (blk_cell BK241.out 1).trans rfl⟩ (fun hHeld => ?_)
       clear hK K
       refine norm_ (a' := ?_) ?_ ?_
       rotate_left
       ·
        show Act.put _ (some 21) _ = _
        simp only [Act.put, List.setIfInBounds_toArray, List.set_cons_zero, List.set_cons_succ, i64_w, i32_w]
        rfl
       refine two_ (i := 4) (j := 5) (Ni := some 22) (Nj := some 6) #[true, true, true, true, true, false, false] #[true, true, true, true, false, true, false] rfl rfl rfl rfl (by kernel_rfl) (by decide) (by decide) (fun K hK => ?_) (fun K hK => ?_)
       ·
        skip
        refine goes_ Try.func9 (by kernel_rfl) rfl #[.agg #[.int .i64 t243, .int .i64 t244, .int .i64 t245, .slice Ao31 t246.length co31], .agg #[.int .i64 t249, .int .i64 t250]] (by rfl) rfl rfl (by (try simp only [List.map_toArray, List.map_cons, List.map_nil]); first | done | rfl | (simp only [List.length_drop, List.length_take]; rfl)) ?_
        with_reducible refine (spec_WindowPut.calls k t243 t244 t245 _ _ t246 t249 t250 t251 t252 t253 t254 _ ?side1 ?side2 A12.out).mono ?_
        (case side1 => repeat (first | exact (Kd.R_reads' HO248.out).2.2 | (with_reducible refine Kd.C_alloc ?_ _) | (with_reducible refine Kd.C_drewN ?_ _) | (with_reducible refine Kd.C_drew ?_)))
        (case side2 => exact (Kd.R_reads' HO248.out).2.1)
        rintro e w32 ⟨v255, rfl, ho0, hb⟩
        refine ⟨_, rfl, ?_⟩
        have n0_ := Aside0.mk (Kd.R_elder' (by exact rU_ HO248.out) (Kd.Q_base ho0) hb)
        have n1_ := Aside0.mk (Kd.Q_lower (Kd.Q_new' ho0 (Kd.R_lt (by exact rU_ HO248.out))) (below_size (by repeat (first | (with_reducible first | exact HB.out | apply below_alloc | apply pw_below_drewN | apply below_drew1 | refine below_set ?_ GE240.out | refine below_set ?_ GE241.out) | exact HB.out))))
        have n2_ := Aside0.mk (blk_below (up_ BK240.out) hb)
        have n3_ := Aside0.mk (blk_below (up_ BK241.out) hb)
        have n4_ := Aside0.mk (below_step (by repeat (first | (with_reducible first | exact HB.out | apply below_alloc | apply pw_below_drewN | apply below_drew1 | refine below_set ?_ GE240.out | refine below_set ?_ GE241.out) | exact HB.out)) hb)
        clear HO248
        clear BK240
        clear BK241
        clear HB
        have HO248 := n0_
        have HO256 := n1_
        have BK240 := n2_
        have BK241 := n3_
        have HB := n4_
        clear n0_ n1_ n2_ n3_ n4_
        (try clear hb)
        (try clear hb2)
        (try clear hk)
        (try clear hi)
        (try clear ho0)
        refine hK.out _ _ ⟨(blk_cell BK240.out 0).trans rfl, (blk_cell BK240.out 1).trans rfl, (blk_cell BK240.out 2).trans rfl, (blk_cell BK240.out 3).trans rfl, (blk_cell BK241.out 0).trans rfl, (blk_cell BK241.out 1).trans rfl⟩ (fun hHeld => ?_)
        clear hK K
        refine norm_ (a' := ?_) ?_ ?_
        rotate_left
        ·
         show Act.put _ (some 22) _ = _
         simp only [Act.put, List.setIfInBounds_toArray, List.set_cons_zero, List.set_cons_succ, i64_w, i32_w]
         rfl
        refine one_ (i := 5) (N := some 6) #[true, true, true, true, true, true, false] rfl rfl (by kernel_rfl) (by decide) (fun K hK => ?_)
        refine box_step ?hg (N := 6) ?hd (cs := #[.int .i64 0, .int .i64 0, .int .i64 0, .slice none 0 0]) (t := 30) ?hr ?_; (case hd => rfl); (case hg => rfl); (case hr => first | (go_simp; done) | (go_simp; rfl))
        intro gb257 hg w33 hbox hb
        have n0_ := Aside0.mk (Kd.R_below (by exact rU_ HO248.out) hb)
        have n1_ := Aside0.mk (Kd.Q_below (by exact qU_ HO256.out) hb)
        have n2_ := Aside0.mk (blk_below (up_ BK240.out) hb)
        have n3_ := Aside0.mk (blk_below (up_ BK241.out) hb)
        have n4_ := Aside0.mk (below_step (by repeat (first | (with_reducible first | exact HB.out | apply below_alloc | apply pw_below_drewN | apply below_drew1 | refine below_set ?_ GE240.out | refine below_set ?_ GE241.out) | exact HB.out)) hb)
        have n5_ := Aside0.mk (hbox)
        have n6_ := Aside0.mk ((by rw [hg]; exact (below_size (by repeat (first | (with_reducible first | exact HB.out | apply below_alloc | apply pw_below_drewN | apply below_drew1 | refine below_set ?_ GE240.out | refine below_set ?_ GE241.out) | exact HB.out))) : w.heap.size ≤ gb257))
        have n7_ := Aside0.mk ((by rw [hg]; exact (below_size (by repeat (first | (with_reducible first | exact HB.out | apply below_alloc | apply pw_below_drewN | apply below_drew1 | refine below_set ?_ GE240.out | refine below_set ?_ GE241.out) | exact HB.out))) : w.heap.size ≤ gb257))
        have n8_ := Aside0.mk ((by rw [hg]; exact Nat.ne_of_lt (blk_lt (up_ BK240.out)) : gb240 ≠ gb257))
        have n9_ := Aside0.mk ((by rw [hg]; exact Nat.ne_of_gt (blk_lt (up_ BK240.out)) : gb257 ≠ gb240))
        have n10_ := Aside0.mk ((by rw [hg]; exact Nat.ne_of_lt (blk_lt (up_ BK241.out)) : gb241 ≠ gb257))
        have n11_ := Aside0.mk ((by rw [hg]; exact Nat.ne_of_gt (blk_lt (up_ BK241.out)) : gb257 ≠ gb241))
        clear HO248
        clear HO256
        clear BK240
        clear BK241
        clear HB
        have HO248 := n0_
        have HO256 := n1_
        have BK240 := n2_
        have BK241 := n3_
        have HB := n4_
        have BK257 := n5_
        have GW257 := n6_
        have GE257 := n7_
        have NB240_257 := n8_
        have NB257_240 := n9_
        have NB241_257 := n10_
        have NB257_241 := n11_
        clear n0_ n1_ n2_ n3_ n4_ n5_ n6_ n7_ n8_ n9_ n10_ n11_
        clear hb hbox hg
        refine hK.out _ _ ⟨(blk_cell BK240.out 0).trans rfl, (blk_cell BK240.out 1).trans rfl, (blk_cell BK240.out 2).trans rfl, (blk_cell BK240.out 3).trans rfl, (blk_cell BK241.out 0).trans rfl, (blk_cell BK241.out 1).trans rfl⟩ (fun hHeld => ?_)
        clear hK K
        refine norm_ (a' := ?_) ?_ ?_
        rotate_left
        ·
         show Act.put _ (some 6) _ = _
         simp only [Act.put, List.setIfInBounds_toArray, List.set_cons_zero, List.set_cons_succ, i64_w, i32_w]
         rfl
        exact norm_ (by simp only [putAll, Act.put, List.setIfInBounds_toArray, List.set_cons_zero, List.set_cons_succ]) (hCont (.slice Ao31 t246.length co31, v255, gb257) _ ⟨hHeld, (by exact rU_ (Kd.R_mono HO248.out (fun _ hk => hk.2))), (by exact qU_ (Kd.Q_mono HO256.out (fun _ hk => hk.2))), (by exact up_ BK240.out), (by exact up_ BK241.out), (by exact up_ BK257.out), GW257.out, GE257.out, NB240_257.out, NB257_240.out, NB241_257.out, NB257_241.out, (by repeat (first | (with_reducible first | exact HB.out | apply below_alloc | apply pw_below_drewN | apply below_drew1 | refine below_set ?_ GE240.out | refine below_set ?_ GE241.out | refine below_set ?_ GE257.out) | exact HB.out))⟩)
       ·
        skip
        refine box_step ?hg (N := 6) ?hd (cs := #[.int .i64 0, .int .i64 0, .int .i64 0, .slice none 0 0]) (t := 30) ?hr ?_; (case hd => rfl); (case hg => rfl); (case hr => first | (go_simp; done) | (go_simp; rfl))
        intro gb257 hg w31 hbox hb
        have n0_ := Aside0.mk (Kd.R_below (by exact rU_ HO248.out) hb)
        have n1_ := Aside0.mk (blk_below (up_ BK240.out) hb)
        have n2_ := Aside0.mk (blk_below (up_ BK241.out) hb)
        have n3_ := Aside0.mk (below_step (by repeat (first | (with_reducible first | exact HB.out | apply below_alloc | apply pw_below_drewN | apply below_drew1 | refine below_set ?_ GE240.out | refine below_set ?_ GE241.out) | exact HB.out)) hb)
        have n4_ := Aside0.mk (hbox)
        have n5_ := Aside0.mk ((by rw [hg]; exact (below_size (by repeat (first | (with_reducible first | exact HB.out | apply below_alloc | apply pw_below_drewN | apply below_drew1 | refine below_set ?_ GE240.out | refine below_set ?_ GE241.out) | exact HB.out))) : w.heap.size ≤ gb257))
        have n6_ := Aside0.mk ((by rw [hg]; exact (below_size (by repeat (first | (with_reducible first | exact HB.out | apply below_alloc | apply pw_below_drewN | apply below_drew1 | refine below_set ?_ GE240.out | refine below_set ?_ GE241.out) | exact HB.out))) : w.heap.size ≤ gb257))
        have n7_ := Aside0.mk ((by rw [hg]; exact Nat.ne_of_lt (blk_lt (up_ BK240.out)) : gb240 ≠ gb257))
        have n8_ := Aside0.mk ((by rw [hg]; exact Nat.ne_of_gt (blk_lt (up_ BK240.out)) : gb257 ≠ gb240))
        have n9_ := Aside0.mk ((by rw [hg]; exact Nat.ne_of_lt (blk_lt (up_ BK241.out)) : gb241 ≠ gb257))
        have n10_ := Aside0.mk ((by rw [hg]; exact Nat.ne_of_gt (blk_lt (up_ BK241.out)) : gb257 ≠ gb241))
        clear HO248
        clear BK240
        clear BK241
        clear HB
        have HO248 := n0_
        have BK240 := n1_
        have BK241 := n2_
        have HB := n3_
        have BK257 := n4_
        have GW257 := n5_
        have GE257 := n6_
        have NB240_257 := n7_
        have NB257_240 := n8_
        have NB241_257 := n9_
        have NB257_241 := n10_
        clear n0_ n1_ n2_ n3_ n4_ n5_ n6_ n7_ n8_ n9_ n10_
        clear hb hbox hg
        obtain ⟨Ao32, co32, eo32⟩ := Kd.R_slice HO248.out
        (first | subst eo32 | (injection eo32 with f1_ f2_ f3_; have f4_ := f1_.symm; have f5_ := f3_.symm; clear f1_ f2_ f3_; subst f4_; subst f5_))
        refine hK.out _ _ ⟨(blk_cell BK240.out 0).trans rfl, (blk_cell BK240.out 1).trans rfl, (blk_cell BK240.out 2).trans rfl, (blk_cell BK240.out 3).trans rfl, (blk_cell BK241.out 0).trans rfl, (blk_cell BK241.out 1).trans rfl⟩ (fun hHeld => ?_)
        clear hK K
        refine norm_ (a' := ?_) ?_ ?_
        rotate_left
        ·
         show Act.put _ (some 6) _ = _
         simp only [Act.put, List.setIfInBounds_toArray, List.set_cons_zero, List.set_cons_succ, i64_w, i32_w]
         rfl
        refine one_ (i := 4) (N := some 22) #[true, true, true, true, true, true, false] rfl rfl (by kernel_rfl) (by decide) (fun K hK => ?_)
        refine goes_ Try.func9 (by kernel_rfl) rfl #[.agg #[.int .i64 t243, .int .i64 t244, .int .i64 t245, .slice Ao32 t246.length co32], .agg #[.int .i64 t249, .int .i64 t250]] (by rfl) rfl rfl (by (try simp only [List.map_toArray, List.map_cons, List.map_nil]); first | done | rfl | (simp only [List.length_drop, List.length_take]; rfl)) ?_
        with_reducible refine (spec_WindowPut.calls k t243 t244 t245 _ _ t246 t249 t250 t251 t252 t253 t254 _ ?side1 ?side2 A12.out).mono ?_
        (case side1 => repeat (first | exact (Kd.R_reads' HO248.out).2.2 | (with_reducible refine Kd.C_alloc ?_ _) | (with_reducible refine Kd.C_drewN ?_ _) | (with_reducible refine Kd.C_drew ?_)))
        (case side2 => exact (Kd.R_reads' HO248.out).2.1)
        rintro e w33 ⟨v255, rfl, ho0, hb⟩
        refine ⟨_, rfl, ?_⟩
        have n0_ := Aside0.mk (Kd.R_elder' (by exact rU_ HO248.out) (Kd.Q_base ho0) hb)
        have n1_ := Aside0.mk (Kd.Q_lower (Kd.Q_new' ho0 (Kd.R_lt (by exact rU_ HO248.out))) (below_size (by repeat (first | (with_reducible first | exact HB.out | apply below_alloc | apply pw_below_drewN | apply below_drew1 | refine below_set ?_ GE240.out | refine below_set ?_ GE241.out | refine below_set ?_ GE257.out) | exact HB.out))))
        have n2_ := Aside0.mk (blk_below (up_ BK240.out) hb)
        have n3_ := Aside0.mk (blk_below (up_ BK241.out) hb)
        have n4_ := Aside0.mk (blk_below (up_ BK257.out) hb)
        have n5_ := Aside0.mk (below_step (by repeat (first | (with_reducible first | exact HB.out | apply below_alloc | apply pw_below_drewN | apply below_drew1 | refine below_set ?_ GE240.out | refine below_set ?_ GE241.out | refine below_set ?_ GE257.out) | exact HB.out)) hb)
        clear HO248
        clear BK240
        clear BK241
        clear BK257
        clear HB
        have HO248 := n0_
        have HO256 := n1_
        have BK240 := n2_
        have BK241 := n3_
        have BK257 := n4_
        have HB := n5_
        clear n0_ n1_ n2_ n3_ n4_ n5_
        (try clear hb)
        (try clear hb2)
        (try clear hk)
        (try clear hi)
        (try clear ho0)
        refine hK.out _ _ ⟨(blk_cell BK240.out 0).trans rfl, (blk_cell BK240.out 1).trans rfl, (blk_cell BK240.out 2).trans rfl, (blk_cell BK240.out 3).trans rfl, (blk_cell BK241.out 0).trans rfl, (blk_cell BK241.out 1).trans rfl⟩ (fun hHeld => ?_)
        clear hK K
        refine norm_ (a' := ?_) ?_ ?_
        rotate_left
        ·
         show Act.put _ (some 22) _ = _
         simp only [Act.put, List.setIfInBounds_toArray, List.set_cons_zero, List.set_cons_succ, i64_w, i32_w]
         rfl
        exact norm_ (by simp only [putAll, Act.put, List.setIfInBounds_toArray, List.set_cons_zero, List.set_cons_succ]) (hCont (.slice Ao32 t246.length co32, v255, gb257) _ ⟨hHeld, (by exact rU_ (Kd.R_mono HO248.out (fun _ hk => hk.2))), (by exact qU_ (Kd.Q_mono HO256.out (fun _ hk => hk.2))), (by exact up_ BK240.out), (by exact up_ BK241.out), (by exact up_ BK257.out), GW257.out, GE257.out, NB240_257.out, NB257_240.out, NB241_257.out, NB257_241.out, (by repeat (first | (with_reducible first | exact HB.out | apply below_alloc | apply pw_below_drewN | apply below_drew1 | refine below_set ?_ GE240.out | refine below_set ?_ GE241.out | refine below_set ?_ GE257.out) | exact HB.out))⟩)
      ·
       skip
       refine box_step ?hg (N := 6) ?hd (cs := #[.int .i64 0, .int .i64 0, .int .i64 0, .slice none 0 0]) (t := 30) ?hr ?_; (case hd => rfl); (case hg => rfl); (case hr => first | (go_simp; done) | (go_simp; rfl))
       intro gb257 hg w30 hbox hb
       have n0_ := Aside0.mk (Kd.R_below (by exact rU_ HO248.out) hb)
       have n1_ := Aside0.mk (blk_below (up_ BK240.out) hb)
       have n2_ := Aside0.mk (blk_below (up_ BK241.out) hb)
       have n3_ := Aside0.mk (below_step (by repeat (first | (with_reducible first | exact HB.out | apply below_alloc | apply pw_below_drewN | apply below_drew1 | refine below_set ?_ GE240.out | refine below_set ?_ GE241.out) | exact HB.out)) hb)
       have n4_ := Aside0.mk (hbox)
       have n5_ := Aside0.mk ((by rw [hg]; exact (below_size (by repeat (first | (with_reducible first | exact HB.out | apply below_alloc | apply pw_below_drewN | apply below_drew1 | refine below_set ?_ GE240.out | refine below_set ?_ GE241.out) | exact HB.out))) : w.heap.size ≤ gb257))
       have n6_ := Aside0.mk ((by rw [hg]; exact (below_size (by repeat (first | (with_reducible first | exact HB.out | apply below_alloc | apply pw_below_drewN | apply below_drew1 | refine below_set ?_ GE240.out | refine below_set ?_ GE241.out) | exact HB.out))) : w.heap.size ≤ gb257))
       have n7_ := Aside0.mk ((by rw [hg]; exact Nat.ne_of_lt (blk_lt (up_ BK240.out)) : gb240 ≠ gb257))
       have n8_ := Aside0.mk ((by rw [hg]; exact Nat.ne_of_gt (blk_lt (up_ BK240.out)) : gb257 ≠ gb240))
       have n9_ := Aside0.mk ((by rw [hg]; exact Nat.ne_of_lt (blk_lt (up_ BK241.out)) : gb241 ≠ gb257))
       have n10_ := Aside0.mk ((by rw [hg]; exact Nat.ne_of_gt (blk_lt (up_ BK241.out)) : gb257 ≠ gb241))
       clear HO248
       clear BK240
       clear BK241
       clear HB
       have HO248 := n0_
       have BK240 := n1_
       have BK241 := n2_
       have HB := n3_
       have BK257 := n4_
       have GW257 := n5_
       have GE257 := n6_
       have NB240_257 := n7_
       have NB257_240 := n8_
       have NB241_257 := n9_
       have NB257_241 := n10_
       clear n0_ n1_ n2_ n3_ n4_ n5_ n6_ n7_ n8_ n9_ n10_
       clear hb hbox hg
       refine hK.out _ _ ⟨(blk_cell BK240.out 0).trans rfl, (blk_cell BK240.out 1).trans rfl, (blk_cell BK240.out 2).trans rfl, (blk_cell BK240.out 3).trans rfl, (blk_cell BK241.out 0).trans rfl, (blk_cell BK241.out 1).trans rfl⟩ (fun hHeld => ?_)
       clear hK K
       refine norm_ (a' := ?_) ?_ ?_
       rotate_left
       ·
        show Act.put _ (some 6) _ = _
        simp only [Act.put, List.setIfInBounds_toArray, List.set_cons_zero, List.set_cons_succ, i64_w, i32_w]
        rfl
       refine one_ (i := 3) (N := some 21) #[true, true, true, true, false, true, false] rfl rfl (by kernel_rfl) (by decide) (fun K hK => ?_)
       refine goes_ Try.func11 (by kernel_rfl) rfl #[.agg #[.int .i64 a1_0, .int .i64 a1_1]] (by rfl) rfl rfl (by (try simp only [List.map_toArray, List.map_cons, List.map_nil]); first | done | rfl | (simp only [List.length_drop, List.length_take]; rfl)) ?_
       with_reducible refine (laws_toMark.calls a1_0 a1_1 t249 t250 _ A11.out).mono ?_
       rintro e w31 ⟨rfl, hb⟩
       refine ⟨_, rfl, ?_⟩
       have n0_ := Aside0.mk (Kd.R_below (by exact rU_ HO248.out) hb)
       have n1_ := Aside0.mk (blk_below (up_ BK240.out) hb)
       have n2_ := Aside0.mk (blk_below (up_ BK241.out) hb)
       have n3_ := Aside0.mk (blk_below (up_ BK257.out) hb)
       have n4_ := Aside0.mk (below_step (by repeat (first | (with_reducible first | exact HB.out | apply below_alloc | apply pw_below_drewN | apply below_drew1 | refine below_set ?_ GE240.out | refine below_set ?_ GE241.out | refine below_set ?_ GE257.out) | exact HB.out)) hb)
       clear HO248
       clear BK240
       clear BK241
       clear BK257
       clear HB
       have HO248 := n0_
       have BK240 := n1_
       have BK241 := n2_
       have BK257 := n3_
       have HB := n4_
       clear n0_ n1_ n2_ n3_ n4_
       (try clear hb)
       (try clear hb2)
       (try clear hk)
       (try clear hi)
       obtain ⟨Ao32, co32, eo32⟩ := Kd.R_slice HO248.out
       (first | subst eo32 | (injection eo32 with f1_ f2_ f3_; have f4_ := f1_.symm; have f5_ := f3_.symm; clear f1_ f2_ f3_; subst f4_; subst f5_))
       refine hK.out _ _ ⟨(blk_cell BK240.out 0).trans rfl, (blk_cell BK240.out 1).trans rfl, (blk_cell BK240.out 2).trans rfl, (blk_cell BK240.out 3).trans rfl, (blk_cell BK241.out 0).trans rfl, (blk_cell BK241.out 1).trans rfl⟩ (fun hHeld => ?_)
       clear hK K
       refine norm_ (a' := ?_) ?_ ?_
       rotate_left
       ·
        show Act.put _ (some 21) _ = _
        simp only [Act.put, List.setIfInBounds_toArray, List.set_cons_zero, List.set_cons_succ, i64_w, i32_w]
        rfl
       refine one_ (i := 4) (N := some 22) #[true, true, true, true, true, true, false] rfl rfl (by kernel_rfl) (by decide) (fun K hK => ?_)
       refine goes_ Try.func9 (by kernel_rfl) rfl #[.agg #[.int .i64 t243, .int .i64 t244, .int .i64 t245, .slice Ao32 t246.length co32], .agg #[.int .i64 t249, .int .i64 t250]] (by rfl) rfl rfl (by (try simp only [List.map_toArray, List.map_cons, List.map_nil]); first | done | rfl | (simp only [List.length_drop, List.length_take]; rfl)) ?_
       with_reducible refine (spec_WindowPut.calls k t243 t244 t245 _ _ t246 t249 t250 t251 t252 t253 t254 _ ?side1 ?side2 A12.out).mono ?_
       (case side1 => repeat (first | exact (Kd.R_reads' HO248.out).2.2 | (with_reducible refine Kd.C_alloc ?_ _) | (with_reducible refine Kd.C_drewN ?_ _) | (with_reducible refine Kd.C_drew ?_)))
       (case side2 => exact (Kd.R_reads' HO248.out).2.1)
       rintro e w33 ⟨v255, rfl, ho0, hb⟩
       refine ⟨_, rfl, ?_⟩
       have n0_ := Aside0.mk (Kd.R_elder' (by exact rU_ HO248.out) (Kd.Q_base ho0) hb)
       have n1_ := Aside0.mk (Kd.Q_lower (Kd.Q_new' ho0 (Kd.R_lt (by exact rU_ HO248.out))) (below_size (by repeat (first | (with_reducible first | exact HB.out | apply below_alloc | apply pw_below_drewN | apply below_drew1 | refine below_set ?_ GE240.out | refine below_set ?_ GE241.out | refine below_set ?_ GE257.out) | exact HB.out))))
       have n2_ := Aside0.mk (blk_below (up_ BK240.out) hb)
       have n3_ := Aside0.mk (blk_below (up_ BK241.out) hb)
       have n4_ := Aside0.mk (blk_below (up_ BK257.out) hb)
       have n5_ := Aside0.mk (below_step (by repeat (first | (with_reducible first | exact HB.out | apply below_alloc | apply pw_below_drewN | apply below_drew1 | refine below_set ?_ GE240.out | refine below_set ?_ GE241.out | refine below_set ?_ GE257.out) | exact HB.out)) hb)
       clear HO248
       clear BK240
       clear BK241
       clear BK257
       clear HB
       have HO248 := n0_
       have HO256 := n1_
       have BK240 := n2_
       have BK241 := n3_
       have BK257 := n4_
       have HB := n5_
       clear n0_ n1_ n2_ n3_ n4_ n5_
       (try clear hb)
       (try clear hb2)
       (try clear hk)
       (try clear hi)
       (try clear ho0)
       refine hK.out _ _ ⟨(blk_cell BK240.out 0).trans rfl, (blk_cell BK240.out 1).trans rfl, (blk_cell BK240.out 2).trans rfl, (blk_cell BK240.out 3).trans rfl, (blk_cell BK241.out 0).trans rfl, (blk_cell BK241.out 1).trans rfl⟩ (fun hHeld => ?_)
       clear hK K
       refine norm_ (a' := ?_) ?_ ?_
       rotate_left
       ·
        show Act.put _ (some 22) _ = _
        simp only [Act.put, List.setIfInBounds_toArray, List.set_cons_zero, List.set_cons_succ, i64_w, i32_w]
        rfl
       exact norm_ (by simp only [putAll, Act.put, List.setIfInBounds_toArray, List.set_cons_zero, List.set_cons_succ]) (hCont (.slice Ao32 t246.length co32, v255, gb257) _ ⟨hHeld, (by exact rU_ (Kd.R_mono HO248.out (fun _ hk => hk.2))), (by exact qU_ (Kd.Q_mono HO256.out (fun _ hk => hk.2))), (by exact up_ BK240.out), (by exact up_ BK241.out), (by exact up_ BK257.out), GW257.out, GE257.out, NB240_257.out, NB257_240.out, NB241_257.out, NB257_241.out, (by repeat (first | (with_reducible first | exact HB.out | apply below_alloc | apply pw_below_drewN | apply below_drew1 | refine below_set ?_ GE240.out | refine below_set ?_ GE241.out | refine below_set ?_ GE257.out) | exact HB.out))⟩)
     ·
      skip
      refine box_step ?hg (N := 6) ?hd (cs := #[.int .i64 0, .int .i64 0, .int .i64 0, .slice none 0 0]) (t := 30) ?hr ?_; (case hd => rfl); (case hg => rfl); (case hr => first | (go_simp; done) | (go_simp; rfl))
      intro gb257 hg w29 hbox hb
      have n0_ := Aside0.mk (blk_below (up_ BK240.out) hb)
      have n1_ := Aside0.mk (blk_below (up_ BK241.out) hb)
      have n2_ := Aside0.mk (below_step (by repeat (first | (with_reducible first | exact HB.out | apply below_alloc | apply pw_below_drewN | apply below_drew1 | refine below_set ?_ GE240.out | refine below_set ?_ GE241.out) | exact HB.out)) hb)
      have n3_ := Aside0.mk (hbox)
      have n4_ := Aside0.mk ((by rw [hg]; exact (below_size (by repeat (first | (with_reducible first | exact HB.out | apply below_alloc | apply pw_below_drewN | apply below_drew1 | refine below_set ?_ GE240.out | refine below_set ?_ GE241.out) | exact HB.out))) : w.heap.size ≤ gb257))
      have n5_ := Aside0.mk ((by rw [hg]; exact (below_size (by repeat (first | (with_reducible first | exact HB.out | apply below_alloc | apply pw_below_drewN | apply below_drew1 | refine below_set ?_ GE240.out | refine below_set ?_ GE241.out) | exact HB.out))) : w.heap.size ≤ gb257))
      have n6_ := Aside0.mk ((by rw [hg]; exact Nat.ne_of_lt (blk_lt (up_ BK240.out)) : gb240 ≠ gb257))
      have n7_ := Aside0.mk ((by rw [hg]; exact Nat.ne_of_gt (blk_lt (up_ BK240.out)) : gb257 ≠ gb240))
      have n8_ := Aside0.mk ((by rw [hg]; exact Nat.ne_of_lt (blk_lt (up_ BK241.out)) : gb241 ≠ gb257))
      have n9_ := Aside0.mk ((by rw [hg]; exact Nat.ne_of_gt (blk_lt (up_ BK241.out)) : gb257 ≠ gb241))
      clear BK240
      clear BK241
      clear HB
      have BK240 := n0_
      have BK241 := n1_
      have HB := n2_
      have BK257 := n3_
      have GW257 := n4_
      have GE257 := n5_
      have NB240_257 := n6_
      have NB257_240 := n7_
      have NB241_257 := n8_
      have NB257_241 := n9_
      clear n0_ n1_ n2_ n3_ n4_ n5_ n6_ n7_ n8_ n9_
      clear hb hbox hg
      refine hK.out _ _ ⟨(blk_cell BK240.out 0).trans rfl, (blk_cell BK240.out 1).trans rfl, (blk_cell BK240.out 2).trans rfl, (blk_cell BK240.out 3).trans rfl, (blk_cell BK241.out 0).trans rfl, (blk_cell BK241.out 1).trans rfl⟩ (fun hHeld => ?_)
      clear hK K
      refine norm_ (a' := ?_) ?_ ?_
      rotate_left
      ·
       show Act.put _ (some 6) _ = _
       simp only [Act.put, List.setIfInBounds_toArray, List.set_cons_zero, List.set_cons_succ, i64_w, i32_w]
       rfl
      refine one_ (i := 1) (N := some 19) #[true, true, true, false, false, true, false] rfl rfl (by kernel_rfl) (by decide) (fun K hK => ?_)
      refine goes_ Try.func10 (by kernel_rfl) rfl #[.agg #[.int .i64 a0_0, .int .i64 a0_1, .int .i64 a0_2, .slice A0_3 l0_3.length c0_3]] (by rfl) rfl rfl (by (try simp only [List.map_toArray, List.map_cons, List.map_nil]); first | done | rfl | (simp only [List.length_drop, List.length_take]; rfl)) ?_
      with_reducible refine (laws_toWindow.calls k a0_0 a0_1 a0_2 _ _ l0_3 t243 t244 t245 t246 _ ?side1 ?side2 A10.out).mono ?_
      (case side1 => repeat (first | exact (Kd.C_below HR0_3.out HB.out) | (with_reducible refine Kd.C_alloc ?_ _) | (with_reducible refine Kd.C_drewN ?_ _) | (with_reducible refine Kd.C_drew ?_)))
      (case side2 => exact HC0_3.out)
      rintro e w30 ⟨v247, rfl, ho0, hb⟩
      refine ⟨_, rfl, ?_⟩
      have n0_ := Aside0.mk (Kd.R_lower ho0 (below_size (by repeat (first | (with_reducible first | exact HB.out | apply below_alloc | apply pw_below_drewN | apply below_drew1 | refine below_set ?_ GE240.out | refine below_set ?_ GE241.out | refine below_set ?_ GE257.out) | exact HB.out))))
      have n1_ := Aside0.mk (blk_below (up_ BK240.out) hb)
      have n2_ := Aside0.mk (blk_below (up_ BK241.out) hb)
      have n3_ := Aside0.mk (blk_below (up_ BK257.out) hb)
      have n4_ := Aside0.mk (below_step (by repeat (first | (with_reducible first | exact HB.out | apply below_alloc | apply pw_below_drewN | apply below_drew1 | refine below_set ?_ GE240.out | refine below_set ?_ GE241.out | refine below_set ?_ GE257.out) | exact HB.out)) hb)
      clear BK240
      clear BK241
      clear BK257
      clear HB
      have HO248 := n0_
      have BK240 := n1_
      have BK241 := n2_
      have BK257 := n3_
      have HB := n4_
      clear n0_ n1_ n2_ n3_ n4_
      (try clear hb)
      (try clear hb2)
      (try clear hk)
      (try clear hi)
      (try clear ho0)
      refine hK.out _ _ ⟨(blk_cell BK240.out 0).trans rfl, (blk_cell BK240.out 1).trans rfl, (blk_cell BK240.out 2).trans rfl, (blk_cell BK240.out 3).trans rfl, (blk_cell BK241.out 0).trans rfl, (blk_cell BK241.out 1).trans rfl⟩ (fun hHeld => ?_)
      clear hK K
      refine norm_ (a' := ?_) ?_ ?_
      rotate_left
      ·
       show Act.put _ (some 19) _ = _
       simp only [Act.put, List.setIfInBounds_toArray, List.set_cons_zero, List.set_cons_succ, i64_w, i32_w]
       rfl
      refine one_ (i := 3) (N := some 21) #[true, true, true, true, false, true, false] rfl rfl (by kernel_rfl) (by decide) (fun K hK => ?_)
      refine goes_ Try.func11 (by kernel_rfl) rfl #[.agg #[.int .i64 a1_0, .int .i64 a1_1]] (by rfl) rfl rfl (by (try simp only [List.map_toArray, List.map_cons, List.map_nil]); first | done | rfl | (simp only [List.length_drop, List.length_take]; rfl)) ?_
      with_reducible refine (laws_toMark.calls a1_0 a1_1 t249 t250 _ A11.out).mono ?_
      rintro e w31 ⟨rfl, hb⟩
      refine ⟨_, rfl, ?_⟩
      have n0_ := Aside0.mk (Kd.R_below (by exact rU_ HO248.out) hb)
      have n1_ := Aside0.mk (blk_below (up_ BK240.out) hb)
      have n2_ := Aside0.mk (blk_below (up_ BK241.out) hb)
      have n3_ := Aside0.mk (blk_below (up_ BK257.out) hb)
      have n4_ := Aside0.mk (below_step (by repeat (first | (with_reducible first | exact HB.out | apply below_alloc | apply pw_below_drewN | apply below_drew1 | refine below_set ?_ GE240.out | refine below_set ?_ GE241.out | refine below_set ?_ GE257.out) | exact HB.out)) hb)
      clear HO248
      clear BK240
      clear BK241
      clear BK257
      clear HB
      have HO248 := n0_
      have BK240 := n1_
      have BK241 := n2_
      have BK257 := n3_
      have HB := n4_
      clear n0_ n1_ n2_ n3_ n4_
      (try clear hb)
      (try clear hb2)
      (try clear hk)
      (try clear hi)
      obtain ⟨Ao32, co32, eo32⟩ := Kd.R_slice HO248.out
      (first | subst eo32 | (injection eo32 with f1_ f2_ f3_; have f4_ := f1_.symm; have f5_ := f3_.symm; clear f1_ f2_ f3_; subst f4_; subst f5_))
      refine hK.out _ _ ⟨(blk_cell BK240.out 0).trans rfl, (blk_cell BK240.out 1).trans rfl, (blk_cell BK240.out 2).trans rfl, (blk_cell BK240.out 3).trans rfl, (blk_cell BK241.out 0).trans rfl, (blk_cell BK241.out 1).trans rfl⟩ (fun hHeld => ?_)
      clear hK K
      refine norm_ (a' := ?_) ?_ ?_
      rotate_left
      ·
       show Act.put _ (some 21) _ = _
       simp only [Act.put, List.setIfInBounds_toArray, List.set_cons_zero, List.set_cons_succ, i64_w, i32_w]
       rfl
      refine one_ (i := 4) (N := some 22) #[true, true, true, true, true, true, false] rfl rfl (by kernel_rfl) (by decide) (fun K hK => ?_)
      refine goes_ Try.func9 (by kernel_rfl) rfl #[.agg #[.int .i64 t243, .int .i64 t244, .int .i64 t245, .slice Ao32 t246.length co32], .agg #[.int .i64 t249, .int .i64 t250]] (by rfl) rfl rfl (by (try simp only [List.map_toArray, List.map_cons, List.map_nil]); first | done | rfl | (simp only [List.length_drop, List.length_take]; rfl)) ?_
      with_reducible refine (spec_WindowPut.calls k t243 t244 t245 _ _ t246 t249 t250 t251 t252 t253 t254 _ ?side1 ?side2 A12.out).mono ?_
      (case side1 => repeat (first | exact (Kd.R_reads' HO248.out).2.2 | (with_reducible refine Kd.C_alloc ?_ _) | (with_reducible refine Kd.C_drewN ?_ _) | (with_reducible refine Kd.C_drew ?_)))
      (case side2 => exact (Kd.R_reads' HO248.out).2.1)
      rintro e w33 ⟨v255, rfl, ho0, hb⟩
      refine ⟨_, rfl, ?_⟩
      have n0_ := Aside0.mk (Kd.R_elder' (by exact rU_ HO248.out) (Kd.Q_base ho0) hb)
      have n1_ := Aside0.mk (Kd.Q_lower (Kd.Q_new' ho0 (Kd.R_lt (by exact rU_ HO248.out))) (below_size (by repeat (first | (with_reducible first | exact HB.out | apply below_alloc | apply pw_below_drewN | apply below_drew1 | refine below_set ?_ GE240.out | refine below_set ?_ GE241.out | refine below_set ?_ GE257.out) | exact HB.out))))
      have n2_ := Aside0.mk (blk_below (up_ BK240.out) hb)
      have n3_ := Aside0.mk (blk_below (up_ BK241.out) hb)
      have n4_ := Aside0.mk (blk_below (up_ BK257.out) hb)
      have n5_ := Aside0.mk (below_step (by repeat (first | (with_reducible first | exact HB.out | apply below_alloc | apply pw_below_drewN | apply below_drew1 | refine below_set ?_ GE240.out | refine below_set ?_ GE241.out | refine below_set ?_ GE257.out) | exact HB.out)) hb)
      clear HO248
      clear BK240
      clear BK241
      clear BK257
      clear HB
      have HO248 := n0_
      have HO256 := n1_
      have BK240 := n2_
      have BK241 := n3_
      have BK257 := n4_
      have HB := n5_
      clear n0_ n1_ n2_ n3_ n4_ n5_
      (try clear hb)
      (try clear hb2)
      (try clear hk)
      (try clear hi)
      (try clear ho0)
      refine hK.out _ _ ⟨(blk_cell BK240.out 0).trans rfl, (blk_cell BK240.out 1).trans rfl, (blk_cell BK240.out 2).trans rfl, (blk_cell BK240.out 3).trans rfl, (blk_cell BK241.out 0).trans rfl, (blk_cell BK241.out 1).trans rfl⟩ (fun hHeld => ?_)
      clear hK K
      refine norm_ (a' := ?_) ?_ ?_
      rotate_left
      ·
       show Act.put _ (some 22) _ = _
       simp only [Act.put, List.setIfInBounds_toArray, List.set_cons_zero, List.set_cons_succ, i64_w, i32_w]
       rfl
      exact norm_ (by simp only [putAll, Act.put, List.setIfInBounds_toArray, List.set_cons_zero, List.set_cons_succ]) (hCont (.slice Ao32 t246.length co32, v255, gb257) _ ⟨hHeld, (by exact rU_ (Kd.R_mono HO248.out (fun _ hk => hk.2))), (by exact qU_ (Kd.Q_mono HO256.out (fun _ hk => hk.2))), (by exact up_ BK240.out), (by exact up_ BK241.out), (by exact up_ BK257.out), GW257.out, GE257.out, NB240_257.out, NB257_240.out, NB241_257.out, NB257_241.out, (by repeat (first | (with_reducible first | exact HB.out | apply below_alloc | apply pw_below_drewN | apply below_drew1 | refine below_set ?_ GE240.out | refine below_set ?_ GE241.out | refine below_set ?_ GE257.out) | exact HB.out))⟩)
    rintro ⟨v247, v255, gb257⟩ w34 ⟨hS_, h0_, h1_, h2_, h3_, h4_, h5_, h6_, h7_, h8_, h9_, h10_, h11_⟩
    have n0_ : Aside0 (Kd.R k33 33 w34 w.heap.size (fun k_ => some k_ ≠ (v255 : Value).ownBlock) v247 t246) := ⟨h0_⟩
    have n1_ : Aside0 (Kd.Q k33 33 w34 w.heap.size (fun k_ => some k_ ≠ (v247 : Value).ownBlock) v255 t254) := ⟨h1_⟩
    have n2_ : Aside0 (w34.heap[gb240]? = some (.cells #[.int .i64 a0_0, .int .i64 a0_1, .int .i64 a0_2, .slice A0_3 l0_3.length c0_3] 24 (0, 0))) := ⟨h2_⟩
    have n3_ : Aside0 (w34.heap[gb241]? = some (.cells #[.int .i64 a1_0, .int .i64 a1_1] 26 (0, 0))) := ⟨h3_⟩
    have n4_ : Aside0 (w34.heap[gb257]? = some (.cells #[.int .i64 0, .int .i64 0, .int .i64 0, .slice none 0 0] 30 (0, 0))) := ⟨h4_⟩
    have n5_ : Aside0 (w.heap.size ≤ gb257) := ⟨h5_⟩
    have n6_ : Aside0 (w.heap.size ≤ gb257) := ⟨h6_⟩
    have n7_ : Aside0 (gb240 ≠ gb257) := ⟨h7_⟩
    have n8_ : Aside0 (gb257 ≠ gb240) := ⟨h8_⟩
    have n9_ : Aside0 (gb241 ≠ gb257) := ⟨h9_⟩
    have n10_ : Aside0 (gb257 ≠ gb241) := ⟨h10_⟩
    have n11_ : Aside0 (Below w.heap.size w w34) := ⟨h11_⟩
    clear BK240
    clear BK241
    clear HB
    clear h0_ h1_ h2_ h3_ h4_ h5_ h6_ h7_ h8_ h9_ h10_ h11_
    have HO248 := n0_
    have HO256 := n1_
    have BK240 := n2_
    have BK241 := n3_
    have BK257 := n4_
    have GW257 := n5_
    have GE257 := n6_
    have NB240_257 := n7_
    have NB257_240 := n8_
    have NB241_257 := n9_
    have NB257_241 := n10_
    have HB := n11_
    clear n0_ n1_ n2_ n3_ n4_ n5_ n6_ n7_ n8_ n9_ n10_ n11_
    have hHeld : w34.cell? ⟨gb240, 0, none⟩ = some (.int .i64 a0_0) ∧ w34.cell? ⟨gb240, 1, none⟩ = some (.int .i64 a0_1) ∧ w34.cell? ⟨gb240, 2, none⟩ = some (.int .i64 a0_2) ∧ w34.cell? ⟨gb240, 3, none⟩ = some (.slice A0_3 l0_3.length c0_3) ∧ w34.cell? ⟨gb241, 0, none⟩ = some (.int .i64 a1_0) ∧ w34.cell? ⟨gb241, 1, none⟩ = some (.int .i64 a1_1) := hS_
    obtain ⟨Ao38, co38, eo38, _⟩ := Kd.Q_slice HO256.out
    (first | subst eo38 | (injection eo38 with f1_ f2_ f3_; have f4_ := f1_.symm; have f5_ := f3_.symm; clear f1_ f2_ f3_; subst f4_; subst f5_))
    refine norm_ (a' := ?_) ?_ ?_
    rotate_left
    ·
     simp only [putAll, Act.put, List.setIfInBounds_toArray, List.set_cons_zero, List.set_cons_succ]
     rfl
    refine one_ (i := 6) (N := none) #[true, true, true, true, true, true, true] rfl rfl (by kernel_rfl) (by decide) (fun K hK => ?_)
    have hs35 : w34.cell? ⟨gb257, 0, none⟩ = some (.int .i64 0) := (blk_cell BK257.out 0).trans rfl
    have hfs35 := blk_frozen BK257.out 0
    have hns35_0 := NB240_257.out
    have hns35_1 := NB241_257.out
    have hms35_0 := NB257_240.out
    have hms35_1 := NB257_241.out
    have hs36 : w34.cell? ⟨gb257, 1, none⟩ = some (.int .i64 0) := (blk_cell BK257.out 1).trans rfl
    have hfs36 := blk_frozen BK257.out 1
    have hns36_0 := NB240_257.out
    have hns36_1 := NB241_257.out
    have hms36_0 := NB257_240.out
    have hms36_1 := NB257_241.out
    have hs37 : w34.cell? ⟨gb257, 2, none⟩ = some (.int .i64 0) := (blk_cell BK257.out 2).trans rfl
    have hfs37 := blk_frozen BK257.out 2
    have hns37_0 := NB240_257.out
    have hns37_1 := NB241_257.out
    have hms37_0 := NB257_240.out
    have hms37_1 := NB257_241.out
    have hs39 : w34.cell? ⟨gb257, 3, none⟩ = some (.slice none 0 0) := (blk_cell BK257.out 3).trans rfl
    have hfs39 := blk_frozen BK257.out 3
    have hns39_0 := NB240_257.out
    have hns39_1 := NB241_257.out
    have hms39_0 := NB257_240.out
    have hms39_1 := NB257_241.out
    refine skip_ (w1 := ?_) (by rfl) rfl ?_ ?_
    rotate_left
    ·
     go_simp
     rfl
    refine hK.out _ _ ⟨((cell_far (p := ⟨gb257, _, none⟩) NB240_257.out _).trans (((cell_far (p := ⟨gb257, _, none⟩) NB240_257.out _).trans (((cell_far (p := ⟨gb257, _, none⟩) NB240_257.out _).trans (((cell_far (p := ⟨gb257, _, none⟩) NB240_257.out _).trans (hHeld.1)))))))), ((cell_far (p := ⟨gb257, _, none⟩) NB240_257.out _).trans (((cell_far (p := ⟨gb257, _, none⟩) NB240_257.out _).trans (((cell_far (p := ⟨gb257, _, none⟩) NB240_257.out _).trans (((cell_far (p := ⟨gb257, _, none⟩) NB240_257.out _).trans (hHeld.2.1)))))))), ((cell_far (p := ⟨gb257, _, none⟩) NB240_257.out _).trans (((cell_far (p := ⟨gb257, _, none⟩) NB240_257.out _).trans (((cell_far (p := ⟨gb257, _, none⟩) NB240_257.out _).trans (((cell_far (p := ⟨gb257, _, none⟩) NB240_257.out _).trans (hHeld.2.2.1)))))))), ((cell_far (p := ⟨gb257, _, none⟩) NB240_257.out _).trans (((cell_far (p := ⟨gb257, _, none⟩) NB240_257.out _).trans (((cell_far (p := ⟨gb257, _, none⟩) NB240_257.out _).trans (((cell_far (p := ⟨gb257, _, none⟩) NB240_257.out _).trans (hHeld.2.2.2.1)))))))), ((cell_far (p := ⟨gb257, _, none⟩) NB241_257.out _).trans (((cell_far (p := ⟨gb257, _, none⟩) NB241_257.out _).trans (((cell_far (p := ⟨gb257, _, none⟩) NB241_257.out _).trans (((cell_far (p := ⟨gb257, _, none⟩) NB241_257.out _).trans (hHeld.2.2.2.2.1)))))))), ((cell_far (p := ⟨gb257, _, none⟩) NB241_257.out _).trans (((cell_far (p := ⟨gb257, _, none⟩) NB241_257.out _).trans (((cell_far (p := ⟨gb257, _, none⟩) NB241_257.out _).trans (((cell_far (p := ⟨gb257, _, none⟩) NB241_257.out _).trans (hHeld.2.2.2.2.2))))))))⟩ (fun hHeld => ?_)
    clear hK K
    refine done_ (by kernel_rfl) ?_
    have hnb40 := NB240_257.out
    have hnc40 := NB257_240.out
    have hcz41_0 : w34.cell? ⟨gb240, 0, none⟩ = some (.int .i64 a0_0) := (blk_cell BK240.out 0).trans rfl
    have hcz41_1 : w34.cell? ⟨gb240, 1, none⟩ = some (.int .i64 a0_1) := (blk_cell BK240.out 1).trans rfl
    have hcz41_2 : w34.cell? ⟨gb240, 2, none⟩ = some (.int .i64 a0_2) := (blk_cell BK240.out 2).trans rfl
    have hcz41_3 : w34.cell? ⟨gb240, 3, none⟩ = some (.slice A0_3 l0_3.length c0_3) := (blk_cell BK240.out 3).trans rfl
    have hfz41_0 := blk_frozen BK240.out 0
    have hfz41_1 := blk_frozen BK240.out 1
    have hfz41_2 := blk_frozen BK240.out 2
    have hfz41_3 := blk_frozen BK240.out 3
    try go_wp2_with (first | ((with_reducible refine gate_callee (f := 10) rfl ?_); refine goesL_ (some 24) rfl rfl Try.func10 (by kernel_rfl) rfl #[.agg #[.int .i64 a0_0, .int .i64 a0_1, .int .i64 a0_2, .slice A0_3 l0_3.length c0_3]] rfl (by (try simp only [List.map_toArray, List.map_cons, List.map_nil]); first | done | rfl | (simp only [List.length_drop, List.length_take]; rfl)) ?_; (with_reducible refine (laws_toWindow.calls k a0_0 a0_1 a0_2 _ _ l0_3 t258 t259 t260 t261 _ ?side1 ?side2 A13.out).mono ?_); (case side1 => exact Kd.C_below HR0_3.out (by repeat (first | (with_reducible first | exact HB.out | apply below_alloc | apply pw_below_drewN | apply below_drew1 | refine below_set ?_ GE240.out | refine below_set ?_ GE241.out | refine below_set ?_ GE257.out) | exact HB.out))); (case side2 => exact HC0_3.out); rintro e w42 ⟨v262, rfl, ho0, hb⟩; refine ⟨_, rfl, ?_⟩; have n0_ := Aside0.mk (Kd.R_elder' (by exact rU_ ((Kd.R_mono (Kd.R_far (p := ⟨gb257, 3, none⟩) (Kd.R_far (p := ⟨gb257, 2, none⟩) (Kd.R_far (p := ⟨gb257, 1, none⟩) (Kd.R_far (p := ⟨gb257, 0, none⟩) (Kd.R_types HO248.out BK257.out (by decide)) (fun _ hk => hk.2) (.int .i64 t251)) (fun _ hk => hk.2) (.int .i64 t252)) (fun _ hk => hk.2) (.int .i64 t253)) (fun _ hk => hk.2) (.slice Ao38 t254.length co38)) (fun _ h_ => h_.1)))) (Kd.R_base ho0) hb); have n1_ := Aside0.mk (Kd.Q_elder' (by exact qU_ ((Kd.Q_mono (Kd.Q_far (p := ⟨gb257, 3, none⟩) (Kd.Q_far (p := ⟨gb257, 2, none⟩) (Kd.Q_far (p := ⟨gb257, 1, none⟩) (Kd.Q_far (p := ⟨gb257, 0, none⟩) (Kd.Q_types HO256.out BK257.out (by decide)) (fun _ hk => hk.2) (.int .i64 t251)) (fun _ hk => hk.2) (.int .i64 t252)) (fun _ hk => hk.2) (.int .i64 t253)) (fun _ hk => hk.2) (.slice Ao38 t254.length co38)) (fun _ h_ => h_.1)))) (Kd.R_base ho0) hb); have n2_ := Aside0.mk (Kd.R_lower (Kd.R_new' (Kd.R_new' ho0 (Kd.R_lt (by exact rU_ ((Kd.R_mono (Kd.R_far (p := ⟨gb257, 3, none⟩) (Kd.R_far (p := ⟨gb257, 2, none⟩) (Kd.R_far (p := ⟨gb257, 1, none⟩) (Kd.R_far (p := ⟨gb257, 0, none⟩) (Kd.R_types HO248.out BK257.out (by decide)) (fun _ hk => hk.2) (.int .i64 t251)) (fun _ hk => hk.2) (.int .i64 t252)) (fun _ hk => hk.2) (.int .i64 t253)) (fun _ hk => hk.2) (.slice Ao38 t254.length co38)) (fun _ h_ => h_.1)))))) (Kd.Q_lt (by exact qU_ ((Kd.Q_mono (Kd.Q_far (p := ⟨gb257, 3, none⟩) (Kd.Q_far (p := ⟨gb257, 2, none⟩) (Kd.Q_far (p := ⟨gb257, 1, none⟩) (Kd.Q_far (p := ⟨gb257, 0, none⟩) (Kd.Q_types HO256.out BK257.out (by decide)) (fun _ hk => hk.2) (.int .i64 t251)) (fun _ hk => hk.2) (.int .i64 t252)) (fun _ hk => hk.2) (.int .i64 t253)) (fun _ hk => hk.2) (.slice Ao38 t254.length co38)) (fun _ h_ => h_.1)))))) (below_size (by repeat (first | (with_reducible first | exact HB.out | apply below_alloc | apply pw_below_drewN | apply below_drew1 | refine below_set ?_ GE240.out | refine below_set ?_ GE241.out | refine below_set ?_ GE257.out) | exact HB.out)))); have n3_ := Aside0.mk (blk_below (g := gb240) (o := .cells #[.int .i64 a0_0, .int .i64 a0_1, .int .i64 a0_2, .slice A0_3 l0_3.length c0_3] 24 (0, 0)) (by (with_reducible repeat (first | refine blk_drewN ?_ _ | refine blk_drew ?_ | refine blk_alloc ?_ _)); refine blk_far ?_ NB240_257.out _; (with_reducible repeat (first | refine blk_drewN ?_ _ | refine blk_drew ?_ | refine blk_alloc ?_ _)); refine blk_far ?_ NB240_257.out _; (with_reducible repeat (first | refine blk_drewN ?_ _ | refine blk_drew ?_ | refine blk_alloc ?_ _)); refine blk_far ?_ NB240_257.out _; (with_reducible repeat (first | refine blk_drewN ?_ _ | refine blk_drew ?_ | refine blk_alloc ?_ _)); refine blk_far ?_ NB240_257.out _; (with_reducible repeat (first | refine blk_drewN ?_ _ | refine blk_drew ?_ | refine blk_alloc ?_ _)); exact BK240.out) hb); have n4_ := Aside0.mk (blk_below (g := gb241) (o := .cells #[.int .i64 a1_0, .int .i64 a1_1] 26 (0, 0)) (by (with_reducible repeat (first | refine blk_drewN ?_ _ | refine blk_drew ?_ | refine blk_alloc ?_ _)); refine blk_far ?_ NB241_257.out _; (with_reducible repeat (first | refine blk_drewN ?_ _ | refine blk_drew ?_ | refine blk_alloc ?_ _)); refine blk_far ?_ NB241_257.out _; (with_reducible repeat (first | refine blk_drewN ?_ _ | refine blk_drew ?_ | refine blk_alloc ?_ _)); refine blk_far ?_ NB241_257.out _; (with_reducible repeat (first | refine blk_drewN ?_ _ | refine blk_drew ?_ | refine blk_alloc ?_ _)); refine blk_far ?_ NB241_257.out _; (with_reducible repeat (first | refine blk_drewN ?_ _ | refine blk_drew ?_ | refine blk_alloc ?_ _)); exact BK241.out) hb); have n5_ := Aside0.mk (blk_below (g := gb257) (o := .cells #[.int .i64 t251, .int .i64 t252, .int .i64 t253, .slice Ao38 t254.length co38] 30 (0, 0)) (by (with_reducible repeat (first | refine blk_drewN ?_ _ | refine blk_drew ?_ | refine blk_alloc ?_ _)); refine blk_put (cs := #[.int .i64 t251, .int .i64 t252, .int .i64 t253, .slice none 0 0]) ?_ 3 _ rfl; (with_reducible repeat (first | refine blk_drewN ?_ _ | refine blk_drew ?_ | refine blk_alloc ?_ _)); refine blk_put (cs := #[.int .i64 t251, .int .i64 t252, .int .i64 0, .slice none 0 0]) ?_ 2 _ rfl; (with_reducible repeat (first | refine blk_drewN ?_ _ | refine blk_drew ?_ | refine blk_alloc ?_ _)); refine blk_put (cs := #[.int .i64 t251, .int .i64 0, .int .i64 0, .slice none 0 0]) ?_ 1 _ rfl; (with_reducible repeat (first | refine blk_drewN ?_ _ | refine blk_drew ?_ | refine blk_alloc ?_ _)); refine blk_put (cs := #[.int .i64 0, .int .i64 0, .int .i64 0, .slice none 0 0]) ?_ 0 _ rfl; (with_reducible repeat (first | refine blk_drewN ?_ _ | refine blk_drew ?_ | refine blk_alloc ?_ _)); exact BK257.out) hb); have n6_ := Aside0.mk (below_step (by repeat (first | (with_reducible first | exact HB.out | apply below_alloc | apply pw_below_drewN | apply below_drew1 | refine below_set ?_ GE240.out | refine below_set ?_ GE241.out | refine below_set ?_ GE257.out) | exact HB.out)) hb); clear HO248; clear HO256; clear BK240; clear BK241; clear BK257; clear HB; have HO248 := n0_; have HO256 := n1_; have HO263 := n2_; have BK240 := n3_; have BK241 := n4_; have BK257 := n5_; have HB := n6_; clear n0_ n1_ n2_ n3_ n4_ n5_ n6_; (try clear hb); (try clear hb2); (try clear hk); (try clear hi); (try clear ho0)) | ((with_reducible refine gate_dst (N := 7) rfl ?_); refine box_event ?hg (N := 7) ?hd (cs := #[.int .i64 0, .int .i64 0, .int .i64 0, .slice none 0 0]) (t := 30) ?hr ?_; (case hd => rfl); (case hg => rfl); (case hr => first | (go_simp; done) | (go_simp; rfl)); intro gb264 hg w43 hbox hb; have n0_ := Aside0.mk (Kd.R_below (by exact rU_ HO248.out) hb); have n1_ := Aside0.mk (Kd.Q_below (by exact qU_ HO256.out) hb); have n2_ := Aside0.mk (Kd.R_below (by exact rU_ HO263.out) hb); have n3_ := Aside0.mk (blk_below (up_ BK240.out) hb); have n4_ := Aside0.mk (blk_below (up_ BK241.out) hb); have n5_ := Aside0.mk (blk_below (up_ BK257.out) hb); have n6_ := Aside0.mk (below_step (by repeat (first | (with_reducible first | exact HB.out | apply below_alloc | apply pw_below_drewN | apply below_drew1 | refine below_set ?_ GE240.out | refine below_set ?_ GE241.out | refine below_set ?_ GE257.out) | exact HB.out)) hb); have n7_ := Aside0.mk (hbox); have n8_ := Aside0.mk ((by rw [hg]; exact (below_size (by repeat (first | (with_reducible first | exact HB.out | apply below_alloc | apply pw_below_drewN | apply below_drew1 | refine below_set ?_ GE240.out | refine below_set ?_ GE241.out | refine below_set ?_ GE257.out) | exact HB.out))) : w.heap.size ≤ gb264)); have n9_ := Aside0.mk ((by rw [hg]; exact (below_size (by repeat (first | (with_reducible first | exact HB.out | apply below_alloc | apply pw_below_drewN | apply below_drew1 | refine below_set ?_ GE240.out | refine below_set ?_ GE241.out | refine below_set ?_ GE257.out) | exact HB.out))) : w.heap.size ≤ gb264)); have n10_ := Aside0.mk ((by rw [hg]; exact Nat.ne_of_lt (blk_lt (up_ BK240.out)) : gb240 ≠ gb264)); have n11_ := Aside0.mk ((by rw [hg]; exact Nat.ne_of_gt (blk_lt (up_ BK240.out)) : gb264 ≠ gb240)); have n12_ := Aside0.mk ((by rw [hg]; exact Nat.ne_of_lt (blk_lt (up_ BK241.out)) : gb241 ≠ gb264)); have n13_ := Aside0.mk ((by rw [hg]; exact Nat.ne_of_gt (blk_lt (up_ BK241.out)) : gb264 ≠ gb241)); have n14_ := Aside0.mk ((by rw [hg]; exact Nat.ne_of_lt (blk_lt (up_ BK257.out)) : gb257 ≠ gb264)); have n15_ := Aside0.mk ((by rw [hg]; exact Nat.ne_of_gt (blk_lt (up_ BK257.out)) : gb264 ≠ gb257)); clear HO248; clear HO256; clear HO263; clear BK240; clear BK241; clear BK257; clear HB; have HO248 := n0_; have HO256 := n1_; have HO263 := n2_; have BK240 := n3_; have BK241 := n4_; have BK257 := n5_; have HB := n6_; have BK264 := n7_; have GW264 := n8_; have GE264 := n9_; have NB240_264 := n10_; have NB264_240 := n11_; have NB241_264 := n12_; have NB264_241 := n13_; have NB257_264 := n14_; have NB264_257 := n15_; clear n0_ n1_ n2_ n3_ n4_ n5_ n6_ n7_ n8_ n9_ n10_ n11_ n12_ n13_ n14_ n15_; clear hb hbox hg; have hnb44 := NB264_240.out; have hnc44 := NB240_264.out; have hnb45 := NB264_241.out; have hnc45 := NB241_264.out; have hnb46 := NB264_257.out; have hnc46 := NB257_264.out; have hcz47_0 : w43.cell? ⟨gb264, 0, none⟩ = some (.int .i64 0) := (blk_cell BK264.out 0).trans rfl; have hcz47_1 : w43.cell? ⟨gb264, 1, none⟩ = some (.int .i64 0) := (blk_cell BK264.out 1).trans rfl; have hcz47_2 : w43.cell? ⟨gb264, 2, none⟩ = some (.int .i64 0) := (blk_cell BK264.out 2).trans rfl; have hcz47_3 : w43.cell? ⟨gb264, 3, none⟩ = some (.slice none 0 0) := (blk_cell BK264.out 3).trans rfl; have hfz47_0 := blk_frozen BK264.out 0; have hfz47_1 := blk_frozen BK264.out 1; have hfz47_2 := blk_frozen BK264.out 2; have hfz47_3 := blk_frozen BK264.out 3; obtain ⟨Ao48, co48, eo48⟩ := Kd.R_slice HO263.out; subst eo48))
    have n0_ : Aside0 (Kd.R k33 33 ((((w43.setCell ⟨gb264, 0, none⟩ (.int .i64 t258)).setCell ⟨gb264, 1, none⟩ (.int .i64 t259)).setCell ⟨gb264, 2, none⟩ (.int .i64 t260)).setCell ⟨gb264, 3, none⟩ (.slice Ao48 t261.length co48)) w.heap.size (fun k_ => some k_ ≠ (.slice Ao38 t254.length co38 : Value).ownBlock ∧ some k_ ≠ (.slice Ao48 t261.length co48 : Value).ownBlock) v247 t246) := ⟨by (with_reducible repeat (first | apply Kd.R_alloc | apply Kd.R_drewN | apply Kd.R_drew)); exact Kd.R_mono (Kd.R_far (p := ⟨gb264, 3, none⟩) (Kd.R_far (p := ⟨gb264, 2, none⟩) (Kd.R_far (p := ⟨gb264, 1, none⟩) (Kd.R_far (p := ⟨gb264, 0, none⟩) (Kd.R_types HO248.out BK264.out (by decide)) (fun _ hk => hk.2) (.int .i64 t258)) (fun _ hk => hk.2) (.int .i64 t259)) (fun _ hk => hk.2) (.int .i64 t260)) (fun _ hk => hk.2) (.slice Ao48 t261.length co48)) (fun _ hk => ⟨hk.1.1, hk.1.2⟩)⟩
    have n1_ : Aside0 (Kd.Q k33 33 ((((w43.setCell ⟨gb264, 0, none⟩ (.int .i64 t258)).setCell ⟨gb264, 1, none⟩ (.int .i64 t259)).setCell ⟨gb264, 2, none⟩ (.int .i64 t260)).setCell ⟨gb264, 3, none⟩ (.slice Ao48 t261.length co48)) w.heap.size (fun k_ => some k_ ≠ (v247 : Value).ownBlock ∧ some k_ ≠ (.slice Ao48 t261.length co48 : Value).ownBlock) (.slice Ao38 t254.length co38) t254) := ⟨by (with_reducible repeat (first | apply Kd.Q_alloc | apply Kd.Q_drewN | apply Kd.Q_drew)); exact Kd.Q_mono (Kd.Q_far (p := ⟨gb264, 3, none⟩) (Kd.Q_far (p := ⟨gb264, 2, none⟩) (Kd.Q_far (p := ⟨gb264, 1, none⟩) (Kd.Q_far (p := ⟨gb264, 0, none⟩) (Kd.Q_types HO256.out BK264.out (by decide)) (fun _ hk => hk.2) (.int .i64 t258)) (fun _ hk => hk.2) (.int .i64 t259)) (fun _ hk => hk.2) (.int .i64 t260)) (fun _ hk => hk.2) (.slice Ao48 t261.length co48)) (fun _ hk => ⟨hk.1.1, hk.1.2⟩)⟩
    have n2_ : Aside0 (Kd.R k33 33 ((((w43.setCell ⟨gb264, 0, none⟩ (.int .i64 t258)).setCell ⟨gb264, 1, none⟩ (.int .i64 t259)).setCell ⟨gb264, 2, none⟩ (.int .i64 t260)).setCell ⟨gb264, 3, none⟩ (.slice Ao48 t261.length co48)) w.heap.size (fun k_ => some k_ ≠ (v247 : Value).ownBlock ∧ some k_ ≠ (.slice Ao38 t254.length co38 : Value).ownBlock) (.slice Ao48 t261.length co48) t261) := ⟨by (with_reducible repeat (first | apply Kd.R_alloc | apply Kd.R_drewN | apply Kd.R_drew)); exact Kd.R_mono (Kd.R_far (p := ⟨gb264, 3, none⟩) (Kd.R_far (p := ⟨gb264, 2, none⟩) (Kd.R_far (p := ⟨gb264, 1, none⟩) (Kd.R_far (p := ⟨gb264, 0, none⟩) (Kd.R_types HO263.out BK264.out (by decide)) (fun _ hk => hk.2) (.int .i64 t258)) (fun _ hk => hk.2) (.int .i64 t259)) (fun _ hk => hk.2) (.int .i64 t260)) (fun _ hk => hk.2) (.slice Ao48 t261.length co48)) (fun _ hk => ⟨hk.1.1.2, hk.1.2⟩)⟩
    have n3_ : Aside0 (((((w43.setCell ⟨gb264, 0, none⟩ (.int .i64 t258)).setCell ⟨gb264, 1, none⟩ (.int .i64 t259)).setCell ⟨gb264, 2, none⟩ (.int .i64 t260)).setCell ⟨gb264, 3, none⟩ (.slice Ao48 t261.length co48)).heap[gb240]? = some (.cells #[.int .i64 a0_0, .int .i64 a0_1, .int .i64 a0_2, .slice A0_3 l0_3.length c0_3] 24 (0, 0))) := ⟨by (with_reducible repeat (first | refine blk_drewN ?_ _ | refine blk_drew ?_ | refine blk_alloc ?_ _)); refine blk_far ?_ NB240_264.out _; (with_reducible repeat (first | refine blk_drewN ?_ _ | refine blk_drew ?_ | refine blk_alloc ?_ _)); refine blk_far ?_ NB240_264.out _; (with_reducible repeat (first | refine blk_drewN ?_ _ | refine blk_drew ?_ | refine blk_alloc ?_ _)); refine blk_far ?_ NB240_264.out _; (with_reducible repeat (first | refine blk_drewN ?_ _ | refine blk_drew ?_ | refine blk_alloc ?_ _)); refine blk_far ?_ NB240_264.out _; (with_reducible repeat (first | refine blk_drewN ?_ _ | refine blk_drew ?_ | refine blk_alloc ?_ _)); exact BK240.out⟩
    have n4_ : Aside0 (((((w43.setCell ⟨gb264, 0, none⟩ (.int .i64 t258)).setCell ⟨gb264, 1, none⟩ (.int .i64 t259)).setCell ⟨gb264, 2, none⟩ (.int .i64 t260)).setCell ⟨gb264, 3, none⟩ (.slice Ao48 t261.length co48)).heap[gb241]? = some (.cells #[.int .i64 a1_0, .int .i64 a1_1] 26 (0, 0))) := ⟨by (with_reducible repeat (first | refine blk_drewN ?_ _ | refine blk_drew ?_ | refine blk_alloc ?_ _)); refine blk_far ?_ NB241_264.out _; (with_reducible repeat (first | refine blk_drewN ?_ _ | refine blk_drew ?_ | refine blk_alloc ?_ _)); refine blk_far ?_ NB241_264.out _; (with_reducible repeat (first | refine blk_drewN ?_ _ | refine blk_drew ?_ | refine blk_alloc ?_ _)); refine blk_far ?_ NB241_264.out _; (with_reducible repeat (first | refine blk_drewN ?_ _ | refine blk_drew ?_ | refine blk_alloc ?_ _)); refine blk_far ?_ NB241_264.out _; (with_reducible repeat (first | refine blk_drewN ?_ _ | refine blk_drew ?_ | refine blk_alloc ?_ _)); exact BK241.out⟩
    have n5_ : Aside0 (((((w43.setCell ⟨gb264, 0, none⟩ (.int .i64 t258)).setCell ⟨gb264, 1, none⟩ (.int .i64 t259)).setCell ⟨gb264, 2, none⟩ (.int .i64 t260)).setCell ⟨gb264, 3, none⟩ (.slice Ao48 t261.length co48)).heap[gb257]? = some (.cells #[.int .i64 t251, .int .i64 t252, .int .i64 t253, .slice Ao38 t254.length co38] 30 (0, 0))) := ⟨by (with_reducible repeat (first | refine blk_drewN ?_ _ | refine blk_drew ?_ | refine blk_alloc ?_ _)); refine blk_far ?_ NB257_264.out _; (with_reducible repeat (first | refine blk_drewN ?_ _ | refine blk_drew ?_ | refine blk_alloc ?_ _)); refine blk_far ?_ NB257_264.out _; (with_reducible repeat (first | refine blk_drewN ?_ _ | refine blk_drew ?_ | refine blk_alloc ?_ _)); refine blk_far ?_ NB257_264.out _; (with_reducible repeat (first | refine blk_drewN ?_ _ | refine blk_drew ?_ | refine blk_alloc ?_ _)); refine blk_far ?_ NB257_264.out _; (with_reducible repeat (first | refine blk_drewN ?_ _ | refine blk_drew ?_ | refine blk_alloc ?_ _)); exact BK257.out⟩
    have n6_ : Aside0 (((((w43.setCell ⟨gb264, 0, none⟩ (.int .i64 t258)).setCell ⟨gb264, 1, none⟩ (.int .i64 t259)).setCell ⟨gb264, 2, none⟩ (.int .i64 t260)).setCell ⟨gb264, 3, none⟩ (.slice Ao48 t261.length co48)).heap[gb264]? = some (.cells #[.int .i64 t258, .int .i64 t259, .int .i64 t260, .slice Ao48 t261.length co48] 30 (0, 0))) := ⟨by (with_reducible repeat (first | refine blk_drewN ?_ _ | refine blk_drew ?_ | refine blk_alloc ?_ _)); refine blk_put (cs := #[.int .i64 t258, .int .i64 t259, .int .i64 t260, .slice none 0 0]) ?_ 3 _ rfl; (with_reducible repeat (first | refine blk_drewN ?_ _ | refine blk_drew ?_ | refine blk_alloc ?_ _)); refine blk_put (cs := #[.int .i64 t258, .int .i64 t259, .int .i64 0, .slice none 0 0]) ?_ 2 _ rfl; (with_reducible repeat (first | refine blk_drewN ?_ _ | refine blk_drew ?_ | refine blk_alloc ?_ _)); refine blk_put (cs := #[.int .i64 t258, .int .i64 0, .int .i64 0, .slice none 0 0]) ?_ 1 _ rfl; (with_reducible repeat (first | refine blk_drewN ?_ _ | refine blk_drew ?_ | refine blk_alloc ?_ _)); refine blk_put (cs := #[.int .i64 0, .int .i64 0, .int .i64 0, .slice none 0 0]) ?_ 0 _ rfl; (with_reducible repeat (first | refine blk_drewN ?_ _ | refine blk_drew ?_ | refine blk_alloc ?_ _)); exact BK264.out⟩
    have n7_ : Aside0 (Below w.heap.size w ((((w43.setCell ⟨gb264, 0, none⟩ (.int .i64 t258)).setCell ⟨gb264, 1, none⟩ (.int .i64 t259)).setCell ⟨gb264, 2, none⟩ (.int .i64 t260)).setCell ⟨gb264, 3, none⟩ (.slice Ao48 t261.length co48))) := ⟨by repeat (first | (with_reducible first | exact HB.out | apply below_alloc | apply pw_below_drewN | apply below_drew1 | refine below_set ?_ GE240.out | refine below_set ?_ GE241.out | refine below_set ?_ GE257.out | refine below_set ?_ GE264.out) | exact HB.out)⟩
    (try clear HO248)
    (try clear HO256)
    (try clear HO263)
    (try clear BK240)
    (try clear BK241)
    (try clear BK257)
    (try clear BK264)
    (try clear HB)
    generalize ((((w43.setCell ⟨gb264, 0, none⟩ (.int .i64 t258)).setCell ⟨gb264, 1, none⟩ (.int .i64 t259)).setCell ⟨gb264, 2, none⟩ (.int .i64 t260)).setCell ⟨gb264, 3, none⟩ (.slice Ao48 t261.length co48)) = w49 at n0_ n1_ n2_ n3_ n4_ n5_ n6_ n7_ ⊢
    have HO248 := n0_
    have HO256 := n1_
    have HO263 := n2_
    have BK240 := n3_
    have BK241 := n4_
    have BK257 := n5_
    have BK264 := n6_
    have HB := n7_
    clear n0_ n1_ n2_ n3_ n4_ n5_ n6_ n7_
    have n0_ := Aside0.mk (Kd.R_drew HO248.out)
    have n1_ := Aside0.mk (Kd.Q_drew HO256.out)
    have n2_ := Aside0.mk (Kd.R_drew HO263.out)
    have n3_ := Aside0.mk (blk_drew BK240.out)
    have n4_ := Aside0.mk (blk_drew BK241.out)
    have n5_ := Aside0.mk (blk_drew BK257.out)
    have n6_ := Aside0.mk (blk_drew BK264.out)
    have n7_ := Aside0.mk (below_drew1 HB.out)
    clear HO248
    clear HO256
    clear HO263
    clear BK240
    clear BK241
    clear BK257
    clear BK264
    clear HB
    have HO248 := n0_
    have HO256 := n1_
    have HO263 := n2_
    have BK240 := n3_
    have BK241 := n4_
    have BK257 := n5_
    have BK264 := n6_
    have HB := n7_
    clear n0_ n1_ n2_ n3_ n4_ n5_ n6_ n7_
    refine start_ (n := 6) (S := fun w' => w'.cell? ⟨gb264, 0, none⟩ = some (.int .i64 t258) ∧ w'.cell? ⟨gb264, 1, none⟩ = some (.int .i64 t259) ∧ w'.cell? ⟨gb264, 2, none⟩ = some (.int .i64 t260) ∧ w'.cell? ⟨gb264, 3, none⟩ = some (.slice Ao48 t261.length co48) ∧ w'.cell? ⟨gb241, 0, none⟩ = some (.int .i64 a1_0) ∧ w'.cell? ⟨gb241, 1, none⟩ = some (.int .i64 a1_1)) (ds := []) #[false, false, false, false, false, false] (by kernel_rfl) rfl rfl ⟨(blk_cell BK264.out 0).trans rfl, (blk_cell BK264.out 1).trans rfl, (blk_cell BK264.out 2).trans rfl, (blk_cell BK264.out 3).trans rfl, (blk_cell BK241.out 0).trans rfl, (blk_cell BK241.out 1).trans rfl⟩ (fun hHeld => ?_)
    generalize w49.drew = w50 at HO248 HO256 HO263 BK240 BK241 BK257 BK264 HB hHeld ⊢
    refine take_ (i := 0) (N := some 25) (v := ?_) (a' := ?_) #[true, false, false, false, false, false] rfl rfl (by kernel_rfl) (fun _ _ _ h => h) (Or.inl ⟨by rfl, ?_⟩) hHeld ?_ ?_; rotate_left; (rintro w' ⟨s0, s1, s2, s3, s4, s5⟩; go_simp; with_reducible rfl); rotate_left; (simp only [Act.put, List.setIfInBounds_toArray, List.set_cons_zero, List.set_cons_succ, i64_w, i32_w]; rfl)
    refine take_ (i := 1) (N := some 26) (v := ?_) (a' := ?_) #[true, true, false, false, false, false] rfl rfl (by kernel_rfl) (fun _ _ _ h => h) (Or.inl ⟨by rfl, ?_⟩) hHeld ?_ ?_; rotate_left; (rintro w' ⟨s0, s1, s2, s3, s4, s5⟩; go_simp; with_reducible rfl); rotate_left; (simp only [Act.put, List.setIfInBounds_toArray, List.set_cons_zero, List.set_cons_succ, i64_w, i32_w]; rfl)
    refine join_ (σ := Value × Nat) 1 #[true, true, true, true, true, false] (fun s_ => [(27, .agg #[.int .i64 t265, .int .i64 t266]), (28, .agg #[.int .i64 t267, .int .i64 t268, .int .i64 t269, s_.1]), (8, .pointer (some ⟨s_.2, 0, none⟩))]) (fun s_ w' => (w'.cell? ⟨gb264, 0, none⟩ = some (.int .i64 t258) ∧ w'.cell? ⟨gb264, 1, none⟩ = some (.int .i64 t259) ∧ w'.cell? ⟨gb264, 2, none⟩ = some (.int .i64 t260) ∧ w'.cell? ⟨gb264, 3, none⟩ = some (.slice Ao48 t261.length co48) ∧ w'.cell? ⟨gb241, 0, none⟩ = some (.int .i64 a1_0) ∧ w'.cell? ⟨gb241, 1, none⟩ = some (.int .i64 a1_1)) ∧ (Kd.R k33 33 w' w.heap.size (fun k_ => some k_ ≠ (.slice Ao38 t254.length co38 : Value).ownBlock ∧ some k_ ≠ (.slice Ao48 t261.length co48 : Value).ownBlock ∧ some k_ ≠ (s_.1 : Value).ownBlock) v247 t246) ∧ (Kd.Q k33 33 w' w.heap.size (fun k_ => some k_ ≠ (v247 : Value).ownBlock ∧ some k_ ≠ (.slice Ao48 t261.length co48 : Value).ownBlock ∧ some k_ ≠ (s_.1 : Value).ownBlock) (.slice Ao38 t254.length co38) t254) ∧ (Kd.R k33 33 w' w.heap.size (fun k_ => some k_ ≠ (v247 : Value).ownBlock ∧ some k_ ≠ (.slice Ao38 t254.length co38 : Value).ownBlock ∧ some k_ ≠ (s_.1 : Value).ownBlock) (.slice Ao48 t261.length co48) t261) ∧ (Kd.R k33 33 w' w.heap.size (fun k_ => some k_ ≠ (v247 : Value).ownBlock ∧ some k_ ≠ (.slice Ao38 t254.length co38 : Value).ownBlock ∧ some k_ ≠ (.slice Ao48 t261.length co48 : Value).ownBlock) s_.1 t270) ∧ (w'.heap[gb240]? = some (.cells #[.int .i64 a0_0, .int .i64 a0_1, .int .i64 a0_2, .slice A0_3 l0_3.length c0_3] 24 (0, 0))) ∧ (w'.heap[gb241]? = some (.cells #[.int .i64 a1_0, .int .i64 a1_1] 26 (0, 0))) ∧ (w'.heap[gb257]? = some (.cells #[.int .i64 t251, .int .i64 t252, .int .i64 t253, .slice Ao38 t254.length co38] 30 (0, 0))) ∧ (w'.heap[gb264]? = some (.cells #[.int .i64 t258, .int .i64 t259, .int .i64 t260, .slice Ao48 t261.length co48] 30 (0, 0))) ∧ (w'.heap[s_.2]? = some (.cells #[.int .i64 0, .int .i64 0, .int .i64 0, .slice none 0 0] 30 (0, 0))) ∧ (w.heap.size ≤ s_.2) ∧ (w.heap.size ≤ s_.2) ∧ (gb240 ≠ s_.2) ∧ (s_.2 ≠ gb240) ∧ (gb241 ≠ s_.2) ∧ (s_.2 ≠ gb241) ∧ (gb257 ≠ s_.2) ∧ (s_.2 ≠ gb257) ∧ (gb264 ≠ s_.2) ∧ (s_.2 ≠ gb264) ∧ (Below w.heap.size w w')) ?_ ?_
    rotate_left
    ·
     intro hCont
     refine two_ (i := 2) (j := 4) (Ni := some 27) (Nj := some 8) #[true, true, true, false, false, false] #[true, true, false, false, true, false] rfl rfl rfl rfl (by kernel_rfl) (by decide) (by decide) (fun K hK => ?_) (fun K hK => ?_)
     ·
      skip
      refine goes_ Try.func11 (by kernel_rfl) rfl #[.agg #[.int .i64 a1_0, .int .i64 a1_1]] (by rfl) rfl rfl (by (try simp only [List.map_toArray, List.map_cons, List.map_nil]); first | done | rfl | (simp only [List.length_drop, List.length_take]; rfl)) ?_
      with_reducible refine (laws_toMark.calls a1_0 a1_1 t265 t266 _ A14.out).mono ?_
      rintro e w51 ⟨rfl, hb⟩
      refine ⟨_, rfl, ?_⟩
      have n0_ := Aside0.mk (Kd.R_below (by exact rU_ HO248.out) hb)
      have n1_ := Aside0.mk (Kd.Q_below (by exact qU_ HO256.out) hb)
      have n2_ := Aside0.mk (Kd.R_below (by exact rU_ HO263.out) hb)
      have n3_ := Aside0.mk (blk_below (up_ BK240.out) hb)
      have n4_ := Aside0.mk (blk_below (up_ BK241.out) hb)
      have n5_ := Aside0.mk (blk_below (up_ BK257.out) hb)
      have n6_ := Aside0.mk (blk_below (up_ BK264.out) hb)
      have n7_ := Aside0.mk (below_step (by repeat (first | (with_reducible first | exact HB.out | apply below_alloc | apply pw_below_drewN | apply below_drew1 | refine below_set ?_ GE240.out | refine below_set ?_ GE241.out | refine below_set ?_ GE257.out | refine below_set ?_ GE264.out) | exact HB.out)) hb)
      clear HO248
      clear HO256
      clear HO263
      clear BK240
      clear BK241
      clear BK257
      clear BK264
      clear HB
      have HO248 := n0_
      have HO256 := n1_
      have HO263 := n2_
      have BK240 := n3_
      have BK241 := n4_
      have BK257 := n5_
      have BK264 := n6_
      have HB := n7_
      clear n0_ n1_ n2_ n3_ n4_ n5_ n6_ n7_
      (try clear hb)
      (try clear hb2)
      (try clear hk)
      (try clear hi)
      refine hK.out _ _ ⟨(blk_cell BK264.out 0).trans rfl, (blk_cell BK264.out 1).trans rfl, (blk_cell BK264.out 2).trans rfl, (blk_cell BK264.out 3).trans rfl, (blk_cell BK241.out 0).trans rfl, (blk_cell BK241.out 1).trans rfl⟩ (fun hHeld => ?_)
      clear hK K
      refine norm_ (a' := ?_) ?_ ?_
      rotate_left
      ·
       show Act.put _ (some 27) _ = _
       simp only [Act.put, List.setIfInBounds_toArray, List.set_cons_zero, List.set_cons_succ, i64_w, i32_w]
       rfl
      refine two_ (i := 3) (j := 4) (Ni := some 28) (Nj := some 8) #[true, true, true, true, false, false] #[true, true, true, false, true, false] rfl rfl rfl rfl (by kernel_rfl) (by decide) (by decide) (fun K hK => ?_) (fun K hK => ?_)
      ·
       skip
       refine goes_ Try.func12 (by kernel_rfl) rfl #[.agg #[.int .i64 t258, .int .i64 t259, .int .i64 t260, .slice Ao48 t261.length co48], .agg #[.int .i64 t265, .int .i64 t266]] (by rfl) rfl rfl (by (try simp only [List.map_toArray, List.map_cons, List.map_nil]); first | done | rfl | (simp only [List.length_drop, List.length_take]; rfl)) ?_
       with_reducible refine (impl_WindowPut.calls k t258 t259 t260 _ _ t261 t265 t266 t267 t268 t269 t270 _ ?side1 ?side2 A15.out).mono ?_
       (case side1 => repeat (first | exact (Kd.R_reads' HO263.out).2.2 | (with_reducible refine Kd.C_alloc ?_ _) | (with_reducible refine Kd.C_drewN ?_ _) | (with_reducible refine Kd.C_drew ?_)))
       (case side2 => exact (Kd.R_reads' HO263.out).2.1)
       rintro e w52 ⟨v271, rfl, ho0, hb⟩
       refine ⟨_, rfl, ?_⟩
       have n0_ := Aside0.mk (Kd.R_elder' (by exact rU_ HO248.out) (Kd.R_base ho0) hb)
       have n1_ := Aside0.mk (Kd.Q_elder' (by exact qU_ HO256.out) (Kd.R_base ho0) hb)
       have n2_ := Aside0.mk (Kd.R_elder' (by exact rU_ HO263.out) (Kd.R_base ho0) hb)
       have n3_ := Aside0.mk (Kd.R_lower (Kd.R_new' (Kd.R_new' (Kd.R_new' ho0 (Kd.R_lt (by exact rU_ HO248.out))) (Kd.Q_lt (by exact qU_ HO256.out))) (Kd.R_lt (by exact rU_ HO263.out))) (below_size (by repeat (first | (with_reducible first | exact HB.out | apply below_alloc | apply pw_below_drewN | apply below_drew1 | refine below_set ?_ GE240.out | refine below_set ?_ GE241.out | refine below_set ?_ GE257.out | refine below_set ?_ GE264.out) | exact HB.out))))
       have n4_ := Aside0.mk (blk_below (up_ BK240.out) hb)
       have n5_ := Aside0.mk (blk_below (up_ BK241.out) hb)
       have n6_ := Aside0.mk (blk_below (up_ BK257.out) hb)
       have n7_ := Aside0.mk (blk_below (up_ BK264.out) hb)
       have n8_ := Aside0.mk (below_step (by repeat (first | (with_reducible first | exact HB.out | apply below_alloc | apply pw_below_drewN | apply below_drew1 | refine below_set ?_ GE240.out | refine below_set ?_ GE241.out | refine below_set ?_ GE257.out | refine below_set ?_ GE264.out) | exact HB.out)) hb)
       clear HO248
       clear HO256
       clear HO263
       clear BK240
       clear BK241
       clear BK257
       clear BK264
       clear HB
       have HO248 := n0_
       have HO256 := n1_
       have HO263 := n2_
       have HO272 := n3_
       have BK240 := n4_
       have BK241 := n5_
       have BK257 := n6_
       have BK264 := n7_
       have HB := n8_
       clear n0_ n1_ n2_ n3_ n4_ n5_ n6_ n7_ n8_
       (try clear hb)
       (try clear hb2)
       (try clear hk)
       (try clear hi)
       (try clear ho0)
       refine hK.out _ _ ⟨(blk_cell BK264.out 0).trans rfl, (blk_cell BK264.out 1).trans rfl, (blk_cell BK264.out 2).trans rfl, (blk_cell BK264.out 3).trans rfl, (blk_cell BK241.out 0).trans rfl, (blk_cell BK241.out 1).trans rfl⟩ (fun hHeld => ?_)
       clear hK K
       refine norm_ (a' := ?_) ?_ ?_
       rotate_left
       ·
        show Act.put _ (some 28) _ = _
        simp only [Act.put, List.setIfInBounds_toArray, List.set_cons_zero, List.set_cons_succ, i64_w, i32_w]
        rfl
       refine one_ (i := 4) (N := some 8) #[true, true, true, true, true, false] rfl rfl (by kernel_rfl) (by decide) (fun K hK => ?_)
       refine box_step ?hg (N := 8) ?hd (cs := #[.int .i64 0, .int .i64 0, .int .i64 0, .slice none 0 0]) (t := 30) ?hr ?_; (case hd => rfl); (case hg => rfl); (case hr => first | (go_simp; done) | (go_simp; rfl))
       intro gb273 hg w53 hbox hb
       have n0_ := Aside0.mk (Kd.R_below (by exact rU_ HO248.out) hb)
       have n1_ := Aside0.mk (Kd.Q_below (by exact qU_ HO256.out) hb)
       have n2_ := Aside0.mk (Kd.R_below (by exact rU_ HO263.out) hb)
       have n3_ := Aside0.mk (Kd.R_below (by exact rU_ HO272.out) hb)
       have n4_ := Aside0.mk (blk_below (up_ BK240.out) hb)
       have n5_ := Aside0.mk (blk_below (up_ BK241.out) hb)
       have n6_ := Aside0.mk (blk_below (up_ BK257.out) hb)
       have n7_ := Aside0.mk (blk_below (up_ BK264.out) hb)
       have n8_ := Aside0.mk (below_step (by repeat (first | (with_reducible first | exact HB.out | apply below_alloc | apply pw_below_drewN | apply below_drew1 | refine below_set ?_ GE240.out | refine below_set ?_ GE241.out | refine below_set ?_ GE257.out | refine below_set ?_ GE264.out) | exact HB.out)) hb)
       have n9_ := Aside0.mk (hbox)
       have n10_ := Aside0.mk ((by rw [hg]; exact (below_size (by repeat (first | (with_reducible first | exact HB.out | apply below_alloc | apply pw_below_drewN | apply below_drew1 | refine below_set ?_ GE240.out | refine below_set ?_ GE241.out | refine below_set ?_ GE257.out | refine below_set ?_ GE264.out) | exact HB.out))) : w.heap.size ≤ gb273))
       have n11_ := Aside0.mk ((by rw [hg]; exact (below_size (by repeat (first | (with_reducible first | exact HB.out | apply below_alloc | apply pw_below_drewN | apply below_drew1 | refine below_set ?_ GE240.out | refine below_set ?_ GE241.out | refine below_set ?_ GE257.out | refine below_set ?_ GE264.out) | exact HB.out))) : w.heap.size ≤ gb273))
       have n12_ := Aside0.mk ((by rw [hg]; exact Nat.ne_of_lt (blk_lt (up_ BK240.out)) : gb240 ≠ gb273))
       have n13_ := Aside0.mk ((by rw [hg]; exact Nat.ne_of_gt (blk_lt (up_ BK240.out)) : gb273 ≠ gb240))
       have n14_ := Aside0.mk ((by rw [hg]; exact Nat.ne_of_lt (blk_lt (up_ BK241.out)) : gb241 ≠ gb273))
       have n15_ := Aside0.mk ((by rw [hg]; exact Nat.ne_of_gt (blk_lt (up_ BK241.out)) : gb273 ≠ gb241))
       have n16_ := Aside0.mk ((by rw [hg]; exact Nat.ne_of_lt (blk_lt (up_ BK257.out)) : gb257 ≠ gb273))
       have n17_ := Aside0.mk ((by rw [hg]; exact Nat.ne_of_gt (blk_lt (up_ BK257.out)) : gb273 ≠ gb257))
       have n18_ := Aside0.mk ((by rw [hg]; exact Nat.ne_of_lt (blk_lt (up_ BK264.out)) : gb264 ≠ gb273))
       have n19_ := Aside0.mk ((by rw [hg]; exact Nat.ne_of_gt (blk_lt (up_ BK264.out)) : gb273 ≠ gb264))
       clear HO248
       clear HO256
       clear HO263
       clear HO272
       clear BK240
       clear BK241
       clear BK257
       clear BK264
       clear HB
       have HO248 := n0_
       have HO256 := n1_
       have HO263 := n2_
       have HO272 := n3_
       have BK240 := n4_
       have BK241 := n5_
       have BK257 := n6_
       have BK264 := n7_
       have HB := n8_
       have BK273 := n9_
       have GW273 := n10_
       have GE273 := n11_
       have NB240_273 := n12_
       have NB273_240 := n13_
       have NB241_273 := n14_
       have NB273_241 := n15_
       have NB257_273 := n16_
       have NB273_257 := n17_
       have NB264_273 := n18_
       have NB273_264 := n19_
       clear n0_ n1_ n2_ n3_ n4_ n5_ n6_ n7_ n8_ n9_ n10_ n11_ n12_ n13_ n14_ n15_ n16_ n17_ n18_ n19_
       clear hb hbox hg
       refine hK.out _ _ ⟨(blk_cell BK264.out 0).trans rfl, (blk_cell BK264.out 1).trans rfl, (blk_cell BK264.out 2).trans rfl, (blk_cell BK264.out 3).trans rfl, (blk_cell BK241.out 0).trans rfl, (blk_cell BK241.out 1).trans rfl⟩ (fun hHeld => ?_)
       clear hK K
       refine norm_ (a' := ?_) ?_ ?_
       rotate_left
       ·
        show Act.put _ (some 8) _ = _
        simp only [Act.put, List.setIfInBounds_toArray, List.set_cons_zero, List.set_cons_succ, i64_w, i32_w]
        rfl
       exact norm_ (by simp only [putAll, Act.put, List.setIfInBounds_toArray, List.set_cons_zero, List.set_cons_succ]) (hCont (v271, gb273) _ ⟨hHeld, (by exact rU_ (Kd.R_mono HO248.out (fun _ hk => ⟨hk.1.1, ⟨hk.1.2, hk.2⟩⟩))), (by exact qU_ (Kd.Q_mono HO256.out (fun _ hk => ⟨hk.1.1, ⟨hk.1.2, hk.2⟩⟩))), (by exact rU_ (Kd.R_mono HO263.out (fun _ hk => ⟨hk.1.1, ⟨hk.1.2, hk.2⟩⟩))), (by exact rU_ (Kd.R_mono HO272.out (fun _ hk => ⟨hk.1.1.2, ⟨hk.1.2, hk.2⟩⟩))), (by exact up_ BK240.out), (by exact up_ BK241.out), (by exact up_ BK257.out), (by exact up_ BK264.out), (by exact up_ BK273.out), GW273.out, GE273.out, NB240_273.out, NB273_240.out, NB241_273.out, NB273_241.out, NB257_273.out, NB273_257.out, NB264_273.out, NB273_264.out, (by repeat (first | (with_reducible first | exact HB.out | apply below_alloc | apply pw_below_drewN | apply below_drew1 | refine below_set ?_ GE240.out | refine below_set ?_ GE241.out | refine below_set ?_ GE257.out | refine below_set ?_ GE264.out | refine below_set ?_ GE273.out) | exact HB.out))⟩)
      ·
       skip
       refine box_step ?hg (N := 8) ?hd (cs := #[.int .i64 0, .int .i64 0, .int .i64 0, .slice none 0 0]) (t := 30) ?hr ?_; (case hd => rfl); (case hg => rfl); (case hr => first | (go_simp; done) | (go_simp; rfl))
       intro gb273 hg w52 hbox hb
       have n0_ := Aside0.mk (Kd.R_below (by exact rU_ HO248.out) hb)
       have n1_ := Aside0.mk (Kd.Q_below (by exact qU_ HO256.out) hb)
       have n2_ := Aside0.mk (Kd.R_below (by exact rU_ HO263.out) hb)
       have n3_ := Aside0.mk (blk_below (up_ BK240.out) hb)
       have n4_ := Aside0.mk (blk_below (up_ BK241.out) hb)
       have n5_ := Aside0.mk (blk_below (up_ BK257.out) hb)
       have n6_ := Aside0.mk (blk_below (up_ BK264.out) hb)
       have n7_ := Aside0.mk (below_step (by repeat (first | (with_reducible first | exact HB.out | apply below_alloc | apply pw_below_drewN | apply below_drew1 | refine below_set ?_ GE240.out | refine below_set ?_ GE241.out | refine below_set ?_ GE257.out | refine below_set ?_ GE264.out) | exact HB.out)) hb)
       have n8_ := Aside0.mk (hbox)
       have n9_ := Aside0.mk ((by rw [hg]; exact (below_size (by repeat (first | (with_reducible first | exact HB.out | apply below_alloc | apply pw_below_drewN | apply below_drew1 | refine below_set ?_ GE240.out | refine below_set ?_ GE241.out | refine below_set ?_ GE257.out | refine below_set ?_ GE264.out) | exact HB.out))) : w.heap.size ≤ gb273))
       have n10_ := Aside0.mk ((by rw [hg]; exact (below_size (by repeat (first | (with_reducible first | exact HB.out | apply below_alloc | apply pw_below_drewN | apply below_drew1 | refine below_set ?_ GE240.out | refine below_set ?_ GE241.out | refine below_set ?_ GE257.out | refine below_set ?_ GE264.out) | exact HB.out))) : w.heap.size ≤ gb273))
       have n11_ := Aside0.mk ((by rw [hg]; exact Nat.ne_of_lt (blk_lt (up_ BK240.out)) : gb240 ≠ gb273))
       have n12_ := Aside0.mk ((by rw [hg]; exact Nat.ne_of_gt (blk_lt (up_ BK240.out)) : gb273 ≠ gb240))
       have n13_ := Aside0.mk ((by rw [hg]; exact Nat.ne_of_lt (blk_lt (up_ BK241.out)) : gb241 ≠ gb273))
       have n14_ := Aside0.mk ((by rw [hg]; exact Nat.ne_of_gt (blk_lt (up_ BK241.out)) : gb273 ≠ gb241))
       have n15_ := Aside0.mk ((by rw [hg]; exact Nat.ne_of_lt (blk_lt (up_ BK257.out)) : gb257 ≠ gb273))
       have n16_ := Aside0.mk ((by rw [hg]; exact Nat.ne_of_gt (blk_lt (up_ BK257.out)) : gb273 ≠ gb257))
       have n17_ := Aside0.mk ((by rw [hg]; exact Nat.ne_of_lt (blk_lt (up_ BK264.out)) : gb264 ≠ gb273))
       have n18_ := Aside0.mk ((by rw [hg]; exact Nat.ne_of_gt (blk_lt (up_ BK264.out)) : gb273 ≠ gb264))
       clear HO248
       clear HO256
       clear HO263
       clear BK240
       clear BK241
       clear BK257
       clear BK264
       clear HB
       have HO248 := n0_
       have HO256 := n1_
       have HO263 := n2_
       have BK240 := n3_
       have BK241 := n4_
       have BK257 := n5_
       have BK264 := n6_
       have HB := n7_
       have BK273 := n8_
       have GW273 := n9_
       have GE273 := n10_
       have NB240_273 := n11_
       have NB273_240 := n12_
       have NB241_273 := n13_
       have NB273_241 := n14_
       have NB257_273 := n15_
       have NB273_257 := n16_
       have NB264_273 := n17_
       have NB273_264 := n18_
       clear n0_ n1_ n2_ n3_ n4_ n5_ n6_ n7_ n8_ n9_ n10_ n11_ n12_ n13_ n14_ n15_ n16_ n17_ n18_
       clear hb hbox hg
       refine hK.out _ _ ⟨(blk_cell BK264.out 0).trans rfl, (blk_cell BK264.out 1).trans rfl, (blk_cell BK264.out 2).trans rfl, (blk_cell BK264.out 3).trans rfl, (blk_cell BK241.out 0).trans rfl, (blk_cell BK241.out 1).trans rfl⟩ (fun hHeld => ?_)
       clear hK K
       refine norm_ (a' := ?_) ?_ ?_
       rotate_left
       ·
        show Act.put _ (some 8) _ = _
        simp only [Act.put, List.setIfInBounds_toArray, List.set_cons_zero, List.set_cons_succ, i64_w, i32_w]
        rfl
       refine one_ (i := 3) (N := some 28) #[true, true, true, true, true, false] rfl rfl (by kernel_rfl) (by decide) (fun K hK => ?_)
       refine goes_ Try.func12 (by kernel_rfl) rfl #[.agg #[.int .i64 t258, .int .i64 t259, .int .i64 t260, .slice Ao48 t261.length co48], .agg #[.int .i64 t265, .int .i64 t266]] (by rfl) rfl rfl (by (try simp only [List.map_toArray, List.map_cons, List.map_nil]); first | done | rfl | (simp only [List.length_drop, List.length_take]; rfl)) ?_
       with_reducible refine (impl_WindowPut.calls k t258 t259 t260 _ _ t261 t265 t266 t267 t268 t269 t270 _ ?side1 ?side2 A15.out).mono ?_
       (case side1 => repeat (first | exact (Kd.R_reads' HO263.out).2.2 | (with_reducible refine Kd.C_alloc ?_ _) | (with_reducible refine Kd.C_drewN ?_ _) | (with_reducible refine Kd.C_drew ?_)))
       (case side2 => exact (Kd.R_reads' HO263.out).2.1)
       rintro e w53 ⟨v271, rfl, ho0, hb⟩
       refine ⟨_, rfl, ?_⟩
       have n0_ := Aside0.mk (Kd.R_elder' (by exact rU_ HO248.out) (Kd.R_base ho0) hb)
       have n1_ := Aside0.mk (Kd.Q_elder' (by exact qU_ HO256.out) (Kd.R_base ho0) hb)
       have n2_ := Aside0.mk (Kd.R_elder' (by exact rU_ HO263.out) (Kd.R_base ho0) hb)
       have n3_ := Aside0.mk (Kd.R_lower (Kd.R_new' (Kd.R_new' (Kd.R_new' ho0 (Kd.R_lt (by exact rU_ HO248.out))) (Kd.Q_lt (by exact qU_ HO256.out))) (Kd.R_lt (by exact rU_ HO263.out))) (below_size (by repeat (first | (with_reducible first | exact HB.out | apply below_alloc | apply pw_below_drewN | apply below_drew1 | refine below_set ?_ GE240.out | refine below_set ?_ GE241.out | refine below_set ?_ GE257.out | refine below_set ?_ GE264.out | refine below_set ?_ GE273.out) | exact HB.out))))
       have n4_ := Aside0.mk (blk_below (up_ BK240.out) hb)
       have n5_ := Aside0.mk (blk_below (up_ BK241.out) hb)
       have n6_ := Aside0.mk (blk_below (up_ BK257.out) hb)
       have n7_ := Aside0.mk (blk_below (up_ BK264.out) hb)
       have n8_ := Aside0.mk (blk_below (up_ BK273.out) hb)
       have n9_ := Aside0.mk (below_step (by repeat (first | (with_reducible first | exact HB.out | apply below_alloc | apply pw_below_drewN | apply below_drew1 | refine below_set ?_ GE240.out | refine below_set ?_ GE241.out | refine below_set ?_ GE257.out | refine below_set ?_ GE264.out | refine below_set ?_ GE273.out) | exact HB.out)) hb)
       clear HO248
       clear HO256
       clear HO263
       clear BK240
       clear BK241
       clear BK257
       clear BK264
       clear BK273
       clear HB
       have HO248 := n0_
       have HO256 := n1_
       have HO263 := n2_
       have HO272 := n3_
       have BK240 := n4_
       have BK241 := n5_
       have BK257 := n6_
       have BK264 := n7_
       have BK273 := n8_
       have HB := n9_
       clear n0_ n1_ n2_ n3_ n4_ n5_ n6_ n7_ n8_ n9_
       (try clear hb)
       (try clear hb2)
       (try clear hk)
       (try clear hi)
       (try clear ho0)
       refine hK.out _ _ ⟨(blk_cell BK264.out 0).trans rfl, (blk_cell BK264.out 1).trans rfl, (blk_cell BK264.out 2).trans rfl, (blk_cell BK264.out 3).trans rfl, (blk_cell BK241.out 0).trans rfl, (blk_cell BK241.out 1).trans rfl⟩ (fun hHeld => ?_)
       clear hK K
       refine norm_ (a' := ?_) ?_ ?_
       rotate_left
       ·
        show Act.put _ (some 28) _ = _
        simp only [Act.put, List.setIfInBounds_toArray, List.set_cons_zero, List.set_cons_succ, i64_w, i32_w]
        rfl
       exact norm_ (by simp only [putAll, Act.put, List.setIfInBounds_toArray, List.set_cons_zero, List.set_cons_succ]) (hCont (v271, gb273) _ ⟨hHeld, (by exact rU_ (Kd.R_mono HO248.out (fun _ hk => ⟨hk.1.1, ⟨hk.1.2, hk.2⟩⟩))), (by exact qU_ (Kd.Q_mono HO256.out (fun _ hk => ⟨hk.1.1, ⟨hk.1.2, hk.2⟩⟩))), (by exact rU_ (Kd.R_mono HO263.out (fun _ hk => ⟨hk.1.1, ⟨hk.1.2, hk.2⟩⟩))), (by exact rU_ (Kd.R_mono HO272.out (fun _ hk => ⟨hk.1.1.2, ⟨hk.1.2, hk.2⟩⟩))), (by exact up_ BK240.out), (by exact up_ BK241.out), (by exact up_ BK257.out), (by exact up_ BK264.out), (by exact up_ BK273.out), GW273.out, GE273.out, NB240_273.out, NB273_240.out, NB241_273.out, NB273_241.out, NB257_273.out, NB273_257.out, NB264_273.out, NB273_264.out, (by repeat (first | (with_reducible first | exact HB.out | apply below_alloc | apply pw_below_drewN | apply below_drew1 | refine below_set ?_ GE240.out | refine below_set ?_ GE241.out | refine below_set ?_ GE257.out | refine below_set ?_ GE264.out | refine below_set ?_ GE273.out) | exact HB.out))⟩)
     ·
      skip
      refine box_step ?hg (N := 8) ?hd (cs := #[.int .i64 0, .int .i64 0, .int .i64 0, .slice none 0 0]) (t := 30) ?hr ?_; (case hd => rfl); (case hg => rfl); (case hr => first | (go_simp; done) | (go_simp; rfl))
      intro gb273 hg w51 hbox hb
      have n0_ := Aside0.mk (Kd.R_below (by exact rU_ HO248.out) hb)
      have n1_ := Aside0.mk (Kd.Q_below (by exact qU_ HO256.out) hb)
      have n2_ := Aside0.mk (Kd.R_below (by exact rU_ HO263.out) hb)
      have n3_ := Aside0.mk (blk_below (up_ BK240.out) hb)
      have n4_ := Aside0.mk (blk_below (up_ BK241.out) hb)
      have n5_ := Aside0.mk (blk_below (up_ BK257.out) hb)
      have n6_ := Aside0.mk (blk_below (up_ BK264.out) hb)
      have n7_ := Aside0.mk (below_step (by repeat (first | (with_reducible first | exact HB.out | apply below_alloc | apply pw_below_drewN | apply below_drew1 | refine below_set ?_ GE240.out | refine below_set ?_ GE241.out | refine below_set ?_ GE257.out | refine below_set ?_ GE264.out) | exact HB.out)) hb)
      have n8_ := Aside0.mk (hbox)
      have n9_ := Aside0.mk ((by rw [hg]; exact (below_size (by repeat (first | (with_reducible first | exact HB.out | apply below_alloc | apply pw_below_drewN | apply below_drew1 | refine below_set ?_ GE240.out | refine below_set ?_ GE241.out | refine below_set ?_ GE257.out | refine below_set ?_ GE264.out) | exact HB.out))) : w.heap.size ≤ gb273))
      have n10_ := Aside0.mk ((by rw [hg]; exact (below_size (by repeat (first | (with_reducible first | exact HB.out | apply below_alloc | apply pw_below_drewN | apply below_drew1 | refine below_set ?_ GE240.out | refine below_set ?_ GE241.out | refine below_set ?_ GE257.out | refine below_set ?_ GE264.out) | exact HB.out))) : w.heap.size ≤ gb273))
      have n11_ := Aside0.mk ((by rw [hg]; exact Nat.ne_of_lt (blk_lt (up_ BK240.out)) : gb240 ≠ gb273))
      have n12_ := Aside0.mk ((by rw [hg]; exact Nat.ne_of_gt (blk_lt (up_ BK240.out)) : gb273 ≠ gb240))
      have n13_ := Aside0.mk ((by rw [hg]; exact Nat.ne_of_lt (blk_lt (up_ BK241.out)) : gb241 ≠ gb273))
      have n14_ := Aside0.mk ((by rw [hg]; exact Nat.ne_of_gt (blk_lt (up_ BK241.out)) : gb273 ≠ gb241))
      have n15_ := Aside0.mk ((by rw [hg]; exact Nat.ne_of_lt (blk_lt (up_ BK257.out)) : gb257 ≠ gb273))
      have n16_ := Aside0.mk ((by rw [hg]; exact Nat.ne_of_gt (blk_lt (up_ BK257.out)) : gb273 ≠ gb257))
      have n17_ := Aside0.mk ((by rw [hg]; exact Nat.ne_of_lt (blk_lt (up_ BK264.out)) : gb264 ≠ gb273))
      have n18_ := Aside0.mk ((by rw [hg]; exact Nat.ne_of_gt (blk_lt (up_ BK264.out)) : gb273 ≠ gb264))
      clear HO248
      clear HO256
      clear HO263
      clear BK240
      clear BK241
      clear BK257
      clear BK264
      clear HB
      have HO248 := n0_
      have HO256 := n1_
      have HO263 := n2_
      have BK240 := n3_
      have BK241 := n4_
      have BK257 := n5_
      have BK264 := n6_
      have HB := n7_
      have BK273 := n8_
      have GW273 := n9_
      have GE273 := n10_
      have NB240_273 := n11_
      have NB273_240 := n12_
      have NB241_273 := n13_
      have NB273_241 := n14_
      have NB257_273 := n15_
      have NB273_257 := n16_
      have NB264_273 := n17_
      have NB273_264 := n18_
      clear n0_ n1_ n2_ n3_ n4_ n5_ n6_ n7_ n8_ n9_ n10_ n11_ n12_ n13_ n14_ n15_ n16_ n17_ n18_
      clear hb hbox hg
      refine hK.out _ _ ⟨(blk_cell BK264.out 0).trans rfl, (blk_cell BK264.out 1).trans rfl, (blk_cell BK264.out 2).trans rfl, (blk_cell BK264.out 3).trans rfl, (blk_cell BK241.out 0).trans rfl, (blk_cell BK241.out 1).trans rfl⟩ (fun hHeld => ?_)
      clear hK K
      refine norm_ (a' := ?_) ?_ ?_
      rotate_left
      ·
       show Act.put _ (some 8) _ = _
       simp only [Act.put, List.setIfInBounds_toArray, List.set_cons_zero, List.set_cons_succ, i64_w, i32_w]
       rfl
      refine one_ (i := 2) (N := some 27) #[true, true, true, false, true, false] rfl rfl (by kernel_rfl) (by decide) (fun K hK => ?_)
      refine goes_ Try.func11 (by kernel_rfl) rfl #[.agg #[.int .i64 a1_0, .int .i64 a1_1]] (by rfl) rfl rfl (by (try simp only [List.map_toArray, List.map_cons, List.map_nil]); first | done | rfl | (simp only [List.length_drop, List.length_take]; rfl)) ?_
      with_reducible refine (laws_toMark.calls a1_0 a1_1 t265 t266 _ A14.out).mono ?_
      rintro e w52 ⟨rfl, hb⟩
      refine ⟨_, rfl, ?_⟩
      have n0_ := Aside0.mk (Kd.R_below (by exact rU_ HO248.out) hb)
      have n1_ := Aside0.mk (Kd.Q_below (by exact qU_ HO256.out) hb)
      have n2_ := Aside0.mk (Kd.R_below (by exact rU_ HO263.out) hb)
      have n3_ := Aside0.mk (blk_below (up_ BK240.out) hb)
      have n4_ := Aside0.mk (blk_below (up_ BK241.out) hb)
      have n5_ := Aside0.mk (blk_below (up_ BK257.out) hb)
      have n6_ := Aside0.mk (blk_below (up_ BK264.out) hb)
      have n7_ := Aside0.mk (blk_below (up_ BK273.out) hb)
      have n8_ := Aside0.mk (below_step (by repeat (first | (with_reducible first | exact HB.out | apply below_alloc | apply pw_below_drewN | apply below_drew1 | refine below_set ?_ GE240.out | refine below_set ?_ GE241.out | refine below_set ?_ GE257.out | refine below_set ?_ GE264.out | refine below_set ?_ GE273.out) | exact HB.out)) hb)
      clear HO248
      clear HO256
      clear HO263
      clear BK240
      clear BK241
      clear BK257
      clear BK264
      clear BK273
      clear HB
      have HO248 := n0_
      have HO256 := n1_
      have HO263 := n2_
      have BK240 := n3_
      have BK241 := n4_
      have BK257 := n5_
      have BK264 := n6_
      have BK273 := n7_
      have HB := n8_
      clear n0_ n1_ n2_ n3_ n4_ n5_ n6_ n7_ n8_
      (try clear hb)
      (try clear hb2)
      (try clear hk)
      (try clear hi)
      refine hK.out _ _ ⟨(blk_cell BK264.out 0).trans rfl, (blk_cell BK264.out 1).trans rfl, (blk_cell BK264.out 2).trans rfl, (blk_cell BK264.out 3).trans rfl, (blk_cell BK241.out 0).trans rfl, (blk_cell BK241.out 1).trans rfl⟩ (fun hHeld => ?_)
      clear hK K
      refine norm_ (a' := ?_) ?_ ?_
      rotate_left
      ·
       show Act.put _ (some 27) _ = _
       simp only [Act.put, List.setIfInBounds_toArray, List.set_cons_zero, List.set_cons_succ, i64_w, i32_w]
       rfl
      refine one_ (i := 3) (N := some 28) #[true, true, true, true, true, false] rfl rfl (by kernel_rfl) (by decide) (fun K hK => ?_)
      refine goes_ Try.func12 (by kernel_rfl) rfl #[.agg #[.int .i64 t258, .int .i64 t259, .int .i64 t260, .slice Ao48 t261.length co48], .agg #[.int .i64 t265, .int .i64 t266]] (by rfl) rfl rfl (by (try simp only [List.map_toArray, List.map_cons, List.map_nil]); first | done | rfl | (simp only [List.length_drop, List.length_take]; rfl)) ?_
      with_reducible refine (impl_WindowPut.calls k t258 t259 t260 _ _ t261 t265 t266 t267 t268 t269 t270 _ ?side1 ?side2 A15.out).mono ?_
      (case side1 => repeat (first | exact (Kd.R_reads' HO263.out).2.2 | (with_reducible refine Kd.C_alloc ?_ _) | (with_reducible refine Kd.C_drewN ?_ _) | (with_reducible refine Kd.C_drew ?_)))
      (case side2 => exact (Kd.R_reads' HO263.out).2.1)
      rintro e w53 ⟨v271, rfl, ho0, hb⟩
      refine ⟨_, rfl, ?_⟩
      have n0_ := Aside0.mk (Kd.R_elder' (by exact rU_ HO248.out) (Kd.R_base ho0) hb)
      have n1_ := Aside0.mk (Kd.Q_elder' (by exact qU_ HO256.out) (Kd.R_base ho0) hb)
      have n2_ := Aside0.mk (Kd.R_elder' (by exact rU_ HO263.out) (Kd.R_base ho0) hb)
      have n3_ := Aside0.mk (Kd.R_lower (Kd.R_new' (Kd.R_new' (Kd.R_new' ho0 (Kd.R_lt (by exact rU_ HO248.out))) (Kd.Q_lt (by exact qU_ HO256.out))) (Kd.R_lt (by exact rU_ HO263.out))) (below_size (by repeat (first | (with_reducible first | exact HB.out | apply below_alloc | apply pw_below_drewN | apply below_drew1 | refine below_set ?_ GE240.out | refine below_set ?_ GE241.out | refine below_set ?_ GE257.out | refine below_set ?_ GE264.out | refine below_set ?_ GE273.out) | exact HB.out))))
      have n4_ := Aside0.mk (blk_below (up_ BK240.out) hb)
      have n5_ := Aside0.mk (blk_below (up_ BK241.out) hb)
      have n6_ := Aside0.mk (blk_below (up_ BK257.out) hb)
      have n7_ := Aside0.mk (blk_below (up_ BK264.out) hb)
      have n8_ := Aside0.mk (blk_below (up_ BK273.out) hb)
      have n9_ := Aside0.mk (below_step (by repeat (first | (with_reducible first | exact HB.out | apply below_alloc | apply pw_below_drewN | apply below_drew1 | refine below_set ?_ GE240.out | refine below_set ?_ GE241.out | refine below_set ?_ GE257.out | refine below_set ?_ GE264.out | refine below_set ?_ GE273.out) | exact HB.out)) hb)
      clear HO248
      clear HO256
      clear HO263
      clear BK240
      clear BK241
      clear BK257
      clear BK264
      clear BK273
      clear HB
      have HO248 := n0_
      have HO256 := n1_
      have HO263 := n2_
      have HO272 := n3_
      have BK240 := n4_
      have BK241 := n5_
      have BK257 := n6_
      have BK264 := n7_
      have BK273 := n8_
      have HB := n9_
      clear n0_ n1_ n2_ n3_ n4_ n5_ n6_ n7_ n8_ n9_
      (try clear hb)
      (try clear hb2)
      (try clear hk)
      (try clear hi)
      (try clear ho0)
      refine hK.out _ _ ⟨(blk_cell BK264.out 0).trans rfl, (blk_cell BK264.out 1).trans rfl, (blk_cell BK264.out 2).trans rfl, (blk_cell BK264.out 3).trans rfl, (blk_cell BK241.out 0).trans rfl, (blk_cell BK241.out 1).trans rfl⟩ (fun hHeld => ?_)
      clear hK K
      refine norm_ (a' := ?_) ?_ ?_
      rotate_left
      ·
       show Act.put _ (some 28) _ = _
       simp only [Act.put, List.setIfInBounds_toArray, List.set_cons_zero, List.set_cons_succ, i64_w, i32_w]
       rfl
      exact norm_ (by simp only [putAll, Act.put, List.setIfInBounds_toArray, List.set_cons_zero, List.set_cons_succ]) (hCont (v271, gb273) _ ⟨hHeld, (by exact rU_ (Kd.R_mono HO248.out (fun _ hk => ⟨hk.1.1, ⟨hk.1.2, hk.2⟩⟩))), (by exact qU_ (Kd.Q_mono HO256.out (fun _ hk => ⟨hk.1.1, ⟨hk.1.2, hk.2⟩⟩))), (by exact rU_ (Kd.R_mono HO263.out (fun _ hk => ⟨hk.1.1, ⟨hk.1.2, hk.2⟩⟩))), (by exact rU_ (Kd.R_mono HO272.out (fun _ hk => ⟨hk.1.1.2, ⟨hk.1.2, hk.2⟩⟩))), (by exact up_ BK240.out), (by exact up_ BK241.out), (by exact up_ BK257.out), (by exact up_ BK264.out), (by exact up_ BK273.out), GW273.out, GE273.out, NB240_273.out, NB273_240.out, NB241_273.out, NB273_241.out, NB257_273.out, NB273_257.out, NB264_273.out, NB273_264.out, (by repeat (first | (with_reducible first | exact HB.out | apply below_alloc | apply pw_below_drewN | apply below_drew1 | refine below_set ?_ GE240.out | refine below_set ?_ GE241.out | refine below_set ?_ GE257.out | refine below_set ?_ GE264.out | refine below_set ?_ GE273.out) | exact HB.out))⟩)
    rintro ⟨v271, gb273⟩ w54 ⟨hS_, h0_, h1_, h2_, h3_, h4_, h5_, h6_, h7_, h8_, h9_, h10_, h11_, h12_, h13_, h14_, h15_, h16_, h17_, h18_, h19_⟩
    have n0_ : Aside0 (Kd.R k33 33 w54 w.heap.size (fun k_ => some k_ ≠ (.slice Ao38 t254.length co38 : Value).ownBlock ∧ some k_ ≠ (.slice Ao48 t261.length co48 : Value).ownBlock ∧ some k_ ≠ (v271 : Value).ownBlock) v247 t246) := ⟨h0_⟩
    have n1_ : Aside0 (Kd.Q k33 33 w54 w.heap.size (fun k_ => some k_ ≠ (v247 : Value).ownBlock ∧ some k_ ≠ (.slice Ao48 t261.length co48 : Value).ownBlock ∧ some k_ ≠ (v271 : Value).ownBlock) (.slice Ao38 t254.length co38) t254) := ⟨h1_⟩
    have n2_ : Aside0 (Kd.R k33 33 w54 w.heap.size (fun k_ => some k_ ≠ (v247 : Value).ownBlock ∧ some k_ ≠ (.slice Ao38 t254.length co38 : Value).ownBlock ∧ some k_ ≠ (v271 : Value).ownBlock) (.slice Ao48 t261.length co48) t261) := ⟨h2_⟩
    have n3_ : Aside0 (Kd.R k33 33 w54 w.heap.size (fun k_ => some k_ ≠ (v247 : Value).ownBlock ∧ some k_ ≠ (.slice Ao38 t254.length co38 : Value).ownBlock ∧ some k_ ≠ (.slice Ao48 t261.length co48 : Value).ownBlock) v271 t270) := ⟨h3_⟩
    have n4_ : Aside0 (w54.heap[gb240]? = some (.cells #[.int .i64 a0_0, .int .i64 a0_1, .int .i64 a0_2, .slice A0_3 l0_3.length c0_3] 24 (0, 0))) := ⟨h4_⟩
    have n5_ : Aside0 (w54.heap[gb241]? = some (.cells #[.int .i64 a1_0, .int .i64 a1_1] 26 (0, 0))) := ⟨h5_⟩
    have n6_ : Aside0 (w54.heap[gb257]? = some (.cells #[.int .i64 t251, .int .i64 t252, .int .i64 t253, .slice Ao38 t254.length co38] 30 (0, 0))) := ⟨h6_⟩
    have n7_ : Aside0 (w54.heap[gb264]? = some (.cells #[.int .i64 t258, .int .i64 t259, .int .i64 t260, .slice Ao48 t261.length co48] 30 (0, 0))) := ⟨h7_⟩
    have n8_ : Aside0 (w54.heap[gb273]? = some (.cells #[.int .i64 0, .int .i64 0, .int .i64 0, .slice none 0 0] 30 (0, 0))) := ⟨h8_⟩
    have n9_ : Aside0 (w.heap.size ≤ gb273) := ⟨h9_⟩
    have n10_ : Aside0 (w.heap.size ≤ gb273) := ⟨h10_⟩
    have n11_ : Aside0 (gb240 ≠ gb273) := ⟨h11_⟩
    have n12_ : Aside0 (gb273 ≠ gb240) := ⟨h12_⟩
    have n13_ : Aside0 (gb241 ≠ gb273) := ⟨h13_⟩
    have n14_ : Aside0 (gb273 ≠ gb241) := ⟨h14_⟩
    have n15_ : Aside0 (gb257 ≠ gb273) := ⟨h15_⟩
    have n16_ : Aside0 (gb273 ≠ gb257) := ⟨h16_⟩
    have n17_ : Aside0 (gb264 ≠ gb273) := ⟨h17_⟩
    have n18_ : Aside0 (gb273 ≠ gb264) := ⟨h18_⟩
    have n19_ : Aside0 (Below w.heap.size w w54) := ⟨h19_⟩
    clear HO248
    clear HO256
    clear HO263
    clear BK240
    clear BK241
    clear BK257
    clear BK264
    clear HB
    clear h0_ h1_ h2_ h3_ h4_ h5_ h6_ h7_ h8_ h9_ h10_ h11_ h12_ h13_ h14_ h15_ h16_ h17_ h18_ h19_
    have HO248 := n0_
    have HO256 := n1_
    have HO263 := n2_
    have HO272 := n3_
    have BK240 := n4_
    have BK241 := n5_
    have BK257 := n6_
    have BK264 := n7_
    have BK273 := n8_
    have GW273 := n9_
    have GE273 := n10_
    have NB240_273 := n11_
    have NB273_240 := n12_
    have NB241_273 := n13_
    have NB273_241 := n14_
    have NB257_273 := n15_
    have NB273_257 := n16_
    have NB264_273 := n17_
    have NB273_264 := n18_
    have HB := n19_
    clear n0_ n1_ n2_ n3_ n4_ n5_ n6_ n7_ n8_ n9_ n10_ n11_ n12_ n13_ n14_ n15_ n16_ n17_ n18_ n19_
    have hHeld : w54.cell? ⟨gb264, 0, none⟩ = some (.int .i64 t258) ∧ w54.cell? ⟨gb264, 1, none⟩ = some (.int .i64 t259) ∧ w54.cell? ⟨gb264, 2, none⟩ = some (.int .i64 t260) ∧ w54.cell? ⟨gb264, 3, none⟩ = some (.slice Ao48 t261.length co48) ∧ w54.cell? ⟨gb241, 0, none⟩ = some (.int .i64 a1_0) ∧ w54.cell? ⟨gb241, 1, none⟩ = some (.int .i64 a1_1) := hS_
    obtain ⟨Ao58, co58, eo58⟩ := Kd.R_slice HO272.out
    (first | subst eo58 | (injection eo58 with f1_ f2_ f3_; have f4_ := f1_.symm; have f5_ := f3_.symm; clear f1_ f2_ f3_; subst f4_; subst f5_))
    refine norm_ (a' := ?_) ?_ ?_
    rotate_left
    ·
     simp only [putAll, Act.put, List.setIfInBounds_toArray, List.set_cons_zero, List.set_cons_succ]
     rfl
    refine one_ (i := 5) (N := none) #[true, true, true, true, true, true] rfl rfl (by kernel_rfl) (by decide) (fun K hK => ?_)
    have hs55 : w54.cell? ⟨gb273, 0, none⟩ = some (.int .i64 0) := (blk_cell BK273.out 0).trans rfl
    have hfs55 := blk_frozen BK273.out 0
    have hns55_0 := NB240_273.out
    have hns55_1 := NB241_273.out
    have hns55_2 := NB257_273.out
    have hns55_3 := NB264_273.out
    have hms55_0 := NB273_240.out
    have hms55_1 := NB273_241.out
    have hms55_2 := NB273_257.out
    have hms55_3 := NB273_264.out
    have hs56 : w54.cell? ⟨gb273, 1, none⟩ = some (.int .i64 0) := (blk_cell BK273.out 1).trans rfl
    have hfs56 := blk_frozen BK273.out 1
    have hns56_0 := NB240_273.out
    have hns56_1 := NB241_273.out
    have hns56_2 := NB257_273.out
    have hns56_3 := NB264_273.out
    have hms56_0 := NB273_240.out
    have hms56_1 := NB273_241.out
    have hms56_2 := NB273_257.out
    have hms56_3 := NB273_264.out
    have hs57 : w54.cell? ⟨gb273, 2, none⟩ = some (.int .i64 0) := (blk_cell BK273.out 2).trans rfl
    have hfs57 := blk_frozen BK273.out 2
    have hns57_0 := NB240_273.out
    have hns57_1 := NB241_273.out
    have hns57_2 := NB257_273.out
    have hns57_3 := NB264_273.out
    have hms57_0 := NB273_240.out
    have hms57_1 := NB273_241.out
    have hms57_2 := NB273_257.out
    have hms57_3 := NB273_264.out
    have hs59 : w54.cell? ⟨gb273, 3, none⟩ = some (.slice none 0 0) := (blk_cell BK273.out 3).trans rfl
    have hfs59 := blk_frozen BK273.out 3
    have hns59_0 := NB240_273.out
    have hns59_1 := NB241_273.out
    have hns59_2 := NB257_273.out
    have hns59_3 := NB264_273.out
    have hms59_0 := NB273_240.out
    have hms59_1 := NB273_241.out
    have hms59_2 := NB273_257.out
    have hms59_3 := NB273_264.out
    refine skip_ (w1 := ?_) (by rfl) rfl ?_ ?_
    rotate_left
    ·
     go_simp
     rfl
    refine hK.out _ _ ⟨((cell_far (p := ⟨gb273, _, none⟩) NB264_273.out _).trans (((cell_far (p := ⟨gb273, _, none⟩) NB264_273.out _).trans (((cell_far (p := ⟨gb273, _, none⟩) NB264_273.out _).trans (((cell_far (p := ⟨gb273, _, none⟩) NB264_273.out _).trans (hHeld.1)))))))), ((cell_far (p := ⟨gb273, _, none⟩) NB264_273.out _).trans (((cell_far (p := ⟨gb273, _, none⟩) NB264_273.out _).trans (((cell_far (p := ⟨gb273, _, none⟩) NB264_273.out _).trans (((cell_far (p := ⟨gb273, _, none⟩) NB264_273.out _).trans (hHeld.2.1)))))))), ((cell_far (p := ⟨gb273, _, none⟩) NB264_273.out _).trans (((cell_far (p := ⟨gb273, _, none⟩) NB264_273.out _).trans (((cell_far (p := ⟨gb273, _, none⟩) NB264_273.out _).trans (((cell_far (p := ⟨gb273, _, none⟩) NB264_273.out _).trans (hHeld.2.2.1)))))))), ((cell_far (p := ⟨gb273, _, none⟩) NB264_273.out _).trans (((cell_far (p := ⟨gb273, _, none⟩) NB264_273.out _).trans (((cell_far (p := ⟨gb273, _, none⟩) NB264_273.out _).trans (((cell_far (p := ⟨gb273, _, none⟩) NB264_273.out _).trans (hHeld.2.2.2.1)))))))), ((cell_far (p := ⟨gb273, _, none⟩) NB241_273.out _).trans (((cell_far (p := ⟨gb273, _, none⟩) NB241_273.out _).trans (((cell_far (p := ⟨gb273, _, none⟩) NB241_273.out _).trans (((cell_far (p := ⟨gb273, _, none⟩) NB241_273.out _).trans (hHeld.2.2.2.2.1)))))))), ((cell_far (p := ⟨gb273, _, none⟩) NB241_273.out _).trans (((cell_far (p := ⟨gb273, _, none⟩) NB241_273.out _).trans (((cell_far (p := ⟨gb273, _, none⟩) NB241_273.out _).trans (((cell_far (p := ⟨gb273, _, none⟩) NB241_273.out _).trans (hHeld.2.2.2.2.2))))))))⟩ (fun hHeld => ?_)
    clear hK K
    refine done_ (by kernel_rfl) ?_
    have hnb60 := NB273_240.out
    have hnc60 := NB240_273.out
    have hnb61 := NB273_241.out
    have hnc61 := NB241_273.out
    have hnb62 := NB273_257.out
    have hnc62 := NB257_273.out
    have hnb63 := NB273_264.out
    have hnc63 := NB264_273.out
    have hcz64_0 : w54.cell? ⟨gb273, 0, none⟩ = some (.int .i64 0) := (blk_cell BK273.out 0).trans rfl
    have hcz64_1 : w54.cell? ⟨gb273, 1, none⟩ = some (.int .i64 0) := (blk_cell BK273.out 1).trans rfl
    have hcz64_2 : w54.cell? ⟨gb273, 2, none⟩ = some (.int .i64 0) := (blk_cell BK273.out 2).trans rfl
    have hcz64_3 : w54.cell? ⟨gb273, 3, none⟩ = some (.slice none 0 0) := (blk_cell BK273.out 3).trans rfl
    have hfz64_0 := blk_frozen BK273.out 0
    have hfz64_1 := blk_frozen BK273.out 1
    have hfz64_2 := blk_frozen BK273.out 2
    have hfz64_3 := blk_frozen BK273.out 3
    have hnb65 := NB257_241.out
    have hnc65 := NB241_257.out
    have hcz66_0 : w54.cell? ⟨gb257, 0, none⟩ = some (.int .i64 t251) := (blk_cell BK257.out 0).trans rfl
    have hcz66_1 : w54.cell? ⟨gb257, 1, none⟩ = some (.int .i64 t252) := (blk_cell BK257.out 1).trans rfl
    have hcz66_2 : w54.cell? ⟨gb257, 2, none⟩ = some (.int .i64 t253) := (blk_cell BK257.out 2).trans rfl
    have hcz66_3 : w54.cell? ⟨gb257, 3, none⟩ = some (.slice Ao38 t254.length co38) := (blk_cell BK257.out 3).trans rfl
    have hfz66_0 := blk_frozen BK257.out 0
    have hfz66_1 := blk_frozen BK257.out 1
    have hfz66_2 := blk_frozen BK257.out 2
    have hfz66_3 := blk_frozen BK257.out 3
    try go_wp2_with (first | ((with_reducible refine gate_callee (f := 13) rfl ?_); refine goesL_ (some 31) rfl rfl Try.func13 (by kernel_rfl) rfl #[.agg #[.int .i64 t267, .int .i64 t268, .int .i64 t269, .slice Ao58 t270.length co58], .agg #[.int .i64 t251, .int .i64 t252, .int .i64 t253, .slice Ao38 t254.length co38]] rfl (by (try simp only [List.map_toArray, List.map_cons, List.map_nil]); first | done | rfl | (simp only [List.length_drop, List.length_take]; rfl)) ?_; (with_reducible refine (laws_eqWindow.calls k t267 t268 t269 _ _ t270 t251 t252 t253 _ _ t254 true _ ?side1 ?side2 ?side3 ?side4 A16.out).mono ?_); (case side1 => refine (Kd.R_reads' (e := 33) (base := w.heap.size) (ok := fun k_ => (some k_ ≠ (v247 : Value).ownBlock ∧ (some k_ ≠ (.slice Ao38 t254.length co38 : Value).ownBlock ∧ some k_ ≠ (.slice Ao48 t261.length co48 : Value).ownBlock))) (n := t270.length) (c := co58) ?_).2.2; exact (by exact rU_ ((Kd.R_mono (Kd.R_far (p := ⟨gb273, 3, none⟩) (Kd.R_far (p := ⟨gb273, 2, none⟩) (Kd.R_far (p := ⟨gb273, 1, none⟩) (Kd.R_far (p := ⟨gb273, 0, none⟩) (Kd.R_types HO272.out BK273.out (by decide)) (fun _ hk => hk.2) (.int .i64 t267)) (fun _ hk => hk.2) (.int .i64 t268)) (fun _ hk => hk.2) (.int .i64 t269)) (fun _ hk => hk.2) (.slice Ao58 t270.length co58)) (fun _ h_ => h_.1))))); (case side2 => exact (Kd.R_reads' HO272.out).2.1); (case side3 => refine (Kd.Q_reads' (e := 33) (base := w.heap.size) (ok := fun k_ => (some k_ ≠ (v247 : Value).ownBlock ∧ (some k_ ≠ (.slice Ao48 t261.length co48 : Value).ownBlock ∧ some k_ ≠ (.slice Ao58 t270.length co58 : Value).ownBlock))) (n := t254.length) (c := co38) ?_).2.2; exact (by exact qU_ ((Kd.Q_mono (Kd.Q_far (p := ⟨gb273, 3, none⟩) (Kd.Q_far (p := ⟨gb273, 2, none⟩) (Kd.Q_far (p := ⟨gb273, 1, none⟩) (Kd.Q_far (p := ⟨gb273, 0, none⟩) (Kd.Q_types HO256.out BK273.out (by decide)) (fun _ hk => hk.2) (.int .i64 t267)) (fun _ hk => hk.2) (.int .i64 t268)) (fun _ hk => hk.2) (.int .i64 t269)) (fun _ hk => hk.2) (.slice Ao58 t270.length co58)) (fun _ h_ => h_.1))))); (case side4 => exact (Kd.Q_reads' HO256.out).2.1); rintro e w67 ⟨rfl, hb⟩; refine ⟨_, rfl, ?_⟩; have n0_ := Aside0.mk (Kd.R_below (by exact rU_ ((Kd.R_mono (Kd.R_far (p := ⟨gb273, 3, none⟩) (Kd.R_far (p := ⟨gb273, 2, none⟩) (Kd.R_far (p := ⟨gb273, 1, none⟩) (Kd.R_far (p := ⟨gb273, 0, none⟩) (Kd.R_types HO248.out BK273.out (by decide)) (fun _ hk => hk.2) (.int .i64 t267)) (fun _ hk => hk.2) (.int .i64 t268)) (fun _ hk => hk.2) (.int .i64 t269)) (fun _ hk => hk.2) (.slice Ao58 t270.length co58)) (fun _ h_ => h_.1)))) hb); have n1_ := Aside0.mk (Kd.Q_below (by exact qU_ ((Kd.Q_mono (Kd.Q_far (p := ⟨gb273, 3, none⟩) (Kd.Q_far (p := ⟨gb273, 2, none⟩) (Kd.Q_far (p := ⟨gb273, 1, none⟩) (Kd.Q_far (p := ⟨gb273, 0, none⟩) (Kd.Q_types HO256.out BK273.out (by decide)) (fun _ hk => hk.2) (.int .i64 t267)) (fun _ hk => hk.2) (.int .i64 t268)) (fun _ hk => hk.2) (.int .i64 t269)) (fun _ hk => hk.2) (.slice Ao58 t270.length co58)) (fun _ h_ => h_.1)))) hb); have n2_ := Aside0.mk (Kd.R_below (by exact rU_ ((Kd.R_mono (Kd.R_far (p := ⟨gb273, 3, none⟩) (Kd.R_far (p := ⟨gb273, 2, none⟩) (Kd.R_far (p := ⟨gb273, 1, none⟩) (Kd.R_far (p := ⟨gb273, 0, none⟩) (Kd.R_types HO263.out BK273.out (by decide)) (fun _ hk => hk.2) (.int .i64 t267)) (fun _ hk => hk.2) (.int .i64 t268)) (fun _ hk => hk.2) (.int .i64 t269)) (fun _ hk => hk.2) (.slice Ao58 t270.length co58)) (fun _ h_ => h_.1)))) hb); have n3_ := Aside0.mk (Kd.R_below (by exact rU_ ((Kd.R_mono (Kd.R_far (p := ⟨gb273, 3, none⟩) (Kd.R_far (p := ⟨gb273, 2, none⟩) (Kd.R_far (p := ⟨gb273, 1, none⟩) (Kd.R_far (p := ⟨gb273, 0, none⟩) (Kd.R_types HO272.out BK273.out (by decide)) (fun _ hk => hk.2) (.int .i64 t267)) (fun _ hk => hk.2) (.int .i64 t268)) (fun _ hk => hk.2) (.int .i64 t269)) (fun _ hk => hk.2) (.slice Ao58 t270.length co58)) (fun _ h_ => h_.1)))) hb); have n4_ := Aside0.mk (blk_below (g := gb240) (o := .cells #[.int .i64 a0_0, .int .i64 a0_1, .int .i64 a0_2, .slice A0_3 l0_3.length c0_3] 24 (0, 0)) (by (with_reducible repeat (first | refine blk_drewN ?_ _ | refine blk_drew ?_ | refine blk_alloc ?_ _)); refine blk_far ?_ NB240_273.out _; (with_reducible repeat (first | refine blk_drewN ?_ _ | refine blk_drew ?_ | refine blk_alloc ?_ _)); refine blk_far ?_ NB240_273.out _; (with_reducible repeat (first | refine blk_drewN ?_ _ | refine blk_drew ?_ | refine blk_alloc ?_ _)); refine blk_far ?_ NB240_273.out _; (with_reducible repeat (first | refine blk_drewN ?_ _ | refine blk_drew ?_ | refine blk_alloc ?_ _)); refine blk_far ?_ NB240_273.out _; (with_reducible repeat (first | refine blk_drewN ?_ _ | refine blk_drew ?_ | refine blk_alloc ?_ _)); exact BK240.out) hb); have n5_ := Aside0.mk (blk_below (g := gb241) (o := .cells #[.int .i64 a1_0, .int .i64 a1_1] 26 (0, 0)) (by (with_reducible repeat (first | refine blk_drewN ?_ _ | refine blk_drew ?_ | refine blk_alloc ?_ _)); refine blk_far ?_ NB241_273.out _; (with_reducible repeat (first | refine blk_drewN ?_ _ | refine blk_drew ?_ | refine blk_alloc ?_ _)); refine blk_far ?_ NB241_273.out _; (with_reducible repeat (first | refine blk_drewN ?_ _ | refine blk_drew ?_ | refine blk_alloc ?_ _)); refine blk_far ?_ NB241_273.out _; (with_reducible repeat (first | refine blk_drewN ?_ _ | refine blk_drew ?_ | refine blk_alloc ?_ _)); refine blk_far ?_ NB241_273.out _; (with_reducible repeat (first | refine blk_drewN ?_ _ | refine blk_drew ?_ | refine blk_alloc ?_ _)); exact BK241.out) hb); have n6_ := Aside0.mk (blk_below (g := gb257) (o := .cells #[.int .i64 t251, .int .i64 t252, .int .i64 t253, .slice Ao38 t254.length co38] 30 (0, 0)) (by (with_reducible repeat (first | refine blk_drewN ?_ _ | refine blk_drew ?_ | refine blk_alloc ?_ _)); refine blk_far ?_ NB257_273.out _; (with_reducible repeat (first | refine blk_drewN ?_ _ | refine blk_drew ?_ | refine blk_alloc ?_ _)); refine blk_far ?_ NB257_273.out _; (with_reducible repeat (first | refine blk_drewN ?_ _ | refine blk_drew ?_ | refine blk_alloc ?_ _)); refine blk_far ?_ NB257_273.out _; (with_reducible repeat (first | refine blk_drewN ?_ _ | refine blk_drew ?_ | refine blk_alloc ?_ _)); refine blk_far ?_ NB257_273.out _; (with_reducible repeat (first | refine blk_drewN ?_ _ | refine blk_drew ?_ | refine blk_alloc ?_ _)); exact BK257.out) hb); have n7_ := Aside0.mk (blk_below (g := gb264) (o := .cells #[.int .i64 t258, .int .i64 t259, .int .i64 t260, .slice Ao48 t261.length co48] 30 (0, 0)) (by (with_reducible repeat (first | refine blk_drewN ?_ _ | refine blk_drew ?_ | refine blk_alloc ?_ _)); refine blk_far ?_ NB264_273.out _; (with_reducible repeat (first | refine blk_drewN ?_ _ | refine blk_drew ?_ | refine blk_alloc ?_ _)); refine blk_far ?_ NB264_273.out _; (with_reducible repeat (first | refine blk_drewN ?_ _ | refine blk_drew ?_ | refine blk_alloc ?_ _)); refine blk_far ?_ NB264_273.out _; (with_reducible repeat (first | refine blk_drewN ?_ _ | refine blk_drew ?_ | refine blk_alloc ?_ _)); refine blk_far ?_ NB264_273.out _; (with_reducible repeat (first | refine blk_drewN ?_ _ | refine blk_drew ?_ | refine blk_alloc ?_ _)); exact BK264.out) hb); have n8_ := Aside0.mk (blk_below (g := gb273) (o := .cells #[.int .i64 t267, .int .i64 t268, .int .i64 t269, .slice Ao58 t270.length co58] 30 (0, 0)) (by (with_reducible repeat (first | refine blk_drewN ?_ _ | refine blk_drew ?_ | refine blk_alloc ?_ _)); refine blk_put (cs := #[.int .i64 t267, .int .i64 t268, .int .i64 t269, .slice none 0 0]) ?_ 3 _ rfl; (with_reducible repeat (first | refine blk_drewN ?_ _ | refine blk_drew ?_ | refine blk_alloc ?_ _)); refine blk_put (cs := #[.int .i64 t267, .int .i64 t268, .int .i64 0, .slice none 0 0]) ?_ 2 _ rfl; (with_reducible repeat (first | refine blk_drewN ?_ _ | refine blk_drew ?_ | refine blk_alloc ?_ _)); refine blk_put (cs := #[.int .i64 t267, .int .i64 0, .int .i64 0, .slice none 0 0]) ?_ 1 _ rfl; (with_reducible repeat (first | refine blk_drewN ?_ _ | refine blk_drew ?_ | refine blk_alloc ?_ _)); refine blk_put (cs := #[.int .i64 0, .int .i64 0, .int .i64 0, .slice none 0 0]) ?_ 0 _ rfl; (with_reducible repeat (first | refine blk_drewN ?_ _ | refine blk_drew ?_ | refine blk_alloc ?_ _)); exact BK273.out) hb); have n9_ := Aside0.mk (below_step (by repeat (first | (with_reducible first | exact HB.out | apply below_alloc | apply pw_below_drewN | apply below_drew1 | refine below_set ?_ GE240.out | refine below_set ?_ GE241.out | refine below_set ?_ GE257.out | refine below_set ?_ GE264.out | refine below_set ?_ GE273.out) | exact HB.out)) hb); clear HO248; clear HO256; clear HO263; clear HO272; clear BK240; clear BK241; clear BK257; clear BK264; clear BK273; clear HB; have HO248 := n0_; have HO256 := n1_; have HO263 := n2_; have HO272 := n3_; have BK240 := n4_; have BK241 := n5_; have BK257 := n6_; have BK264 := n7_; have BK273 := n8_; have HB := n9_; clear n0_ n1_ n2_ n3_ n4_ n5_ n6_ n7_ n8_ n9_; (try clear hb); (try clear hb2); (try clear hk); (try clear hi)))
    have n0_ := Aside0.mk (Kd.R_drew HO248.out)
    have n1_ := Aside0.mk (Kd.Q_drew HO256.out)
    have n2_ := Aside0.mk (Kd.R_drew HO263.out)
    have n3_ := Aside0.mk (Kd.R_drew HO272.out)
    have n4_ := Aside0.mk (blk_drew BK240.out)
    have n5_ := Aside0.mk (blk_drew BK241.out)
    have n6_ := Aside0.mk (blk_drew BK257.out)
    have n7_ := Aside0.mk (blk_drew BK264.out)
    have n8_ := Aside0.mk (blk_drew BK273.out)
    have n9_ := Aside0.mk (below_drew1 HB.out)
    clear HO248
    clear HO256
    clear HO263
    clear HO272
    clear BK240
    clear BK241
    clear BK257
    clear BK264
    clear BK273
    clear HB
    have HO248 := n0_
    have HO256 := n1_
    have HO263 := n2_
    have HO272 := n3_
    have BK240 := n4_
    have BK241 := n5_
    have BK257 := n6_
    have BK264 := n7_
    have BK273 := n8_
    have HB := n9_
    clear n0_ n1_ n2_ n3_ n4_ n5_ n6_ n7_ n8_ n9_
    refine start_ (n := 5) (S := fun w' => w'.cell? ⟨gb264, 0, none⟩ = some (.int .i64 t258) ∧ w'.cell? ⟨gb264, 1, none⟩ = some (.int .i64 t259) ∧ w'.cell? ⟨gb264, 2, none⟩ = some (.int .i64 t260) ∧ w'.cell? ⟨gb264, 3, none⟩ = some (.slice Ao48 t261.length co48) ∧ w'.cell? ⟨gb240, 0, none⟩ = some (.int .i64 a0_0) ∧ w'.cell? ⟨gb240, 1, none⟩ = some (.int .i64 a0_1) ∧ w'.cell? ⟨gb240, 2, none⟩ = some (.int .i64 a0_2) ∧ w'.cell? ⟨gb240, 3, none⟩ = some (.slice A0_3 l0_3.length c0_3)) (ds := []) #[false, false, false, false, false] (by kernel_rfl) rfl rfl ⟨(blk_cell BK264.out 0).trans rfl, (blk_cell BK264.out 1).trans rfl, (blk_cell BK264.out 2).trans rfl, (blk_cell BK264.out 3).trans rfl, (blk_cell BK240.out 0).trans rfl, (blk_cell BK240.out 1).trans rfl, (blk_cell BK240.out 2).trans rfl, (blk_cell BK240.out 3).trans rfl⟩ (fun hHeld => ?_)
    generalize w67.drew = w68 at HO248 HO256 HO263 HO272 BK240 BK241 BK257 BK264 BK273 HB hHeld ⊢
    refine take_ (i := 0) (N := some 33) (v := ?_) (a' := ?_) #[true, false, false, false, false] rfl rfl (by kernel_rfl) (fun _ _ _ h => h) (Or.inl ⟨by rfl, ?_⟩) hHeld ?_ ?_; rotate_left; (rintro w' ⟨s0, s1, s2, s3, s4, s5, s6, s7⟩; go_simp; with_reducible rfl); rotate_left; (simp only [Act.put, List.setIfInBounds_toArray, List.set_cons_zero, List.set_cons_succ, i64_w, i32_w]; rfl)
    refine take_ (i := 1) (N := some 34) (v := ?_) (a' := ?_) #[true, true, false, false, false] rfl rfl (by kernel_rfl) (fun _ _ _ h => h) (Or.inl ⟨by rfl, ?_⟩) hHeld ?_ ?_; rotate_left; (rintro w' ⟨s0, s1, s2, s3, s4, s5, s6, s7⟩; go_simp; with_reducible rfl); rotate_left; (simp only [Act.put, List.setIfInBounds_toArray, List.set_cons_zero, List.set_cons_succ, i64_w, i32_w]; rfl)
    refine one_ (i := 2) (N := some 35) #[true, true, true, false, false] rfl rfl (by kernel_rfl) (by decide) (fun K hK => ?_)
    refine goes_ Try.func10 (by kernel_rfl) rfl #[.agg #[.int .i64 a0_0, .int .i64 a0_1, .int .i64 a0_2, .slice A0_3 l0_3.length c0_3]] (by rfl) rfl rfl (by (try simp only [List.map_toArray, List.map_cons, List.map_nil]); first | done | rfl | (simp only [List.length_drop, List.length_take]; rfl)) ?_
    with_reducible refine (laws_toWindow.calls k a0_0 a0_1 a0_2 _ _ l0_3 t275 t276 t277 t278 _ ?side1 ?side2 A18.out).mono ?_
    (case side1 => repeat (first | exact (Kd.C_below HR0_3.out HB.out) | (with_reducible refine Kd.C_alloc ?_ _) | (with_reducible refine Kd.C_drewN ?_ _) | (with_reducible refine Kd.C_drew ?_)))
    (case side2 => exact HC0_3.out)
    rintro e w69 ⟨v279, rfl, ho0, hb⟩
    refine ⟨_, rfl, ?_⟩
    have n0_ := Aside0.mk (Kd.R_elder' (by exact rU_ HO248.out) (Kd.R_base ho0) hb)
    have n1_ := Aside0.mk (Kd.Q_elder' (by exact qU_ HO256.out) (Kd.R_base ho0) hb)
    have n2_ := Aside0.mk (Kd.R_elder' (by exact rU_ HO263.out) (Kd.R_base ho0) hb)
    have n3_ := Aside0.mk (Kd.R_elder' (by exact rU_ HO272.out) (Kd.R_base ho0) hb)
    have n4_ := Aside0.mk (Kd.R_lower (Kd.R_new' (Kd.R_new' (Kd.R_new' (Kd.R_new' ho0 (Kd.R_lt (by exact rU_ HO248.out))) (Kd.Q_lt (by exact qU_ HO256.out))) (Kd.R_lt (by exact rU_ HO263.out))) (Kd.R_lt (by exact rU_ HO272.out))) (below_size (by repeat (first | (with_reducible first | exact HB.out | apply below_alloc | apply pw_below_drewN | apply below_drew1 | refine below_set ?_ GE240.out | refine below_set ?_ GE241.out | refine below_set ?_ GE257.out | refine below_set ?_ GE264.out | refine below_set ?_ GE273.out) | exact HB.out))))
    have n5_ := Aside0.mk (blk_below (up_ BK240.out) hb)
    have n6_ := Aside0.mk (blk_below (up_ BK241.out) hb)
    have n7_ := Aside0.mk (blk_below (up_ BK257.out) hb)
    have n8_ := Aside0.mk (blk_below (up_ BK264.out) hb)
    have n9_ := Aside0.mk (blk_below (up_ BK273.out) hb)
    have n10_ := Aside0.mk (below_step (by repeat (first | (with_reducible first | exact HB.out | apply below_alloc | apply pw_below_drewN | apply below_drew1 | refine below_set ?_ GE240.out | refine below_set ?_ GE241.out | refine below_set ?_ GE257.out | refine below_set ?_ GE264.out | refine below_set ?_ GE273.out) | exact HB.out)) hb)
    clear HO248
    clear HO256
    clear HO263
    clear HO272
    clear BK240
    clear BK241
    clear BK257
    clear BK264
    clear BK273
    clear HB
    have HO248 := n0_
    have HO256 := n1_
    have HO263 := n2_
    have HO272 := n3_
    have HO280 := n4_
    have BK240 := n5_
    have BK241 := n6_
    have BK257 := n7_
    have BK264 := n8_
    have BK273 := n9_
    have HB := n10_
    clear n0_ n1_ n2_ n3_ n4_ n5_ n6_ n7_ n8_ n9_ n10_
    (try clear hb)
    (try clear hb2)
    (try clear hk)
    (try clear hi)
    (try clear ho0)
    obtain ⟨Ao70, co70, eo70⟩ := Kd.R_slice HO280.out
    (first | subst eo70 | (injection eo70 with f1_ f2_ f3_; have f4_ := f1_.symm; have f5_ := f3_.symm; clear f1_ f2_ f3_; subst f4_; subst f5_))
    refine hK.out _ _ ⟨(blk_cell BK264.out 0).trans rfl, (blk_cell BK264.out 1).trans rfl, (blk_cell BK264.out 2).trans rfl, (blk_cell BK264.out 3).trans rfl, (blk_cell BK240.out 0).trans rfl, (blk_cell BK240.out 1).trans rfl, (blk_cell BK240.out 2).trans rfl, (blk_cell BK240.out 3).trans rfl⟩ (fun hHeld => ?_)
    clear hK K
    refine norm_ (a' := ?_) ?_ ?_
    rotate_left
    ·
     show Act.put _ (some 35) _ = _
     simp only [Act.put, List.setIfInBounds_toArray, List.set_cons_zero, List.set_cons_succ, i64_w, i32_w]
     rfl
    refine one_ (i := 3) (N := some 36) #[true, true, true, true, false] rfl rfl (by kernel_rfl) (by decide) (fun K hK => ?_)
    refine goes_ Try.func13 (by kernel_rfl) rfl #[.agg #[.int .i64 t258, .int .i64 t259, .int .i64 t260, .slice Ao48 t261.length co48], .agg #[.int .i64 t275, .int .i64 t276, .int .i64 t277, .slice Ao70 t278.length co70]] (by rfl) rfl rfl (by (try simp only [List.map_toArray, List.map_cons, List.map_nil]); first | done | rfl | (simp only [List.length_drop, List.length_take]; rfl)) ?_
    with_reducible refine (laws_eqWindow.calls k t258 t259 t260 _ _ t261 t275 t276 t277 _ _ t278 true _ ?side1 ?side2 ?side3 ?side4 A19.out).mono ?_
    (case side1 => repeat (first | exact (Kd.R_reads' HO263.out).2.2 | (with_reducible refine Kd.C_alloc ?_ _) | (with_reducible refine Kd.C_drewN ?_ _) | (with_reducible refine Kd.C_drew ?_)))
    (case side2 => exact (Kd.R_reads' HO263.out).2.1)
    (case side3 => repeat (first | exact (Kd.R_reads' HO280.out).2.2 | (with_reducible refine Kd.C_alloc ?_ _) | (with_reducible refine Kd.C_drewN ?_ _) | (with_reducible refine Kd.C_drew ?_)))
    (case side4 => exact (Kd.R_reads' HO280.out).2.1)
    rintro e w71 ⟨rfl, hb⟩
    refine ⟨_, rfl, ?_⟩
    have n0_ := Aside0.mk (Kd.R_below (by exact rU_ HO248.out) hb)
    have n1_ := Aside0.mk (Kd.Q_below (by exact qU_ HO256.out) hb)
    have n2_ := Aside0.mk (Kd.R_below (by exact rU_ HO263.out) hb)
    have n3_ := Aside0.mk (Kd.R_below (by exact rU_ HO272.out) hb)
    have n4_ := Aside0.mk (Kd.R_below (by exact rU_ HO280.out) hb)
    have n5_ := Aside0.mk (blk_below (up_ BK240.out) hb)
    have n6_ := Aside0.mk (blk_below (up_ BK241.out) hb)
    have n7_ := Aside0.mk (blk_below (up_ BK257.out) hb)
    have n8_ := Aside0.mk (blk_below (up_ BK264.out) hb)
    have n9_ := Aside0.mk (blk_below (up_ BK273.out) hb)
    have n10_ := Aside0.mk (below_step (by repeat (first | (with_reducible first | exact HB.out | apply below_alloc | apply pw_below_drewN | apply below_drew1 | refine below_set ?_ GE240.out | refine below_set ?_ GE241.out | refine below_set ?_ GE257.out | refine below_set ?_ GE264.out | refine below_set ?_ GE273.out) | exact HB.out)) hb)
    clear HO248
    clear HO256
    clear HO263
    clear HO272
    clear HO280
    clear BK240
    clear BK241
    clear BK257
    clear BK264
    clear BK273
    clear HB
    have HO248 := n0_
    have HO256 := n1_
    have HO263 := n2_
    have HO272 := n3_
    have HO280 := n4_
    have BK240 := n5_
    have BK241 := n6_
    have BK257 := n7_
    have BK264 := n8_
    have BK273 := n9_
    have HB := n10_
    clear n0_ n1_ n2_ n3_ n4_ n5_ n6_ n7_ n8_ n9_ n10_
    (try clear hb)
    (try clear hb2)
    (try clear hk)
    (try clear hi)
    refine hK.out _ _ ⟨(blk_cell BK264.out 0).trans rfl, (blk_cell BK264.out 1).trans rfl, (blk_cell BK264.out 2).trans rfl, (blk_cell BK264.out 3).trans rfl, (blk_cell BK240.out 0).trans rfl, (blk_cell BK240.out 1).trans rfl, (blk_cell BK240.out 2).trans rfl, (blk_cell BK240.out 3).trans rfl⟩ (fun hHeld => ?_)
    clear hK K
    refine norm_ (a' := ?_) ?_ ?_
    rotate_left
    ·
     show Act.put _ (some 36) _ = _
     simp only [Act.put, List.setIfInBounds_toArray, List.set_cons_zero, List.set_cons_succ, i64_w, i32_w]
     rfl
    refine pure_ (i := 4) (N := some 37) (v := ?_) (a' := ?_) #[true, true, true, true, true] rfl rfl (by kernel_rfl) (fun _ _ _ h => h) (Or.inl ⟨by rfl, ?_⟩) ?_ ?_; rotate_left; (intro w'; go_simp; with_reducible rfl); rotate_left; (simp only [Act.put, List.setIfInBounds_toArray, List.set_cons_zero, List.set_cons_succ, i64_w, i32_w]; rfl)
    refine done_ (by kernel_rfl) ?_
    have hcz72_0 : w71.cell? ⟨gb264, 0, none⟩ = some (.int .i64 t258) := (blk_cell BK264.out 0).trans rfl
    have hcz72_1 : w71.cell? ⟨gb264, 1, none⟩ = some (.int .i64 t259) := (blk_cell BK264.out 1).trans rfl
    have hcz72_2 : w71.cell? ⟨gb264, 2, none⟩ = some (.int .i64 t260) := (blk_cell BK264.out 2).trans rfl
    have hcz72_3 : w71.cell? ⟨gb264, 3, none⟩ = some (.slice Ao48 t261.length co48) := (blk_cell BK264.out 3).trans rfl
    have hfz72_0 := blk_frozen BK264.out 0
    have hfz72_1 := blk_frozen BK264.out 1
    have hfz72_2 := blk_frozen BK264.out 2
    have hfz72_3 := blk_frozen BK264.out 3
    go_upto_region 14 with (first | ((with_reducible refine gate_callee (f := 14) rfl ?_); refine goesL_ (some 40) rfl rfl Try.func14 (by kernel_rfl) rfl #[.agg #[.int .i64 t258, .int .i64 t259, .int .i64 t260, .slice Ao48 t261.length co48], .int .i64 1] rfl (by (try simp only [List.map_toArray, List.map_cons, List.map_nil]); first | done | rfl | (simp only [List.length_drop, List.length_take]; rfl)) ?_; (with_reducible refine (laws_markWindow.calls k t258 t259 t260 (fun k_ => some k_ = (.slice Ao48 t261.length co48 : Value).ownBlock) (.slice Ao48 t261.length co48) t261 1 t282 t283 w _ ?side1 ?side2 A21.out).mono ?_); (case side1 => repeat (first | (with_reducible first | exact HB.out | apply below_alloc | apply pw_below_drewN | apply below_drew1 | refine below_set ?_ GE240.out | refine below_set ?_ GE241.out | refine below_set ?_ GE257.out | refine below_set ?_ GE264.out | refine below_set ?_ GE273.out) | exact HB.out)); (case side2 => exact Kd.R_tight rfl HO263.out); rintro e w73 ⟨rfl, hy0, hb, hkp⟩; refine ⟨_, rfl, ?_⟩; have n0_ := Aside0.mk (blk_kept (by exact up_ BK240.out) hkp (fun hs_ => (fun e_ => (Kd.R_ne HO263.out BK240.out (by decide)) e_) hs_)); have n1_ := Aside0.mk (blk_kept (by exact up_ BK241.out) hkp (fun hs_ => (fun e_ => (Kd.R_ne HO263.out BK241.out (by decide)) e_) hs_)); have n2_ := Aside0.mk (Kd.R_mono (ok' := fun k_ => some k_ ≠ (.slice Ao38 t254.length co38 : Value).ownBlock ∧ some k_ ≠ (.slice Ao48 t261.length co48 : Value).ownBlock ∧ some k_ ≠ (.slice Ao58 t270.length co58 : Value).ownBlock ∧ some k_ ≠ (.slice Ao70 t278.length co70 : Value).ownBlock) (Kd.R_keptB (HO248.out) hkp (fun k_ hk_ hs_ => (hk_.1.2.1) hs_)) (fun k_ hk_ => ⟨hk_.1.1.1, hk_.1.1.2.1, hk_.1.1.2.2, hk_.1.2⟩)); have n3_ := Aside0.mk (Kd.Q_mono (ok' := fun k_ => some k_ ≠ (v247 : Value).ownBlock ∧ some k_ ≠ (.slice Ao48 t261.length co48 : Value).ownBlock ∧ some k_ ≠ (.slice Ao58 t270.length co58 : Value).ownBlock ∧ some k_ ≠ (.slice Ao70 t278.length co70 : Value).ownBlock) (Kd.Q_keptB (HO256.out) hkp (fun k_ hk_ hs_ => (hk_.1.2.1) hs_)) (fun k_ hk_ => ⟨hk_.1.1.1, hk_.1.1.2.1, hk_.1.1.2.2, hk_.1.2⟩)); have n4_ := Aside0.mk (blk_kept (by exact up_ BK257.out) hkp (fun hs_ => (fun e_ => (Kd.R_ne HO263.out BK257.out (by decide)) e_) hs_)); have n5_ := Aside0.mk (Kd.R_reok rfl hy0 (fun k_ e_ => HO263.out.1 k_ e_)); have n6_ := Aside0.mk (blk_kept (by exact up_ BK264.out) hkp (fun hs_ => (fun e_ => (Kd.R_ne HO263.out BK264.out (by decide)) e_) hs_)); have n7_ := Aside0.mk (Kd.R_mono (ok' := fun k_ => some k_ ≠ (v247 : Value).ownBlock ∧ some k_ ≠ (.slice Ao38 t254.length co38 : Value).ownBlock ∧ some k_ ≠ (.slice Ao48 t261.length co48 : Value).ownBlock ∧ some k_ ≠ (.slice Ao70 t278.length co70 : Value).ownBlock) (Kd.R_keptB (HO272.out) hkp (fun k_ hk_ hs_ => (hk_.1.2.2) hs_)) (fun k_ hk_ => ⟨hk_.1.1.1, hk_.1.1.2.1, hk_.1.1.2.2, hk_.1.2⟩)); have n8_ := Aside0.mk (blk_kept (by exact up_ BK273.out) hkp (fun hs_ => (fun e_ => (Kd.R_ne HO263.out BK273.out (by decide)) e_) hs_)); have n9_ := Aside0.mk (Kd.R_mono (ok' := fun k_ => some k_ ≠ (v247 : Value).ownBlock ∧ some k_ ≠ (.slice Ao38 t254.length co38 : Value).ownBlock ∧ some k_ ≠ (.slice Ao48 t261.length co48 : Value).ownBlock ∧ some k_ ≠ (.slice Ao58 t270.length co58 : Value).ownBlock) (Kd.R_keptB (HO280.out) hkp (fun k_ hk_ hs_ => (hk_.1.2) hs_)) (fun k_ hk_ => ⟨hk_.1.1.1.1.2, hk_.1.1.1.2, hk_.1.1.2, hk_.1.2⟩)); have n10_ := Aside0.mk (hb); clear BK240; clear BK241; clear HO248; clear HO256; clear BK257; clear HO263; clear BK264; clear HO272; clear BK273; clear HO280; clear HB; have BK240 := n0_; have BK241 := n1_; have HO248 := n2_; have HO256 := n3_; have BK257 := n4_; have HO263 := n5_; have BK264 := n6_; have HO272 := n7_; have BK273 := n8_; have HO280 := n9_; have HB := n10_; clear n0_ n1_ n2_ n3_ n4_ n5_ n6_ n7_ n8_ n9_ n10_; (try clear hb); (try clear hkp); (try clear hy0)))
    (try simp only [Act.put, List.setIfInBounds_toArray, List.set_cons_zero, List.set_cons_succ])
    go_cut [48] (fun v48 wc => ∃ (kq : Nat) (x48_21 : Bool), v48 = .bool x48_21 ∧ Aside0 (laws_FnExactWindowPut.j0 kq x48_21 a0_0 a0_1 a0_2 l0_3 a1_0 a1_1 t251 t252 t253 t254 t267 t268 t269 t270 = some r) ∧ Aside0 (kq ≤ k) ∧ Aside0 (Kd.Q k33 33 wc w.heap.size (fun k_ => some k_ ≠ ((.slice Ao48 t261.length co48) : Value).ownBlock ∧ some k_ ≠ ((.slice Ao58 t270.length co58) : Value).ownBlock) (.slice Ao38 t254.length co38) t254) ∧ Aside0 (Kd.R k33 33 wc w.heap.size (fun k_ => some k_ ≠ ((.slice Ao38 t254.length co38) : Value).ownBlock ∧ some k_ ≠ ((.slice Ao58 t270.length co58) : Value).ownBlock) (.slice Ao48 t261.length co48) t283) ∧ Aside0 (Kd.R k33 33 wc w.heap.size (fun k_ => some k_ ≠ ((.slice Ao38 t254.length co38) : Value).ownBlock ∧ some k_ ≠ ((.slice Ao48 t261.length co48) : Value).ownBlock) (.slice Ao58 t270.length co58) t270) ∧ Aside0 (wc.heap[gb240]? = some (.cells #[.int .i64 a0_0, .int .i64 a0_1, .int .i64 a0_2, (.slice A0_3 l0_3.length c0_3)] 24 (0, 0))) ∧ Aside0 (wc.heap[gb241]? = some (.cells #[.int .i64 a1_0, .int .i64 a1_1] 26 (0, 0))) ∧ Aside0 (wc.heap[gb257]? = some (.cells #[.int .i64 t251, .int .i64 t252, .int .i64 t253, (.slice Ao38 t254.length co38)] 30 (0, 0))) ∧ Aside0 (wc.heap[gb264]? = some (.cells #[.int .i64 t258, .int .i64 t259, .int .i64 t260, (.slice Ao48 t261.length co48)] 30 (0, 0))) ∧ Aside0 (wc.heap[gb273]? = some (.cells #[.int .i64 t267, .int .i64 t268, .int .i64 t269, (.slice Ao58 t270.length co58)] 30 (0, 0))) ∧ Aside0 (Below w.heap.size w wc))
    case first =>
     have H := HC22.out
     clear HC22
     by_cases c74 : t282 < 0
     ·
      rw [if_pos c74] at H
      have c74b0 : decide (t282 < 0) = true := decide_eq_true c74
      clear c74
      (first | rw [c74b0] | (simp only [i64_w, i32_w]; rw [c74b0]) | skip)
      have H' := Aside0.mk H
      clear H
      go_wp2
      go_meet
      case rel => exact ⟨_, (true), (by first | rfl | (simp; done) | (simp [*]; done)), H', ⟨by first | omega | exact Nat.le_refl _⟩, ⟨by (with_reducible repeat (first | apply Kd.Q_alloc | apply Kd.Q_drewN | apply Kd.Q_drew)); exact Kd.Q_mono HO256.out (fun _ hk => ⟨hk.2.1, hk.2.2.1⟩)⟩, ⟨by (with_reducible repeat (first | apply Kd.R_alloc | apply Kd.R_drewN | apply Kd.R_drew)); exact Kd.R_mono HO263.out (fun _ hk => ⟨hk.1.2.1, hk.1.2.2⟩)⟩, ⟨by (with_reducible repeat (first | apply Kd.R_alloc | apply Kd.R_drewN | apply Kd.R_drew)); exact Kd.R_mono HO272.out (fun _ hk => ⟨hk.2.1, hk.2.2.1⟩)⟩, ⟨by (with_reducible repeat (first | refine blk_drewN ?_ _ | refine blk_drew ?_ | refine blk_alloc ?_ _)); exact BK240.out⟩, ⟨by (with_reducible repeat (first | refine blk_drewN ?_ _ | refine blk_drew ?_ | refine blk_alloc ?_ _)); exact BK241.out⟩, ⟨by (with_reducible repeat (first | refine blk_drewN ?_ _ | refine blk_drew ?_ | refine blk_alloc ?_ _)); exact BK257.out⟩, ⟨by (with_reducible repeat (first | refine blk_drewN ?_ _ | refine blk_drew ?_ | refine blk_alloc ?_ _)); exact BK264.out⟩, ⟨by (with_reducible repeat (first | refine blk_drewN ?_ _ | refine blk_drew ?_ | refine blk_alloc ?_ _)); exact BK273.out⟩, ⟨by repeat (first | (with_reducible first | exact HB.out | apply below_alloc | apply pw_below_drewN | apply below_drew1 | refine below_set ?_ GE240.out | refine below_set ?_ GE241.out | refine below_set ?_ GE257.out | refine below_set ?_ GE264.out | refine below_set ?_ GE273.out) | exact HB.out)⟩⟩
     ·
      rw [if_neg c74] at H
      have c74b0 : decide (t282 < 0) = false := decide_eq_false c74
      clear c74
      (first | rw [c74b0] | (simp only [i64_w, i32_w]; rw [c74b0]) | skip)
      replace H := Option.bind_eq_some_iff.mp H
      obtain ⟨t284, A750, H⟩ := H
      replace H : (laws_FnExactWindowPut.j0 k (!t284) a0_0 a0_1 a0_2 l0_3 a1_0 a1_1 t251 t252 t253 t254 t267 t268 t269 t270) = some r := H
      have A75 := Aside0.mk A750
      clear A750
      have H' := Aside0.mk H
      clear H
      have hnb76 := NB273_240.out
      have hnc76 := NB240_273.out
      have hnb77 := NB273_241.out
      have hnc77 := NB241_273.out
      have hnb78 := NB273_257.out
      have hnc78 := NB257_273.out
      have hnb79 := NB273_264.out
      have hnc79 := NB264_273.out
      have hcz80_0 : w73.cell? ⟨gb273, 0, none⟩ = some (.int .i64 t267) := (blk_cell BK273.out 0).trans rfl
      have hcz80_1 : w73.cell? ⟨gb273, 1, none⟩ = some (.int .i64 t268) := (blk_cell BK273.out 1).trans rfl
      have hcz80_2 : w73.cell? ⟨gb273, 2, none⟩ = some (.int .i64 t269) := (blk_cell BK273.out 2).trans rfl
      have hcz80_3 : w73.cell? ⟨gb273, 3, none⟩ = some (.slice Ao58 t270.length co58) := (blk_cell BK273.out 3).trans rfl
      have hfz80_0 := blk_frozen BK273.out 0
      have hfz80_1 := blk_frozen BK273.out 1
      have hfz80_2 := blk_frozen BK273.out 2
      have hfz80_3 := blk_frozen BK273.out 3
      have hnb81 := NB257_240.out
      have hnc81 := NB240_257.out
      have hnb82 := NB257_241.out
      have hnc82 := NB241_257.out
      have hnb83 := NB257_264.out
      have hnc83 := NB264_257.out
      have hcz84_0 : w73.cell? ⟨gb257, 0, none⟩ = some (.int .i64 t251) := (blk_cell BK257.out 0).trans rfl
      have hcz84_1 : w73.cell? ⟨gb257, 1, none⟩ = some (.int .i64 t252) := (blk_cell BK257.out 1).trans rfl
      have hcz84_2 : w73.cell? ⟨gb257, 2, none⟩ = some (.int .i64 t253) := (blk_cell BK257.out 2).trans rfl
      have hcz84_3 : w73.cell? ⟨gb257, 3, none⟩ = some (.slice Ao38 t254.length co38) := (blk_cell BK257.out 3).trans rfl
      have hfz84_0 := blk_frozen BK257.out 0
      have hfz84_1 := blk_frozen BK257.out 1
      have hfz84_2 := blk_frozen BK257.out 2
      have hfz84_3 := blk_frozen BK257.out 3
      go_wp2_with (first | (go_at_call 13; (with_reducible refine (laws_eqWindow.calls k t267 t268 t269 _ _ t270 t251 t252 t253 _ _ t254 t284 _ ?side1 ?side2 ?side3 ?side4 A75.out).mono ?_); (case side1 => repeat (first | exact (Kd.R_reads' HO272.out).2.2 | (with_reducible refine Kd.C_alloc ?_ _) | (with_reducible refine Kd.C_drewN ?_ _) | (with_reducible refine Kd.C_drew ?_))); (case side2 => exact (Kd.R_reads' HO272.out).2.1); (case side3 => repeat (first | exact (Kd.Q_reads' HO256.out).2.2 | (with_reducible refine Kd.C_alloc ?_ _) | (with_reducible refine Kd.C_drewN ?_ _) | (with_reducible refine Kd.C_drew ?_))); (case side4 => exact (Kd.Q_reads' HO256.out).2.1); rintro e w85 ⟨rfl, hb⟩; have n0_ := Aside0.mk (Kd.R_below (by exact rU_ HO248.out) hb); have n1_ := Aside0.mk (Kd.Q_below (by exact qU_ HO256.out) hb); have n2_ := Aside0.mk (Kd.R_below (by exact rU_ HO263.out) hb); have n3_ := Aside0.mk (Kd.R_below (by exact rU_ HO272.out) hb); have n4_ := Aside0.mk (Kd.R_below (by exact rU_ HO280.out) hb); have n5_ := Aside0.mk (blk_below (up_ BK240.out) hb); have n6_ := Aside0.mk (blk_below (up_ BK241.out) hb); have n7_ := Aside0.mk (blk_below (up_ BK257.out) hb); have n8_ := Aside0.mk (blk_below (up_ BK264.out) hb); have n9_ := Aside0.mk (blk_below (up_ BK273.out) hb); have n10_ := Aside0.mk (below_step (by repeat (first | (with_reducible first | exact HB.out | apply below_alloc | apply pw_below_drewN | apply below_drew1 | refine below_set ?_ GE240.out | refine below_set ?_ GE241.out | refine below_set ?_ GE257.out | refine below_set ?_ GE264.out | refine below_set ?_ GE273.out) | exact HB.out)) hb); clear HO248; clear HO256; clear HO263; clear HO272; clear HO280; clear BK240; clear BK241; clear BK257; clear BK264; clear BK273; clear HB; have HO248 := n0_; have HO256 := n1_; have HO263 := n2_; have HO272 := n3_; have HO280 := n4_; have BK240 := n5_; have BK241 := n6_; have BK257 := n7_; have BK264 := n8_; have BK273 := n9_; have HB := n10_; clear n0_ n1_ n2_ n3_ n4_ n5_ n6_ n7_ n8_ n9_ n10_; (try clear hb); (try clear hb2); (try clear hk); (try clear hi)))
      go_meet
      case rel => exact ⟨_, (!t284), (by first | rfl | (simp; done) | (simp [*]; done)), H', ⟨by first | omega | exact Nat.le_refl _⟩, ⟨by (with_reducible repeat (first | apply Kd.Q_alloc | apply Kd.Q_drewN | apply Kd.Q_drew)); exact Kd.Q_mono HO256.out (fun _ hk => ⟨hk.2.1, hk.2.2.1⟩)⟩, ⟨by (with_reducible repeat (first | apply Kd.R_alloc | apply Kd.R_drewN | apply Kd.R_drew)); exact Kd.R_mono HO263.out (fun _ hk => ⟨hk.1.2.1, hk.1.2.2⟩)⟩, ⟨by (with_reducible repeat (first | apply Kd.R_alloc | apply Kd.R_drewN | apply Kd.R_drew)); exact Kd.R_mono HO272.out (fun _ hk => ⟨hk.2.1, hk.2.2.1⟩)⟩, ⟨by (with_reducible repeat (first | refine blk_drewN ?_ _ | refine blk_drew ?_ | refine blk_alloc ?_ _)); exact BK240.out⟩, ⟨by (with_reducible repeat (first | refine blk_drewN ?_ _ | refine blk_drew ?_ | refine blk_alloc ?_ _)); exact BK241.out⟩, ⟨by (with_reducible repeat (first | refine blk_drewN ?_ _ | refine blk_drew ?_ | refine blk_alloc ?_ _)); exact BK257.out⟩, ⟨by (with_reducible repeat (first | refine blk_drewN ?_ _ | refine blk_drew ?_ | refine blk_alloc ?_ _)); exact BK264.out⟩, ⟨by (with_reducible repeat (first | refine blk_drewN ?_ _ | refine blk_drew ?_ | refine blk_alloc ?_ _)); exact BK273.out⟩, ⟨by repeat (first | (with_reducible first | exact HB.out | apply below_alloc | apply pw_below_drewN | apply below_drew1 | refine below_set ?_ GE240.out | refine below_set ?_ GE241.out | refine below_set ?_ GE257.out | refine below_set ?_ GE264.out | refine below_set ?_ GE273.out) | exact HB.out)⟩⟩
    case rest =>
     clear HC22
     try clear c1
     try clear p2
     try clear c6
     try clear c7
     try clear c8
     try clear c10
     try clear c11
     try clear c12
     try clear c13
     try clear c14
     try clear c60
     try clear c61
     try clear c62
     try clear c63
     try clear c65
     try clear c74
     try clear c74b0
     try clear c76
     try clear c77
     try clear c78
     try clear c79
     try clear c81
     try clear c82
     try clear c83
     try clear hcz64_0
     try clear hcz64_1
     try clear hcz64_2
     try clear hcz64_3
     try clear hcz66_0
     try clear hcz66_1
     try clear hcz66_2
     try clear hcz66_3
     try clear hcz72_0
     try clear hcz72_1
     try clear hcz72_2
     try clear hcz72_3
     try clear hcz80_0
     try clear hcz80_1
     try clear hcz80_2
     try clear hcz80_3
     try clear hcz84_0
     try clear hcz84_1
     try clear hcz84_2
     try clear hcz84_3
     try clear hfz64_0
     try clear hfz64_1
     try clear hfz64_2
     try clear hfz64_3
     try clear hfz66_0
     try clear hfz66_1
     try clear hfz66_2
     try clear hfz66_3
     try clear hfz72_0
     try clear hfz72_1
     try clear hfz72_2
     try clear hfz72_3
     try clear hfz80_0
     try clear hfz80_1
     try clear hfz80_2
     try clear hfz80_3
     try clear hfz84_0
     try clear hfz84_1
     try clear hfz84_2
     try clear hfz84_3
     obtain ⟨kq, x48_21, rfl, HA, HJ21, HO_258003, HO_265003, HO_274003, BK240, BK241, BK257, BK264, BK273, HB⟩ := hcut
     have hl265003_21 := (Kd.R_reads' HO_265003.out).1
     rw [hl265003_21] at HO_265003
     (try simp only [hl265003_21])
     (try simp only [hl265003_21] at BK240)
     (try simp only [hl265003_21] at BK241)
     (try simp only [hl265003_21] at BK257)
     (try simp only [hl265003_21] at BK264)
     (try simp only [hl265003_21] at BK273)
     (try simp only [hl265003_21] at HO_258003)
     (try simp only [hl265003_21] at HO_274003)
     cases kq with
     | zero => exact absurd HA.out (by simp [laws_FnExactWindowPut.j0])
     | succ kj21 =>
      have H := HA.out
      clear HA
      simp only [laws_FnExactWindowPut.j0] at H
      by_cases c86 : x48_21 = true
      ·
       subst c86
       have H1 : (some false) = some r := by rw [if_pos rfl] at H; exact H
       clear H
       have H := H1
       clear H1
       exact absurd (Option.some.inj H) (by rw [HTRUE_.out]; decide)
      ·
       replace c86 := Bool.eq_false_iff.mpr c86
       subst c86
       have H1 : ((laws_markWindow.f kj21 t267 t268 t269 t270 1).bind fun bt285 => ((laws_heldWindow.f kj21 t267 t268 t269 bt285.2 1).bind fun t287 => (if t287 < 0 then (some false) else (if t287 = bt285.1 then ((laws_toWindow.f kj21 a0_0 a0_1 a0_2 l0_3).bind fun bt288 => ((laws_toMark.f a1_0 a1_1).bind fun bt294 => ((impl_WindowPut.f kj21 bt288.1 bt288.2.1 bt288.2.2.1 bt288.2.2.2 bt294.1 bt294.2).bind fun bt296 => ((laws_eqWindow.f kj21 bt296.1 bt296.2.1 bt296.2.2.1 bt296.2.2.2 t251 t252 t253 t254).bind fun t303 => (if t303 = true then ((laws_heldWindow.f kj21 t267 t268 t269 bt285.2 1).bind fun t304 => (if t304 < 0 then (some false) else (if t304 = bt285.1 then (some true) else (some false)))) else (some false)))))) else (some false))))) = some r := by rw [if_neg (show ¬ (false = true) by decide)] at H; exact H
       clear H
       have H := H1
       clear H1
       replace H := Option.bind_eq_some_iff.mp H
       obtain ⟨⟨t285, t286⟩, A870, H⟩ := H
       replace H : ((laws_heldWindow.f kj21 t267 t268 t269 t286 1).bind fun t287 => (if t287 < 0 then (some false) else (if t287 = t285 then ((laws_toWindow.f kj21 a0_0 a0_1 a0_2 l0_3).bind fun bt288 => ((laws_toMark.f a1_0 a1_1).bind fun bt294 => ((impl_WindowPut.f kj21 bt288.1 bt288.2.1 bt288.2.2.1 bt288.2.2.2 bt294.1 bt294.2).bind fun bt296 => ((laws_eqWindow.f kj21 bt296.1 bt296.2.1 bt296.2.2.1 bt296.2.2.2 t251 t252 t253 t254).bind fun t303 => (if t303 = true then ((laws_heldWindow.f kj21 t267 t268 t269 t286 1).bind fun t304 => (if t304 < 0 then (some false) else (if t304 = t285 then (some true) else (some false)))) else (some false)))))) else (some false)))) = some r := H
       have A87 := Aside0.mk A870
       clear A870
       replace H := Option.bind_eq_some_iff.mp H
       obtain ⟨t287, A880, H⟩ := H
       replace H : (if t287 < 0 then (some false) else (if t287 = t285 then ((laws_toWindow.f kj21 a0_0 a0_1 a0_2 l0_3).bind fun bt288 => ((laws_toMark.f a1_0 a1_1).bind fun bt294 => ((impl_WindowPut.f kj21 bt288.1 bt288.2.1 bt288.2.2.1 bt288.2.2.2 bt294.1 bt294.2).bind fun bt296 => ((laws_eqWindow.f kj21 bt296.1 bt296.2.1 bt296.2.2.1 bt296.2.2.2 t251 t252 t253 t254).bind fun t303 => (if t303 = true then ((laws_heldWindow.f kj21 t267 t268 t269 t286 1).bind fun t304 => (if t304 < 0 then (some false) else (if t304 = t285 then (some true) else (some false)))) else (some false)))))) else (some false))) = some r := H
       have A88 := Aside0.mk A880
       clear A880
       by_cases c89 : t287 < 0
       ·
        rw [if_pos c89] at H
        have c89b0 : decide (t287 < 0) = true := decide_eq_true c89
        clear c89
        exact absurd (Option.some.inj H) (by rw [HTRUE_.out]; decide)
       ·
        rw [if_neg c89] at H
        have c89b0 : decide (t287 < 0) = false := decide_eq_false c89
        clear c89
        by_cases c90 : t287 = t285
        ·
         rw [if_pos c90] at H
         have c90b0 : (t287 == t285) = true := beq_iff_eq.mpr c90
         have c90b1 : (t287 != t285) = false := bne_eq_false_iff_eq.mpr c90
         clear c90
         replace H := Option.bind_eq_some_iff.mp H
         obtain ⟨⟨t288, t289, t290, t291⟩, A910, H⟩ := H
         replace H : ((laws_toMark.f a1_0 a1_1).bind fun bt294 => ((impl_WindowPut.f kj21 t288 t289 t290 t291 bt294.1 bt294.2).bind fun bt296 => ((laws_eqWindow.f kj21 bt296.1 bt296.2.1 bt296.2.2.1 bt296.2.2.2 t251 t252 t253 t254).bind fun t303 => (if t303 = true then ((laws_heldWindow.f kj21 t267 t268 t269 t286 1).bind fun t304 => (if t304 < 0 then (some false) else (if t304 = t285 then (some true) else (some false)))) else (some false))))) = some r := H
         have A91 := Aside0.mk A910
         clear A910
         replace H := Option.bind_eq_some_iff.mp H
         obtain ⟨⟨t294, t295⟩, A920, H⟩ := H
         replace H : ((impl_WindowPut.f kj21 t288 t289 t290 t291 t294 t295).bind fun bt296 => ((laws_eqWindow.f kj21 bt296.1 bt296.2.1 bt296.2.2.1 bt296.2.2.2 t251 t252 t253 t254).bind fun t303 => (if t303 = true then ((laws_heldWindow.f kj21 t267 t268 t269 t286 1).bind fun t304 => (if t304 < 0 then (some false) else (if t304 = t285 then (some true) else (some false)))) else (some false)))) = some r := H
         have A92 := Aside0.mk A920
         clear A920
         replace H := Option.bind_eq_some_iff.mp H
         obtain ⟨⟨t296, t297, t298, t299⟩, A930, H⟩ := H
         replace H : ((laws_eqWindow.f kj21 t296 t297 t298 t299 t251 t252 t253 t254).bind fun t303 => (if t303 = true then ((laws_heldWindow.f kj21 t267 t268 t269 t286 1).bind fun t304 => (if t304 < 0 then (some false) else (if t304 = t285 then (some true) else (some false)))) else (some false))) = some r := H
         have A93 := Aside0.mk A930
         clear A930
         replace H := Option.bind_eq_some_iff.mp H
         obtain ⟨t303, A940, H⟩ := H
         replace H : (if t303 = true then ((laws_heldWindow.f kj21 t267 t268 t269 t286 1).bind fun t304 => (if t304 < 0 then (some false) else (if t304 = t285 then (some true) else (some false)))) else (some false)) = some r := H
         have A94 := Aside0.mk A940
         clear A940
         by_cases c95 : t303 = true
         ·
          subst c95
          have H1 : ((laws_heldWindow.f kj21 t267 t268 t269 t286 1).bind fun t304 => (if t304 < 0 then (some false) else (if t304 = t285 then (some true) else (some false)))) = some r := by rw [if_pos rfl] at H; exact H
          clear H
          have H := H1
          clear H1
          replace H := Option.bind_eq_some_iff.mp H
          obtain ⟨t304, A960, H⟩ := H
          replace H : (if t304 < 0 then (some false) else (if t304 = t285 then (some true) else (some false))) = some r := H
          have A96 := Aside0.mk A960
          clear A960
          by_cases c97 : t304 < 0
          ·
           rw [if_pos c97] at H
           have c97b0 : decide (t304 < 0) = true := decide_eq_true c97
           clear c97
           exact absurd (Option.some.inj H) (by rw [HTRUE_.out]; decide)
          ·
           rw [if_neg c97] at H
           have c97b0 : decide (t304 < 0) = false := decide_eq_false c97
           clear c97
           by_cases c98 : t304 = t285
           ·
            rw [if_pos c98] at H
            have c98b0 : (t304 == t285) = true := beq_iff_eq.mpr c98
            have c98b1 : (t304 != t285) = false := bne_eq_false_iff_eq.mpr c98
            clear c98
            obtain rfl := Option.some.inj H
            have hnb99 := NB273_240.out
            have hnc99 := NB240_273.out
            have hnb100 := NB273_241.out
            have hnc100 := NB241_273.out
            have hnb101 := NB273_257.out
            have hnc101 := NB257_273.out
            have hnb102 := NB273_264.out
            have hnc102 := NB264_273.out
            have hcz103_0 : wc.cell? ⟨gb273, 0, none⟩ = some (.int .i64 t267) := (blk_cell BK273.out 0).trans rfl
            have hcz103_1 : wc.cell? ⟨gb273, 1, none⟩ = some (.int .i64 t268) := (blk_cell BK273.out 1).trans rfl
            have hcz103_2 : wc.cell? ⟨gb273, 2, none⟩ = some (.int .i64 t269) := (blk_cell BK273.out 2).trans rfl
            have hcz103_3 : wc.cell? ⟨gb273, 3, none⟩ = some (.slice Ao58 t270.length co58) := (blk_cell BK273.out 3).trans rfl
            have hfz103_0 := blk_frozen BK273.out 0
            have hfz103_1 := blk_frozen BK273.out 1
            have hfz103_2 := blk_frozen BK273.out 2
            have hfz103_3 := blk_frozen BK273.out 3
            try go_wp2_with (first | ((with_reducible refine gate_callee (f := 14) rfl ?_); refine goesL_ (some 51) rfl rfl Try.func14 (by kernel_rfl) rfl #[.agg #[.int .i64 t267, .int .i64 t268, .int .i64 t269, .slice Ao58 t270.length co58], .int .i64 1] rfl (by (try simp only [List.map_toArray, List.map_cons, List.map_nil]); first | done | rfl | (simp only [List.length_drop, List.length_take]; rfl)) ?_; (with_reducible refine (laws_markWindow.calls kj21 t267 t268 t269 (fun k_ => some k_ = (.slice Ao58 t270.length co58 : Value).ownBlock) (.slice Ao58 t270.length co58) t270 1 t285 t286 w _ ?side1 ?side2 A87.out).mono ?_); (case side1 => repeat (first | (with_reducible first | exact HB.out | apply below_alloc | apply pw_below_drewN | apply below_drew1 | refine below_set ?_ GE240.out | refine below_set ?_ GE241.out | refine below_set ?_ GE257.out | refine below_set ?_ GE264.out | refine below_set ?_ GE273.out) | exact HB.out)); (case side2 => exact Kd.R_tight rfl HO_274003.out); rintro e w104 ⟨rfl, hy0, hb, hkp⟩; refine ⟨_, rfl, ?_⟩; have n0_ := Aside0.mk (Kd.Q_mono (ok' := fun k_ => some k_ ≠ (.slice Ao48 t283.length co48 : Value).ownBlock ∧ some k_ ≠ (.slice Ao58 t270.length co58 : Value).ownBlock) (Kd.Q_keptB (HO_258003.out) hkp (fun k_ hk_ hs_ => (hk_.2) hs_)) (fun k_ hk_ => ⟨hk_.1.1, hk_.1.2⟩)); have n1_ := Aside0.mk (Kd.R_mono (ok' := fun k_ => some k_ ≠ (.slice Ao38 t254.length co38 : Value).ownBlock ∧ some k_ ≠ (.slice Ao58 t270.length co58 : Value).ownBlock) (Kd.R_keptB (HO_265003.out) hkp (fun k_ hk_ hs_ => (hk_.2) hs_)) (fun k_ hk_ => ⟨hk_.1.1, hk_.1.2⟩)); have n2_ := Aside0.mk (Kd.R_reok rfl hy0 (fun k_ e_ => HO_274003.out.1 k_ e_)); have n3_ := Aside0.mk (blk_kept (by exact up_ BK240.out) hkp (fun hs_ => (fun e_ => (Kd.R_ne HO_274003.out BK240.out (by decide)) e_) hs_)); have n4_ := Aside0.mk (blk_kept (by exact up_ BK241.out) hkp (fun hs_ => (fun e_ => (Kd.R_ne HO_274003.out BK241.out (by decide)) e_) hs_)); have n5_ := Aside0.mk (blk_kept (by exact up_ BK257.out) hkp (fun hs_ => (fun e_ => (Kd.R_ne HO_274003.out BK257.out (by decide)) e_) hs_)); have n6_ := Aside0.mk (blk_kept (by exact up_ BK264.out) hkp (fun hs_ => (fun e_ => (Kd.R_ne HO_274003.out BK264.out (by decide)) e_) hs_)); have n7_ := Aside0.mk (blk_kept (by exact up_ BK273.out) hkp (fun hs_ => (fun e_ => (Kd.R_ne HO_274003.out BK273.out (by decide)) e_) hs_)); have n8_ := Aside0.mk (hb); clear HO_258003; clear HO_265003; clear HO_274003; clear BK240; clear BK241; clear BK257; clear BK264; clear BK273; clear HB; have HO_258003 := n0_; have HO_265003 := n1_; have HO_274003 := n2_; have BK240 := n3_; have BK241 := n4_; have BK257 := n5_; have BK264 := n6_; have BK273 := n7_; have HB := n8_; clear n0_ n1_ n2_ n3_ n4_ n5_ n6_ n7_ n8_; (try clear hb); (try clear hkp); (try clear hy0); have hcz105_0 : w104.cell? ⟨gb273, 0, none⟩ = some (.int .i64 t267) := (blk_cell BK273.out 0).trans rfl; have hcz105_1 : w104.cell? ⟨gb273, 1, none⟩ = some (.int .i64 t268) := (blk_cell BK273.out 1).trans rfl; have hcz105_2 : w104.cell? ⟨gb273, 2, none⟩ = some (.int .i64 t269) := (blk_cell BK273.out 2).trans rfl; have hcz105_3 : w104.cell? ⟨gb273, 3, none⟩ = some (.slice Ao58 t270.length co58) := (blk_cell BK273.out 3).trans rfl; have hfz105_0 := blk_frozen BK273.out 0; have hfz105_1 := blk_frozen BK273.out 1; have hfz105_2 := blk_frozen BK273.out 2; have hfz105_3 := blk_frozen BK273.out 3) | ((with_reducible refine gate_callee (f := 15) rfl ?_); refine goesL_ (some 54) rfl rfl Try.func15 (by kernel_rfl) rfl #[.agg #[.int .i64 t267, .int .i64 t268, .int .i64 t269, .slice Ao58 t286.length co58], .int .i64 1] rfl (by (try simp only [List.map_toArray, List.map_cons, List.map_nil]); first | done | (rw [show t286.length = t270.length from (Kd.R_reads' HO_274003.out).1.symm] <;> rfl) | rfl | (simp only [List.length_drop, List.length_take]; rfl)) ?_; (with_reducible refine (laws_heldWindow.calls kj21 t267 t268 t269 _ _ t286 1 t287 _ ?side1 ?side2 A88.out).mono ?_); (case side1 => repeat (first | exact (Kd.R_reads' HO_274003.out).2.2 | (with_reducible refine Kd.C_alloc ?_ _) | (with_reducible refine Kd.C_drewN ?_ _) | (with_reducible refine Kd.C_drew ?_))); (case side2 => rw [show t286.length = t270.length from (Kd.R_reads' HO_274003.out).1.symm]; exact (Kd.R_reads' HO_274003.out).2.1); rintro e w106 ⟨rfl, hb⟩; refine ⟨_, rfl, ?_⟩; have n0_ := Aside0.mk (Kd.Q_below (by exact qU_ HO_258003.out) hb); have n1_ := Aside0.mk (Kd.R_below (by exact rU_ HO_265003.out) hb); have n2_ := Aside0.mk (Kd.R_below (by exact rU_ HO_274003.out) hb); have n3_ := Aside0.mk (blk_below (up_ BK240.out) hb); have n4_ := Aside0.mk (blk_below (up_ BK241.out) hb); have n5_ := Aside0.mk (blk_below (up_ BK257.out) hb); have n6_ := Aside0.mk (blk_below (up_ BK264.out) hb); have n7_ := Aside0.mk (blk_below (up_ BK273.out) hb); have n8_ := Aside0.mk (below_step (by repeat (first | (with_reducible first | exact HB.out | apply below_alloc | apply pw_below_drewN | apply below_drew1 | refine below_set ?_ GE240.out | refine below_set ?_ GE241.out | refine below_set ?_ GE257.out | refine below_set ?_ GE264.out | refine below_set ?_ GE273.out) | exact HB.out)) hb); clear HO_258003; clear HO_265003; clear HO_274003; clear BK240; clear BK241; clear BK257; clear BK264; clear BK273; clear HB; have HO_258003 := n0_; have HO_265003 := n1_; have HO_274003 := n2_; have BK240 := n3_; have BK241 := n4_; have BK257 := n5_; have BK264 := n6_; have BK273 := n7_; have HB := n8_; clear n0_ n1_ n2_ n3_ n4_ n5_ n6_ n7_ n8_; (try clear hb); (try clear hb2); (try clear hk); (try clear hi)))
            have n0_ := Aside0.mk (Kd.Q_drew HO_258003.out)
            have n1_ := Aside0.mk (Kd.R_drew HO_265003.out)
            have n2_ := Aside0.mk (Kd.R_drew HO_274003.out)
            have n3_ := Aside0.mk (blk_drew BK240.out)
            have n4_ := Aside0.mk (blk_drew BK241.out)
            have n5_ := Aside0.mk (blk_drew BK257.out)
            have n6_ := Aside0.mk (blk_drew BK264.out)
            have n7_ := Aside0.mk (blk_drew BK273.out)
            have n8_ := Aside0.mk (below_drew1 HB.out)
            clear HO_258003
            clear HO_265003
            clear HO_274003
            clear BK240
            clear BK241
            clear BK257
            clear BK264
            clear BK273
            clear HB
            have HO_258003 := n0_
            have HO_265003 := n1_
            have HO_274003 := n2_
            have BK240 := n3_
            have BK241 := n4_
            have BK257 := n5_
            have BK264 := n6_
            have BK273 := n7_
            have HB := n8_
            clear n0_ n1_ n2_ n3_ n4_ n5_ n6_ n7_ n8_
            refine start_ (n := 7) (S := fun w' => w'.cell? ⟨gb240, 0, none⟩ = some (.int .i64 a0_0) ∧ w'.cell? ⟨gb240, 1, none⟩ = some (.int .i64 a0_1) ∧ w'.cell? ⟨gb240, 2, none⟩ = some (.int .i64 a0_2) ∧ w'.cell? ⟨gb240, 3, none⟩ = some (.slice A0_3 l0_3.length c0_3) ∧ w'.cell? ⟨gb241, 0, none⟩ = some (.int .i64 a1_0) ∧ w'.cell? ⟨gb241, 1, none⟩ = some (.int .i64 a1_1)) (ds := []) #[false, false, false, false, false, false, false] (by kernel_rfl) rfl rfl ⟨(blk_cell BK240.out 0).trans rfl, (blk_cell BK240.out 1).trans rfl, (blk_cell BK240.out 2).trans rfl, (blk_cell BK240.out 3).trans rfl, (blk_cell BK241.out 0).trans rfl, (blk_cell BK241.out 1).trans rfl⟩ (fun hHeld => ?_)
            generalize w106.drew = w107 at HO_258003 HO_265003 HO_274003 BK240 BK241 BK257 BK264 BK273 HB hHeld ⊢
            refine take_ (i := 0) (N := some 60) (v := ?_) (a' := ?_) #[true, false, false, false, false, false, false] rfl rfl (by kernel_rfl) (fun _ _ _ h => h) (Or.inl ⟨by rfl, ?_⟩) hHeld ?_ ?_; rotate_left; (rintro w' ⟨s0, s1, s2, s3, s4, s5⟩; go_simp; with_reducible rfl); rotate_left; (simp only [Act.put, List.setIfInBounds_toArray, List.set_cons_zero, List.set_cons_succ, i64_w, i32_w]; rfl)
            refine take_ (i := 2) (N := some 62) (v := ?_) (a' := ?_) #[true, false, true, false, false, false, false] rfl rfl (by kernel_rfl) (fun _ _ _ h => h) (Or.inl ⟨by rfl, ?_⟩) hHeld ?_ ?_; rotate_left; (rintro w' ⟨s0, s1, s2, s3, s4, s5⟩; go_simp; with_reducible rfl); rotate_left; (simp only [Act.put, List.setIfInBounds_toArray, List.set_cons_zero, List.set_cons_succ, i64_w, i32_w]; rfl)
            refine join_ (σ := Value × Value × Nat) 1 #[true, true, true, true, true, true, false] (fun s_ => [(61, .agg #[.int .i64 t288, .int .i64 t289, .int .i64 t290, s_.1]), (63, .agg #[.int .i64 t294, .int .i64 t295]), (64, .agg #[.int .i64 t296, .int .i64 t297, .int .i64 t298, s_.2.1]), (12, .pointer (some ⟨s_.2.2, 0, none⟩))]) (fun s_ w' => (w'.cell? ⟨gb240, 0, none⟩ = some (.int .i64 a0_0) ∧ w'.cell? ⟨gb240, 1, none⟩ = some (.int .i64 a0_1) ∧ w'.cell? ⟨gb240, 2, none⟩ = some (.int .i64 a0_2) ∧ w'.cell? ⟨gb240, 3, none⟩ = some (.slice A0_3 l0_3.length c0_3) ∧ w'.cell? ⟨gb241, 0, none⟩ = some (.int .i64 a1_0) ∧ w'.cell? ⟨gb241, 1, none⟩ = some (.int .i64 a1_1)) ∧ (Kd.R k33 33 w' w.heap.size (fun k_ => some k_ ≠ (s_.2.1 : Value).ownBlock ∧ some k_ ≠ (.slice Ao38 t254.length co38 : Value).ownBlock ∧ some k_ ≠ (.slice Ao48 t283.length co48 : Value).ownBlock ∧ some k_ ≠ (.slice Ao58 t270.length co58 : Value).ownBlock) s_.1 t291) ∧ (Kd.R k33 33 w' w.heap.size (fun k_ => some k_ ≠ (s_.1 : Value).ownBlock ∧ some k_ ≠ (.slice Ao38 t254.length co38 : Value).ownBlock ∧ some k_ ≠ (.slice Ao48 t283.length co48 : Value).ownBlock ∧ some k_ ≠ (.slice Ao58 t270.length co58 : Value).ownBlock) s_.2.1 t299) ∧ (Kd.Q k33 33 w' w.heap.size (fun k_ => some k_ ≠ (s_.1 : Value).ownBlock ∧ some k_ ≠ (s_.2.1 : Value).ownBlock ∧ some k_ ≠ (.slice Ao48 t283.length co48 : Value).ownBlock ∧ some k_ ≠ (.slice Ao58 t270.length co58 : Value).ownBlock) (.slice Ao38 t254.length co38) t254) ∧ (Kd.R k33 33 w' w.heap.size (fun k_ => some k_ ≠ (s_.1 : Value).ownBlock ∧ some k_ ≠ (s_.2.1 : Value).ownBlock ∧ some k_ ≠ (.slice Ao38 t254.length co38 : Value).ownBlock ∧ some k_ ≠ (.slice Ao58 t270.length co58 : Value).ownBlock) (.slice Ao48 t283.length co48) t283) ∧ (Kd.R k33 33 w' w.heap.size (fun k_ => some k_ ≠ (s_.1 : Value).ownBlock ∧ some k_ ≠ (s_.2.1 : Value).ownBlock ∧ some k_ ≠ (.slice Ao38 t254.length co38 : Value).ownBlock ∧ some k_ ≠ (.slice Ao48 t283.length co48 : Value).ownBlock) (.slice Ao58 t270.length co58) t286) ∧ (w'.heap[gb240]? = some (.cells #[.int .i64 a0_0, .int .i64 a0_1, .int .i64 a0_2, .slice A0_3 l0_3.length c0_3] 24 (0, 0))) ∧ (w'.heap[gb241]? = some (.cells #[.int .i64 a1_0, .int .i64 a1_1] 26 (0, 0))) ∧ (w'.heap[gb257]? = some (.cells #[.int .i64 t251, .int .i64 t252, .int .i64 t253, .slice Ao38 t254.length co38] 30 (0, 0))) ∧ (w'.heap[gb264]? = some (.cells #[.int .i64 t258, .int .i64 t259, .int .i64 t260, .slice Ao48 t283.length co48] 30 (0, 0))) ∧ (w'.heap[gb273]? = some (.cells #[.int .i64 t267, .int .i64 t268, .int .i64 t269, .slice Ao58 t270.length co58] 30 (0, 0))) ∧ (w'.heap[s_.2.2]? = some (.cells #[.int .i64 0, .int .i64 0, .int .i64 0, .slice none 0 0] 30 (0, 0))) ∧ (w.heap.size ≤ s_.2.2) ∧ (w.heap.size ≤ s_.2.2) ∧ (gb240 ≠ s_.2.2) ∧ (s_.2.2 ≠ gb240) ∧ (gb241 ≠ s_.2.2) ∧ (s_.2.2 ≠ gb241) ∧ (gb257 ≠ s_.2.2) ∧ (s_.2.2 ≠ gb257) ∧ (gb264 ≠ s_.2.2) ∧ (s_.2.2 ≠ gb264) ∧ (gb273 ≠ s_.2.2) ∧ (s_.2.2 ≠ gb273) ∧ (Below w.heap.size w w')) ?_ ?_
            rotate_left
            ·
             intro hCont
             refine two_ (i := 1) (j := 5) (Ni := some 61) (Nj := some 12) #[true, true, true, false, false, false, false] #[true, false, true, false, false, true, false] rfl rfl rfl rfl (by kernel_rfl) (by decide) (by decide) (fun K hK => ?_) (fun K hK => ?_)
             ·
              skip
              refine goes_ Try.func10 (by kernel_rfl) rfl #[.agg #[.int .i64 a0_0, .int .i64 a0_1, .int .i64 a0_2, .slice A0_3 l0_3.length c0_3]] (by rfl) rfl rfl (by (try simp only [List.map_toArray, List.map_cons, List.map_nil]); first | done | rfl | (simp only [List.length_drop, List.length_take]; rfl)) ?_
              with_reducible refine (laws_toWindow.calls kj21 a0_0 a0_1 a0_2 _ _ l0_3 t288 t289 t290 t291 _ ?side1 ?side2 A91.out).mono ?_
              (case side1 => repeat (first | exact (Kd.C_below HR0_3.out HB.out) | (with_reducible refine Kd.C_alloc ?_ _) | (with_reducible refine Kd.C_drewN ?_ _) | (with_reducible refine Kd.C_drew ?_)))
              (case side2 => exact HC0_3.out)
              rintro e w108 ⟨v292, rfl, ho0, hb⟩
              refine ⟨_, rfl, ?_⟩
              have n0_ := Aside0.mk (Kd.Q_elder' (by exact qU_ HO_258003.out) (Kd.R_base ho0) hb)
              have n1_ := Aside0.mk (Kd.R_elder' (by exact rU_ HO_265003.out) (Kd.R_base ho0) hb)
              have n2_ := Aside0.mk (Kd.R_elder' (by exact rU_ HO_274003.out) (Kd.R_base ho0) hb)
              have n3_ := Aside0.mk (Kd.R_lower (Kd.R_new' (Kd.R_new' (Kd.R_new' ho0 (Kd.Q_lt (by exact qU_ HO_258003.out))) (Kd.R_lt (by exact rU_ HO_265003.out))) (Kd.R_lt (by exact rU_ HO_274003.out))) (below_size (by repeat (first | (with_reducible first | exact HB.out | apply below_alloc | apply pw_below_drewN | apply below_drew1 | refine below_set ?_ GE240.out | refine below_set ?_ GE241.out | refine below_set ?_ GE257.out | refine below_set ?_ GE264.out | refine below_set ?_ GE273.out) | exact HB.out))))
              have n4_ := Aside0.mk (blk_below (up_ BK240.out) hb)
              have n5_ := Aside0.mk (blk_below (up_ BK241.out) hb)
              have n6_ := Aside0.mk (blk_below (up_ BK257.out) hb)
              have n7_ := Aside0.mk (blk_below (up_ BK264.out) hb)
              have n8_ := Aside0.mk (blk_below (up_ BK273.out) hb)
              have n9_ := Aside0.mk (below_step (by repeat (first | (with_reducible first | exact HB.out | apply below_alloc | apply pw_below_drewN | apply below_drew1 | refine below_set ?_ GE240.out | refine below_set ?_ GE241.out | refine below_set ?_ GE257.out | refine below_set ?_ GE264.out | refine below_set ?_ GE273.out) | exact HB.out)) hb)
              clear HO_258003
              clear HO_265003
              clear HO_274003
              clear BK240
              clear BK241
              clear BK257
              clear BK264
              clear BK273
              clear HB
              have HO_258003 := n0_
              have HO_265003 := n1_
              have HO_274003 := n2_
              have HO293 := n3_
              have BK240 := n4_
              have BK241 := n5_
              have BK257 := n6_
              have BK264 := n7_
              have BK273 := n8_
              have HB := n9_
              clear n0_ n1_ n2_ n3_ n4_ n5_ n6_ n7_ n8_ n9_
              (try clear hb)
              (try clear hb2)
              (try clear hk)
              (try clear hi)
              (try clear ho0)
              refine hK.out _ _ ⟨(blk_cell BK240.out 0).trans rfl, (blk_cell BK240.out 1).trans rfl, (blk_cell BK240.out 2).trans rfl, (blk_cell BK240.out 3).trans rfl, (blk_cell BK241.out 0).trans rfl, (blk_cell BK241.out 1).trans rfl⟩ (fun hHeld => ?_)
              clear hK K
              refine norm_ (a' := ?_) ?_ ?_
              rotate_left
              ·
               show Act.put _ (some 61) _ = _
               simp only [Act.put, List.setIfInBounds_toArray, List.set_cons_zero, List.set_cons_succ, i64_w, i32_w]
               rfl
              refine two_ (i := 3) (j := 5) (Ni := some 63) (Nj := some 12) #[true, true, true, true, false, false, false] #[true, true, true, false, false, true, false] rfl rfl rfl rfl (by kernel_rfl) (by decide) (by decide) (fun K hK => ?_) (fun K hK => ?_)
              ·
               skip
               refine goes_ Try.func11 (by kernel_rfl) rfl #[.agg #[.int .i64 a1_0, .int .i64 a1_1]] (by rfl) rfl rfl (by (try simp only [List.map_toArray, List.map_cons, List.map_nil]); first | done | rfl | (simp only [List.length_drop, List.length_take]; rfl)) ?_
               with_reducible refine (laws_toMark.calls a1_0 a1_1 t294 t295 _ A92.out).mono ?_
               rintro e w109 ⟨rfl, hb⟩
               refine ⟨_, rfl, ?_⟩
               have n0_ := Aside0.mk (Kd.Q_below (by exact qU_ HO_258003.out) hb)
               have n1_ := Aside0.mk (Kd.R_below (by exact rU_ HO_265003.out) hb)
               have n2_ := Aside0.mk (Kd.R_below (by exact rU_ HO_274003.out) hb)
               have n3_ := Aside0.mk (Kd.R_below (by exact rU_ HO293.out) hb)
               have n4_ := Aside0.mk (blk_below (up_ BK240.out) hb)
               have n5_ := Aside0.mk (blk_below (up_ BK241.out) hb)
               have n6_ := Aside0.mk (blk_below (up_ BK257.out) hb)
               have n7_ := Aside0.mk (blk_below (up_ BK264.out) hb)
               have n8_ := Aside0.mk (blk_below (up_ BK273.out) hb)
               have n9_ := Aside0.mk (below_step (by repeat (first | (with_reducible first | exact HB.out | apply below_alloc | apply pw_below_drewN | apply below_drew1 | refine below_set ?_ GE240.out | refine below_set ?_ GE241.out | refine below_set ?_ GE257.out | refine below_set ?_ GE264.out | refine below_set ?_ GE273.out) | exact HB.out)) hb)
               clear HO_258003
               clear HO_265003
               clear HO_274003
               clear HO293
               clear BK240
               clear BK241
               clear BK257
               clear BK264
               clear BK273
               clear HB
               have HO_258003 := n0_
               have HO_265003 := n1_
               have HO_274003 := n2_
               have HO293 := n3_
               have BK240 := n4_
               have BK241 := n5_
               have BK257 := n6_
               have BK264 := n7_
               have BK273 := n8_
               have HB := n9_
               clear n0_ n1_ n2_ n3_ n4_ n5_ n6_ n7_ n8_ n9_
               (try clear hb)
               (try clear hb2)
               (try clear hk)
               (try clear hi)
               obtain ⟨Ao110, co110, eo110⟩ := Kd.R_slice HO293.out
               (first | subst eo110 | (injection eo110 with f1_ f2_ f3_; have f4_ := f1_.symm; have f5_ := f3_.symm; clear f1_ f2_ f3_; subst f4_; subst f5_))
               refine hK.out _ _ ⟨(blk_cell BK240.out 0).trans rfl, (blk_cell BK240.out 1).trans rfl, (blk_cell BK240.out 2).trans rfl, (blk_cell BK240.out 3).trans rfl, (blk_cell BK241.out 0).trans rfl, (blk_cell BK241.out 1).trans rfl⟩ (fun hHeld => ?_)
               clear hK K
               refine norm_ (a' := ?_) ?_ ?_
               rotate_left
               ·
                show Act.put _ (some 63) _ = _
                simp only [Act.put, List.setIfInBounds_toArray, List.set_cons_zero, List.set_cons_succ, i64_w, i32_w]
                rfl
               refine two_ (i := 4) (j := 5) (Ni := some 64) (Nj := some 12) #[true, true, true, true, true, false, false] #[true, true, true, true, false, true, false] rfl rfl rfl rfl (by kernel_rfl) (by decide) (by decide) (fun K hK => ?_) (fun K hK => ?_)
               ·
                skip
                refine goes_ Try.func12 (by kernel_rfl) rfl #[.agg #[.int .i64 t288, .int .i64 t289, .int .i64 t290, .slice Ao110 t291.length co110], .agg #[.int .i64 t294, .int .i64 t295]] (by rfl) rfl rfl (by (try simp only [List.map_toArray, List.map_cons, List.map_nil]); first | done | rfl | (simp only [List.length_drop, List.length_take]; rfl)) ?_
                with_reducible refine (impl_WindowPut.calls kj21 t288 t289 t290 _ _ t291 t294 t295 t296 t297 t298 t299 _ ?side1 ?side2 A93.out).mono ?_
                (case side1 => repeat (first | exact (Kd.R_reads' HO293.out).2.2 | (with_reducible refine Kd.C_alloc ?_ _) | (with_reducible refine Kd.C_drewN ?_ _) | (with_reducible refine Kd.C_drew ?_)))
                (case side2 => exact (Kd.R_reads' HO293.out).2.1)
                rintro e w111 ⟨v300, rfl, ho0, hb⟩
                refine ⟨_, rfl, ?_⟩
                have n0_ := Aside0.mk (Kd.Q_elder' (by exact qU_ HO_258003.out) (Kd.R_base ho0) hb)
                have n1_ := Aside0.mk (Kd.R_elder' (by exact rU_ HO_265003.out) (Kd.R_base ho0) hb)
                have n2_ := Aside0.mk (Kd.R_elder' (by exact rU_ HO_274003.out) (Kd.R_base ho0) hb)
                have n3_ := Aside0.mk (Kd.R_elder' (by exact rU_ HO293.out) (Kd.R_base ho0) hb)
                have n4_ := Aside0.mk (Kd.R_lower (Kd.R_new' (Kd.R_new' (Kd.R_new' (Kd.R_new' ho0 (Kd.Q_lt (by exact qU_ HO_258003.out))) (Kd.R_lt (by exact rU_ HO_265003.out))) (Kd.R_lt (by exact rU_ HO_274003.out))) (Kd.R_lt (by exact rU_ HO293.out))) (below_size (by repeat (first | (with_reducible first | exact HB.out | apply below_alloc | apply pw_below_drewN | apply below_drew1 | refine below_set ?_ GE240.out | refine below_set ?_ GE241.out | refine below_set ?_ GE257.out | refine below_set ?_ GE264.out | refine below_set ?_ GE273.out) | exact HB.out))))
                have n5_ := Aside0.mk (blk_below (up_ BK240.out) hb)
                have n6_ := Aside0.mk (blk_below (up_ BK241.out) hb)
                have n7_ := Aside0.mk (blk_below (up_ BK257.out) hb)
                have n8_ := Aside0.mk (blk_below (up_ BK264.out) hb)
                have n9_ := Aside0.mk (blk_below (up_ BK273.out) hb)
                have n10_ := Aside0.mk (below_step (by repeat (first | (with_reducible first | exact HB.out | apply below_alloc | apply pw_below_drewN | apply below_drew1 | refine below_set ?_ GE240.out | refine below_set ?_ GE241.out | refine below_set ?_ GE257.out | refine below_set ?_ GE264.out | refine below_set ?_ GE273.out) | exact HB.out)) hb)
                clear HO_258003
                clear HO_265003
                clear HO_274003
                clear HO293
                clear BK240
                clear BK241
                clear BK257
                clear BK264
                clear BK273
                clear HB
                have HO_258003 := n0_
                have HO_265003 := n1_
                have HO_274003 := n2_
                have HO293 := n3_
                have HO301 := n4_
                have BK240 := n5_
                have BK241 := n6_
                have BK257 := n7_
                have BK264 := n8_
                have BK273 := n9_
                have HB := n10_
                clear n0_ n1_ n2_ n3_ n4_ n5_ n6_ n7_ n8_ n9_ n10_
                (try clear hb)
                (try clear hb2)
                (try clear hk)
                (try clear hi)
                (try clear ho0)
                refine hK.out _ _ ⟨(blk_cell BK240.out 0).trans rfl, (blk_cell BK240.out 1).trans rfl, (blk_cell BK240.out 2).trans rfl, (blk_cell BK240.out 3).trans rfl, (blk_cell BK241.out 0).trans rfl, (blk_cell BK241.out 1).trans rfl⟩ (fun hHeld => ?_)
                clear hK K
                refine norm_ (a' := ?_) ?_ ?_
                rotate_left
                ·
                 show Act.put _ (some 64) _ = _
                 simp only [Act.put, List.setIfInBounds_toArray, List.set_cons_zero, List.set_cons_succ, i64_w, i32_w]
                 rfl
                refine one_ (i := 5) (N := some 12) #[true, true, true, true, true, true, false] rfl rfl (by kernel_rfl) (by decide) (fun K hK => ?_)
                refine box_step ?hg (N := 12) ?hd (cs := #[.int .i64 0, .int .i64 0, .int .i64 0, .slice none 0 0]) (t := 30) ?hr ?_; (case hd => rfl); (case hg => rfl); (case hr => first | (go_simp; done) | (go_simp; rfl))
                intro gb302 hg w112 hbox hb
                have n0_ := Aside0.mk (Kd.Q_below (by exact qU_ HO_258003.out) hb)
                have n1_ := Aside0.mk (Kd.R_below (by exact rU_ HO_265003.out) hb)
                have n2_ := Aside0.mk (Kd.R_below (by exact rU_ HO_274003.out) hb)
                have n3_ := Aside0.mk (Kd.R_below (by exact rU_ HO293.out) hb)
                have n4_ := Aside0.mk (Kd.R_below (by exact rU_ HO301.out) hb)
                have n5_ := Aside0.mk (blk_below (up_ BK240.out) hb)
                have n6_ := Aside0.mk (blk_below (up_ BK241.out) hb)
                have n7_ := Aside0.mk (blk_below (up_ BK257.out) hb)
                have n8_ := Aside0.mk (blk_below (up_ BK264.out) hb)
                have n9_ := Aside0.mk (blk_below (up_ BK273.out) hb)
                have n10_ := Aside0.mk (below_step (by repeat (first | (with_reducible first | exact HB.out | apply below_alloc | apply pw_below_drewN | apply below_drew1 | refine below_set ?_ GE240.out | refine below_set ?_ GE241.out | refine below_set ?_ GE257.out | refine below_set ?_ GE264.out | refine below_set ?_ GE273.out) | exact HB.out)) hb)
                have n11_ := Aside0.mk (hbox)
                have n12_ := Aside0.mk ((by rw [hg]; exact (below_size (by repeat (first | (with_reducible first | exact HB.out | apply below_alloc | apply pw_below_drewN | apply below_drew1 | refine below_set ?_ GE240.out | refine below_set ?_ GE241.out | refine below_set ?_ GE257.out | refine below_set ?_ GE264.out | refine below_set ?_ GE273.out) | exact HB.out))) : w.heap.size ≤ gb302))
                have n13_ := Aside0.mk ((by rw [hg]; exact (below_size (by repeat (first | (with_reducible first | exact HB.out | apply below_alloc | apply pw_below_drewN | apply below_drew1 | refine below_set ?_ GE240.out | refine below_set ?_ GE241.out | refine below_set ?_ GE257.out | refine below_set ?_ GE264.out | refine below_set ?_ GE273.out) | exact HB.out))) : w.heap.size ≤ gb302))
                have n14_ := Aside0.mk ((by rw [hg]; exact Nat.ne_of_lt (blk_lt (up_ BK240.out)) : gb240 ≠ gb302))
                have n15_ := Aside0.mk ((by rw [hg]; exact Nat.ne_of_gt (blk_lt (up_ BK240.out)) : gb302 ≠ gb240))
                have n16_ := Aside0.mk ((by rw [hg]; exact Nat.ne_of_lt (blk_lt (up_ BK241.out)) : gb241 ≠ gb302))
                have n17_ := Aside0.mk ((by rw [hg]; exact Nat.ne_of_gt (blk_lt (up_ BK241.out)) : gb302 ≠ gb241))
                have n18_ := Aside0.mk ((by rw [hg]; exact Nat.ne_of_lt (blk_lt (up_ BK257.out)) : gb257 ≠ gb302))
                have n19_ := Aside0.mk ((by rw [hg]; exact Nat.ne_of_gt (blk_lt (up_ BK257.out)) : gb302 ≠ gb257))
                have n20_ := Aside0.mk ((by rw [hg]; exact Nat.ne_of_lt (blk_lt (up_ BK264.out)) : gb264 ≠ gb302))
                have n21_ := Aside0.mk ((by rw [hg]; exact Nat.ne_of_gt (blk_lt (up_ BK264.out)) : gb302 ≠ gb264))
                have n22_ := Aside0.mk ((by rw [hg]; exact Nat.ne_of_lt (blk_lt (up_ BK273.out)) : gb273 ≠ gb302))
                have n23_ := Aside0.mk ((by rw [hg]; exact Nat.ne_of_gt (blk_lt (up_ BK273.out)) : gb302 ≠ gb273))
                clear HO_258003
                clear HO_265003
                clear HO_274003
                clear HO293
                clear HO301
                clear BK240
                clear BK241
                clear BK257
                clear BK264
                clear BK273
                clear HB
                have HO_258003 := n0_
                have HO_265003 := n1_
                have HO_274003 := n2_
                have HO293 := n3_
                have HO301 := n4_
                have BK240 := n5_
                have BK241 := n6_
                have BK257 := n7_
                have BK264 := n8_
                have BK273 := n9_
                have HB := n10_
                have BK302 := n11_
                have GW302 := n12_
                have GE302 := n13_
                have NB240_302 := n14_
                have NB302_240 := n15_
                have NB241_302 := n16_
                have NB302_241 := n17_
                have NB257_302 := n18_
                have NB302_257 := n19_
                have NB264_302 := n20_
                have NB302_264 := n21_
                have NB273_302 := n22_
                have NB302_273 := n23_
                clear n0_ n1_ n2_ n3_ n4_ n5_ n6_ n7_ n8_ n9_ n10_ n11_ n12_ n13_ n14_ n15_ n16_ n17_ n18_ n19_ n20_ n21_ n22_ n23_
                clear hb hbox hg
                refine hK.out _ _ ⟨(blk_cell BK240.out 0).trans rfl, (blk_cell BK240.out 1).trans rfl, (blk_cell BK240.out 2).trans rfl, (blk_cell BK240.out 3).trans rfl, (blk_cell BK241.out 0).trans rfl, (blk_cell BK241.out 1).trans rfl⟩ (fun hHeld => ?_)
                clear hK K
                refine norm_ (a' := ?_) ?_ ?_
                rotate_left
                ·
                 show Act.put _ (some 12) _ = _
                 simp only [Act.put, List.setIfInBounds_toArray, List.set_cons_zero, List.set_cons_succ, i64_w, i32_w]
                 rfl
                exact norm_ (by simp only [putAll, Act.put, List.setIfInBounds_toArray, List.set_cons_zero, List.set_cons_succ]) (hCont (.slice Ao110 t291.length co110, v300, gb302) _ ⟨hHeld, (by exact rU_ (Kd.R_mono HO293.out (fun _ hk => ⟨hk.2, ⟨hk.1.1.1.2, ⟨hk.1.1.2, hk.1.2⟩⟩⟩))), (by exact rU_ (Kd.R_mono HO301.out (fun _ hk => ⟨hk.2, ⟨hk.1.1.1.2, ⟨hk.1.1.2, hk.1.2⟩⟩⟩))), (by exact qU_ (Kd.Q_mono HO_258003.out (fun _ hk => ⟨hk.1.2, ⟨hk.2, ⟨hk.1.1.1, hk.1.1.2⟩⟩⟩))), (by exact rU_ (Kd.R_mono HO_265003.out (fun _ hk => ⟨hk.1.2, ⟨hk.2, ⟨hk.1.1.1, hk.1.1.2⟩⟩⟩))), (by exact rU_ (Kd.R_mono HO_274003.out (fun _ hk => ⟨hk.1.2, ⟨hk.2, ⟨hk.1.1.1, hk.1.1.2⟩⟩⟩))), (by exact up_ BK240.out), (by exact up_ BK241.out), (by exact up_ BK257.out), (by exact up_ BK264.out), (by exact up_ BK273.out), (by exact up_ BK302.out), GW302.out, GE302.out, NB240_302.out, NB302_240.out, NB241_302.out, NB302_241.out, NB257_302.out, NB302_257.out, NB264_302.out, NB302_264.out, NB273_302.out, NB302_273.out, (by repeat (first | (with_reducible first | exact HB.out | apply below_alloc | apply pw_below_drewN | apply below_drew1 | refine below_set ?_ GE240.out | refine below_set ?_ GE241.out | refine below_set ?_ GE257.out | refine below_set ?_ GE264.out | refine below_set ?_ GE273.out | refine below_set ?_ GE302.out) | exact HB.out))⟩)
               ·
                skip
                refine box_step ?hg (N := 12) ?hd (cs := #[.int .i64 0, .int .i64 0, .int .i64 0, .slice none 0 0]) (t := 30) ?hr ?_; (case hd => rfl); (case hg => rfl); (case hr => first | (go_simp; done) | (go_simp; rfl))
                intro gb302 hg w110 hbox hb
                have n0_ := Aside0.mk (Kd.Q_below (by exact qU_ HO_258003.out) hb)
                have n1_ := Aside0.mk (Kd.R_below (by exact rU_ HO_265003.out) hb)
                have n2_ := Aside0.mk (Kd.R_below (by exact rU_ HO_274003.out) hb)
                have n3_ := Aside0.mk (Kd.R_below (by exact rU_ HO293.out) hb)
                have n4_ := Aside0.mk (blk_below (up_ BK240.out) hb)
                have n5_ := Aside0.mk (blk_below (up_ BK241.out) hb)
                have n6_ := Aside0.mk (blk_below (up_ BK257.out) hb)
                have n7_ := Aside0.mk (blk_below (up_ BK264.out) hb)
                have n8_ := Aside0.mk (blk_below (up_ BK273.out) hb)
                have n9_ := Aside0.mk (below_step (by repeat (first | (with_reducible first | exact HB.out | apply below_alloc | apply pw_below_drewN | apply below_drew1 | refine below_set ?_ GE240.out | refine below_set ?_ GE241.out | refine below_set ?_ GE257.out | refine below_set ?_ GE264.out | refine below_set ?_ GE273.out) | exact HB.out)) hb)
                have n10_ := Aside0.mk (hbox)
                have n11_ := Aside0.mk ((by rw [hg]; exact (below_size (by repeat (first | (with_reducible first | exact HB.out | apply below_alloc | apply pw_below_drewN | apply below_drew1 | refine below_set ?_ GE240.out | refine below_set ?_ GE241.out | refine below_set ?_ GE257.out | refine below_set ?_ GE264.out | refine below_set ?_ GE273.out) | exact HB.out))) : w.heap.size ≤ gb302))
                have n12_ := Aside0.mk ((by rw [hg]; exact (below_size (by repeat (first | (with_reducible first | exact HB.out | apply below_alloc | apply pw_below_drewN | apply below_drew1 | refine below_set ?_ GE240.out | refine below_set ?_ GE241.out | refine below_set ?_ GE257.out | refine below_set ?_ GE264.out | refine below_set ?_ GE273.out) | exact HB.out))) : w.heap.size ≤ gb302))
                have n13_ := Aside0.mk ((by rw [hg]; exact Nat.ne_of_lt (blk_lt (up_ BK240.out)) : gb240 ≠ gb302))
                have n14_ := Aside0.mk ((by rw [hg]; exact Nat.ne_of_gt (blk_lt (up_ BK240.out)) : gb302 ≠ gb240))
                have n15_ := Aside0.mk ((by rw [hg]; exact Nat.ne_of_lt (blk_lt (up_ BK241.out)) : gb241 ≠ gb302))
                have n16_ := Aside0.mk ((by rw [hg]; exact Nat.ne_of_gt (blk_lt (up_ BK241.out)) : gb302 ≠ gb241))
                have n17_ := Aside0.mk ((by rw [hg]; exact Nat.ne_of_lt (blk_lt (up_ BK257.out)) : gb257 ≠ gb302))
                have n18_ := Aside0.mk ((by rw [hg]; exact Nat.ne_of_gt (blk_lt (up_ BK257.out)) : gb302 ≠ gb257))
                have n19_ := Aside0.mk ((by rw [hg]; exact Nat.ne_of_lt (blk_lt (up_ BK264.out)) : gb264 ≠ gb302))
                have n20_ := Aside0.mk ((by rw [hg]; exact Nat.ne_of_gt (blk_lt (up_ BK264.out)) : gb302 ≠ gb264))
                have n21_ := Aside0.mk ((by rw [hg]; exact Nat.ne_of_lt (blk_lt (up_ BK273.out)) : gb273 ≠ gb302))
                have n22_ := Aside0.mk ((by rw [hg]; exact Nat.ne_of_gt (blk_lt (up_ BK273.out)) : gb302 ≠ gb273))
                clear HO_258003
                clear HO_265003
                clear HO_274003
                clear HO293
                clear BK240
                clear BK241
                clear BK257
                clear BK264
                clear BK273
                clear HB
                have HO_258003 := n0_
                have HO_265003 := n1_
                have HO_274003 := n2_
                have HO293 := n3_
                have BK240 := n4_
                have BK241 := n5_
                have BK257 := n6_
                have BK264 := n7_
                have BK273 := n8_
                have HB := n9_
                have BK302 := n10_
                have GW302 := n11_
                have GE302 := n12_
                have NB240_302 := n13_
                have NB302_240 := n14_
                have NB241_302 := n15_
                have NB302_241 := n16_
                have NB257_302 := n17_
                have NB302_257 := n18_
                have NB264_302 := n19_
                have NB302_264 := n20_
                have NB273_302 := n21_
                have NB302_273 := n22_
                clear n0_ n1_ n2_ n3_ n4_ n5_ n6_ n7_ n8_ n9_ n10_ n11_ n12_ n13_ n14_ n15_ n16_ n17_ n18_ n19_ n20_ n21_ n22_
                clear hb hbox hg
                obtain ⟨Ao111, co111, eo111⟩ := Kd.R_slice HO293.out
                (first | subst eo111 | (injection eo111 with f1_ f2_ f3_; have f4_ := f1_.symm; have f5_ := f3_.symm; clear f1_ f2_ f3_; subst f4_; subst f5_))
                refine hK.out _ _ ⟨(blk_cell BK240.out 0).trans rfl, (blk_cell BK240.out 1).trans rfl, (blk_cell BK240.out 2).trans rfl, (blk_cell BK240.out 3).trans rfl, (blk_cell BK241.out 0).trans rfl, (blk_cell BK241.out 1).trans rfl⟩ (fun hHeld => ?_)
                clear hK K
                refine norm_ (a' := ?_) ?_ ?_
                rotate_left
                ·
                 show Act.put _ (some 12) _ = _
                 simp only [Act.put, List.setIfInBounds_toArray, List.set_cons_zero, List.set_cons_succ, i64_w, i32_w]
                 rfl
                refine one_ (i := 4) (N := some 64) #[true, true, true, true, true, true, false] rfl rfl (by kernel_rfl) (by decide) (fun K hK => ?_)
                refine goes_ Try.func12 (by kernel_rfl) rfl #[.agg #[.int .i64 t288, .int .i64 t289, .int .i64 t290, .slice Ao111 t291.length co111], .agg #[.int .i64 t294, .int .i64 t295]] (by rfl) rfl rfl (by (try simp only [List.map_toArray, List.map_cons, List.map_nil]); first | done | rfl | (simp only [List.length_drop, List.length_take]; rfl)) ?_
                with_reducible refine (impl_WindowPut.calls kj21 t288 t289 t290 _ _ t291 t294 t295 t296 t297 t298 t299 _ ?side1 ?side2 A93.out).mono ?_
                (case side1 => repeat (first | exact (Kd.R_reads' HO293.out).2.2 | (with_reducible refine Kd.C_alloc ?_ _) | (with_reducible refine Kd.C_drewN ?_ _) | (with_reducible refine Kd.C_drew ?_)))
                (case side2 => exact (Kd.R_reads' HO293.out).2.1)
                rintro e w112 ⟨v300, rfl, ho0, hb⟩
                refine ⟨_, rfl, ?_⟩
                have n0_ := Aside0.mk (Kd.Q_elder' (by exact qU_ HO_258003.out) (Kd.R_base ho0) hb)
                have n1_ := Aside0.mk (Kd.R_elder' (by exact rU_ HO_265003.out) (Kd.R_base ho0) hb)
                have n2_ := Aside0.mk (Kd.R_elder' (by exact rU_ HO_274003.out) (Kd.R_base ho0) hb)
                have n3_ := Aside0.mk (Kd.R_elder' (by exact rU_ HO293.out) (Kd.R_base ho0) hb)
                have n4_ := Aside0.mk (Kd.R_lower (Kd.R_new' (Kd.R_new' (Kd.R_new' (Kd.R_new' ho0 (Kd.Q_lt (by exact qU_ HO_258003.out))) (Kd.R_lt (by exact rU_ HO_265003.out))) (Kd.R_lt (by exact rU_ HO_274003.out))) (Kd.R_lt (by exact rU_ HO293.out))) (below_size (by repeat (first | (with_reducible first | exact HB.out | apply below_alloc | apply pw_below_drewN | apply below_drew1 | refine below_set ?_ GE240.out | refine below_set ?_ GE241.out | refine below_set ?_ GE257.out | refine below_set ?_ GE264.out | refine below_set ?_ GE273.out | refine below_set ?_ GE302.out) | exact HB.out))))
                have n5_ := Aside0.mk (blk_below (up_ BK240.out) hb)
                have n6_ := Aside0.mk (blk_below (up_ BK241.out) hb)
                have n7_ := Aside0.mk (blk_below (up_ BK257.out) hb)
                have n8_ := Aside0.mk (blk_below (up_ BK264.out) hb)
                have n9_ := Aside0.mk (blk_below (up_ BK273.out) hb)
                have n10_ := Aside0.mk (blk_below (up_ BK302.out) hb)
                have n11_ := Aside0.mk (below_step (by repeat (first | (with_reducible first | exact HB.out | apply below_alloc | apply pw_below_drewN | apply below_drew1 | refine below_set ?_ GE240.out | refine below_set ?_ GE241.out | refine below_set ?_ GE257.out | refine below_set ?_ GE264.out | refine below_set ?_ GE273.out | refine below_set ?_ GE302.out) | exact HB.out)) hb)
                clear HO_258003
                clear HO_265003
                clear HO_274003
                clear HO293
                clear BK240
                clear BK241
                clear BK257
                clear BK264
                clear BK273
                clear BK302
                clear HB
                have HO_258003 := n0_
                have HO_265003 := n1_
                have HO_274003 := n2_
                have HO293 := n3_
                have HO301 := n4_
                have BK240 := n5_
                have BK241 := n6_
                have BK257 := n7_
                have BK264 := n8_
                have BK273 := n9_
                have BK302 := n10_
                have HB := n11_
                clear n0_ n1_ n2_ n3_ n4_ n5_ n6_ n7_ n8_ n9_ n10_ n11_
                (try clear hb)
                (try clear hb2)
                (try clear hk)
                (try clear hi)
                (try clear ho0)
                refine hK.out _ _ ⟨(blk_cell BK240.out 0).trans rfl, (blk_cell BK240.out 1).trans rfl, (blk_cell BK240.out 2).trans rfl, (blk_cell BK240.out 3).trans rfl, (blk_cell BK241.out 0).trans rfl, (blk_cell BK241.out 1).trans rfl⟩ (fun hHeld => ?_)
                clear hK K
                refine norm_ (a' := ?_) ?_ ?_
                rotate_left
                ·
                 show Act.put _ (some 64) _ = _
                 simp only [Act.put, List.setIfInBounds_toArray, List.set_cons_zero, List.set_cons_succ, i64_w, i32_w]
                 rfl
                exact norm_ (by simp only [putAll, Act.put, List.setIfInBounds_toArray, List.set_cons_zero, List.set_cons_succ]) (hCont (.slice Ao111 t291.length co111, v300, gb302) _ ⟨hHeld, (by exact rU_ (Kd.R_mono HO293.out (fun _ hk => ⟨hk.2, ⟨hk.1.1.1.2, ⟨hk.1.1.2, hk.1.2⟩⟩⟩))), (by exact rU_ (Kd.R_mono HO301.out (fun _ hk => ⟨hk.2, ⟨hk.1.1.1.2, ⟨hk.1.1.2, hk.1.2⟩⟩⟩))), (by exact qU_ (Kd.Q_mono HO_258003.out (fun _ hk => ⟨hk.1.2, ⟨hk.2, ⟨hk.1.1.1, hk.1.1.2⟩⟩⟩))), (by exact rU_ (Kd.R_mono HO_265003.out (fun _ hk => ⟨hk.1.2, ⟨hk.2, ⟨hk.1.1.1, hk.1.1.2⟩⟩⟩))), (by exact rU_ (Kd.R_mono HO_274003.out (fun _ hk => ⟨hk.1.2, ⟨hk.2, ⟨hk.1.1.1, hk.1.1.2⟩⟩⟩))), (by exact up_ BK240.out), (by exact up_ BK241.out), (by exact up_ BK257.out), (by exact up_ BK264.out), (by exact up_ BK273.out), (by exact up_ BK302.out), GW302.out, GE302.out, NB240_302.out, NB302_240.out, NB241_302.out, NB302_241.out, NB257_302.out, NB302_257.out, NB264_302.out, NB302_264.out, NB273_302.out, NB302_273.out, (by repeat (first | (with_reducible first | exact HB.out | apply below_alloc | apply pw_below_drewN | apply below_drew1 | refine below_set ?_ GE240.out | refine below_set ?_ GE241.out | refine below_set ?_ GE257.out | refine below_set ?_ GE264.out | refine below_set ?_ GE273.out | refine below_set ?_ GE302.out) | exact HB.out))⟩)
              ·
               skip
               refine box_step ?hg (N := 12) ?hd (cs := #[.int .i64 0, .int .i64 0, .int .i64 0, .slice none 0 0]) (t := 30) ?hr ?_; (case hd => rfl); (case hg => rfl); (case hr => first | (go_simp; done) | (go_simp; rfl))
               intro gb302 hg w109 hbox hb
               have n0_ := Aside0.mk (Kd.Q_below (by exact qU_ HO_258003.out) hb)
               have n1_ := Aside0.mk (Kd.R_below (by exact rU_ HO_265003.out) hb)
               have n2_ := Aside0.mk (Kd.R_below (by exact rU_ HO_274003.out) hb)
               have n3_ := Aside0.mk (Kd.R_below (by exact rU_ HO293.out) hb)
               have n4_ := Aside0.mk (blk_below (up_ BK240.out) hb)
               have n5_ := Aside0.mk (blk_below (up_ BK241.out) hb)
               have n6_ := Aside0.mk (blk_below (up_ BK257.out) hb)
               have n7_ := Aside0.mk (blk_below (up_ BK264.out) hb)
               have n8_ := Aside0.mk (blk_below (up_ BK273.out) hb)
               have n9_ := Aside0.mk (below_step (by repeat (first | (with_reducible first | exact HB.out | apply below_alloc | apply pw_below_drewN | apply below_drew1 | refine below_set ?_ GE240.out | refine below_set ?_ GE241.out | refine below_set ?_ GE257.out | refine below_set ?_ GE264.out | refine below_set ?_ GE273.out) | exact HB.out)) hb)
               have n10_ := Aside0.mk (hbox)
               have n11_ := Aside0.mk ((by rw [hg]; exact (below_size (by repeat (first | (with_reducible first | exact HB.out | apply below_alloc | apply pw_below_drewN | apply below_drew1 | refine below_set ?_ GE240.out | refine below_set ?_ GE241.out | refine below_set ?_ GE257.out | refine below_set ?_ GE264.out | refine below_set ?_ GE273.out) | exact HB.out))) : w.heap.size ≤ gb302))
               have n12_ := Aside0.mk ((by rw [hg]; exact (below_size (by repeat (first | (with_reducible first | exact HB.out | apply below_alloc | apply pw_below_drewN | apply below_drew1 | refine below_set ?_ GE240.out | refine below_set ?_ GE241.out | refine below_set ?_ GE257.out | refine below_set ?_ GE264.out | refine below_set ?_ GE273.out) | exact HB.out))) : w.heap.size ≤ gb302))
               have n13_ := Aside0.mk ((by rw [hg]; exact Nat.ne_of_lt (blk_lt (up_ BK240.out)) : gb240 ≠ gb302))
               have n14_ := Aside0.mk ((by rw [hg]; exact Nat.ne_of_gt (blk_lt (up_ BK240.out)) : gb302 ≠ gb240))
               have n15_ := Aside0.mk ((by rw [hg]; exact Nat.ne_of_lt (blk_lt (up_ BK241.out)) : gb241 ≠ gb302))
               have n16_ := Aside0.mk ((by rw [hg]; exact Nat.ne_of_gt (blk_lt (up_ BK241.out)) : gb302 ≠ gb241))
               have n17_ := Aside0.mk ((by rw [hg]; exact Nat.ne_of_lt (blk_lt (up_ BK257.out)) : gb257 ≠ gb302))
               have n18_ := Aside0.mk ((by rw [hg]; exact Nat.ne_of_gt (blk_lt (up_ BK257.out)) : gb302 ≠ gb257))
               have n19_ := Aside0.mk ((by rw [hg]; exact Nat.ne_of_lt (blk_lt (up_ BK264.out)) : gb264 ≠ gb302))
               have n20_ := Aside0.mk ((by rw [hg]; exact Nat.ne_of_gt (blk_lt (up_ BK264.out)) : gb302 ≠ gb264))
               have n21_ := Aside0.mk ((by rw [hg]; exact Nat.ne_of_lt (blk_lt (up_ BK273.out)) : gb273 ≠ gb302))
               have n22_ := Aside0.mk ((by rw [hg]; exact Nat.ne_of_gt (blk_lt (up_ BK273.out)) : gb302 ≠ gb273))
               clear HO_258003
               clear HO_265003
               clear HO_274003
               clear HO293
               clear BK240
               clear BK241
               clear BK257
               clear BK264
               clear BK273
               clear HB
               have HO_258003 := n0_
               have HO_265003 := n1_
               have HO_274003 := n2_
               have HO293 := n3_
               have BK240 := n4_
               have BK241 := n5_
               have BK257 := n6_
               have BK264 := n7_
               have BK273 := n8_
               have HB := n9_
               have BK302 := n10_
               have GW302 := n11_
               have GE302 := n12_
               have NB240_302 := n13_
               have NB302_240 := n14_
               have NB241_302 := n15_
               have NB302_241 := n16_
               have NB257_302 := n17_
               have NB302_257 := n18_
               have NB264_302 := n19_
               have NB302_264 := n20_
               have NB273_302 := n21_
               have NB302_273 := n22_
               clear n0_ n1_ n2_ n3_ n4_ n5_ n6_ n7_ n8_ n9_ n10_ n11_ n12_ n13_ n14_ n15_ n16_ n17_ n18_ n19_ n20_ n21_ n22_
               clear hb hbox hg
               refine hK.out _ _ ⟨(blk_cell BK240.out 0).trans rfl, (blk_cell BK240.out 1).trans rfl, (blk_cell BK240.out 2).trans rfl, (blk_cell BK240.out 3).trans rfl, (blk_cell BK241.out 0).trans rfl, (blk_cell BK241.out 1).trans rfl⟩ (fun hHeld => ?_)
               clear hK K
               refine norm_ (a' := ?_) ?_ ?_
               rotate_left
               ·
                show Act.put _ (some 12) _ = _
                simp only [Act.put, List.setIfInBounds_toArray, List.set_cons_zero, List.set_cons_succ, i64_w, i32_w]
                rfl
               refine one_ (i := 3) (N := some 63) #[true, true, true, true, false, true, false] rfl rfl (by kernel_rfl) (by decide) (fun K hK => ?_)
               refine goes_ Try.func11 (by kernel_rfl) rfl #[.agg #[.int .i64 a1_0, .int .i64 a1_1]] (by rfl) rfl rfl (by (try simp only [List.map_toArray, List.map_cons, List.map_nil]); first | done | rfl | (simp only [List.length_drop, List.length_take]; rfl)) ?_
               with_reducible refine (laws_toMark.calls a1_0 a1_1 t294 t295 _ A92.out).mono ?_
               rintro e w110 ⟨rfl, hb⟩
               refine ⟨_, rfl, ?_⟩
               have n0_ := Aside0.mk (Kd.Q_below (by exact qU_ HO_258003.out) hb)
               have n1_ := Aside0.mk (Kd.R_below (by exact rU_ HO_265003.out) hb)
               have n2_ := Aside0.mk (Kd.R_below (by exact rU_ HO_274003.out) hb)
               have n3_ := Aside0.mk (Kd.R_below (by exact rU_ HO293.out) hb)
               have n4_ := Aside0.mk (blk_below (up_ BK240.out) hb)
               have n5_ := Aside0.mk (blk_below (up_ BK241.out) hb)
               have n6_ := Aside0.mk (blk_below (up_ BK257.out) hb)
               have n7_ := Aside0.mk (blk_below (up_ BK264.out) hb)
               have n8_ := Aside0.mk (blk_below (up_ BK273.out) hb)
               have n9_ := Aside0.mk (blk_below (up_ BK302.out) hb)
               have n10_ := Aside0.mk (below_step (by repeat (first | (with_reducible first | exact HB.out | apply below_alloc | apply pw_below_drewN | apply below_drew1 | refine below_set ?_ GE240.out | refine below_set ?_ GE241.out | refine below_set ?_ GE257.out | refine below_set ?_ GE264.out | refine below_set ?_ GE273.out | refine below_set ?_ GE302.out) | exact HB.out)) hb)
               clear HO_258003
               clear HO_265003
               clear HO_274003
               clear HO293
               clear BK240
               clear BK241
               clear BK257
               clear BK264
               clear BK273
               clear BK302
               clear HB
               have HO_258003 := n0_
               have HO_265003 := n1_
               have HO_274003 := n2_
               have HO293 := n3_
               have BK240 := n4_
               have BK241 := n5_
               have BK257 := n6_
               have BK264 := n7_
               have BK273 := n8_
               have BK302 := n9_
               have HB := n10_
               clear n0_ n1_ n2_ n3_ n4_ n5_ n6_ n7_ n8_ n9_ n10_
               (try clear hb)
               (try clear hb2)
               (try clear hk)
               (try clear hi)
               obtain ⟨Ao111, co111, eo111⟩ := Kd.R_slice HO293.out
               (first | subst eo111 | (injection eo111 with f1_ f2_ f3_; have f4_ := f1_.symm; have f5_ := f3_.symm; clear f1_ f2_ f3_; subst f4_; subst f5_))
               refine hK.out _ _ ⟨(blk_cell BK240.out 0).trans rfl, (blk_cell BK240.out 1).trans rfl, (blk_cell BK240.out 2).trans rfl, (blk_cell BK240.out 3).trans rfl, (blk_cell BK241.out 0).trans rfl, (blk_cell BK241.out 1).trans rfl⟩ (fun hHeld => ?_)
               clear hK K
               refine norm_ (a' := ?_) ?_ ?_
               rotate_left
               ·
                show Act.put _ (some 63) _ = _
                simp only [Act.put, List.setIfInBounds_toArray, List.set_cons_zero, List.set_cons_succ, i64_w, i32_w]
                rfl
               refine one_ (i := 4) (N := some 64) #[true, true, true, true, true, true, false] rfl rfl (by kernel_rfl) (by decide) (fun K hK => ?_)
               refine goes_ Try.func12 (by kernel_rfl) rfl #[.agg #[.int .i64 t288, .int .i64 t289, .int .i64 t290, .slice Ao111 t291.length co111], .agg #[.int .i64 t294, .int .i64 t295]] (by rfl) rfl rfl (by (try simp only [List.map_toArray, List.map_cons, List.map_nil]); first | done | rfl | (simp only [List.length_drop, List.length_take]; rfl)) ?_
               with_reducible refine (impl_WindowPut.calls kj21 t288 t289 t290 _ _ t291 t294 t295 t296 t297 t298 t299 _ ?side1 ?side2 A93.out).mono ?_
               (case side1 => repeat (first | exact (Kd.R_reads' HO293.out).2.2 | (with_reducible refine Kd.C_alloc ?_ _) | (with_reducible refine Kd.C_drewN ?_ _) | (with_reducible refine Kd.C_drew ?_)))
               (case side2 => exact (Kd.R_reads' HO293.out).2.1)
               rintro e w112 ⟨v300, rfl, ho0, hb⟩
               refine ⟨_, rfl, ?_⟩
               have n0_ := Aside0.mk (Kd.Q_elder' (by exact qU_ HO_258003.out) (Kd.R_base ho0) hb)
               have n1_ := Aside0.mk (Kd.R_elder' (by exact rU_ HO_265003.out) (Kd.R_base ho0) hb)
               have n2_ := Aside0.mk (Kd.R_elder' (by exact rU_ HO_274003.out) (Kd.R_base ho0) hb)
               have n3_ := Aside0.mk (Kd.R_elder' (by exact rU_ HO293.out) (Kd.R_base ho0) hb)
               have n4_ := Aside0.mk (Kd.R_lower (Kd.R_new' (Kd.R_new' (Kd.R_new' (Kd.R_new' ho0 (Kd.Q_lt (by exact qU_ HO_258003.out))) (Kd.R_lt (by exact rU_ HO_265003.out))) (Kd.R_lt (by exact rU_ HO_274003.out))) (Kd.R_lt (by exact rU_ HO293.out))) (below_size (by repeat (first | (with_reducible first | exact HB.out | apply below_alloc | apply pw_below_drewN | apply below_drew1 | refine below_set ?_ GE240.out | refine below_set ?_ GE241.out | refine below_set ?_ GE257.out | refine below_set ?_ GE264.out | refine below_set ?_ GE273.out | refine below_set ?_ GE302.out) | exact HB.out))))
               have n5_ := Aside0.mk (blk_below (up_ BK240.out) hb)
               have n6_ := Aside0.mk (blk_below (up_ BK241.out) hb)
               have n7_ := Aside0.mk (blk_below (up_ BK257.out) hb)
               have n8_ := Aside0.mk (blk_below (up_ BK264.out) hb)
               have n9_ := Aside0.mk (blk_below (up_ BK273.out) hb)
               have n10_ := Aside0.mk (blk_below (up_ BK302.out) hb)
               have n11_ := Aside0.mk (below_step (by repeat (first | (with_reducible first | exact HB.out | apply below_alloc | apply pw_below_drewN | apply below_drew1 | refine below_set ?_ GE240.out | refine below_set ?_ GE241.out | refine below_set ?_ GE257.out | refine below_set ?_ GE264.out | refine below_set ?_ GE273.out | refine below_set ?_ GE302.out) | exact HB.out)) hb)
               clear HO_258003
               clear HO_265003
               clear HO_274003
               clear HO293
               clear BK240
               clear BK241
               clear BK257
               clear BK264
               clear BK273
               clear BK302
               clear HB
               have HO_258003 := n0_
               have HO_265003 := n1_
               have HO_274003 := n2_
               have HO293 := n3_
               have HO301 := n4_
               have BK240 := n5_
               have BK241 := n6_
               have BK257 := n7_
               have BK264 := n8_
               have BK273 := n9_
               have BK302 := n10_
               have HB := n11_
               clear n0_ n1_ n2_ n3_ n4_ n5_ n6_ n7_ n8_ n9_ n10_ n11_
               (try clear hb)
               (try clear hb2)
               (try clear hk)
               (try clear hi)
               (try clear ho0)
               refine hK.out _ _ ⟨(blk_cell BK240.out 0).trans rfl, (blk_cell BK240.out 1).trans rfl, (blk_cell BK240.out 2).trans rfl, (blk_cell BK240.out 3).trans rfl, (blk_cell BK241.out 0).trans rfl, (blk_cell BK241.out 1).trans rfl⟩ (fun hHeld => ?_)
               clear hK K
               refine norm_ (a' := ?_) ?_ ?_
               rotate_left
               ·
                show Act.put _ (some 64) _ = _
                simp only [Act.put, List.setIfInBounds_toArray, List.set_cons_zero, List.set_cons_succ, i64_w, i32_w]
                rfl
               exact norm_ (by simp only [putAll, Act.put, List.setIfInBounds_toArray, List.set_cons_zero, List.set_cons_succ]) (hCont (.slice Ao111 t291.length co111, v300, gb302) _ ⟨hHeld, (by exact rU_ (Kd.R_mono HO293.out (fun _ hk => ⟨hk.2, ⟨hk.1.1.1.2, ⟨hk.1.1.2, hk.1.2⟩⟩⟩))), (by exact rU_ (Kd.R_mono HO301.out (fun _ hk => ⟨hk.2, ⟨hk.1.1.1.2, ⟨hk.1.1.2, hk.1.2⟩⟩⟩))), (by exact qU_ (Kd.Q_mono HO_258003.out (fun _ hk => ⟨hk.1.2, ⟨hk.2, ⟨hk.1.1.1, hk.1.1.2⟩⟩⟩))), (by exact rU_ (Kd.R_mono HO_265003.out (fun _ hk => ⟨hk.1.2, ⟨hk.2, ⟨hk.1.1.1, hk.1.1.2⟩⟩⟩))), (by exact rU_ (Kd.R_mono HO_274003.out (fun _ hk => ⟨hk.1.2, ⟨hk.2, ⟨hk.1.1.1, hk.1.1.2⟩⟩⟩))), (by exact up_ BK240.out), (by exact up_ BK241.out), (by exact up_ BK257.out), (by exact up_ BK264.out), (by exact up_ BK273.out), (by exact up_ BK302.out), GW302.out, GE302.out, NB240_302.out, NB302_240.out, NB241_302.out, NB302_241.out, NB257_302.out, NB302_257.out, NB264_302.out, NB302_264.out, NB273_302.out, NB302_273.out, (by repeat (first | (with_reducible first | exact HB.out | apply below_alloc | apply pw_below_drewN | apply below_drew1 | refine below_set ?_ GE240.out | refine below_set ?_ GE241.out | refine below_set ?_ GE257.out | refine below_set ?_ GE264.out | refine below_set ?_ GE273.out | refine below_set ?_ GE302.out) | exact HB.out))⟩)
             ·
              skip
              refine box_step ?hg (N := 12) ?hd (cs := #[.int .i64 0, .int .i64 0, .int .i64 0, .slice none 0 0]) (t := 30) ?hr ?_; (case hd => rfl); (case hg => rfl); (case hr => first | (go_simp; done) | (go_simp; rfl))
              intro gb302 hg w108 hbox hb
              have n0_ := Aside0.mk (Kd.Q_below (by exact qU_ HO_258003.out) hb)
              have n1_ := Aside0.mk (Kd.R_below (by exact rU_ HO_265003.out) hb)
              have n2_ := Aside0.mk (Kd.R_below (by exact rU_ HO_274003.out) hb)
              have n3_ := Aside0.mk (blk_below (up_ BK240.out) hb)
              have n4_ := Aside0.mk (blk_below (up_ BK241.out) hb)
              have n5_ := Aside0.mk (blk_below (up_ BK257.out) hb)
              have n6_ := Aside0.mk (blk_below (up_ BK264.out) hb)
              have n7_ := Aside0.mk (blk_below (up_ BK273.out) hb)
              have n8_ := Aside0.mk (below_step (by repeat (first | (with_reducible first | exact HB.out | apply below_alloc | apply pw_below_drewN | apply below_drew1 | refine below_set ?_ GE240.out | refine below_set ?_ GE241.out | refine below_set ?_ GE257.out | refine below_set ?_ GE264.out | refine below_set ?_ GE273.out) | exact HB.out)) hb)
              have n9_ := Aside0.mk (hbox)
              have n10_ := Aside0.mk ((by rw [hg]; exact (below_size (by repeat (first | (with_reducible first | exact HB.out | apply below_alloc | apply pw_below_drewN | apply below_drew1 | refine below_set ?_ GE240.out | refine below_set ?_ GE241.out | refine below_set ?_ GE257.out | refine below_set ?_ GE264.out | refine below_set ?_ GE273.out) | exact HB.out))) : w.heap.size ≤ gb302))
              have n11_ := Aside0.mk ((by rw [hg]; exact (below_size (by repeat (first | (with_reducible first | exact HB.out | apply below_alloc | apply pw_below_drewN | apply below_drew1 | refine below_set ?_ GE240.out | refine below_set ?_ GE241.out | refine below_set ?_ GE257.out | refine below_set ?_ GE264.out | refine below_set ?_ GE273.out) | exact HB.out))) : w.heap.size ≤ gb302))
              have n12_ := Aside0.mk ((by rw [hg]; exact Nat.ne_of_lt (blk_lt (up_ BK240.out)) : gb240 ≠ gb302))
              have n13_ := Aside0.mk ((by rw [hg]; exact Nat.ne_of_gt (blk_lt (up_ BK240.out)) : gb302 ≠ gb240))
              have n14_ := Aside0.mk ((by rw [hg]; exact Nat.ne_of_lt (blk_lt (up_ BK241.out)) : gb241 ≠ gb302))
              have n15_ := Aside0.mk ((by rw [hg]; exact Nat.ne_of_gt (blk_lt (up_ BK241.out)) : gb302 ≠ gb241))
              have n16_ := Aside0.mk ((by rw [hg]; exact Nat.ne_of_lt (blk_lt (up_ BK257.out)) : gb257 ≠ gb302))
              have n17_ := Aside0.mk ((by rw [hg]; exact Nat.ne_of_gt (blk_lt (up_ BK257.out)) : gb302 ≠ gb257))
              have n18_ := Aside0.mk ((by rw [hg]; exact Nat.ne_of_lt (blk_lt (up_ BK264.out)) : gb264 ≠ gb302))
              have n19_ := Aside0.mk ((by rw [hg]; exact Nat.ne_of_gt (blk_lt (up_ BK264.out)) : gb302 ≠ gb264))
              have n20_ := Aside0.mk ((by rw [hg]; exact Nat.ne_of_lt (blk_lt (up_ BK273.out)) : gb273 ≠ gb302))
              have n21_ := Aside0.mk ((by rw [hg]; exact Nat.ne_of_gt (blk_lt (up_ BK273.out)) : gb302 ≠ gb273))
              clear HO_258003
              clear HO_265003
              clear HO_274003
              clear BK240
              clear BK241
              clear BK257
              clear BK264
              clear BK273
              clear HB
              have HO_258003 := n0_
              have HO_265003 := n1_
              have HO_274003 := n2_
              have BK240 := n3_
              have BK241 := n4_
              have BK257 := n5_
              have BK264 := n6_
              have BK273 := n7_
              have HB := n8_
              have BK302 := n9_
              have GW302 := n10_
              have GE302 := n11_
              have NB240_302 := n12_
              have NB302_240 := n13_
              have NB241_302 := n14_
              have NB302_241 := n15_
              have NB257_302 := n16_
              have NB302_257 := n17_
              have NB264_302 := n18_
              have NB302_264 := n19_
              have NB273_302 := n20_
              have NB302_273 := n21_
              clear n0_ n1_ n2_ n3_ n4_ n5_ n6_ n7_ n8_ n9_ n10_ n11_ n12_ n13_ n14_ n15_ n16_ n17_ n18_ n19_ n20_ n21_
              clear hb hbox hg
              refine hK.out _ _ ⟨(blk_cell BK240.out 0).trans rfl, (blk_cell BK240.out 1).trans rfl, (blk_cell BK240.out 2).trans rfl, (blk_cell BK240.out 3).trans rfl, (blk_cell BK241.out 0).trans rfl, (blk_cell BK241.out 1).trans rfl⟩ (fun hHeld => ?_)
              clear hK K
              refine norm_ (a' := ?_) ?_ ?_
              rotate_left
              ·
               show Act.put _ (some 12) _ = _
               simp only [Act.put, List.setIfInBounds_toArray, List.set_cons_zero, List.set_cons_succ, i64_w, i32_w]
               rfl
              refine one_ (i := 1) (N := some 61) #[true, true, true, false, false, true, false] rfl rfl (by kernel_rfl) (by decide) (fun K hK => ?_)
              refine goes_ Try.func10 (by kernel_rfl) rfl #[.agg #[.int .i64 a0_0, .int .i64 a0_1, .int .i64 a0_2, .slice A0_3 l0_3.length c0_3]] (by rfl) rfl rfl (by (try simp only [List.map_toArray, List.map_cons, List.map_nil]); first | done | rfl | (simp only [List.length_drop, List.length_take]; rfl)) ?_
              with_reducible refine (laws_toWindow.calls kj21 a0_0 a0_1 a0_2 _ _ l0_3 t288 t289 t290 t291 _ ?side1 ?side2 A91.out).mono ?_
              (case side1 => repeat (first | exact (Kd.C_below HR0_3.out HB.out) | (with_reducible refine Kd.C_alloc ?_ _) | (with_reducible refine Kd.C_drewN ?_ _) | (with_reducible refine Kd.C_drew ?_)))
              (case side2 => exact HC0_3.out)
              rintro e w109 ⟨v292, rfl, ho0, hb⟩
              refine ⟨_, rfl, ?_⟩
              have n0_ := Aside0.mk (Kd.Q_elder' (by exact qU_ HO_258003.out) (Kd.R_base ho0) hb)
              have n1_ := Aside0.mk (Kd.R_elder' (by exact rU_ HO_265003.out) (Kd.R_base ho0) hb)
              have n2_ := Aside0.mk (Kd.R_elder' (by exact rU_ HO_274003.out) (Kd.R_base ho0) hb)
              have n3_ := Aside0.mk (Kd.R_lower (Kd.R_new' (Kd.R_new' (Kd.R_new' ho0 (Kd.Q_lt (by exact qU_ HO_258003.out))) (Kd.R_lt (by exact rU_ HO_265003.out))) (Kd.R_lt (by exact rU_ HO_274003.out))) (below_size (by repeat (first | (with_reducible first | exact HB.out | apply below_alloc | apply pw_below_drewN | apply below_drew1 | refine below_set ?_ GE240.out | refine below_set ?_ GE241.out | refine below_set ?_ GE257.out | refine below_set ?_ GE264.out | refine below_set ?_ GE273.out | refine below_set ?_ GE302.out) | exact HB.out))))
              have n4_ := Aside0.mk (blk_below (up_ BK240.out) hb)
              have n5_ := Aside0.mk (blk_below (up_ BK241.out) hb)
              have n6_ := Aside0.mk (blk_below (up_ BK257.out) hb)
              have n7_ := Aside0.mk (blk_below (up_ BK264.out) hb)
              have n8_ := Aside0.mk (blk_below (up_ BK273.out) hb)
              have n9_ := Aside0.mk (blk_below (up_ BK302.out) hb)
              have n10_ := Aside0.mk (below_step (by repeat (first | (with_reducible first | exact HB.out | apply below_alloc | apply pw_below_drewN | apply below_drew1 | refine below_set ?_ GE240.out | refine below_set ?_ GE241.out | refine below_set ?_ GE257.out | refine below_set ?_ GE264.out | refine below_set ?_ GE273.out | refine below_set ?_ GE302.out) | exact HB.out)) hb)
              clear HO_258003
              clear HO_265003
              clear HO_274003
              clear BK240
              clear BK241
              clear BK257
              clear BK264
              clear BK273
              clear BK302
              clear HB
              have HO_258003 := n0_
              have HO_265003 := n1_
              have HO_274003 := n2_
              have HO293 := n3_
              have BK240 := n4_
              have BK241 := n5_
              have BK257 := n6_
              have BK264 := n7_
              have BK273 := n8_
              have BK302 := n9_
              have HB := n10_
              clear n0_ n1_ n2_ n3_ n4_ n5_ n6_ n7_ n8_ n9_ n10_
              (try clear hb)
              (try clear hb2)
              (try clear hk)
              (try clear hi)
              (try clear ho0)
              refine hK.out _ _ ⟨(blk_cell BK240.out 0).trans rfl, (blk_cell BK240.out 1).trans rfl, (blk_cell BK240.out 2).trans rfl, (blk_cell BK240.out 3).trans rfl, (blk_cell BK241.out 0).trans rfl, (blk_cell BK241.out 1).trans rfl⟩ (fun hHeld => ?_)
              clear hK K
              refine norm_ (a' := ?_) ?_ ?_
              rotate_left
              ·
               show Act.put _ (some 61) _ = _
               simp only [Act.put, List.setIfInBounds_toArray, List.set_cons_zero, List.set_cons_succ, i64_w, i32_w]
               rfl
              refine one_ (i := 3) (N := some 63) #[true, true, true, true, false, true, false] rfl rfl (by kernel_rfl) (by decide) (fun K hK => ?_)
              refine goes_ Try.func11 (by kernel_rfl) rfl #[.agg #[.int .i64 a1_0, .int .i64 a1_1]] (by rfl) rfl rfl (by (try simp only [List.map_toArray, List.map_cons, List.map_nil]); first | done | rfl | (simp only [List.length_drop, List.length_take]; rfl)) ?_
              with_reducible refine (laws_toMark.calls a1_0 a1_1 t294 t295 _ A92.out).mono ?_
              rintro e w110 ⟨rfl, hb⟩
              refine ⟨_, rfl, ?_⟩
              have n0_ := Aside0.mk (Kd.Q_below (by exact qU_ HO_258003.out) hb)
              have n1_ := Aside0.mk (Kd.R_below (by exact rU_ HO_265003.out) hb)
              have n2_ := Aside0.mk (Kd.R_below (by exact rU_ HO_274003.out) hb)
              have n3_ := Aside0.mk (Kd.R_below (by exact rU_ HO293.out) hb)
              have n4_ := Aside0.mk (blk_below (up_ BK240.out) hb)
              have n5_ := Aside0.mk (blk_below (up_ BK241.out) hb)
              have n6_ := Aside0.mk (blk_below (up_ BK257.out) hb)
              have n7_ := Aside0.mk (blk_below (up_ BK264.out) hb)
              have n8_ := Aside0.mk (blk_below (up_ BK273.out) hb)
              have n9_ := Aside0.mk (blk_below (up_ BK302.out) hb)
              have n10_ := Aside0.mk (below_step (by repeat (first | (with_reducible first | exact HB.out | apply below_alloc | apply pw_below_drewN | apply below_drew1 | refine below_set ?_ GE240.out | refine below_set ?_ GE241.out | refine below_set ?_ GE257.out | refine below_set ?_ GE264.out | refine below_set ?_ GE273.out | refine below_set ?_ GE302.out) | exact HB.out)) hb)
              clear HO_258003
              clear HO_265003
              clear HO_274003
              clear HO293
              clear BK240
              clear BK241
              clear BK257
              clear BK264
              clear BK273
              clear BK302
              clear HB
              have HO_258003 := n0_
              have HO_265003 := n1_
              have HO_274003 := n2_
              have HO293 := n3_
              have BK240 := n4_
              have BK241 := n5_
              have BK257 := n6_
              have BK264 := n7_
              have BK273 := n8_
              have BK302 := n9_
              have HB := n10_
              clear n0_ n1_ n2_ n3_ n4_ n5_ n6_ n7_ n8_ n9_ n10_
              (try clear hb)
              (try clear hb2)
              (try clear hk)
              (try clear hi)
              obtain ⟨Ao111, co111, eo111⟩ := Kd.R_slice HO293.out
              (first | subst eo111 | (injection eo111 with f1_ f2_ f3_; have f4_ := f1_.symm; have f5_ := f3_.symm; clear f1_ f2_ f3_; subst f4_; subst f5_))
              refine hK.out _ _ ⟨(blk_cell BK240.out 0).trans rfl, (blk_cell BK240.out 1).trans rfl, (blk_cell BK240.out 2).trans rfl, (blk_cell BK240.out 3).trans rfl, (blk_cell BK241.out 0).trans rfl, (blk_cell BK241.out 1).trans rfl⟩ (fun hHeld => ?_)
              clear hK K
              refine norm_ (a' := ?_) ?_ ?_
              rotate_left
              ·
               show Act.put _ (some 63) _ = _
               simp only [Act.put, List.setIfInBounds_toArray, List.set_cons_zero, List.set_cons_succ, i64_w, i32_w]
               rfl
              refine one_ (i := 4) (N := some 64) #[true, true, true, true, true, true, false] rfl rfl (by kernel_rfl) (by decide) (fun K hK => ?_)
              refine goes_ Try.func12 (by kernel_rfl) rfl #[.agg #[.int .i64 t288, .int .i64 t289, .int .i64 t290, .slice Ao111 t291.length co111], .agg #[.int .i64 t294, .int .i64 t295]] (by rfl) rfl rfl (by (try simp only [List.map_toArray, List.map_cons, List.map_nil]); first | done | rfl | (simp only [List.length_drop, List.length_take]; rfl)) ?_
              with_reducible refine (impl_WindowPut.calls kj21 t288 t289 t290 _ _ t291 t294 t295 t296 t297 t298 t299 _ ?side1 ?side2 A93.out).mono ?_
              (case side1 => repeat (first | exact (Kd.R_reads' HO293.out).2.2 | (with_reducible refine Kd.C_alloc ?_ _) | (with_reducible refine Kd.C_drewN ?_ _) | (with_reducible refine Kd.C_drew ?_)))
              (case side2 => exact (Kd.R_reads' HO293.out).2.1)
              rintro e w112 ⟨v300, rfl, ho0, hb⟩
              refine ⟨_, rfl, ?_⟩
              have n0_ := Aside0.mk (Kd.Q_elder' (by exact qU_ HO_258003.out) (Kd.R_base ho0) hb)
              have n1_ := Aside0.mk (Kd.R_elder' (by exact rU_ HO_265003.out) (Kd.R_base ho0) hb)
              have n2_ := Aside0.mk (Kd.R_elder' (by exact rU_ HO_274003.out) (Kd.R_base ho0) hb)
              have n3_ := Aside0.mk (Kd.R_elder' (by exact rU_ HO293.out) (Kd.R_base ho0) hb)
              have n4_ := Aside0.mk (Kd.R_lower (Kd.R_new' (Kd.R_new' (Kd.R_new' (Kd.R_new' ho0 (Kd.Q_lt (by exact qU_ HO_258003.out))) (Kd.R_lt (by exact rU_ HO_265003.out))) (Kd.R_lt (by exact rU_ HO_274003.out))) (Kd.R_lt (by exact rU_ HO293.out))) (below_size (by repeat (first | (with_reducible first | exact HB.out | apply below_alloc | apply pw_below_drewN | apply below_drew1 | refine below_set ?_ GE240.out | refine below_set ?_ GE241.out | refine below_set ?_ GE257.out | refine below_set ?_ GE264.out | refine below_set ?_ GE273.out | refine below_set ?_ GE302.out) | exact HB.out))))
              have n5_ := Aside0.mk (blk_below (up_ BK240.out) hb)
              have n6_ := Aside0.mk (blk_below (up_ BK241.out) hb)
              have n7_ := Aside0.mk (blk_below (up_ BK257.out) hb)
              have n8_ := Aside0.mk (blk_below (up_ BK264.out) hb)
              have n9_ := Aside0.mk (blk_below (up_ BK273.out) hb)
              have n10_ := Aside0.mk (blk_below (up_ BK302.out) hb)
              have n11_ := Aside0.mk (below_step (by repeat (first | (with_reducible first | exact HB.out | apply below_alloc | apply pw_below_drewN | apply below_drew1 | refine below_set ?_ GE240.out | refine below_set ?_ GE241.out | refine below_set ?_ GE257.out | refine below_set ?_ GE264.out | refine below_set ?_ GE273.out | refine below_set ?_ GE302.out) | exact HB.out)) hb)
              clear HO_258003
              clear HO_265003
              clear HO_274003
              clear HO293
              clear BK240
              clear BK241
              clear BK257
              clear BK264
              clear BK273
              clear BK302
              clear HB
              have HO_258003 := n0_
              have HO_265003 := n1_
              have HO_274003 := n2_
              have HO293 := n3_
              have HO301 := n4_
              have BK240 := n5_
              have BK241 := n6_
              have BK257 := n7_
              have BK264 := n8_
              have BK273 := n9_
              have BK302 := n10_
              have HB := n11_
              clear n0_ n1_ n2_ n3_ n4_ n5_ n6_ n7_ n8_ n9_ n10_ n11_
              (try clear hb)
              (try clear hb2)
              (try clear hk)
              (try clear hi)
              (try clear ho0)
              refine hK.out _ _ ⟨(blk_cell BK240.out 0).trans rfl, (blk_cell BK240.out 1).trans rfl, (blk_cell BK240.out 2).trans rfl, (blk_cell BK240.out 3).trans rfl, (blk_cell BK241.out 0).trans rfl, (blk_cell BK241.out 1).trans rfl⟩ (fun hHeld => ?_)
              clear hK K
              refine norm_ (a' := ?_) ?_ ?_
              rotate_left
              ·
               show Act.put _ (some 64) _ = _
               simp only [Act.put, List.setIfInBounds_toArray, List.set_cons_zero, List.set_cons_succ, i64_w, i32_w]
               rfl
              exact norm_ (by simp only [putAll, Act.put, List.setIfInBounds_toArray, List.set_cons_zero, List.set_cons_succ]) (hCont (.slice Ao111 t291.length co111, v300, gb302) _ ⟨hHeld, (by exact rU_ (Kd.R_mono HO293.out (fun _ hk => ⟨hk.2, ⟨hk.1.1.1.2, ⟨hk.1.1.2, hk.1.2⟩⟩⟩))), (by exact rU_ (Kd.R_mono HO301.out (fun _ hk => ⟨hk.2, ⟨hk.1.1.1.2, ⟨hk.1.1.2, hk.1.2⟩⟩⟩))), (by exact qU_ (Kd.Q_mono HO_258003.out (fun _ hk => ⟨hk.1.2, ⟨hk.2, ⟨hk.1.1.1, hk.1.1.2⟩⟩⟩))), (by exact rU_ (Kd.R_mono HO_265003.out (fun _ hk => ⟨hk.1.2, ⟨hk.2, ⟨hk.1.1.1, hk.1.1.2⟩⟩⟩))), (by exact rU_ (Kd.R_mono HO_274003.out (fun _ hk => ⟨hk.1.2, ⟨hk.2, ⟨hk.1.1.1, hk.1.1.2⟩⟩⟩))), (by exact up_ BK240.out), (by exact up_ BK241.out), (by exact up_ BK257.out), (by exact up_ BK264.out), (by exact up_ BK273.out), (by exact up_ BK302.out), GW302.out, GE302.out, NB240_302.out, NB302_240.out, NB241_302.out, NB302_241.out, NB257_302.out, NB302_257.out, NB264_302.out, NB302_264.out, NB273_302.out, NB302_273.out, (by repeat (first | (with_reducible first | exact HB.out | apply below_alloc | apply pw_below_drewN | apply below_drew1 | refine below_set ?_ GE240.out | refine below_set ?_ GE241.out | refine below_set ?_ GE257.out | refine below_set ?_ GE264.out | refine below_set ?_ GE273.out | refine below_set ?_ GE302.out) | exact HB.out))⟩)
            rintro ⟨v292, v300, gb302⟩ w113 ⟨hS_, h0_, h1_, h2_, h3_, h4_, h5_, h6_, h7_, h8_, h9_, h10_, h11_, h12_, h13_, h14_, h15_, h16_, h17_, h18_, h19_, h20_, h21_, h22_, h23_⟩
            have n0_ : Aside0 (Kd.R k33 33 w113 w.heap.size (fun k_ => some k_ ≠ (v300 : Value).ownBlock ∧ some k_ ≠ (.slice Ao38 t254.length co38 : Value).ownBlock ∧ some k_ ≠ (.slice Ao48 t283.length co48 : Value).ownBlock ∧ some k_ ≠ (.slice Ao58 t270.length co58 : Value).ownBlock) v292 t291) := ⟨h0_⟩
            have n1_ : Aside0 (Kd.R k33 33 w113 w.heap.size (fun k_ => some k_ ≠ (v292 : Value).ownBlock ∧ some k_ ≠ (.slice Ao38 t254.length co38 : Value).ownBlock ∧ some k_ ≠ (.slice Ao48 t283.length co48 : Value).ownBlock ∧ some k_ ≠ (.slice Ao58 t270.length co58 : Value).ownBlock) v300 t299) := ⟨h1_⟩
            have n2_ : Aside0 (Kd.Q k33 33 w113 w.heap.size (fun k_ => some k_ ≠ (v292 : Value).ownBlock ∧ some k_ ≠ (v300 : Value).ownBlock ∧ some k_ ≠ (.slice Ao48 t283.length co48 : Value).ownBlock ∧ some k_ ≠ (.slice Ao58 t270.length co58 : Value).ownBlock) (.slice Ao38 t254.length co38) t254) := ⟨h2_⟩
            have n3_ : Aside0 (Kd.R k33 33 w113 w.heap.size (fun k_ => some k_ ≠ (v292 : Value).ownBlock ∧ some k_ ≠ (v300 : Value).ownBlock ∧ some k_ ≠ (.slice Ao38 t254.length co38 : Value).ownBlock ∧ some k_ ≠ (.slice Ao58 t270.length co58 : Value).ownBlock) (.slice Ao48 t283.length co48) t283) := ⟨h3_⟩
            have n4_ : Aside0 (Kd.R k33 33 w113 w.heap.size (fun k_ => some k_ ≠ (v292 : Value).ownBlock ∧ some k_ ≠ (v300 : Value).ownBlock ∧ some k_ ≠ (.slice Ao38 t254.length co38 : Value).ownBlock ∧ some k_ ≠ (.slice Ao48 t283.length co48 : Value).ownBlock) (.slice Ao58 t270.length co58) t286) := ⟨h4_⟩
            have n5_ : Aside0 (w113.heap[gb240]? = some (.cells #[.int .i64 a0_0, .int .i64 a0_1, .int .i64 a0_2, .slice A0_3 l0_3.length c0_3] 24 (0, 0))) := ⟨h5_⟩
            have n6_ : Aside0 (w113.heap[gb241]? = some (.cells #[.int .i64 a1_0, .int .i64 a1_1] 26 (0, 0))) := ⟨h6_⟩
            have n7_ : Aside0 (w113.heap[gb257]? = some (.cells #[.int .i64 t251, .int .i64 t252, .int .i64 t253, .slice Ao38 t254.length co38] 30 (0, 0))) := ⟨h7_⟩
            have n8_ : Aside0 (w113.heap[gb264]? = some (.cells #[.int .i64 t258, .int .i64 t259, .int .i64 t260, .slice Ao48 t283.length co48] 30 (0, 0))) := ⟨h8_⟩
            have n9_ : Aside0 (w113.heap[gb273]? = some (.cells #[.int .i64 t267, .int .i64 t268, .int .i64 t269, .slice Ao58 t270.length co58] 30 (0, 0))) := ⟨h9_⟩
            have n10_ : Aside0 (w113.heap[gb302]? = some (.cells #[.int .i64 0, .int .i64 0, .int .i64 0, .slice none 0 0] 30 (0, 0))) := ⟨h10_⟩
            have n11_ : Aside0 (w.heap.size ≤ gb302) := ⟨h11_⟩
            have n12_ : Aside0 (w.heap.size ≤ gb302) := ⟨h12_⟩
            have n13_ : Aside0 (gb240 ≠ gb302) := ⟨h13_⟩
            have n14_ : Aside0 (gb302 ≠ gb240) := ⟨h14_⟩
            have n15_ : Aside0 (gb241 ≠ gb302) := ⟨h15_⟩
            have n16_ : Aside0 (gb302 ≠ gb241) := ⟨h16_⟩
            have n17_ : Aside0 (gb257 ≠ gb302) := ⟨h17_⟩
            have n18_ : Aside0 (gb302 ≠ gb257) := ⟨h18_⟩
            have n19_ : Aside0 (gb264 ≠ gb302) := ⟨h19_⟩
            have n20_ : Aside0 (gb302 ≠ gb264) := ⟨h20_⟩
            have n21_ : Aside0 (gb273 ≠ gb302) := ⟨h21_⟩
            have n22_ : Aside0 (gb302 ≠ gb273) := ⟨h22_⟩
            have n23_ : Aside0 (Below w.heap.size w w113) := ⟨h23_⟩
            clear HO_258003
            clear HO_265003
            clear HO_274003
            clear BK240
            clear BK241
            clear BK257
            clear BK264
            clear BK273
            clear HB
            clear h0_ h1_ h2_ h3_ h4_ h5_ h6_ h7_ h8_ h9_ h10_ h11_ h12_ h13_ h14_ h15_ h16_ h17_ h18_ h19_ h20_ h21_ h22_ h23_
            have HO293 := n0_
            have HO301 := n1_
            have HO_258003 := n2_
            have HO_265003 := n3_
            have HO_274003 := n4_
            have BK240 := n5_
            have BK241 := n6_
            have BK257 := n7_
            have BK264 := n8_
            have BK273 := n9_
            have BK302 := n10_
            have GW302 := n11_
            have GE302 := n12_
            have NB240_302 := n13_
            have NB302_240 := n14_
            have NB241_302 := n15_
            have NB302_241 := n16_
            have NB257_302 := n17_
            have NB302_257 := n18_
            have NB264_302 := n19_
            have NB302_264 := n20_
            have NB273_302 := n21_
            have NB302_273 := n22_
            have HB := n23_
            clear n0_ n1_ n2_ n3_ n4_ n5_ n6_ n7_ n8_ n9_ n10_ n11_ n12_ n13_ n14_ n15_ n16_ n17_ n18_ n19_ n20_ n21_ n22_ n23_
            have hHeld : w113.cell? ⟨gb240, 0, none⟩ = some (.int .i64 a0_0) ∧ w113.cell? ⟨gb240, 1, none⟩ = some (.int .i64 a0_1) ∧ w113.cell? ⟨gb240, 2, none⟩ = some (.int .i64 a0_2) ∧ w113.cell? ⟨gb240, 3, none⟩ = some (.slice A0_3 l0_3.length c0_3) ∧ w113.cell? ⟨gb241, 0, none⟩ = some (.int .i64 a1_0) ∧ w113.cell? ⟨gb241, 1, none⟩ = some (.int .i64 a1_1) := hS_
            obtain ⟨Ao117, co117, eo117⟩ := Kd.R_slice HO301.out
            (first | subst eo117 | (injection eo117 with f1_ f2_ f3_; have f4_ := f1_.symm; have f5_ := f3_.symm; clear f1_ f2_ f3_; subst f4_; subst f5_))
            refine norm_ (a' := ?_) ?_ ?_
            rotate_left
            ·
             simp only [putAll, Act.put, List.setIfInBounds_toArray, List.set_cons_zero, List.set_cons_succ]
             rfl
            refine one_ (i := 6) (N := none) #[true, true, true, true, true, true, true] rfl rfl (by kernel_rfl) (by decide) (fun K hK => ?_)
            have hs114 : w113.cell? ⟨gb302, 0, none⟩ = some (.int .i64 0) := (blk_cell BK302.out 0).trans rfl
            have hfs114 := blk_frozen BK302.out 0
            have hns114_0 := NB240_302.out
            have hns114_1 := NB241_302.out
            have hns114_2 := NB257_302.out
            have hns114_3 := NB264_302.out
            have hns114_4 := NB273_302.out
            have hms114_0 := NB302_240.out
            have hms114_1 := NB302_241.out
            have hms114_2 := NB302_257.out
            have hms114_3 := NB302_264.out
            have hms114_4 := NB302_273.out
            have hs115 : w113.cell? ⟨gb302, 1, none⟩ = some (.int .i64 0) := (blk_cell BK302.out 1).trans rfl
            have hfs115 := blk_frozen BK302.out 1
            have hns115_0 := NB240_302.out
            have hns115_1 := NB241_302.out
            have hns115_2 := NB257_302.out
            have hns115_3 := NB264_302.out
            have hns115_4 := NB273_302.out
            have hms115_0 := NB302_240.out
            have hms115_1 := NB302_241.out
            have hms115_2 := NB302_257.out
            have hms115_3 := NB302_264.out
            have hms115_4 := NB302_273.out
            have hs116 : w113.cell? ⟨gb302, 2, none⟩ = some (.int .i64 0) := (blk_cell BK302.out 2).trans rfl
            have hfs116 := blk_frozen BK302.out 2
            have hns116_0 := NB240_302.out
            have hns116_1 := NB241_302.out
            have hns116_2 := NB257_302.out
            have hns116_3 := NB264_302.out
            have hns116_4 := NB273_302.out
            have hms116_0 := NB302_240.out
            have hms116_1 := NB302_241.out
            have hms116_2 := NB302_257.out
            have hms116_3 := NB302_264.out
            have hms116_4 := NB302_273.out
            have hs118 : w113.cell? ⟨gb302, 3, none⟩ = some (.slice none 0 0) := (blk_cell BK302.out 3).trans rfl
            have hfs118 := blk_frozen BK302.out 3
            have hns118_0 := NB240_302.out
            have hns118_1 := NB241_302.out
            have hns118_2 := NB257_302.out
            have hns118_3 := NB264_302.out
            have hns118_4 := NB273_302.out
            have hms118_0 := NB302_240.out
            have hms118_1 := NB302_241.out
            have hms118_2 := NB302_257.out
            have hms118_3 := NB302_264.out
            have hms118_4 := NB302_273.out
            refine skip_ (w1 := ?_) (by rfl) rfl ?_ ?_
            rotate_left
            ·
             go_simp
             rfl
            refine hK.out _ _ ⟨((cell_far (p := ⟨gb302, _, none⟩) NB240_302.out _).trans (((cell_far (p := ⟨gb302, _, none⟩) NB240_302.out _).trans (((cell_far (p := ⟨gb302, _, none⟩) NB240_302.out _).trans (((cell_far (p := ⟨gb302, _, none⟩) NB240_302.out _).trans (hHeld.1)))))))), ((cell_far (p := ⟨gb302, _, none⟩) NB240_302.out _).trans (((cell_far (p := ⟨gb302, _, none⟩) NB240_302.out _).trans (((cell_far (p := ⟨gb302, _, none⟩) NB240_302.out _).trans (((cell_far (p := ⟨gb302, _, none⟩) NB240_302.out _).trans (hHeld.2.1)))))))), ((cell_far (p := ⟨gb302, _, none⟩) NB240_302.out _).trans (((cell_far (p := ⟨gb302, _, none⟩) NB240_302.out _).trans (((cell_far (p := ⟨gb302, _, none⟩) NB240_302.out _).trans (((cell_far (p := ⟨gb302, _, none⟩) NB240_302.out _).trans (hHeld.2.2.1)))))))), ((cell_far (p := ⟨gb302, _, none⟩) NB240_302.out _).trans (((cell_far (p := ⟨gb302, _, none⟩) NB240_302.out _).trans (((cell_far (p := ⟨gb302, _, none⟩) NB240_302.out _).trans (((cell_far (p := ⟨gb302, _, none⟩) NB240_302.out _).trans (hHeld.2.2.2.1)))))))), ((cell_far (p := ⟨gb302, _, none⟩) NB241_302.out _).trans (((cell_far (p := ⟨gb302, _, none⟩) NB241_302.out _).trans (((cell_far (p := ⟨gb302, _, none⟩) NB241_302.out _).trans (((cell_far (p := ⟨gb302, _, none⟩) NB241_302.out _).trans (hHeld.2.2.2.2.1)))))))), ((cell_far (p := ⟨gb302, _, none⟩) NB241_302.out _).trans (((cell_far (p := ⟨gb302, _, none⟩) NB241_302.out _).trans (((cell_far (p := ⟨gb302, _, none⟩) NB241_302.out _).trans (((cell_far (p := ⟨gb302, _, none⟩) NB241_302.out _).trans (hHeld.2.2.2.2.2))))))))⟩ (fun hHeld => ?_)
            clear hK K
            refine done_ (by kernel_rfl) ?_
            have hnb119 := NB302_240.out
            have hnc119 := NB240_302.out
            have hnb120 := NB302_241.out
            have hnc120 := NB241_302.out
            have hnb121 := NB302_257.out
            have hnc121 := NB257_302.out
            have hnb122 := NB302_264.out
            have hnc122 := NB264_302.out
            have hnb123 := NB302_273.out
            have hnc123 := NB273_302.out
            have hcz124_0 : w113.cell? ⟨gb302, 0, none⟩ = some (.int .i64 0) := (blk_cell BK302.out 0).trans rfl
            have hcz124_1 : w113.cell? ⟨gb302, 1, none⟩ = some (.int .i64 0) := (blk_cell BK302.out 1).trans rfl
            have hcz124_2 : w113.cell? ⟨gb302, 2, none⟩ = some (.int .i64 0) := (blk_cell BK302.out 2).trans rfl
            have hcz124_3 : w113.cell? ⟨gb302, 3, none⟩ = some (.slice none 0 0) := (blk_cell BK302.out 3).trans rfl
            have hfz124_0 := blk_frozen BK302.out 0
            have hfz124_1 := blk_frozen BK302.out 1
            have hfz124_2 := blk_frozen BK302.out 2
            have hfz124_3 := blk_frozen BK302.out 3
            have hnb125 := NB257_240.out
            have hnc125 := NB240_257.out
            have hnb126 := NB257_241.out
            have hnc126 := NB241_257.out
            have hnb127 := NB257_264.out
            have hnc127 := NB264_257.out
            have hcz128_0 : w113.cell? ⟨gb257, 0, none⟩ = some (.int .i64 t251) := (blk_cell BK257.out 0).trans rfl
            have hcz128_1 : w113.cell? ⟨gb257, 1, none⟩ = some (.int .i64 t252) := (blk_cell BK257.out 1).trans rfl
            have hcz128_2 : w113.cell? ⟨gb257, 2, none⟩ = some (.int .i64 t253) := (blk_cell BK257.out 2).trans rfl
            have hcz128_3 : w113.cell? ⟨gb257, 3, none⟩ = some (.slice Ao38 t254.length co38) := (blk_cell BK257.out 3).trans rfl
            have hfz128_0 := blk_frozen BK257.out 0
            have hfz128_1 := blk_frozen BK257.out 1
            have hfz128_2 := blk_frozen BK257.out 2
            have hfz128_3 := blk_frozen BK257.out 3
            try go_wp2_with (first | ((with_reducible refine gate_callee (f := 13) rfl ?_); refine goesL_ (some 67) rfl rfl Try.func13 (by kernel_rfl) rfl #[.agg #[.int .i64 t296, .int .i64 t297, .int .i64 t298, .slice Ao117 t299.length co117], .agg #[.int .i64 t251, .int .i64 t252, .int .i64 t253, .slice Ao38 t254.length co38]] rfl (by (try simp only [List.map_toArray, List.map_cons, List.map_nil]); first | done | rfl | (simp only [List.length_drop, List.length_take]; rfl)) ?_; (with_reducible refine (laws_eqWindow.calls kj21 t296 t297 t298 _ _ t299 t251 t252 t253 _ _ t254 true _ ?side1 ?side2 ?side3 ?side4 A94.out).mono ?_); (case side1 => refine (Kd.R_reads' (e := 33) (base := w.heap.size) (ok := fun k_ => (some k_ ≠ (v292 : Value).ownBlock ∧ (some k_ ≠ (.slice Ao38 t254.length co38 : Value).ownBlock ∧ (some k_ ≠ (.slice Ao48 t283.length co48 : Value).ownBlock ∧ some k_ ≠ (.slice Ao58 t270.length co58 : Value).ownBlock)))) (n := t299.length) (c := co117) ?_).2.2; exact (by exact rU_ ((Kd.R_mono (Kd.R_far (p := ⟨gb302, 3, none⟩) (Kd.R_far (p := ⟨gb302, 2, none⟩) (Kd.R_far (p := ⟨gb302, 1, none⟩) (Kd.R_far (p := ⟨gb302, 0, none⟩) (Kd.R_types HO301.out BK302.out (by decide)) (fun _ hk => hk.2) (.int .i64 t296)) (fun _ hk => hk.2) (.int .i64 t297)) (fun _ hk => hk.2) (.int .i64 t298)) (fun _ hk => hk.2) (.slice Ao117 t299.length co117)) (fun _ h_ => h_.1))))); (case side2 => exact (Kd.R_reads' HO301.out).2.1); (case side3 => refine (Kd.Q_reads' (e := 33) (base := w.heap.size) (ok := fun k_ => (some k_ ≠ (v292 : Value).ownBlock ∧ (some k_ ≠ (.slice Ao117 t299.length co117 : Value).ownBlock ∧ (some k_ ≠ (.slice Ao48 t283.length co48 : Value).ownBlock ∧ some k_ ≠ (.slice Ao58 t270.length co58 : Value).ownBlock)))) (n := t254.length) (c := co38) ?_).2.2; exact (by exact qU_ ((Kd.Q_mono (Kd.Q_far (p := ⟨gb302, 3, none⟩) (Kd.Q_far (p := ⟨gb302, 2, none⟩) (Kd.Q_far (p := ⟨gb302, 1, none⟩) (Kd.Q_far (p := ⟨gb302, 0, none⟩) (Kd.Q_types HO_258003.out BK302.out (by decide)) (fun _ hk => hk.2) (.int .i64 t296)) (fun _ hk => hk.2) (.int .i64 t297)) (fun _ hk => hk.2) (.int .i64 t298)) (fun _ hk => hk.2) (.slice Ao117 t299.length co117)) (fun _ h_ => h_.1))))); (case side4 => exact (Kd.Q_reads' HO_258003.out).2.1); rintro e w129 ⟨rfl, hb⟩; refine ⟨_, rfl, ?_⟩; have n0_ := Aside0.mk (Kd.Q_below (by exact qU_ ((Kd.Q_mono (Kd.Q_far (p := ⟨gb302, 3, none⟩) (Kd.Q_far (p := ⟨gb302, 2, none⟩) (Kd.Q_far (p := ⟨gb302, 1, none⟩) (Kd.Q_far (p := ⟨gb302, 0, none⟩) (Kd.Q_types HO_258003.out BK302.out (by decide)) (fun _ hk => hk.2) (.int .i64 t296)) (fun _ hk => hk.2) (.int .i64 t297)) (fun _ hk => hk.2) (.int .i64 t298)) (fun _ hk => hk.2) (.slice Ao117 t299.length co117)) (fun _ h_ => h_.1)))) hb); have n1_ := Aside0.mk (Kd.R_below (by exact rU_ ((Kd.R_mono (Kd.R_far (p := ⟨gb302, 3, none⟩) (Kd.R_far (p := ⟨gb302, 2, none⟩) (Kd.R_far (p := ⟨gb302, 1, none⟩) (Kd.R_far (p := ⟨gb302, 0, none⟩) (Kd.R_types HO_265003.out BK302.out (by decide)) (fun _ hk => hk.2) (.int .i64 t296)) (fun _ hk => hk.2) (.int .i64 t297)) (fun _ hk => hk.2) (.int .i64 t298)) (fun _ hk => hk.2) (.slice Ao117 t299.length co117)) (fun _ h_ => h_.1)))) hb); have n2_ := Aside0.mk (Kd.R_below (by exact rU_ ((Kd.R_mono (Kd.R_far (p := ⟨gb302, 3, none⟩) (Kd.R_far (p := ⟨gb302, 2, none⟩) (Kd.R_far (p := ⟨gb302, 1, none⟩) (Kd.R_far (p := ⟨gb302, 0, none⟩) (Kd.R_types HO_274003.out BK302.out (by decide)) (fun _ hk => hk.2) (.int .i64 t296)) (fun _ hk => hk.2) (.int .i64 t297)) (fun _ hk => hk.2) (.int .i64 t298)) (fun _ hk => hk.2) (.slice Ao117 t299.length co117)) (fun _ h_ => h_.1)))) hb); have n3_ := Aside0.mk (Kd.R_below (by exact rU_ ((Kd.R_mono (Kd.R_far (p := ⟨gb302, 3, none⟩) (Kd.R_far (p := ⟨gb302, 2, none⟩) (Kd.R_far (p := ⟨gb302, 1, none⟩) (Kd.R_far (p := ⟨gb302, 0, none⟩) (Kd.R_types HO293.out BK302.out (by decide)) (fun _ hk => hk.2) (.int .i64 t296)) (fun _ hk => hk.2) (.int .i64 t297)) (fun _ hk => hk.2) (.int .i64 t298)) (fun _ hk => hk.2) (.slice Ao117 t299.length co117)) (fun _ h_ => h_.1)))) hb); have n4_ := Aside0.mk (Kd.R_below (by exact rU_ ((Kd.R_mono (Kd.R_far (p := ⟨gb302, 3, none⟩) (Kd.R_far (p := ⟨gb302, 2, none⟩) (Kd.R_far (p := ⟨gb302, 1, none⟩) (Kd.R_far (p := ⟨gb302, 0, none⟩) (Kd.R_types HO301.out BK302.out (by decide)) (fun _ hk => hk.2) (.int .i64 t296)) (fun _ hk => hk.2) (.int .i64 t297)) (fun _ hk => hk.2) (.int .i64 t298)) (fun _ hk => hk.2) (.slice Ao117 t299.length co117)) (fun _ h_ => h_.1)))) hb); have n5_ := Aside0.mk (blk_below (g := gb240) (o := .cells #[.int .i64 a0_0, .int .i64 a0_1, .int .i64 a0_2, .slice A0_3 l0_3.length c0_3] 24 (0, 0)) (by (with_reducible repeat (first | refine blk_drewN ?_ _ | refine blk_drew ?_ | refine blk_alloc ?_ _)); refine blk_far ?_ NB240_302.out _; (with_reducible repeat (first | refine blk_drewN ?_ _ | refine blk_drew ?_ | refine blk_alloc ?_ _)); refine blk_far ?_ NB240_302.out _; (with_reducible repeat (first | refine blk_drewN ?_ _ | refine blk_drew ?_ | refine blk_alloc ?_ _)); refine blk_far ?_ NB240_302.out _; (with_reducible repeat (first | refine blk_drewN ?_ _ | refine blk_drew ?_ | refine blk_alloc ?_ _)); refine blk_far ?_ NB240_302.out _; (with_reducible repeat (first | refine blk_drewN ?_ _ | refine blk_drew ?_ | refine blk_alloc ?_ _)); exact BK240.out) hb); have n6_ := Aside0.mk (blk_below (g := gb241) (o := .cells #[.int .i64 a1_0, .int .i64 a1_1] 26 (0, 0)) (by (with_reducible repeat (first | refine blk_drewN ?_ _ | refine blk_drew ?_ | refine blk_alloc ?_ _)); refine blk_far ?_ NB241_302.out _; (with_reducible repeat (first | refine blk_drewN ?_ _ | refine blk_drew ?_ | refine blk_alloc ?_ _)); refine blk_far ?_ NB241_302.out _; (with_reducible repeat (first | refine blk_drewN ?_ _ | refine blk_drew ?_ | refine blk_alloc ?_ _)); refine blk_far ?_ NB241_302.out _; (with_reducible repeat (first | refine blk_drewN ?_ _ | refine blk_drew ?_ | refine blk_alloc ?_ _)); refine blk_far ?_ NB241_302.out _; (with_reducible repeat (first | refine blk_drewN ?_ _ | refine blk_drew ?_ | refine blk_alloc ?_ _)); exact BK241.out) hb); have n7_ := Aside0.mk (blk_below (g := gb257) (o := .cells #[.int .i64 t251, .int .i64 t252, .int .i64 t253, .slice Ao38 t254.length co38] 30 (0, 0)) (by (with_reducible repeat (first | refine blk_drewN ?_ _ | refine blk_drew ?_ | refine blk_alloc ?_ _)); refine blk_far ?_ NB257_302.out _; (with_reducible repeat (first | refine blk_drewN ?_ _ | refine blk_drew ?_ | refine blk_alloc ?_ _)); refine blk_far ?_ NB257_302.out _; (with_reducible repeat (first | refine blk_drewN ?_ _ | refine blk_drew ?_ | refine blk_alloc ?_ _)); refine blk_far ?_ NB257_302.out _; (with_reducible repeat (first | refine blk_drewN ?_ _ | refine blk_drew ?_ | refine blk_alloc ?_ _)); refine blk_far ?_ NB257_302.out _; (with_reducible repeat (first | refine blk_drewN ?_ _ | refine blk_drew ?_ | refine blk_alloc ?_ _)); exact BK257.out) hb); have n8_ := Aside0.mk (blk_below (g := gb264) (o := .cells #[.int .i64 t258, .int .i64 t259, .int .i64 t260, .slice Ao48 t283.length co48] 30 (0, 0)) (by (with_reducible repeat (first | refine blk_drewN ?_ _ | refine blk_drew ?_ | refine blk_alloc ?_ _)); refine blk_far ?_ NB264_302.out _; (with_reducible repeat (first | refine blk_drewN ?_ _ | refine blk_drew ?_ | refine blk_alloc ?_ _)); refine blk_far ?_ NB264_302.out _; (with_reducible repeat (first | refine blk_drewN ?_ _ | refine blk_drew ?_ | refine blk_alloc ?_ _)); refine blk_far ?_ NB264_302.out _; (with_reducible repeat (first | refine blk_drewN ?_ _ | refine blk_drew ?_ | refine blk_alloc ?_ _)); refine blk_far ?_ NB264_302.out _; (with_reducible repeat (first | refine blk_drewN ?_ _ | refine blk_drew ?_ | refine blk_alloc ?_ _)); exact BK264.out) hb); have n9_ := Aside0.mk (blk_below (g := gb273) (o := .cells #[.int .i64 t267, .int .i64 t268, .int .i64 t269, .slice Ao58 t270.length co58] 30 (0, 0)) (by (with_reducible repeat (first | refine blk_drewN ?_ _ | refine blk_drew ?_ | refine blk_alloc ?_ _)); refine blk_far ?_ NB273_302.out _; (with_reducible repeat (first | refine blk_drewN ?_ _ | refine blk_drew ?_ | refine blk_alloc ?_ _)); refine blk_far ?_ NB273_302.out _; (with_reducible repeat (first | refine blk_drewN ?_ _ | refine blk_drew ?_ | refine blk_alloc ?_ _)); refine blk_far ?_ NB273_302.out _; (with_reducible repeat (first | refine blk_drewN ?_ _ | refine blk_drew ?_ | refine blk_alloc ?_ _)); refine blk_far ?_ NB273_302.out _; (with_reducible repeat (first | refine blk_drewN ?_ _ | refine blk_drew ?_ | refine blk_alloc ?_ _)); exact BK273.out) hb); have n10_ := Aside0.mk (blk_below (g := gb302) (o := .cells #[.int .i64 t296, .int .i64 t297, .int .i64 t298, .slice Ao117 t299.length co117] 30 (0, 0)) (by (with_reducible repeat (first | refine blk_drewN ?_ _ | refine blk_drew ?_ | refine blk_alloc ?_ _)); refine blk_put (cs := #[.int .i64 t296, .int .i64 t297, .int .i64 t298, .slice none 0 0]) ?_ 3 _ rfl; (with_reducible repeat (first | refine blk_drewN ?_ _ | refine blk_drew ?_ | refine blk_alloc ?_ _)); refine blk_put (cs := #[.int .i64 t296, .int .i64 t297, .int .i64 0, .slice none 0 0]) ?_ 2 _ rfl; (with_reducible repeat (first | refine blk_drewN ?_ _ | refine blk_drew ?_ | refine blk_alloc ?_ _)); refine blk_put (cs := #[.int .i64 t296, .int .i64 0, .int .i64 0, .slice none 0 0]) ?_ 1 _ rfl; (with_reducible repeat (first | refine blk_drewN ?_ _ | refine blk_drew ?_ | refine blk_alloc ?_ _)); refine blk_put (cs := #[.int .i64 0, .int .i64 0, .int .i64 0, .slice none 0 0]) ?_ 0 _ rfl; (with_reducible repeat (first | refine blk_drewN ?_ _ | refine blk_drew ?_ | refine blk_alloc ?_ _)); exact BK302.out) hb); have n11_ := Aside0.mk (below_step (by repeat (first | (with_reducible first | exact HB.out | apply below_alloc | apply pw_below_drewN | apply below_drew1 | refine below_set ?_ GE240.out | refine below_set ?_ GE241.out | refine below_set ?_ GE257.out | refine below_set ?_ GE264.out | refine below_set ?_ GE273.out | refine below_set ?_ GE302.out) | exact HB.out)) hb); clear HO_258003; clear HO_265003; clear HO_274003; clear HO293; clear HO301; clear BK240; clear BK241; clear BK257; clear BK264; clear BK273; clear BK302; clear HB; have HO_258003 := n0_; have HO_265003 := n1_; have HO_274003 := n2_; have HO293 := n3_; have HO301 := n4_; have BK240 := n5_; have BK241 := n6_; have BK257 := n7_; have BK264 := n8_; have BK273 := n9_; have BK302 := n10_; have HB := n11_; clear n0_ n1_ n2_ n3_ n4_ n5_ n6_ n7_ n8_ n9_ n10_ n11_; (try clear hb); (try clear hb2); (try clear hk); (try clear hi); have hcz130_0 : w129.cell? ⟨gb273, 0, none⟩ = some (.int .i64 t267) := (blk_cell BK273.out 0).trans rfl; have hcz130_1 : w129.cell? ⟨gb273, 1, none⟩ = some (.int .i64 t268) := (blk_cell BK273.out 1).trans rfl; have hcz130_2 : w129.cell? ⟨gb273, 2, none⟩ = some (.int .i64 t269) := (blk_cell BK273.out 2).trans rfl; have hcz130_3 : w129.cell? ⟨gb273, 3, none⟩ = some (.slice Ao58 t270.length co58) := (blk_cell BK273.out 3).trans rfl; have hfz130_0 := blk_frozen BK273.out 0; have hfz130_1 := blk_frozen BK273.out 1; have hfz130_2 := blk_frozen BK273.out 2; have hfz130_3 := blk_frozen BK273.out 3) | ((with_reducible refine gate_callee (f := 15) rfl ?_); refine goesL_ (some 71) rfl rfl Try.func15 (by kernel_rfl) rfl #[.agg #[.int .i64 t267, .int .i64 t268, .int .i64 t269, .slice Ao58 t286.length co58], .int .i64 1] rfl (by (try simp only [List.map_toArray, List.map_cons, List.map_nil]); first | done | (rw [show t286.length = t270.length from (Kd.R_reads' HO_274003.out).1.symm] <;> rfl) | rfl | (simp only [List.length_drop, List.length_take]; rfl)) ?_; (with_reducible refine (laws_heldWindow.calls kj21 t267 t268 t269 _ _ t286 1 t304 _ ?side1 ?side2 A96.out).mono ?_); (case side1 => repeat (first | exact (Kd.R_reads' HO_274003.out).2.2 | (with_reducible refine Kd.C_alloc ?_ _) | (with_reducible refine Kd.C_drewN ?_ _) | (with_reducible refine Kd.C_drew ?_))); (case side2 => rw [show t286.length = t270.length from (Kd.R_reads' HO_274003.out).1.symm]; exact (Kd.R_reads' HO_274003.out).2.1); rintro e w131 ⟨rfl, hb⟩; refine ⟨_, rfl, ?_⟩; have n0_ := Aside0.mk (Kd.Q_below (by exact qU_ HO_258003.out) hb); have n1_ := Aside0.mk (Kd.R_below (by exact rU_ HO_265003.out) hb); have n2_ := Aside0.mk (Kd.R_below (by exact rU_ HO_274003.out) hb); have n3_ := Aside0.mk (Kd.R_below (by exact rU_ HO293.out) hb); have n4_ := Aside0.mk (Kd.R_below (by exact rU_ HO301.out) hb); have n5_ := Aside0.mk (blk_below (up_ BK240.out) hb); have n6_ := Aside0.mk (blk_below (up_ BK241.out) hb); have n7_ := Aside0.mk (blk_below (up_ BK257.out) hb); have n8_ := Aside0.mk (blk_below (up_ BK264.out) hb); have n9_ := Aside0.mk (blk_below (up_ BK273.out) hb); have n10_ := Aside0.mk (blk_below (up_ BK302.out) hb); have n11_ := Aside0.mk (below_step (by repeat (first | (with_reducible first | exact HB.out | apply below_alloc | apply pw_below_drewN | apply below_drew1 | refine below_set ?_ GE240.out | refine below_set ?_ GE241.out | refine below_set ?_ GE257.out | refine below_set ?_ GE264.out | refine below_set ?_ GE273.out | refine below_set ?_ GE302.out) | exact HB.out)) hb); clear HO_258003; clear HO_265003; clear HO_274003; clear HO293; clear HO301; clear BK240; clear BK241; clear BK257; clear BK264; clear BK273; clear BK302; clear HB; have HO_258003 := n0_; have HO_265003 := n1_; have HO_274003 := n2_; have HO293 := n3_; have HO301 := n4_; have BK240 := n5_; have BK241 := n6_; have BK257 := n7_; have BK264 := n8_; have BK273 := n9_; have BK302 := n10_; have HB := n11_; clear n0_ n1_ n2_ n3_ n4_ n5_ n6_ n7_ n8_ n9_ n10_ n11_; (try clear hb); (try clear hb2); (try clear hk); (try clear hi)))
            go_ret
            exact ⟨by first | rfl | (simp [errW_none, errW_some] <;> rfl) | (simp [*, errW_none, errW_some] <;> rfl), by repeat (first | (with_reducible first | exact HB.out | apply below_alloc | apply pw_below_drewN | apply below_drew1 | refine below_set ?_ GE240.out | refine below_set ?_ GE241.out | refine below_set ?_ GE257.out | refine below_set ?_ GE264.out | refine below_set ?_ GE273.out | refine below_set ?_ GE302.out) | exact HB.out)⟩
           ·
            rw [if_neg c98] at H
            have c98b0 : (t304 == t285) = false := beq_eq_false_iff_ne.mpr c98
            have c98b1 : (t304 != t285) = true := bne_iff_ne.mpr c98
            exact absurd (Option.some.inj H) (by rw [HTRUE_.out]; decide)
         ·
          replace c95 := Bool.eq_false_iff.mpr c95
          subst c95
          have H1 : (some false) = some r := by rw [if_neg (show ¬ (false = true) by decide)] at H; exact H
          clear H
          have H := H1
          clear H1
          exact absurd (Option.some.inj H) (by rw [HTRUE_.out]; decide)
        ·
         rw [if_neg c90] at H
         have c90b0 : (t287 == t285) = false := beq_eq_false_iff_ne.mpr c90
         have c90b1 : (t287 != t285) = true := bne_iff_ne.mpr c90
         exact absurd (Option.some.inj H) (by rw [HTRUE_.out]; decide)
   ·
    replace c20 := Bool.eq_false_iff.mpr c20
    subst c20
    have H1 : (some false) = some r := by rw [if_neg (show ¬ (false = true) by decide)] at H; exact H
    clear H
    have H := H1
    clear H1
    exact absurd (Option.some.inj H) (by rw [HTRUE_.out]; decide)
  ·
   replace c17 := Bool.eq_false_iff.mpr c17
   subst c17
   have H1 : (some false) = some r := by rw [if_neg (show ¬ (false = true) by decide)] at H; exact H
   clear H
   have H := H1
   clear H1
   exact absurd (Option.some.inj H) (by rw [HTRUE_.out]; decide)

end Go.Proofs.Ytpgaoihgohlmkaa.XFnExactWindowPut
