/- Functions that FnExactTreeTake comes to, as Lean functions with their contracts: written by the prover's own program (wip/tpl/myprint.py) over the kit's printer, some contracts by hand. Conditions: none. -/
import Derived.Test.YtenlceojmjkbkaaGreatXFnExactTreeTakex0
import Derived.Test.YtenlceojmjkbkaaGreatXFnExactTreeTakex1
import Derived.Test.YtenlceojmjkbkaaGreatXFnExactTreeTakex2
import Derived.Test.YtenlceojmjkbkaaGreatXFnExactTreeTakex3
import Derived.Test.YtenlceojmjkbkaaGreatXFnExactTreeTakex4
namespace Go.Proofs.YtenlceojmjkbkaaGreat.XFnExactTreeTake
open Go.RowKit Go.Proofs.YtenlceojmjkbkaaGreatW.PrintWords Go.Proofs.YtenlceojmjkbkaaGreatW.PrintLast Go.Proofs.YtenlceojmjkbkaaGreatW.PrintMore
attribute [local go_sem] max2_int min2_int max_two min_two max_three min_three max_four min_four   -- for this text's walks alone
set_option linter.unusedVariables false
set_option linter.unusedSimpArgs false

/-! ### spec_TreeRight: function 15 -/
mutual
def spec_TreeRight.j0 : Nat → Bool → List (S46) → Option (Bool)
 | 0, _, _ => none
 | k + 1, x16, x150000 => if x16 = true then (some false) else ((spec_l04Read.f x150000).bind fun bt151 => ((spec_l04Wood_items.f bt151.1 bt151.2 bt151.2).bind fun bt154 => (spec_TreeRight.l0 k bt154.1 0 bt151.1 bt154.2)))
def spec_TreeRight.l0 : Nat → List (S35) → Int → List (S74) → Int → Option (Bool)
 | 0, _, _, _, _ => none
 | k + 1, x4, x5, x154000, x154001 => if x5 < (x4.length : Int) then (if 0 ≤ x5 then ((spec_ItemRight.f ((rd_T35 x4 x5).f0) ((rd_T35 x4 x5).f1) ((rd_T35 x4 x5).f2)).bind fun t161 => (if t161 = true then (if x5 > 0 then (if 0 ≤ (wrap64 (x5 - 1)) then (if (wrap64 (x5 - 1)) < (x4.length : Int) then ((spec_RatioCmp.f k ((rd_T35 x4 (wrap64 (x5 - 1))).f0) ((rd_T35 x4 (wrap64 (x5 - 1))).f1) ((rd_T35 x4 (wrap64 (x5 - 1))).f2) ((rd_T35 x4 x5).f0) ((rd_T35 x4 x5).f1) ((rd_T35 x4 x5).f2)).bind fun t164 => (spec_TreeRight.j2 k x4 x5 (decide (t164 ≥ 0)) x154000 x154001)) else (none)) else (none)) else (spec_TreeRight.j2 k x4 x5 false x154000 x154001)) else (spec_TreeRight.j2 k x4 x5 true x154000 x154001))) else (none)) else ((spec_l04Wood_even.f x154000 x154001 x154001).bind fun bt158 => (some bt158.1))
def spec_TreeRight.j2 : Nat → List (S35) → Int → Bool → List (S74) → Int → Option (Bool)
 | 0, _, _, _, _, _ => none
 | k + 1, x4, x5, x53, x154000, x154001 => if x53 = true then (some false) else (spec_TreeRight.l1 k x4 x5 0 x154000 x154001)
def spec_TreeRight.l1 : Nat → List (S35) → Int → Int → List (S74) → Int → Option (Bool)
 | 0, _, _, _, _, _ => none
 | k + 1, x4, x5, x6, x154000, x154001 => if x6 < x5 then (if 0 ≤ x6 then (if x6 < (x4.length : Int) then (if 0 ≤ x5 then (if x5 < (x4.length : Int) then (if ((rd_T35 x4 x6).f0) = ((rd_T35 x4 x5).f0) then (some false) else (spec_TreeRight.l1 k x4 x5 (wrap64 (x6 + 1)) x154000 x154001)) else (none)) else (none)) else (none)) else (none)) else (spec_TreeRight.l0 k x4 (wrap64 (x5 + 1)) x154000 x154001)
end
def spec_TreeRight.f (k : Nat) (l0_0 : List (S46)) : Option (Bool) := if (l0_0.length : Int) > 60 then (spec_TreeRight.j0 k true l0_0) else ((spec_l04Shape.f k l0_0).bind fun t150 => (spec_TreeRight.j0 k (!t150) l0_0))
def spec_TreeRight.T8 : Bool × List (List Nat × List Nat) := (true, [([], []), ([], []), ([0, 1], [0, 1]), ([2], [2]), ([3], [3]), ([4], [4]), ([5, 4], [5]), ([6], [6]), ([7, 6], [6, 7]), ([8, 6, 6], [6, 8]), ([9], [9]), ([9], [9]), ([11, 9], [9, 11]), ([10, 12, 9], [9, 10, 12]), ([13, 9], [9, 13]), ([9], [9]), ([9], [9]), ([15, 16, 9], [9, 15, 16]), ([17, 9], [9, 17]), ([14, 18, 9, 9], [9, 14, 18]), ([19, 9], [9, 19]), ([9, 20, 6], [6, 9, 20]), ([6, 21], [6, 21])])
def spec_TreeRight.B8 : List Nat := [0, 0, 3, 7, 15, 31, 63, 127, 255, 511, 1023, 1023, 3071, 8191, 16383, 1023, 1023, 99327, 230399, 524287, 1048575, 2097151, 4194303]
theorem spec_TreeRight.tab8 : rtab .any (opsOf Tryz.f15 8) = spec_TreeRight.T8 := by kernel_rfl
theorem spec_TreeRight.bits8 : waitsOk spec_TreeRight.T8.2 spec_TreeRight.B8 = true := by kernel_rfl
def spec_TreeRight.T13 : Bool × List (List Nat × List Nat) := (true, [([], []), ([], []), ([0, 1], [0, 1]), ([2], [2]), ([3], [3]), ([], []), ([], []), ([5, 6], [5, 6]), ([7], [7]), ([8], [8]), ([4, 9], [4, 9])])
def spec_TreeRight.B13 : List Nat := [0, 0, 3, 7, 15, 0, 0, 96, 224, 480, 1023]
theorem spec_TreeRight.tab13 : rtab .any (opsOf Tryz.f15 13) = spec_TreeRight.T13 := by kernel_rfl
theorem spec_TreeRight.bits13 : waitsOk spec_TreeRight.T13.2 spec_TreeRight.B13 = true := by kernel_rfl
set_option maxHeartbeats 8000000 in
set_option maxRecDepth 100000 in
theorem spec_TreeRight.calls (k : Nat) (A0_0 : Option Addr) (c0_0 : Nat) (l0_0 : List (S46)) (r : Bool) (w : World) (hr0_0 : Kd.C k46 w A0_0 l0_0.length l0_0) (hc0_0 : l0_0.length ≤ c0_0) (h : spec_TreeRight.f k l0_0 = some r) :
  Calls Tryz.prog 15 #[.agg #[.slice A0_0 l0_0.length c0_0]] w fun e w' => e = .returned (.bool r) ∧ Below w.heap.size w w' := by
 have hu30 := Tryz.underlying30
 have hu35 := Tryz.underlying35
 have HR0_0 := Aside0.mk hr0_0
 have HC0_0 := Aside0.mk hc0_0
 clear hr0_0 hc0_0
 have HB := Aside0.mk (Below.refl w.heap.size w)
 have H : (if (l0_0.length : Int) > 60 then (spec_TreeRight.j0 k true l0_0) else ((spec_l04Shape.f k l0_0).bind fun t150 => (spec_TreeRight.j0 k (!t150) l0_0))) = some r := h
 clear h
 have HC2 := Aside0.mk H
 clear H
 go_enter Tryz.func15, Tryz.ntmps15
 go_upto_region 1 with (first | ((with_reducible refine gate_dst (N := 1) rfl ?_); refine box_event ?hg (N := 1) ?hd (cs := #[.slice A0_0 l0_0.length c0_0]) (t := 30) ?hr ?_; (case hd => rfl); (case hg => rfl); (case hr => first | (go_simp; done) | (go_simp; rfl)); intro gb149 hg w3 hbox hb; have n0_ := Aside0.mk (below_step bl_ hb); have n1_ := Aside0.mk (hbox); have n2_ := Aside0.mk ((by rw [hg]; exact (below_size bl_) : w.heap.size ≤ gb149)); have n3_ := Aside0.mk ((by rw [hg]; exact (below_size bl_) : w.heap.size ≤ gb149)); clear HB; have HB := n0_; have BK149 := n1_; have GW149 := n2_; have GE149 := n3_; clear n0_ n1_ n2_ n3_; clear hb hbox hg))
 (try simp only [Act.put, List.setIfInBounds_toArray, List.set_cons_zero, List.set_cons_succ])
 go_cut [16] (fun v16 wc => ∃ (kq : Nat) (x16_1 : Bool), v16 = .bool x16_1 ∧ Aside0 (spec_TreeRight.j0 kq x16_1 l0_0 = some r) ∧ Aside0 (kq ≤ k) ∧ Aside0 (wc.heap[gb149]? = some (.cells #[(.slice A0_0 l0_0.length c0_0)] 30 (0, 0))) ∧ Aside0 (Below w.heap.size w wc))
 case first =>
  have H := HC2.out
  clear HC2
  by_cases c4 : (l0_0.length : Int) > 60
  ·
   rw [if_pos c4] at H
   have c4b0 : decide (60 < (l0_0.length : Int)) = true := decide_eq_true c4
   have c4b1 : decide (60 < l0_0.length) = true := decide_eq_true (by omega)
   clear c4
   (first | rw [c4b0] | (simp only [i64_w, i32_w]; rw [c4b0]) | skip)
   have H' := Aside0.mk H
   clear H
   have hcz5_0 : w3.cell? ⟨gb149, 0, none⟩ = some (.slice A0_0 l0_0.length c0_0) := (blk_cell BK149.out 0).trans rfl
   have hfz5_0 := blk_frozen BK149.out 0
   go_wp2
   go_meet
   case rel => exact ⟨_, (true), (by first | rfl | (simp; done) | (simp [*]; done)), H', ⟨by first | omega | exact Nat.le_refl _⟩, ⟨up_ BK149.out⟩, ⟨bl_⟩⟩
  ·
   rw [if_neg c4] at H
   have c4b0 : decide (60 < (l0_0.length : Int)) = false := decide_eq_false c4
   have c4b1 : decide (60 < l0_0.length) = false := decide_eq_false (by omega)
   clear c4
   (first | rw [c4b0] | (simp only [i64_w, i32_w]; rw [c4b0]) | skip)
   replace H := Option.bind_eq_some_iff.mp H
   obtain ⟨t150, A60, H⟩ := H
   replace H : (spec_TreeRight.j0 k (!t150) l0_0) = some r := H
   have A6 := Aside0.mk A60
   clear A60
   have H' := Aside0.mk H
   clear H
   have hcz7_0 : w3.cell? ⟨gb149, 0, none⟩ = some (.slice A0_0 l0_0.length c0_0) := (blk_cell BK149.out 0).trans rfl
   have hfz7_0 := blk_frozen BK149.out 0
   go_wp2_with (first | (go_at_call 30; (with_reducible refine (spec_l04Shape.calls k _ _ l0_0 t150 _ ?side1 ?side2 A6.out).mono ?_); (case side1 => exact Kd.C_below HR0_0.out bl_); (case side2 => exact HC0_0.out); rintro e w' ⟨rfl, ⟨nd, rfl⟩⟩))
   go_meet
   case rel => exact ⟨_, (!t150), (by first | rfl | (simp; done) | (simp [*]; done)), H', ⟨by first | omega | exact Nat.le_refl _⟩, ⟨up_ BK149.out⟩, ⟨bl_⟩⟩
 case rest =>
  clear HC2
  try clear c1
  try clear p2
  try clear c4
  try clear c4b0
  try clear c4b1
  try clear hcz5_0
  try clear hcz7_0
  try clear hfz5_0
  try clear hfz7_0
  obtain ⟨kq, x16_1, rfl, HA, HJ1, BK149, HB⟩ := hcut
  cases kq with
  | zero => exact absurd HA.out (by simp [spec_TreeRight.j0])
  | succ kj1 =>
   have H := HA.out
   clear HA
   simp only [spec_TreeRight.j0] at H
   by_cases c8 : x16_1 = true
   ·
    subst c8
    have H1 : (some false) = some r := by rw [if_pos rfl] at H; exact H
    clear H
    have H := H1
    clear H1
    obtain rfl := Option.some.inj H
    go_wp2
    go_ret
    exact ⟨by first | rfl | (simp [errW_none, errW_some] <;> rfl) | (simp [*, errW_none, errW_some] <;> rfl), bl_⟩
   ·
    replace c8 := Bool.eq_false_iff.mpr c8
    subst c8
    have H1 : ((spec_l04Read.f l0_0).bind fun bt151 => ((spec_l04Wood_items.f bt151.1 bt151.2 bt151.2).bind fun bt154 => (spec_TreeRight.l0 kj1 bt154.1 0 bt151.1 bt154.2))) = some r := by rw [if_neg (show ¬ (false = true) by decide)] at H; exact H
    clear H
    have H := H1
    clear H1
    replace H := Option.bind_eq_some_iff.mp H
    obtain ⟨⟨t151, t152⟩, A90, H⟩ := H
    replace H : ((spec_l04Wood_items.f t151 t152 t152).bind fun bt154 => (spec_TreeRight.l0 kj1 bt154.1 0 t151 bt154.2)) = some r := H
    have A9 := Aside0.mk A90
    clear A90
    replace H := Option.bind_eq_some_iff.mp H
    obtain ⟨⟨t154, t157⟩, A100, H⟩ := H
    replace H : (spec_TreeRight.l0 kj1 t154 0 t151 t157) = some r := H
    have A10 := Aside0.mk A100
    clear A100
    have H' := Aside0.mk H
    clear H
    have hcz11_0 : wc.cell? ⟨gb149, 0, none⟩ = some (.slice A0_0 l0_0.length c0_0) := (blk_cell BK149.out 0).trans rfl
    have hfz11_0 := blk_frozen BK149.out 0
    go_wp2_with (first | ((with_reducible refine gate_callee (f := 17) rfl ?_); refine gL_ (some 18) Tryz.func17 #[.agg #[.slice A0_0 l0_0.length c0_0]] ?_; (with_reducible refine (spec_l04Read.calls _ _ l0_0 t151 t152 w _ ?side1 ?side2 ?side3 A9.out).mono ?_); (case side1 => repeat (first | (with_reducible first | exact HB.out | apply below_alloc | apply pw_below_drewN | apply below_drew1 | refine below_set ?_ GE149.out) | exact HB.out)); (case side2 => exact HR0_0.out); (case side3 => exact HC0_0.out); rintro e w12 ⟨g153, rfl, hi, hb, hb2⟩; refine ⟨_, rfl, ?_⟩; have n0_ := Aside0.mk (blk_below (up_ BK149.out) hb2); have n1_ := Aside0.mk (hb); have n2_ := Aside0.mk (hi); have n3_ := Aside0.mk (IsS53.ne_blk hi (blk_below (up_ BK149.out) hb2) (by decide)); have n4_ := Aside0.mk (Ne.symm (IsS53.ne_blk hi (blk_below (up_ BK149.out) hb2) (by decide))); clear BK149; clear HB; have BK149 := n0_; have HB := n1_; have HI153 := n2_; have NB153_149 := n3_; have NB149_153 := n4_; clear n0_ n1_ n2_ n3_ n4_; (try clear hb); (try clear hb2); (try clear hk); (try clear hi); obtain ⟨ASz13_0, cSz13_0, HGz13, hgz13, HSz13_0⟩ := HI153.out; have hcz13_0 := cellS53_0 HGz13; have hcz13_1 := cellS53_1 HGz13; have hfz13_1 := blk_frozen HGz13 1; clear HGz13 hgz13) | ((with_reducible refine gate_callee (f := 31) rfl ?_); refine gL_ (some 24) Tryz.func31 #[.pointer (some ⟨g153, 0, none⟩), .int .i64 t152] ?_; (with_reducible refine (spec_l04Wood_items.calls g153 t151 t152 t152 t154 t157 w _ ?side1 ?side2 A10.out).mono ?_); (case side1 => repeat (first | (with_reducible first | exact HI153.out | apply IsS53.alloc | apply IsS53.drewN | apply IsS53.drew | apply IsS53.set_1 | refine IsS53.far ?_ NB153_149.out _) | exact HI153.out)); (case side2 => repeat (first | (with_reducible first | exact HB.out | apply below_alloc | apply pw_below_drewN | apply below_drew1 | refine below_set ?_ (IsS53.ge HI153.out) | refine below_set ?_ GE149.out) | exact HB.out)); rintro e w14 ⟨v155, rfl, ho0, hi, hb, hk⟩; refine ⟨_, rfl, ?_⟩; have n0_ := Aside0.mk (KeepBut.blk hk (g' := gb149) (o := .cells #[.slice A0_0 l0_0.length c0_0] 30 (0, 0)) (by exact up_ BK149.out) NB149_153.out (by simp)); have n1_ := Aside0.mk (Kd.R_lower ho0 (below_size (by repeat (first | (with_reducible first | exact HB.out | apply below_alloc | apply pw_below_drewN | apply below_drew1 | refine below_set ?_ (IsS53.ge HI153.out) | refine below_set ?_ GE149.out) | exact HB.out)))); have n2_ := Aside0.mk (hb); have n3_ := Aside0.mk (hi); clear BK149; clear HB; clear HI153; have BK149 := n0_; have HO156 := n1_; have HB := n2_; have HI153 := n3_; clear n0_ n1_ n2_ n3_; (try clear hb); (try clear hb2); (try clear hk); (try clear hi); (try clear ho0)))
    go_loopg [5] kj1 (fun kq v5 w' => ∃ (x5_2 : Int), v5 = .int .i64 x5_2 ∧ Aside0 (spec_TreeRight.l0 kq t154 x5_2 t151 t157 = some r) ∧ Aside0 (kq ≤ kj1) ∧ Aside0 (Kd.R k35 35 w' w.heap.size (fun _ => True) v155 t154) ∧ Aside0 (w'.heap[gb149]? = some (.cells #[(.slice A0_0 l0_0.length c0_0)] 30 (0, 0))) ∧ Aside0 (IsS53 w w' g153 t151 t157) ∧ Aside0 (Below w.heap.size w w'))
    case atStart => exact ⟨(0), (by first | rfl | (simp; done) | (simp [*]; done)), H', ⟨Nat.le_refl _⟩, ⟨rU_ HO156.out⟩, ⟨up_ BK149.out⟩, ⟨by repeat (first | (with_reducible first | exact HI153.out | apply IsS53.alloc | apply IsS53.drewN | apply IsS53.drew | apply IsS53.set_1 | refine IsS53.far ?_ NB153_149.out _) | exact HI153.out)⟩, ⟨by repeat (first | (with_reducible first | exact HB.out | apply below_alloc | apply pw_below_drewN | apply below_drew1 | refine below_set ?_ (IsS53.ge HI153.out) | refine below_set ?_ GE149.out) | exact HB.out)⟩⟩
    case round =>
     clear H'
     try clear c1
     try clear p2
     try clear c3
     try clear c4
     try clear c4b0
     try clear c4b1
     try clear c8
     try clear hcz11_0
     try clear hcz13_0
     try clear hcz13_1
     try clear hcz5_0
     try clear hcz7_0
     try clear hfz11_0
     try clear hfz13_1
     try clear hfz5_0
     try clear hfz7_0
     try clear p2
     obtain ⟨x5_2, rfl, HA, HK2, HO_4, BK149, HI153, HB⟩ := hrel
     cases gk with
     | zero => exact absurd HA.out (by simp [spec_TreeRight.l0])
     | succ k2 =>
      have H := HA.out
      clear HA
      simp only [spec_TreeRight.l0] at H
      by_cases c15 : x5_2 < (t154.length : Int)
      ·
       rw [if_pos c15] at H
       have c15b0 : decide (x5_2 < (t154.length : Int)) = true := decide_eq_true c15
       clear c15
       have HC16 := Aside0.mk H
       clear H
       obtain ⟨Ao17, co17, eo17⟩ := Kd.R_slice HO_4.out
       subst eo17
       go_upto_region 8 with (fail)
       go_cut [53] (fun v53 wc => ∃ (kq : Nat) (x53_15 : Bool), v53 = .bool x53_15 ∧ Aside0 (spec_TreeRight.j2 kq t154 x5_2 x53_15 t151 t157 = some r) ∧ Aside0 (kq ≤ k2) ∧ Aside0 (Kd.R k35 35 wc w.heap.size (fun _ => True) (.slice Ao17 t154.length co17) t154) ∧ Aside0 (wc.heap[gb149]? = some (.cells #[(.slice A0_0 l0_0.length c0_0)] 30 (0, 0))) ∧ Aside0 (IsS53 w wc g153 t151 t157) ∧ Aside0 (Below w.heap.size w wc))
       case first =>
        have H := HC16.out
        clear HC16
        by_cases c18 : 0 ≤ x5_2
        ·
         rw [if_pos c18] at H
         have c18b0 : decide (0 ≤ x5_2) = true := decide_eq_true c18
         clear c18
         (first | rw [c18b0] | (simp only [i64_w, i32_w]; rw [c18b0]) | skip)
         replace H := Option.bind_eq_some_iff.mp H
         obtain ⟨t161, A190, H⟩ := H
         replace H : (if t161 = true then (if x5_2 > 0 then (if 0 ≤ (wrap64 (x5_2 - 1)) then (if (wrap64 (x5_2 - 1)) < (t154.length : Int) then ((spec_RatioCmp.f k2 ((rd_T35 t154 (wrap64 (x5_2 - 1))).f0) ((rd_T35 t154 (wrap64 (x5_2 - 1))).f1) ((rd_T35 t154 (wrap64 (x5_2 - 1))).f2) ((rd_T35 t154 x5_2).f0) ((rd_T35 t154 x5_2).f1) ((rd_T35 t154 x5_2).f2)).bind fun t164 => (spec_TreeRight.j2 k2 t154 x5_2 (decide (t164 ≥ 0)) t151 t157)) else (none)) else (none)) else (spec_TreeRight.j2 k2 t154 x5_2 false t151 t157)) else (spec_TreeRight.j2 k2 t154 x5_2 true t151 t157)) = some r := H
         have A19 := Aside0.mk A190
         clear A190
         by_cases c20 : t161 = true
         ·
          subst c20
          have H1 : (if x5_2 > 0 then (if 0 ≤ (wrap64 (x5_2 - 1)) then (if (wrap64 (x5_2 - 1)) < (t154.length : Int) then ((spec_RatioCmp.f k2 ((rd_T35 t154 (wrap64 (x5_2 - 1))).f0) ((rd_T35 t154 (wrap64 (x5_2 - 1))).f1) ((rd_T35 t154 (wrap64 (x5_2 - 1))).f2) ((rd_T35 t154 x5_2).f0) ((rd_T35 t154 x5_2).f1) ((rd_T35 t154 x5_2).f2)).bind fun t164 => (spec_TreeRight.j2 k2 t154 x5_2 (decide (t164 ≥ 0)) t151 t157)) else (none)) else (none)) else (spec_TreeRight.j2 k2 t154 x5_2 false t151 t157)) = some r := by rw [if_pos rfl] at H; exact H
          clear H
          have H := H1
          clear H1
          by_cases c21 : x5_2 > 0
          ·
           rw [if_pos c21] at H
           have c21b0 : decide (0 < x5_2) = true := decide_eq_true c21
           clear c21
           obtain ⟨ji22, hji22⟩ : ∃ j_ : Int, (wrap64 (x5_2 - 1)) = j_ := ⟨_, rfl⟩
           replace H : (if 0 ≤ (ji22) then (if (ji22) < (t154.length : Int) then ((spec_RatioCmp.f k2 ((rd_T35 t154 (ji22)).f0) ((rd_T35 t154 (ji22)).f1) ((rd_T35 t154 (ji22)).f2) ((rd_T35 t154 x5_2).f0) ((rd_T35 t154 x5_2).f1) ((rd_T35 t154 x5_2).f2)).bind fun t164 => (spec_TreeRight.j2 k2 t154 x5_2 (decide (t164 ≥ 0)) t151 t157)) else (none)) else (none)) = some r := by first | (rw [hji22] at H; exact H) | (simp only [hji22] at H ⊢; exact H)
           (try rw [hji22] at A19)
           have hji22w : (IntKind.i64.wrap (x5_2 - 1)) = ji22 := (i64_w _).trans hji22
           by_cases c23 : 0 ≤ (ji22)
           ·
            rw [if_pos c23] at H
            have c23b0 : decide (0 ≤ (ji22)) = true := decide_eq_true c23
            clear c23
            by_cases c24 : (ji22) < (t154.length : Int)
            ·
             rw [if_pos c24] at H
             have c24b0 : decide ((ji22) < (t154.length : Int)) = true := decide_eq_true c24
             clear c24
             replace H := Option.bind_eq_some_iff.mp H
             obtain ⟨t164, A250, H⟩ := H
             replace H : (spec_TreeRight.j2 k2 t154 x5_2 (decide (t164 ≥ 0)) t151 t157) = some r := H
             have A25 := Aside0.mk A250
             clear A250
             have H' := Aside0.mk H
             clear H
             try go_wp2
             replace HO_4 := Aside0.mk (Kd.R_drew HO_4.out)
             replace BK149 := Aside0.mk (blk_drew BK149.out)
             replace HI153 := Aside0.mk (IsS53.drew HI153.out)
             replace HB := Aside0.mk (below_drew1 HB.out)
             have p160 : 0 ≤ (x5_2 : Int) := ds_
             have q160 : x5_2 < (t154.length : Int) := ds_
             obtain ⟨ad160, e160, hx160_0, hx160_1, hx160_2⟩ := at_T35 (Kd.R_reads' HO_4.out).2.2 x5_2 p160 q160
             cases e160
             replace p160 := eq_true p160
             replace q160 := eq_true q160
             have p162 : 0 ≤ ((ji22) : Int) := ds_
             have q162 : (ji22) < (t154.length : Int) := ds_
             obtain ⟨ad162, e162, hx162_0, hx162_1, hx162_2⟩ := at_T35 (Kd.R_reads' HO_4.out).2.2 (ji22) p162 q162
             obtain rfl : ad160 = ad162 := (by injection e162)
             replace p162 := eq_true p162
             replace q162 := eq_true q162
             have p163 : 0 ≤ (x5_2 : Int) := ds_
             have q163 : x5_2 < (t154.length : Int) := ds_
             obtain ⟨ad163, e163, hx163_0, hx163_1, hx163_2⟩ := at_T35 (Kd.R_reads' HO_4.out).2.2 x5_2 p163 q163
             obtain rfl : ad160 = ad163 := (by injection e163)
             replace p163 := eq_true p163
             replace q163 := eq_true q163
             refine start_ (n := 23) (S := fun w' => w'.cell? (ad160.add ((x5_2).toNat * 3)) = some (.int .i64 ((rd_T35 t154 x5_2).f0)) ∧ w'.cell? ⟨(ad160.add ((x5_2).toNat * 3)).block, (ad160.add ((x5_2).toNat * 3)).off + 1, none⟩ = some (.int .i64 ((rd_T35 t154 x5_2).f1)) ∧ w'.cell? ⟨(ad160.add ((x5_2).toNat * 3)).block, (ad160.add ((x5_2).toNat * 3)).off + 2, none⟩ = some (.int .i64 ((rd_T35 t154 x5_2).f2)) ∧ w'.cell? (ad160.add (((ji22)).toNat * 3)) = some (.int .i64 ((rd_T35 t154 (ji22)).f0)) ∧ w'.cell? ⟨(ad160.add (((ji22)).toNat * 3)).block, (ad160.add (((ji22)).toNat * 3)).off + 1, none⟩ = some (.int .i64 ((rd_T35 t154 (ji22)).f1)) ∧ w'.cell? ⟨(ad160.add (((ji22)).toNat * 3)).block, (ad160.add (((ji22)).toNat * 3)).off + 2, none⟩ = some (.int .i64 ((rd_T35 t154 (ji22)).f2)) ∧ w'.cell? (ad160.add ((x5_2).toNat * 3)) = some (.int .i64 ((rd_T35 t154 x5_2).f0)) ∧ w'.cell? ⟨(ad160.add ((x5_2).toNat * 3)).block, (ad160.add ((x5_2).toNat * 3)).off + 1, none⟩ = some (.int .i64 ((rd_T35 t154 x5_2).f1)) ∧ w'.cell? ⟨(ad160.add ((x5_2).toNat * 3)).block, (ad160.add ((x5_2).toNat * 3)).off + 2, none⟩ = some (.int .i64 ((rd_T35 t154 x5_2).f2))) (ds := []) #[false, false, false, false, false, false, false, false, false, false, false, false, false, false, false, false, false, false, false, false, false, false, false] (by kernel_rfl) rfl rfl ⟨hx160_0, hx160_1, hx160_2, hx162_0, hx162_1, hx162_2, hx163_0, hx163_1, hx163_2⟩ (fun hHeld => ?_); refine with_tabW spec_TreeRight.tab8 spec_TreeRight.bits8 (fun HT_ HW_ => ?_)
             generalize wr.drew = w26 at HO_4 BK149 HI153 HB hx160_0 hx160_1 hx160_2 hx162_0 hx162_1 hx162_2 hx163_0 hx163_1 hx163_2 hHeld ⊢
             refine pu_ 0 31 HT_ ?_
             refine pu_ 1 32 HT_ ?_
             refine pu_ 2 33 HT_ ?_
             refine tk_ 3 34 HT_ HW_ hHeld ?_ rfl rfl (by rintro w' ⟨s0, s1, s2, s3, s4, s5, s6, s7, s8⟩; go_simp; with_reducible rfl)
             refine one_ (i := 4) (N := some 35) #[o_,o_,o_,o_,o_,x_,x_,x_,x_,x_,x_,x_,x_,x_,x_,x_,x_,x_,x_,x_,x_,x_,x_] rfl rfl (one_of HT_.out (by kernel_rfl)) (by decide) (fun K hK => ?_)
             refine goes_ Tryz.func16 (by kernel_rfl) rfl #[.agg #[.int .i64 ((rd_T35 t154 x5_2).f0), .int .i64 ((rd_T35 t154 x5_2).f1), .int .i64 ((rd_T35 t154 x5_2).f2)]] (by rfl) rfl rfl (by (try simp only [List.map_toArray, List.map_cons, List.map_nil]); first | done | rfl | (simp only [List.length_drop, List.length_take]; rfl)) ?_
             with_reducible refine (spec_ItemRight.calls ((rd_T35 t154 x5_2).f0) ((rd_T35 t154 x5_2).f1) ((rd_T35 t154 x5_2).f2) true _ A19.out).mono ?_
             rintro e w27 ⟨rfl, hb⟩
             have HS0_ := (hb.cell (World.block_lt_of_cell? _ _ (hHeld.1))).trans (hHeld.1)
             have HS1_ := (hb.cell (World.block_lt_of_cell? _ _ (hHeld.2.1))).trans (hHeld.2.1)
             have HS2_ := (hb.cell (World.block_lt_of_cell? _ _ (hHeld.2.2.1))).trans (hHeld.2.2.1)
             have HS3_ := (hb.cell (World.block_lt_of_cell? _ _ (hHeld.2.2.2.1))).trans (hHeld.2.2.2.1)
             have HS4_ := (hb.cell (World.block_lt_of_cell? _ _ (hHeld.2.2.2.2.1))).trans (hHeld.2.2.2.2.1)
             have HS5_ := (hb.cell (World.block_lt_of_cell? _ _ (hHeld.2.2.2.2.2.1))).trans (hHeld.2.2.2.2.2.1)
             have HS6_ := (hb.cell (World.block_lt_of_cell? _ _ (hHeld.2.2.2.2.2.2.1))).trans (hHeld.2.2.2.2.2.2.1)
             have HS7_ := (hb.cell (World.block_lt_of_cell? _ _ (hHeld.2.2.2.2.2.2.2.1))).trans (hHeld.2.2.2.2.2.2.2.1)
             have HS8_ := (hb.cell (World.block_lt_of_cell? _ _ (hHeld.2.2.2.2.2.2.2.2))).trans (hHeld.2.2.2.2.2.2.2.2)
             refine ⟨_, rfl, ?_⟩
             have n0_ := Aside0.mk (Kd.R_below (by exact rU_ HO_4.out) hb)
             have n1_ := Aside0.mk (blk_below (up_ BK149.out) hb)
             have n2_ := Aside0.mk (IsS53.below (by repeat (first | (with_reducible first | exact HI153.out | apply IsS53.alloc | apply IsS53.drewN | apply IsS53.drew | apply IsS53.set_1 | refine IsS53.far ?_ NB153_149.out _) | exact HI153.out)) hb)
             have n3_ := Aside0.mk (below_step (by repeat (first | (with_reducible first | exact HB.out | apply below_alloc | apply pw_below_drewN | apply below_drew1 | refine below_set ?_ (IsS53.ge HI153.out) | refine below_set ?_ GE149.out) | exact HB.out)) hb)
             clear HO_4
             clear BK149
             clear HI153
             clear HB
             have HO_4 := n0_
             have BK149 := n1_
             have HI153 := n2_
             have HB := n3_
             clear n0_ n1_ n2_ n3_
             (try clear hb)
             (try clear hb2)
             (try clear hk)
             (try clear hi)
             refine hK.out _ _ ⟨HS0_, HS1_, HS2_, HS3_, HS4_, HS5_, HS6_, HS7_, HS8_⟩ (fun hHeld => ?_)
             clear hK K
             refine norm_ (a' := ?_) ?_ ?_
             rotate_left
             ·
              show Act.put _ (some 35) _ = _
              simp only [Act.put, List.setIfInBounds_toArray, List.set_cons_zero, List.set_cons_succ, i64_w, i32_w]
              rfl
             refine pu_ 5 36 HT_ ?_
             refine pu_ 6 37 HT_ ?_
             refine pu_ 7 38 HT_ ?_
             refine pu_ 8 39 HT_ ?_
             refine pu_ 9 40 HT_ ?_
             refine pu_ 10 41 HT_ ?_
             refine pu_ 11 42 HT_ ?_
             refine pu_ 12 43 HT_ ?_
             refine pu_ 13 44 HT_ ?_
             refine pu_ 15 46 HT_ ?_
             refine pu_ 16 47 HT_ ?_
             refine pu_ 17 48 HT_ ?_
             refine tk_ 14 45 HT_ HW_ hHeld ?_ rfl rfl (by rintro w' ⟨s0, s1, s2, s3, s4, s5, s6, s7, s8⟩; go_simp; with_reducible rfl)
             refine tk_ 18 49 HT_ HW_ hHeld ?_ rfl rfl (by rintro w' ⟨s0, s1, s2, s3, s4, s5, s6, s7, s8⟩; go_simp; with_reducible rfl)
             refine one_ (i := 19) (N := some 50) #[o_,o_,o_,o_,o_,o_,o_,o_,o_,o_,o_,o_,o_,o_,o_,o_,o_,o_,o_,o_,x_,x_,x_] rfl rfl (one_of HT_.out (by kernel_rfl)) (by decide) (fun K hK => ?_)
             refine goes_ Tryz.func32 (by kernel_rfl) rfl #[.agg #[.int .i64 ((rd_T35 t154 (ji22)).f0), .int .i64 ((rd_T35 t154 (ji22)).f1), .int .i64 ((rd_T35 t154 (ji22)).f2)], .agg #[.int .i64 ((rd_T35 t154 x5_2).f0), .int .i64 ((rd_T35 t154 x5_2).f1), .int .i64 ((rd_T35 t154 x5_2).f2)]] (by rfl) rfl rfl (by (try simp only [List.map_toArray, List.map_cons, List.map_nil]); first | done | (simp only [hji22]; rfl) | rfl | (simp only [List.length_drop, List.length_take]; rfl)) ?_
             with_reducible refine (spec_RatioCmp.calls k2 ((rd_T35 t154 (ji22)).f0) ((rd_T35 t154 (ji22)).f1) ((rd_T35 t154 (ji22)).f2) ((rd_T35 t154 x5_2).f0) ((rd_T35 t154 x5_2).f1) ((rd_T35 t154 x5_2).f2) t164 _ A25.out).mono ?_
             rintro e w28 ⟨rfl, hb⟩
             have HS0_ := (hb.cell (World.block_lt_of_cell? _ _ (hHeld.1))).trans (hHeld.1)
             have HS1_ := (hb.cell (World.block_lt_of_cell? _ _ (hHeld.2.1))).trans (hHeld.2.1)
             have HS2_ := (hb.cell (World.block_lt_of_cell? _ _ (hHeld.2.2.1))).trans (hHeld.2.2.1)
             have HS3_ := (hb.cell (World.block_lt_of_cell? _ _ (hHeld.2.2.2.1))).trans (hHeld.2.2.2.1)
             have HS4_ := (hb.cell (World.block_lt_of_cell? _ _ (hHeld.2.2.2.2.1))).trans (hHeld.2.2.2.2.1)
             have HS5_ := (hb.cell (World.block_lt_of_cell? _ _ (hHeld.2.2.2.2.2.1))).trans (hHeld.2.2.2.2.2.1)
             have HS6_ := (hb.cell (World.block_lt_of_cell? _ _ (hHeld.2.2.2.2.2.2.1))).trans (hHeld.2.2.2.2.2.2.1)
             have HS7_ := (hb.cell (World.block_lt_of_cell? _ _ (hHeld.2.2.2.2.2.2.2.1))).trans (hHeld.2.2.2.2.2.2.2.1)
             have HS8_ := (hb.cell (World.block_lt_of_cell? _ _ (hHeld.2.2.2.2.2.2.2.2))).trans (hHeld.2.2.2.2.2.2.2.2)
             refine ⟨_, rfl, ?_⟩
             have n0_ := Aside0.mk (Kd.R_below (by exact rU_ HO_4.out) hb)
             have n1_ := Aside0.mk (blk_below (up_ BK149.out) hb)
             have n2_ := Aside0.mk (IsS53.below (by repeat (first | (with_reducible first | exact HI153.out | apply IsS53.alloc | apply IsS53.drewN | apply IsS53.drew | apply IsS53.set_1 | refine IsS53.far ?_ NB153_149.out _) | exact HI153.out)) hb)
             have n3_ := Aside0.mk (below_step (by repeat (first | (with_reducible first | exact HB.out | apply below_alloc | apply pw_below_drewN | apply below_drew1 | refine below_set ?_ (IsS53.ge HI153.out) | refine below_set ?_ GE149.out) | exact HB.out)) hb)
             clear HO_4
             clear BK149
             clear HI153
             clear HB
             have HO_4 := n0_
             have BK149 := n1_
             have HI153 := n2_
             have HB := n3_
             clear n0_ n1_ n2_ n3_
             (try clear hb)
             (try clear hb2)
             (try clear hk)
             (try clear hi)
             refine hK.out _ _ ⟨HS0_, HS1_, HS2_, HS3_, HS4_, HS5_, HS6_, HS7_, HS8_⟩ (fun hHeld => ?_)
             clear hK K
             refine norm_ (a' := ?_) ?_ ?_
             rotate_left
             ·
              show Act.put _ (some 50) _ = _
              simp only [Act.put, List.setIfInBounds_toArray, List.set_cons_zero, List.set_cons_succ, i64_w, i32_w]
              rfl
             refine pu_ 20 51 HT_ ?_
             refine pu_ 21 52 HT_ ?_
             refine pu_ 22 53 HT_ ?_
             refine done_ (done_of HT_.out (by kernel_rfl)) ?_
             try go_wp2
             go_meet
             case rel => exact ⟨_, (decide (t164 ≥ 0)), (by first | rfl | (simp; done) | (simp [*]; done)), H', ⟨by have := HJ1.out; have := HK2.out; first | omega | exact Nat.le_refl _⟩, ⟨rU_ HO_4.out⟩, ⟨up_ BK149.out⟩, ⟨by repeat (first | (with_reducible first | exact HI153.out | apply IsS53.alloc | apply IsS53.drewN | apply IsS53.drew | apply IsS53.set_1 | refine IsS53.far ?_ NB153_149.out _) | exact HI153.out)⟩, ⟨by repeat (first | (with_reducible first | exact HB.out | apply below_alloc | apply pw_below_drewN | apply below_drew1 | refine below_set ?_ (IsS53.ge HI153.out) | refine below_set ?_ GE149.out) | exact HB.out)⟩⟩
            ·
             rw [if_neg c24] at H
             exact absurd H (by simp)
           ·
            rw [if_neg c23] at H
            exact absurd H (by simp)
          ·
           rw [if_neg c21] at H
           have c21b0 : decide (0 < x5_2) = false := decide_eq_false c21
           clear c21
           have H' := Aside0.mk H
           clear H
           try go_wp2
           replace HO_4 := Aside0.mk (Kd.R_drew HO_4.out)
           replace BK149 := Aside0.mk (blk_drew BK149.out)
           replace HI153 := Aside0.mk (IsS53.drew HI153.out)
           replace HB := Aside0.mk (below_drew1 HB.out)
           have p160 : 0 ≤ (x5_2 : Int) := ds_
           have q160 : x5_2 < (t154.length : Int) := ds_
           obtain ⟨ad160, e160, hx160_0, hx160_1, hx160_2⟩ := at_T35 (Kd.R_reads' HO_4.out).2.2 x5_2 p160 q160
           cases e160
           replace p160 := eq_true p160
           replace q160 := eq_true q160
           refine start_ (n := 23) (S := fun w' => w'.cell? (ad160.add ((x5_2).toNat * 3)) = some (.int .i64 ((rd_T35 t154 x5_2).f0)) ∧ w'.cell? ⟨(ad160.add ((x5_2).toNat * 3)).block, (ad160.add ((x5_2).toNat * 3)).off + 1, none⟩ = some (.int .i64 ((rd_T35 t154 x5_2).f1)) ∧ w'.cell? ⟨(ad160.add ((x5_2).toNat * 3)).block, (ad160.add ((x5_2).toNat * 3)).off + 2, none⟩ = some (.int .i64 ((rd_T35 t154 x5_2).f2))) (ds := []) #[false, false, false, false, false, false, false, false, false, false, false, false, false, false, false, false, false, false, false, false, false, false, false] (by kernel_rfl) rfl rfl ⟨hx160_0, hx160_1, hx160_2⟩ (fun hHeld => ?_); refine with_tabW spec_TreeRight.tab8 spec_TreeRight.bits8 (fun HT_ HW_ => ?_)
           generalize wr.drew = w29 at HO_4 BK149 HI153 HB hx160_0 hx160_1 hx160_2 hHeld ⊢
           refine pu_ 0 31 HT_ ?_
           refine pu_ 1 32 HT_ ?_
           refine pu_ 2 33 HT_ ?_
           refine tk_ 3 34 HT_ HW_ hHeld ?_ rfl rfl (by rintro w' ⟨s0, s1, s2⟩; go_simp; with_reducible rfl)
           refine one_ (i := 4) (N := some 35) #[o_,o_,o_,o_,o_,x_,x_,x_,x_,x_,x_,x_,x_,x_,x_,x_,x_,x_,x_,x_,x_,x_,x_] rfl rfl (one_of HT_.out (by kernel_rfl)) (by decide) (fun K hK => ?_)
           refine goes_ Tryz.func16 (by kernel_rfl) rfl #[.agg #[.int .i64 ((rd_T35 t154 x5_2).f0), .int .i64 ((rd_T35 t154 x5_2).f1), .int .i64 ((rd_T35 t154 x5_2).f2)]] (by rfl) rfl rfl (by (try simp only [List.map_toArray, List.map_cons, List.map_nil]); first | done | rfl | (simp only [List.length_drop, List.length_take]; rfl)) ?_
           with_reducible refine (spec_ItemRight.calls ((rd_T35 t154 x5_2).f0) ((rd_T35 t154 x5_2).f1) ((rd_T35 t154 x5_2).f2) true _ A19.out).mono ?_
           rintro e w30 ⟨rfl, hb⟩
           have HS0_ := (hb.cell (World.block_lt_of_cell? _ _ (hHeld.1))).trans (hHeld.1)
           have HS1_ := (hb.cell (World.block_lt_of_cell? _ _ (hHeld.2.1))).trans (hHeld.2.1)
           have HS2_ := (hb.cell (World.block_lt_of_cell? _ _ (hHeld.2.2))).trans (hHeld.2.2)
           refine ⟨_, rfl, ?_⟩
           have n0_ := Aside0.mk (Kd.R_below (by exact rU_ HO_4.out) hb)
           have n1_ := Aside0.mk (blk_below (up_ BK149.out) hb)
           have n2_ := Aside0.mk (IsS53.below (by repeat (first | (with_reducible first | exact HI153.out | apply IsS53.alloc | apply IsS53.drewN | apply IsS53.drew | apply IsS53.set_1 | refine IsS53.far ?_ NB153_149.out _) | exact HI153.out)) hb)
           have n3_ := Aside0.mk (below_step (by repeat (first | (with_reducible first | exact HB.out | apply below_alloc | apply pw_below_drewN | apply below_drew1 | refine below_set ?_ (IsS53.ge HI153.out) | refine below_set ?_ GE149.out) | exact HB.out)) hb)
           clear HO_4
           clear BK149
           clear HI153
           clear HB
           have HO_4 := n0_
           have BK149 := n1_
           have HI153 := n2_
           have HB := n3_
           clear n0_ n1_ n2_ n3_
           (try clear hb)
           (try clear hb2)
           (try clear hk)
           (try clear hi)
           refine hK.out _ _ ⟨HS0_, HS1_, HS2_⟩ (fun hHeld => ?_)
           clear hK K
           refine norm_ (a' := ?_) ?_ ?_
           rotate_left
           ·
            show Act.put _ (some 35) _ = _
            simp only [Act.put, List.setIfInBounds_toArray, List.set_cons_zero, List.set_cons_succ, i64_w, i32_w]
            rfl
           refine pu_ 5 36 HT_ ?_
           refine pu_ 6 37 HT_ ?_
           refine pu_ 7 38 HT_ ?_
           refine pu_ 8 39 HT_ ?_
           refine pu_ 9 40 HT_ ?_
           refine pn_ 10 41 HT_ ?_
           refine pn_ 11 42 HT_ ?_
           refine pn_ 12 43 HT_ ?_
           refine pn_ 13 44 HT_ ?_
           refine pn_ 14 45 HT_ ?_
           refine pn_ 15 46 HT_ ?_
           refine pn_ 16 47 HT_ ?_
           refine pn_ 17 48 HT_ ?_
           refine pn_ 18 49 HT_ ?_
           refine pn_ 19 50 HT_ ?_
           refine pn_ 20 51 HT_ ?_
           refine pu_ 21 52 HT_ ?_
           refine pu_ 22 53 HT_ ?_
           refine done_ (done_of HT_.out (by kernel_rfl)) ?_
           try go_wp2
           go_meet
           case rel => exact ⟨_, (false), (by first | rfl | (simp; done) | (simp [*]; done)), H', ⟨by have := HJ1.out; have := HK2.out; first | omega | exact Nat.le_refl _⟩, ⟨rU_ HO_4.out⟩, ⟨up_ BK149.out⟩, ⟨by repeat (first | (with_reducible first | exact HI153.out | apply IsS53.alloc | apply IsS53.drewN | apply IsS53.drew | apply IsS53.set_1 | refine IsS53.far ?_ NB153_149.out _) | exact HI153.out)⟩, ⟨by repeat (first | (with_reducible first | exact HB.out | apply below_alloc | apply pw_below_drewN | apply below_drew1 | refine below_set ?_ (IsS53.ge HI153.out) | refine below_set ?_ GE149.out) | exact HB.out)⟩⟩
         ·
          replace c20 := Bool.eq_false_iff.mpr c20
          subst c20
          have H1 : (spec_TreeRight.j2 k2 t154 x5_2 true t151 t157) = some r := by rw [if_neg (show ¬ (false = true) by decide)] at H; exact H
          clear H
          have H := H1
          clear H1
          have H' := Aside0.mk H
          clear H
          try go_wp2
          replace HO_4 := Aside0.mk (Kd.R_drew HO_4.out)
          replace BK149 := Aside0.mk (blk_drew BK149.out)
          replace HI153 := Aside0.mk (IsS53.drew HI153.out)
          replace HB := Aside0.mk (below_drew1 HB.out)
          have p160 : 0 ≤ (x5_2 : Int) := ds_
          have q160 : x5_2 < (t154.length : Int) := ds_
          obtain ⟨ad160, e160, hx160_0, hx160_1, hx160_2⟩ := at_T35 (Kd.R_reads' HO_4.out).2.2 x5_2 p160 q160
          cases e160
          replace p160 := eq_true p160
          replace q160 := eq_true q160
          refine start_ (n := 23) (S := fun w' => w'.cell? (ad160.add ((x5_2).toNat * 3)) = some (.int .i64 ((rd_T35 t154 x5_2).f0)) ∧ w'.cell? ⟨(ad160.add ((x5_2).toNat * 3)).block, (ad160.add ((x5_2).toNat * 3)).off + 1, none⟩ = some (.int .i64 ((rd_T35 t154 x5_2).f1)) ∧ w'.cell? ⟨(ad160.add ((x5_2).toNat * 3)).block, (ad160.add ((x5_2).toNat * 3)).off + 2, none⟩ = some (.int .i64 ((rd_T35 t154 x5_2).f2))) (ds := []) #[false, false, false, false, false, false, false, false, false, false, false, false, false, false, false, false, false, false, false, false, false, false, false] (by kernel_rfl) rfl rfl ⟨hx160_0, hx160_1, hx160_2⟩ (fun hHeld => ?_); refine with_tabW spec_TreeRight.tab8 spec_TreeRight.bits8 (fun HT_ HW_ => ?_)
          generalize wr.drew = w31 at HO_4 BK149 HI153 HB hx160_0 hx160_1 hx160_2 hHeld ⊢
          refine pu_ 0 31 HT_ ?_
          refine pu_ 1 32 HT_ ?_
          refine pu_ 2 33 HT_ ?_
          refine tk_ 3 34 HT_ HW_ hHeld ?_ rfl rfl (by rintro w' ⟨s0, s1, s2⟩; go_simp; with_reducible rfl)
          refine one_ (i := 4) (N := some 35) #[o_,o_,o_,o_,o_,x_,x_,x_,x_,x_,x_,x_,x_,x_,x_,x_,x_,x_,x_,x_,x_,x_,x_] rfl rfl (one_of HT_.out (by kernel_rfl)) (by decide) (fun K hK => ?_)
          refine goes_ Tryz.func16 (by kernel_rfl) rfl #[.agg #[.int .i64 ((rd_T35 t154 x5_2).f0), .int .i64 ((rd_T35 t154 x5_2).f1), .int .i64 ((rd_T35 t154 x5_2).f2)]] (by rfl) rfl rfl (by (try simp only [List.map_toArray, List.map_cons, List.map_nil]); first | done | rfl | (simp only [List.length_drop, List.length_take]; rfl)) ?_
          with_reducible refine (spec_ItemRight.calls ((rd_T35 t154 x5_2).f0) ((rd_T35 t154 x5_2).f1) ((rd_T35 t154 x5_2).f2) false _ A19.out).mono ?_
          rintro e w32 ⟨rfl, hb⟩
          have HS0_ := (hb.cell (World.block_lt_of_cell? _ _ (hHeld.1))).trans (hHeld.1)
          have HS1_ := (hb.cell (World.block_lt_of_cell? _ _ (hHeld.2.1))).trans (hHeld.2.1)
          have HS2_ := (hb.cell (World.block_lt_of_cell? _ _ (hHeld.2.2))).trans (hHeld.2.2)
          refine ⟨_, rfl, ?_⟩
          have n0_ := Aside0.mk (Kd.R_below (by exact rU_ HO_4.out) hb)
          have n1_ := Aside0.mk (blk_below (up_ BK149.out) hb)
          have n2_ := Aside0.mk (IsS53.below (by repeat (first | (with_reducible first | exact HI153.out | apply IsS53.alloc | apply IsS53.drewN | apply IsS53.drew | apply IsS53.set_1 | refine IsS53.far ?_ NB153_149.out _) | exact HI153.out)) hb)
          have n3_ := Aside0.mk (below_step (by repeat (first | (with_reducible first | exact HB.out | apply below_alloc | apply pw_below_drewN | apply below_drew1 | refine below_set ?_ (IsS53.ge HI153.out) | refine below_set ?_ GE149.out) | exact HB.out)) hb)
          clear HO_4
          clear BK149
          clear HI153
          clear HB
          have HO_4 := n0_
          have BK149 := n1_
          have HI153 := n2_
          have HB := n3_
          clear n0_ n1_ n2_ n3_
          (try clear hb)
          (try clear hb2)
          (try clear hk)
          (try clear hi)
          refine hK.out _ _ ⟨HS0_, HS1_, HS2_⟩ (fun hHeld => ?_)
          clear hK K
          refine norm_ (a' := ?_) ?_ ?_
          rotate_left
          ·
           show Act.put _ (some 35) _ = _
           simp only [Act.put, List.setIfInBounds_toArray, List.set_cons_zero, List.set_cons_succ, i64_w, i32_w]
           rfl
          refine pu_ 5 36 HT_ ?_
          refine pu_ 6 37 HT_ ?_
          refine pn_ 7 38 HT_ ?_
          refine pn_ 8 39 HT_ ?_
          refine pn_ 9 40 HT_ ?_
          refine pn_ 10 41 HT_ ?_
          refine pn_ 11 42 HT_ ?_
          refine pn_ 12 43 HT_ ?_
          refine pn_ 13 44 HT_ ?_
          refine pn_ 14 45 HT_ ?_
          refine pn_ 15 46 HT_ ?_
          refine pn_ 16 47 HT_ ?_
          refine pn_ 17 48 HT_ ?_
          refine pn_ 18 49 HT_ ?_
          refine pn_ 19 50 HT_ ?_
          refine pn_ 20 51 HT_ ?_
          refine pn_ 21 52 HT_ ?_
          refine pu_ 22 53 HT_ ?_
          refine done_ (done_of HT_.out (by kernel_rfl)) ?_
          try go_wp2
          go_meet
          case rel => exact ⟨_, (true), (by first | rfl | (simp; done) | (simp [*]; done)), H', ⟨by have := HJ1.out; have := HK2.out; first | omega | exact Nat.le_refl _⟩, ⟨rU_ HO_4.out⟩, ⟨up_ BK149.out⟩, ⟨by repeat (first | (with_reducible first | exact HI153.out | apply IsS53.alloc | apply IsS53.drewN | apply IsS53.drew | apply IsS53.set_1 | refine IsS53.far ?_ NB153_149.out _) | exact HI153.out)⟩, ⟨by repeat (first | (with_reducible first | exact HB.out | apply below_alloc | apply pw_below_drewN | apply below_drew1 | refine below_set ?_ (IsS53.ge HI153.out) | refine below_set ?_ GE149.out) | exact HB.out)⟩⟩
        ·
         rw [if_neg c18] at H
         exact absurd H (by simp)
       case rest =>
        clear HC16
        try clear c1
        try clear p1
        try clear q1
        try clear hx1
        try clear c2
        try clear p2
        try clear c3
        try clear c16
        try clear p16
        try clear q16
        try clear hx16
        try clear c18
        try clear c20
        try clear c21
        try clear c21b0
        try clear c23
        try clear c24
        try clear c32
        try clear hx160_0
        try clear hx160_1
        try clear hx160_2
        try clear p160
        try clear q160
        obtain ⟨kq, x53_15, rfl, HA, HJ15, HO_4, BK149, HI153, HB⟩ := hcut
        cases kq with
        | zero => exact absurd HA.out (by simp [spec_TreeRight.j2])
        | succ kj15 =>
         have H := HA.out
         clear HA
         simp only [spec_TreeRight.j2] at H
         by_cases c33 : x53_15 = true
         ·
          subst c33
          have H1 : (some false) = some r := by rw [if_pos rfl] at H; exact H
          clear H
          have H := H1
          clear H1
          obtain rfl := Option.some.inj H
          go_wp2
          go_ret
          exact ⟨by first | rfl | (simp [errW_none, errW_some] <;> rfl) | (simp [*, errW_none, errW_some] <;> rfl), by repeat (first | (with_reducible first | exact HB.out | apply below_alloc | apply pw_below_drewN | apply below_drew1 | refine below_set ?_ (IsS53.ge HI153.out) | refine below_set ?_ GE149.out) | exact HB.out)⟩
         ·
          replace c33 := Bool.eq_false_iff.mpr c33
          subst c33
          have H1 : (spec_TreeRight.l1 kj15 t154 x5_2 0 t151 t157) = some r := by rw [if_neg (show ¬ (false = true) by decide)] at H; exact H
          clear H
          have H := H1
          clear H1
          have H' := Aside0.mk H
          clear H
          go_wp2
          go_loopg [6] kj15 (fun kq v6 w' => ∃ (x6_4 : Int), v6 = .int .i64 x6_4 ∧ Aside0 (spec_TreeRight.l1 kq t154 x5_2 x6_4 t151 t157 = some r) ∧ Aside0 (kq ≤ kj15) ∧ Aside0 (Kd.R k35 35 w' w.heap.size (fun _ => True) (.slice Ao17 t154.length co17) t154) ∧ Aside0 (w'.heap[gb149]? = some (.cells #[(.slice A0_0 l0_0.length c0_0)] 30 (0, 0))) ∧ Aside0 (IsS53 w w' g153 t151 t157) ∧ Aside0 (Below w.heap.size w w'))
          case atStart => exact ⟨(0), (by first | rfl | (simp; done) | (simp [*]; done)), H', ⟨Nat.le_refl _⟩, ⟨rU_ HO_4.out⟩, ⟨up_ BK149.out⟩, ⟨by repeat (first | (with_reducible first | exact HI153.out | apply IsS53.alloc | apply IsS53.drewN | apply IsS53.drew | apply IsS53.set_1 | refine IsS53.far ?_ NB153_149.out _) | exact HI153.out)⟩, ⟨by repeat (first | (with_reducible first | exact HB.out | apply below_alloc | apply pw_below_drewN | apply below_drew1 | refine below_set ?_ (IsS53.ge HI153.out) | refine below_set ?_ GE149.out) | exact HB.out)⟩⟩
          case round =>
           clear H'
           try clear c1
           try clear p1
           try clear q1
           try clear hx1
           try clear c2
           try clear p2
           try clear c3
           try clear c16
           try clear p16
           try clear q16
           try clear hx16
           try clear c18
           try clear c20
           try clear c21
           try clear c21b0
           try clear c23
           try clear c24
           try clear c32
           try clear c33
           try clear hx160_0
           try clear hx160_1
           try clear hx160_2
           try clear p1
           try clear p16
           try clear p160
           try clear p2
           try clear q1
           try clear q16
           try clear q160
           obtain ⟨x6_4, rfl, HA, HK4, HO_4, BK149, HI153, HB⟩ := hrel
           cases gk with
           | zero => exact absurd HA.out (by simp [spec_TreeRight.l1])
           | succ k4 =>
            have H := HA.out
            clear HA
            simp only [spec_TreeRight.l1] at H
            by_cases c34 : x6_4 < x5_2
            ·
             rw [if_pos c34] at H
             have c34b0 : decide (x6_4 < x5_2) = true := decide_eq_true c34
             clear c34
             by_cases c35 : 0 ≤ x6_4
             ·
              rw [if_pos c35] at H
              have c35b0 : decide (0 ≤ x6_4) = true := decide_eq_true c35
              clear c35
              by_cases c36 : x6_4 < (t154.length : Int)
              ·
               rw [if_pos c36] at H
               have c36b0 : decide (x6_4 < (t154.length : Int)) = true := decide_eq_true c36
               clear c36
               by_cases c37 : 0 ≤ x5_2
               ·
                rw [if_pos c37] at H
                have c37b0 : decide (0 ≤ x5_2) = true := decide_eq_true c37
                clear c37
                by_cases c38 : x5_2 < (t154.length : Int)
                ·
                 rw [if_pos c38] at H
                 have c38b0 : decide (x5_2 < (t154.length : Int)) = true := decide_eq_true c38
                 clear c38
                 by_cases c39 : ((rd_T35 t154 x6_4).f0) = ((rd_T35 t154 x5_2).f0)
                 ·
                  rw [if_pos c39] at H
                  have c39b0 : (((rd_T35 t154 x6_4).f0) == ((rd_T35 t154 x5_2).f0)) = true := beq_iff_eq.mpr c39
                  have c39b1 : (((rd_T35 t154 x6_4).f0) != ((rd_T35 t154 x5_2).f0)) = false := bne_eq_false_iff_eq.mpr c39
                  clear c39
                  obtain rfl := Option.some.inj H
                  try go_wp2
                  replace HO_4 := Aside0.mk (Kd.R_drew HO_4.out)
                  replace BK149 := Aside0.mk (blk_drew BK149.out)
                  replace HI153 := Aside0.mk (IsS53.drew HI153.out)
                  replace HB := Aside0.mk (below_drew1 HB.out)
                  have p165 : 0 ≤ (x6_4 : Int) := ds_
                  have q165 : x6_4 < (t154.length : Int) := ds_
                  obtain ⟨ad165, e165, hx165_0, hx165_1, hx165_2⟩ := at_T35 (Kd.R_reads' HO_4.out).2.2 x6_4 p165 q165
                  cases e165
                  replace p165 := eq_true p165
                  replace q165 := eq_true q165
                  have p166 : 0 ≤ (x5_2 : Int) := ds_
                  have q166 : x5_2 < (t154.length : Int) := ds_
                  obtain ⟨ad166, e166, hx166_0, hx166_1, hx166_2⟩ := at_T35 (Kd.R_reads' HO_4.out).2.2 x5_2 p166 q166
                  obtain rfl : ad165 = ad166 := (by injection e166)
                  replace p166 := eq_true p166
                  replace q166 := eq_true q166
                  refine start_ (n := 11) (S := fun w' => w'.cell? (ad165.add ((x6_4).toNat * 3)) = some (.int .i64 ((rd_T35 t154 x6_4).f0)) ∧ w'.cell? ⟨(ad165.add ((x6_4).toNat * 3)).block, (ad165.add ((x6_4).toNat * 3)).off + 1, none⟩ = some (.int .i64 ((rd_T35 t154 x6_4).f1)) ∧ w'.cell? ⟨(ad165.add ((x6_4).toNat * 3)).block, (ad165.add ((x6_4).toNat * 3)).off + 2, none⟩ = some (.int .i64 ((rd_T35 t154 x6_4).f2)) ∧ w'.cell? (ad165.add ((x5_2).toNat * 3)) = some (.int .i64 ((rd_T35 t154 x5_2).f0)) ∧ w'.cell? ⟨(ad165.add ((x5_2).toNat * 3)).block, (ad165.add ((x5_2).toNat * 3)).off + 1, none⟩ = some (.int .i64 ((rd_T35 t154 x5_2).f1)) ∧ w'.cell? ⟨(ad165.add ((x5_2).toNat * 3)).block, (ad165.add ((x5_2).toNat * 3)).off + 2, none⟩ = some (.int .i64 ((rd_T35 t154 x5_2).f2))) (ds := []) #[false, false, false, false, false, false, false, false, false, false, false] (by kernel_rfl) rfl rfl ⟨hx165_0, hx165_1, hx165_2, hx166_0, hx166_1, hx166_2⟩ (fun hHeld => ?_); refine with_tabW spec_TreeRight.tab13 spec_TreeRight.bits13 (fun HT_ HW_ => ?_)
                  generalize wr.drew = w40 at HO_4 BK149 HI153 HB hx165_0 hx165_1 hx165_2 hx166_0 hx166_1 hx166_2 hHeld ⊢
                  refine pu_ 0 59 HT_ ?_
                  refine pu_ 1 60 HT_ ?_
                  refine pu_ 2 61 HT_ ?_
                  refine pu_ 3 62 HT_ ?_
                  refine pu_ 5 64 HT_ ?_
                  refine pu_ 6 65 HT_ ?_
                  refine pu_ 7 66 HT_ ?_
                  refine pu_ 8 67 HT_ ?_
                  refine tk_ 4 63 HT_ HW_ hHeld ?_ rfl rfl (by rintro w' ⟨s0, s1, s2, s3, s4, s5⟩; go_simp; with_reducible rfl)
                  refine tk_ 9 68 HT_ HW_ hHeld ?_ rfl rfl (by rintro w' ⟨s0, s1, s2, s3, s4, s5⟩; go_simp; with_reducible rfl)
                  refine pu_ 10 69 HT_ ?_
                  refine done_ (done_of HT_.out (by kernel_rfl)) ?_
                  try go_wp2
                  go_ret
                  exact ⟨by first | rfl | (simp [errW_none, errW_some] <;> rfl) | (simp [*, errW_none, errW_some] <;> rfl), by repeat (first | (with_reducible first | exact HB.out | apply below_alloc | apply pw_below_drewN | apply below_drew1 | refine below_set ?_ (IsS53.ge HI153.out) | refine below_set ?_ GE149.out) | exact HB.out)⟩
                 ·
                  rw [if_neg c39] at H
                  have c39b0 : (((rd_T35 t154 x6_4).f0) == ((rd_T35 t154 x5_2).f0)) = false := beq_eq_false_iff_ne.mpr c39
                  have c39b1 : (((rd_T35 t154 x6_4).f0) != ((rd_T35 t154 x5_2).f0)) = true := bne_iff_ne.mpr c39
                  have H' := Aside0.mk H
                  clear H
                  try go_wp2
                  replace HO_4 := Aside0.mk (Kd.R_drew HO_4.out)
                  replace BK149 := Aside0.mk (blk_drew BK149.out)
                  replace HI153 := Aside0.mk (IsS53.drew HI153.out)
                  replace HB := Aside0.mk (below_drew1 HB.out)
                  have p165 : 0 ≤ (x6_4 : Int) := ds_
                  have q165 : x6_4 < (t154.length : Int) := ds_
                  obtain ⟨ad165, e165, hx165_0, hx165_1, hx165_2⟩ := at_T35 (Kd.R_reads' HO_4.out).2.2 x6_4 p165 q165
                  cases e165
                  replace p165 := eq_true p165
                  replace q165 := eq_true q165
                  have p166 : 0 ≤ (x5_2 : Int) := ds_
                  have q166 : x5_2 < (t154.length : Int) := ds_
                  obtain ⟨ad166, e166, hx166_0, hx166_1, hx166_2⟩ := at_T35 (Kd.R_reads' HO_4.out).2.2 x5_2 p166 q166
                  obtain rfl : ad165 = ad166 := (by injection e166)
                  replace p166 := eq_true p166
                  replace q166 := eq_true q166
                  refine start_ (n := 11) (S := fun w' => w'.cell? (ad165.add ((x6_4).toNat * 3)) = some (.int .i64 ((rd_T35 t154 x6_4).f0)) ∧ w'.cell? ⟨(ad165.add ((x6_4).toNat * 3)).block, (ad165.add ((x6_4).toNat * 3)).off + 1, none⟩ = some (.int .i64 ((rd_T35 t154 x6_4).f1)) ∧ w'.cell? ⟨(ad165.add ((x6_4).toNat * 3)).block, (ad165.add ((x6_4).toNat * 3)).off + 2, none⟩ = some (.int .i64 ((rd_T35 t154 x6_4).f2)) ∧ w'.cell? (ad165.add ((x5_2).toNat * 3)) = some (.int .i64 ((rd_T35 t154 x5_2).f0)) ∧ w'.cell? ⟨(ad165.add ((x5_2).toNat * 3)).block, (ad165.add ((x5_2).toNat * 3)).off + 1, none⟩ = some (.int .i64 ((rd_T35 t154 x5_2).f1)) ∧ w'.cell? ⟨(ad165.add ((x5_2).toNat * 3)).block, (ad165.add ((x5_2).toNat * 3)).off + 2, none⟩ = some (.int .i64 ((rd_T35 t154 x5_2).f2))) (ds := []) #[false, false, false, false, false, false, false, false, false, false, false] (by kernel_rfl) rfl rfl ⟨hx165_0, hx165_1, hx165_2, hx166_0, hx166_1, hx166_2⟩ (fun hHeld => ?_); refine with_tabW spec_TreeRight.tab13 spec_TreeRight.bits13 (fun HT_ HW_ => ?_)
                  generalize wr.drew = w41 at HO_4 BK149 HI153 HB hx165_0 hx165_1 hx165_2 hx166_0 hx166_1 hx166_2 hHeld ⊢
                  refine pu_ 0 59 HT_ ?_
                  refine pu_ 1 60 HT_ ?_
                  refine pu_ 2 61 HT_ ?_
                  refine pu_ 3 62 HT_ ?_
                  refine pu_ 5 64 HT_ ?_
                  refine pu_ 6 65 HT_ ?_
                  refine pu_ 7 66 HT_ ?_
                  refine pu_ 8 67 HT_ ?_
                  refine tk_ 4 63 HT_ HW_ hHeld ?_ rfl rfl (by rintro w' ⟨s0, s1, s2, s3, s4, s5⟩; go_simp; with_reducible rfl)
                  refine tk_ 9 68 HT_ HW_ hHeld ?_ rfl rfl (by rintro w' ⟨s0, s1, s2, s3, s4, s5⟩; go_simp; with_reducible rfl)
                  refine pu_ 10 69 HT_ ?_
                  refine done_ (done_of HT_.out (by kernel_rfl)) ?_
                  try go_wp2
                  go_roundg k4
                  case measure => have := HJ1.out; have := HK2.out; have := HJ15.out; have := HK4.out; omega
                  case rel => exact ⟨(wrap64 (x6_4 + 1)), (by first | rfl | (simp; done) | (simp [*]; done)), H', ⟨by have := HJ1.out; have := HK2.out; have := HJ15.out; have := HK4.out; omega⟩, ⟨rU_ HO_4.out⟩, ⟨up_ BK149.out⟩, ⟨by repeat (first | (with_reducible first | exact HI153.out | apply IsS53.alloc | apply IsS53.drewN | apply IsS53.drew | apply IsS53.set_1 | refine IsS53.far ?_ NB153_149.out _) | exact HI153.out)⟩, ⟨by repeat (first | (with_reducible first | exact HB.out | apply below_alloc | apply pw_below_drewN | apply below_drew1 | refine below_set ?_ (IsS53.ge HI153.out) | refine below_set ?_ GE149.out) | exact HB.out)⟩⟩
                ·
                 rw [if_neg c38] at H
                 exact absurd H (by simp)
               ·
                rw [if_neg c37] at H
                exact absurd H (by simp)
              ·
               rw [if_neg c36] at H
               exact absurd H (by simp)
             ·
              rw [if_neg c35] at H
              exact absurd H (by simp)
            ·
             rw [if_neg c34] at H
             have c34b0 : decide (x6_4 < x5_2) = false := decide_eq_false c34
             clear c34
             have H' := Aside0.mk H
             clear H
             go_wp2
             go_roundg k4
             case measure => have := HJ1.out; have := HK2.out; have := HJ15.out; have := HK4.out; omega
             case rel => exact ⟨(wrap64 (x5_2 + 1)), (by first | rfl | (simp; done) | (simp [*]; done)), H', ⟨by have := HJ1.out; have := HK2.out; have := HJ15.out; have := HK4.out; omega⟩, ⟨rU_ HO_4.out⟩, ⟨up_ BK149.out⟩, ⟨by repeat (first | (with_reducible first | exact HI153.out | apply IsS53.alloc | apply IsS53.drewN | apply IsS53.drew | apply IsS53.set_1 | refine IsS53.far ?_ NB153_149.out _) | exact HI153.out)⟩, ⟨by repeat (first | (with_reducible first | exact HB.out | apply below_alloc | apply pw_below_drewN | apply below_drew1 | refine below_set ?_ (IsS53.ge HI153.out) | refine below_set ?_ GE149.out) | exact HB.out)⟩⟩
      ·
       rw [if_neg c15] at H
       have c15b0 : decide (x5_2 < (t154.length : Int)) = false := decide_eq_false c15
       clear c15
       replace H := Option.bind_eq_some_iff.mp H
       obtain ⟨⟨t158, t159⟩, A420, H⟩ := H
       replace H : (some t158) = some r := H
       have A42 := Aside0.mk A420
       clear A420
       obtain rfl := Option.some.inj H
       obtain ⟨Ao43, co43, eo43⟩ := Kd.R_slice HO_4.out
       subst eo43
       obtain ⟨ASz44_0, cSz44_0, HGz44, hgz44, HSz44_0⟩ := HI153.out
       have hcz44_0 := cellS53_0 HGz44
       have hcz44_1 := cellS53_1 HGz44
       have hfz44_1 := blk_frozen HGz44 1
       clear HGz44 hgz44
       go_wp2_with (first | ((with_reducible refine gate_callee (f := 33) rfl ?_); refine gL_ (some 75) Tryz.func33 #[.pointer (some ⟨g153, 0, none⟩), .int .i64 t157] ?_; (with_reducible refine (spec_l04Wood_even.calls g153 t151 t157 t157 t158 t159 w _ ?side1 ?side2 A42.out).mono ?_); (case side1 => repeat (first | (with_reducible first | exact HI153.out | apply IsS53.alloc | apply IsS53.drewN | apply IsS53.drew | apply IsS53.set_1 | refine IsS53.far ?_ NB153_149.out _) | exact HI153.out)); (case side2 => repeat (first | (with_reducible first | exact HB.out | apply below_alloc | apply pw_below_drewN | apply below_drew1 | refine below_set ?_ (IsS53.ge HI153.out) | refine below_set ?_ GE149.out) | exact HB.out)); rintro e w45 ⟨rfl, hi, hb, hk⟩; refine ⟨_, rfl, ?_⟩; have n0_ := Aside0.mk (Kd.R_mono (Kd.R_keep (IsS53.apart (show IsS53 w _ g153 t151 t157 from by repeat (first | (with_reducible first | exact HI153.out | apply IsS53.alloc | apply IsS53.drewN | apply IsS53.drew | apply IsS53.set_1 | refine IsS53.far ?_ NB153_149.out _) | exact HI153.out)) (by exact rU_ HO_4.out) (by decide)) hk (fun _ h => h.2)) (fun _ h => h.1)); have n1_ := Aside0.mk (KeepBut.blk hk (g' := gb149) (o := .cells #[.slice A0_0 l0_0.length c0_0] 30 (0, 0)) (by exact up_ BK149.out) NB149_153.out (by simp)); have n2_ := Aside0.mk (hb); have n3_ := Aside0.mk (hi); clear HO_4; clear BK149; clear HB; clear HI153; have HO_4 := n0_; have BK149 := n1_; have HB := n2_; have HI153 := n3_; clear n0_ n1_ n2_ n3_; (try clear hb); (try clear hb2); (try clear hk); (try clear hi)))
       go_ret
       exact ⟨by first | rfl | (simp [errW_none, errW_some] <;> rfl) | (simp [*, errW_none, errW_some] <;> rfl), by repeat (first | (with_reducible first | exact HB.out | apply below_alloc | apply pw_below_drewN | apply below_drew1 | refine below_set ?_ (IsS53.ge HI153.out) | refine below_set ?_ GE149.out) | exact HB.out)⟩

end Go.Proofs.YtenlceojmjkbkaaGreat.XFnExactTreeTake
