/- Functions that FnExactWheelDrop comes to, as Lean functions with their contracts: written by the prover's own program (wip/tpl/myprint.py) over the kit's printer, some contracts by hand. Conditions: none. -/
import Derived.Test.YtenlceojmjkbkaaXFnExactWheelDropx0
import Derived.Test.YtenlceojmjkbkaaXFnExactWheelDropx2
namespace Go.Proofs.Ytenlceojmjkbkaa.XFnExactWheelDrop
open Go.RowKit Go.Proofs.YtenlceojmjkbkaaW.PrintWords Go.Proofs.YtenlceojmjkbkaaW.PrintLast Go.Proofs.YtenlceojmjkbkaaW.PrintMore
attribute [local go_sem] max2_int min2_int max_two min_two max_three min_three max_four min_four   -- for this text's walks alone
set_option linter.unusedVariables false
set_option linter.unusedSimpArgs false

/-! ### spec_WheelRight: function 23 -/
mutual
def spec_WheelRight.j0 : Nat → Bool → Int → List (List (S91)) → List (S91) → Option (Bool)
 | 0, _, _, _, _ => none
 | k + 1, x21, x159000, x159001, x159002 => if x21 = true then (some false) else (spec_WheelRight.l0 k (x159002.length : Int) 0 x159000 x159001 x159002)
def spec_WheelRight.l0 : Nat → Int → Int → Int → List (List (S91)) → List (S91) → Option (Bool)
 | 0, _, _, _, _, _ => none
 | k + 1, x3, x4, x159000, x159001, x159002 => if x4 < (x159001.length : Int) then (if 0 ≤ x4 then (spec_WheelRight.l0 k (wrap64 (x3 + ((rd_L4 x159001 x4).length : Int))) (wrap64 (x4 + 1)) x159000 x159001 x159002) else (none)) else (if x3 > 100 then (some false) else ((spec_l08All.f k x159000 x159001 x159002).bind fun t161 => (spec_WheelRight.l1 k t161 0 x159000 x159001 x159002)))
def spec_WheelRight.l1 : Nat → List (S91) → Int → Int → List (List (S91)) → List (S91) → Option (Bool)
 | 0, _, _, _, _, _ => none
 | k + 1, x5, x6, x159000, x159001, x159002 => if x6 < (x5.length : Int) then (if 0 ≤ x6 then ((spec_l02Id.f ((rd_T91 x5 x6).f0)).bind fun t165 => (if t165 = true then (if ((rd_T91 x5 x6).f1) ≤ x159000 then (spec_WheelRight.j3 k x5 x6 true x159000 x159001 x159002) else (spec_WheelRight.j3 k x5 x6 (decide (((rd_T91 x5 x6).f1) > 1000000)) x159000 x159001 x159002)) else (spec_WheelRight.j3 k x5 x6 true x159000 x159001 x159002))) else (none)) else (spec_WheelRight.l3 k 0 x159000 x159001 x159002)
def spec_WheelRight.j3 : Nat → List (S91) → Int → Bool → Int → List (List (S91)) → List (S91) → Option (Bool)
 | 0, _, _, _, _, _, _ => none
 | k + 1, x5, x6, x74, x159000, x159001, x159002 => if x74 = true then (some false) else (spec_WheelRight.l2 k x5 x6 0 x159000 x159001 x159002)
def spec_WheelRight.l2 : Nat → List (S91) → Int → Int → Int → List (List (S91)) → List (S91) → Option (Bool)
 | 0, _, _, _, _, _, _ => none
 | k + 1, x5, x6, x7, x159000, x159001, x159002 => if x7 < x6 then (if 0 ≤ x7 then (if x7 < (x5.length : Int) then (if 0 ≤ x6 then (if x6 < (x5.length : Int) then (if ((rd_T91 x5 x7).f0) = ((rd_T91 x5 x6).f0) then (some false) else (spec_WheelRight.l2 k x5 x6 (wrap64 (x7 + 1)) x159000 x159001 x159002)) else (none)) else (none)) else (none)) else (none)) else (spec_WheelRight.l1 k x5 (wrap64 (x6 + 1)) x159000 x159001 x159002)
def spec_WheelRight.l3 : Nat → Int → Int → List (List (S91)) → List (S91) → Option (Bool)
 | 0, _, _, _, _ => none
 | k + 1, x8, x159000, x159001, x159002 => if x8 < (x159001.length : Int) then (spec_WheelRight.l4 k x8 0 x159000 x159001 x159002) else (spec_WheelRight.l5 k 0 x159000 x159001 x159002)
def spec_WheelRight.l4 : Nat → Int → Int → Int → List (List (S91)) → List (S91) → Option (Bool)
 | 0, _, _, _, _, _ => none
 | k + 1, x8, x9, x159000, x159001, x159002 => if 0 ≤ x8 then (if x8 < (x159001.length : Int) then (if x9 < ((rd_L4 x159001 x8).length : Int) then (if 0 ≤ x9 then (if ((rd_T91 (rd_L4 x159001 x8) x9).f1) > (wrap64 (x159000 + 16)) then (some false) else (if (Int.tmod ((rd_T91 (rd_L4 x159001 x8) x9).f1) 16) = x8 then (if x9 > 0 then (if 0 ≤ (wrap64 (x9 - 1)) then (if (wrap64 (x9 - 1)) < ((rd_L4 x159001 x8).length : Int) then (if ((rd_T91 (rd_L4 x159001 x8) x9).f0) ≤ ((rd_T91 (rd_L4 x159001 x8) (wrap64 (x9 - 1))).f0) then (some false) else (spec_WheelRight.l4 k x8 (wrap64 (x9 + 1)) x159000 x159001 x159002)) else (none)) else (none)) else (spec_WheelRight.l4 k x8 (wrap64 (x9 + 1)) x159000 x159001 x159002)) else (some false))) else (none)) else (spec_WheelRight.l3 k (wrap64 (x8 + 1)) x159000 x159001 x159002)) else (none)) else (none)
def spec_WheelRight.l5 : Nat → Int → Int → List (List (S91)) → List (S91) → Option (Bool)
 | 0, _, _, _, _ => none
 | k + 1, x11, x159000, x159001, x159002 => if x11 < (x159002.length : Int) then (if 0 ≤ x11 then (if ((rd_T91 x159002 x11).f1) ≤ (wrap64 (x159000 + 16)) then (some false) else (if x11 > 0 then (if 0 ≤ (wrap64 (x11 - 1)) then (if (wrap64 (x11 - 1)) < (x159002.length : Int) then ((spec_l08Before.f ((rd_T91 x159002 (wrap64 (x11 - 1))).f0) ((rd_T91 x159002 (wrap64 (x11 - 1))).f1) ((rd_T91 x159002 x11).f0) ((rd_T91 x159002 x11).f1)).bind fun t179 => (if t179 = true then (spec_WheelRight.l5 k (wrap64 (x11 + 1)) x159000 x159001 x159002) else (some false))) else (none)) else (none)) else (spec_WheelRight.l5 k (wrap64 (x11 + 1)) x159000 x159001 x159002))) else (none)) else (some true)
end
def spec_WheelRight.f (k : Nat) (a0_0 : Int) (l0_1 : List (List (S91))) (l0_2 : List (S91)) : Option (Bool) := (spec_l07Time.f a0_0).bind fun t159 => (if t159 = true then (spec_WheelRight.j0 k ((l0_1.length : Int) != 16) a0_0 l0_1 l0_2) else (spec_WheelRight.j0 k true a0_0 l0_1 l0_2))
def spec_WheelRight.T14 : Bool × List (List Nat × List Nat) := (true, [([], []), ([], []), ([0, 1], [0, 1]), ([2], [2]), ([3], [3]), ([4], [4]), ([5], [5]), ([6, 5], [6]), ([7], [7]), ([7], [7]), ([8, 9, 7], [7, 8, 9]), ([10, 7], [7, 10]), ([11, 7], [7, 11]), ([7], [7]), ([13, 7], [7, 13]), ([12, 14, 7], [7, 12, 14]), ([7, 15], [7, 15]), ([16, 7], [16]), ([17], [17]), ([17], [17]), ([18, 19, 17], [17, 18, 19]), ([20, 17], [17, 20]), ([21, 17], [17, 21]), ([22, 17], [17, 22]), ([17, 23], [17, 23])])
def spec_WheelRight.B14 : List Nat := [0, 0, 3, 7, 15, 31, 63, 127, 255, 255, 1023, 2047, 4095, 255, 8447, 32767, 65535, 131071, 262143, 262143, 1048575, 2097151, 4194303, 8388607, 16777215]
theorem spec_WheelRight.tab14 : rtab .any (opsOf Try.f23 14) = spec_WheelRight.T14 := by kernel_rfl
theorem spec_WheelRight.bits14 : waitsOk spec_WheelRight.T14.2 spec_WheelRight.B14 = true := by kernel_rfl
def spec_WheelRight.T19 : Bool × List (List Nat × List Nat) := (true, [([], []), ([], []), ([0, 1], [0, 1]), ([2], [2]), ([3], [3]), ([], []), ([], []), ([5, 6], [5, 6]), ([7], [7]), ([8], [8]), ([4, 9], [4, 9])])
def spec_WheelRight.B19 : List Nat := [0, 0, 3, 7, 15, 0, 0, 96, 224, 480, 1023]
theorem spec_WheelRight.tab19 : rtab .any (opsOf Try.f23 19) = spec_WheelRight.T19 := by kernel_rfl
theorem spec_WheelRight.bits19 : waitsOk spec_WheelRight.T19.2 spec_WheelRight.B19 = true := by kernel_rfl
def spec_WheelRight.T28 : Bool × List (List Nat × List Nat) := (true, [([], []), ([0], [0]), ([], []), ([2], [2]), ([3], [3]), ([1, 4], [1, 4]), ([5], [5]), ([6], [6]), ([7, 6], [6, 7]), ([8, 6], [6, 8]), ([6], [6]), ([9, 10, 6], [6, 9, 10]), ([6, 11], [6, 11]), ([12, 6], [12]), ([13], [13]), ([14, 13], [13, 14]), ([15, 13, 13], [13, 15]), ([16], [16]), ([17, 16], [16, 17]), ([16], [16]), ([19, 16], [16, 19]), ([16], [16]), ([20, 21, 16], [16, 20, 21]), ([22, 16], [16, 22]), ([16], [16]), ([24, 16], [16, 24]), ([23, 25, 16], [16, 23, 25]), ([26, 16], [16, 26]), ([27, 16], [16, 27]), ([18, 28, 16], [16, 18, 28]), ([16, 29, 13], [13, 16, 29]), ([13, 30], [13, 30])])
def spec_WheelRight.B28 : List Nat := [0, 1, 0, 4, 12, 31, 63, 127, 255, 511, 127, 2047, 4095, 8191, 16383, 32767, 65535, 131071, 262143, 131071, 655359, 131071, 3801087, 7995391, 131071, 16908287, 66715647, 133824511, 268042239, 536870911, 1073741823, 2147483647]
theorem spec_WheelRight.tab28 : rtab .any (opsOf Try.f23 28) = spec_WheelRight.T28 := by kernel_rfl
theorem spec_WheelRight.bits28 : waitsOk spec_WheelRight.T28.2 spec_WheelRight.B28 = true := by kernel_rfl
def spec_WheelRight.T33 : Bool × List (List Nat × List Nat) := (true, [([], []), ([0], [0]), ([], []), ([1, 2], [1, 2]), ([3], [3]), ([4], [4]), ([], []), ([6], [6]), ([7], [7]), ([5, 8], [5, 8]), ([9], [9]), ([10], [10]), ([11, 10], [10, 11]), ([12, 10, 10], [10, 12]), ([13], [13]), ([14, 13], [13, 14]), ([13], [13]), ([16, 13], [13, 16]), ([15, 17, 13], [13, 15, 17]), ([18, 13], [13, 18]), ([13], [13]), ([20, 13], [13, 20]), ([13], [13]), ([21, 22, 13], [13, 21, 22]), ([23, 13], [13, 23]), ([19, 24, 13, 13], [13, 19, 24]), ([25, 13], [13, 25]), ([13, 26, 10], [10, 13, 26]), ([10, 27], [10, 27])])
def spec_WheelRight.B33 : List Nat := [0, 1, 0, 7, 15, 31, 0, 64, 192, 511, 1023, 2047, 4095, 8191, 16383, 32767, 16383, 81919, 262143, 524287, 16383, 1064959, 16383, 7356415, 15745023, 33554431, 67108863, 134217727, 268435455]
theorem spec_WheelRight.tab33 : rtab .any (opsOf Try.f23 33) = spec_WheelRight.T33 := by kernel_rfl
theorem spec_WheelRight.bits33 : waitsOk spec_WheelRight.T33.2 spec_WheelRight.B33 = true := by kernel_rfl
set_option maxHeartbeats 8000000 in
set_option maxRecDepth 100000 in
theorem spec_WheelRight.calls (k : Nat) (a0_0 : Int) (A0_1 : Option Addr) (c0_1 : Nat) (l0_1 : List (List (S91))) (A0_2 : Option Addr) (c0_2 : Nat) (l0_2 : List (S91)) (r : Bool) (w : World) (hr0_1 : Kd.C (Kd.slice 91 k91) w A0_1 l0_1.length l0_1) (hc0_1 : l0_1.length ≤ c0_1) (hr0_2 : Kd.C k91 w A0_2 l0_2.length l0_2) (hc0_2 : l0_2.length ≤ c0_2) (h : spec_WheelRight.f k a0_0 l0_1 l0_2 = some r) :
  Calls Try.prog 23 #[.agg #[.int .i64 a0_0, .slice A0_1 l0_1.length c0_1, .slice A0_2 l0_2.length c0_2]] w fun e w' => e = .returned (.bool r) ∧ Below w.heap.size w w' := by
 have hu45 := Try.underlying45
 have hu91 := Try.underlying91
 have HR0_1 := Aside0.mk hr0_1
 have HC0_1 := Aside0.mk hc0_1
 clear hr0_1 hc0_1
 have HR0_2 := Aside0.mk hr0_2
 have HC0_2 := Aside0.mk hc0_2
 clear hr0_2 hc0_2
 have HB := Aside0.mk (Below.refl w.heap.size w)
 have H : ((spec_l07Time.f a0_0).bind fun t159 => (if t159 = true then (spec_WheelRight.j0 k ((l0_1.length : Int) != 16) a0_0 l0_1 l0_2) else (spec_WheelRight.j0 k true a0_0 l0_1 l0_2))) = some r := h
 clear h
 have HC2 := Aside0.mk H
 clear H
 go_enter Try.func23, Try.ntmps23
 go_upto_region 1 with (first | ((with_reducible refine gate_dst (N := 1) rfl ?_); (try (refine gate_guard (by rfl) ?_; dsimp only)); refine box_event ?hg (N := 1) ?hd (cs := #[.int .i64 a0_0, .slice A0_1 l0_1.length c0_1, .slice A0_2 l0_2.length c0_2]) (t := 45) ?hr ?_; (case hd => rfl); (case hg => rfl); (case hr => first | (go_simp; done) | (go_simp; rfl)); intro gb158 hg w3 hbox hb; have n0_ := Aside0.mk (below_step bl_ hb); have n1_ := Aside0.mk (hbox); have n2_ := Aside0.mk ((by rw [hg]; exact (below_size bl_) : w.heap.size ≤ gb158)); have n3_ := Aside0.mk ((by rw [hg]; exact (below_size bl_) : w.heap.size ≤ gb158)); clear HB; have HB := n0_; have BK158 := n1_; have GW158 := n2_; have GE158 := n3_; clear n0_ n1_ n2_ n3_; clear hb hbox hg))
 (try simp only [Act.put, List.setIfInBounds_toArray, List.set_cons_zero, List.set_cons_succ])
 go_cut [21] (fun v21 wc => ∃ (kq : Nat) (x21_1 : Bool), v21 = .bool x21_1 ∧ Aside0 (spec_WheelRight.j0 kq x21_1 a0_0 l0_1 l0_2 = some r) ∧ Aside0 (kq ≤ k) ∧ Aside0 (wc.heap[gb158]? = some (.cells #[.int .i64 a0_0, (.slice A0_1 l0_1.length c0_1), (.slice A0_2 l0_2.length c0_2)] 45 (0, 0))) ∧ Aside0 (Below w.heap.size w wc))
 case first =>
  have H := HC2.out
  clear HC2
  replace H := Option.bind_eq_some_iff.mp H
  obtain ⟨t159, A40, H⟩ := H
  replace H : (if t159 = true then (spec_WheelRight.j0 k ((l0_1.length : Int) != 16) a0_0 l0_1 l0_2) else (spec_WheelRight.j0 k true a0_0 l0_1 l0_2)) = some r := H
  have A4 := Aside0.mk A40
  clear A40
  by_cases c5 : t159 = true
  ·
   subst c5
   have H1 : (spec_WheelRight.j0 k ((l0_1.length : Int) != 16) a0_0 l0_1 l0_2) = some r := by rw [if_pos rfl] at H; exact H
   clear H
   have H := H1
   clear H1
   have H' := Aside0.mk H
   clear H
   have hcz6_0 : w3.cell? ⟨gb158, 0, none⟩ = some (.int .i64 a0_0) := (blk_cell BK158.out 0).trans rfl
   have hcz6_1 : w3.cell? ⟨gb158, 1, none⟩ = some (.slice A0_1 l0_1.length c0_1) := (blk_cell BK158.out 1).trans rfl
   have hcz6_2 : w3.cell? ⟨gb158, 2, none⟩ = some (.slice A0_2 l0_2.length c0_2) := (blk_cell BK158.out 2).trans rfl
   have hfz6_0 := blk_frozen BK158.out 0
   have hfz6_1 := blk_frozen BK158.out 1
   have hfz6_2 := blk_frozen BK158.out 2
   go_wp2_with (first | ((with_reducible refine gate_callee (f := 62) rfl ?_); refine gL_ (some 14) Try.func62 #[.int .i64 a0_0] ?_; (with_reducible refine (spec_l07Time.calls a0_0 true _ A4.out).mono ?_); rintro e w' ⟨rfl, ⟨nd, rfl⟩⟩; refine ⟨_, rfl, ?_⟩))
   go_meet
   case rel => exact ⟨_, (((l0_1.length : Int) != 16)), (by first | rfl | (simp; done) | (simp [*]; done)), H', ⟨by first | omega | exact Nat.le_refl _⟩, ⟨up_ BK158.out⟩, ⟨bl_⟩⟩
  ·
   replace c5 := Bool.eq_false_iff.mpr c5
   subst c5
   have H1 : (spec_WheelRight.j0 k true a0_0 l0_1 l0_2) = some r := by rw [if_neg (show ¬ (false = true) by decide)] at H; exact H
   clear H
   have H := H1
   clear H1
   have H' := Aside0.mk H
   clear H
   have hcz7_0 : w3.cell? ⟨gb158, 0, none⟩ = some (.int .i64 a0_0) := (blk_cell BK158.out 0).trans rfl
   have hcz7_1 : w3.cell? ⟨gb158, 1, none⟩ = some (.slice A0_1 l0_1.length c0_1) := (blk_cell BK158.out 1).trans rfl
   have hcz7_2 : w3.cell? ⟨gb158, 2, none⟩ = some (.slice A0_2 l0_2.length c0_2) := (blk_cell BK158.out 2).trans rfl
   have hfz7_0 := blk_frozen BK158.out 0
   have hfz7_1 := blk_frozen BK158.out 1
   have hfz7_2 := blk_frozen BK158.out 2
   go_wp2_with (first | ((with_reducible refine gate_callee (f := 62) rfl ?_); refine gL_ (some 14) Try.func62 #[.int .i64 a0_0] ?_; (with_reducible refine (spec_l07Time.calls a0_0 false _ A4.out).mono ?_); rintro e w' ⟨rfl, ⟨nd, rfl⟩⟩; refine ⟨_, rfl, ?_⟩))
   go_meet
   case rel => exact ⟨_, (true), (by first | rfl | (simp; done) | (simp [*]; done)), H', ⟨by first | omega | exact Nat.le_refl _⟩, ⟨up_ BK158.out⟩, ⟨bl_⟩⟩
 case rest =>
  clear HC2
  try clear c2
  try clear p2
  try clear c5
  try clear c6
  try clear hcz6_0
  try clear hcz6_1
  try clear hcz6_2
  try clear hcz7_0
  try clear hcz7_1
  try clear hcz7_2
  try clear hfz6_0
  try clear hfz6_1
  try clear hfz6_2
  try clear hfz7_0
  try clear hfz7_1
  try clear hfz7_2
  obtain ⟨kq, x21_1, rfl, HA, HJ1, BK158, HB⟩ := hcut
  cases kq with
  | zero => exact absurd HA.out (by simp [spec_WheelRight.j0])
  | succ kj1 =>
   have H := HA.out
   clear HA
   simp only [spec_WheelRight.j0] at H
   by_cases c8 : x21_1 = true
   ·
    subst c8
    have H1 : (some false) = some r := by rw [if_pos rfl] at H; exact H
    clear H
    have H := H1
    clear H1
    obtain rfl := Option.some.inj H
    go_wp2
    go_ret
    exact ⟨by first | rfl | (simp [errW_none, errW_some] <;> rfl) | (simp [*, errW_none, errW_some] <;> rfl), bl_⟩
   ·
    replace c8 := Bool.eq_false_iff.mpr c8
    subst c8
    have H1 : (spec_WheelRight.l0 kj1 (l0_2.length : Int) 0 a0_0 l0_1 l0_2) = some r := by rw [if_neg (show ¬ (false = true) by decide)] at H; exact H
    clear H
    have H := H1
    clear H1
    have H' := Aside0.mk H
    clear H
    have hcz9_0 : wc.cell? ⟨gb158, 0, none⟩ = some (.int .i64 a0_0) := (blk_cell BK158.out 0).trans rfl
    have hcz9_1 : wc.cell? ⟨gb158, 1, none⟩ = some (.slice A0_1 l0_1.length c0_1) := (blk_cell BK158.out 1).trans rfl
    have hcz9_2 : wc.cell? ⟨gb158, 2, none⟩ = some (.slice A0_2 l0_2.length c0_2) := (blk_cell BK158.out 2).trans rfl
    have hfz9_0 := blk_frozen BK158.out 0
    have hfz9_1 := blk_frozen BK158.out 1
    have hfz9_2 := blk_frozen BK158.out 2
    go_wp2
    go_loopg [3, 4] kj1 (fun kq v3 v4 w' => ∃ (x3_2 : Int) (x4_2 : Int), v3 = .int .i64 x3_2 ∧ v4 = .int .i64 x4_2 ∧ Aside0 (spec_WheelRight.l0 kq x3_2 x4_2 a0_0 l0_1 l0_2 = some r) ∧ Aside0 (kq ≤ kj1) ∧ Aside0 (w'.heap[gb158]? = some (.cells #[.int .i64 a0_0, (.slice A0_1 l0_1.length c0_1), (.slice A0_2 l0_2.length c0_2)] 45 (0, 0))) ∧ Aside0 (Below w.heap.size w w'))
    case atStart => exact ⟨((l0_2.length : Int)), (0), (by first | rfl | (simp; done) | (simp [*]; done)), (by first | rfl | (simp; done) | (simp [*]; done)), H', ⟨Nat.le_refl _⟩, ⟨up_ BK158.out⟩, ⟨bl_⟩⟩
    case round =>
     as_aux_lemma =>
      clear H'
      try clear c2
      try clear p2
      try clear c5
      try clear c6
      try clear c8
      try clear hcz6_0
      try clear hcz6_1
      try clear hcz6_2
      try clear hcz7_0
      try clear hcz7_1
      try clear hcz7_2
      try clear hcz9_0
      try clear hcz9_1
      try clear hcz9_2
      try clear hfz6_0
      try clear hfz6_1
      try clear hfz6_2
      try clear hfz7_0
      try clear hfz7_1
      try clear hfz7_2
      try clear hfz9_0
      try clear hfz9_1
      try clear hfz9_2
      try clear p2
      obtain ⟨x3_2, x4_2, rfl, rfl, HA, HK2, BK158, HB⟩ := hrel
      cases gk with
      | zero => exact absurd HA.out (by simp [spec_WheelRight.l0])
      | succ k2 =>
       have H := HA.out
       clear HA
       simp only [spec_WheelRight.l0] at H
       by_cases c10 : x4_2 < (l0_1.length : Int)
       ·
        rw [if_pos c10] at H
        have c10b0 : decide (x4_2 < (l0_1.length : Int)) = true := decide_eq_true c10
        clear c10
        by_cases c11 : 0 ≤ x4_2
        ·
         rw [if_pos c11] at H
         have c11b0 : decide (0 ≤ x4_2) = true := decide_eq_true c11
         clear c11
         have H' := Aside0.mk H
         clear H
         have hcz12_0 : wr.cell? ⟨gb158, 0, none⟩ = some (.int .i64 a0_0) := (blk_cell BK158.out 0).trans rfl
         have hcz12_1 : wr.cell? ⟨gb158, 1, none⟩ = some (.slice A0_1 l0_1.length c0_1) := (blk_cell BK158.out 1).trans rfl
         have hcz12_2 : wr.cell? ⟨gb158, 2, none⟩ = some (.slice A0_2 l0_2.length c0_2) := (blk_cell BK158.out 2).trans rfl
         have hfz12_0 := blk_frozen BK158.out 0
         have hfz12_1 := blk_frozen BK158.out 1
         have hfz12_2 := blk_frozen BK158.out 2
         have p160 : 0 ≤ (x4_2 : Int) := ds_
         have q160 : x4_2 < (l0_1.length : Int) := ds_
         obtain ⟨ad160, A160_0, c160_0, e160, hx160_0, hl160_0, hi160_0⟩ := at_L4 HR0_1.out x4_2 p160 q160
         cases e160
         replace hx160_0 := (HB.out.cell (World.block_lt_of_cell? w _ hx160_0)).trans hx160_0
         have HR160_0 := Aside0.mk hi160_0
         have HC160_0 := Aside0.mk hl160_0
         clear hi160_0 hl160_0
         replace p160 := eq_true p160
         replace q160 := eq_true q160
         go_wp2
         go_roundg k2
         case measure => have := HJ1.out; have := HK2.out; omega
         case rel => exact ⟨(wrap64 (x3_2 + ((rd_L4 l0_1 x4_2).length : Int))), (wrap64 (x4_2 + 1)), (by first | rfl | (simp; done) | (simp [*]; done)), (by first | rfl | (simp; done) | (simp [*]; done)), H', ⟨by have := HJ1.out; have := HK2.out; omega⟩, ⟨up_ BK158.out⟩, ⟨bl_⟩⟩
        ·
         rw [if_neg c11] at H
         exact absurd H (by simp)
       ·
        rw [if_neg c10] at H
        have c10b0 : decide (x4_2 < (l0_1.length : Int)) = false := decide_eq_false c10
        clear c10
        by_cases c13 : x3_2 > 100
        ·
         rw [if_pos c13] at H
         have c13b0 : decide (100 < x3_2) = true := decide_eq_true c13
         clear c13
         obtain rfl := Option.some.inj H
         have hcz14_0 : wr.cell? ⟨gb158, 0, none⟩ = some (.int .i64 a0_0) := (blk_cell BK158.out 0).trans rfl
         have hcz14_1 : wr.cell? ⟨gb158, 1, none⟩ = some (.slice A0_1 l0_1.length c0_1) := (blk_cell BK158.out 1).trans rfl
         have hcz14_2 : wr.cell? ⟨gb158, 2, none⟩ = some (.slice A0_2 l0_2.length c0_2) := (blk_cell BK158.out 2).trans rfl
         have hfz14_0 := blk_frozen BK158.out 0
         have hfz14_1 := blk_frozen BK158.out 1
         have hfz14_2 := blk_frozen BK158.out 2
         go_wp2
         go_ret
         exact ⟨by first | rfl | (simp [errW_none, errW_some] <;> rfl) | (simp [*, errW_none, errW_some] <;> rfl), bl_⟩
        ·
         rw [if_neg c13] at H
         have c13b0 : decide (100 < x3_2) = false := decide_eq_false c13
         clear c13
         replace H := Option.bind_eq_some_iff.mp H
         obtain ⟨t161, A150, H⟩ := H
         replace H : (spec_WheelRight.l1 k2 t161 0 a0_0 l0_1 l0_2) = some r := H
         have A15 := Aside0.mk A150
         clear A150
         have H' := Aside0.mk H
         clear H
         have hcz16_0 : wr.cell? ⟨gb158, 0, none⟩ = some (.int .i64 a0_0) := (blk_cell BK158.out 0).trans rfl
         have hcz16_1 : wr.cell? ⟨gb158, 1, none⟩ = some (.slice A0_1 l0_1.length c0_1) := (blk_cell BK158.out 1).trans rfl
         have hcz16_2 : wr.cell? ⟨gb158, 2, none⟩ = some (.slice A0_2 l0_2.length c0_2) := (blk_cell BK158.out 2).trans rfl
         have hfz16_0 := blk_frozen BK158.out 0
         have hfz16_1 := blk_frozen BK158.out 1
         have hfz16_2 := blk_frozen BK158.out 2
         go_wp2_with (first | ((with_reducible refine gate_callee (f := 63) rfl ?_); refine gL_ (some 43) Try.func63 #[.agg #[.int .i64 a0_0, .slice A0_1 l0_1.length c0_1, .slice A0_2 l0_2.length c0_2]] ?_; (with_reducible refine (spec_l08All.calls k2 a0_0 _ _ l0_1 _ _ l0_2 t161 _ ?side1 ?side2 ?side3 ?side4 A15.out).mono ?_); (case side1 => exact Kd.C_below HR0_1.out bl_); (case side2 => exact HC0_1.out); (case side3 => exact Kd.C_below HR0_2.out bl_); (case side4 => exact HC0_2.out); rintro e w17 ⟨v162, rfl, ho0, hb⟩; refine ⟨_, rfl, ?_⟩; have n0_ := Aside0.mk (Kd.R_lower ho0 (below_size bl_)); have n1_ := Aside0.mk (blk_below (up_ BK158.out) hb); have n2_ := Aside0.mk (below_step bl_ hb); clear BK158; clear HB; have HO163 := n0_; have BK158 := n1_; have HB := n2_; clear n0_ n1_ n2_; (try clear hb); (try clear hb2); (try clear hk); (try clear hi); (try clear ho0)))
         go_loopg [6] k2 (fun kq v6 w' => ∃ (x6_3 : Int), v6 = .int .i64 x6_3 ∧ Aside0 (spec_WheelRight.l1 kq t161 x6_3 a0_0 l0_1 l0_2 = some r) ∧ Aside0 (kq ≤ k2) ∧ Aside0 (Kd.R k91 91 w' w.heap.size (fun _ => True) v162 t161) ∧ Aside0 (w'.heap[gb158]? = some (.cells #[.int .i64 a0_0, (.slice A0_1 l0_1.length c0_1), (.slice A0_2 l0_2.length c0_2)] 45 (0, 0))) ∧ Aside0 (Below w.heap.size w w'))
         case atStart => exact ⟨(0), (by first | rfl | (simp; done) | (simp [*]; done)), H', ⟨Nat.le_refl _⟩, ⟨rU_ HO163.out⟩, ⟨up_ BK158.out⟩, ⟨bl_⟩⟩
         case round =>
          as_aux_lemma =>
           clear H'
           try clear c1
           try clear p1
           try clear q1
           try clear hx1
           try clear c2
           try clear p2
           try clear c5
           try clear c6
           try clear p6
           try clear c8
           try clear c10
           try clear c10b0
           try clear c11
           try clear c11b0
           try clear c13
           try clear c13b0
           try clear c16
           try clear p16
           try clear q16
           try clear hx16
           try clear hcz12_0
           try clear hcz12_1
           try clear hcz12_2
           try clear hcz14_0
           try clear hcz14_1
           try clear hcz14_2
           try clear hcz16_0
           try clear hcz16_1
           try clear hcz16_2
           try clear hcz6_0
           try clear hcz6_1
           try clear hcz6_2
           try clear hcz7_0
           try clear hcz7_1
           try clear hcz7_2
           try clear hcz9_0
           try clear hcz9_1
           try clear hcz9_2
           try clear hfz12_0
           try clear hfz12_1
           try clear hfz12_2
           try clear hfz14_0
           try clear hfz14_1
           try clear hfz14_2
           try clear hfz16_0
           try clear hfz16_1
           try clear hfz16_2
           try clear hfz6_0
           try clear hfz6_1
           try clear hfz6_2
           try clear hfz7_0
           try clear hfz7_1
           try clear hfz7_2
           try clear hfz9_0
           try clear hfz9_1
           try clear hfz9_2
           try clear hx160_0
           try clear p160
           try clear p2
           try clear q160
           obtain ⟨x6_3, rfl, HA, HK3, HO_5, BK158, HB⟩ := hrel
           cases gk with
           | zero => exact absurd HA.out (by simp [spec_WheelRight.l1])
           | succ k3 =>
            have H := HA.out
            clear HA
            simp only [spec_WheelRight.l1] at H
            by_cases c18 : x6_3 < (t161.length : Int)
            ·
             rw [if_pos c18] at H
             have c18b0 : decide (x6_3 < (t161.length : Int)) = true := decide_eq_true c18
             clear c18
             have HC19 := Aside0.mk H
             clear H
             obtain ⟨Ao20, co20, eo20⟩ := Kd.R_slice HO_5.out
             subst eo20
             go_upto_region 14 with (fail)
             go_cut [74] (fun v74 wc => ∃ (kq : Nat) (x74_18 : Bool), v74 = .bool x74_18 ∧ Aside0 (spec_WheelRight.j3 kq t161 x6_3 x74_18 a0_0 l0_1 l0_2 = some r) ∧ Aside0 (kq ≤ k3) ∧ Aside0 (Kd.R k91 91 wc w.heap.size (fun _ => True) (.slice Ao20 t161.length co20) t161) ∧ Aside0 (wc.heap[gb158]? = some (.cells #[.int .i64 a0_0, (.slice A0_1 l0_1.length c0_1), (.slice A0_2 l0_2.length c0_2)] 45 (0, 0))) ∧ Aside0 (Below w.heap.size w wc))
             case first =>
              have H := HC19.out
              clear HC19
              by_cases c21 : 0 ≤ x6_3
              ·
               rw [if_pos c21] at H
               have c21b0 : decide (0 ≤ x6_3) = true := decide_eq_true c21
               clear c21
               (first | rw [c21b0] | (simp only [i64_w, i32_w]; rw [c21b0]) | skip)
               replace H := Option.bind_eq_some_iff.mp H
               obtain ⟨t165, A220, H⟩ := H
               replace H : (if t165 = true then (if ((rd_T91 t161 x6_3).f1) ≤ a0_0 then (spec_WheelRight.j3 k3 t161 x6_3 true a0_0 l0_1 l0_2) else (spec_WheelRight.j3 k3 t161 x6_3 (decide (((rd_T91 t161 x6_3).f1) > 1000000)) a0_0 l0_1 l0_2)) else (spec_WheelRight.j3 k3 t161 x6_3 true a0_0 l0_1 l0_2)) = some r := H
               have A22 := Aside0.mk A220
               clear A220
               by_cases c23 : t165 = true
               ·
                subst c23
                have H1 : (if ((rd_T91 t161 x6_3).f1) ≤ a0_0 then (spec_WheelRight.j3 k3 t161 x6_3 true a0_0 l0_1 l0_2) else (spec_WheelRight.j3 k3 t161 x6_3 (decide (((rd_T91 t161 x6_3).f1) > 1000000)) a0_0 l0_1 l0_2)) = some r := by rw [if_pos rfl] at H; exact H
                clear H
                have H := H1
                clear H1
                by_cases c24 : ((rd_T91 t161 x6_3).f1) ≤ a0_0
                ·
                 rw [if_pos c24] at H
                 have c24b0 : decide (((rd_T91 t161 x6_3).f1) ≤ a0_0) = true := decide_eq_true c24
                 clear c24
                 have H' := Aside0.mk H
                 clear H
                 try go_wp2
                 replace HO_5 := Aside0.mk (Kd.R_drew HO_5.out)
                 replace BK158 := Aside0.mk (blk_drew BK158.out)
                 replace HB := Aside0.mk (below_drew1 HB.out)
                 have p164 : 0 ≤ (x6_3 : Int) := ds_
                 have q164 : x6_3 < (t161.length : Int) := ds_
                 obtain ⟨ad164, e164, hx164_0, hx164_1⟩ := at_T91 (Kd.R_reads' HO_5.out).2.2 x6_3 p164 q164
                 cases e164
                 replace p164 := eq_true p164
                 replace q164 := eq_true q164
                 have p166 : 0 ≤ (x6_3 : Int) := ds_
                 have q166 : x6_3 < (t161.length : Int) := ds_
                 obtain ⟨ad166, e166, hx166_0, hx166_1⟩ := at_T91 (Kd.R_reads' HO_5.out).2.2 x6_3 p166 q166
                 obtain rfl : ad164 = ad166 := (by injection e166)
                 replace p166 := eq_true p166
                 replace q166 := eq_true q166
                 refine start_ (n := 25) (S := fun w' => w'.cell? ⟨gb158, 0, none⟩ = some (.int .i64 a0_0) ∧ w'.cell? ⟨gb158, 1, none⟩ = some (.slice A0_1 l0_1.length c0_1) ∧ w'.cell? ⟨gb158, 2, none⟩ = some (.slice A0_2 l0_2.length c0_2) ∧ w'.cell? (ad164.add ((x6_3).toNat * 2)) = some (.int .i64 ((rd_T91 t161 x6_3).f0)) ∧ w'.cell? ⟨(ad164.add ((x6_3).toNat * 2)).block, (ad164.add ((x6_3).toNat * 2)).off + 1, none⟩ = some (.int .i64 ((rd_T91 t161 x6_3).f1)) ∧ w'.cell? (ad164.add ((x6_3).toNat * 2)) = some (.int .i64 ((rd_T91 t161 x6_3).f0)) ∧ w'.cell? ⟨(ad164.add ((x6_3).toNat * 2)).block, (ad164.add ((x6_3).toNat * 2)).off + 1, none⟩ = some (.int .i64 ((rd_T91 t161 x6_3).f1))) (ds := []) #[false, false, false, false, false, false, false, false, false, false, false, false, false, false, false, false, false, false, false, false, false, false, false, false, false] (by kernel_rfl) rfl rfl ⟨(blk_cell BK158.out 0).trans rfl, (blk_cell BK158.out 1).trans rfl, (blk_cell BK158.out 2).trans rfl, hx164_0, hx164_1, hx166_0, hx166_1⟩ (fun hHeld => ?_); refine with_tabW spec_WheelRight.tab14 spec_WheelRight.bits14 (fun HT_ HW_ => ?_)
                 generalize wr.drew = w25 at HO_5 BK158 HB hx164_0 hx164_1 hx166_0 hx166_1 hHeld ⊢
                 refine pu_ 0 50 HT_ ?_
                 refine pu_ 1 51 HT_ ?_
                 refine pu_ 2 52 HT_ ?_
                 refine pu_ 3 53 HT_ ?_
                 refine tk_ 4 54 HT_ HW_ hHeld ?_ rfl rfl (by rintro w' ⟨s0, s1, s2, s3, s4, s5, s6⟩; go_simp; with_reducible rfl)
                 refine one_ (i := 5) (N := some 55) #[o_,o_,o_,o_,o_,o_,x_,x_,x_,x_,x_,x_,x_,x_,x_,x_,x_,x_,x_,x_,x_,x_,x_,x_,x_] rfl rfl (one_of HT_.out (by kernel_rfl)) (by decide) (fun K hK => ?_)
                 refine goes_ Try.func64 (by kernel_rfl) rfl #[.int .i64 ((rd_T91 t161 x6_3).f0)] (by rfl) rfl rfl (by (try simp only [List.map_toArray, List.map_cons, List.map_nil]); first | done | rfl | (simp only [List.length_drop, List.length_take]; rfl)) ?_
                 with_reducible refine (spec_l02Id.calls ((rd_T91 t161 x6_3).f0) true _ A22.out).mono ?_
                 rintro e w' ⟨rfl, ⟨nd, rfl⟩⟩
                 refine ⟨_, rfl, ?_⟩
                 refine hK.out _ _ ⟨(blk_cell BK158.out 0).trans rfl, (blk_cell BK158.out 1).trans rfl, (blk_cell BK158.out 2).trans rfl, hHeld.2.2.2.1, hHeld.2.2.2.2.1, hHeld.2.2.2.2.2.1, hHeld.2.2.2.2.2.2⟩ (fun hHeld => ?_)
                 clear hK K
                 refine norm_ (a' := ?_) ?_ ?_
                 rotate_left
                 ·
                  show Act.put _ (some 55) _ = _
                  simp only [Act.put, List.setIfInBounds_toArray, List.set_cons_zero, List.set_cons_succ, i64_w, i32_w]
                  rfl
                 refine pu_ 6 56 HT_ ?_
                 refine pu_ 7 57 HT_ ?_
                 refine pu_ 8 58 HT_ ?_
                 refine pu_ 9 59 HT_ ?_
                 refine pu_ 10 60 HT_ ?_
                 refine pu_ 11 61 HT_ ?_
                 refine pu_ 13 63 HT_ ?_
                 refine tk_ 12 62 HT_ HW_ hHeld ?_ rfl rfl (by rintro w' ⟨s0, s1, s2, s3, s4, s5, s6⟩; go_simp; with_reducible rfl)
                 refine tk_ 14 64 HT_ HW_ hHeld ?_ rfl rfl (by rintro w' ⟨s0, s1, s2, s3, s4, s5, s6⟩; go_simp; with_reducible rfl)
                 refine pu_ 15 65 HT_ ?_
                 refine pu_ 16 66 HT_ ?_
                 refine pu_ 17 67 HT_ ?_
                 refine pn_ 18 68 HT_ ?_
                 refine pn_ 19 69 HT_ ?_
                 refine pn_ 20 70 HT_ ?_
                 refine pn_ 21 71 HT_ ?_
                 refine pn_ 22 72 HT_ ?_
                 refine pn_ 23 73 HT_ ?_
                 refine pu_ 24 74 HT_ ?_
                 refine done_ (done_of HT_.out (by kernel_rfl)) ?_
                 try go_wp2
                 go_meet
                 case rel => exact ⟨_, (true), (by first | rfl | (simp; done) | (simp [*]; done)), H', ⟨by have := HJ1.out; have := HK2.out; have := HK3.out; first | omega | exact Nat.le_refl _⟩, ⟨rU_ HO_5.out⟩, ⟨up_ BK158.out⟩, ⟨bl_⟩⟩
                ·
                 rw [if_neg c24] at H
                 have c24b0 : decide (((rd_T91 t161 x6_3).f1) ≤ a0_0) = false := decide_eq_false c24
                 clear c24
                 have H' := Aside0.mk H
                 clear H
                 try go_wp2
                 replace HO_5 := Aside0.mk (Kd.R_drew HO_5.out)
                 replace BK158 := Aside0.mk (blk_drew BK158.out)
                 replace HB := Aside0.mk (below_drew1 HB.out)
                 have p164 : 0 ≤ (x6_3 : Int) := ds_
                 have q164 : x6_3 < (t161.length : Int) := ds_
                 obtain ⟨ad164, e164, hx164_0, hx164_1⟩ := at_T91 (Kd.R_reads' HO_5.out).2.2 x6_3 p164 q164
                 cases e164
                 replace p164 := eq_true p164
                 replace q164 := eq_true q164
                 have p166 : 0 ≤ (x6_3 : Int) := ds_
                 have q166 : x6_3 < (t161.length : Int) := ds_
                 obtain ⟨ad166, e166, hx166_0, hx166_1⟩ := at_T91 (Kd.R_reads' HO_5.out).2.2 x6_3 p166 q166
                 obtain rfl : ad164 = ad166 := (by injection e166)
                 replace p166 := eq_true p166
                 replace q166 := eq_true q166
                 have p167 : 0 ≤ (x6_3 : Int) := ds_
                 have q167 : x6_3 < (t161.length : Int) := ds_
                 obtain ⟨ad167, e167, hx167_0, hx167_1⟩ := at_T91 (Kd.R_reads' HO_5.out).2.2 x6_3 p167 q167
                 obtain rfl : ad164 = ad167 := (by injection e167)
                 replace p167 := eq_true p167
                 replace q167 := eq_true q167
                 refine start_ (n := 25) (S := fun w' => w'.cell? ⟨gb158, 0, none⟩ = some (.int .i64 a0_0) ∧ w'.cell? ⟨gb158, 1, none⟩ = some (.slice A0_1 l0_1.length c0_1) ∧ w'.cell? ⟨gb158, 2, none⟩ = some (.slice A0_2 l0_2.length c0_2) ∧ w'.cell? (ad164.add ((x6_3).toNat * 2)) = some (.int .i64 ((rd_T91 t161 x6_3).f0)) ∧ w'.cell? ⟨(ad164.add ((x6_3).toNat * 2)).block, (ad164.add ((x6_3).toNat * 2)).off + 1, none⟩ = some (.int .i64 ((rd_T91 t161 x6_3).f1)) ∧ w'.cell? (ad164.add ((x6_3).toNat * 2)) = some (.int .i64 ((rd_T91 t161 x6_3).f0)) ∧ w'.cell? ⟨(ad164.add ((x6_3).toNat * 2)).block, (ad164.add ((x6_3).toNat * 2)).off + 1, none⟩ = some (.int .i64 ((rd_T91 t161 x6_3).f1)) ∧ w'.cell? (ad164.add ((x6_3).toNat * 2)) = some (.int .i64 ((rd_T91 t161 x6_3).f0)) ∧ w'.cell? ⟨(ad164.add ((x6_3).toNat * 2)).block, (ad164.add ((x6_3).toNat * 2)).off + 1, none⟩ = some (.int .i64 ((rd_T91 t161 x6_3).f1))) (ds := []) #[false, false, false, false, false, false, false, false, false, false, false, false, false, false, false, false, false, false, false, false, false, false, false, false, false] (by kernel_rfl) rfl rfl ⟨(blk_cell BK158.out 0).trans rfl, (blk_cell BK158.out 1).trans rfl, (blk_cell BK158.out 2).trans rfl, hx164_0, hx164_1, hx166_0, hx166_1, hx167_0, hx167_1⟩ (fun hHeld => ?_); refine with_tabW spec_WheelRight.tab14 spec_WheelRight.bits14 (fun HT_ HW_ => ?_)
                 generalize wr.drew = w26 at HO_5 BK158 HB hx164_0 hx164_1 hx166_0 hx166_1 hx167_0 hx167_1 hHeld ⊢
                 refine pu_ 0 50 HT_ ?_
                 refine pu_ 1 51 HT_ ?_
                 refine pu_ 2 52 HT_ ?_
                 refine pu_ 3 53 HT_ ?_
                 refine tk_ 4 54 HT_ HW_ hHeld ?_ rfl rfl (by rintro w' ⟨s0, s1, s2, s3, s4, s5, s6, s7, s8⟩; go_simp; with_reducible rfl)
                 refine one_ (i := 5) (N := some 55) #[o_,o_,o_,o_,o_,o_,x_,x_,x_,x_,x_,x_,x_,x_,x_,x_,x_,x_,x_,x_,x_,x_,x_,x_,x_] rfl rfl (one_of HT_.out (by kernel_rfl)) (by decide) (fun K hK => ?_)
                 refine goes_ Try.func64 (by kernel_rfl) rfl #[.int .i64 ((rd_T91 t161 x6_3).f0)] (by rfl) rfl rfl (by (try simp only [List.map_toArray, List.map_cons, List.map_nil]); first | done | rfl | (simp only [List.length_drop, List.length_take]; rfl)) ?_
                 with_reducible refine (spec_l02Id.calls ((rd_T91 t161 x6_3).f0) true _ A22.out).mono ?_
                 rintro e w' ⟨rfl, ⟨nd, rfl⟩⟩
                 refine ⟨_, rfl, ?_⟩
                 refine hK.out _ _ ⟨(blk_cell BK158.out 0).trans rfl, (blk_cell BK158.out 1).trans rfl, (blk_cell BK158.out 2).trans rfl, hHeld.2.2.2.1, hHeld.2.2.2.2.1, hHeld.2.2.2.2.2.1, hHeld.2.2.2.2.2.2.1, hHeld.2.2.2.2.2.2.2.1, hHeld.2.2.2.2.2.2.2.2⟩ (fun hHeld => ?_)
                 clear hK K
                 refine norm_ (a' := ?_) ?_ ?_
                 rotate_left
                 ·
                  show Act.put _ (some 55) _ = _
                  simp only [Act.put, List.setIfInBounds_toArray, List.set_cons_zero, List.set_cons_succ, i64_w, i32_w]
                  rfl
                 refine pu_ 6 56 HT_ ?_
                 refine pu_ 7 57 HT_ ?_
                 refine pu_ 8 58 HT_ ?_
                 refine pu_ 9 59 HT_ ?_
                 refine pu_ 10 60 HT_ ?_
                 refine pu_ 11 61 HT_ ?_
                 refine pu_ 13 63 HT_ ?_
                 refine tk_ 12 62 HT_ HW_ hHeld ?_ rfl rfl (by rintro w' ⟨s0, s1, s2, s3, s4, s5, s6, s7, s8⟩; go_simp; with_reducible rfl)
                 refine tk_ 14 64 HT_ HW_ hHeld ?_ rfl rfl (by rintro w' ⟨s0, s1, s2, s3, s4, s5, s6, s7, s8⟩; go_simp; with_reducible rfl)
                 refine pu_ 15 65 HT_ ?_
                 refine pu_ 16 66 HT_ ?_
                 refine pu_ 17 67 HT_ ?_
                 refine pu_ 18 68 HT_ ?_
                 refine pu_ 19 69 HT_ ?_
                 refine pu_ 20 70 HT_ ?_
                 refine pu_ 21 71 HT_ ?_
                 refine tk_ 22 72 HT_ HW_ hHeld ?_ rfl rfl (by rintro w' ⟨s0, s1, s2, s3, s4, s5, s6, s7, s8⟩; go_simp; with_reducible rfl)
                 refine pu_ 23 73 HT_ ?_
                 refine pu_ 24 74 HT_ ?_
                 refine done_ (done_of HT_.out (by kernel_rfl)) ?_
                 try go_wp2
                 go_meet
                 case rel => exact ⟨_, (decide (((rd_T91 t161 x6_3).f1) > 1000000)), (by first | rfl | (simp; done) | (simp [*]; done)), H', ⟨by have := HJ1.out; have := HK2.out; have := HK3.out; first | omega | exact Nat.le_refl _⟩, ⟨rU_ HO_5.out⟩, ⟨up_ BK158.out⟩, ⟨bl_⟩⟩
               ·
                replace c23 := Bool.eq_false_iff.mpr c23
                subst c23
                have H1 : (spec_WheelRight.j3 k3 t161 x6_3 true a0_0 l0_1 l0_2) = some r := by rw [if_neg (show ¬ (false = true) by decide)] at H; exact H
                clear H
                have H := H1
                clear H1
                have H' := Aside0.mk H
                clear H
                try go_wp2
                replace HO_5 := Aside0.mk (Kd.R_drew HO_5.out)
                replace BK158 := Aside0.mk (blk_drew BK158.out)
                replace HB := Aside0.mk (below_drew1 HB.out)
                have p164 : 0 ≤ (x6_3 : Int) := ds_
                have q164 : x6_3 < (t161.length : Int) := ds_
                obtain ⟨ad164, e164, hx164_0, hx164_1⟩ := at_T91 (Kd.R_reads' HO_5.out).2.2 x6_3 p164 q164
                cases e164
                replace p164 := eq_true p164
                replace q164 := eq_true q164
                refine start_ (n := 25) (S := fun w' => w'.cell? (ad164.add ((x6_3).toNat * 2)) = some (.int .i64 ((rd_T91 t161 x6_3).f0)) ∧ w'.cell? ⟨(ad164.add ((x6_3).toNat * 2)).block, (ad164.add ((x6_3).toNat * 2)).off + 1, none⟩ = some (.int .i64 ((rd_T91 t161 x6_3).f1))) (ds := []) #[false, false, false, false, false, false, false, false, false, false, false, false, false, false, false, false, false, false, false, false, false, false, false, false, false] (by kernel_rfl) rfl rfl ⟨hx164_0, hx164_1⟩ (fun hHeld => ?_); refine with_tabW spec_WheelRight.tab14 spec_WheelRight.bits14 (fun HT_ HW_ => ?_)
                generalize wr.drew = w27 at HO_5 BK158 HB hx164_0 hx164_1 hHeld ⊢
                refine pu_ 0 50 HT_ ?_
                refine pu_ 1 51 HT_ ?_
                refine pu_ 2 52 HT_ ?_
                refine pu_ 3 53 HT_ ?_
                refine tk_ 4 54 HT_ HW_ hHeld ?_ rfl rfl (by rintro w' ⟨s0, s1⟩; go_simp; with_reducible rfl)
                refine one_ (i := 5) (N := some 55) #[o_,o_,o_,o_,o_,o_,x_,x_,x_,x_,x_,x_,x_,x_,x_,x_,x_,x_,x_,x_,x_,x_,x_,x_,x_] rfl rfl (one_of HT_.out (by kernel_rfl)) (by decide) (fun K hK => ?_)
                refine goes_ Try.func64 (by kernel_rfl) rfl #[.int .i64 ((rd_T91 t161 x6_3).f0)] (by rfl) rfl rfl (by (try simp only [List.map_toArray, List.map_cons, List.map_nil]); first | done | rfl | (simp only [List.length_drop, List.length_take]; rfl)) ?_
                with_reducible refine (spec_l02Id.calls ((rd_T91 t161 x6_3).f0) false _ A22.out).mono ?_
                rintro e w' ⟨rfl, ⟨nd, rfl⟩⟩
                refine ⟨_, rfl, ?_⟩
                refine hK.out _ _ ⟨hHeld.1, hHeld.2⟩ (fun hHeld => ?_)
                clear hK K
                refine norm_ (a' := ?_) ?_ ?_
                rotate_left
                ·
                 show Act.put _ (some 55) _ = _
                 simp only [Act.put, List.setIfInBounds_toArray, List.set_cons_zero, List.set_cons_succ, i64_w, i32_w]
                 rfl
                refine pu_ 6 56 HT_ ?_
                refine pu_ 7 57 HT_ ?_
                refine pn_ 8 58 HT_ ?_
                refine pn_ 9 59 HT_ ?_
                refine pn_ 10 60 HT_ ?_
                refine pn_ 11 61 HT_ ?_
                refine pn_ 12 62 HT_ ?_
                refine pn_ 13 63 HT_ ?_
                refine pn_ 14 64 HT_ ?_
                refine pn_ 15 65 HT_ ?_
                refine pu_ 16 66 HT_ ?_
                refine pu_ 17 67 HT_ ?_
                refine pn_ 18 68 HT_ ?_
                refine pn_ 19 69 HT_ ?_
                refine pn_ 20 70 HT_ ?_
                refine pn_ 21 71 HT_ ?_
                refine pn_ 22 72 HT_ ?_
                refine pn_ 23 73 HT_ ?_
                refine pu_ 24 74 HT_ ?_
                refine done_ (done_of HT_.out (by kernel_rfl)) ?_
                try go_wp2
                go_meet
                case rel => exact ⟨_, (true), (by first | rfl | (simp; done) | (simp [*]; done)), H', ⟨by have := HJ1.out; have := HK2.out; have := HK3.out; first | omega | exact Nat.le_refl _⟩, ⟨rU_ HO_5.out⟩, ⟨up_ BK158.out⟩, ⟨bl_⟩⟩
              ·
               rw [if_neg c21] at H
               exact absurd H (by simp)
             case rest =>
              clear HC19
              try clear p1
              try clear q1
              try clear hx1
              try clear c2
              try clear p2
              try clear c6
              try clear p16
              try clear q16
              try clear hx16
              try clear c21
              try clear c23
              try clear c24
              try clear c24b0
              try clear hx164_0
              try clear hx164_1
              try clear hx166_0
              try clear hx166_1
              try clear hx167_0
              try clear hx167_1
              try clear p164
              try clear p166
              try clear p167
              try clear q164
              try clear q166
              try clear q167
              obtain ⟨kq, x74_18, rfl, HA, HJ18, HO_5, BK158, HB⟩ := hcut
              cases kq with
              | zero => exact absurd HA.out (by simp [spec_WheelRight.j3])
              | succ kj18 =>
               have H := HA.out
               clear HA
               simp only [spec_WheelRight.j3] at H
               by_cases c28 : x74_18 = true
               ·
                subst c28
                have H1 : (some false) = some r := by rw [if_pos rfl] at H; exact H
                clear H
                have H := H1
                clear H1
                obtain rfl := Option.some.inj H
                go_wp2
                go_ret
                exact ⟨by first | rfl | (simp [errW_none, errW_some] <;> rfl) | (simp [*, errW_none, errW_some] <;> rfl), bl_⟩
               ·
                replace c28 := Bool.eq_false_iff.mpr c28
                subst c28
                have H1 : (spec_WheelRight.l2 kj18 t161 x6_3 0 a0_0 l0_1 l0_2) = some r := by rw [if_neg (show ¬ (false = true) by decide)] at H; exact H
                clear H
                have H := H1
                clear H1
                have H' := Aside0.mk H
                clear H
                go_wp2
                go_loopg [7] kj18 (fun kq v7 w' => ∃ (x7_5 : Int), v7 = .int .i64 x7_5 ∧ Aside0 (spec_WheelRight.l2 kq t161 x6_3 x7_5 a0_0 l0_1 l0_2 = some r) ∧ Aside0 (kq ≤ kj18) ∧ Aside0 (Kd.R k91 91 w' w.heap.size (fun _ => True) (.slice Ao20 t161.length co20) t161) ∧ Aside0 (w'.heap[gb158]? = some (.cells #[.int .i64 a0_0, (.slice A0_1 l0_1.length c0_1), (.slice A0_2 l0_2.length c0_2)] 45 (0, 0))) ∧ Aside0 (Below w.heap.size w w'))
                case atStart => exact ⟨(0), (by first | rfl | (simp; done) | (simp [*]; done)), H', ⟨Nat.le_refl _⟩, ⟨rU_ HO_5.out⟩, ⟨up_ BK158.out⟩, ⟨bl_⟩⟩
                case round =>
                 as_aux_lemma =>
                  clear H'
                  try clear p1
                  try clear q1
                  try clear hx1
                  try clear c2
                  try clear p2
                  try clear c6
                  try clear p16
                  try clear q16
                  try clear hx16
                  try clear c21
                  try clear c23
                  try clear c24
                  try clear c24b0
                  try clear c28
                  try clear hx164_0
                  try clear hx164_1
                  try clear hx166_0
                  try clear hx166_1
                  try clear hx167_0
                  try clear hx167_1
                  try clear p1
                  try clear p16
                  try clear p164
                  try clear p166
                  try clear p167
                  try clear p2
                  try clear q1
                  try clear q16
                  try clear q164
                  try clear q166
                  try clear q167
                  obtain ⟨x7_5, rfl, HA, HK5, HO_5, BK158, HB⟩ := hrel
                  cases gk with
                  | zero => exact absurd HA.out (by simp [spec_WheelRight.l2])
                  | succ k5 =>
                   have H := HA.out
                   clear HA
                   simp only [spec_WheelRight.l2] at H
                   by_cases c29 : x7_5 < x6_3
                   ·
                    rw [if_pos c29] at H
                    have c29b0 : decide (x7_5 < x6_3) = true := decide_eq_true c29
                    clear c29
                    by_cases c30 : 0 ≤ x7_5
                    ·
                     rw [if_pos c30] at H
                     have c30b0 : decide (0 ≤ x7_5) = true := decide_eq_true c30
                     clear c30
                     by_cases c31 : x7_5 < (t161.length : Int)
                     ·
                      rw [if_pos c31] at H
                      have c31b0 : decide (x7_5 < (t161.length : Int)) = true := decide_eq_true c31
                      clear c31
                      by_cases c32 : 0 ≤ x6_3
                      ·
                       rw [if_pos c32] at H
                       have c32b0 : decide (0 ≤ x6_3) = true := decide_eq_true c32
                       clear c32
                       by_cases c33 : x6_3 < (t161.length : Int)
                       ·
                        rw [if_pos c33] at H
                        have c33b0 : decide (x6_3 < (t161.length : Int)) = true := decide_eq_true c33
                        clear c33
                        by_cases c34 : ((rd_T91 t161 x7_5).f0) = ((rd_T91 t161 x6_3).f0)
                        ·
                         rw [if_pos c34] at H
                         have c34b0 : (((rd_T91 t161 x7_5).f0) == ((rd_T91 t161 x6_3).f0)) = true := beq_iff_eq.mpr c34
                         have c34b1 : (((rd_T91 t161 x7_5).f0) != ((rd_T91 t161 x6_3).f0)) = false := bne_eq_false_iff_eq.mpr c34
                         clear c34
                         obtain rfl := Option.some.inj H
                         try go_wp2
                         replace HO_5 := Aside0.mk (Kd.R_drew HO_5.out)
                         replace BK158 := Aside0.mk (blk_drew BK158.out)
                         replace HB := Aside0.mk (below_drew1 HB.out)
                         have p168 : 0 ≤ (x7_5 : Int) := ds_
                         have q168 : x7_5 < (t161.length : Int) := ds_
                         obtain ⟨ad168, e168, hx168_0, hx168_1⟩ := at_T91 (Kd.R_reads' HO_5.out).2.2 x7_5 p168 q168
                         cases e168
                         replace p168 := eq_true p168
                         replace q168 := eq_true q168
                         have p169 : 0 ≤ (x6_3 : Int) := ds_
                         have q169 : x6_3 < (t161.length : Int) := ds_
                         obtain ⟨ad169, e169, hx169_0, hx169_1⟩ := at_T91 (Kd.R_reads' HO_5.out).2.2 x6_3 p169 q169
                         obtain rfl : ad168 = ad169 := (by injection e169)
                         replace p169 := eq_true p169
                         replace q169 := eq_true q169
                         refine start_ (n := 11) (S := fun w' => w'.cell? (ad168.add ((x7_5).toNat * 2)) = some (.int .i64 ((rd_T91 t161 x7_5).f0)) ∧ w'.cell? ⟨(ad168.add ((x7_5).toNat * 2)).block, (ad168.add ((x7_5).toNat * 2)).off + 1, none⟩ = some (.int .i64 ((rd_T91 t161 x7_5).f1)) ∧ w'.cell? (ad168.add ((x6_3).toNat * 2)) = some (.int .i64 ((rd_T91 t161 x6_3).f0)) ∧ w'.cell? ⟨(ad168.add ((x6_3).toNat * 2)).block, (ad168.add ((x6_3).toNat * 2)).off + 1, none⟩ = some (.int .i64 ((rd_T91 t161 x6_3).f1))) (ds := []) #[false, false, false, false, false, false, false, false, false, false, false] (by kernel_rfl) rfl rfl ⟨hx168_0, hx168_1, hx169_0, hx169_1⟩ (fun hHeld => ?_); refine with_tabW spec_WheelRight.tab19 spec_WheelRight.bits19 (fun HT_ HW_ => ?_)
                         generalize wr.drew = w35 at HO_5 BK158 HB hx168_0 hx168_1 hx169_0 hx169_1 hHeld ⊢
                         refine pu_ 0 80 HT_ ?_
                         refine pu_ 1 81 HT_ ?_
                         refine pu_ 2 82 HT_ ?_
                         refine pu_ 3 83 HT_ ?_
                         refine pu_ 5 85 HT_ ?_
                         refine pu_ 6 86 HT_ ?_
                         refine pu_ 7 87 HT_ ?_
                         refine pu_ 8 88 HT_ ?_
                         refine tk_ 4 84 HT_ HW_ hHeld ?_ rfl rfl (by rintro w' ⟨s0, s1, s2, s3⟩; go_simp; with_reducible rfl)
                         refine tk_ 9 89 HT_ HW_ hHeld ?_ rfl rfl (by rintro w' ⟨s0, s1, s2, s3⟩; go_simp; with_reducible rfl)
                         refine pu_ 10 90 HT_ ?_
                         refine done_ (done_of HT_.out (by kernel_rfl)) ?_
                         try go_wp2
                         go_ret
                         exact ⟨by first | rfl | (simp [errW_none, errW_some] <;> rfl) | (simp [*, errW_none, errW_some] <;> rfl), bl_⟩
                        ·
                         rw [if_neg c34] at H
                         have c34b0 : (((rd_T91 t161 x7_5).f0) == ((rd_T91 t161 x6_3).f0)) = false := beq_eq_false_iff_ne.mpr c34
                         have c34b1 : (((rd_T91 t161 x7_5).f0) != ((rd_T91 t161 x6_3).f0)) = true := bne_iff_ne.mpr c34
                         have H' := Aside0.mk H
                         clear H
                         try go_wp2
                         replace HO_5 := Aside0.mk (Kd.R_drew HO_5.out)
                         replace BK158 := Aside0.mk (blk_drew BK158.out)
                         replace HB := Aside0.mk (below_drew1 HB.out)
                         have p168 : 0 ≤ (x7_5 : Int) := ds_
                         have q168 : x7_5 < (t161.length : Int) := ds_
                         obtain ⟨ad168, e168, hx168_0, hx168_1⟩ := at_T91 (Kd.R_reads' HO_5.out).2.2 x7_5 p168 q168
                         cases e168
                         replace p168 := eq_true p168
                         replace q168 := eq_true q168
                         have p169 : 0 ≤ (x6_3 : Int) := ds_
                         have q169 : x6_3 < (t161.length : Int) := ds_
                         obtain ⟨ad169, e169, hx169_0, hx169_1⟩ := at_T91 (Kd.R_reads' HO_5.out).2.2 x6_3 p169 q169
                         obtain rfl : ad168 = ad169 := (by injection e169)
                         replace p169 := eq_true p169
                         replace q169 := eq_true q169
                         refine start_ (n := 11) (S := fun w' => w'.cell? (ad168.add ((x7_5).toNat * 2)) = some (.int .i64 ((rd_T91 t161 x7_5).f0)) ∧ w'.cell? ⟨(ad168.add ((x7_5).toNat * 2)).block, (ad168.add ((x7_5).toNat * 2)).off + 1, none⟩ = some (.int .i64 ((rd_T91 t161 x7_5).f1)) ∧ w'.cell? (ad168.add ((x6_3).toNat * 2)) = some (.int .i64 ((rd_T91 t161 x6_3).f0)) ∧ w'.cell? ⟨(ad168.add ((x6_3).toNat * 2)).block, (ad168.add ((x6_3).toNat * 2)).off + 1, none⟩ = some (.int .i64 ((rd_T91 t161 x6_3).f1))) (ds := []) #[false, false, false, false, false, false, false, false, false, false, false] (by kernel_rfl) rfl rfl ⟨hx168_0, hx168_1, hx169_0, hx169_1⟩ (fun hHeld => ?_); refine with_tabW spec_WheelRight.tab19 spec_WheelRight.bits19 (fun HT_ HW_ => ?_)
                         generalize wr.drew = w36 at HO_5 BK158 HB hx168_0 hx168_1 hx169_0 hx169_1 hHeld ⊢
                         refine pu_ 0 80 HT_ ?_
                         refine pu_ 1 81 HT_ ?_
                         refine pu_ 2 82 HT_ ?_
                         refine pu_ 3 83 HT_ ?_
                         refine pu_ 5 85 HT_ ?_
                         refine pu_ 6 86 HT_ ?_
                         refine pu_ 7 87 HT_ ?_
                         refine pu_ 8 88 HT_ ?_
                         refine tk_ 4 84 HT_ HW_ hHeld ?_ rfl rfl (by rintro w' ⟨s0, s1, s2, s3⟩; go_simp; with_reducible rfl)
                         refine tk_ 9 89 HT_ HW_ hHeld ?_ rfl rfl (by rintro w' ⟨s0, s1, s2, s3⟩; go_simp; with_reducible rfl)
                         refine pu_ 10 90 HT_ ?_
                         refine done_ (done_of HT_.out (by kernel_rfl)) ?_
                         try go_wp2
                         go_roundg k5
                         case measure => have := HJ1.out; have := HK2.out; have := HK3.out; have := HJ18.out; have := HK5.out; omega
                         case rel => exact ⟨(wrap64 (x7_5 + 1)), (by first | rfl | (simp; done) | (simp [*]; done)), H', ⟨by have := HJ1.out; have := HK2.out; have := HK3.out; have := HJ18.out; have := HK5.out; omega⟩, ⟨rU_ HO_5.out⟩, ⟨up_ BK158.out⟩, ⟨bl_⟩⟩
                       ·
                        rw [if_neg c33] at H
                        exact absurd H (by simp)
                      ·
                       rw [if_neg c32] at H
                       exact absurd H (by simp)
                     ·
                      rw [if_neg c31] at H
                      exact absurd H (by simp)
                    ·
                     rw [if_neg c30] at H
                     exact absurd H (by simp)
                   ·
                    rw [if_neg c29] at H
                    have c29b0 : decide (x7_5 < x6_3) = false := decide_eq_false c29
                    clear c29
                    have H' := Aside0.mk H
                    clear H
                    go_wp2
                    go_roundg k5
                    case measure => have := HJ1.out; have := HK2.out; have := HK3.out; have := HJ18.out; have := HK5.out; omega
                    case rel => exact ⟨(wrap64 (x6_3 + 1)), (by first | rfl | (simp; done) | (simp [*]; done)), H', ⟨by have := HJ1.out; have := HK2.out; have := HK3.out; have := HJ18.out; have := HK5.out; omega⟩, ⟨rU_ HO_5.out⟩, ⟨up_ BK158.out⟩, ⟨bl_⟩⟩
            ·
             rw [if_neg c18] at H
             have c18b0 : decide (x6_3 < (t161.length : Int)) = false := decide_eq_false c18
             clear c18
             have H' := Aside0.mk H
             clear H
             obtain ⟨Ao37, co37, eo37⟩ := Kd.R_slice HO_5.out
             subst eo37
             go_wp2
             go_loopg [8] k3 (fun kq v8 w' => ∃ (x8_4 : Int), v8 = .int .i64 x8_4 ∧ Aside0 (spec_WheelRight.l3 kq x8_4 a0_0 l0_1 l0_2 = some r) ∧ Aside0 (kq ≤ k3) ∧ Aside0 (w'.heap[gb158]? = some (.cells #[.int .i64 a0_0, (.slice A0_1 l0_1.length c0_1), (.slice A0_2 l0_2.length c0_2)] 45 (0, 0))) ∧ Aside0 (Below w.heap.size w w'))
             case atStart => exact ⟨(0), (by first | rfl | (simp; done) | (simp [*]; done)), H', ⟨Nat.le_refl _⟩, ⟨up_ BK158.out⟩, ⟨bl_⟩⟩
             case round =>
              as_aux_lemma =>
               clear H'
               try clear c1
               try clear p1
               try clear q1
               try clear hx1
               try clear c2
               try clear p2
               try clear c3
               try clear c6
               try clear p6
               try clear p16
               try clear q16
               try clear hx16
               try clear c18
               try clear c18b0
               try clear c21
               try clear c23
               try clear c24
               try clear c24b0
               try clear c28
               try clear c29
               try clear c29b0
               try clear c30
               try clear c30b0
               try clear c31
               try clear c31b0
               try clear c32
               try clear c32b0
               try clear c33
               try clear c33b0
               try clear c34
               try clear c34b0
               try clear c34b1
               try clear hx164_0
               try clear hx164_1
               try clear hx166_0
               try clear hx166_1
               try clear hx167_0
               try clear hx167_1
               try clear hx168_0
               try clear hx168_1
               try clear hx169_0
               try clear hx169_1
               try clear p1
               try clear p16
               try clear p164
               try clear p166
               try clear p167
               try clear p168
               try clear p169
               try clear p2
               try clear q1
               try clear q16
               try clear q164
               try clear q166
               try clear q167
               try clear q168
               try clear q169
               obtain ⟨x8_4, rfl, HA, HK4, BK158, HB⟩ := hrel
               cases gk with
               | zero => exact absurd HA.out (by simp [spec_WheelRight.l3])
               | succ k4 =>
                have H := HA.out
                clear HA
                simp only [spec_WheelRight.l3] at H
                by_cases c38 : x8_4 < (l0_1.length : Int)
                ·
                 rw [if_pos c38] at H
                 have c38b0 : decide (x8_4 < (l0_1.length : Int)) = true := decide_eq_true c38
                 clear c38
                 have H' := Aside0.mk H
                 clear H
                 have hcz39_0 : wr.cell? ⟨gb158, 0, none⟩ = some (.int .i64 a0_0) := (blk_cell BK158.out 0).trans rfl
                 have hcz39_1 : wr.cell? ⟨gb158, 1, none⟩ = some (.slice A0_1 l0_1.length c0_1) := (blk_cell BK158.out 1).trans rfl
                 have hcz39_2 : wr.cell? ⟨gb158, 2, none⟩ = some (.slice A0_2 l0_2.length c0_2) := (blk_cell BK158.out 2).trans rfl
                 have hfz39_0 := blk_frozen BK158.out 0
                 have hfz39_1 := blk_frozen BK158.out 1
                 have hfz39_2 := blk_frozen BK158.out 2
                 go_wp2
                 go_loopg [9] k4 (fun kq v9 w' => ∃ (x9_5 : Int), v9 = .int .i64 x9_5 ∧ Aside0 (spec_WheelRight.l4 kq x8_4 x9_5 a0_0 l0_1 l0_2 = some r) ∧ Aside0 (kq ≤ k4) ∧ Aside0 (w'.heap[gb158]? = some (.cells #[.int .i64 a0_0, (.slice A0_1 l0_1.length c0_1), (.slice A0_2 l0_2.length c0_2)] 45 (0, 0))) ∧ Aside0 (Below w.heap.size w w'))
                 case atStart => exact ⟨(0), (by first | rfl | (simp; done) | (simp [*]; done)), H', ⟨Nat.le_refl _⟩, ⟨up_ BK158.out⟩, ⟨bl_⟩⟩
                 case round =>
                  as_aux_lemma =>
                   clear H'
                   try clear c1
                   try clear p1
                   try clear q1
                   try clear hx1
                   try clear c2
                   try clear p2
                   try clear c3
                   try clear c6
                   try clear p6
                   try clear p16
                   try clear q16
                   try clear hx16
                   try clear c18
                   try clear c18b0
                   try clear c21
                   try clear c23
                   try clear c24
                   try clear c24b0
                   try clear c28
                   try clear c29
                   try clear c29b0
                   try clear c30
                   try clear c30b0
                   try clear c31
                   try clear c31b0
                   try clear c32
                   try clear c32b0
                   try clear c33
                   try clear c33b0
                   try clear c34
                   try clear c34b0
                   try clear c34b1
                   try clear c38
                   try clear c38b0
                   try clear hcz39_0
                   try clear hcz39_1
                   try clear hcz39_2
                   try clear hfz39_0
                   try clear hfz39_1
                   try clear hfz39_2
                   try clear hx164_0
                   try clear hx164_1
                   try clear hx166_0
                   try clear hx166_1
                   try clear hx167_0
                   try clear hx167_1
                   try clear hx168_0
                   try clear hx168_1
                   try clear hx169_0
                   try clear hx169_1
                   try clear p1
                   try clear p16
                   try clear p164
                   try clear p166
                   try clear p167
                   try clear p168
                   try clear p169
                   try clear p2
                   try clear p6
                   try clear q1
                   try clear q16
                   try clear q164
                   try clear q166
                   try clear q167
                   try clear q168
                   try clear q169
                   obtain ⟨x9_5, rfl, HA, HK5, BK158, HB⟩ := hrel
                   cases gk with
                   | zero => exact absurd HA.out (by simp [spec_WheelRight.l4])
                   | succ k5 =>
                    have H := HA.out
                    clear HA
                    simp only [spec_WheelRight.l4] at H
                    by_cases c40 : 0 ≤ x8_4
                    ·
                     rw [if_pos c40] at H
                     have c40b0 : decide (0 ≤ x8_4) = true := decide_eq_true c40
                     clear c40
                     by_cases c41 : x8_4 < (l0_1.length : Int)
                     ·
                      rw [if_pos c41] at H
                      have c41b0 : decide (x8_4 < (l0_1.length : Int)) = true := decide_eq_true c41
                      clear c41
                      by_cases c42 : x9_5 < ((rd_L4 l0_1 x8_4).length : Int)
                      ·
                       rw [if_pos c42] at H
                       have c42b0 : decide (x9_5 < ((rd_L4 l0_1 x8_4).length : Int)) = true := decide_eq_true c42
                       clear c42
                       by_cases c43 : 0 ≤ x9_5
                       ·
                        rw [if_pos c43] at H
                        have c43b0 : decide (0 ≤ x9_5) = true := decide_eq_true c43
                        clear c43
                        by_cases c44 : ((rd_T91 (rd_L4 l0_1 x8_4) x9_5).f1) > (wrap64 (a0_0 + 16))
                        ·
                         rw [if_pos c44] at H
                         have c44b0 : decide ((wrap64 (a0_0 + 16)) < ((rd_T91 (rd_L4 l0_1 x8_4) x9_5).f1)) = true := decide_eq_true c44
                         clear c44
                         obtain rfl := Option.some.inj H
                         have hcz45_0 : wr.cell? ⟨gb158, 0, none⟩ = some (.int .i64 a0_0) := (blk_cell BK158.out 0).trans rfl
                         have hcz45_1 : wr.cell? ⟨gb158, 1, none⟩ = some (.slice A0_1 l0_1.length c0_1) := (blk_cell BK158.out 1).trans rfl
                         have hcz45_2 : wr.cell? ⟨gb158, 2, none⟩ = some (.slice A0_2 l0_2.length c0_2) := (blk_cell BK158.out 2).trans rfl
                         have hfz45_0 := blk_frozen BK158.out 0
                         have hfz45_1 := blk_frozen BK158.out 1
                         have hfz45_2 := blk_frozen BK158.out 2
                         have p170 : 0 ≤ (x8_4 : Int) := ds_
                         have q170 : x8_4 < (l0_1.length : Int) := ds_
                         obtain ⟨ad170, A170_0, c170_0, e170, hx170_0, hl170_0, hi170_0⟩ := at_L4 HR0_1.out x8_4 p170 q170
                         cases e170
                         replace hx170_0 := (HB.out.cell (World.block_lt_of_cell? w _ hx170_0)).trans hx170_0
                         have HR170_0 := Aside0.mk hi170_0
                         have HC170_0 := Aside0.mk hl170_0
                         clear hi170_0 hl170_0
                         replace p170 := eq_true p170
                         replace q170 := eq_true q170
                         have p171 : 0 ≤ (x8_4 : Int) := ds_
                         have q171 : x8_4 < (l0_1.length : Int) := ds_
                         obtain ⟨ad171, A171_0, c171_0, e171, hx171_0, hl171_0, hi171_0⟩ := at_L4 HR0_1.out x8_4 p171 q171
                         obtain rfl : ad170 = ad171 := (by injection e171)
                         replace hx171_0 := (HB.out.cell (World.block_lt_of_cell? w _ hx171_0)).trans hx171_0
                         have HR171_0 := Aside0.mk hi171_0
                         have HC171_0 := Aside0.mk hl171_0
                         clear hi171_0 hl171_0
                         replace p171 := eq_true p171
                         replace q171 := eq_true q171
                         have ea_ := Option.some.inj (hx170_0.symm.trans hx171_0)
                         injection ea_ with ea_ en_ ec_
                         subst ea_
                         subst ec_
                         clear en_
                         have p172 : 0 ≤ (x9_5 : Int) := ds_
                         have q172 : x9_5 < ((rd_L4 l0_1 x8_4).length : Int) := ds_
                         obtain ⟨ad172, e172, hx172_0, hx172_1⟩ := at_T91 HR171_0.out x9_5 p172 q172
                         cases e172
                         replace hx172_0 := (HB.out.cell (World.block_lt_of_cell? w _ hx172_0)).trans hx172_0
                         replace hx172_1 := (HB.out.cell (World.block_lt_of_cell? w _ hx172_1)).trans hx172_1
                         replace p172 := eq_true p172
                         replace q172 := eq_true q172
                         try go_wp2_with (first | ((with_reducible refine gate_dst (N := 10) rfl ?_); (try (refine gate_guard (by rfl) ?_; dsimp only)); refine box_event ?hg (N := 10) ?hd (cs := #[.int .i64 0, .int .i64 0]) (t := 91) ?hr ?_; (case hd => rfl); (case hg => rfl); (case hr => first | (go_simp; done) | (go_simp; rfl)); intro gb173 hg w46 hbox hb; have n0_ := Aside0.mk (blk_below (up_ BK158.out) hb); have n1_ := Aside0.mk (below_step bl_ hb); have n2_ := Aside0.mk (hbox); have n3_ := Aside0.mk ((by rw [hg]; exact (below_size bl_) : w.heap.size ≤ gb173)); have n4_ := Aside0.mk ((by rw [hg]; exact (below_size bl_) : w.heap.size ≤ gb173)); have n5_ := Aside0.mk ((by rw [hg]; exact Nat.ne_of_lt (blk_lt (up_ BK158.out)) : gb158 ≠ gb173)); have n6_ := Aside0.mk ((by rw [hg]; exact Nat.ne_of_gt (blk_lt (up_ BK158.out)) : gb173 ≠ gb158)); clear BK158; clear HB; have BK158 := n0_; have HB := n1_; have BK173 := n2_; have GW173 := n3_; have GE173 := n4_; have NB158_173 := n5_; have NB173_158 := n6_; clear n0_ n1_ n2_ n3_ n4_ n5_ n6_; clear hb hbox hg; have hnb47 := NB173_158.out; have hnc47 := NB158_173.out; have hcz48_0 : w46.cell? ⟨gb173, 0, none⟩ = some (.int .i64 0) := (blk_cell BK173.out 0).trans rfl; have hcz48_1 : w46.cell? ⟨gb173, 1, none⟩ = some (.int .i64 0) := (blk_cell BK173.out 1).trans rfl; have hfz48_0 := blk_frozen BK173.out 0; have hfz48_1 := blk_frozen BK173.out 1))
                         have n0_ : Aside0 (((w46.setCell ⟨gb173, 0, none⟩ (.int .i64 ((rd_T91 (rd_L4 l0_1 x8_4) x9_5).f0))).setCell ⟨gb173, 1, none⟩ (.int .i64 ((rd_T91 (rd_L4 l0_1 x8_4) x9_5).f1))).heap[gb158]? = some (.cells #[.int .i64 a0_0, .slice (some ad170) l0_1.length c0_1, .slice A0_2 l0_2.length c0_2] 45 (0, 0))) := ⟨by (with_reducible repeat (first | refine blk_drewN ?_ _ | refine blk_drew ?_ | refine blk_alloc ?_ _)); refine blk_far ?_ NB158_173.out _; (with_reducible repeat (first | refine blk_drewN ?_ _ | refine blk_drew ?_ | refine blk_alloc ?_ _)); refine blk_far ?_ NB158_173.out _; (with_reducible repeat (first | refine blk_drewN ?_ _ | refine blk_drew ?_ | refine blk_alloc ?_ _)); exact BK158.out⟩
                         have n1_ : Aside0 (((w46.setCell ⟨gb173, 0, none⟩ (.int .i64 ((rd_T91 (rd_L4 l0_1 x8_4) x9_5).f0))).setCell ⟨gb173, 1, none⟩ (.int .i64 ((rd_T91 (rd_L4 l0_1 x8_4) x9_5).f1))).heap[gb173]? = some (.cells #[.int .i64 ((rd_T91 (rd_L4 l0_1 x8_4) x9_5).f0), .int .i64 ((rd_T91 (rd_L4 l0_1 x8_4) x9_5).f1)] 91 (0, 0))) := ⟨by (with_reducible repeat (first | refine blk_drewN ?_ _ | refine blk_drew ?_ | refine blk_alloc ?_ _)); refine blk_put (cs := #[.int .i64 ((rd_T91 (rd_L4 l0_1 x8_4) x9_5).f0), .int .i64 0]) ?_ 1 _ rfl; (with_reducible repeat (first | refine blk_drewN ?_ _ | refine blk_drew ?_ | refine blk_alloc ?_ _)); refine blk_put (cs := #[.int .i64 0, .int .i64 0]) ?_ 0 _ rfl; (with_reducible repeat (first | refine blk_drewN ?_ _ | refine blk_drew ?_ | refine blk_alloc ?_ _)); exact BK173.out⟩
                         have n2_ : Aside0 (Below w.heap.size w ((w46.setCell ⟨gb173, 0, none⟩ (.int .i64 ((rd_T91 (rd_L4 l0_1 x8_4) x9_5).f0))).setCell ⟨gb173, 1, none⟩ (.int .i64 ((rd_T91 (rd_L4 l0_1 x8_4) x9_5).f1)))) := ⟨bl_⟩
                         (try clear BK158)
                         (try clear BK173)
                         (try clear HB)
                         generalize ((w46.setCell ⟨gb173, 0, none⟩ (.int .i64 ((rd_T91 (rd_L4 l0_1 x8_4) x9_5).f0))).setCell ⟨gb173, 1, none⟩ (.int .i64 ((rd_T91 (rd_L4 l0_1 x8_4) x9_5).f1))) = w49 at n0_ n1_ n2_ ⊢
                         have BK158 := n0_
                         have BK173 := n1_
                         have HB := n2_
                         clear n0_ n1_ n2_
                         replace BK158 := Aside0.mk (blk_drew BK158.out)
                         replace BK173 := Aside0.mk (blk_drew BK173.out)
                         replace HB := Aside0.mk (below_drew1 HB.out)
                         refine start_ (n := 32) (S := fun w' => w'.cell? ⟨gb173, 0, none⟩ = some (.int .i64 ((rd_T91 (rd_L4 l0_1 x8_4) x9_5).f0)) ∧ w'.cell? ⟨gb173, 1, none⟩ = some (.int .i64 ((rd_T91 (rd_L4 l0_1 x8_4) x9_5).f1)) ∧ w'.cell? ⟨gb158, 0, none⟩ = some (.int .i64 a0_0) ∧ w'.cell? ⟨gb158, 1, none⟩ = some (.slice (some ad170) l0_1.length c0_1) ∧ w'.cell? ⟨gb158, 2, none⟩ = some (.slice A0_2 l0_2.length c0_2)) (ds := []) #[false, false, false, false, false, false, false, false, false, false, false, false, false, false, false, false, false, false, false, false, false, false, false, false, false, false, false, false, false, false, false, false] (by kernel_rfl) rfl rfl ⟨(blk_cell BK173.out 0).trans rfl, (blk_cell BK173.out 1).trans rfl, (blk_cell BK158.out 0).trans rfl, (blk_cell BK158.out 1).trans rfl, (blk_cell BK158.out 2).trans rfl⟩ (fun hHeld => ?_); refine with_tabW spec_WheelRight.tab28 spec_WheelRight.bits28 (fun HT_ HW_ => ?_)
                         generalize w49.drew = w50 at BK158 BK173 HB hHeld ⊢
                         refine pu_ 0 116 HT_ ?_
                         refine pu_ 2 118 HT_ ?_
                         refine tk_ 1 117 HT_ HW_ hHeld ?_ rfl rfl (by rintro w' ⟨s0, s1, s2, s3, s4⟩; go_simp; with_reducible rfl)
                         refine tk_ 3 119 HT_ HW_ hHeld ?_ rfl rfl (by rintro w' ⟨s0, s1, s2, s3, s4⟩; go_simp; with_reducible rfl)
                         refine pu_ 4 120 HT_ ?_
                         refine pu_ 5 121 HT_ ?_
                         refine pu_ 6 122 HT_ ?_
                         refine pn_ 7 123 HT_ ?_
                         refine pn_ 8 124 HT_ ?_
                         refine pn_ 9 125 HT_ ?_
                         refine pn_ 10 126 HT_ ?_
                         refine pn_ 11 127 HT_ ?_
                         refine pu_ 12 128 HT_ ?_
                         refine pu_ 13 129 HT_ ?_
                         refine pn_ 14 130 HT_ ?_
                         refine pn_ 15 131 HT_ ?_
                         refine pn_ 16 132 HT_ ?_
                         refine pn_ 17 133 HT_ ?_
                         refine pn_ 18 134 HT_ ?_
                         refine pn_ 19 135 HT_ ?_
                         refine pn_ 20 136 HT_ ?_
                         refine pn_ 21 137 HT_ ?_
                         refine pn_ 22 138 HT_ ?_
                         refine pn_ 23 139 HT_ ?_
                         refine pn_ 24 140 HT_ ?_
                         refine pn_ 25 141 HT_ ?_
                         refine pn_ 26 142 HT_ ?_
                         refine pn_ 27 143 HT_ ?_
                         refine pn_ 28 144 HT_ ?_
                         refine pn_ 29 145 HT_ ?_
                         refine pn_ 30 146 HT_ ?_
                         refine pu_ 31 147 HT_ ?_
                         refine done_ (done_of HT_.out (by kernel_rfl)) ?_
                         try go_wp2
                         go_ret
                         exact ⟨by first | rfl | (simp [errW_none, errW_some] <;> rfl) | (simp [*, errW_none, errW_some] <;> rfl), bl_⟩
                        ·
                         rw [if_neg c44] at H
                         have c44b0 : decide ((wrap64 (a0_0 + 16)) < ((rd_T91 (rd_L4 l0_1 x8_4) x9_5).f1)) = false := decide_eq_false c44
                         clear c44
                         by_cases c51 : (Int.tmod ((rd_T91 (rd_L4 l0_1 x8_4) x9_5).f1) 16) = x8_4
                         ·
                          rw [if_pos c51] at H
                          have c51b0 : ((Int.tmod ((rd_T91 (rd_L4 l0_1 x8_4) x9_5).f1) 16) == x8_4) = true := beq_iff_eq.mpr c51
                          have c51b1 : ((Int.tmod ((rd_T91 (rd_L4 l0_1 x8_4) x9_5).f1) 16) != x8_4) = false := bne_eq_false_iff_eq.mpr c51
                          clear c51
                          by_cases c52 : x9_5 > 0
                          ·
                           rw [if_pos c52] at H
                           have c52b0 : decide (0 < x9_5) = true := decide_eq_true c52
                           clear c52
                           obtain ⟨ji53, hji53⟩ : ∃ j_ : Int, (wrap64 (x9_5 - 1)) = j_ := ⟨_, rfl⟩
                           replace H : (if 0 ≤ (ji53) then (if (ji53) < ((rd_L4 l0_1 x8_4).length : Int) then (if ((rd_T91 (rd_L4 l0_1 x8_4) x9_5).f0) ≤ ((rd_T91 (rd_L4 l0_1 x8_4) (ji53)).f0) then (some false) else (spec_WheelRight.l4 k5 x8_4 (wrap64 (x9_5 + 1)) a0_0 l0_1 l0_2)) else (none)) else (none)) = some r := by first | (rw [hji53] at H; exact H) | (simp only [hji53] at H ⊢; exact H)
                           have hji53w : (IntKind.i64.wrap (x9_5 - 1)) = ji53 := (i64_w _).trans hji53
                           by_cases c54 : 0 ≤ (ji53)
                           ·
                            rw [if_pos c54] at H
                            have c54b0 : decide (0 ≤ (ji53)) = true := decide_eq_true c54
                            clear c54
                            by_cases c55 : (ji53) < ((rd_L4 l0_1 x8_4).length : Int)
                            ·
                             rw [if_pos c55] at H
                             have c55b0 : decide ((ji53) < ((rd_L4 l0_1 x8_4).length : Int)) = true := decide_eq_true c55
                             clear c55
                             by_cases c56 : ((rd_T91 (rd_L4 l0_1 x8_4) x9_5).f0) ≤ ((rd_T91 (rd_L4 l0_1 x8_4) (ji53)).f0)
                             ·
                              rw [if_pos c56] at H
                              have c56b0 : decide (((rd_T91 (rd_L4 l0_1 x8_4) x9_5).f0) ≤ ((rd_T91 (rd_L4 l0_1 x8_4) (ji53)).f0)) = true := decide_eq_true c56
                              clear c56
                              obtain rfl := Option.some.inj H
                              have hcz57_0 : wr.cell? ⟨gb158, 0, none⟩ = some (.int .i64 a0_0) := (blk_cell BK158.out 0).trans rfl
                              have hcz57_1 : wr.cell? ⟨gb158, 1, none⟩ = some (.slice A0_1 l0_1.length c0_1) := (blk_cell BK158.out 1).trans rfl
                              have hcz57_2 : wr.cell? ⟨gb158, 2, none⟩ = some (.slice A0_2 l0_2.length c0_2) := (blk_cell BK158.out 2).trans rfl
                              have hfz57_0 := blk_frozen BK158.out 0
                              have hfz57_1 := blk_frozen BK158.out 1
                              have hfz57_2 := blk_frozen BK158.out 2
                              have p170 : 0 ≤ (x8_4 : Int) := ds_
                              have q170 : x8_4 < (l0_1.length : Int) := ds_
                              obtain ⟨ad170, A170_0, c170_0, e170, hx170_0, hl170_0, hi170_0⟩ := at_L4 HR0_1.out x8_4 p170 q170
                              cases e170
                              replace hx170_0 := (HB.out.cell (World.block_lt_of_cell? w _ hx170_0)).trans hx170_0
                              have HR170_0 := Aside0.mk hi170_0
                              have HC170_0 := Aside0.mk hl170_0
                              clear hi170_0 hl170_0
                              replace p170 := eq_true p170
                              replace q170 := eq_true q170
                              have p171 : 0 ≤ (x8_4 : Int) := ds_
                              have q171 : x8_4 < (l0_1.length : Int) := ds_
                              obtain ⟨ad171, A171_0, c171_0, e171, hx171_0, hl171_0, hi171_0⟩ := at_L4 HR0_1.out x8_4 p171 q171
                              obtain rfl : ad170 = ad171 := (by injection e171)
                              replace hx171_0 := (HB.out.cell (World.block_lt_of_cell? w _ hx171_0)).trans hx171_0
                              have HR171_0 := Aside0.mk hi171_0
                              have HC171_0 := Aside0.mk hl171_0
                              clear hi171_0 hl171_0
                              replace p171 := eq_true p171
                              replace q171 := eq_true q171
                              have ea_ := Option.some.inj (hx170_0.symm.trans hx171_0)
                              injection ea_ with ea_ en_ ec_
                              subst ea_
                              subst ec_
                              clear en_
                              have p172 : 0 ≤ (x9_5 : Int) := ds_
                              have q172 : x9_5 < ((rd_L4 l0_1 x8_4).length : Int) := ds_
                              obtain ⟨ad172, e172, hx172_0, hx172_1⟩ := at_T91 HR171_0.out x9_5 p172 q172
                              cases e172
                              replace hx172_0 := (HB.out.cell (World.block_lt_of_cell? w _ hx172_0)).trans hx172_0
                              replace hx172_1 := (HB.out.cell (World.block_lt_of_cell? w _ hx172_1)).trans hx172_1
                              replace p172 := eq_true p172
                              replace q172 := eq_true q172
                              try go_wp2_with (first | ((with_reducible refine gate_dst (N := 10) rfl ?_); (try (refine gate_guard (by rfl) ?_; dsimp only)); refine box_event ?hg (N := 10) ?hd (cs := #[.int .i64 0, .int .i64 0]) (t := 91) ?hr ?_; (case hd => rfl); (case hg => rfl); (case hr => first | (go_simp; done) | (go_simp; rfl)); intro gb173 hg w58 hbox hb; have n0_ := Aside0.mk (blk_below (up_ BK158.out) hb); have n1_ := Aside0.mk (below_step bl_ hb); have n2_ := Aside0.mk (hbox); have n3_ := Aside0.mk ((by rw [hg]; exact (below_size bl_) : w.heap.size ≤ gb173)); have n4_ := Aside0.mk ((by rw [hg]; exact (below_size bl_) : w.heap.size ≤ gb173)); have n5_ := Aside0.mk ((by rw [hg]; exact Nat.ne_of_lt (blk_lt (up_ BK158.out)) : gb158 ≠ gb173)); have n6_ := Aside0.mk ((by rw [hg]; exact Nat.ne_of_gt (blk_lt (up_ BK158.out)) : gb173 ≠ gb158)); clear BK158; clear HB; have BK158 := n0_; have HB := n1_; have BK173 := n2_; have GW173 := n3_; have GE173 := n4_; have NB158_173 := n5_; have NB173_158 := n6_; clear n0_ n1_ n2_ n3_ n4_ n5_ n6_; clear hb hbox hg; have hnb59 := NB173_158.out; have hnc59 := NB158_173.out; have hcz60_0 : w58.cell? ⟨gb173, 0, none⟩ = some (.int .i64 0) := (blk_cell BK173.out 0).trans rfl; have hcz60_1 : w58.cell? ⟨gb173, 1, none⟩ = some (.int .i64 0) := (blk_cell BK173.out 1).trans rfl; have hfz60_0 := blk_frozen BK173.out 0; have hfz60_1 := blk_frozen BK173.out 1))
                              have n0_ : Aside0 (((w58.setCell ⟨gb173, 0, none⟩ (.int .i64 ((rd_T91 (rd_L4 l0_1 x8_4) x9_5).f0))).setCell ⟨gb173, 1, none⟩ (.int .i64 ((rd_T91 (rd_L4 l0_1 x8_4) x9_5).f1))).heap[gb158]? = some (.cells #[.int .i64 a0_0, .slice (some ad170) l0_1.length c0_1, .slice A0_2 l0_2.length c0_2] 45 (0, 0))) := ⟨by (with_reducible repeat (first | refine blk_drewN ?_ _ | refine blk_drew ?_ | refine blk_alloc ?_ _)); refine blk_far ?_ NB158_173.out _; (with_reducible repeat (first | refine blk_drewN ?_ _ | refine blk_drew ?_ | refine blk_alloc ?_ _)); refine blk_far ?_ NB158_173.out _; (with_reducible repeat (first | refine blk_drewN ?_ _ | refine blk_drew ?_ | refine blk_alloc ?_ _)); exact BK158.out⟩
                              have n1_ : Aside0 (((w58.setCell ⟨gb173, 0, none⟩ (.int .i64 ((rd_T91 (rd_L4 l0_1 x8_4) x9_5).f0))).setCell ⟨gb173, 1, none⟩ (.int .i64 ((rd_T91 (rd_L4 l0_1 x8_4) x9_5).f1))).heap[gb173]? = some (.cells #[.int .i64 ((rd_T91 (rd_L4 l0_1 x8_4) x9_5).f0), .int .i64 ((rd_T91 (rd_L4 l0_1 x8_4) x9_5).f1)] 91 (0, 0))) := ⟨by (with_reducible repeat (first | refine blk_drewN ?_ _ | refine blk_drew ?_ | refine blk_alloc ?_ _)); refine blk_put (cs := #[.int .i64 ((rd_T91 (rd_L4 l0_1 x8_4) x9_5).f0), .int .i64 0]) ?_ 1 _ rfl; (with_reducible repeat (first | refine blk_drewN ?_ _ | refine blk_drew ?_ | refine blk_alloc ?_ _)); refine blk_put (cs := #[.int .i64 0, .int .i64 0]) ?_ 0 _ rfl; (with_reducible repeat (first | refine blk_drewN ?_ _ | refine blk_drew ?_ | refine blk_alloc ?_ _)); exact BK173.out⟩
                              have n2_ : Aside0 (Below w.heap.size w ((w58.setCell ⟨gb173, 0, none⟩ (.int .i64 ((rd_T91 (rd_L4 l0_1 x8_4) x9_5).f0))).setCell ⟨gb173, 1, none⟩ (.int .i64 ((rd_T91 (rd_L4 l0_1 x8_4) x9_5).f1)))) := ⟨bl_⟩
                              (try clear BK158)
                              (try clear BK173)
                              (try clear HB)
                              generalize ((w58.setCell ⟨gb173, 0, none⟩ (.int .i64 ((rd_T91 (rd_L4 l0_1 x8_4) x9_5).f0))).setCell ⟨gb173, 1, none⟩ (.int .i64 ((rd_T91 (rd_L4 l0_1 x8_4) x9_5).f1))) = w61 at n0_ n1_ n2_ ⊢
                              have BK158 := n0_
                              have BK173 := n1_
                              have HB := n2_
                              clear n0_ n1_ n2_
                              replace BK158 := Aside0.mk (blk_drew BK158.out)
                              replace BK173 := Aside0.mk (blk_drew BK173.out)
                              replace HB := Aside0.mk (below_drew1 HB.out)
                              have p174 : 0 ≤ (x8_4 : Int) := ds_
                              have q174 : x8_4 < (l0_1.length : Int) := ds_
                              obtain ⟨ad174, A174_0, c174_0, e174, hx174_0, hl174_0, hi174_0⟩ := at_L4 HR0_1.out x8_4 p174 q174
                              have hw174_0 := hx174_0
                              obtain rfl : ad170 = ad174 := (by injection e174)
                              replace hx174_0 := (HB.out.cell (World.block_lt_of_cell? w _ hx174_0)).trans hx174_0
                              have HR174_0 := Aside0.mk hi174_0
                              have HC174_0 := Aside0.mk hl174_0
                              clear hi174_0 hl174_0
                              replace p174 := eq_true p174
                              replace q174 := eq_true q174
                              have p175 : 0 ≤ ((ji53) : Int) := ds_
                              have q175 : (ji53) < ((rd_L4 l0_1 x8_4).length : Int) := ds_
                              obtain ⟨ad175, e175, hx175_0, hx175_1⟩ := at_T91 HR174_0.out (ji53) p175 q175
                              have hw175_1 := hx175_1
                              have hw175_0 := hx175_0
                              cases e175
                              replace hx175_0 := (HB.out.cell (World.block_lt_of_cell? w _ hx175_0)).trans hx175_0
                              replace hx175_1 := (HB.out.cell (World.block_lt_of_cell? w _ hx175_1)).trans hx175_1
                              replace p175 := eq_true p175
                              replace q175 := eq_true q175
                              refine start_ (n := 32) (S := fun w' => w'.cell? ⟨gb173, 0, none⟩ = some (.int .i64 ((rd_T91 (rd_L4 l0_1 x8_4) x9_5).f0)) ∧ w'.cell? ⟨gb173, 1, none⟩ = some (.int .i64 ((rd_T91 (rd_L4 l0_1 x8_4) x9_5).f1)) ∧ w'.cell? ⟨gb158, 0, none⟩ = some (.int .i64 a0_0) ∧ w'.cell? ⟨gb158, 1, none⟩ = some (.slice (some ad170) l0_1.length c0_1) ∧ w'.cell? ⟨gb158, 2, none⟩ = some (.slice A0_2 l0_2.length c0_2) ∧ w'.cell? (ad170.add (x8_4).toNat) = some (.slice (some ad175) (rd_L4 l0_1 x8_4).length c174_0) ∧ w'.cell? (ad175.add (((ji53)).toNat * 2)) = some (.int .i64 ((rd_T91 (rd_L4 l0_1 x8_4) (ji53)).f0)) ∧ w'.cell? ⟨(ad175.add (((ji53)).toNat * 2)).block, (ad175.add (((ji53)).toNat * 2)).off + 1, none⟩ = some (.int .i64 ((rd_T91 (rd_L4 l0_1 x8_4) (ji53)).f1))) (ds := []) #[false, false, false, false, false, false, false, false, false, false, false, false, false, false, false, false, false, false, false, false, false, false, false, false, false, false, false, false, false, false, false, false] (by kernel_rfl) rfl rfl ⟨(blk_cell BK173.out 0).trans rfl, (blk_cell BK173.out 1).trans rfl, (blk_cell BK158.out 0).trans rfl, (blk_cell BK158.out 1).trans rfl, (blk_cell BK158.out 2).trans rfl, ((HB.out.cell (World.block_lt_of_cell? w _ hw174_0)).trans hw174_0), ((HB.out.cell (World.block_lt_of_cell? w _ hw175_0)).trans hw175_0), ((HB.out.cell (World.block_lt_of_cell? w _ hw175_1)).trans hw175_1)⟩ (fun hHeld => ?_); refine with_tabW spec_WheelRight.tab28 spec_WheelRight.bits28 (fun HT_ HW_ => ?_)
                              generalize w61.drew = w62 at BK158 BK173 HB HR174_0 hx174_0 hx175_0 hx175_1 hHeld ⊢
                              refine pu_ 0 116 HT_ ?_
                              refine pu_ 2 118 HT_ ?_
                              refine tk_ 1 117 HT_ HW_ hHeld ?_ rfl rfl (by rintro w' ⟨s0, s1, s2, s3, s4, s5, s6, s7⟩; go_simp; with_reducible rfl)
                              refine tk_ 3 119 HT_ HW_ hHeld ?_ rfl rfl (by rintro w' ⟨s0, s1, s2, s3, s4, s5, s6, s7⟩; go_simp; with_reducible rfl)
                              refine pu_ 4 120 HT_ ?_
                              refine pu_ 5 121 HT_ ?_
                              refine pu_ 6 122 HT_ ?_
                              refine pu_ 7 123 HT_ ?_
                              refine pu_ 10 126 HT_ ?_
                              refine tk_ 8 124 HT_ HW_ hHeld ?_ rfl rfl (by rintro w' ⟨s0, s1, s2, s3, s4, s5, s6, s7⟩; go_simp; with_reducible rfl)
                              refine pu_ 9 125 HT_ ?_
                              refine pu_ 11 127 HT_ ?_
                              refine pu_ 12 128 HT_ ?_
                              refine pu_ 13 129 HT_ ?_
                              refine pu_ 14 130 HT_ ?_
                              refine pu_ 15 131 HT_ ?_
                              refine pu_ 16 132 HT_ ?_
                              refine pu_ 17 133 HT_ ?_
                              refine pu_ 19 135 HT_ ?_
                              refine pu_ 21 137 HT_ ?_
                              refine pu_ 24 140 HT_ ?_
                              refine pu_ 25 141 HT_ ?_
                              refine tk_ 18 134 HT_ HW_ hHeld ?_ rfl rfl (by rintro w' ⟨s0, s1, s2, s3, s4, s5, s6, s7⟩; go_simp; with_reducible rfl)
                              refine tk_ 20 136 HT_ HW_ hHeld ?_ rfl rfl (by rintro w' ⟨s0, s1, s2, s3, s4, s5, s6, s7⟩; go_simp; with_reducible rfl)
                              refine pu_ 22 138 HT_ ?_
                              refine tk_ 23 139 HT_ HW_ hHeld ?_ rfl rfl (by rintro w' ⟨s0, s1, s2, s3, s4, s5, s6, s7⟩; go_simp; with_reducible rfl)
                              refine pu_ 26 142 HT_ ?_
                              refine pu_ 27 143 HT_ ?_
                              refine tk_ 28 144 HT_ HW_ hHeld ?_ rfl rfl (by rintro w' ⟨s0, s1, s2, s3, s4, s5, s6, s7⟩; go_simp; with_reducible rfl)
                              refine pu_ 29 145 HT_ ?_
                              refine pu_ 30 146 HT_ ?_
                              refine pu_ 31 147 HT_ ?_
                              refine done_ (done_of HT_.out (by kernel_rfl)) ?_
                              try go_wp2
                              go_ret
                              exact ⟨by first | rfl | (simp [errW_none, errW_some] <;> rfl) | (simp only [← hji53]; first | rfl | (simp [errW_none, errW_some] <;> rfl)) | (simp [*, errW_none, errW_some] <;> rfl), bl_⟩
                             ·
                              rw [if_neg c56] at H
                              have c56b0 : decide (((rd_T91 (rd_L4 l0_1 x8_4) x9_5).f0) ≤ ((rd_T91 (rd_L4 l0_1 x8_4) (ji53)).f0)) = false := decide_eq_false c56
                              clear c56
                              have H' := Aside0.mk H
                              clear H
                              have hcz63_0 : wr.cell? ⟨gb158, 0, none⟩ = some (.int .i64 a0_0) := (blk_cell BK158.out 0).trans rfl
                              have hcz63_1 : wr.cell? ⟨gb158, 1, none⟩ = some (.slice A0_1 l0_1.length c0_1) := (blk_cell BK158.out 1).trans rfl
                              have hcz63_2 : wr.cell? ⟨gb158, 2, none⟩ = some (.slice A0_2 l0_2.length c0_2) := (blk_cell BK158.out 2).trans rfl
                              have hfz63_0 := blk_frozen BK158.out 0
                              have hfz63_1 := blk_frozen BK158.out 1
                              have hfz63_2 := blk_frozen BK158.out 2
                              have p170 : 0 ≤ (x8_4 : Int) := ds_
                              have q170 : x8_4 < (l0_1.length : Int) := ds_
                              obtain ⟨ad170, A170_0, c170_0, e170, hx170_0, hl170_0, hi170_0⟩ := at_L4 HR0_1.out x8_4 p170 q170
                              cases e170
                              replace hx170_0 := (HB.out.cell (World.block_lt_of_cell? w _ hx170_0)).trans hx170_0
                              have HR170_0 := Aside0.mk hi170_0
                              have HC170_0 := Aside0.mk hl170_0
                              clear hi170_0 hl170_0
                              replace p170 := eq_true p170
                              replace q170 := eq_true q170
                              have p171 : 0 ≤ (x8_4 : Int) := ds_
                              have q171 : x8_4 < (l0_1.length : Int) := ds_
                              obtain ⟨ad171, A171_0, c171_0, e171, hx171_0, hl171_0, hi171_0⟩ := at_L4 HR0_1.out x8_4 p171 q171
                              obtain rfl : ad170 = ad171 := (by injection e171)
                              replace hx171_0 := (HB.out.cell (World.block_lt_of_cell? w _ hx171_0)).trans hx171_0
                              have HR171_0 := Aside0.mk hi171_0
                              have HC171_0 := Aside0.mk hl171_0
                              clear hi171_0 hl171_0
                              replace p171 := eq_true p171
                              replace q171 := eq_true q171
                              have ea_ := Option.some.inj (hx170_0.symm.trans hx171_0)
                              injection ea_ with ea_ en_ ec_
                              subst ea_
                              subst ec_
                              clear en_
                              have p172 : 0 ≤ (x9_5 : Int) := ds_
                              have q172 : x9_5 < ((rd_L4 l0_1 x8_4).length : Int) := ds_
                              obtain ⟨ad172, e172, hx172_0, hx172_1⟩ := at_T91 HR171_0.out x9_5 p172 q172
                              cases e172
                              replace hx172_0 := (HB.out.cell (World.block_lt_of_cell? w _ hx172_0)).trans hx172_0
                              replace hx172_1 := (HB.out.cell (World.block_lt_of_cell? w _ hx172_1)).trans hx172_1
                              replace p172 := eq_true p172
                              replace q172 := eq_true q172
                              try go_wp2_with (first | ((with_reducible refine gate_dst (N := 10) rfl ?_); (try (refine gate_guard (by rfl) ?_; dsimp only)); refine box_event ?hg (N := 10) ?hd (cs := #[.int .i64 0, .int .i64 0]) (t := 91) ?hr ?_; (case hd => rfl); (case hg => rfl); (case hr => first | (go_simp; done) | (go_simp; rfl)); intro gb173 hg w64 hbox hb; have n0_ := Aside0.mk (blk_below (up_ BK158.out) hb); have n1_ := Aside0.mk (below_step bl_ hb); have n2_ := Aside0.mk (hbox); have n3_ := Aside0.mk ((by rw [hg]; exact (below_size bl_) : w.heap.size ≤ gb173)); have n4_ := Aside0.mk ((by rw [hg]; exact (below_size bl_) : w.heap.size ≤ gb173)); have n5_ := Aside0.mk ((by rw [hg]; exact Nat.ne_of_lt (blk_lt (up_ BK158.out)) : gb158 ≠ gb173)); have n6_ := Aside0.mk ((by rw [hg]; exact Nat.ne_of_gt (blk_lt (up_ BK158.out)) : gb173 ≠ gb158)); clear BK158; clear HB; have BK158 := n0_; have HB := n1_; have BK173 := n2_; have GW173 := n3_; have GE173 := n4_; have NB158_173 := n5_; have NB173_158 := n6_; clear n0_ n1_ n2_ n3_ n4_ n5_ n6_; clear hb hbox hg; have hnb65 := NB173_158.out; have hnc65 := NB158_173.out; have hcz66_0 : w64.cell? ⟨gb173, 0, none⟩ = some (.int .i64 0) := (blk_cell BK173.out 0).trans rfl; have hcz66_1 : w64.cell? ⟨gb173, 1, none⟩ = some (.int .i64 0) := (blk_cell BK173.out 1).trans rfl; have hfz66_0 := blk_frozen BK173.out 0; have hfz66_1 := blk_frozen BK173.out 1))
                              have n0_ : Aside0 (((w64.setCell ⟨gb173, 0, none⟩ (.int .i64 ((rd_T91 (rd_L4 l0_1 x8_4) x9_5).f0))).setCell ⟨gb173, 1, none⟩ (.int .i64 ((rd_T91 (rd_L4 l0_1 x8_4) x9_5).f1))).heap[gb158]? = some (.cells #[.int .i64 a0_0, .slice (some ad170) l0_1.length c0_1, .slice A0_2 l0_2.length c0_2] 45 (0, 0))) := ⟨by (with_reducible repeat (first | refine blk_drewN ?_ _ | refine blk_drew ?_ | refine blk_alloc ?_ _)); refine blk_far ?_ NB158_173.out _; (with_reducible repeat (first | refine blk_drewN ?_ _ | refine blk_drew ?_ | refine blk_alloc ?_ _)); refine blk_far ?_ NB158_173.out _; (with_reducible repeat (first | refine blk_drewN ?_ _ | refine blk_drew ?_ | refine blk_alloc ?_ _)); exact BK158.out⟩
                              have n1_ : Aside0 (((w64.setCell ⟨gb173, 0, none⟩ (.int .i64 ((rd_T91 (rd_L4 l0_1 x8_4) x9_5).f0))).setCell ⟨gb173, 1, none⟩ (.int .i64 ((rd_T91 (rd_L4 l0_1 x8_4) x9_5).f1))).heap[gb173]? = some (.cells #[.int .i64 ((rd_T91 (rd_L4 l0_1 x8_4) x9_5).f0), .int .i64 ((rd_T91 (rd_L4 l0_1 x8_4) x9_5).f1)] 91 (0, 0))) := ⟨by (with_reducible repeat (first | refine blk_drewN ?_ _ | refine blk_drew ?_ | refine blk_alloc ?_ _)); refine blk_put (cs := #[.int .i64 ((rd_T91 (rd_L4 l0_1 x8_4) x9_5).f0), .int .i64 0]) ?_ 1 _ rfl; (with_reducible repeat (first | refine blk_drewN ?_ _ | refine blk_drew ?_ | refine blk_alloc ?_ _)); refine blk_put (cs := #[.int .i64 0, .int .i64 0]) ?_ 0 _ rfl; (with_reducible repeat (first | refine blk_drewN ?_ _ | refine blk_drew ?_ | refine blk_alloc ?_ _)); exact BK173.out⟩
                              have n2_ : Aside0 (Below w.heap.size w ((w64.setCell ⟨gb173, 0, none⟩ (.int .i64 ((rd_T91 (rd_L4 l0_1 x8_4) x9_5).f0))).setCell ⟨gb173, 1, none⟩ (.int .i64 ((rd_T91 (rd_L4 l0_1 x8_4) x9_5).f1)))) := ⟨bl_⟩
                              (try clear BK158)
                              (try clear BK173)
                              (try clear HB)
                              generalize ((w64.setCell ⟨gb173, 0, none⟩ (.int .i64 ((rd_T91 (rd_L4 l0_1 x8_4) x9_5).f0))).setCell ⟨gb173, 1, none⟩ (.int .i64 ((rd_T91 (rd_L4 l0_1 x8_4) x9_5).f1))) = w67 at n0_ n1_ n2_ ⊢
                              have BK158 := n0_
                              have BK173 := n1_
                              have HB := n2_
                              clear n0_ n1_ n2_
                              replace BK158 := Aside0.mk (blk_drew BK158.out)
                              replace BK173 := Aside0.mk (blk_drew BK173.out)
                              replace HB := Aside0.mk (below_drew1 HB.out)
                              have p174 : 0 ≤ (x8_4 : Int) := ds_
                              have q174 : x8_4 < (l0_1.length : Int) := ds_
                              obtain ⟨ad174, A174_0, c174_0, e174, hx174_0, hl174_0, hi174_0⟩ := at_L4 HR0_1.out x8_4 p174 q174
                              have hw174_0 := hx174_0
                              obtain rfl : ad170 = ad174 := (by injection e174)
                              replace hx174_0 := (HB.out.cell (World.block_lt_of_cell? w _ hx174_0)).trans hx174_0
                              have HR174_0 := Aside0.mk hi174_0
                              have HC174_0 := Aside0.mk hl174_0
                              clear hi174_0 hl174_0
                              replace p174 := eq_true p174
                              replace q174 := eq_true q174
                              have p175 : 0 ≤ ((ji53) : Int) := ds_
                              have q175 : (ji53) < ((rd_L4 l0_1 x8_4).length : Int) := ds_
                              obtain ⟨ad175, e175, hx175_0, hx175_1⟩ := at_T91 HR174_0.out (ji53) p175 q175
                              have hw175_1 := hx175_1
                              have hw175_0 := hx175_0
                              cases e175
                              replace hx175_0 := (HB.out.cell (World.block_lt_of_cell? w _ hx175_0)).trans hx175_0
                              replace hx175_1 := (HB.out.cell (World.block_lt_of_cell? w _ hx175_1)).trans hx175_1
                              replace p175 := eq_true p175
                              replace q175 := eq_true q175
                              refine start_ (n := 32) (S := fun w' => w'.cell? ⟨gb173, 0, none⟩ = some (.int .i64 ((rd_T91 (rd_L4 l0_1 x8_4) x9_5).f0)) ∧ w'.cell? ⟨gb173, 1, none⟩ = some (.int .i64 ((rd_T91 (rd_L4 l0_1 x8_4) x9_5).f1)) ∧ w'.cell? ⟨gb158, 0, none⟩ = some (.int .i64 a0_0) ∧ w'.cell? ⟨gb158, 1, none⟩ = some (.slice (some ad170) l0_1.length c0_1) ∧ w'.cell? ⟨gb158, 2, none⟩ = some (.slice A0_2 l0_2.length c0_2) ∧ w'.cell? (ad170.add (x8_4).toNat) = some (.slice (some ad175) (rd_L4 l0_1 x8_4).length c174_0) ∧ w'.cell? (ad175.add (((ji53)).toNat * 2)) = some (.int .i64 ((rd_T91 (rd_L4 l0_1 x8_4) (ji53)).f0)) ∧ w'.cell? ⟨(ad175.add (((ji53)).toNat * 2)).block, (ad175.add (((ji53)).toNat * 2)).off + 1, none⟩ = some (.int .i64 ((rd_T91 (rd_L4 l0_1 x8_4) (ji53)).f1))) (ds := []) #[false, false, false, false, false, false, false, false, false, false, false, false, false, false, false, false, false, false, false, false, false, false, false, false, false, false, false, false, false, false, false, false] (by kernel_rfl) rfl rfl ⟨(blk_cell BK173.out 0).trans rfl, (blk_cell BK173.out 1).trans rfl, (blk_cell BK158.out 0).trans rfl, (blk_cell BK158.out 1).trans rfl, (blk_cell BK158.out 2).trans rfl, ((HB.out.cell (World.block_lt_of_cell? w _ hw174_0)).trans hw174_0), ((HB.out.cell (World.block_lt_of_cell? w _ hw175_0)).trans hw175_0), ((HB.out.cell (World.block_lt_of_cell? w _ hw175_1)).trans hw175_1)⟩ (fun hHeld => ?_); refine with_tabW spec_WheelRight.tab28 spec_WheelRight.bits28 (fun HT_ HW_ => ?_)
                              generalize w67.drew = w68 at BK158 BK173 HB HR174_0 hx174_0 hx175_0 hx175_1 hHeld ⊢
                              refine pu_ 0 116 HT_ ?_
                              refine pu_ 2 118 HT_ ?_
                              refine tk_ 1 117 HT_ HW_ hHeld ?_ rfl rfl (by rintro w' ⟨s0, s1, s2, s3, s4, s5, s6, s7⟩; go_simp; with_reducible rfl)
                              refine tk_ 3 119 HT_ HW_ hHeld ?_ rfl rfl (by rintro w' ⟨s0, s1, s2, s3, s4, s5, s6, s7⟩; go_simp; with_reducible rfl)
                              refine pu_ 4 120 HT_ ?_
                              refine pu_ 5 121 HT_ ?_
                              refine pu_ 6 122 HT_ ?_
                              refine pu_ 7 123 HT_ ?_
                              refine pu_ 10 126 HT_ ?_
                              refine tk_ 8 124 HT_ HW_ hHeld ?_ rfl rfl (by rintro w' ⟨s0, s1, s2, s3, s4, s5, s6, s7⟩; go_simp; with_reducible rfl)
                              refine pu_ 9 125 HT_ ?_
                              refine pu_ 11 127 HT_ ?_
                              refine pu_ 12 128 HT_ ?_
                              refine pu_ 13 129 HT_ ?_
                              refine pu_ 14 130 HT_ ?_
                              refine pu_ 15 131 HT_ ?_
                              refine pu_ 16 132 HT_ ?_
                              refine pu_ 17 133 HT_ ?_
                              refine pu_ 19 135 HT_ ?_
                              refine pu_ 21 137 HT_ ?_
                              refine pu_ 24 140 HT_ ?_
                              refine pu_ 25 141 HT_ ?_
                              refine tk_ 18 134 HT_ HW_ hHeld ?_ rfl rfl (by rintro w' ⟨s0, s1, s2, s3, s4, s5, s6, s7⟩; go_simp; with_reducible rfl)
                              refine tk_ 20 136 HT_ HW_ hHeld ?_ rfl rfl (by rintro w' ⟨s0, s1, s2, s3, s4, s5, s6, s7⟩; go_simp; with_reducible rfl)
                              refine pu_ 22 138 HT_ ?_
                              refine tk_ 23 139 HT_ HW_ hHeld ?_ rfl rfl (by rintro w' ⟨s0, s1, s2, s3, s4, s5, s6, s7⟩; go_simp; with_reducible rfl)
                              refine pu_ 26 142 HT_ ?_
                              refine pu_ 27 143 HT_ ?_
                              refine tk_ 28 144 HT_ HW_ hHeld ?_ rfl rfl (by rintro w' ⟨s0, s1, s2, s3, s4, s5, s6, s7⟩; go_simp; with_reducible rfl)
                              refine pu_ 29 145 HT_ ?_
                              refine pu_ 30 146 HT_ ?_
                              refine pu_ 31 147 HT_ ?_
                              refine done_ (done_of HT_.out (by kernel_rfl)) ?_
                              try go_wp2
                              go_roundg k5
                              case measure => have := HJ1.out; have := HK2.out; have := HK3.out; have := HK4.out; have := HK5.out; omega
                              case rel => exact ⟨(wrap64 (x9_5 + 1)), (by first | rfl | (simp; done) | (simp [*]; done)), H', ⟨by have := HJ1.out; have := HK2.out; have := HK3.out; have := HK4.out; have := HK5.out; omega⟩, ⟨up_ BK158.out⟩, ⟨bl_⟩⟩
                            ·
                             rw [if_neg c55] at H
                             exact absurd H (by simp)
                           ·
                            rw [if_neg c54] at H
                            exact absurd H (by simp)
                          ·
                           rw [if_neg c52] at H
                           have c52b0 : decide (0 < x9_5) = false := decide_eq_false c52
                           clear c52
                           have H' := Aside0.mk H
                           clear H
                           have hcz69_0 : wr.cell? ⟨gb158, 0, none⟩ = some (.int .i64 a0_0) := (blk_cell BK158.out 0).trans rfl
                           have hcz69_1 : wr.cell? ⟨gb158, 1, none⟩ = some (.slice A0_1 l0_1.length c0_1) := (blk_cell BK158.out 1).trans rfl
                           have hcz69_2 : wr.cell? ⟨gb158, 2, none⟩ = some (.slice A0_2 l0_2.length c0_2) := (blk_cell BK158.out 2).trans rfl
                           have hfz69_0 := blk_frozen BK158.out 0
                           have hfz69_1 := blk_frozen BK158.out 1
                           have hfz69_2 := blk_frozen BK158.out 2
                           have p170 : 0 ≤ (x8_4 : Int) := ds_
                           have q170 : x8_4 < (l0_1.length : Int) := ds_
                           obtain ⟨ad170, A170_0, c170_0, e170, hx170_0, hl170_0, hi170_0⟩ := at_L4 HR0_1.out x8_4 p170 q170
                           cases e170
                           replace hx170_0 := (HB.out.cell (World.block_lt_of_cell? w _ hx170_0)).trans hx170_0
                           have HR170_0 := Aside0.mk hi170_0
                           have HC170_0 := Aside0.mk hl170_0
                           clear hi170_0 hl170_0
                           replace p170 := eq_true p170
                           replace q170 := eq_true q170
                           have p171 : 0 ≤ (x8_4 : Int) := ds_
                           have q171 : x8_4 < (l0_1.length : Int) := ds_
                           obtain ⟨ad171, A171_0, c171_0, e171, hx171_0, hl171_0, hi171_0⟩ := at_L4 HR0_1.out x8_4 p171 q171
                           obtain rfl : ad170 = ad171 := (by injection e171)
                           replace hx171_0 := (HB.out.cell (World.block_lt_of_cell? w _ hx171_0)).trans hx171_0
                           have HR171_0 := Aside0.mk hi171_0
                           have HC171_0 := Aside0.mk hl171_0
                           clear hi171_0 hl171_0
                           replace p171 := eq_true p171
                           replace q171 := eq_true q171
                           have ea_ := Option.some.inj (hx170_0.symm.trans hx171_0)
                           injection ea_ with ea_ en_ ec_
                           subst ea_
                           subst ec_
                           clear en_
                           have p172 : 0 ≤ (x9_5 : Int) := ds_
                           have q172 : x9_5 < ((rd_L4 l0_1 x8_4).length : Int) := ds_
                           obtain ⟨ad172, e172, hx172_0, hx172_1⟩ := at_T91 HR171_0.out x9_5 p172 q172
                           cases e172
                           replace hx172_0 := (HB.out.cell (World.block_lt_of_cell? w _ hx172_0)).trans hx172_0
                           replace hx172_1 := (HB.out.cell (World.block_lt_of_cell? w _ hx172_1)).trans hx172_1
                           replace p172 := eq_true p172
                           replace q172 := eq_true q172
                           try go_wp2_with (first | ((with_reducible refine gate_dst (N := 10) rfl ?_); (try (refine gate_guard (by rfl) ?_; dsimp only)); refine box_event ?hg (N := 10) ?hd (cs := #[.int .i64 0, .int .i64 0]) (t := 91) ?hr ?_; (case hd => rfl); (case hg => rfl); (case hr => first | (go_simp; done) | (go_simp; rfl)); intro gb173 hg w70 hbox hb; have n0_ := Aside0.mk (blk_below (up_ BK158.out) hb); have n1_ := Aside0.mk (below_step bl_ hb); have n2_ := Aside0.mk (hbox); have n3_ := Aside0.mk ((by rw [hg]; exact (below_size bl_) : w.heap.size ≤ gb173)); have n4_ := Aside0.mk ((by rw [hg]; exact (below_size bl_) : w.heap.size ≤ gb173)); have n5_ := Aside0.mk ((by rw [hg]; exact Nat.ne_of_lt (blk_lt (up_ BK158.out)) : gb158 ≠ gb173)); have n6_ := Aside0.mk ((by rw [hg]; exact Nat.ne_of_gt (blk_lt (up_ BK158.out)) : gb173 ≠ gb158)); clear BK158; clear HB; have BK158 := n0_; have HB := n1_; have BK173 := n2_; have GW173 := n3_; have GE173 := n4_; have NB158_173 := n5_; have NB173_158 := n6_; clear n0_ n1_ n2_ n3_ n4_ n5_ n6_; clear hb hbox hg; have hnb71 := NB173_158.out; have hnc71 := NB158_173.out; have hcz72_0 : w70.cell? ⟨gb173, 0, none⟩ = some (.int .i64 0) := (blk_cell BK173.out 0).trans rfl; have hcz72_1 : w70.cell? ⟨gb173, 1, none⟩ = some (.int .i64 0) := (blk_cell BK173.out 1).trans rfl; have hfz72_0 := blk_frozen BK173.out 0; have hfz72_1 := blk_frozen BK173.out 1))
                           have n0_ : Aside0 (((w70.setCell ⟨gb173, 0, none⟩ (.int .i64 ((rd_T91 (rd_L4 l0_1 x8_4) x9_5).f0))).setCell ⟨gb173, 1, none⟩ (.int .i64 ((rd_T91 (rd_L4 l0_1 x8_4) x9_5).f1))).heap[gb158]? = some (.cells #[.int .i64 a0_0, .slice (some ad170) l0_1.length c0_1, .slice A0_2 l0_2.length c0_2] 45 (0, 0))) := ⟨by (with_reducible repeat (first | refine blk_drewN ?_ _ | refine blk_drew ?_ | refine blk_alloc ?_ _)); refine blk_far ?_ NB158_173.out _; (with_reducible repeat (first | refine blk_drewN ?_ _ | refine blk_drew ?_ | refine blk_alloc ?_ _)); refine blk_far ?_ NB158_173.out _; (with_reducible repeat (first | refine blk_drewN ?_ _ | refine blk_drew ?_ | refine blk_alloc ?_ _)); exact BK158.out⟩
                           have n1_ : Aside0 (((w70.setCell ⟨gb173, 0, none⟩ (.int .i64 ((rd_T91 (rd_L4 l0_1 x8_4) x9_5).f0))).setCell ⟨gb173, 1, none⟩ (.int .i64 ((rd_T91 (rd_L4 l0_1 x8_4) x9_5).f1))).heap[gb173]? = some (.cells #[.int .i64 ((rd_T91 (rd_L4 l0_1 x8_4) x9_5).f0), .int .i64 ((rd_T91 (rd_L4 l0_1 x8_4) x9_5).f1)] 91 (0, 0))) := ⟨by (with_reducible repeat (first | refine blk_drewN ?_ _ | refine blk_drew ?_ | refine blk_alloc ?_ _)); refine blk_put (cs := #[.int .i64 ((rd_T91 (rd_L4 l0_1 x8_4) x9_5).f0), .int .i64 0]) ?_ 1 _ rfl; (with_reducible repeat (first | refine blk_drewN ?_ _ | refine blk_drew ?_ | refine blk_alloc ?_ _)); refine blk_put (cs := #[.int .i64 0, .int .i64 0]) ?_ 0 _ rfl; (with_reducible repeat (first | refine blk_drewN ?_ _ | refine blk_drew ?_ | refine blk_alloc ?_ _)); exact BK173.out⟩
                           have n2_ : Aside0 (Below w.heap.size w ((w70.setCell ⟨gb173, 0, none⟩ (.int .i64 ((rd_T91 (rd_L4 l0_1 x8_4) x9_5).f0))).setCell ⟨gb173, 1, none⟩ (.int .i64 ((rd_T91 (rd_L4 l0_1 x8_4) x9_5).f1)))) := ⟨bl_⟩
                           (try clear BK158)
                           (try clear BK173)
                           (try clear HB)
                           generalize ((w70.setCell ⟨gb173, 0, none⟩ (.int .i64 ((rd_T91 (rd_L4 l0_1 x8_4) x9_5).f0))).setCell ⟨gb173, 1, none⟩ (.int .i64 ((rd_T91 (rd_L4 l0_1 x8_4) x9_5).f1))) = w73 at n0_ n1_ n2_ ⊢
                           have BK158 := n0_
                           have BK173 := n1_
                           have HB := n2_
                           clear n0_ n1_ n2_
                           replace BK158 := Aside0.mk (blk_drew BK158.out)
                           replace BK173 := Aside0.mk (blk_drew BK173.out)
                           replace HB := Aside0.mk (below_drew1 HB.out)
                           refine start_ (n := 32) (S := fun w' => w'.cell? ⟨gb173, 0, none⟩ = some (.int .i64 ((rd_T91 (rd_L4 l0_1 x8_4) x9_5).f0)) ∧ w'.cell? ⟨gb173, 1, none⟩ = some (.int .i64 ((rd_T91 (rd_L4 l0_1 x8_4) x9_5).f1)) ∧ w'.cell? ⟨gb158, 0, none⟩ = some (.int .i64 a0_0) ∧ w'.cell? ⟨gb158, 1, none⟩ = some (.slice (some ad170) l0_1.length c0_1) ∧ w'.cell? ⟨gb158, 2, none⟩ = some (.slice A0_2 l0_2.length c0_2)) (ds := []) #[false, false, false, false, false, false, false, false, false, false, false, false, false, false, false, false, false, false, false, false, false, false, false, false, false, false, false, false, false, false, false, false] (by kernel_rfl) rfl rfl ⟨(blk_cell BK173.out 0).trans rfl, (blk_cell BK173.out 1).trans rfl, (blk_cell BK158.out 0).trans rfl, (blk_cell BK158.out 1).trans rfl, (blk_cell BK158.out 2).trans rfl⟩ (fun hHeld => ?_); refine with_tabW spec_WheelRight.tab28 spec_WheelRight.bits28 (fun HT_ HW_ => ?_)
                           generalize w73.drew = w74 at BK158 BK173 HB hHeld ⊢
                           refine pu_ 0 116 HT_ ?_
                           refine pu_ 2 118 HT_ ?_
                           refine tk_ 1 117 HT_ HW_ hHeld ?_ rfl rfl (by rintro w' ⟨s0, s1, s2, s3, s4⟩; go_simp; with_reducible rfl)
                           refine tk_ 3 119 HT_ HW_ hHeld ?_ rfl rfl (by rintro w' ⟨s0, s1, s2, s3, s4⟩; go_simp; with_reducible rfl)
                           refine pu_ 4 120 HT_ ?_
                           refine pu_ 5 121 HT_ ?_
                           refine pu_ 6 122 HT_ ?_
                           refine pu_ 7 123 HT_ ?_
                           refine pu_ 10 126 HT_ ?_
                           refine tk_ 8 124 HT_ HW_ hHeld ?_ rfl rfl (by rintro w' ⟨s0, s1, s2, s3, s4⟩; go_simp; with_reducible rfl)
                           refine pu_ 9 125 HT_ ?_
                           refine pu_ 11 127 HT_ ?_
                           refine pu_ 12 128 HT_ ?_
                           refine pu_ 13 129 HT_ ?_
                           refine pu_ 14 130 HT_ ?_
                           refine pu_ 15 131 HT_ ?_
                           refine pu_ 16 132 HT_ ?_
                           refine pn_ 17 133 HT_ ?_
                           refine pn_ 18 134 HT_ ?_
                           refine pn_ 19 135 HT_ ?_
                           refine pn_ 20 136 HT_ ?_
                           refine pn_ 21 137 HT_ ?_
                           refine pn_ 22 138 HT_ ?_
                           refine pn_ 23 139 HT_ ?_
                           refine pn_ 24 140 HT_ ?_
                           refine pn_ 25 141 HT_ ?_
                           refine pn_ 26 142 HT_ ?_
                           refine pn_ 27 143 HT_ ?_
                           refine pn_ 28 144 HT_ ?_
                           refine pn_ 29 145 HT_ ?_
                           refine pu_ 30 146 HT_ ?_
                           refine pu_ 31 147 HT_ ?_
                           refine done_ (done_of HT_.out (by kernel_rfl)) ?_
                           try go_wp2
                           go_roundg k5
                           case measure => have := HJ1.out; have := HK2.out; have := HK3.out; have := HK4.out; have := HK5.out; omega
                           case rel => exact ⟨(wrap64 (x9_5 + 1)), (by first | rfl | (simp; done) | (simp [*]; done)), H', ⟨by have := HJ1.out; have := HK2.out; have := HK3.out; have := HK4.out; have := HK5.out; omega⟩, ⟨up_ BK158.out⟩, ⟨bl_⟩⟩
                         ·
                          rw [if_neg c51] at H
                          have c51b0 : ((Int.tmod ((rd_T91 (rd_L4 l0_1 x8_4) x9_5).f1) 16) == x8_4) = false := beq_eq_false_iff_ne.mpr c51
                          have c51b1 : ((Int.tmod ((rd_T91 (rd_L4 l0_1 x8_4) x9_5).f1) 16) != x8_4) = true := bne_iff_ne.mpr c51
                          obtain rfl := Option.some.inj H
                          have hcz75_0 : wr.cell? ⟨gb158, 0, none⟩ = some (.int .i64 a0_0) := (blk_cell BK158.out 0).trans rfl
                          have hcz75_1 : wr.cell? ⟨gb158, 1, none⟩ = some (.slice A0_1 l0_1.length c0_1) := (blk_cell BK158.out 1).trans rfl
                          have hcz75_2 : wr.cell? ⟨gb158, 2, none⟩ = some (.slice A0_2 l0_2.length c0_2) := (blk_cell BK158.out 2).trans rfl
                          have hfz75_0 := blk_frozen BK158.out 0
                          have hfz75_1 := blk_frozen BK158.out 1
                          have hfz75_2 := blk_frozen BK158.out 2
                          have p170 : 0 ≤ (x8_4 : Int) := ds_
                          have q170 : x8_4 < (l0_1.length : Int) := ds_
                          obtain ⟨ad170, A170_0, c170_0, e170, hx170_0, hl170_0, hi170_0⟩ := at_L4 HR0_1.out x8_4 p170 q170
                          cases e170
                          replace hx170_0 := (HB.out.cell (World.block_lt_of_cell? w _ hx170_0)).trans hx170_0
                          have HR170_0 := Aside0.mk hi170_0
                          have HC170_0 := Aside0.mk hl170_0
                          clear hi170_0 hl170_0
                          replace p170 := eq_true p170
                          replace q170 := eq_true q170
                          have p171 : 0 ≤ (x8_4 : Int) := ds_
                          have q171 : x8_4 < (l0_1.length : Int) := ds_
                          obtain ⟨ad171, A171_0, c171_0, e171, hx171_0, hl171_0, hi171_0⟩ := at_L4 HR0_1.out x8_4 p171 q171
                          obtain rfl : ad170 = ad171 := (by injection e171)
                          replace hx171_0 := (HB.out.cell (World.block_lt_of_cell? w _ hx171_0)).trans hx171_0
                          have HR171_0 := Aside0.mk hi171_0
                          have HC171_0 := Aside0.mk hl171_0
                          clear hi171_0 hl171_0
                          replace p171 := eq_true p171
                          replace q171 := eq_true q171
                          have ea_ := Option.some.inj (hx170_0.symm.trans hx171_0)
                          injection ea_ with ea_ en_ ec_
                          subst ea_
                          subst ec_
                          clear en_
                          have p172 : 0 ≤ (x9_5 : Int) := ds_
                          have q172 : x9_5 < ((rd_L4 l0_1 x8_4).length : Int) := ds_
                          obtain ⟨ad172, e172, hx172_0, hx172_1⟩ := at_T91 HR171_0.out x9_5 p172 q172
                          cases e172
                          replace hx172_0 := (HB.out.cell (World.block_lt_of_cell? w _ hx172_0)).trans hx172_0
                          replace hx172_1 := (HB.out.cell (World.block_lt_of_cell? w _ hx172_1)).trans hx172_1
                          replace p172 := eq_true p172
                          replace q172 := eq_true q172
                          try go_wp2_with (first | ((with_reducible refine gate_dst (N := 10) rfl ?_); (try (refine gate_guard (by rfl) ?_; dsimp only)); refine box_event ?hg (N := 10) ?hd (cs := #[.int .i64 0, .int .i64 0]) (t := 91) ?hr ?_; (case hd => rfl); (case hg => rfl); (case hr => first | (go_simp; done) | (go_simp; rfl)); intro gb173 hg w76 hbox hb; have n0_ := Aside0.mk (blk_below (up_ BK158.out) hb); have n1_ := Aside0.mk (below_step bl_ hb); have n2_ := Aside0.mk (hbox); have n3_ := Aside0.mk ((by rw [hg]; exact (below_size bl_) : w.heap.size ≤ gb173)); have n4_ := Aside0.mk ((by rw [hg]; exact (below_size bl_) : w.heap.size ≤ gb173)); have n5_ := Aside0.mk ((by rw [hg]; exact Nat.ne_of_lt (blk_lt (up_ BK158.out)) : gb158 ≠ gb173)); have n6_ := Aside0.mk ((by rw [hg]; exact Nat.ne_of_gt (blk_lt (up_ BK158.out)) : gb173 ≠ gb158)); clear BK158; clear HB; have BK158 := n0_; have HB := n1_; have BK173 := n2_; have GW173 := n3_; have GE173 := n4_; have NB158_173 := n5_; have NB173_158 := n6_; clear n0_ n1_ n2_ n3_ n4_ n5_ n6_; clear hb hbox hg; have hnb77 := NB173_158.out; have hnc77 := NB158_173.out; have hcz78_0 : w76.cell? ⟨gb173, 0, none⟩ = some (.int .i64 0) := (blk_cell BK173.out 0).trans rfl; have hcz78_1 : w76.cell? ⟨gb173, 1, none⟩ = some (.int .i64 0) := (blk_cell BK173.out 1).trans rfl; have hfz78_0 := blk_frozen BK173.out 0; have hfz78_1 := blk_frozen BK173.out 1))
                          have n0_ : Aside0 (((w76.setCell ⟨gb173, 0, none⟩ (.int .i64 ((rd_T91 (rd_L4 l0_1 x8_4) x9_5).f0))).setCell ⟨gb173, 1, none⟩ (.int .i64 ((rd_T91 (rd_L4 l0_1 x8_4) x9_5).f1))).heap[gb158]? = some (.cells #[.int .i64 a0_0, .slice (some ad170) l0_1.length c0_1, .slice A0_2 l0_2.length c0_2] 45 (0, 0))) := ⟨by (with_reducible repeat (first | refine blk_drewN ?_ _ | refine blk_drew ?_ | refine blk_alloc ?_ _)); refine blk_far ?_ NB158_173.out _; (with_reducible repeat (first | refine blk_drewN ?_ _ | refine blk_drew ?_ | refine blk_alloc ?_ _)); refine blk_far ?_ NB158_173.out _; (with_reducible repeat (first | refine blk_drewN ?_ _ | refine blk_drew ?_ | refine blk_alloc ?_ _)); exact BK158.out⟩
                          have n1_ : Aside0 (((w76.setCell ⟨gb173, 0, none⟩ (.int .i64 ((rd_T91 (rd_L4 l0_1 x8_4) x9_5).f0))).setCell ⟨gb173, 1, none⟩ (.int .i64 ((rd_T91 (rd_L4 l0_1 x8_4) x9_5).f1))).heap[gb173]? = some (.cells #[.int .i64 ((rd_T91 (rd_L4 l0_1 x8_4) x9_5).f0), .int .i64 ((rd_T91 (rd_L4 l0_1 x8_4) x9_5).f1)] 91 (0, 0))) := ⟨by (with_reducible repeat (first | refine blk_drewN ?_ _ | refine blk_drew ?_ | refine blk_alloc ?_ _)); refine blk_put (cs := #[.int .i64 ((rd_T91 (rd_L4 l0_1 x8_4) x9_5).f0), .int .i64 0]) ?_ 1 _ rfl; (with_reducible repeat (first | refine blk_drewN ?_ _ | refine blk_drew ?_ | refine blk_alloc ?_ _)); refine blk_put (cs := #[.int .i64 0, .int .i64 0]) ?_ 0 _ rfl; (with_reducible repeat (first | refine blk_drewN ?_ _ | refine blk_drew ?_ | refine blk_alloc ?_ _)); exact BK173.out⟩
                          have n2_ : Aside0 (Below w.heap.size w ((w76.setCell ⟨gb173, 0, none⟩ (.int .i64 ((rd_T91 (rd_L4 l0_1 x8_4) x9_5).f0))).setCell ⟨gb173, 1, none⟩ (.int .i64 ((rd_T91 (rd_L4 l0_1 x8_4) x9_5).f1)))) := ⟨bl_⟩
                          (try clear BK158)
                          (try clear BK173)
                          (try clear HB)
                          generalize ((w76.setCell ⟨gb173, 0, none⟩ (.int .i64 ((rd_T91 (rd_L4 l0_1 x8_4) x9_5).f0))).setCell ⟨gb173, 1, none⟩ (.int .i64 ((rd_T91 (rd_L4 l0_1 x8_4) x9_5).f1))) = w79 at n0_ n1_ n2_ ⊢
                          have BK158 := n0_
                          have BK173 := n1_
                          have HB := n2_
                          clear n0_ n1_ n2_
                          replace BK158 := Aside0.mk (blk_drew BK158.out)
                          replace BK173 := Aside0.mk (blk_drew BK173.out)
                          replace HB := Aside0.mk (below_drew1 HB.out)
                          refine start_ (n := 32) (S := fun w' => w'.cell? ⟨gb173, 0, none⟩ = some (.int .i64 ((rd_T91 (rd_L4 l0_1 x8_4) x9_5).f0)) ∧ w'.cell? ⟨gb173, 1, none⟩ = some (.int .i64 ((rd_T91 (rd_L4 l0_1 x8_4) x9_5).f1)) ∧ w'.cell? ⟨gb158, 0, none⟩ = some (.int .i64 a0_0) ∧ w'.cell? ⟨gb158, 1, none⟩ = some (.slice (some ad170) l0_1.length c0_1) ∧ w'.cell? ⟨gb158, 2, none⟩ = some (.slice A0_2 l0_2.length c0_2)) (ds := []) #[false, false, false, false, false, false, false, false, false, false, false, false, false, false, false, false, false, false, false, false, false, false, false, false, false, false, false, false, false, false, false, false] (by kernel_rfl) rfl rfl ⟨(blk_cell BK173.out 0).trans rfl, (blk_cell BK173.out 1).trans rfl, (blk_cell BK158.out 0).trans rfl, (blk_cell BK158.out 1).trans rfl, (blk_cell BK158.out 2).trans rfl⟩ (fun hHeld => ?_); refine with_tabW spec_WheelRight.tab28 spec_WheelRight.bits28 (fun HT_ HW_ => ?_)
                          generalize w79.drew = w80 at BK158 BK173 HB hHeld ⊢
                          refine pu_ 0 116 HT_ ?_
                          refine pu_ 2 118 HT_ ?_
                          refine tk_ 1 117 HT_ HW_ hHeld ?_ rfl rfl (by rintro w' ⟨s0, s1, s2, s3, s4⟩; go_simp; with_reducible rfl)
                          refine tk_ 3 119 HT_ HW_ hHeld ?_ rfl rfl (by rintro w' ⟨s0, s1, s2, s3, s4⟩; go_simp; with_reducible rfl)
                          refine pu_ 4 120 HT_ ?_
                          refine pu_ 5 121 HT_ ?_
                          refine pu_ 6 122 HT_ ?_
                          refine pu_ 7 123 HT_ ?_
                          refine pu_ 10 126 HT_ ?_
                          refine tk_ 8 124 HT_ HW_ hHeld ?_ rfl rfl (by rintro w' ⟨s0, s1, s2, s3, s4⟩; go_simp; with_reducible rfl)
                          refine pu_ 9 125 HT_ ?_
                          refine pu_ 11 127 HT_ ?_
                          refine pu_ 12 128 HT_ ?_
                          refine pu_ 13 129 HT_ ?_
                          refine pn_ 14 130 HT_ ?_
                          refine pn_ 15 131 HT_ ?_
                          refine pn_ 16 132 HT_ ?_
                          refine pn_ 17 133 HT_ ?_
                          refine pn_ 18 134 HT_ ?_
                          refine pn_ 19 135 HT_ ?_
                          refine pn_ 20 136 HT_ ?_
                          refine pn_ 21 137 HT_ ?_
                          refine pn_ 22 138 HT_ ?_
                          refine pn_ 23 139 HT_ ?_
                          refine pn_ 24 140 HT_ ?_
                          refine pn_ 25 141 HT_ ?_
                          refine pn_ 26 142 HT_ ?_
                          refine pn_ 27 143 HT_ ?_
                          refine pn_ 28 144 HT_ ?_
                          refine pn_ 29 145 HT_ ?_
                          refine pn_ 30 146 HT_ ?_
                          refine pu_ 31 147 HT_ ?_
                          refine done_ (done_of HT_.out (by kernel_rfl)) ?_
                          try go_wp2
                          go_ret
                          exact ⟨by first | rfl | (simp [errW_none, errW_some] <;> rfl) | (simp [*, errW_none, errW_some] <;> rfl), bl_⟩
                       ·
                        rw [if_neg c43] at H
                        exact absurd H (by simp)
                      ·
                       rw [if_neg c42] at H
                       have c42b0 : decide (x9_5 < ((rd_L4 l0_1 x8_4).length : Int)) = false := decide_eq_false c42
                       clear c42
                       have H' := Aside0.mk H
                       clear H
                       have hcz81_0 : wr.cell? ⟨gb158, 0, none⟩ = some (.int .i64 a0_0) := (blk_cell BK158.out 0).trans rfl
                       have hcz81_1 : wr.cell? ⟨gb158, 1, none⟩ = some (.slice A0_1 l0_1.length c0_1) := (blk_cell BK158.out 1).trans rfl
                       have hcz81_2 : wr.cell? ⟨gb158, 2, none⟩ = some (.slice A0_2 l0_2.length c0_2) := (blk_cell BK158.out 2).trans rfl
                       have hfz81_0 := blk_frozen BK158.out 0
                       have hfz81_1 := blk_frozen BK158.out 1
                       have hfz81_2 := blk_frozen BK158.out 2
                       have p170 : 0 ≤ (x8_4 : Int) := ds_
                       have q170 : x8_4 < (l0_1.length : Int) := ds_
                       obtain ⟨ad170, A170_0, c170_0, e170, hx170_0, hl170_0, hi170_0⟩ := at_L4 HR0_1.out x8_4 p170 q170
                       cases e170
                       replace hx170_0 := (HB.out.cell (World.block_lt_of_cell? w _ hx170_0)).trans hx170_0
                       have HR170_0 := Aside0.mk hi170_0
                       have HC170_0 := Aside0.mk hl170_0
                       clear hi170_0 hl170_0
                       replace p170 := eq_true p170
                       replace q170 := eq_true q170
                       go_wp2
                       go_roundg k5
                       case measure => have := HJ1.out; have := HK2.out; have := HK3.out; have := HK4.out; have := HK5.out; omega
                       case rel => exact ⟨(wrap64 (x8_4 + 1)), (by first | rfl | (simp; done) | (simp [*]; done)), H', ⟨by have := HJ1.out; have := HK2.out; have := HK3.out; have := HK4.out; have := HK5.out; omega⟩, ⟨up_ BK158.out⟩, ⟨bl_⟩⟩
                     ·
                      rw [if_neg c41] at H
                      exact absurd H (by simp)
                    ·
                     rw [if_neg c40] at H
                     exact absurd H (by simp)
                ·
                 rw [if_neg c38] at H
                 have c38b0 : decide (x8_4 < (l0_1.length : Int)) = false := decide_eq_false c38
                 clear c38
                 have H' := Aside0.mk H
                 clear H
                 have hcz82_0 : wr.cell? ⟨gb158, 0, none⟩ = some (.int .i64 a0_0) := (blk_cell BK158.out 0).trans rfl
                 have hcz82_1 : wr.cell? ⟨gb158, 1, none⟩ = some (.slice A0_1 l0_1.length c0_1) := (blk_cell BK158.out 1).trans rfl
                 have hcz82_2 : wr.cell? ⟨gb158, 2, none⟩ = some (.slice A0_2 l0_2.length c0_2) := (blk_cell BK158.out 2).trans rfl
                 have hfz82_0 := blk_frozen BK158.out 0
                 have hfz82_1 := blk_frozen BK158.out 1
                 have hfz82_2 := blk_frozen BK158.out 2
                 go_wp2
                 go_loopg [11] k4 (fun kq v11 w' => ∃ (x11_5 : Int), v11 = .int .i64 x11_5 ∧ Aside0 (spec_WheelRight.l5 kq x11_5 a0_0 l0_1 l0_2 = some r) ∧ Aside0 (kq ≤ k4) ∧ Aside0 (w'.heap[gb158]? = some (.cells #[.int .i64 a0_0, (.slice A0_1 l0_1.length c0_1), (.slice A0_2 l0_2.length c0_2)] 45 (0, 0))) ∧ Aside0 (Below w.heap.size w w'))
                 case atStart => exact ⟨(0), (by first | rfl | (simp; done) | (simp [*]; done)), H', ⟨Nat.le_refl _⟩, ⟨up_ BK158.out⟩, ⟨bl_⟩⟩
                 case round =>
                  as_aux_lemma =>
                   clear H'
                   try clear c1
                   try clear p1
                   try clear q1
                   try clear hx1
                   try clear p2
                   try clear c3
                   try clear c4
                   try clear c5
                   try clear p6
                   try clear c7
                   try clear c17
                   try clear p17
                   try clear q17
                   try clear hx17
                   try clear c38
                   try clear c38b0
                   try clear c40
                   try clear c41
                   try clear c42
                   try clear c42b0
                   try clear c43
                   try clear c51
                   try clear c51b0
                   try clear c51b1
                   try clear c52
                   try clear c52b0
                   try clear c54
                   try clear c55
                   try clear p64
                   try clear c71
                   try clear c77
                   try clear hcz69_0
                   try clear hcz69_1
                   try clear hcz69_2
                   try clear hcz72_0
                   try clear hcz72_1
                   try clear hcz75_0
                   try clear hcz75_1
                   try clear hcz75_2
                   try clear hcz78_0
                   try clear hcz78_1
                   try clear hcz81_0
                   try clear hcz81_1
                   try clear hcz81_2
                   try clear hcz82_0
                   try clear hcz82_1
                   try clear hcz82_2
                   try clear hfz69_0
                   try clear hfz69_1
                   try clear hfz69_2
                   try clear hfz72_0
                   try clear hfz72_1
                   try clear hfz75_0
                   try clear hfz75_1
                   try clear hfz75_2
                   try clear hfz78_0
                   try clear hfz78_1
                   try clear hfz81_0
                   try clear hfz81_1
                   try clear hfz81_2
                   try clear hfz82_0
                   try clear hfz82_1
                   try clear hfz82_2
                   try clear hx170_0
                   try clear hx171_0
                   try clear hx172_0
                   try clear hx172_1
                   try clear p170
                   try clear p171
                   try clear p172
                   try clear q170
                   try clear q171
                   try clear q172
                   obtain ⟨x11_5, rfl, HA, HK5, BK158, HB⟩ := hrel
                   cases gk with
                   | zero => exact absurd HA.out (by simp [spec_WheelRight.l5])
                   | succ k5 =>
                    have H := HA.out
                    clear HA
                    simp only [spec_WheelRight.l5] at H
                    by_cases c83 : x11_5 < (l0_2.length : Int)
                    ·
                     rw [if_pos c83] at H
                     have c83b0 : decide (x11_5 < (l0_2.length : Int)) = true := decide_eq_true c83
                     clear c83
                     by_cases c84 : 0 ≤ x11_5
                     ·
                      rw [if_pos c84] at H
                      have c84b0 : decide (0 ≤ x11_5) = true := decide_eq_true c84
                      clear c84
                      by_cases c85 : ((rd_T91 l0_2 x11_5).f1) ≤ (wrap64 (a0_0 + 16))
                      ·
                       rw [if_pos c85] at H
                       have c85b0 : decide (((rd_T91 l0_2 x11_5).f1) ≤ (wrap64 (a0_0 + 16))) = true := decide_eq_true c85
                       clear c85
                       obtain rfl := Option.some.inj H
                       have hcz86_0 : wr.cell? ⟨gb158, 0, none⟩ = some (.int .i64 a0_0) := (blk_cell BK158.out 0).trans rfl
                       have hcz86_1 : wr.cell? ⟨gb158, 1, none⟩ = some (.slice A0_1 l0_1.length c0_1) := (blk_cell BK158.out 1).trans rfl
                       have hcz86_2 : wr.cell? ⟨gb158, 2, none⟩ = some (.slice A0_2 l0_2.length c0_2) := (blk_cell BK158.out 2).trans rfl
                       have hfz86_0 := blk_frozen BK158.out 0
                       have hfz86_1 := blk_frozen BK158.out 1
                       have hfz86_2 := blk_frozen BK158.out 2
                       try go_wp2
                       replace BK158 := Aside0.mk (blk_drew BK158.out)
                       replace HB := Aside0.mk (below_drew1 HB.out)
                       have p176 : 0 ≤ (x11_5 : Int) := ds_
                       have q176 : x11_5 < (l0_2.length : Int) := ds_
                       obtain ⟨ad176, e176, hx176_0, hx176_1⟩ := at_T91 HR0_2.out x11_5 p176 q176
                       have hw176_1 := hx176_1
                       have hw176_0 := hx176_0
                       cases e176
                       replace hx176_0 := (HB.out.cell (World.block_lt_of_cell? w _ hx176_0)).trans hx176_0
                       replace hx176_1 := (HB.out.cell (World.block_lt_of_cell? w _ hx176_1)).trans hx176_1
                       replace p176 := eq_true p176
                       replace q176 := eq_true q176
                       refine start_ (n := 29) (S := fun w' => w'.cell? ⟨gb158, 0, none⟩ = some (.int .i64 a0_0) ∧ w'.cell? ⟨gb158, 1, none⟩ = some (.slice A0_1 l0_1.length c0_1) ∧ w'.cell? ⟨gb158, 2, none⟩ = some (.slice (some ad176) l0_2.length c0_2) ∧ w'.cell? (ad176.add ((x11_5).toNat * 2)) = some (.int .i64 ((rd_T91 l0_2 x11_5).f0)) ∧ w'.cell? ⟨(ad176.add ((x11_5).toNat * 2)).block, (ad176.add ((x11_5).toNat * 2)).off + 1, none⟩ = some (.int .i64 ((rd_T91 l0_2 x11_5).f1))) (ds := []) #[false, false, false, false, false, false, false, false, false, false, false, false, false, false, false, false, false, false, false, false, false, false, false, false, false, false, false, false, false] (by kernel_rfl) rfl rfl ⟨(blk_cell BK158.out 0).trans rfl, (blk_cell BK158.out 1).trans rfl, (blk_cell BK158.out 2).trans rfl, ((HB.out.cell (World.block_lt_of_cell? w _ hw176_0)).trans hw176_0), ((HB.out.cell (World.block_lt_of_cell? w _ hw176_1)).trans hw176_1)⟩ (fun hHeld => ?_); refine with_tabW spec_WheelRight.tab33 spec_WheelRight.bits33 (fun HT_ HW_ => ?_)
                       generalize wr.drew = w87 at BK158 HB hx176_0 hx176_1 hHeld ⊢
                       refine pu_ 0 155 HT_ ?_
                       refine pu_ 2 157 HT_ ?_
                       refine pu_ 6 161 HT_ ?_
                       refine tk_ 1 156 HT_ HW_ hHeld ?_ rfl rfl (by rintro w' ⟨s0, s1, s2, s3, s4⟩; go_simp; with_reducible rfl)
                       refine pu_ 3 158 HT_ ?_
                       refine pu_ 4 159 HT_ ?_
                       refine tk_ 5 160 HT_ HW_ hHeld ?_ rfl rfl (by rintro w' ⟨s0, s1, s2, s3, s4⟩; go_simp; with_reducible rfl)
                       refine tk_ 7 162 HT_ HW_ hHeld ?_ rfl rfl (by rintro w' ⟨s0, s1, s2, s3, s4⟩; go_simp; with_reducible rfl)
                       refine pu_ 8 163 HT_ ?_
                       refine pu_ 9 164 HT_ ?_
                       refine pu_ 10 165 HT_ ?_
                       refine pn_ 11 166 HT_ ?_
                       refine pn_ 12 167 HT_ ?_
                       refine pn_ 13 168 HT_ ?_
                       refine pn_ 14 169 HT_ ?_
                       refine pn_ 15 170 HT_ ?_
                       refine pn_ 16 171 HT_ ?_
                       refine pn_ 17 172 HT_ ?_
                       refine pn_ 18 173 HT_ ?_
                       refine pn_ 19 174 HT_ ?_
                       refine pn_ 20 175 HT_ ?_
                       refine pn_ 21 176 HT_ ?_
                       refine pn_ 22 177 HT_ ?_
                       refine pn_ 23 178 HT_ ?_
                       refine pn_ 24 179 HT_ ?_
                       refine pn_ 25 180 HT_ ?_
                       refine pn_ 26 181 HT_ ?_
                       refine pn_ 27 182 HT_ ?_
                       refine pu_ 28 183 HT_ ?_
                       refine done_ (done_of HT_.out (by kernel_rfl)) ?_
                       try go_wp2
                       go_ret
                       exact ⟨by first | rfl | (simp [errW_none, errW_some] <;> rfl) | (simp [*, errW_none, errW_some] <;> rfl), bl_⟩
                      ·
                       rw [if_neg c85] at H
                       have c85b0 : decide (((rd_T91 l0_2 x11_5).f1) ≤ (wrap64 (a0_0 + 16))) = false := decide_eq_false c85
                       clear c85
                       by_cases c88 : x11_5 > 0
                       ·
                        rw [if_pos c88] at H
                        have c88b0 : decide (0 < x11_5) = true := decide_eq_true c88
                        clear c88
                        obtain ⟨ji89, hji89⟩ : ∃ j_ : Int, (wrap64 (x11_5 - 1)) = j_ := ⟨_, rfl⟩
                        replace H : (if 0 ≤ (ji89) then (if (ji89) < (l0_2.length : Int) then ((spec_l08Before.f ((rd_T91 l0_2 (ji89)).f0) ((rd_T91 l0_2 (ji89)).f1) ((rd_T91 l0_2 x11_5).f0) ((rd_T91 l0_2 x11_5).f1)).bind fun t179 => (if t179 = true then (spec_WheelRight.l5 k5 (wrap64 (x11_5 + 1)) a0_0 l0_1 l0_2) else (some false))) else (none)) else (none)) = some r := by first | (rw [hji89] at H; exact H) | (simp only [hji89] at H ⊢; exact H)
                        have hji89w : (IntKind.i64.wrap (x11_5 - 1)) = ji89 := (i64_w _).trans hji89
                        by_cases c90 : 0 ≤ (ji89)
                        ·
                         rw [if_pos c90] at H
                         have c90b0 : decide (0 ≤ (ji89)) = true := decide_eq_true c90
                         clear c90
                         by_cases c91 : (ji89) < (l0_2.length : Int)
                         ·
                          rw [if_pos c91] at H
                          have c91b0 : decide ((ji89) < (l0_2.length : Int)) = true := decide_eq_true c91
                          clear c91
                          replace H := Option.bind_eq_some_iff.mp H
                          obtain ⟨t179, A920, H⟩ := H
                          replace H : (if t179 = true then (spec_WheelRight.l5 k5 (wrap64 (x11_5 + 1)) a0_0 l0_1 l0_2) else (some false)) = some r := H
                          have A92 := Aside0.mk A920
                          clear A920
                          by_cases c93 : t179 = true
                          ·
                           subst c93
                           have H1 : (spec_WheelRight.l5 k5 (wrap64 (x11_5 + 1)) a0_0 l0_1 l0_2) = some r := by rw [if_pos rfl] at H; exact H
                           clear H
                           have H := H1
                           clear H1
                           have H' := Aside0.mk H
                           clear H
                           have hcz94_0 : wr.cell? ⟨gb158, 0, none⟩ = some (.int .i64 a0_0) := (blk_cell BK158.out 0).trans rfl
                           have hcz94_1 : wr.cell? ⟨gb158, 1, none⟩ = some (.slice A0_1 l0_1.length c0_1) := (blk_cell BK158.out 1).trans rfl
                           have hcz94_2 : wr.cell? ⟨gb158, 2, none⟩ = some (.slice A0_2 l0_2.length c0_2) := (blk_cell BK158.out 2).trans rfl
                           have hfz94_0 := blk_frozen BK158.out 0
                           have hfz94_1 := blk_frozen BK158.out 1
                           have hfz94_2 := blk_frozen BK158.out 2
                           try go_wp2
                           replace BK158 := Aside0.mk (blk_drew BK158.out)
                           replace HB := Aside0.mk (below_drew1 HB.out)
                           have p176 : 0 ≤ (x11_5 : Int) := ds_
                           have q176 : x11_5 < (l0_2.length : Int) := ds_
                           obtain ⟨ad176, e176, hx176_0, hx176_1⟩ := at_T91 HR0_2.out x11_5 p176 q176
                           have hw176_1 := hx176_1
                           have hw176_0 := hx176_0
                           cases e176
                           replace hx176_0 := (HB.out.cell (World.block_lt_of_cell? w _ hx176_0)).trans hx176_0
                           replace hx176_1 := (HB.out.cell (World.block_lt_of_cell? w _ hx176_1)).trans hx176_1
                           replace p176 := eq_true p176
                           replace q176 := eq_true q176
                           have p177 : 0 ≤ ((ji89) : Int) := ds_
                           have q177 : (ji89) < (l0_2.length : Int) := ds_
                           obtain ⟨ad177, e177, hx177_0, hx177_1⟩ := at_T91 HR0_2.out (ji89) p177 q177
                           have hw177_1 := hx177_1
                           have hw177_0 := hx177_0
                           obtain rfl : ad176 = ad177 := (by injection e177)
                           replace hx177_0 := (HB.out.cell (World.block_lt_of_cell? w _ hx177_0)).trans hx177_0
                           replace hx177_1 := (HB.out.cell (World.block_lt_of_cell? w _ hx177_1)).trans hx177_1
                           replace p177 := eq_true p177
                           replace q177 := eq_true q177
                           have p178 : 0 ≤ (x11_5 : Int) := ds_
                           have q178 : x11_5 < (l0_2.length : Int) := ds_
                           obtain ⟨ad178, e178, hx178_0, hx178_1⟩ := at_T91 HR0_2.out x11_5 p178 q178
                           have hw178_1 := hx178_1
                           have hw178_0 := hx178_0
                           obtain rfl : ad176 = ad178 := (by injection e178)
                           replace hx178_0 := (HB.out.cell (World.block_lt_of_cell? w _ hx178_0)).trans hx178_0
                           replace hx178_1 := (HB.out.cell (World.block_lt_of_cell? w _ hx178_1)).trans hx178_1
                           replace p178 := eq_true p178
                           replace q178 := eq_true q178
                           refine start_ (n := 29) (S := fun w' => w'.cell? ⟨gb158, 0, none⟩ = some (.int .i64 a0_0) ∧ w'.cell? ⟨gb158, 1, none⟩ = some (.slice A0_1 l0_1.length c0_1) ∧ w'.cell? ⟨gb158, 2, none⟩ = some (.slice (some ad176) l0_2.length c0_2) ∧ w'.cell? (ad176.add ((x11_5).toNat * 2)) = some (.int .i64 ((rd_T91 l0_2 x11_5).f0)) ∧ w'.cell? ⟨(ad176.add ((x11_5).toNat * 2)).block, (ad176.add ((x11_5).toNat * 2)).off + 1, none⟩ = some (.int .i64 ((rd_T91 l0_2 x11_5).f1)) ∧ w'.cell? (ad176.add (((ji89)).toNat * 2)) = some (.int .i64 ((rd_T91 l0_2 (ji89)).f0)) ∧ w'.cell? ⟨(ad176.add (((ji89)).toNat * 2)).block, (ad176.add (((ji89)).toNat * 2)).off + 1, none⟩ = some (.int .i64 ((rd_T91 l0_2 (ji89)).f1)) ∧ w'.cell? (ad176.add ((x11_5).toNat * 2)) = some (.int .i64 ((rd_T91 l0_2 x11_5).f0)) ∧ w'.cell? ⟨(ad176.add ((x11_5).toNat * 2)).block, (ad176.add ((x11_5).toNat * 2)).off + 1, none⟩ = some (.int .i64 ((rd_T91 l0_2 x11_5).f1))) (ds := []) #[false, false, false, false, false, false, false, false, false, false, false, false, false, false, false, false, false, false, false, false, false, false, false, false, false, false, false, false, false] (by kernel_rfl) rfl rfl ⟨(blk_cell BK158.out 0).trans rfl, (blk_cell BK158.out 1).trans rfl, (blk_cell BK158.out 2).trans rfl, ((HB.out.cell (World.block_lt_of_cell? w _ hw176_0)).trans hw176_0), ((HB.out.cell (World.block_lt_of_cell? w _ hw176_1)).trans hw176_1), ((HB.out.cell (World.block_lt_of_cell? w _ hw177_0)).trans hw177_0), ((HB.out.cell (World.block_lt_of_cell? w _ hw177_1)).trans hw177_1), ((HB.out.cell (World.block_lt_of_cell? w _ hw178_0)).trans hw178_0), ((HB.out.cell (World.block_lt_of_cell? w _ hw178_1)).trans hw178_1)⟩ (fun hHeld => ?_); refine with_tabW spec_WheelRight.tab33 spec_WheelRight.bits33 (fun HT_ HW_ => ?_)
                           generalize wr.drew = w95 at BK158 HB hx176_0 hx176_1 hx177_0 hx177_1 hx178_0 hx178_1 hHeld ⊢
                           refine pu_ 0 155 HT_ ?_
                           refine pu_ 2 157 HT_ ?_
                           refine pu_ 6 161 HT_ ?_
                           refine tk_ 1 156 HT_ HW_ hHeld ?_ rfl rfl (by rintro w' ⟨s0, s1, s2, s3, s4, s5, s6, s7, s8⟩; go_simp; with_reducible rfl)
                           refine pu_ 3 158 HT_ ?_
                           refine pu_ 4 159 HT_ ?_
                           refine tk_ 5 160 HT_ HW_ hHeld ?_ rfl rfl (by rintro w' ⟨s0, s1, s2, s3, s4, s5, s6, s7, s8⟩; go_simp; with_reducible rfl)
                           refine tk_ 7 162 HT_ HW_ hHeld ?_ rfl rfl (by rintro w' ⟨s0, s1, s2, s3, s4, s5, s6, s7, s8⟩; go_simp; with_reducible rfl)
                           refine pu_ 8 163 HT_ ?_
                           refine pu_ 9 164 HT_ ?_
                           refine pu_ 10 165 HT_ ?_
                           refine pu_ 11 166 HT_ ?_
                           refine pu_ 12 167 HT_ ?_
                           refine pu_ 13 168 HT_ ?_
                           refine pu_ 14 169 HT_ ?_
                           refine pu_ 16 171 HT_ ?_
                           refine pu_ 17 172 HT_ ?_
                           refine pu_ 20 175 HT_ ?_
                           refine pu_ 22 177 HT_ ?_
                           refine tk_ 15 170 HT_ HW_ hHeld ?_ rfl rfl (by rintro w' ⟨s0, s1, s2, s3, s4, s5, s6, s7, s8⟩; go_simp; with_reducible rfl)
                           refine pu_ 18 173 HT_ ?_
                           refine tk_ 19 174 HT_ HW_ hHeld ?_ rfl rfl (by rintro w' ⟨s0, s1, s2, s3, s4, s5, s6, s7, s8⟩; go_simp; with_reducible rfl)
                           refine tk_ 21 176 HT_ HW_ hHeld ?_ rfl rfl (by rintro w' ⟨s0, s1, s2, s3, s4, s5, s6, s7, s8⟩; go_simp; with_reducible rfl)
                           refine pu_ 23 178 HT_ ?_
                           refine tk_ 24 179 HT_ HW_ hHeld ?_ rfl rfl (by rintro w' ⟨s0, s1, s2, s3, s4, s5, s6, s7, s8⟩; go_simp; with_reducible rfl)
                           refine one_ (i := 25) (N := some 180) #[o_,o_,o_,o_,o_,o_,o_,o_,o_,o_,o_,o_,o_,o_,o_,o_,o_,o_,o_,o_,o_,o_,o_,o_,o_,o_,x_,x_,x_] rfl rfl (one_of HT_.out (by kernel_rfl)) (by decide) (fun K hK => ?_)
                           refine goes_ Try.func65 (by kernel_rfl) rfl #[.agg #[.int .i64 ((rd_T91 l0_2 (ji89)).f0), .int .i64 ((rd_T91 l0_2 (ji89)).f1)], .agg #[.int .i64 ((rd_T91 l0_2 x11_5).f0), .int .i64 ((rd_T91 l0_2 x11_5).f1)]] (by rfl) rfl rfl (by (try simp only [List.map_toArray, List.map_cons, List.map_nil]); first | done | (simp only [hji89]; rfl) | rfl | (simp only [List.length_drop, List.length_take]; rfl)) ?_
                           with_reducible refine (spec_l08Before.calls ((rd_T91 l0_2 (ji89)).f0) ((rd_T91 l0_2 (ji89)).f1) ((rd_T91 l0_2 x11_5).f0) ((rd_T91 l0_2 x11_5).f1) true _ A92.out).mono ?_
                           rintro e w96 ⟨rfl, hb⟩
                           refine ⟨_, rfl, ?_⟩
                           replace BK158 := Aside0.mk (blk_below (up_ BK158.out) hb)
                           replace HB := Aside0.mk (below_step bl_ hb)
                           (try clear hb)
                           (try clear hb2)
                           (try clear hk)
                           (try clear hi)
                           refine hK.out _ _ ⟨(blk_cell BK158.out 0).trans rfl, (blk_cell BK158.out 1).trans rfl, (blk_cell BK158.out 2).trans rfl, ((HB.out.cell (World.block_lt_of_cell? w _ hw176_0)).trans hw176_0), ((HB.out.cell (World.block_lt_of_cell? w _ hw176_1)).trans hw176_1), ((HB.out.cell (World.block_lt_of_cell? w _ hw177_0)).trans hw177_0), ((HB.out.cell (World.block_lt_of_cell? w _ hw177_1)).trans hw177_1), ((HB.out.cell (World.block_lt_of_cell? w _ hw178_0)).trans hw178_0), ((HB.out.cell (World.block_lt_of_cell? w _ hw178_1)).trans hw178_1)⟩ (fun hHeld => ?_)
                           clear hK K
                           refine norm_ (a' := ?_) ?_ ?_
                           rotate_left
                           ·
                            show Act.put _ (some 180) _ = _
                            simp only [Act.put, List.setIfInBounds_toArray, List.set_cons_zero, List.set_cons_succ, i64_w, i32_w]
                            rfl
                           refine pu_ 26 181 HT_ ?_
                           refine pu_ 27 182 HT_ ?_
                           refine pu_ 28 183 HT_ ?_
                           refine done_ (done_of HT_.out (by kernel_rfl)) ?_
                           try go_wp2
                           go_roundg k5
                           case measure => have := HJ1.out; have := HK2.out; have := HK3.out; have := HK4.out; have := HK5.out; omega
                           case rel => exact ⟨(wrap64 (x11_5 + 1)), (by first | rfl | (simp; done) | (simp [*]; done)), H', ⟨by have := HJ1.out; have := HK2.out; have := HK3.out; have := HK4.out; have := HK5.out; omega⟩, ⟨up_ BK158.out⟩, ⟨bl_⟩⟩
                          ·
                           replace c93 := Bool.eq_false_iff.mpr c93
                           subst c93
                           have H1 : (some false) = some r := by rw [if_neg (show ¬ (false = true) by decide)] at H; exact H
                           clear H
                           have H := H1
                           clear H1
                           obtain rfl := Option.some.inj H
                           have hcz97_0 : wr.cell? ⟨gb158, 0, none⟩ = some (.int .i64 a0_0) := (blk_cell BK158.out 0).trans rfl
                           have hcz97_1 : wr.cell? ⟨gb158, 1, none⟩ = some (.slice A0_1 l0_1.length c0_1) := (blk_cell BK158.out 1).trans rfl
                           have hcz97_2 : wr.cell? ⟨gb158, 2, none⟩ = some (.slice A0_2 l0_2.length c0_2) := (blk_cell BK158.out 2).trans rfl
                           have hfz97_0 := blk_frozen BK158.out 0
                           have hfz97_1 := blk_frozen BK158.out 1
                           have hfz97_2 := blk_frozen BK158.out 2
                           try go_wp2
                           replace BK158 := Aside0.mk (blk_drew BK158.out)
                           replace HB := Aside0.mk (below_drew1 HB.out)
                           have p176 : 0 ≤ (x11_5 : Int) := ds_
                           have q176 : x11_5 < (l0_2.length : Int) := ds_
                           obtain ⟨ad176, e176, hx176_0, hx176_1⟩ := at_T91 HR0_2.out x11_5 p176 q176
                           have hw176_1 := hx176_1
                           have hw176_0 := hx176_0
                           cases e176
                           replace hx176_0 := (HB.out.cell (World.block_lt_of_cell? w _ hx176_0)).trans hx176_0
                           replace hx176_1 := (HB.out.cell (World.block_lt_of_cell? w _ hx176_1)).trans hx176_1
                           replace p176 := eq_true p176
                           replace q176 := eq_true q176
                           have p177 : 0 ≤ ((ji89) : Int) := ds_
                           have q177 : (ji89) < (l0_2.length : Int) := ds_
                           obtain ⟨ad177, e177, hx177_0, hx177_1⟩ := at_T91 HR0_2.out (ji89) p177 q177
                           have hw177_1 := hx177_1
                           have hw177_0 := hx177_0
                           obtain rfl : ad176 = ad177 := (by injection e177)
                           replace hx177_0 := (HB.out.cell (World.block_lt_of_cell? w _ hx177_0)).trans hx177_0
                           replace hx177_1 := (HB.out.cell (World.block_lt_of_cell? w _ hx177_1)).trans hx177_1
                           replace p177 := eq_true p177
                           replace q177 := eq_true q177
                           have p178 : 0 ≤ (x11_5 : Int) := ds_
                           have q178 : x11_5 < (l0_2.length : Int) := ds_
                           obtain ⟨ad178, e178, hx178_0, hx178_1⟩ := at_T91 HR0_2.out x11_5 p178 q178
                           have hw178_1 := hx178_1
                           have hw178_0 := hx178_0
                           obtain rfl : ad176 = ad178 := (by injection e178)
                           replace hx178_0 := (HB.out.cell (World.block_lt_of_cell? w _ hx178_0)).trans hx178_0
                           replace hx178_1 := (HB.out.cell (World.block_lt_of_cell? w _ hx178_1)).trans hx178_1
                           replace p178 := eq_true p178
                           replace q178 := eq_true q178
                           refine start_ (n := 29) (S := fun w' => w'.cell? ⟨gb158, 0, none⟩ = some (.int .i64 a0_0) ∧ w'.cell? ⟨gb158, 1, none⟩ = some (.slice A0_1 l0_1.length c0_1) ∧ w'.cell? ⟨gb158, 2, none⟩ = some (.slice (some ad176) l0_2.length c0_2) ∧ w'.cell? (ad176.add ((x11_5).toNat * 2)) = some (.int .i64 ((rd_T91 l0_2 x11_5).f0)) ∧ w'.cell? ⟨(ad176.add ((x11_5).toNat * 2)).block, (ad176.add ((x11_5).toNat * 2)).off + 1, none⟩ = some (.int .i64 ((rd_T91 l0_2 x11_5).f1)) ∧ w'.cell? (ad176.add (((ji89)).toNat * 2)) = some (.int .i64 ((rd_T91 l0_2 (ji89)).f0)) ∧ w'.cell? ⟨(ad176.add (((ji89)).toNat * 2)).block, (ad176.add (((ji89)).toNat * 2)).off + 1, none⟩ = some (.int .i64 ((rd_T91 l0_2 (ji89)).f1)) ∧ w'.cell? (ad176.add ((x11_5).toNat * 2)) = some (.int .i64 ((rd_T91 l0_2 x11_5).f0)) ∧ w'.cell? ⟨(ad176.add ((x11_5).toNat * 2)).block, (ad176.add ((x11_5).toNat * 2)).off + 1, none⟩ = some (.int .i64 ((rd_T91 l0_2 x11_5).f1))) (ds := []) #[false, false, false, false, false, false, false, false, false, false, false, false, false, false, false, false, false, false, false, false, false, false, false, false, false, false, false, false, false] (by kernel_rfl) rfl rfl ⟨(blk_cell BK158.out 0).trans rfl, (blk_cell BK158.out 1).trans rfl, (blk_cell BK158.out 2).trans rfl, ((HB.out.cell (World.block_lt_of_cell? w _ hw176_0)).trans hw176_0), ((HB.out.cell (World.block_lt_of_cell? w _ hw176_1)).trans hw176_1), ((HB.out.cell (World.block_lt_of_cell? w _ hw177_0)).trans hw177_0), ((HB.out.cell (World.block_lt_of_cell? w _ hw177_1)).trans hw177_1), ((HB.out.cell (World.block_lt_of_cell? w _ hw178_0)).trans hw178_0), ((HB.out.cell (World.block_lt_of_cell? w _ hw178_1)).trans hw178_1)⟩ (fun hHeld => ?_); refine with_tabW spec_WheelRight.tab33 spec_WheelRight.bits33 (fun HT_ HW_ => ?_)
                           generalize wr.drew = w98 at BK158 HB hx176_0 hx176_1 hx177_0 hx177_1 hx178_0 hx178_1 hHeld ⊢
                           refine pu_ 0 155 HT_ ?_
                           refine pu_ 2 157 HT_ ?_
                           refine pu_ 6 161 HT_ ?_
                           refine tk_ 1 156 HT_ HW_ hHeld ?_ rfl rfl (by rintro w' ⟨s0, s1, s2, s3, s4, s5, s6, s7, s8⟩; go_simp; with_reducible rfl)
                           refine pu_ 3 158 HT_ ?_
                           refine pu_ 4 159 HT_ ?_
                           refine tk_ 5 160 HT_ HW_ hHeld ?_ rfl rfl (by rintro w' ⟨s0, s1, s2, s3, s4, s5, s6, s7, s8⟩; go_simp; with_reducible rfl)
                           refine tk_ 7 162 HT_ HW_ hHeld ?_ rfl rfl (by rintro w' ⟨s0, s1, s2, s3, s4, s5, s6, s7, s8⟩; go_simp; with_reducible rfl)
                           refine pu_ 8 163 HT_ ?_
                           refine pu_ 9 164 HT_ ?_
                           refine pu_ 10 165 HT_ ?_
                           refine pu_ 11 166 HT_ ?_
                           refine pu_ 12 167 HT_ ?_
                           refine pu_ 13 168 HT_ ?_
                           refine pu_ 14 169 HT_ ?_
                           refine pu_ 16 171 HT_ ?_
                           refine pu_ 17 172 HT_ ?_
                           refine pu_ 20 175 HT_ ?_
                           refine pu_ 22 177 HT_ ?_
                           refine tk_ 15 170 HT_ HW_ hHeld ?_ rfl rfl (by rintro w' ⟨s0, s1, s2, s3, s4, s5, s6, s7, s8⟩; go_simp; with_reducible rfl)
                           refine pu_ 18 173 HT_ ?_
                           refine tk_ 19 174 HT_ HW_ hHeld ?_ rfl rfl (by rintro w' ⟨s0, s1, s2, s3, s4, s5, s6, s7, s8⟩; go_simp; with_reducible rfl)
                           refine tk_ 21 176 HT_ HW_ hHeld ?_ rfl rfl (by rintro w' ⟨s0, s1, s2, s3, s4, s5, s6, s7, s8⟩; go_simp; with_reducible rfl)
                           refine pu_ 23 178 HT_ ?_
                           refine tk_ 24 179 HT_ HW_ hHeld ?_ rfl rfl (by rintro w' ⟨s0, s1, s2, s3, s4, s5, s6, s7, s8⟩; go_simp; with_reducible rfl)
                           refine one_ (i := 25) (N := some 180) #[o_,o_,o_,o_,o_,o_,o_,o_,o_,o_,o_,o_,o_,o_,o_,o_,o_,o_,o_,o_,o_,o_,o_,o_,o_,o_,x_,x_,x_] rfl rfl (one_of HT_.out (by kernel_rfl)) (by decide) (fun K hK => ?_)
                           refine goes_ Try.func65 (by kernel_rfl) rfl #[.agg #[.int .i64 ((rd_T91 l0_2 (ji89)).f0), .int .i64 ((rd_T91 l0_2 (ji89)).f1)], .agg #[.int .i64 ((rd_T91 l0_2 x11_5).f0), .int .i64 ((rd_T91 l0_2 x11_5).f1)]] (by rfl) rfl rfl (by (try simp only [List.map_toArray, List.map_cons, List.map_nil]); first | done | (simp only [hji89]; rfl) | rfl | (simp only [List.length_drop, List.length_take]; rfl)) ?_
                           with_reducible refine (spec_l08Before.calls ((rd_T91 l0_2 (ji89)).f0) ((rd_T91 l0_2 (ji89)).f1) ((rd_T91 l0_2 x11_5).f0) ((rd_T91 l0_2 x11_5).f1) false _ A92.out).mono ?_
                           rintro e w99 ⟨rfl, hb⟩
                           refine ⟨_, rfl, ?_⟩
                           replace BK158 := Aside0.mk (blk_below (up_ BK158.out) hb)
                           replace HB := Aside0.mk (below_step bl_ hb)
                           (try clear hb)
                           (try clear hb2)
                           (try clear hk)
                           (try clear hi)
                           refine hK.out _ _ ⟨(blk_cell BK158.out 0).trans rfl, (blk_cell BK158.out 1).trans rfl, (blk_cell BK158.out 2).trans rfl, ((HB.out.cell (World.block_lt_of_cell? w _ hw176_0)).trans hw176_0), ((HB.out.cell (World.block_lt_of_cell? w _ hw176_1)).trans hw176_1), ((HB.out.cell (World.block_lt_of_cell? w _ hw177_0)).trans hw177_0), ((HB.out.cell (World.block_lt_of_cell? w _ hw177_1)).trans hw177_1), ((HB.out.cell (World.block_lt_of_cell? w _ hw178_0)).trans hw178_0), ((HB.out.cell (World.block_lt_of_cell? w _ hw178_1)).trans hw178_1)⟩ (fun hHeld => ?_)
                           clear hK K
                           refine norm_ (a' := ?_) ?_ ?_
                           rotate_left
                           ·
                            show Act.put _ (some 180) _ = _
                            simp only [Act.put, List.setIfInBounds_toArray, List.set_cons_zero, List.set_cons_succ, i64_w, i32_w]
                            rfl
                           refine pu_ 26 181 HT_ ?_
                           refine pu_ 27 182 HT_ ?_
                           refine pu_ 28 183 HT_ ?_
                           refine done_ (done_of HT_.out (by kernel_rfl)) ?_
                           try go_wp2
                           go_ret
                           exact ⟨by first | rfl | (simp [errW_none, errW_some] <;> rfl) | (simp only [← hji89]; first | rfl | (simp [errW_none, errW_some] <;> rfl)) | (simp [*, errW_none, errW_some] <;> rfl), bl_⟩
                         ·
                          rw [if_neg c91] at H
                          exact absurd H (by simp)
                        ·
                         rw [if_neg c90] at H
                         exact absurd H (by simp)
                       ·
                        rw [if_neg c88] at H
                        have c88b0 : decide (0 < x11_5) = false := decide_eq_false c88
                        clear c88
                        have H' := Aside0.mk H
                        clear H
                        have hcz100_0 : wr.cell? ⟨gb158, 0, none⟩ = some (.int .i64 a0_0) := (blk_cell BK158.out 0).trans rfl
                        have hcz100_1 : wr.cell? ⟨gb158, 1, none⟩ = some (.slice A0_1 l0_1.length c0_1) := (blk_cell BK158.out 1).trans rfl
                        have hcz100_2 : wr.cell? ⟨gb158, 2, none⟩ = some (.slice A0_2 l0_2.length c0_2) := (blk_cell BK158.out 2).trans rfl
                        have hfz100_0 := blk_frozen BK158.out 0
                        have hfz100_1 := blk_frozen BK158.out 1
                        have hfz100_2 := blk_frozen BK158.out 2
                        try go_wp2
                        replace BK158 := Aside0.mk (blk_drew BK158.out)
                        replace HB := Aside0.mk (below_drew1 HB.out)
                        have p176 : 0 ≤ (x11_5 : Int) := ds_
                        have q176 : x11_5 < (l0_2.length : Int) := ds_
                        obtain ⟨ad176, e176, hx176_0, hx176_1⟩ := at_T91 HR0_2.out x11_5 p176 q176
                        have hw176_1 := hx176_1
                        have hw176_0 := hx176_0
                        cases e176
                        replace hx176_0 := (HB.out.cell (World.block_lt_of_cell? w _ hx176_0)).trans hx176_0
                        replace hx176_1 := (HB.out.cell (World.block_lt_of_cell? w _ hx176_1)).trans hx176_1
                        replace p176 := eq_true p176
                        replace q176 := eq_true q176
                        refine start_ (n := 29) (S := fun w' => w'.cell? ⟨gb158, 0, none⟩ = some (.int .i64 a0_0) ∧ w'.cell? ⟨gb158, 1, none⟩ = some (.slice A0_1 l0_1.length c0_1) ∧ w'.cell? ⟨gb158, 2, none⟩ = some (.slice (some ad176) l0_2.length c0_2) ∧ w'.cell? (ad176.add ((x11_5).toNat * 2)) = some (.int .i64 ((rd_T91 l0_2 x11_5).f0)) ∧ w'.cell? ⟨(ad176.add ((x11_5).toNat * 2)).block, (ad176.add ((x11_5).toNat * 2)).off + 1, none⟩ = some (.int .i64 ((rd_T91 l0_2 x11_5).f1))) (ds := []) #[false, false, false, false, false, false, false, false, false, false, false, false, false, false, false, false, false, false, false, false, false, false, false, false, false, false, false, false, false] (by kernel_rfl) rfl rfl ⟨(blk_cell BK158.out 0).trans rfl, (blk_cell BK158.out 1).trans rfl, (blk_cell BK158.out 2).trans rfl, ((HB.out.cell (World.block_lt_of_cell? w _ hw176_0)).trans hw176_0), ((HB.out.cell (World.block_lt_of_cell? w _ hw176_1)).trans hw176_1)⟩ (fun hHeld => ?_); refine with_tabW spec_WheelRight.tab33 spec_WheelRight.bits33 (fun HT_ HW_ => ?_)
                        generalize wr.drew = w101 at BK158 HB hx176_0 hx176_1 hHeld ⊢
                        refine pu_ 0 155 HT_ ?_
                        refine pu_ 2 157 HT_ ?_
                        refine pu_ 6 161 HT_ ?_
                        refine tk_ 1 156 HT_ HW_ hHeld ?_ rfl rfl (by rintro w' ⟨s0, s1, s2, s3, s4⟩; go_simp; with_reducible rfl)
                        refine pu_ 3 158 HT_ ?_
                        refine pu_ 4 159 HT_ ?_
                        refine tk_ 5 160 HT_ HW_ hHeld ?_ rfl rfl (by rintro w' ⟨s0, s1, s2, s3, s4⟩; go_simp; with_reducible rfl)
                        refine tk_ 7 162 HT_ HW_ hHeld ?_ rfl rfl (by rintro w' ⟨s0, s1, s2, s3, s4⟩; go_simp; with_reducible rfl)
                        refine pu_ 8 163 HT_ ?_
                        refine pu_ 9 164 HT_ ?_
                        refine pu_ 10 165 HT_ ?_
                        refine pu_ 11 166 HT_ ?_
                        refine pu_ 12 167 HT_ ?_
                        refine pu_ 13 168 HT_ ?_
                        refine pn_ 14 169 HT_ ?_
                        refine pn_ 15 170 HT_ ?_
                        refine pn_ 16 171 HT_ ?_
                        refine pn_ 17 172 HT_ ?_
                        refine pn_ 18 173 HT_ ?_
                        refine pn_ 19 174 HT_ ?_
                        refine pn_ 20 175 HT_ ?_
                        refine pn_ 21 176 HT_ ?_
                        refine pn_ 22 177 HT_ ?_
                        refine pn_ 23 178 HT_ ?_
                        refine pn_ 24 179 HT_ ?_
                        refine pn_ 25 180 HT_ ?_
                        refine pn_ 26 181 HT_ ?_
                        refine pu_ 27 182 HT_ ?_
                        refine pu_ 28 183 HT_ ?_
                        refine done_ (done_of HT_.out (by kernel_rfl)) ?_
                        try go_wp2
                        go_roundg k5
                        case measure => have := HJ1.out; have := HK2.out; have := HK3.out; have := HK4.out; have := HK5.out; omega
                        case rel => exact ⟨(wrap64 (x11_5 + 1)), (by first | rfl | (simp; done) | (simp [*]; done)), H', ⟨by have := HJ1.out; have := HK2.out; have := HK3.out; have := HK4.out; have := HK5.out; omega⟩, ⟨up_ BK158.out⟩, ⟨bl_⟩⟩
                     ·
                      rw [if_neg c84] at H
                      exact absurd H (by simp)
                    ·
                     rw [if_neg c83] at H
                     have c83b0 : decide (x11_5 < (l0_2.length : Int)) = false := decide_eq_false c83
                     clear c83
                     obtain rfl := Option.some.inj H
                     have hcz102_0 : wr.cell? ⟨gb158, 0, none⟩ = some (.int .i64 a0_0) := (blk_cell BK158.out 0).trans rfl
                     have hcz102_1 : wr.cell? ⟨gb158, 1, none⟩ = some (.slice A0_1 l0_1.length c0_1) := (blk_cell BK158.out 1).trans rfl
                     have hcz102_2 : wr.cell? ⟨gb158, 2, none⟩ = some (.slice A0_2 l0_2.length c0_2) := (blk_cell BK158.out 2).trans rfl
                     have hfz102_0 := blk_frozen BK158.out 0
                     have hfz102_1 := blk_frozen BK158.out 1
                     have hfz102_2 := blk_frozen BK158.out 2
                     go_wp2
                     go_ret
                     exact ⟨by first | rfl | (simp [errW_none, errW_some] <;> rfl) | (simp [*, errW_none, errW_some] <;> rfl), bl_⟩

end Go.Proofs.Ytenlceojmjkbkaa.XFnExactWheelDrop
