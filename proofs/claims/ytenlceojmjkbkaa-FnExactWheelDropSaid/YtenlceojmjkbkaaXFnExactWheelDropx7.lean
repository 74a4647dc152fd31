/- Functions that FnExactWheelDrop comes to, as Lean functions with their contracts: written by the prover's own program (wip/tpl/myprint.py) over the kit's printer, some contracts by hand. Conditions: none. -/
import Derived.Test.YtenlceojmjkbkaaXFnExactWheelDropx0
import Derived.Test.YtenlceojmjkbkaaXFnExactWheelDropx4
import Derived.Test.YtenlceojmjkbkaaXFnExactWheelDropx5
import Derived.Test.YtenlceojmjkbkaaXFnExactWheelDropx6
namespace Go.Proofs.Ytenlceojmjkbkaa.XFnExactWheelDrop
open Go.RowKit Go.Proofs.YtenlceojmjkbkaaW.PrintWords Go.Proofs.YtenlceojmjkbkaaW.PrintLast Go.Proofs.YtenlceojmjkbkaaW.PrintMore
attribute [local go_sem] max2_int min2_int max_two min_two max_three min_three max_four min_four   -- for this text's walks alone
set_option linter.unusedVariables false
set_option linter.unusedSimpArgs false

/-! ### impl_WheelRight: function 25 -/
mutual
def impl_WheelRight.j0 : Nat → Bool → Int → List (List (S91)) → List (S91) → Option (Bool)
 | 0, _, _, _, _ => none
 | k + 1, x22, x253000, x253001, x253002 => if x22 = true then (some false) else (impl_WheelRight.l0 k (x253002.length : Int) x253001 (x253001.length : Int) 0 x253000 x253001 x253002)
def impl_WheelRight.l0 : Nat → Int → List (List (S91)) → Int → Int → Int → List (List (S91)) → List (S91) → Option (Bool)
 | 0, _, _, _, _, _, _, _ => none
 | k + 1, x3, x27, x28, x29, x253000, x253001, x253002 => if x29 < x28 then (if 0 ≤ x29 then (if x29 < (x27.length : Int) then (impl_WheelRight.l1 k (wrap64 (x3 + ((rd_L4 x27 x29).length : Int))) x29 (rd_L4 x27 x29) x27 x28 x29 (rd_L4 x27 x29) ((rd_L4 x27 x29).length : Int) 0 x253000 x253001 x253002) else (none)) else (none)) else (impl_WheelRight.l2 k x3 x253002 (x253002.length : Int) 0 x253000 x253001 x253002)
def impl_WheelRight.l1 : Nat → Int → Int → List (S91) → List (List (S91)) → Int → Int → List (S91) → Int → Int → Int → List (List (S91)) → List (S91) → Option (Bool)
 | 0, _, _, _, _, _, _, _, _, _, _, _, _ => none
 | k + 1, x3, x4, x5, x27, x28, x29, x38, x39, x40, x253000, x253001, x253002 => if x40 < x39 then (if 0 ≤ x40 then (if x40 < (x38.length : Int) then ((impl_in.f ((rd_T91 x38 x40).f1) (wrap64 (x253000 + 1)) (wrap64 (x253000 + 16))).bind fun t257 => (if t257 = true then (if ((rd_T91 x38 x40).f1) > 1000000 then (some false) else (if (Int.tmod ((rd_T91 x38 x40).f1) 16) = x4 then (if x40 > 0 then (if 0 ≤ (wrap64 (x40 - 1)) then (if (wrap64 (x40 - 1)) < (x5.length : Int) then (if ((rd_T91 x5 (wrap64 (x40 - 1))).f0) ≥ ((rd_T91 x38 x40).f0) then (some false) else (impl_WheelRight.l1 k x3 x4 x5 x27 x28 x29 x38 x39 (wrap64 (x40 + 1)) x253000 x253001 x253002)) else (none)) else (none)) else (impl_WheelRight.l1 k x3 x4 x5 x27 x28 x29 x38 x39 (wrap64 (x40 + 1)) x253000 x253001 x253002)) else (some false))) else (some false))) else (none)) else (none)) else (impl_WheelRight.l0 k x3 x27 x28 (wrap64 (x29 + 1)) x253000 x253001 x253002)
def impl_WheelRight.l2 : Nat → Int → List (S91) → Int → Int → Int → List (List (S91)) → List (S91) → Option (Bool)
 | 0, _, _, _, _, _, _, _ => none
 | k + 1, x3, x85, x86, x87, x253000, x253001, x253002 => if x87 < x86 then (if 0 ≤ x87 then (if x87 < (x85.length : Int) then ((impl_in.f ((rd_T91 x85 x87).f1) (wrap64 ((wrap64 (x253000 + 16)) + 1)) 1000000).bind fun t261 => (if t261 = true then (if x87 > 0 then (if 0 ≤ (wrap64 (x87 - 1)) then (if (wrap64 (x87 - 1)) < (x253002.length : Int) then ((impl_byTime.f k ((rd_T91 x253002 (wrap64 (x87 - 1))).f0) ((rd_T91 x253002 (wrap64 (x87 - 1))).f1) ((rd_T91 x85 x87).f0) ((rd_T91 x85 x87).f1)).bind fun t263 => (if t263 ≥ 0 then (some false) else (impl_WheelRight.l2 k x3 x85 x86 (wrap64 (x87 + 1)) x253000 x253001 x253002))) else (none)) else (none)) else (impl_WheelRight.l2 k x3 x85 x86 (wrap64 (x87 + 1)) x253000 x253001 x253002)) else (some false))) else (none)) else (none)) else (if x3 > 100 then (some false) else ((impl_Wheel_all.f x253000 x253001 x253002).bind fun t264 => ((impl_Timer_71.f t264).bind fun t267 => (impl_WheelRight.l3 k t267 t267 (t267.length : Int) 0))))
def impl_WheelRight.l3 : Nat → List (S91) → List (S91) → Int → Int → Option (Bool)
 | 0, _, _, _, _ => none
 | k + 1, x10, x122, x123, x124 => if x124 < x123 then (if 0 ≤ x124 then (if x124 < (x122.length : Int) then ((impl_isId.f ((rd_T91 x122 x124).f0)).bind fun t272 => (if t272 = true then (if x124 > 0 then (if 0 ≤ (wrap64 (x124 - 1)) then (if (wrap64 (x124 - 1)) < (x10.length : Int) then (if ((rd_T91 x10 (wrap64 (x124 - 1))).f0) = ((rd_T91 x122 x124).f0) then (some false) else (impl_WheelRight.l3 k x10 x122 x123 (wrap64 (x124 + 1)))) else (none)) else (none)) else (impl_WheelRight.l3 k x10 x122 x123 (wrap64 (x124 + 1)))) else (some false))) else (none)) else (none)) else (some true)
end
def impl_WheelRight.f (k : Nat) (a0_0 : Int) (l0_1 : List (List (S91))) (l0_2 : List (S91)) : Option (Bool) := (impl_isTime.f a0_0).bind fun t253 => (if t253 = true then (impl_WheelRight.j0 k ((l0_1.length : Int) != 16) a0_0 l0_1 l0_2) else (impl_WheelRight.j0 k true a0_0 l0_1 l0_2))
def impl_WheelRight.T11 : Bool × List (List Nat × List Nat) := (true, [([], []), ([0], [0]), ([], []), ([2], [2]), ([3], [3]), ([], []), ([5], [5]), ([6], [6]), ([1, 4, 7], [1, 4, 7]), ([8], [8]), ([9, 8], [9]), ([10], [10]), ([11, 10], [10, 11]), ([12, 10], [10, 12]), ([10, 13], [10, 13]), ([14, 10], [14]), ([15], [15]), ([16, 15], [15, 16]), ([17, 15], [15, 17]), ([15], [15]), ([18, 19, 15], [15, 18, 19]), ([15, 20], [15, 20]), ([21, 15], [21]), ([22], [22]), ([23, 22], [22, 23]), ([24, 22, 22], [22, 24]), ([25], [25]), ([25], [25]), ([27, 25], [25, 27]), ([26, 28, 25], [25, 26, 28]), ([29, 25], [25, 29]), ([30, 25], [25, 30]), ([25], [25]), ([32, 25], [25, 32]), ([31, 33, 25], [25, 31, 33]), ([25, 34, 22], [22, 25, 34]), ([22, 35], [22, 35])])
def impl_WheelRight.B11 : List Nat := [0, 1, 0, 4, 12, 0, 32, 96, 255, 511, 1023, 2047, 4095, 8191, 16383, 32767, 65535, 131071, 262143, 65535, 1048575, 2097151, 4194303, 8388607, 16777215, 33554431, 67108863, 67108863, 201326591, 536870911, 1073741823, 2147483647, 67108863, 4362076159, 17179869183, 34359738367, 68719476735]
theorem impl_WheelRight.tab11 : rtab .any (opsOf Try.f25 11) = impl_WheelRight.T11 := by kernel_rfl
theorem impl_WheelRight.bits11 : waitsOk impl_WheelRight.T11.2 impl_WheelRight.B11 = true := by kernel_rfl
def impl_WheelRight.T18 : Bool × List (List Nat × List Nat) := (true, [([], []), ([0], [0]), ([], []), ([2], [2]), ([3], [3]), ([4], [4]), ([1, 5], [1, 5]), ([6], [6]), ([7, 6], [7]), ([8], [8]), ([9, 8], [8, 9]), ([10, 8, 8], [8, 10]), ([11], [11]), ([12, 11], [11, 12]), ([11], [11]), ([14, 11], [11, 14]), ([13, 15, 11], [11, 13, 15]), ([16, 11], [11, 16]), ([11], [11]), ([17, 18, 11, 11], [11, 17, 18]), ([19, 11], [11, 19]), ([11, 20, 8], [8, 11, 20]), ([8, 21], [8, 21])])
def impl_WheelRight.B18 : List Nat := [0, 1, 0, 4, 12, 28, 63, 127, 255, 511, 1023, 2047, 4095, 8191, 4095, 20479, 65535, 131071, 4095, 524287, 1048575, 2097151, 4194303]
theorem impl_WheelRight.tab18 : rtab .any (opsOf Try.f25 18) = impl_WheelRight.T18 := by kernel_rfl
theorem impl_WheelRight.bits18 : waitsOk impl_WheelRight.T18.2 impl_WheelRight.B18 = true := by kernel_rfl
def impl_WheelRight.T27 : Bool × List (List Nat × List Nat) := (true, [([], []), ([0], [0]), ([1], [1]), ([2], [2]), ([3, 2], [3]), ([4], [4]), ([5, 4], [4, 5]), ([6, 4, 4], [4, 6]), ([7], [7]), ([7], [7]), ([9, 7], [7, 9]), ([8, 10, 7], [7, 8, 10]), ([11, 7], [7, 11]), ([12, 7], [7, 12]), ([7], [7]), ([14, 7], [7, 14]), ([13, 15, 7], [7, 13, 15]), ([7, 16, 4], [4, 7, 16]), ([4, 17], [4, 17])])
def impl_WheelRight.B27 : List Nat := [0, 1, 3, 7, 15, 31, 63, 127, 255, 255, 767, 2047, 4095, 8191, 255, 16639, 65535, 131071, 262143]
theorem impl_WheelRight.tab27 : rtab .any (opsOf Try.f25 27) = impl_WheelRight.T27 := by kernel_rfl
theorem impl_WheelRight.bits27 : waitsOk impl_WheelRight.T27.2 impl_WheelRight.B27 = true := by kernel_rfl
set_option maxHeartbeats 8000000 in
set_option maxRecDepth 100000 in
theorem impl_WheelRight.calls (k : Nat) (a0_0 : Int) (A0_1 : Option Addr) (c0_1 : Nat) (l0_1 : List (List (S91))) (A0_2 : Option Addr) (c0_2 : Nat) (l0_2 : List (S91)) (r : Bool) (w : World) (hr0_1 : Kd.C (Kd.slice 91 k91) w A0_1 l0_1.length l0_1) (hc0_1 : l0_1.length ≤ c0_1) (hr0_2 : Kd.C k91 w A0_2 l0_2.length l0_2) (hc0_2 : l0_2.length ≤ c0_2) (h : impl_WheelRight.f k a0_0 l0_1 l0_2 = some r) :
  Calls Try.prog 25 #[.agg #[.int .i64 a0_0, .slice A0_1 l0_1.length c0_1, .slice A0_2 l0_2.length c0_2]] w fun e w' => e = .returned (.bool r) ∧ Below w.heap.size w w' := by
 have hu45 := Try.underlying45
 have hu91 := Try.underlying91
 have HR0_1 := Aside0.mk hr0_1
 have HC0_1 := Aside0.mk hc0_1
 clear hr0_1 hc0_1
 have HR0_2 := Aside0.mk hr0_2
 have HC0_2 := Aside0.mk hc0_2
 clear hr0_2 hc0_2
 have HB := Aside0.mk (Below.refl w.heap.size w)
 have H : ((impl_isTime.f a0_0).bind fun t253 => (if t253 = true then (impl_WheelRight.j0 k ((l0_1.length : Int) != 16) a0_0 l0_1 l0_2) else (impl_WheelRight.j0 k true a0_0 l0_1 l0_2))) = some r := h
 clear h
 have HC2 := Aside0.mk H
 clear H
 go_enter Try.func25, Try.ntmps25
 go_upto_region 1 with (first | ((with_reducible refine gate_dst (N := 1) rfl ?_); (try (refine gate_guard (by rfl) ?_; dsimp only)); refine box_event ?hg (N := 1) ?hd (cs := #[.int .i64 a0_0, .slice A0_1 l0_1.length c0_1, .slice A0_2 l0_2.length c0_2]) (t := 45) ?hr ?_; (case hd => rfl); (case hg => rfl); (case hr => first | (go_simp; done) | (go_simp; rfl)); intro gb252 hg w3 hbox hb; have n0_ := Aside0.mk (below_step bl_ hb); have n1_ := Aside0.mk (hbox); have n2_ := Aside0.mk ((by rw [hg]; exact (below_size bl_) : w.heap.size ≤ gb252)); have n3_ := Aside0.mk ((by rw [hg]; exact (below_size bl_) : w.heap.size ≤ gb252)); clear HB; have HB := n0_; have BK252 := n1_; have GW252 := n2_; have GE252 := n3_; clear n0_ n1_ n2_ n3_; clear hb hbox hg))
 (try simp only [Act.put, List.setIfInBounds_toArray, List.set_cons_zero, List.set_cons_succ])
 go_cut [22] (fun v22 wc => ∃ (kq : Nat) (x22_1 : Bool), v22 = .bool x22_1 ∧ Aside0 (impl_WheelRight.j0 kq x22_1 a0_0 l0_1 l0_2 = some r) ∧ Aside0 (kq ≤ k) ∧ Aside0 (wc.heap[gb252]? = some (.cells #[.int .i64 a0_0, (.slice A0_1 l0_1.length c0_1), (.slice A0_2 l0_2.length c0_2)] 45 (0, 0))) ∧ Aside0 (Below w.heap.size w wc))
 case first =>
  have H := HC2.out
  clear HC2
  replace H := Option.bind_eq_some_iff.mp H
  obtain ⟨t253, A40, H⟩ := H
  replace H : (if t253 = true then (impl_WheelRight.j0 k ((l0_1.length : Int) != 16) a0_0 l0_1 l0_2) else (impl_WheelRight.j0 k true a0_0 l0_1 l0_2)) = some r := H
  have A4 := Aside0.mk A40
  clear A40
  by_cases c5 : t253 = true
  ·
   subst c5
   have H1 : (impl_WheelRight.j0 k ((l0_1.length : Int) != 16) a0_0 l0_1 l0_2) = some r := by rw [if_pos rfl] at H; exact H
   clear H
   have H := H1
   clear H1
   have H' := Aside0.mk H
   clear H
   have hcz6_0 : w3.cell? ⟨gb252, 0, none⟩ = some (.int .i64 a0_0) := (blk_cell BK252.out 0).trans rfl
   have hcz6_1 : w3.cell? ⟨gb252, 1, none⟩ = some (.slice A0_1 l0_1.length c0_1) := (blk_cell BK252.out 1).trans rfl
   have hcz6_2 : w3.cell? ⟨gb252, 2, none⟩ = some (.slice A0_2 l0_2.length c0_2) := (blk_cell BK252.out 2).trans rfl
   have hfz6_0 := blk_frozen BK252.out 0
   have hfz6_1 := blk_frozen BK252.out 1
   have hfz6_2 := blk_frozen BK252.out 2
   go_wp2_with (first | ((with_reducible refine gate_callee (f := 68) rfl ?_); refine gL_ (some 15) Try.func68 #[.int .i64 a0_0] ?_; (with_reducible refine (impl_isTime.calls a0_0 true _ A4.out).mono ?_); rintro e w' ⟨rfl, ⟨nd, rfl⟩⟩; refine ⟨_, rfl, ?_⟩))
   go_meet
   case rel => exact ⟨_, (((l0_1.length : Int) != 16)), (by first | rfl | (simp; done) | (simp [*]; done)), H', ⟨by first | omega | exact Nat.le_refl _⟩, ⟨up_ BK252.out⟩, ⟨bl_⟩⟩
  ·
   replace c5 := Bool.eq_false_iff.mpr c5
   subst c5
   have H1 : (impl_WheelRight.j0 k true a0_0 l0_1 l0_2) = some r := by rw [if_neg (show ¬ (false = true) by decide)] at H; exact H
   clear H
   have H := H1
   clear H1
   have H' := Aside0.mk H
   clear H
   have hcz7_0 : w3.cell? ⟨gb252, 0, none⟩ = some (.int .i64 a0_0) := (blk_cell BK252.out 0).trans rfl
   have hcz7_1 : w3.cell? ⟨gb252, 1, none⟩ = some (.slice A0_1 l0_1.length c0_1) := (blk_cell BK252.out 1).trans rfl
   have hcz7_2 : w3.cell? ⟨gb252, 2, none⟩ = some (.slice A0_2 l0_2.length c0_2) := (blk_cell BK252.out 2).trans rfl
   have hfz7_0 := blk_frozen BK252.out 0
   have hfz7_1 := blk_frozen BK252.out 1
   have hfz7_2 := blk_frozen BK252.out 2
   go_wp2_with (first | ((with_reducible refine gate_callee (f := 68) rfl ?_); refine gL_ (some 15) Try.func68 #[.int .i64 a0_0] ?_; (with_reducible refine (impl_isTime.calls a0_0 false _ A4.out).mono ?_); rintro e w' ⟨rfl, ⟨nd, rfl⟩⟩; refine ⟨_, rfl, ?_⟩))
   go_meet
   case rel => exact ⟨_, (true), (by first | rfl | (simp; done) | (simp [*]; done)), H', ⟨by first | omega | exact Nat.le_refl _⟩, ⟨up_ BK252.out⟩, ⟨bl_⟩⟩
 case rest =>
  clear HC2
  try clear c2
  try clear p2
  try clear c5
  try clear c6
  try clear hcz6_0
  try clear hcz6_1
  try clear hcz6_2
  try clear hcz7_0
  try clear hcz7_1
  try clear hcz7_2
  try clear hfz6_0
  try clear hfz6_1
  try clear hfz6_2
  try clear hfz7_0
  try clear hfz7_1
  try clear hfz7_2
  obtain ⟨kq, x22_1, rfl, HA, HJ1, BK252, HB⟩ := hcut
  cases kq with
  | zero => exact absurd HA.out (by simp [impl_WheelRight.j0])
  | succ kj1 =>
   have H := HA.out
   clear HA
   simp only [impl_WheelRight.j0] at H
   by_cases c8 : x22_1 = true
   ·
    subst c8
    have H1 : (some false) = some r := by rw [if_pos rfl] at H; exact H
    clear H
    have H := H1
    clear H1
    obtain rfl := Option.some.inj H
    go_wp2
    go_ret
    exact ⟨by first | rfl | (simp [errW_none, errW_some] <;> rfl) | (simp [*, errW_none, errW_some] <;> rfl), bl_⟩
   ·
    replace c8 := Bool.eq_false_iff.mpr c8
    subst c8
    have H1 : (impl_WheelRight.l0 kj1 (l0_2.length : Int) l0_1 (l0_1.length : Int) 0 a0_0 l0_1 l0_2) = some r := by rw [if_neg (show ¬ (false = true) by decide)] at H; exact H
    clear H
    have H := H1
    clear H1
    have H' := Aside0.mk H
    clear H
    have hcz9_0 : wc.cell? ⟨gb252, 0, none⟩ = some (.int .i64 a0_0) := (blk_cell BK252.out 0).trans rfl
    have hcz9_1 : wc.cell? ⟨gb252, 1, none⟩ = some (.slice A0_1 l0_1.length c0_1) := (blk_cell BK252.out 1).trans rfl
    have hcz9_2 : wc.cell? ⟨gb252, 2, none⟩ = some (.slice A0_2 l0_2.length c0_2) := (blk_cell BK252.out 2).trans rfl
    have hfz9_0 := blk_frozen BK252.out 0
    have hfz9_1 := blk_frozen BK252.out 1
    have hfz9_2 := blk_frozen BK252.out 2
    go_wp2
    go_loopg [3, 29] kj1 (fun kq v3 v29 w' => ∃ (x3_2 : Int) (x29_2 : Int), v3 = .int .i64 x3_2 ∧ v29 = .int .i64 x29_2 ∧ Aside0 (impl_WheelRight.l0 kq x3_2 l0_1 (l0_1.length : Int) x29_2 a0_0 l0_1 l0_2 = some r) ∧ Aside0 (kq ≤ kj1) ∧ Aside0 (w'.heap[gb252]? = some (.cells #[.int .i64 a0_0, (.slice A0_1 l0_1.length c0_1), (.slice A0_2 l0_2.length c0_2)] 45 (0, 0))) ∧ Aside0 (Below w.heap.size w w'))
    case atStart => exact ⟨((l0_2.length : Int)), (0), (by first | rfl | (simp; done) | (simp [*]; done)), (by first | rfl | (simp; done) | (simp [*]; done)), H', ⟨Nat.le_refl _⟩, ⟨up_ BK252.out⟩, ⟨bl_⟩⟩
    case round =>
     as_aux_lemma =>
      clear H'
      try clear c2
      try clear p2
      try clear c5
      try clear c6
      try clear c8
      try clear hcz6_0
      try clear hcz6_1
      try clear hcz6_2
      try clear hcz7_0
      try clear hcz7_1
      try clear hcz7_2
      try clear hcz9_0
      try clear hcz9_1
      try clear hcz9_2
      try clear hfz6_0
      try clear hfz6_1
      try clear hfz6_2
      try clear hfz7_0
      try clear hfz7_1
      try clear hfz7_2
      try clear hfz9_0
      try clear hfz9_1
      try clear hfz9_2
      try clear p2
      obtain ⟨x3_2, x29_2, rfl, rfl, HA, HK2, BK252, HB⟩ := hrel
      cases gk with
      | zero => exact absurd HA.out (by simp [impl_WheelRight.l0])
      | succ k2 =>
       have H := HA.out
       clear HA
       simp only [impl_WheelRight.l0] at H
       by_cases c10 : x29_2 < (l0_1.length : Int)
       ·
        rw [if_pos c10] at H
        have c10b0 : decide (x29_2 < (l0_1.length : Int)) = true := decide_eq_true c10
        clear c10
        by_cases c11 : 0 ≤ x29_2
        ·
         rw [if_pos c11] at H
         have c11b0 : decide (0 ≤ x29_2) = true := decide_eq_true c11
         clear c11
         by_cases c12 : x29_2 < (l0_1.length : Int)
         ·
          rw [if_pos c12] at H
          have c12b0 : decide (x29_2 < (l0_1.length : Int)) = true := decide_eq_true c12
          clear c12
          have H' := Aside0.mk H
          clear H
          have p254 : 0 ≤ (x29_2 : Int) := ds_
          have q254 : x29_2 < (l0_1.length : Int) := ds_
          obtain ⟨ad254, A254_0, c254_0, e254, hx254_0, hl254_0, hi254_0⟩ := at_L4 HR0_1.out x29_2 p254 q254
          cases e254
          replace hx254_0 := (HB.out.cell (World.block_lt_of_cell? w _ hx254_0)).trans hx254_0
          have HR254_0 := Aside0.mk hi254_0
          have HC254_0 := Aside0.mk hl254_0
          clear hi254_0 hl254_0
          replace p254 := eq_true p254
          replace q254 := eq_true q254
          go_wp2
          go_loopg [40] k2 (fun kq v40 w' => ∃ (x40_3 : Int), v40 = .int .i64 x40_3 ∧ Aside0 (impl_WheelRight.l1 kq (wrap64 (x3_2 + ((rd_L4 l0_1 x29_2).length : Int))) x29_2 (rd_L4 l0_1 x29_2) l0_1 (l0_1.length : Int) x29_2 (rd_L4 l0_1 x29_2) ((rd_L4 l0_1 x29_2).length : Int) x40_3 a0_0 l0_1 l0_2 = some r) ∧ Aside0 (kq ≤ k2) ∧ Aside0 (w'.heap[gb252]? = some (.cells #[.int .i64 a0_0, (.slice (some ad254) l0_1.length c0_1), (.slice A0_2 l0_2.length c0_2)] 45 (0, 0))) ∧ Aside0 (Below w.heap.size w w'))
          case atStart => exact ⟨(0), (by first | rfl | (simp; done) | (simp [*]; done)), H', ⟨Nat.le_refl _⟩, ⟨up_ BK252.out⟩, ⟨bl_⟩⟩
          case round =>
           as_aux_lemma =>
            clear H'
            try clear c1
            try clear c2
            try clear p2
            try clear q2
            try clear hx2
            try clear c5
            try clear c6
            try clear p6
            try clear c8
            try clear c10
            try clear c10b0
            try clear c11
            try clear c11b0
            try clear c12
            try clear c12b0
            try clear hcz6_0
            try clear hcz6_1
            try clear hcz6_2
            try clear hcz7_0
            try clear hcz7_1
            try clear hcz7_2
            try clear hcz9_0
            try clear hcz9_1
            try clear hcz9_2
            try clear hfz6_0
            try clear hfz6_1
            try clear hfz6_2
            try clear hfz7_0
            try clear hfz7_1
            try clear hfz7_2
            try clear hfz9_0
            try clear hfz9_1
            try clear hfz9_2
            try clear hx254_0
            try clear p2
            try clear p254
            try clear q254
            obtain ⟨x40_3, rfl, HA, HK3, BK252, HB⟩ := hrel
            cases gk with
            | zero => exact absurd HA.out (by simp [impl_WheelRight.l1])
            | succ k3 =>
             have H := HA.out
             clear HA
             simp only [impl_WheelRight.l1] at H
             by_cases c13 : x40_3 < ((rd_L4 l0_1 x29_2).length : Int)
             ·
              rw [if_pos c13] at H
              have c13b0 : decide (x40_3 < ((rd_L4 l0_1 x29_2).length : Int)) = true := decide_eq_true c13
              clear c13
              by_cases c14 : 0 ≤ x40_3
              ·
               rw [if_pos c14] at H
               have c14b0 : decide (0 ≤ x40_3) = true := decide_eq_true c14
               clear c14
               by_cases c15 : x40_3 < ((rd_L4 l0_1 x29_2).length : Int)
               ·
                rw [if_pos c15] at H
                have c15b0 : decide (x40_3 < ((rd_L4 l0_1 x29_2).length : Int)) = true := decide_eq_true c15
                clear c15
                replace H := Option.bind_eq_some_iff.mp H
                obtain ⟨t257, A160, H⟩ := H
                replace H : (if t257 = true then (if ((rd_T91 (rd_L4 l0_1 x29_2) x40_3).f1) > 1000000 then (some false) else (if (Int.tmod ((rd_T91 (rd_L4 l0_1 x29_2) x40_3).f1) 16) = x29_2 then (if x40_3 > 0 then (if 0 ≤ (wrap64 (x40_3 - 1)) then (if (wrap64 (x40_3 - 1)) < ((rd_L4 l0_1 x29_2).length : Int) then (if ((rd_T91 (rd_L4 l0_1 x29_2) (wrap64 (x40_3 - 1))).f0) ≥ ((rd_T91 (rd_L4 l0_1 x29_2) x40_3).f0) then (some false) else (impl_WheelRight.l1 k3 (wrap64 (x3_2 + ((rd_L4 l0_1 x29_2).length : Int))) x29_2 (rd_L4 l0_1 x29_2) l0_1 (l0_1.length : Int) x29_2 (rd_L4 l0_1 x29_2) ((rd_L4 l0_1 x29_2).length : Int) (wrap64 (x40_3 + 1)) a0_0 l0_1 l0_2)) else (none)) else (none)) else (impl_WheelRight.l1 k3 (wrap64 (x3_2 + ((rd_L4 l0_1 x29_2).length : Int))) x29_2 (rd_L4 l0_1 x29_2) l0_1 (l0_1.length : Int) x29_2 (rd_L4 l0_1 x29_2) ((rd_L4 l0_1 x29_2).length : Int) (wrap64 (x40_3 + 1)) a0_0 l0_1 l0_2)) else (some false))) else (some false)) = some r := H
                have A16 := Aside0.mk A160
                clear A160
                by_cases c17 : t257 = true
                ·
                 subst c17
                 have H1 : (if ((rd_T91 (rd_L4 l0_1 x29_2) x40_3).f1) > 1000000 then (some false) else (if (Int.tmod ((rd_T91 (rd_L4 l0_1 x29_2) x40_3).f1) 16) = x29_2 then (if x40_3 > 0 then (if 0 ≤ (wrap64 (x40_3 - 1)) then (if (wrap64 (x40_3 - 1)) < ((rd_L4 l0_1 x29_2).length : Int) then (if ((rd_T91 (rd_L4 l0_1 x29_2) (wrap64 (x40_3 - 1))).f0) ≥ ((rd_T91 (rd_L4 l0_1 x29_2) x40_3).f0) then (some false) else (impl_WheelRight.l1 k3 (wrap64 (x3_2 + ((rd_L4 l0_1 x29_2).length : Int))) x29_2 (rd_L4 l0_1 x29_2) l0_1 (l0_1.length : Int) x29_2 (rd_L4 l0_1 x29_2) ((rd_L4 l0_1 x29_2).length : Int) (wrap64 (x40_3 + 1)) a0_0 l0_1 l0_2)) else (none)) else (none)) else (impl_WheelRight.l1 k3 (wrap64 (x3_2 + ((rd_L4 l0_1 x29_2).length : Int))) x29_2 (rd_L4 l0_1 x29_2) l0_1 (l0_1.length : Int) x29_2 (rd_L4 l0_1 x29_2) ((rd_L4 l0_1 x29_2).length : Int) (wrap64 (x40_3 + 1)) a0_0 l0_1 l0_2)) else (some false))) = some r := by rw [if_pos rfl] at H; exact H
                 clear H
                 have H := H1
                 clear H1
                 by_cases c18 : ((rd_T91 (rd_L4 l0_1 x29_2) x40_3).f1) > 1000000
                 ·
                  rw [if_pos c18] at H
                  have c18b0 : decide (1000000 < ((rd_T91 (rd_L4 l0_1 x29_2) x40_3).f1)) = true := decide_eq_true c18
                  clear c18
                  obtain rfl := Option.some.inj H
                  have p255 : 0 ≤ (x40_3 : Int) := ds_
                  have q255 : x40_3 < ((rd_L4 l0_1 x29_2).length : Int) := ds_
                  obtain ⟨ad255, e255, hx255_0, hx255_1⟩ := at_T91 HR254_0.out x40_3 p255 q255
                  cases e255
                  replace hx255_0 := (HB.out.cell (World.block_lt_of_cell? w _ hx255_0)).trans hx255_0
                  replace hx255_1 := (HB.out.cell (World.block_lt_of_cell? w _ hx255_1)).trans hx255_1
                  replace p255 := eq_true p255
                  replace q255 := eq_true q255
                  try go_wp2_with (first | ((with_reducible refine gate_dst (N := 7) rfl ?_); (try (refine gate_guard (by rfl) ?_; dsimp only)); refine box_event ?hg (N := 7) ?hd (cs := #[.int .i64 0, .int .i64 0]) (t := 91) ?hr ?_; (case hd => rfl); (case hg => rfl); (case hr => first | (go_simp; done) | (go_simp; rfl)); intro gb256 hg w19 hbox hb; have n0_ := Aside0.mk (blk_below (up_ BK252.out) hb); have n1_ := Aside0.mk (below_step bl_ hb); have n2_ := Aside0.mk (hbox); have n3_ := Aside0.mk ((by rw [hg]; exact (below_size bl_) : w.heap.size ≤ gb256)); have n4_ := Aside0.mk ((by rw [hg]; exact (below_size bl_) : w.heap.size ≤ gb256)); have n5_ := Aside0.mk ((by rw [hg]; exact Nat.ne_of_lt (blk_lt (up_ BK252.out)) : gb252 ≠ gb256)); have n6_ := Aside0.mk ((by rw [hg]; exact Nat.ne_of_gt (blk_lt (up_ BK252.out)) : gb256 ≠ gb252)); clear BK252; clear HB; have BK252 := n0_; have HB := n1_; have BK256 := n2_; have GW256 := n3_; have GE256 := n4_; have NB252_256 := n5_; have NB256_252 := n6_; clear n0_ n1_ n2_ n3_ n4_ n5_ n6_; clear hb hbox hg; have hnb20 := NB256_252.out; have hnc20 := NB252_256.out; have hcz21_0 : w19.cell? ⟨gb256, 0, none⟩ = some (.int .i64 0) := (blk_cell BK256.out 0).trans rfl; have hcz21_1 : w19.cell? ⟨gb256, 1, none⟩ = some (.int .i64 0) := (blk_cell BK256.out 1).trans rfl; have hfz21_0 := blk_frozen BK256.out 0; have hfz21_1 := blk_frozen BK256.out 1))
                  have n0_ : Aside0 (((w19.setCell ⟨gb256, 0, none⟩ (.int .i64 ((rd_T91 (rd_L4 l0_1 x29_2) x40_3).f0))).setCell ⟨gb256, 1, none⟩ (.int .i64 ((rd_T91 (rd_L4 l0_1 x29_2) x40_3).f1))).heap[gb252]? = some (.cells #[.int .i64 a0_0, .slice (some ad254) l0_1.length c0_1, .slice A0_2 l0_2.length c0_2] 45 (0, 0))) := ⟨by (with_reducible repeat (first | refine blk_drewN ?_ _ | refine blk_drew ?_ | refine blk_alloc ?_ _)); refine blk_far ?_ NB252_256.out _; (with_reducible repeat (first | refine blk_drewN ?_ _ | refine blk_drew ?_ | refine blk_alloc ?_ _)); refine blk_far ?_ NB252_256.out _; (with_reducible repeat (first | refine blk_drewN ?_ _ | refine blk_drew ?_ | refine blk_alloc ?_ _)); exact BK252.out⟩
                  have n1_ : Aside0 (((w19.setCell ⟨gb256, 0, none⟩ (.int .i64 ((rd_T91 (rd_L4 l0_1 x29_2) x40_3).f0))).setCell ⟨gb256, 1, none⟩ (.int .i64 ((rd_T91 (rd_L4 l0_1 x29_2) x40_3).f1))).heap[gb256]? = some (.cells #[.int .i64 ((rd_T91 (rd_L4 l0_1 x29_2) x40_3).f0), .int .i64 ((rd_T91 (rd_L4 l0_1 x29_2) x40_3).f1)] 91 (0, 0))) := ⟨by (with_reducible repeat (first | refine blk_drewN ?_ _ | refine blk_drew ?_ | refine blk_alloc ?_ _)); refine blk_put (cs := #[.int .i64 ((rd_T91 (rd_L4 l0_1 x29_2) x40_3).f0), .int .i64 0]) ?_ 1 _ rfl; (with_reducible repeat (first | refine blk_drewN ?_ _ | refine blk_drew ?_ | refine blk_alloc ?_ _)); refine blk_put (cs := #[.int .i64 0, .int .i64 0]) ?_ 0 _ rfl; (with_reducible repeat (first | refine blk_drewN ?_ _ | refine blk_drew ?_ | refine blk_alloc ?_ _)); exact BK256.out⟩
                  have n2_ : Aside0 (Below w.heap.size w ((w19.setCell ⟨gb256, 0, none⟩ (.int .i64 ((rd_T91 (rd_L4 l0_1 x29_2) x40_3).f0))).setCell ⟨gb256, 1, none⟩ (.int .i64 ((rd_T91 (rd_L4 l0_1 x29_2) x40_3).f1)))) := ⟨bl_⟩
                  (try clear BK252)
                  (try clear BK256)
                  (try clear HB)
                  generalize ((w19.setCell ⟨gb256, 0, none⟩ (.int .i64 ((rd_T91 (rd_L4 l0_1 x29_2) x40_3).f0))).setCell ⟨gb256, 1, none⟩ (.int .i64 ((rd_T91 (rd_L4 l0_1 x29_2) x40_3).f1))) = w22 at n0_ n1_ n2_ ⊢
                  have BK252 := n0_
                  have BK256 := n1_
                  have HB := n2_
                  clear n0_ n1_ n2_
                  replace BK252 := Aside0.mk (blk_drew BK252.out)
                  replace BK256 := Aside0.mk (blk_drew BK256.out)
                  replace HB := Aside0.mk (below_drew1 HB.out)
                  refine start_ (n := 37) (S := fun w' => w'.cell? ⟨gb256, 0, none⟩ = some (.int .i64 ((rd_T91 (rd_L4 l0_1 x29_2) x40_3).f0)) ∧ w'.cell? ⟨gb256, 1, none⟩ = some (.int .i64 ((rd_T91 (rd_L4 l0_1 x29_2) x40_3).f1)) ∧ w'.cell? ⟨gb252, 0, none⟩ = some (.int .i64 a0_0) ∧ w'.cell? ⟨gb252, 1, none⟩ = some (.slice (some ad254) l0_1.length c0_1) ∧ w'.cell? ⟨gb252, 2, none⟩ = some (.slice A0_2 l0_2.length c0_2)) (ds := []) #[false, false, false, false, false, false, false, false, false, false, false, false, false, false, false, false, false, false, false, false, false, false, false, false, false, false, false, false, false, false, false, false, false, false, false, false, false] (by kernel_rfl) rfl rfl ⟨(blk_cell BK256.out 0).trans rfl, (blk_cell BK256.out 1).trans rfl, (blk_cell BK252.out 0).trans rfl, (blk_cell BK252.out 1).trans rfl, (blk_cell BK252.out 2).trans rfl⟩ (fun hHeld => ?_); refine with_tabW impl_WheelRight.tab11 impl_WheelRight.bits11 (fun HT_ HW_ => ?_)
                  generalize w22.drew = w23 at BK252 BK256 HB hHeld ⊢
                  refine pu_ 0 45 HT_ ?_
                  refine pu_ 2 47 HT_ ?_
                  refine pu_ 5 50 HT_ ?_
                  refine tk_ 1 46 HT_ HW_ hHeld ?_ rfl rfl (by rintro w' ⟨s0, s1, s2, s3, s4⟩; go_simp; with_reducible rfl)
                  refine tk_ 3 48 HT_ HW_ hHeld ?_ rfl rfl (by rintro w' ⟨s0, s1, s2, s3, s4⟩; go_simp; with_reducible rfl)
                  refine pu_ 4 49 HT_ ?_
                  refine tk_ 6 51 HT_ HW_ hHeld ?_ rfl rfl (by rintro w' ⟨s0, s1, s2, s3, s4⟩; go_simp; with_reducible rfl)
                  refine pu_ 7 52 HT_ ?_
                  refine one_ (i := 8) (N := some 53) #[o_,o_,o_,o_,o_,o_,o_,o_,o_,x_,x_,x_,x_,x_,x_,x_,x_,x_,x_,x_,x_,x_,x_,x_,x_,x_,x_,x_,x_,x_,x_,x_,x_,x_,x_,x_,x_] rfl rfl (one_of HT_.out (by kernel_rfl)) (by decide) (fun K hK => ?_)
                  refine goes_ Try.func69 (by kernel_rfl) rfl #[.int .i64 ((rd_T91 (rd_L4 l0_1 x29_2) x40_3).f1), .int .i64 (wrap64 (a0_0 + 1)), .int .i64 (wrap64 (a0_0 + 16))] (by rfl) rfl rfl (by (try simp only [List.map_toArray, List.map_cons, List.map_nil]); first | done | rfl | (simp only [List.length_drop, List.length_take]; rfl)) ?_
                  with_reducible refine (impl_in.calls ((rd_T91 (rd_L4 l0_1 x29_2) x40_3).f1) (wrap64 (a0_0 + 1)) (wrap64 (a0_0 + 16)) true _ A16.out).mono ?_
                  rintro e w' ⟨rfl, ⟨nd, rfl⟩⟩
                  refine ⟨_, rfl, ?_⟩
                  refine hK.out _ _ ⟨(blk_cell BK256.out 0).trans rfl, (blk_cell BK256.out 1).trans rfl, (blk_cell BK252.out 0).trans rfl, (blk_cell BK252.out 1).trans rfl, (blk_cell BK252.out 2).trans rfl⟩ (fun hHeld => ?_)
                  clear hK K
                  refine norm_ (a' := ?_) ?_ ?_
                  rotate_left
                  ·
                   show Act.put _ (some 53) _ = _
                   simp only [Act.put, List.setIfInBounds_toArray, List.set_cons_zero, List.set_cons_succ, i64_w, i32_w]
                   rfl
                  refine pu_ 9 54 HT_ ?_
                  refine pu_ 10 55 HT_ ?_
                  refine pu_ 11 56 HT_ ?_
                  refine tk_ 12 57 HT_ HW_ hHeld ?_ rfl rfl (by rintro w' ⟨s0, s1, s2, s3, s4⟩; go_simp; with_reducible rfl)
                  refine pu_ 13 58 HT_ ?_
                  refine pu_ 14 59 HT_ ?_
                  refine pu_ 15 60 HT_ ?_
                  refine pn_ 16 61 HT_ ?_
                  refine pn_ 17 62 HT_ ?_
                  refine pn_ 18 63 HT_ ?_
                  refine pn_ 19 64 HT_ ?_
                  refine pn_ 20 65 HT_ ?_
                  refine pu_ 21 66 HT_ ?_
                  refine pu_ 22 67 HT_ ?_
                  refine pn_ 23 68 HT_ ?_
                  refine pn_ 24 69 HT_ ?_
                  refine pn_ 25 70 HT_ ?_
                  refine pn_ 26 71 HT_ ?_
                  refine pn_ 27 72 HT_ ?_
                  refine pn_ 28 73 HT_ ?_
                  refine pn_ 29 74 HT_ ?_
                  refine pn_ 30 75 HT_ ?_
                  refine pn_ 31 76 HT_ ?_
                  refine pn_ 32 77 HT_ ?_
                  refine pn_ 33 78 HT_ ?_
                  refine pn_ 34 79 HT_ ?_
                  refine pn_ 35 80 HT_ ?_
                  refine pu_ 36 81 HT_ ?_
                  refine done_ (done_of HT_.out (by kernel_rfl)) ?_
                  try go_wp2
                  go_ret
                  exact ⟨by first | rfl | (simp [errW_none, errW_some] <;> rfl) | (simp [*, errW_none, errW_some] <;> rfl), bl_⟩
                 ·
                  rw [if_neg c18] at H
                  have c18b0 : decide (1000000 < ((rd_T91 (rd_L4 l0_1 x29_2) x40_3).f1)) = false := decide_eq_false c18
                  clear c18
                  by_cases c24 : (Int.tmod ((rd_T91 (rd_L4 l0_1 x29_2) x40_3).f1) 16) = x29_2
                  ·
                   rw [if_pos c24] at H
                   have c24b0 : ((Int.tmod ((rd_T91 (rd_L4 l0_1 x29_2) x40_3).f1) 16) == x29_2) = true := beq_iff_eq.mpr c24
                   have c24b1 : ((Int.tmod ((rd_T91 (rd_L4 l0_1 x29_2) x40_3).f1) 16) != x29_2) = false := bne_eq_false_iff_eq.mpr c24
                   clear c24
                   by_cases c25 : x40_3 > 0
                   ·
                    rw [if_pos c25] at H
                    have c25b0 : decide (0 < x40_3) = true := decide_eq_true c25
                    clear c25
                    obtain ⟨ji26, hji26⟩ : ∃ j_ : Int, (wrap64 (x40_3 - 1)) = j_ := ⟨_, rfl⟩
                    replace H : (if 0 ≤ (ji26) then (if (ji26) < ((rd_L4 l0_1 x29_2).length : Int) then (if ((rd_T91 (rd_L4 l0_1 x29_2) (ji26)).f0) ≥ ((rd_T91 (rd_L4 l0_1 x29_2) x40_3).f0) then (some false) else (impl_WheelRight.l1 k3 (wrap64 (x3_2 + ((rd_L4 l0_1 x29_2).length : Int))) x29_2 (rd_L4 l0_1 x29_2) l0_1 (l0_1.length : Int) x29_2 (rd_L4 l0_1 x29_2) ((rd_L4 l0_1 x29_2).length : Int) (wrap64 (x40_3 + 1)) a0_0 l0_1 l0_2)) else (none)) else (none)) = some r := by first | (rw [hji26] at H; exact H) | (simp only [hji26] at H ⊢; exact H)
                    (try rw [hji26] at A16)
                    have hji26w : (IntKind.i64.wrap (x40_3 - 1)) = ji26 := (i64_w _).trans hji26
                    by_cases c27 : 0 ≤ (ji26)
                    ·
                     rw [if_pos c27] at H
                     have c27b0 : decide (0 ≤ (ji26)) = true := decide_eq_true c27
                     clear c27
                     by_cases c28 : (ji26) < ((rd_L4 l0_1 x29_2).length : Int)
                     ·
                      rw [if_pos c28] at H
                      have c28b0 : decide ((ji26) < ((rd_L4 l0_1 x29_2).length : Int)) = true := decide_eq_true c28
                      clear c28
                      by_cases c29 : ((rd_T91 (rd_L4 l0_1 x29_2) (ji26)).f0) ≥ ((rd_T91 (rd_L4 l0_1 x29_2) x40_3).f0)
                      ·
                       rw [if_pos c29] at H
                       have c29b0 : decide (((rd_T91 (rd_L4 l0_1 x29_2) x40_3).f0) ≤ ((rd_T91 (rd_L4 l0_1 x29_2) (ji26)).f0)) = true := decide_eq_true c29
                       clear c29
                       obtain rfl := Option.some.inj H
                       have p255 : 0 ≤ (x40_3 : Int) := ds_
                       have q255 : x40_3 < ((rd_L4 l0_1 x29_2).length : Int) := ds_
                       obtain ⟨ad255, e255, hx255_0, hx255_1⟩ := at_T91 HR254_0.out x40_3 p255 q255
                       cases e255
                       replace hx255_0 := (HB.out.cell (World.block_lt_of_cell? w _ hx255_0)).trans hx255_0
                       replace hx255_1 := (HB.out.cell (World.block_lt_of_cell? w _ hx255_1)).trans hx255_1
                       replace p255 := eq_true p255
                       replace q255 := eq_true q255
                       try go_wp2_with (first | ((with_reducible refine gate_dst (N := 7) rfl ?_); (try (refine gate_guard (by rfl) ?_; dsimp only)); refine box_event ?hg (N := 7) ?hd (cs := #[.int .i64 0, .int .i64 0]) (t := 91) ?hr ?_; (case hd => rfl); (case hg => rfl); (case hr => first | (go_simp; done) | (go_simp; rfl)); intro gb256 hg w30 hbox hb; have n0_ := Aside0.mk (blk_below (up_ BK252.out) hb); have n1_ := Aside0.mk (below_step bl_ hb); have n2_ := Aside0.mk (hbox); have n3_ := Aside0.mk ((by rw [hg]; exact (below_size bl_) : w.heap.size ≤ gb256)); have n4_ := Aside0.mk ((by rw [hg]; exact (below_size bl_) : w.heap.size ≤ gb256)); have n5_ := Aside0.mk ((by rw [hg]; exact Nat.ne_of_lt (blk_lt (up_ BK252.out)) : gb252 ≠ gb256)); have n6_ := Aside0.mk ((by rw [hg]; exact Nat.ne_of_gt (blk_lt (up_ BK252.out)) : gb256 ≠ gb252)); clear BK252; clear HB; have BK252 := n0_; have HB := n1_; have BK256 := n2_; have GW256 := n3_; have GE256 := n4_; have NB252_256 := n5_; have NB256_252 := n6_; clear n0_ n1_ n2_ n3_ n4_ n5_ n6_; clear hb hbox hg; have hnb31 := NB256_252.out; have hnc31 := NB252_256.out; have hcz32_0 : w30.cell? ⟨gb256, 0, none⟩ = some (.int .i64 0) := (blk_cell BK256.out 0).trans rfl; have hcz32_1 : w30.cell? ⟨gb256, 1, none⟩ = some (.int .i64 0) := (blk_cell BK256.out 1).trans rfl; have hfz32_0 := blk_frozen BK256.out 0; have hfz32_1 := blk_frozen BK256.out 1))
                       have n0_ : Aside0 (((w30.setCell ⟨gb256, 0, none⟩ (.int .i64 ((rd_T91 (rd_L4 l0_1 x29_2) x40_3).f0))).setCell ⟨gb256, 1, none⟩ (.int .i64 ((rd_T91 (rd_L4 l0_1 x29_2) x40_3).f1))).heap[gb252]? = some (.cells #[.int .i64 a0_0, .slice (some ad254) l0_1.length c0_1, .slice A0_2 l0_2.length c0_2] 45 (0, 0))) := ⟨by (with_reducible repeat (first | refine blk_drewN ?_ _ | refine blk_drew ?_ | refine blk_alloc ?_ _)); refine blk_far ?_ NB252_256.out _; (with_reducible repeat (first | refine blk_drewN ?_ _ | refine blk_drew ?_ | refine blk_alloc ?_ _)); refine blk_far ?_ NB252_256.out _; (with_reducible repeat (first | refine blk_drewN ?_ _ | refine blk_drew ?_ | refine blk_alloc ?_ _)); exact BK252.out⟩
                       have n1_ : Aside0 (((w30.setCell ⟨gb256, 0, none⟩ (.int .i64 ((rd_T91 (rd_L4 l0_1 x29_2) x40_3).f0))).setCell ⟨gb256, 1, none⟩ (.int .i64 ((rd_T91 (rd_L4 l0_1 x29_2) x40_3).f1))).heap[gb256]? = some (.cells #[.int .i64 ((rd_T91 (rd_L4 l0_1 x29_2) x40_3).f0), .int .i64 ((rd_T91 (rd_L4 l0_1 x29_2) x40_3).f1)] 91 (0, 0))) := ⟨by (with_reducible repeat (first | refine blk_drewN ?_ _ | refine blk_drew ?_ | refine blk_alloc ?_ _)); refine blk_put (cs := #[.int .i64 ((rd_T91 (rd_L4 l0_1 x29_2) x40_3).f0), .int .i64 0]) ?_ 1 _ rfl; (with_reducible repeat (first | refine blk_drewN ?_ _ | refine blk_drew ?_ | refine blk_alloc ?_ _)); refine blk_put (cs := #[.int .i64 0, .int .i64 0]) ?_ 0 _ rfl; (with_reducible repeat (first | refine blk_drewN ?_ _ | refine blk_drew ?_ | refine blk_alloc ?_ _)); exact BK256.out⟩
                       have n2_ : Aside0 (Below w.heap.size w ((w30.setCell ⟨gb256, 0, none⟩ (.int .i64 ((rd_T91 (rd_L4 l0_1 x29_2) x40_3).f0))).setCell ⟨gb256, 1, none⟩ (.int .i64 ((rd_T91 (rd_L4 l0_1 x29_2) x40_3).f1)))) := ⟨bl_⟩
                       (try clear BK252)
                       (try clear BK256)
                       (try clear HB)
                       generalize ((w30.setCell ⟨gb256, 0, none⟩ (.int .i64 ((rd_T91 (rd_L4 l0_1 x29_2) x40_3).f0))).setCell ⟨gb256, 1, none⟩ (.int .i64 ((rd_T91 (rd_L4 l0_1 x29_2) x40_3).f1))) = w33 at n0_ n1_ n2_ ⊢
                       have BK252 := n0_
                       have BK256 := n1_
                       have HB := n2_
                       clear n0_ n1_ n2_
                       replace BK252 := Aside0.mk (blk_drew BK252.out)
                       replace BK256 := Aside0.mk (blk_drew BK256.out)
                       replace HB := Aside0.mk (below_drew1 HB.out)
                       have p258 : 0 ≤ ((ji26) : Int) := ds_
                       have q258 : (ji26) < ((rd_L4 l0_1 x29_2).length : Int) := ds_
                       obtain ⟨ad258, e258, hx258_0, hx258_1⟩ := at_T91 HR254_0.out (ji26) p258 q258
                       have hw258_1 := hx258_1
                       have hw258_0 := hx258_0
                       obtain rfl : ad255 = ad258 := (by injection e258)
                       replace hx258_0 := (HB.out.cell (World.block_lt_of_cell? w _ hx258_0)).trans hx258_0
                       replace hx258_1 := (HB.out.cell (World.block_lt_of_cell? w _ hx258_1)).trans hx258_1
                       replace p258 := eq_true p258
                       replace q258 := eq_true q258
                       refine start_ (n := 37) (S := fun w' => w'.cell? ⟨gb256, 0, none⟩ = some (.int .i64 ((rd_T91 (rd_L4 l0_1 x29_2) x40_3).f0)) ∧ w'.cell? ⟨gb256, 1, none⟩ = some (.int .i64 ((rd_T91 (rd_L4 l0_1 x29_2) x40_3).f1)) ∧ w'.cell? ⟨gb252, 0, none⟩ = some (.int .i64 a0_0) ∧ w'.cell? ⟨gb252, 1, none⟩ = some (.slice (some ad254) l0_1.length c0_1) ∧ w'.cell? ⟨gb252, 2, none⟩ = some (.slice A0_2 l0_2.length c0_2) ∧ w'.cell? (ad255.add (((ji26)).toNat * 2)) = some (.int .i64 ((rd_T91 (rd_L4 l0_1 x29_2) (ji26)).f0)) ∧ w'.cell? ⟨(ad255.add (((ji26)).toNat * 2)).block, (ad255.add (((ji26)).toNat * 2)).off + 1, none⟩ = some (.int .i64 ((rd_T91 (rd_L4 l0_1 x29_2) (ji26)).f1))) (ds := []) #[false, false, false, false, false, false, false, false, false, false, false, false, false, false, false, false, false, false, false, false, false, false, false, false, false, false, false, false, false, false, false, false, false, false, false, false, false] (by kernel_rfl) rfl rfl ⟨(blk_cell BK256.out 0).trans rfl, (blk_cell BK256.out 1).trans rfl, (blk_cell BK252.out 0).trans rfl, (blk_cell BK252.out 1).trans rfl, (blk_cell BK252.out 2).trans rfl, ((HB.out.cell (World.block_lt_of_cell? w _ hw258_0)).trans hw258_0), ((HB.out.cell (World.block_lt_of_cell? w _ hw258_1)).trans hw258_1)⟩ (fun hHeld => ?_); refine with_tabW impl_WheelRight.tab11 impl_WheelRight.bits11 (fun HT_ HW_ => ?_)
                       generalize w33.drew = w34 at BK252 BK256 HB hx258_0 hx258_1 hHeld ⊢
                       refine pu_ 0 45 HT_ ?_
                       refine pu_ 2 47 HT_ ?_
                       refine pu_ 5 50 HT_ ?_
                       refine tk_ 1 46 HT_ HW_ hHeld ?_ rfl rfl (by rintro w' ⟨s0, s1, s2, s3, s4, s5, s6⟩; go_simp; with_reducible rfl)
                       refine tk_ 3 48 HT_ HW_ hHeld ?_ rfl rfl (by rintro w' ⟨s0, s1, s2, s3, s4, s5, s6⟩; go_simp; with_reducible rfl)
                       refine pu_ 4 49 HT_ ?_
                       refine tk_ 6 51 HT_ HW_ hHeld ?_ rfl rfl (by rintro w' ⟨s0, s1, s2, s3, s4, s5, s6⟩; go_simp; with_reducible rfl)
                       refine pu_ 7 52 HT_ ?_
                       refine one_ (i := 8) (N := some 53) #[o_,o_,o_,o_,o_,o_,o_,o_,o_,x_,x_,x_,x_,x_,x_,x_,x_,x_,x_,x_,x_,x_,x_,x_,x_,x_,x_,x_,x_,x_,x_,x_,x_,x_,x_,x_,x_] rfl rfl (one_of HT_.out (by kernel_rfl)) (by decide) (fun K hK => ?_)
                       refine goes_ Try.func69 (by kernel_rfl) rfl #[.int .i64 ((rd_T91 (rd_L4 l0_1 x29_2) x40_3).f1), .int .i64 (wrap64 (a0_0 + 1)), .int .i64 (wrap64 (a0_0 + 16))] (by rfl) rfl rfl (by (try simp only [List.map_toArray, List.map_cons, List.map_nil]); first | done | rfl | (simp only [List.length_drop, List.length_take]; rfl)) ?_
                       with_reducible refine (impl_in.calls ((rd_T91 (rd_L4 l0_1 x29_2) x40_3).f1) (wrap64 (a0_0 + 1)) (wrap64 (a0_0 + 16)) true _ A16.out).mono ?_
                       rintro e w' ⟨rfl, ⟨nd, rfl⟩⟩
                       refine ⟨_, rfl, ?_⟩
                       refine hK.out _ _ ⟨(blk_cell BK256.out 0).trans rfl, (blk_cell BK256.out 1).trans rfl, (blk_cell BK252.out 0).trans rfl, (blk_cell BK252.out 1).trans rfl, (blk_cell BK252.out 2).trans rfl, ((HB.out.cell (World.block_lt_of_cell? w _ hw258_0)).trans hw258_0), ((HB.out.cell (World.block_lt_of_cell? w _ hw258_1)).trans hw258_1)⟩ (fun hHeld => ?_)
                       clear hK K
                       refine norm_ (a' := ?_) ?_ ?_
                       rotate_left
                       ·
                        show Act.put _ (some 53) _ = _
                        simp only [Act.put, List.setIfInBounds_toArray, List.set_cons_zero, List.set_cons_succ, i64_w, i32_w]
                        rfl
                       refine pu_ 9 54 HT_ ?_
                       refine pu_ 10 55 HT_ ?_
                       refine pu_ 11 56 HT_ ?_
                       refine tk_ 12 57 HT_ HW_ hHeld ?_ rfl rfl (by rintro w' ⟨s0, s1, s2, s3, s4, s5, s6⟩; go_simp; with_reducible rfl)
                       refine pu_ 13 58 HT_ ?_
                       refine pu_ 14 59 HT_ ?_
                       refine pu_ 15 60 HT_ ?_
                       refine pu_ 16 61 HT_ ?_
                       refine pu_ 19 64 HT_ ?_
                       refine tk_ 17 62 HT_ HW_ hHeld ?_ rfl rfl (by rintro w' ⟨s0, s1, s2, s3, s4, s5, s6⟩; go_simp; with_reducible rfl)
                       refine pu_ 18 63 HT_ ?_
                       refine pu_ 20 65 HT_ ?_
                       refine pu_ 21 66 HT_ ?_
                       refine pu_ 22 67 HT_ ?_
                       refine pu_ 23 68 HT_ ?_
                       refine pu_ 24 69 HT_ ?_
                       refine pu_ 25 70 HT_ ?_
                       refine pu_ 26 71 HT_ ?_
                       refine pu_ 27 72 HT_ ?_
                       refine pu_ 28 73 HT_ ?_
                       refine pu_ 29 74 HT_ ?_
                       refine pu_ 30 75 HT_ ?_
                       refine pu_ 32 77 HT_ ?_
                       refine tk_ 31 76 HT_ HW_ hHeld ?_ rfl rfl (by rintro w' ⟨s0, s1, s2, s3, s4, s5, s6⟩; go_simp; with_reducible rfl)
                       refine tk_ 33 78 HT_ HW_ hHeld ?_ rfl rfl (by rintro w' ⟨s0, s1, s2, s3, s4, s5, s6⟩; go_simp; with_reducible rfl)
                       refine pu_ 34 79 HT_ ?_
                       refine pu_ 35 80 HT_ ?_
                       refine pu_ 36 81 HT_ ?_
                       refine done_ (done_of HT_.out (by kernel_rfl)) ?_
                       try go_wp2
                       go_ret
                       exact ⟨by first | rfl | (simp [errW_none, errW_some] <;> rfl) | (simp only [← hji26]; first | rfl | (simp [errW_none, errW_some] <;> rfl)) | (simp [*, errW_none, errW_some] <;> rfl), bl_⟩
                      ·
                       rw [if_neg c29] at H
                       have c29b0 : decide (((rd_T91 (rd_L4 l0_1 x29_2) x40_3).f0) ≤ ((rd_T91 (rd_L4 l0_1 x29_2) (ji26)).f0)) = false := decide_eq_false c29
                       clear c29
                       have H' := Aside0.mk H
                       clear H
                       have p255 : 0 ≤ (x40_3 : Int) := ds_
                       have q255 : x40_3 < ((rd_L4 l0_1 x29_2).length : Int) := ds_
                       obtain ⟨ad255, e255, hx255_0, hx255_1⟩ := at_T91 HR254_0.out x40_3 p255 q255
                       cases e255
                       replace hx255_0 := (HB.out.cell (World.block_lt_of_cell? w _ hx255_0)).trans hx255_0
                       replace hx255_1 := (HB.out.cell (World.block_lt_of_cell? w _ hx255_1)).trans hx255_1
                       replace p255 := eq_true p255
                       replace q255 := eq_true q255
                       try go_wp2_with (first | ((with_reducible refine gate_dst (N := 7) rfl ?_); (try (refine gate_guard (by rfl) ?_; dsimp only)); refine box_event ?hg (N := 7) ?hd (cs := #[.int .i64 0, .int .i64 0]) (t := 91) ?hr ?_; (case hd => rfl); (case hg => rfl); (case hr => first | (go_simp; done) | (go_simp; rfl)); intro gb256 hg w35 hbox hb; have n0_ := Aside0.mk (blk_below (up_ BK252.out) hb); have n1_ := Aside0.mk (below_step bl_ hb); have n2_ := Aside0.mk (hbox); have n3_ := Aside0.mk ((by rw [hg]; exact (below_size bl_) : w.heap.size ≤ gb256)); have n4_ := Aside0.mk ((by rw [hg]; exact (below_size bl_) : w.heap.size ≤ gb256)); have n5_ := Aside0.mk ((by rw [hg]; exact Nat.ne_of_lt (blk_lt (up_ BK252.out)) : gb252 ≠ gb256)); have n6_ := Aside0.mk ((by rw [hg]; exact Nat.ne_of_gt (blk_lt (up_ BK252.out)) : gb256 ≠ gb252)); clear BK252; clear HB; have BK252 := n0_; have HB := n1_; have BK256 := n2_; have GW256 := n3_; have GE256 := n4_; have NB252_256 := n5_; have NB256_252 := n6_; clear n0_ n1_ n2_ n3_ n4_ n5_ n6_; clear hb hbox hg; have hnb36 := NB256_252.out; have hnc36 := NB252_256.out; have hcz37_0 : w35.cell? ⟨gb256, 0, none⟩ = some (.int .i64 0) := (blk_cell BK256.out 0).trans rfl; have hcz37_1 : w35.cell? ⟨gb256, 1, none⟩ = some (.int .i64 0) := (blk_cell BK256.out 1).trans rfl; have hfz37_0 := blk_frozen BK256.out 0; have hfz37_1 := blk_frozen BK256.out 1))
                       have n0_ : Aside0 (((w35.setCell ⟨gb256, 0, none⟩ (.int .i64 ((rd_T91 (rd_L4 l0_1 x29_2) x40_3).f0))).setCell ⟨gb256, 1, none⟩ (.int .i64 ((rd_T91 (rd_L4 l0_1 x29_2) x40_3).f1))).heap[gb252]? = some (.cells #[.int .i64 a0_0, .slice (some ad254) l0_1.length c0_1, .slice A0_2 l0_2.length c0_2] 45 (0, 0))) := ⟨by (with_reducible repeat (first | refine blk_drewN ?_ _ | refine blk_drew ?_ | refine blk_alloc ?_ _)); refine blk_far ?_ NB252_256.out _; (with_reducible repeat (first | refine blk_drewN ?_ _ | refine blk_drew ?_ | refine blk_alloc ?_ _)); refine blk_far ?_ NB252_256.out _; (with_reducible repeat (first | refine blk_drewN ?_ _ | refine blk_drew ?_ | refine blk_alloc ?_ _)); exact BK252.out⟩
                       have n1_ : Aside0 (((w35.setCell ⟨gb256, 0, none⟩ (.int .i64 ((rd_T91 (rd_L4 l0_1 x29_2) x40_3).f0))).setCell ⟨gb256, 1, none⟩ (.int .i64 ((rd_T91 (rd_L4 l0_1 x29_2) x40_3).f1))).heap[gb256]? = some (.cells #[.int .i64 ((rd_T91 (rd_L4 l0_1 x29_2) x40_3).f0), .int .i64 ((rd_T91 (rd_L4 l0_1 x29_2) x40_3).f1)] 91 (0, 0))) := ⟨by (with_reducible repeat (first | refine blk_drewN ?_ _ | refine blk_drew ?_ | refine blk_alloc ?_ _)); refine blk_put (cs := #[.int .i64 ((rd_T91 (rd_L4 l0_1 x29_2) x40_3).f0), .int .i64 0]) ?_ 1 _ rfl; (with_reducible repeat (first | refine blk_drewN ?_ _ | refine blk_drew ?_ | refine blk_alloc ?_ _)); refine blk_put (cs := #[.int .i64 0, .int .i64 0]) ?_ 0 _ rfl; (with_reducible repeat (first | refine blk_drewN ?_ _ | refine blk_drew ?_ | refine blk_alloc ?_ _)); exact BK256.out⟩
                       have n2_ : Aside0 (Below w.heap.size w ((w35.setCell ⟨gb256, 0, none⟩ (.int .i64 ((rd_T91 (rd_L4 l0_1 x29_2) x40_3).f0))).setCell ⟨gb256, 1, none⟩ (.int .i64 ((rd_T91 (rd_L4 l0_1 x29_2) x40_3).f1)))) := ⟨bl_⟩
                       (try clear BK252)
                       (try clear BK256)
                       (try clear HB)
                       generalize ((w35.setCell ⟨gb256, 0, none⟩ (.int .i64 ((rd_T91 (rd_L4 l0_1 x29_2) x40_3).f0))).setCell ⟨gb256, 1, none⟩ (.int .i64 ((rd_T91 (rd_L4 l0_1 x29_2) x40_3).f1))) = w38 at n0_ n1_ n2_ ⊢
                       have BK252 := n0_
                       have BK256 := n1_
                       have HB := n2_
                       clear n0_ n1_ n2_
                       replace BK252 := Aside0.mk (blk_drew BK252.out)
                       replace BK256 := Aside0.mk (blk_drew BK256.out)
                       replace HB := Aside0.mk (below_drew1 HB.out)
                       have p258 : 0 ≤ ((ji26) : Int) := ds_
                       have q258 : (ji26) < ((rd_L4 l0_1 x29_2).length : Int) := ds_
                       obtain ⟨ad258, e258, hx258_0, hx258_1⟩ := at_T91 HR254_0.out (ji26) p258 q258
                       have hw258_1 := hx258_1
                       have hw258_0 := hx258_0
                       obtain rfl : ad255 = ad258 := (by injection e258)
                       replace hx258_0 := (HB.out.cell (World.block_lt_of_cell? w _ hx258_0)).trans hx258_0
                       replace hx258_1 := (HB.out.cell (World.block_lt_of_cell? w _ hx258_1)).trans hx258_1
                       replace p258 := eq_true p258
                       replace q258 := eq_true q258
                       refine start_ (n := 37) (S := fun w' => w'.cell? ⟨gb256, 0, none⟩ = some (.int .i64 ((rd_T91 (rd_L4 l0_1 x29_2) x40_3).f0)) ∧ w'.cell? ⟨gb256, 1, none⟩ = some (.int .i64 ((rd_T91 (rd_L4 l0_1 x29_2) x40_3).f1)) ∧ w'.cell? ⟨gb252, 0, none⟩ = some (.int .i64 a0_0) ∧ w'.cell? ⟨gb252, 1, none⟩ = some (.slice (some ad254) l0_1.length c0_1) ∧ w'.cell? ⟨gb252, 2, none⟩ = some (.slice A0_2 l0_2.length c0_2) ∧ w'.cell? (ad255.add (((ji26)).toNat * 2)) = some (.int .i64 ((rd_T91 (rd_L4 l0_1 x29_2) (ji26)).f0)) ∧ w'.cell? ⟨(ad255.add (((ji26)).toNat * 2)).block, (ad255.add (((ji26)).toNat * 2)).off + 1, none⟩ = some (.int .i64 ((rd_T91 (rd_L4 l0_1 x29_2) (ji26)).f1))) (ds := []) #[false, false, false, false, false, false, false, false, false, false, false, false, false, false, false, false, false, false, false, false, false, false, false, false, false, false, false, false, false, false, false, false, false, false, false, false, false] (by kernel_rfl) rfl rfl ⟨(blk_cell BK256.out 0).trans rfl, (blk_cell BK256.out 1).trans rfl, (blk_cell BK252.out 0).trans rfl, (blk_cell BK252.out 1).trans rfl, (blk_cell BK252.out 2).trans rfl, ((HB.out.cell (World.block_lt_of_cell? w _ hw258_0)).trans hw258_0), ((HB.out.cell (World.block_lt_of_cell? w _ hw258_1)).trans hw258_1)⟩ (fun hHeld => ?_); refine with_tabW impl_WheelRight.tab11 impl_WheelRight.bits11 (fun HT_ HW_ => ?_)
                       generalize w38.drew = w39 at BK252 BK256 HB hx258_0 hx258_1 hHeld ⊢
                       refine pu_ 0 45 HT_ ?_
                       refine pu_ 2 47 HT_ ?_
                       refine pu_ 5 50 HT_ ?_
                       refine tk_ 1 46 HT_ HW_ hHeld ?_ rfl rfl (by rintro w' ⟨s0, s1, s2, s3, s4, s5, s6⟩; go_simp; with_reducible rfl)
                       refine tk_ 3 48 HT_ HW_ hHeld ?_ rfl rfl (by rintro w' ⟨s0, s1, s2, s3, s4, s5, s6⟩; go_simp; with_reducible rfl)
                       refine pu_ 4 49 HT_ ?_
                       refine tk_ 6 51 HT_ HW_ hHeld ?_ rfl rfl (by rintro w' ⟨s0, s1, s2, s3, s4, s5, s6⟩; go_simp; with_reducible rfl)
                       refine pu_ 7 52 HT_ ?_
                       refine one_ (i := 8) (N := some 53) #[o_,o_,o_,o_,o_,o_,o_,o_,o_,x_,x_,x_,x_,x_,x_,x_,x_,x_,x_,x_,x_,x_,x_,x_,x_,x_,x_,x_,x_,x_,x_,x_,x_,x_,x_,x_,x_] rfl rfl (one_of HT_.out (by kernel_rfl)) (by decide) (fun K hK => ?_)
                       refine goes_ Try.func69 (by kernel_rfl) rfl #[.int .i64 ((rd_T91 (rd_L4 l0_1 x29_2) x40_3).f1), .int .i64 (wrap64 (a0_0 + 1)), .int .i64 (wrap64 (a0_0 + 16))] (by rfl) rfl rfl (by (try simp only [List.map_toArray, List.map_cons, List.map_nil]); first | done | rfl | (simp only [List.length_drop, List.length_take]; rfl)) ?_
                       with_reducible refine (impl_in.calls ((rd_T91 (rd_L4 l0_1 x29_2) x40_3).f1) (wrap64 (a0_0 + 1)) (wrap64 (a0_0 + 16)) true _ A16.out).mono ?_
                       rintro e w' ⟨rfl, ⟨nd, rfl⟩⟩
                       refine ⟨_, rfl, ?_⟩
                       refine hK.out _ _ ⟨(blk_cell BK256.out 0).trans rfl, (blk_cell BK256.out 1).trans rfl, (blk_cell BK252.out 0).trans rfl, (blk_cell BK252.out 1).trans rfl, (blk_cell BK252.out 2).trans rfl, ((HB.out.cell (World.block_lt_of_cell? w _ hw258_0)).trans hw258_0), ((HB.out.cell (World.block_lt_of_cell? w _ hw258_1)).trans hw258_1)⟩ (fun hHeld => ?_)
                       clear hK K
                       refine norm_ (a' := ?_) ?_ ?_
                       rotate_left
                       ·
                        show Act.put _ (some 53) _ = _
                        simp only [Act.put, List.setIfInBounds_toArray, List.set_cons_zero, List.set_cons_succ, i64_w, i32_w]
                        rfl
                       refine pu_ 9 54 HT_ ?_
                       refine pu_ 10 55 HT_ ?_
                       refine pu_ 11 56 HT_ ?_
                       refine tk_ 12 57 HT_ HW_ hHeld ?_ rfl rfl (by rintro w' ⟨s0, s1, s2, s3, s4, s5, s6⟩; go_simp; with_reducible rfl)
                       refine pu_ 13 58 HT_ ?_
                       refine pu_ 14 59 HT_ ?_
                       refine pu_ 15 60 HT_ ?_
                       refine pu_ 16 61 HT_ ?_
                       refine pu_ 19 64 HT_ ?_
                       refine tk_ 17 62 HT_ HW_ hHeld ?_ rfl rfl (by rintro w' ⟨s0, s1, s2, s3, s4, s5, s6⟩; go_simp; with_reducible rfl)
                       refine pu_ 18 63 HT_ ?_
                       refine pu_ 20 65 HT_ ?_
                       refine pu_ 21 66 HT_ ?_
                       refine pu_ 22 67 HT_ ?_
                       refine pu_ 23 68 HT_ ?_
                       refine pu_ 24 69 HT_ ?_
                       refine pu_ 25 70 HT_ ?_
                       refine pu_ 26 71 HT_ ?_
                       refine pu_ 27 72 HT_ ?_
                       refine pu_ 28 73 HT_ ?_
                       refine pu_ 29 74 HT_ ?_
                       refine pu_ 30 75 HT_ ?_
                       refine pu_ 32 77 HT_ ?_
                       refine tk_ 31 76 HT_ HW_ hHeld ?_ rfl rfl (by rintro w' ⟨s0, s1, s2, s3, s4, s5, s6⟩; go_simp; with_reducible rfl)
                       refine tk_ 33 78 HT_ HW_ hHeld ?_ rfl rfl (by rintro w' ⟨s0, s1, s2, s3, s4, s5, s6⟩; go_simp; with_reducible rfl)
                       refine pu_ 34 79 HT_ ?_
                       refine pu_ 35 80 HT_ ?_
                       refine pu_ 36 81 HT_ ?_
                       refine done_ (done_of HT_.out (by kernel_rfl)) ?_
                       try go_wp2
                       go_roundg k3
                       case measure => have := HJ1.out; have := HK2.out; have := HK3.out; omega
                       case rel => exact ⟨(wrap64 (x40_3 + 1)), (by first | rfl | (simp; done) | (simp [*]; done)), H', ⟨by have := HJ1.out; have := HK2.out; have := HK3.out; omega⟩, ⟨up_ BK252.out⟩, ⟨bl_⟩⟩
                     ·
                      rw [if_neg c28] at H
                      exact absurd H (by simp)
                    ·
                     rw [if_neg c27] at H
                     exact absurd H (by simp)
                   ·
                    rw [if_neg c25] at H
                    have c25b0 : decide (0 < x40_3) = false := decide_eq_false c25
                    clear c25
                    have H' := Aside0.mk H
                    clear H
                    have p255 : 0 ≤ (x40_3 : Int) := ds_
                    have q255 : x40_3 < ((rd_L4 l0_1 x29_2).length : Int) := ds_
                    obtain ⟨ad255, e255, hx255_0, hx255_1⟩ := at_T91 HR254_0.out x40_3 p255 q255
                    cases e255
                    replace hx255_0 := (HB.out.cell (World.block_lt_of_cell? w _ hx255_0)).trans hx255_0
                    replace hx255_1 := (HB.out.cell (World.block_lt_of_cell? w _ hx255_1)).trans hx255_1
                    replace p255 := eq_true p255
                    replace q255 := eq_true q255
                    try go_wp2_with (first | ((with_reducible refine gate_dst (N := 7) rfl ?_); (try (refine gate_guard (by rfl) ?_; dsimp only)); refine box_event ?hg (N := 7) ?hd (cs := #[.int .i64 0, .int .i64 0]) (t := 91) ?hr ?_; (case hd => rfl); (case hg => rfl); (case hr => first | (go_simp; done) | (go_simp; rfl)); intro gb256 hg w40 hbox hb; have n0_ := Aside0.mk (blk_below (up_ BK252.out) hb); have n1_ := Aside0.mk (below_step bl_ hb); have n2_ := Aside0.mk (hbox); have n3_ := Aside0.mk ((by rw [hg]; exact (below_size bl_) : w.heap.size ≤ gb256)); have n4_ := Aside0.mk ((by rw [hg]; exact (below_size bl_) : w.heap.size ≤ gb256)); have n5_ := Aside0.mk ((by rw [hg]; exact Nat.ne_of_lt (blk_lt (up_ BK252.out)) : gb252 ≠ gb256)); have n6_ := Aside0.mk ((by rw [hg]; exact Nat.ne_of_gt (blk_lt (up_ BK252.out)) : gb256 ≠ gb252)); clear BK252; clear HB; have BK252 := n0_; have HB := n1_; have BK256 := n2_; have GW256 := n3_; have GE256 := n4_; have NB252_256 := n5_; have NB256_252 := n6_; clear n0_ n1_ n2_ n3_ n4_ n5_ n6_; clear hb hbox hg; have hnb41 := NB256_252.out; have hnc41 := NB252_256.out; have hcz42_0 : w40.cell? ⟨gb256, 0, none⟩ = some (.int .i64 0) := (blk_cell BK256.out 0).trans rfl; have hcz42_1 : w40.cell? ⟨gb256, 1, none⟩ = some (.int .i64 0) := (blk_cell BK256.out 1).trans rfl; have hfz42_0 := blk_frozen BK256.out 0; have hfz42_1 := blk_frozen BK256.out 1))
                    have n0_ : Aside0 (((w40.setCell ⟨gb256, 0, none⟩ (.int .i64 ((rd_T91 (rd_L4 l0_1 x29_2) x40_3).f0))).setCell ⟨gb256, 1, none⟩ (.int .i64 ((rd_T91 (rd_L4 l0_1 x29_2) x40_3).f1))).heap[gb252]? = some (.cells #[.int .i64 a0_0, .slice (some ad254) l0_1.length c0_1, .slice A0_2 l0_2.length c0_2] 45 (0, 0))) := ⟨by (with_reducible repeat (first | refine blk_drewN ?_ _ | refine blk_drew ?_ | refine blk_alloc ?_ _)); refine blk_far ?_ NB252_256.out _; (with_reducible repeat (first | refine blk_drewN ?_ _ | refine blk_drew ?_ | refine blk_alloc ?_ _)); refine blk_far ?_ NB252_256.out _; (with_reducible repeat (first | refine blk_drewN ?_ _ | refine blk_drew ?_ | refine blk_alloc ?_ _)); exact BK252.out⟩
                    have n1_ : Aside0 (((w40.setCell ⟨gb256, 0, none⟩ (.int .i64 ((rd_T91 (rd_L4 l0_1 x29_2) x40_3).f0))).setCell ⟨gb256, 1, none⟩ (.int .i64 ((rd_T91 (rd_L4 l0_1 x29_2) x40_3).f1))).heap[gb256]? = some (.cells #[.int .i64 ((rd_T91 (rd_L4 l0_1 x29_2) x40_3).f0), .int .i64 ((rd_T91 (rd_L4 l0_1 x29_2) x40_3).f1)] 91 (0, 0))) := ⟨by (with_reducible repeat (first | refine blk_drewN ?_ _ | refine blk_drew ?_ | refine blk_alloc ?_ _)); refine blk_put (cs := #[.int .i64 ((rd_T91 (rd_L4 l0_1 x29_2) x40_3).f0), .int .i64 0]) ?_ 1 _ rfl; (with_reducible repeat (first | refine blk_drewN ?_ _ | refine blk_drew ?_ | refine blk_alloc ?_ _)); refine blk_put (cs := #[.int .i64 0, .int .i64 0]) ?_ 0 _ rfl; (with_reducible repeat (first | refine blk_drewN ?_ _ | refine blk_drew ?_ | refine blk_alloc ?_ _)); exact BK256.out⟩
                    have n2_ : Aside0 (Below w.heap.size w ((w40.setCell ⟨gb256, 0, none⟩ (.int .i64 ((rd_T91 (rd_L4 l0_1 x29_2) x40_3).f0))).setCell ⟨gb256, 1, none⟩ (.int .i64 ((rd_T91 (rd_L4 l0_1 x29_2) x40_3).f1)))) := ⟨bl_⟩
                    (try clear BK252)
                    (try clear BK256)
                    (try clear HB)
                    generalize ((w40.setCell ⟨gb256, 0, none⟩ (.int .i64 ((rd_T91 (rd_L4 l0_1 x29_2) x40_3).f0))).setCell ⟨gb256, 1, none⟩ (.int .i64 ((rd_T91 (rd_L4 l0_1 x29_2) x40_3).f1))) = w43 at n0_ n1_ n2_ ⊢
                    have BK252 := n0_
                    have BK256 := n1_
                    have HB := n2_
                    clear n0_ n1_ n2_
                    replace BK252 := Aside0.mk (blk_drew BK252.out)
                    replace BK256 := Aside0.mk (blk_drew BK256.out)
                    replace HB := Aside0.mk (below_drew1 HB.out)
                    refine start_ (n := 37) (S := fun w' => w'.cell? ⟨gb256, 0, none⟩ = some (.int .i64 ((rd_T91 (rd_L4 l0_1 x29_2) x40_3).f0)) ∧ w'.cell? ⟨gb256, 1, none⟩ = some (.int .i64 ((rd_T91 (rd_L4 l0_1 x29_2) x40_3).f1)) ∧ w'.cell? ⟨gb252, 0, none⟩ = some (.int .i64 a0_0) ∧ w'.cell? ⟨gb252, 1, none⟩ = some (.slice (some ad254) l0_1.length c0_1) ∧ w'.cell? ⟨gb252, 2, none⟩ = some (.slice A0_2 l0_2.length c0_2)) (ds := []) #[false, false, false, false, false, false, false, false, false, false, false, false, false, false, false, false, false, false, false, false, false, false, false, false, false, false, false, false, false, false, false, false, false, false, false, false, false] (by kernel_rfl) rfl rfl ⟨(blk_cell BK256.out 0).trans rfl, (blk_cell BK256.out 1).trans rfl, (blk_cell BK252.out 0).trans rfl, (blk_cell BK252.out 1).trans rfl, (blk_cell BK252.out 2).trans rfl⟩ (fun hHeld => ?_); refine with_tabW impl_WheelRight.tab11 impl_WheelRight.bits11 (fun HT_ HW_ => ?_)
                    generalize w43.drew = w44 at BK252 BK256 HB hHeld ⊢
                    refine pu_ 0 45 HT_ ?_
                    refine pu_ 2 47 HT_ ?_
                    refine pu_ 5 50 HT_ ?_
                    refine tk_ 1 46 HT_ HW_ hHeld ?_ rfl rfl (by rintro w' ⟨s0, s1, s2, s3, s4⟩; go_simp; with_reducible rfl)
                    refine tk_ 3 48 HT_ HW_ hHeld ?_ rfl rfl (by rintro w' ⟨s0, s1, s2, s3, s4⟩; go_simp; with_reducible rfl)
                    refine pu_ 4 49 HT_ ?_
                    refine tk_ 6 51 HT_ HW_ hHeld ?_ rfl rfl (by rintro w' ⟨s0, s1, s2, s3, s4⟩; go_simp; with_reducible rfl)
                    refine pu_ 7 52 HT_ ?_
                    refine one_ (i := 8) (N := some 53) #[o_,o_,o_,o_,o_,o_,o_,o_,o_,x_,x_,x_,x_,x_,x_,x_,x_,x_,x_,x_,x_,x_,x_,x_,x_,x_,x_,x_,x_,x_,x_,x_,x_,x_,x_,x_,x_] rfl rfl (one_of HT_.out (by kernel_rfl)) (by decide) (fun K hK => ?_)
                    refine goes_ Try.func69 (by kernel_rfl) rfl #[.int .i64 ((rd_T91 (rd_L4 l0_1 x29_2) x40_3).f1), .int .i64 (wrap64 (a0_0 + 1)), .int .i64 (wrap64 (a0_0 + 16))] (by rfl) rfl rfl (by (try simp only [List.map_toArray, List.map_cons, List.map_nil]); first | done | rfl | (simp only [List.length_drop, List.length_take]; rfl)) ?_
                    with_reducible refine (impl_in.calls ((rd_T91 (rd_L4 l0_1 x29_2) x40_3).f1) (wrap64 (a0_0 + 1)) (wrap64 (a0_0 + 16)) true _ A16.out).mono ?_
                    rintro e w' ⟨rfl, ⟨nd, rfl⟩⟩
                    refine ⟨_, rfl, ?_⟩
                    refine hK.out _ _ ⟨(blk_cell BK256.out 0).trans rfl, (blk_cell BK256.out 1).trans rfl, (blk_cell BK252.out 0).trans rfl, (blk_cell BK252.out 1).trans rfl, (blk_cell BK252.out 2).trans rfl⟩ (fun hHeld => ?_)
                    clear hK K
                    refine norm_ (a' := ?_) ?_ ?_
                    rotate_left
                    ·
                     show Act.put _ (some 53) _ = _
                     simp only [Act.put, List.setIfInBounds_toArray, List.set_cons_zero, List.set_cons_succ, i64_w, i32_w]
                     rfl
                    refine pu_ 9 54 HT_ ?_
                    refine pu_ 10 55 HT_ ?_
                    refine pu_ 11 56 HT_ ?_
                    refine tk_ 12 57 HT_ HW_ hHeld ?_ rfl rfl (by rintro w' ⟨s0, s1, s2, s3, s4⟩; go_simp; with_reducible rfl)
                    refine pu_ 13 58 HT_ ?_
                    refine pu_ 14 59 HT_ ?_
                    refine pu_ 15 60 HT_ ?_
                    refine pu_ 16 61 HT_ ?_
                    refine pu_ 19 64 HT_ ?_
                    refine tk_ 17 62 HT_ HW_ hHeld ?_ rfl rfl (by rintro w' ⟨s0, s1, s2, s3, s4⟩; go_simp; with_reducible rfl)
                    refine pu_ 18 63 HT_ ?_
                    refine pu_ 20 65 HT_ ?_
                    refine pu_ 21 66 HT_ ?_
                    refine pu_ 22 67 HT_ ?_
                    refine pu_ 23 68 HT_ ?_
                    refine pu_ 24 69 HT_ ?_
                    refine pu_ 25 70 HT_ ?_
                    refine pn_ 26 71 HT_ ?_
                    refine pn_ 27 72 HT_ ?_
                    refine pn_ 28 73 HT_ ?_
                    refine pn_ 29 74 HT_ ?_
                    refine pn_ 30 75 HT_ ?_
                    refine pn_ 31 76 HT_ ?_
                    refine pn_ 32 77 HT_ ?_
                    refine pn_ 33 78 HT_ ?_
                    refine pn_ 34 79 HT_ ?_
                    refine pu_ 35 80 HT_ ?_
                    refine pu_ 36 81 HT_ ?_
                    refine done_ (done_of HT_.out (by kernel_rfl)) ?_
                    try go_wp2
                    go_roundg k3
                    case measure => have := HJ1.out; have := HK2.out; have := HK3.out; omega
                    case rel => exact ⟨(wrap64 (x40_3 + 1)), (by first | rfl | (simp; done) | (simp [*]; done)), H', ⟨by have := HJ1.out; have := HK2.out; have := HK3.out; omega⟩, ⟨up_ BK252.out⟩, ⟨bl_⟩⟩
                  ·
                   rw [if_neg c24] at H
                   have c24b0 : ((Int.tmod ((rd_T91 (rd_L4 l0_1 x29_2) x40_3).f1) 16) == x29_2) = false := beq_eq_false_iff_ne.mpr c24
                   have c24b1 : ((Int.tmod ((rd_T91 (rd_L4 l0_1 x29_2) x40_3).f1) 16) != x29_2) = true := bne_iff_ne.mpr c24
                   obtain rfl := Option.some.inj H
                   have p255 : 0 ≤ (x40_3 : Int) := ds_
                   have q255 : x40_3 < ((rd_L4 l0_1 x29_2).length : Int) := ds_
                   obtain ⟨ad255, e255, hx255_0, hx255_1⟩ := at_T91 HR254_0.out x40_3 p255 q255
                   cases e255
                   replace hx255_0 := (HB.out.cell (World.block_lt_of_cell? w _ hx255_0)).trans hx255_0
                   replace hx255_1 := (HB.out.cell (World.block_lt_of_cell? w _ hx255_1)).trans hx255_1
                   replace p255 := eq_true p255
                   replace q255 := eq_true q255
                   try go_wp2_with (first | ((with_reducible refine gate_dst (N := 7) rfl ?_); (try (refine gate_guard (by rfl) ?_; dsimp only)); refine box_event ?hg (N := 7) ?hd (cs := #[.int .i64 0, .int .i64 0]) (t := 91) ?hr ?_; (case hd => rfl); (case hg => rfl); (case hr => first | (go_simp; done) | (go_simp; rfl)); intro gb256 hg w45 hbox hb; have n0_ := Aside0.mk (blk_below (up_ BK252.out) hb); have n1_ := Aside0.mk (below_step bl_ hb); have n2_ := Aside0.mk (hbox); have n3_ := Aside0.mk ((by rw [hg]; exact (below_size bl_) : w.heap.size ≤ gb256)); have n4_ := Aside0.mk ((by rw [hg]; exact (below_size bl_) : w.heap.size ≤ gb256)); have n5_ := Aside0.mk ((by rw [hg]; exact Nat.ne_of_lt (blk_lt (up_ BK252.out)) : gb252 ≠ gb256)); have n6_ := Aside0.mk ((by rw [hg]; exact Nat.ne_of_gt (blk_lt (up_ BK252.out)) : gb256 ≠ gb252)); clear BK252; clear HB; have BK252 := n0_; have HB := n1_; have BK256 := n2_; have GW256 := n3_; have GE256 := n4_; have NB252_256 := n5_; have NB256_252 := n6_; clear n0_ n1_ n2_ n3_ n4_ n5_ n6_; clear hb hbox hg; have hnb46 := NB256_252.out; have hnc46 := NB252_256.out; have hcz47_0 : w45.cell? ⟨gb256, 0, none⟩ = some (.int .i64 0) := (blk_cell BK256.out 0).trans rfl; have hcz47_1 : w45.cell? ⟨gb256, 1, none⟩ = some (.int .i64 0) := (blk_cell BK256.out 1).trans rfl; have hfz47_0 := blk_frozen BK256.out 0; have hfz47_1 := blk_frozen BK256.out 1))
                   have n0_ : Aside0 (((w45.setCell ⟨gb256, 0, none⟩ (.int .i64 ((rd_T91 (rd_L4 l0_1 x29_2) x40_3).f0))).setCell ⟨gb256, 1, none⟩ (.int .i64 ((rd_T91 (rd_L4 l0_1 x29_2) x40_3).f1))).heap[gb252]? = some (.cells #[.int .i64 a0_0, .slice (some ad254) l0_1.length c0_1, .slice A0_2 l0_2.length c0_2] 45 (0, 0))) := ⟨by (with_reducible repeat (first | refine blk_drewN ?_ _ | refine blk_drew ?_ | refine blk_alloc ?_ _)); refine blk_far ?_ NB252_256.out _; (with_reducible repeat (first | refine blk_drewN ?_ _ | refine blk_drew ?_ | refine blk_alloc ?_ _)); refine blk_far ?_ NB252_256.out _; (with_reducible repeat (first | refine blk_drewN ?_ _ | refine blk_drew ?_ | refine blk_alloc ?_ _)); exact BK252.out⟩
                   have n1_ : Aside0 (((w45.setCell ⟨gb256, 0, none⟩ (.int .i64 ((rd_T91 (rd_L4 l0_1 x29_2) x40_3).f0))).setCell ⟨gb256, 1, none⟩ (.int .i64 ((rd_T91 (rd_L4 l0_1 x29_2) x40_3).f1))).heap[gb256]? = some (.cells #[.int .i64 ((rd_T91 (rd_L4 l0_1 x29_2) x40_3).f0), .int .i64 ((rd_T91 (rd_L4 l0_1 x29_2) x40_3).f1)] 91 (0, 0))) := ⟨by (with_reducible repeat (first | refine blk_drewN ?_ _ | refine blk_drew ?_ | refine blk_alloc ?_ _)); refine blk_put (cs := #[.int .i64 ((rd_T91 (rd_L4 l0_1 x29_2) x40_3).f0), .int .i64 0]) ?_ 1 _ rfl; (with_reducible repeat (first | refine blk_drewN ?_ _ | refine blk_drew ?_ | refine blk_alloc ?_ _)); refine blk_put (cs := #[.int .i64 0, .int .i64 0]) ?_ 0 _ rfl; (with_reducible repeat (first | refine blk_drewN ?_ _ | refine blk_drew ?_ | refine blk_alloc ?_ _)); exact BK256.out⟩
                   have n2_ : Aside0 (Below w.heap.size w ((w45.setCell ⟨gb256, 0, none⟩ (.int .i64 ((rd_T91 (rd_L4 l0_1 x29_2) x40_3).f0))).setCell ⟨gb256, 1, none⟩ (.int .i64 ((rd_T91 (rd_L4 l0_1 x29_2) x40_3).f1)))) := ⟨bl_⟩
                   (try clear BK252)
                   (try clear BK256)
                   (try clear HB)
                   generalize ((w45.setCell ⟨gb256, 0, none⟩ (.int .i64 ((rd_T91 (rd_L4 l0_1 x29_2) x40_3).f0))).setCell ⟨gb256, 1, none⟩ (.int .i64 ((rd_T91 (rd_L4 l0_1 x29_2) x40_3).f1))) = w48 at n0_ n1_ n2_ ⊢
                   have BK252 := n0_
                   have BK256 := n1_
                   have HB := n2_
                   clear n0_ n1_ n2_
                   replace BK252 := Aside0.mk (blk_drew BK252.out)
                   replace BK256 := Aside0.mk (blk_drew BK256.out)
                   replace HB := Aside0.mk (below_drew1 HB.out)
                   refine start_ (n := 37) (S := fun w' => w'.cell? ⟨gb256, 0, none⟩ = some (.int .i64 ((rd_T91 (rd_L4 l0_1 x29_2) x40_3).f0)) ∧ w'.cell? ⟨gb256, 1, none⟩ = some (.int .i64 ((rd_T91 (rd_L4 l0_1 x29_2) x40_3).f1)) ∧ w'.cell? ⟨gb252, 0, none⟩ = some (.int .i64 a0_0) ∧ w'.cell? ⟨gb252, 1, none⟩ = some (.slice (some ad254) l0_1.length c0_1) ∧ w'.cell? ⟨gb252, 2, none⟩ = some (.slice A0_2 l0_2.length c0_2)) (ds := []) #[false, false, false, false, false, false, false, false, false, false, false, false, false, false, false, false, false, false, false, false, false, false, false, false, false, false, false, false, false, false, false, false, false, false, false, false, false] (by kernel_rfl) rfl rfl ⟨(blk_cell BK256.out 0).trans rfl, (blk_cell BK256.out 1).trans rfl, (blk_cell BK252.out 0).trans rfl, (blk_cell BK252.out 1).trans rfl, (blk_cell BK252.out 2).trans rfl⟩ (fun hHeld => ?_); refine with_tabW impl_WheelRight.tab11 impl_WheelRight.bits11 (fun HT_ HW_ => ?_)
                   generalize w48.drew = w49 at BK252 BK256 HB hHeld ⊢
                   refine pu_ 0 45 HT_ ?_
                   refine pu_ 2 47 HT_ ?_
                   refine pu_ 5 50 HT_ ?_
                   refine tk_ 1 46 HT_ HW_ hHeld ?_ rfl rfl (by rintro w' ⟨s0, s1, s2, s3, s4⟩; go_simp; with_reducible rfl)
                   refine tk_ 3 48 HT_ HW_ hHeld ?_ rfl rfl (by rintro w' ⟨s0, s1, s2, s3, s4⟩; go_simp; with_reducible rfl)
                   refine pu_ 4 49 HT_ ?_
                   refine tk_ 6 51 HT_ HW_ hHeld ?_ rfl rfl (by rintro w' ⟨s0, s1, s2, s3, s4⟩; go_simp; with_reducible rfl)
                   refine pu_ 7 52 HT_ ?_
                   refine one_ (i := 8) (N := some 53) #[o_,o_,o_,o_,o_,o_,o_,o_,o_,x_,x_,x_,x_,x_,x_,x_,x_,x_,x_,x_,x_,x_,x_,x_,x_,x_,x_,x_,x_,x_,x_,x_,x_,x_,x_,x_,x_] rfl rfl (one_of HT_.out (by kernel_rfl)) (by decide) (fun K hK => ?_)
                   refine goes_ Try.func69 (by kernel_rfl) rfl #[.int .i64 ((rd_T91 (rd_L4 l0_1 x29_2) x40_3).f1), .int .i64 (wrap64 (a0_0 + 1)), .int .i64 (wrap64 (a0_0 + 16))] (by rfl) rfl rfl (by (try simp only [List.map_toArray, List.map_cons, List.map_nil]); first | done | rfl | (simp only [List.length_drop, List.length_take]; rfl)) ?_
                   with_reducible refine (impl_in.calls ((rd_T91 (rd_L4 l0_1 x29_2) x40_3).f1) (wrap64 (a0_0 + 1)) (wrap64 (a0_0 + 16)) true _ A16.out).mono ?_
                   rintro e w' ⟨rfl, ⟨nd, rfl⟩⟩
                   refine ⟨_, rfl, ?_⟩
                   refine hK.out _ _ ⟨(blk_cell BK256.out 0).trans rfl, (blk_cell BK256.out 1).trans rfl, (blk_cell BK252.out 0).trans rfl, (blk_cell BK252.out 1).trans rfl, (blk_cell BK252.out 2).trans rfl⟩ (fun hHeld => ?_)
                   clear hK K
                   refine norm_ (a' := ?_) ?_ ?_
                   rotate_left
                   ·
                    show Act.put _ (some 53) _ = _
                    simp only [Act.put, List.setIfInBounds_toArray, List.set_cons_zero, List.set_cons_succ, i64_w, i32_w]
                    rfl
                   refine pu_ 9 54 HT_ ?_
                   refine pu_ 10 55 HT_ ?_
                   refine pu_ 11 56 HT_ ?_
                   refine tk_ 12 57 HT_ HW_ hHeld ?_ rfl rfl (by rintro w' ⟨s0, s1, s2, s3, s4⟩; go_simp; with_reducible rfl)
                   refine pu_ 13 58 HT_ ?_
                   refine pu_ 14 59 HT_ ?_
                   refine pu_ 15 60 HT_ ?_
                   refine pu_ 16 61 HT_ ?_
                   refine pu_ 19 64 HT_ ?_
                   refine tk_ 17 62 HT_ HW_ hHeld ?_ rfl rfl (by rintro w' ⟨s0, s1, s2, s3, s4⟩; go_simp; with_reducible rfl)
                   refine pu_ 18 63 HT_ ?_
                   refine pu_ 20 65 HT_ ?_
                   refine pu_ 21 66 HT_ ?_
                   refine pu_ 22 67 HT_ ?_
                   refine pn_ 23 68 HT_ ?_
                   refine pn_ 24 69 HT_ ?_
                   refine pn_ 25 70 HT_ ?_
                   refine pn_ 26 71 HT_ ?_
                   refine pn_ 27 72 HT_ ?_
                   refine pn_ 28 73 HT_ ?_
                   refine pn_ 29 74 HT_ ?_
                   refine pn_ 30 75 HT_ ?_
                   refine pn_ 31 76 HT_ ?_
                   refine pn_ 32 77 HT_ ?_
                   refine pn_ 33 78 HT_ ?_
                   refine pn_ 34 79 HT_ ?_
                   refine pn_ 35 80 HT_ ?_
                   refine pu_ 36 81 HT_ ?_
                   refine done_ (done_of HT_.out (by kernel_rfl)) ?_
                   try go_wp2
                   go_ret
                   exact ⟨by first | rfl | (simp [errW_none, errW_some] <;> rfl) | (simp [*, errW_none, errW_some] <;> rfl), bl_⟩
                ·
                 replace c17 := Bool.eq_false_iff.mpr c17
                 subst c17
                 have H1 : (some false) = some r := by rw [if_neg (show ¬ (false = true) by decide)] at H; exact H
                 clear H
                 have H := H1
                 clear H1
                 obtain rfl := Option.some.inj H
                 have p255 : 0 ≤ (x40_3 : Int) := ds_
                 have q255 : x40_3 < ((rd_L4 l0_1 x29_2).length : Int) := ds_
                 obtain ⟨ad255, e255, hx255_0, hx255_1⟩ := at_T91 HR254_0.out x40_3 p255 q255
                 cases e255
                 replace hx255_0 := (HB.out.cell (World.block_lt_of_cell? w _ hx255_0)).trans hx255_0
                 replace hx255_1 := (HB.out.cell (World.block_lt_of_cell? w _ hx255_1)).trans hx255_1
                 replace p255 := eq_true p255
                 replace q255 := eq_true q255
                 try go_wp2_with (first | ((with_reducible refine gate_dst (N := 7) rfl ?_); (try (refine gate_guard (by rfl) ?_; dsimp only)); refine box_event ?hg (N := 7) ?hd (cs := #[.int .i64 0, .int .i64 0]) (t := 91) ?hr ?_; (case hd => rfl); (case hg => rfl); (case hr => first | (go_simp; done) | (go_simp; rfl)); intro gb256 hg w50 hbox hb; have n0_ := Aside0.mk (blk_below (up_ BK252.out) hb); have n1_ := Aside0.mk (below_step bl_ hb); have n2_ := Aside0.mk (hbox); have n3_ := Aside0.mk ((by rw [hg]; exact (below_size bl_) : w.heap.size ≤ gb256)); have n4_ := Aside0.mk ((by rw [hg]; exact (below_size bl_) : w.heap.size ≤ gb256)); have n5_ := Aside0.mk ((by rw [hg]; exact Nat.ne_of_lt (blk_lt (up_ BK252.out)) : gb252 ≠ gb256)); have n6_ := Aside0.mk ((by rw [hg]; exact Nat.ne_of_gt (blk_lt (up_ BK252.out)) : gb256 ≠ gb252)); clear BK252; clear HB; have BK252 := n0_; have HB := n1_; have BK256 := n2_; have GW256 := n3_; have GE256 := n4_; have NB252_256 := n5_; have NB256_252 := n6_; clear n0_ n1_ n2_ n3_ n4_ n5_ n6_; clear hb hbox hg; have hnb51 := NB256_252.out; have hnc51 := NB252_256.out; have hcz52_0 : w50.cell? ⟨gb256, 0, none⟩ = some (.int .i64 0) := (blk_cell BK256.out 0).trans rfl; have hcz52_1 : w50.cell? ⟨gb256, 1, none⟩ = some (.int .i64 0) := (blk_cell BK256.out 1).trans rfl; have hfz52_0 := blk_frozen BK256.out 0; have hfz52_1 := blk_frozen BK256.out 1))
                 have n0_ : Aside0 (((w50.setCell ⟨gb256, 0, none⟩ (.int .i64 ((rd_T91 (rd_L4 l0_1 x29_2) x40_3).f0))).setCell ⟨gb256, 1, none⟩ (.int .i64 ((rd_T91 (rd_L4 l0_1 x29_2) x40_3).f1))).heap[gb252]? = some (.cells #[.int .i64 a0_0, .slice (some ad254) l0_1.length c0_1, .slice A0_2 l0_2.length c0_2] 45 (0, 0))) := ⟨by (with_reducible repeat (first | refine blk_drewN ?_ _ | refine blk_drew ?_ | refine blk_alloc ?_ _)); refine blk_far ?_ NB252_256.out _; (with_reducible repeat (first | refine blk_drewN ?_ _ | refine blk_drew ?_ | refine blk_alloc ?_ _)); refine blk_far ?_ NB252_256.out _; (with_reducible repeat (first | refine blk_drewN ?_ _ | refine blk_drew ?_ | refine blk_alloc ?_ _)); exact BK252.out⟩
                 have n1_ : Aside0 (((w50.setCell ⟨gb256, 0, none⟩ (.int .i64 ((rd_T91 (rd_L4 l0_1 x29_2) x40_3).f0))).setCell ⟨gb256, 1, none⟩ (.int .i64 ((rd_T91 (rd_L4 l0_1 x29_2) x40_3).f1))).heap[gb256]? = some (.cells #[.int .i64 ((rd_T91 (rd_L4 l0_1 x29_2) x40_3).f0), .int .i64 ((rd_T91 (rd_L4 l0_1 x29_2) x40_3).f1)] 91 (0, 0))) := ⟨by (with_reducible repeat (first | refine blk_drewN ?_ _ | refine blk_drew ?_ | refine blk_alloc ?_ _)); refine blk_put (cs := #[.int .i64 ((rd_T91 (rd_L4 l0_1 x29_2) x40_3).f0), .int .i64 0]) ?_ 1 _ rfl; (with_reducible repeat (first | refine blk_drewN ?_ _ | refine blk_drew ?_ | refine blk_alloc ?_ _)); refine blk_put (cs := #[.int .i64 0, .int .i64 0]) ?_ 0 _ rfl; (with_reducible repeat (first | refine blk_drewN ?_ _ | refine blk_drew ?_ | refine blk_alloc ?_ _)); exact BK256.out⟩
                 have n2_ : Aside0 (Below w.heap.size w ((w50.setCell ⟨gb256, 0, none⟩ (.int .i64 ((rd_T91 (rd_L4 l0_1 x29_2) x40_3).f0))).setCell ⟨gb256, 1, none⟩ (.int .i64 ((rd_T91 (rd_L4 l0_1 x29_2) x40_3).f1)))) := ⟨bl_⟩
                 (try clear BK252)
                 (try clear BK256)
                 (try clear HB)
                 generalize ((w50.setCell ⟨gb256, 0, none⟩ (.int .i64 ((rd_T91 (rd_L4 l0_1 x29_2) x40_3).f0))).setCell ⟨gb256, 1, none⟩ (.int .i64 ((rd_T91 (rd_L4 l0_1 x29_2) x40_3).f1))) = w53 at n0_ n1_ n2_ ⊢
                 have BK252 := n0_
                 have BK256 := n1_
                 have HB := n2_
                 clear n0_ n1_ n2_
                 replace BK252 := Aside0.mk (blk_drew BK252.out)
                 replace BK256 := Aside0.mk (blk_drew BK256.out)
                 replace HB := Aside0.mk (below_drew1 HB.out)
                 refine start_ (n := 37) (S := fun w' => w'.cell? ⟨gb256, 0, none⟩ = some (.int .i64 ((rd_T91 (rd_L4 l0_1 x29_2) x40_3).f0)) ∧ w'.cell? ⟨gb256, 1, none⟩ = some (.int .i64 ((rd_T91 (rd_L4 l0_1 x29_2) x40_3).f1)) ∧ w'.cell? ⟨gb252, 0, none⟩ = some (.int .i64 a0_0) ∧ w'.cell? ⟨gb252, 1, none⟩ = some (.slice (some ad254) l0_1.length c0_1) ∧ w'.cell? ⟨gb252, 2, none⟩ = some (.slice A0_2 l0_2.length c0_2)) (ds := []) #[false, false, false, false, false, false, false, false, false, false, false, false, false, false, false, false, false, false, false, false, false, false, false, false, false, false, false, false, false, false, false, false, false, false, false, false, false] (by kernel_rfl) rfl rfl ⟨(blk_cell BK256.out 0).trans rfl, (blk_cell BK256.out 1).trans rfl, (blk_cell BK252.out 0).trans rfl, (blk_cell BK252.out 1).trans rfl, (blk_cell BK252.out 2).trans rfl⟩ (fun hHeld => ?_); refine with_tabW impl_WheelRight.tab11 impl_WheelRight.bits11 (fun HT_ HW_ => ?_)
                 generalize w53.drew = w54 at BK252 BK256 HB hHeld ⊢
                 refine pu_ 0 45 HT_ ?_
                 refine pu_ 2 47 HT_ ?_
                 refine pu_ 5 50 HT_ ?_
                 refine tk_ 1 46 HT_ HW_ hHeld ?_ rfl rfl (by rintro w' ⟨s0, s1, s2, s3, s4⟩; go_simp; with_reducible rfl)
                 refine tk_ 3 48 HT_ HW_ hHeld ?_ rfl rfl (by rintro w' ⟨s0, s1, s2, s3, s4⟩; go_simp; with_reducible rfl)
                 refine pu_ 4 49 HT_ ?_
                 refine tk_ 6 51 HT_ HW_ hHeld ?_ rfl rfl (by rintro w' ⟨s0, s1, s2, s3, s4⟩; go_simp; with_reducible rfl)
                 refine pu_ 7 52 HT_ ?_
                 refine one_ (i := 8) (N := some 53) #[o_,o_,o_,o_,o_,o_,o_,o_,o_,x_,x_,x_,x_,x_,x_,x_,x_,x_,x_,x_,x_,x_,x_,x_,x_,x_,x_,x_,x_,x_,x_,x_,x_,x_,x_,x_,x_] rfl rfl (one_of HT_.out (by kernel_rfl)) (by decide) (fun K hK => ?_)
                 refine goes_ Try.func69 (by kernel_rfl) rfl #[.int .i64 ((rd_T91 (rd_L4 l0_1 x29_2) x40_3).f1), .int .i64 (wrap64 (a0_0 + 1)), .int .i64 (wrap64 (a0_0 + 16))] (by rfl) rfl rfl (by (try simp only [List.map_toArray, List.map_cons, List.map_nil]); first | done | rfl | (simp only [List.length_drop, List.length_take]; rfl)) ?_
                 with_reducible refine (impl_in.calls ((rd_T91 (rd_L4 l0_1 x29_2) x40_3).f1) (wrap64 (a0_0 + 1)) (wrap64 (a0_0 + 16)) false _ A16.out).mono ?_
                 rintro e w' ⟨rfl, ⟨nd, rfl⟩⟩
                 refine ⟨_, rfl, ?_⟩
                 refine hK.out _ _ ⟨(blk_cell BK256.out 0).trans rfl, (blk_cell BK256.out 1).trans rfl, (blk_cell BK252.out 0).trans rfl, (blk_cell BK252.out 1).trans rfl, (blk_cell BK252.out 2).trans rfl⟩ (fun hHeld => ?_)
                 clear hK K
                 refine norm_ (a' := ?_) ?_ ?_
                 rotate_left
                 ·
                  show Act.put _ (some 53) _ = _
                  simp only [Act.put, List.setIfInBounds_toArray, List.set_cons_zero, List.set_cons_succ, i64_w, i32_w]
                  rfl
                 refine pu_ 9 54 HT_ ?_
                 refine pu_ 10 55 HT_ ?_
                 refine pn_ 11 56 HT_ ?_
                 refine pn_ 12 57 HT_ ?_
                 refine pn_ 13 58 HT_ ?_
                 refine pu_ 14 59 HT_ ?_
                 refine pu_ 15 60 HT_ ?_
                 refine pn_ 16 61 HT_ ?_
                 refine pn_ 17 62 HT_ ?_
                 refine pn_ 18 63 HT_ ?_
                 refine pn_ 19 64 HT_ ?_
                 refine pn_ 20 65 HT_ ?_
                 refine pu_ 21 66 HT_ ?_
                 refine pu_ 22 67 HT_ ?_
                 refine pn_ 23 68 HT_ ?_
                 refine pn_ 24 69 HT_ ?_
                 refine pn_ 25 70 HT_ ?_
                 refine pn_ 26 71 HT_ ?_
                 refine pn_ 27 72 HT_ ?_
                 refine pn_ 28 73 HT_ ?_
                 refine pn_ 29 74 HT_ ?_
                 refine pn_ 30 75 HT_ ?_
                 refine pn_ 31 76 HT_ ?_
                 refine pn_ 32 77 HT_ ?_
                 refine pn_ 33 78 HT_ ?_
                 refine pn_ 34 79 HT_ ?_
                 refine pn_ 35 80 HT_ ?_
                 refine pu_ 36 81 HT_ ?_
                 refine done_ (done_of HT_.out (by kernel_rfl)) ?_
                 try go_wp2
                 go_ret
                 exact ⟨by first | rfl | (simp [errW_none, errW_some] <;> rfl) | (simp [*, errW_none, errW_some] <;> rfl), bl_⟩
               ·
                rw [if_neg c15] at H
                exact absurd H (by simp)
              ·
               rw [if_neg c14] at H
               exact absurd H (by simp)
             ·
              rw [if_neg c13] at H
              have c13b0 : decide (x40_3 < ((rd_L4 l0_1 x29_2).length : Int)) = false := decide_eq_false c13
              clear c13
              have H' := Aside0.mk H
              clear H
              go_wp2
              go_roundg k3
              case measure => have := HJ1.out; have := HK2.out; have := HK3.out; omega
              case rel => exact ⟨((wrap64 (x3_2 + ((rd_L4 l0_1 x29_2).length : Int)))), (wrap64 (x29_2 + 1)), (by first | rfl | (simp; done) | (simp [*]; done)), (by first | rfl | (simp; done) | (simp [*]; done)), H', ⟨by have := HJ1.out; have := HK2.out; have := HK3.out; omega⟩, ⟨up_ BK252.out⟩, ⟨bl_⟩⟩
         ·
          rw [if_neg c12] at H
          exact absurd H (by simp)
        ·
         rw [if_neg c11] at H
         exact absurd H (by simp)
       ·
        rw [if_neg c10] at H
        have c10b0 : decide (x29_2 < (l0_1.length : Int)) = false := decide_eq_false c10
        clear c10
        have H' := Aside0.mk H
        clear H
        have hcz55_0 : wr.cell? ⟨gb252, 0, none⟩ = some (.int .i64 a0_0) := (blk_cell BK252.out 0).trans rfl
        have hcz55_1 : wr.cell? ⟨gb252, 1, none⟩ = some (.slice A0_1 l0_1.length c0_1) := (blk_cell BK252.out 1).trans rfl
        have hcz55_2 : wr.cell? ⟨gb252, 2, none⟩ = some (.slice A0_2 l0_2.length c0_2) := (blk_cell BK252.out 2).trans rfl
        have hfz55_0 := blk_frozen BK252.out 0
        have hfz55_1 := blk_frozen BK252.out 1
        have hfz55_2 := blk_frozen BK252.out 2
        go_wp2
        go_loopg [87] k2 (fun kq v87 w' => ∃ (x87_3 : Int), v87 = .int .i64 x87_3 ∧ Aside0 (impl_WheelRight.l2 kq x3_2 l0_2 (l0_2.length : Int) x87_3 a0_0 l0_1 l0_2 = some r) ∧ Aside0 (kq ≤ k2) ∧ Aside0 (w'.heap[gb252]? = some (.cells #[.int .i64 a0_0, (.slice A0_1 l0_1.length c0_1), (.slice A0_2 l0_2.length c0_2)] 45 (0, 0))) ∧ Aside0 (Below w.heap.size w w'))
        case atStart => exact ⟨(0), (by first | rfl | (simp; done) | (simp [*]; done)), H', ⟨Nat.le_refl _⟩, ⟨up_ BK252.out⟩, ⟨bl_⟩⟩
        case round =>
         as_aux_lemma =>
          clear H'
          try clear c1
          try clear c2
          try clear p2
          try clear q2
          try clear hx2
          try clear c4
          try clear c5
          try clear c6
          try clear p6
          try clear c10
          try clear c10b0
          try clear c11
          try clear c12
          try clear c13
          try clear c13b0
          try clear c14
          try clear c15
          try clear c17
          try clear c24
          try clear c24b0
          try clear c24b1
          try clear p25
          try clear q25
          try clear hx25
          try clear c46
          try clear c51
          try clear hcz47_0
          try clear hcz47_1
          try clear hcz52_0
          try clear hcz52_1
          try clear hcz55_0
          try clear hcz55_1
          try clear hcz55_2
          try clear hfz47_0
          try clear hfz47_1
          try clear hfz52_0
          try clear hfz52_1
          try clear hfz55_0
          try clear hfz55_1
          try clear hfz55_2
          try clear hx255_0
          try clear hx255_1
          try clear p255
          try clear q255
          obtain ⟨x87_3, rfl, HA, HK3, BK252, HB⟩ := hrel
          cases gk with
          | zero => exact absurd HA.out (by simp [impl_WheelRight.l2])
          | succ k3 =>
           have H := HA.out
           clear HA
           simp only [impl_WheelRight.l2] at H
           by_cases c56 : x87_3 < (l0_2.length : Int)
           ·
            rw [if_pos c56] at H
            have c56b0 : decide (x87_3 < (l0_2.length : Int)) = true := decide_eq_true c56
            clear c56
            by_cases c57 : 0 ≤ x87_3
            ·
             rw [if_pos c57] at H
             have c57b0 : decide (0 ≤ x87_3) = true := decide_eq_true c57
             clear c57
             by_cases c58 : x87_3 < (l0_2.length : Int)
             ·
              rw [if_pos c58] at H
              have c58b0 : decide (x87_3 < (l0_2.length : Int)) = true := decide_eq_true c58
              clear c58
              replace H := Option.bind_eq_some_iff.mp H
              obtain ⟨t261, A590, H⟩ := H
              replace H : (if t261 = true then (if x87_3 > 0 then (if 0 ≤ (wrap64 (x87_3 - 1)) then (if (wrap64 (x87_3 - 1)) < (l0_2.length : Int) then ((impl_byTime.f k3 ((rd_T91 l0_2 (wrap64 (x87_3 - 1))).f0) ((rd_T91 l0_2 (wrap64 (x87_3 - 1))).f1) ((rd_T91 l0_2 x87_3).f0) ((rd_T91 l0_2 x87_3).f1)).bind fun t263 => (if t263 ≥ 0 then (some false) else (impl_WheelRight.l2 k3 x3_2 l0_2 (l0_2.length : Int) (wrap64 (x87_3 + 1)) a0_0 l0_1 l0_2))) else (none)) else (none)) else (impl_WheelRight.l2 k3 x3_2 l0_2 (l0_2.length : Int) (wrap64 (x87_3 + 1)) a0_0 l0_1 l0_2)) else (some false)) = some r := H
              have A59 := Aside0.mk A590
              clear A590
              by_cases c60 : t261 = true
              ·
               subst c60
               have H1 : (if x87_3 > 0 then (if 0 ≤ (wrap64 (x87_3 - 1)) then (if (wrap64 (x87_3 - 1)) < (l0_2.length : Int) then ((impl_byTime.f k3 ((rd_T91 l0_2 (wrap64 (x87_3 - 1))).f0) ((rd_T91 l0_2 (wrap64 (x87_3 - 1))).f1) ((rd_T91 l0_2 x87_3).f0) ((rd_T91 l0_2 x87_3).f1)).bind fun t263 => (if t263 ≥ 0 then (some false) else (impl_WheelRight.l2 k3 x3_2 l0_2 (l0_2.length : Int) (wrap64 (x87_3 + 1)) a0_0 l0_1 l0_2))) else (none)) else (none)) else (impl_WheelRight.l2 k3 x3_2 l0_2 (l0_2.length : Int) (wrap64 (x87_3 + 1)) a0_0 l0_1 l0_2)) = some r := by rw [if_pos rfl] at H; exact H
               clear H
               have H := H1
               clear H1
               by_cases c61 : x87_3 > 0
               ·
                rw [if_pos c61] at H
                have c61b0 : decide (0 < x87_3) = true := decide_eq_true c61
                clear c61
                obtain ⟨ji62, hji62⟩ : ∃ j_ : Int, (wrap64 (x87_3 - 1)) = j_ := ⟨_, rfl⟩
                replace H : (if 0 ≤ (ji62) then (if (ji62) < (l0_2.length : Int) then ((impl_byTime.f k3 ((rd_T91 l0_2 (ji62)).f0) ((rd_T91 l0_2 (ji62)).f1) ((rd_T91 l0_2 x87_3).f0) ((rd_T91 l0_2 x87_3).f1)).bind fun t263 => (if t263 ≥ 0 then (some false) else (impl_WheelRight.l2 k3 x3_2 l0_2 (l0_2.length : Int) (wrap64 (x87_3 + 1)) a0_0 l0_1 l0_2))) else (none)) else (none)) = some r := by first | (rw [hji62] at H; exact H) | (simp only [hji62] at H ⊢; exact H)
                (try rw [hji62] at A59)
                have hji62w : (IntKind.i64.wrap (x87_3 - 1)) = ji62 := (i64_w _).trans hji62
                by_cases c63 : 0 ≤ (ji62)
                ·
                 rw [if_pos c63] at H
                 have c63b0 : decide (0 ≤ (ji62)) = true := decide_eq_true c63
                 clear c63
                 by_cases c64 : (ji62) < (l0_2.length : Int)
                 ·
                  rw [if_pos c64] at H
                  have c64b0 : decide ((ji62) < (l0_2.length : Int)) = true := decide_eq_true c64
                  clear c64
                  replace H := Option.bind_eq_some_iff.mp H
                  obtain ⟨t263, A650, H⟩ := H
                  replace H : (if t263 ≥ 0 then (some false) else (impl_WheelRight.l2 k3 x3_2 l0_2 (l0_2.length : Int) (wrap64 (x87_3 + 1)) a0_0 l0_1 l0_2)) = some r := H
                  have A65 := Aside0.mk A650
                  clear A650
                  by_cases c66 : t263 ≥ 0
                  ·
                   rw [if_pos c66] at H
                   have c66b0 : decide (0 ≤ t263) = true := decide_eq_true c66
                   clear c66
                   obtain rfl := Option.some.inj H
                   have p259 : 0 ≤ (x87_3 : Int) := ds_
                   have q259 : x87_3 < (l0_2.length : Int) := ds_
                   obtain ⟨ad259, e259, hx259_0, hx259_1⟩ := at_T91 HR0_2.out x87_3 p259 q259
                   cases e259
                   replace hx259_0 := (HB.out.cell (World.block_lt_of_cell? w _ hx259_0)).trans hx259_0
                   replace hx259_1 := (HB.out.cell (World.block_lt_of_cell? w _ hx259_1)).trans hx259_1
                   replace p259 := eq_true p259
                   replace q259 := eq_true q259
                   try go_wp2_with (first | ((with_reducible refine gate_dst (N := 9) rfl ?_); (try (refine gate_guard (by rfl) ?_; dsimp only)); refine box_event ?hg (N := 9) ?hd (cs := #[.int .i64 0, .int .i64 0]) (t := 91) ?hr ?_; (case hd => rfl); (case hg => rfl); (case hr => first | (go_simp; done) | (go_simp; rfl)); intro gb260 hg w67 hbox hb; have n0_ := Aside0.mk (blk_below (up_ BK252.out) hb); have n1_ := Aside0.mk (below_step bl_ hb); have n2_ := Aside0.mk (hbox); have n3_ := Aside0.mk ((by rw [hg]; exact (below_size bl_) : w.heap.size ≤ gb260)); have n4_ := Aside0.mk ((by rw [hg]; exact (below_size bl_) : w.heap.size ≤ gb260)); have n5_ := Aside0.mk ((by rw [hg]; exact Nat.ne_of_lt (blk_lt (up_ BK252.out)) : gb252 ≠ gb260)); have n6_ := Aside0.mk ((by rw [hg]; exact Nat.ne_of_gt (blk_lt (up_ BK252.out)) : gb260 ≠ gb252)); clear BK252; clear HB; have BK252 := n0_; have HB := n1_; have BK260 := n2_; have GW260 := n3_; have GE260 := n4_; have NB252_260 := n5_; have NB260_252 := n6_; clear n0_ n1_ n2_ n3_ n4_ n5_ n6_; clear hb hbox hg; have hnb68 := NB260_252.out; have hnc68 := NB252_260.out; have hcz69_0 : w67.cell? ⟨gb260, 0, none⟩ = some (.int .i64 0) := (blk_cell BK260.out 0).trans rfl; have hcz69_1 : w67.cell? ⟨gb260, 1, none⟩ = some (.int .i64 0) := (blk_cell BK260.out 1).trans rfl; have hfz69_0 := blk_frozen BK260.out 0; have hfz69_1 := blk_frozen BK260.out 1))
                   have n0_ : Aside0 (((w67.setCell ⟨gb260, 0, none⟩ (.int .i64 ((rd_T91 l0_2 x87_3).f0))).setCell ⟨gb260, 1, none⟩ (.int .i64 ((rd_T91 l0_2 x87_3).f1))).heap[gb252]? = some (.cells #[.int .i64 a0_0, .slice A0_1 l0_1.length c0_1, .slice (some ad259) l0_2.length c0_2] 45 (0, 0))) := ⟨by (with_reducible repeat (first | refine blk_drewN ?_ _ | refine blk_drew ?_ | refine blk_alloc ?_ _)); refine blk_far ?_ NB252_260.out _; (with_reducible repeat (first | refine blk_drewN ?_ _ | refine blk_drew ?_ | refine blk_alloc ?_ _)); refine blk_far ?_ NB252_260.out _; (with_reducible repeat (first | refine blk_drewN ?_ _ | refine blk_drew ?_ | refine blk_alloc ?_ _)); exact BK252.out⟩
                   have n1_ : Aside0 (((w67.setCell ⟨gb260, 0, none⟩ (.int .i64 ((rd_T91 l0_2 x87_3).f0))).setCell ⟨gb260, 1, none⟩ (.int .i64 ((rd_T91 l0_2 x87_3).f1))).heap[gb260]? = some (.cells #[.int .i64 ((rd_T91 l0_2 x87_3).f0), .int .i64 ((rd_T91 l0_2 x87_3).f1)] 91 (0, 0))) := ⟨by (with_reducible repeat (first | refine blk_drewN ?_ _ | refine blk_drew ?_ | refine blk_alloc ?_ _)); refine blk_put (cs := #[.int .i64 ((rd_T91 l0_2 x87_3).f0), .int .i64 0]) ?_ 1 _ rfl; (with_reducible repeat (first | refine blk_drewN ?_ _ | refine blk_drew ?_ | refine blk_alloc ?_ _)); refine blk_put (cs := #[.int .i64 0, .int .i64 0]) ?_ 0 _ rfl; (with_reducible repeat (first | refine blk_drewN ?_ _ | refine blk_drew ?_ | refine blk_alloc ?_ _)); exact BK260.out⟩
                   have n2_ : Aside0 (Below w.heap.size w ((w67.setCell ⟨gb260, 0, none⟩ (.int .i64 ((rd_T91 l0_2 x87_3).f0))).setCell ⟨gb260, 1, none⟩ (.int .i64 ((rd_T91 l0_2 x87_3).f1)))) := ⟨bl_⟩
                   (try clear BK252)
                   (try clear BK260)
                   (try clear HB)
                   generalize ((w67.setCell ⟨gb260, 0, none⟩ (.int .i64 ((rd_T91 l0_2 x87_3).f0))).setCell ⟨gb260, 1, none⟩ (.int .i64 ((rd_T91 l0_2 x87_3).f1))) = w70 at n0_ n1_ n2_ ⊢
                   have BK252 := n0_
                   have BK260 := n1_
                   have HB := n2_
                   clear n0_ n1_ n2_
                   replace BK252 := Aside0.mk (blk_drew BK252.out)
                   replace BK260 := Aside0.mk (blk_drew BK260.out)
                   replace HB := Aside0.mk (below_drew1 HB.out)
                   have p262 : 0 ≤ ((ji62) : Int) := ds_
                   have q262 : (ji62) < (l0_2.length : Int) := ds_
                   obtain ⟨ad262, e262, hx262_0, hx262_1⟩ := at_T91 HR0_2.out (ji62) p262 q262
                   have hw262_1 := hx262_1
                   have hw262_0 := hx262_0
                   obtain rfl : ad259 = ad262 := (by injection e262)
                   replace hx262_0 := (HB.out.cell (World.block_lt_of_cell? w _ hx262_0)).trans hx262_0
                   replace hx262_1 := (HB.out.cell (World.block_lt_of_cell? w _ hx262_1)).trans hx262_1
                   replace p262 := eq_true p262
                   replace q262 := eq_true q262
                   refine start_ (n := 23) (S := fun w' => w'.cell? ⟨gb260, 0, none⟩ = some (.int .i64 ((rd_T91 l0_2 x87_3).f0)) ∧ w'.cell? ⟨gb260, 1, none⟩ = some (.int .i64 ((rd_T91 l0_2 x87_3).f1)) ∧ w'.cell? ⟨gb252, 0, none⟩ = some (.int .i64 a0_0) ∧ w'.cell? ⟨gb252, 1, none⟩ = some (.slice A0_1 l0_1.length c0_1) ∧ w'.cell? ⟨gb252, 2, none⟩ = some (.slice (some ad259) l0_2.length c0_2) ∧ w'.cell? (ad259.add (((ji62)).toNat * 2)) = some (.int .i64 ((rd_T91 l0_2 (ji62)).f0)) ∧ w'.cell? ⟨(ad259.add (((ji62)).toNat * 2)).block, (ad259.add (((ji62)).toNat * 2)).off + 1, none⟩ = some (.int .i64 ((rd_T91 l0_2 (ji62)).f1))) (ds := []) #[false, false, false, false, false, false, false, false, false, false, false, false, false, false, false, false, false, false, false, false, false, false, false] (by kernel_rfl) rfl rfl ⟨(blk_cell BK260.out 0).trans rfl, (blk_cell BK260.out 1).trans rfl, (blk_cell BK252.out 0).trans rfl, (blk_cell BK252.out 1).trans rfl, (blk_cell BK252.out 2).trans rfl, ((HB.out.cell (World.block_lt_of_cell? w _ hw262_0)).trans hw262_0), ((HB.out.cell (World.block_lt_of_cell? w _ hw262_1)).trans hw262_1)⟩ (fun hHeld => ?_); refine with_tabW impl_WheelRight.tab18 impl_WheelRight.bits18 (fun HT_ HW_ => ?_)
                   generalize w70.drew = w71 at BK252 BK260 HB hx262_0 hx262_1 hHeld ⊢
                   refine pu_ 0 92 HT_ ?_
                   refine pu_ 2 94 HT_ ?_
                   refine tk_ 1 93 HT_ HW_ hHeld ?_ rfl rfl (by rintro w' ⟨s0, s1, s2, s3, s4, s5, s6⟩; go_simp; with_reducible rfl)
                   refine tk_ 3 95 HT_ HW_ hHeld ?_ rfl rfl (by rintro w' ⟨s0, s1, s2, s3, s4, s5, s6⟩; go_simp; with_reducible rfl)
                   refine pu_ 4 96 HT_ ?_
                   refine pu_ 5 97 HT_ ?_
                   refine one_ (i := 6) (N := some 98) #[o_,o_,o_,o_,o_,o_,o_,x_,x_,x_,x_,x_,x_,x_,x_,x_,x_,x_,x_,x_,x_,x_,x_] rfl rfl (one_of HT_.out (by kernel_rfl)) (by decide) (fun K hK => ?_)
                   refine goes_ Try.func69 (by kernel_rfl) rfl #[.int .i64 ((rd_T91 l0_2 x87_3).f1), .int .i64 (wrap64 ((wrap64 (a0_0 + 16)) + 1)), .int .i64 1000000] (by rfl) rfl rfl (by (try simp only [List.map_toArray, List.map_cons, List.map_nil]); first | done | rfl | (simp only [List.length_drop, List.length_take]; rfl)) ?_
                   with_reducible refine (impl_in.calls ((rd_T91 l0_2 x87_3).f1) (wrap64 ((wrap64 (a0_0 + 16)) + 1)) 1000000 true _ A59.out).mono ?_
                   rintro e w' ⟨rfl, ⟨nd, rfl⟩⟩
                   refine ⟨_, rfl, ?_⟩
                   refine hK.out _ _ ⟨(blk_cell BK260.out 0).trans rfl, (blk_cell BK260.out 1).trans rfl, (blk_cell BK252.out 0).trans rfl, (blk_cell BK252.out 1).trans rfl, (blk_cell BK252.out 2).trans rfl, ((HB.out.cell (World.block_lt_of_cell? w _ hw262_0)).trans hw262_0), ((HB.out.cell (World.block_lt_of_cell? w _ hw262_1)).trans hw262_1)⟩ (fun hHeld => ?_)
                   clear hK K
                   refine norm_ (a' := ?_) ?_ ?_
                   rotate_left
                   ·
                    show Act.put _ (some 98) _ = _
                    simp only [Act.put, List.setIfInBounds_toArray, List.set_cons_zero, List.set_cons_succ, i64_w, i32_w]
                    rfl
                   refine pu_ 7 99 HT_ ?_
                   refine pu_ 8 100 HT_ ?_
                   refine pu_ 9 101 HT_ ?_
                   refine pu_ 10 102 HT_ ?_
                   refine pu_ 11 103 HT_ ?_
                   refine pu_ 12 104 HT_ ?_
                   refine pu_ 14 106 HT_ ?_
                   refine pu_ 15 107 HT_ ?_
                   refine tk_ 13 105 HT_ HW_ hHeld ?_ rfl rfl (by rintro w' ⟨s0, s1, s2, s3, s4, s5, s6⟩; go_simp; with_reducible rfl)
                   refine pu_ 16 108 HT_ ?_
                   refine tk_ 17 109 HT_ HW_ hHeld ?_ rfl rfl (by rintro w' ⟨s0, s1, s2, s3, s4, s5, s6⟩; go_simp; with_reducible rfl)
                   refine tk_ 18 110 HT_ HW_ hHeld ?_ rfl rfl (by rintro w' ⟨s0, s1, s2, s3, s4, s5, s6⟩; go_simp; with_reducible rfl)
                   refine one_ (i := 19) (N := some 111) #[o_,o_,o_,o_,o_,o_,o_,o_,o_,o_,o_,o_,o_,o_,o_,o_,o_,o_,o_,o_,x_,x_,x_] rfl rfl (one_of HT_.out (by kernel_rfl)) (by decide) (fun K hK => ?_)
                   refine goes_ Try.func70 (by kernel_rfl) rfl #[.agg #[.int .i64 ((rd_T91 l0_2 (ji62)).f0), .int .i64 ((rd_T91 l0_2 (ji62)).f1)], .agg #[.int .i64 ((rd_T91 l0_2 x87_3).f0), .int .i64 ((rd_T91 l0_2 x87_3).f1)]] (by rfl) rfl rfl (by (try simp only [List.map_toArray, List.map_cons, List.map_nil]); first | done | (simp only [hji62]; rfl) | rfl | (simp only [List.length_drop, List.length_take]; rfl)) ?_
                   with_reducible refine (impl_byTime.calls k3 ((rd_T91 l0_2 (ji62)).f0) ((rd_T91 l0_2 (ji62)).f1) ((rd_T91 l0_2 x87_3).f0) ((rd_T91 l0_2 x87_3).f1) t263 _ A65.out).mono ?_
                   rintro e w72 ⟨rfl, hb⟩
                   refine ⟨_, rfl, ?_⟩
                   replace BK252 := Aside0.mk (blk_below (up_ BK252.out) hb)
                   replace BK260 := Aside0.mk (blk_below (up_ BK260.out) hb)
                   replace HB := Aside0.mk (below_step bl_ hb)
                   (try clear hb)
                   (try clear hb2)
                   (try clear hk)
                   (try clear hi)
                   refine hK.out _ _ ⟨(blk_cell BK260.out 0).trans rfl, (blk_cell BK260.out 1).trans rfl, (blk_cell BK252.out 0).trans rfl, (blk_cell BK252.out 1).trans rfl, (blk_cell BK252.out 2).trans rfl, ((HB.out.cell (World.block_lt_of_cell? w _ hw262_0)).trans hw262_0), ((HB.out.cell (World.block_lt_of_cell? w _ hw262_1)).trans hw262_1)⟩ (fun hHeld => ?_)
                   clear hK K
                   refine norm_ (a' := ?_) ?_ ?_
                   rotate_left
                   ·
                    show Act.put _ (some 111) _ = _
                    simp only [Act.put, List.setIfInBounds_toArray, List.set_cons_zero, List.set_cons_succ, i64_w, i32_w]
                    rfl
                   refine pu_ 20 112 HT_ ?_
                   refine pu_ 21 113 HT_ ?_
                   refine pu_ 22 114 HT_ ?_
                   refine done_ (done_of HT_.out (by kernel_rfl)) ?_
                   try go_wp2
                   go_ret
                   exact ⟨by first | rfl | (simp [errW_none, errW_some] <;> rfl) | (simp only [← hji62]; first | rfl | (simp [errW_none, errW_some] <;> rfl)) | (simp [*, errW_none, errW_some] <;> rfl), bl_⟩
                  ·
                   rw [if_neg c66] at H
                   have c66b0 : decide (0 ≤ t263) = false := decide_eq_false c66
                   clear c66
                   have H' := Aside0.mk H
                   clear H
                   have p259 : 0 ≤ (x87_3 : Int) := ds_
                   have q259 : x87_3 < (l0_2.length : Int) := ds_
                   obtain ⟨ad259, e259, hx259_0, hx259_1⟩ := at_T91 HR0_2.out x87_3 p259 q259
                   cases e259
                   replace hx259_0 := (HB.out.cell (World.block_lt_of_cell? w _ hx259_0)).trans hx259_0
                   replace hx259_1 := (HB.out.cell (World.block_lt_of_cell? w _ hx259_1)).trans hx259_1
                   replace p259 := eq_true p259
                   replace q259 := eq_true q259
                   try go_wp2_with (first | ((with_reducible refine gate_dst (N := 9) rfl ?_); (try (refine gate_guard (by rfl) ?_; dsimp only)); refine box_event ?hg (N := 9) ?hd (cs := #[.int .i64 0, .int .i64 0]) (t := 91) ?hr ?_; (case hd => rfl); (case hg => rfl); (case hr => first | (go_simp; done) | (go_simp; rfl)); intro gb260 hg w73 hbox hb; have n0_ := Aside0.mk (blk_below (up_ BK252.out) hb); have n1_ := Aside0.mk (below_step bl_ hb); have n2_ := Aside0.mk (hbox); have n3_ := Aside0.mk ((by rw [hg]; exact (below_size bl_) : w.heap.size ≤ gb260)); have n4_ := Aside0.mk ((by rw [hg]; exact (below_size bl_) : w.heap.size ≤ gb260)); have n5_ := Aside0.mk ((by rw [hg]; exact Nat.ne_of_lt (blk_lt (up_ BK252.out)) : gb252 ≠ gb260)); have n6_ := Aside0.mk ((by rw [hg]; exact Nat.ne_of_gt (blk_lt (up_ BK252.out)) : gb260 ≠ gb252)); clear BK252; clear HB; have BK252 := n0_; have HB := n1_; have BK260 := n2_; have GW260 := n3_; have GE260 := n4_; have NB252_260 := n5_; have NB260_252 := n6_; clear n0_ n1_ n2_ n3_ n4_ n5_ n6_; clear hb hbox hg; have hnb74 := NB260_252.out; have hnc74 := NB252_260.out; have hcz75_0 : w73.cell? ⟨gb260, 0, none⟩ = some (.int .i64 0) := (blk_cell BK260.out 0).trans rfl; have hcz75_1 : w73.cell? ⟨gb260, 1, none⟩ = some (.int .i64 0) := (blk_cell BK260.out 1).trans rfl; have hfz75_0 := blk_frozen BK260.out 0; have hfz75_1 := blk_frozen BK260.out 1))
                   have n0_ : Aside0 (((w73.setCell ⟨gb260, 0, none⟩ (.int .i64 ((rd_T91 l0_2 x87_3).f0))).setCell ⟨gb260, 1, none⟩ (.int .i64 ((rd_T91 l0_2 x87_3).f1))).heap[gb252]? = some (.cells #[.int .i64 a0_0, .slice A0_1 l0_1.length c0_1, .slice (some ad259) l0_2.length c0_2] 45 (0, 0))) := ⟨by (with_reducible repeat (first | refine blk_drewN ?_ _ | refine blk_drew ?_ | refine blk_alloc ?_ _)); refine blk_far ?_ NB252_260.out _; (with_reducible repeat (first | refine blk_drewN ?_ _ | refine blk_drew ?_ | refine blk_alloc ?_ _)); refine blk_far ?_ NB252_260.out _; (with_reducible repeat (first | refine blk_drewN ?_ _ | refine blk_drew ?_ | refine blk_alloc ?_ _)); exact BK252.out⟩
                   have n1_ : Aside0 (((w73.setCell ⟨gb260, 0, none⟩ (.int .i64 ((rd_T91 l0_2 x87_3).f0))).setCell ⟨gb260, 1, none⟩ (.int .i64 ((rd_T91 l0_2 x87_3).f1))).heap[gb260]? = some (.cells #[.int .i64 ((rd_T91 l0_2 x87_3).f0), .int .i64 ((rd_T91 l0_2 x87_3).f1)] 91 (0, 0))) := ⟨by (with_reducible repeat (first | refine blk_drewN ?_ _ | refine blk_drew ?_ | refine blk_alloc ?_ _)); refine blk_put (cs := #[.int .i64 ((rd_T91 l0_2 x87_3).f0), .int .i64 0]) ?_ 1 _ rfl; (with_reducible repeat (first | refine blk_drewN ?_ _ | refine blk_drew ?_ | refine blk_alloc ?_ _)); refine blk_put (cs := #[.int .i64 0, .int .i64 0]) ?_ 0 _ rfl; (with_reducible repeat (first | refine blk_drewN ?_ _ | refine blk_drew ?_ | refine blk_alloc ?_ _)); exact BK260.out⟩
                   have n2_ : Aside0 (Below w.heap.size w ((w73.setCell ⟨gb260, 0, none⟩ (.int .i64 ((rd_T91 l0_2 x87_3).f0))).setCell ⟨gb260, 1, none⟩ (.int .i64 ((rd_T91 l0_2 x87_3).f1)))) := ⟨bl_⟩
                   (try clear BK252)
                   (try clear BK260)
                   (try clear HB)
                   generalize ((w73.setCell ⟨gb260, 0, none⟩ (.int .i64 ((rd_T91 l0_2 x87_3).f0))).setCell ⟨gb260, 1, none⟩ (.int .i64 ((rd_T91 l0_2 x87_3).f1))) = w76 at n0_ n1_ n2_ ⊢
                   have BK252 := n0_
                   have BK260 := n1_
                   have HB := n2_
                   clear n0_ n1_ n2_
                   replace BK252 := Aside0.mk (blk_drew BK252.out)
                   replace BK260 := Aside0.mk (blk_drew BK260.out)
                   replace HB := Aside0.mk (below_drew1 HB.out)
                   have p262 : 0 ≤ ((ji62) : Int) := ds_
                   have q262 : (ji62) < (l0_2.length : Int) := ds_
                   obtain ⟨ad262, e262, hx262_0, hx262_1⟩ := at_T91 HR0_2.out (ji62) p262 q262
                   have hw262_1 := hx262_1
                   have hw262_0 := hx262_0
                   obtain rfl : ad259 = ad262 := (by injection e262)
                   replace hx262_0 := (HB.out.cell (World.block_lt_of_cell? w _ hx262_0)).trans hx262_0
                   replace hx262_1 := (HB.out.cell (World.block_lt_of_cell? w _ hx262_1)).trans hx262_1
                   replace p262 := eq_true p262
                   replace q262 := eq_true q262
                   refine start_ (n := 23) (S := fun w' => w'.cell? ⟨gb260, 0, none⟩ = some (.int .i64 ((rd_T91 l0_2 x87_3).f0)) ∧ w'.cell? ⟨gb260, 1, none⟩ = some (.int .i64 ((rd_T91 l0_2 x87_3).f1)) ∧ w'.cell? ⟨gb252, 0, none⟩ = some (.int .i64 a0_0) ∧ w'.cell? ⟨gb252, 1, none⟩ = some (.slice A0_1 l0_1.length c0_1) ∧ w'.cell? ⟨gb252, 2, none⟩ = some (.slice (some ad259) l0_2.length c0_2) ∧ w'.cell? (ad259.add (((ji62)).toNat * 2)) = some (.int .i64 ((rd_T91 l0_2 (ji62)).f0)) ∧ w'.cell? ⟨(ad259.add (((ji62)).toNat * 2)).block, (ad259.add (((ji62)).toNat * 2)).off + 1, none⟩ = some (.int .i64 ((rd_T91 l0_2 (ji62)).f1))) (ds := []) #[false, false, false, false, false, false, false, false, false, false, false, false, false, false, false, false, false, false, false, false, false, false, false] (by kernel_rfl) rfl rfl ⟨(blk_cell BK260.out 0).trans rfl, (blk_cell BK260.out 1).trans rfl, (blk_cell BK252.out 0).trans rfl, (blk_cell BK252.out 1).trans rfl, (blk_cell BK252.out 2).trans rfl, ((HB.out.cell (World.block_lt_of_cell? w _ hw262_0)).trans hw262_0), ((HB.out.cell (World.block_lt_of_cell? w _ hw262_1)).trans hw262_1)⟩ (fun hHeld => ?_); refine with_tabW impl_WheelRight.tab18 impl_WheelRight.bits18 (fun HT_ HW_ => ?_)
                   generalize w76.drew = w77 at BK252 BK260 HB hx262_0 hx262_1 hHeld ⊢
                   refine pu_ 0 92 HT_ ?_
                   refine pu_ 2 94 HT_ ?_
                   refine tk_ 1 93 HT_ HW_ hHeld ?_ rfl rfl (by rintro w' ⟨s0, s1, s2, s3, s4, s5, s6⟩; go_simp; with_reducible rfl)
                   refine tk_ 3 95 HT_ HW_ hHeld ?_ rfl rfl (by rintro w' ⟨s0, s1, s2, s3, s4, s5, s6⟩; go_simp; with_reducible rfl)
                   refine pu_ 4 96 HT_ ?_
                   refine pu_ 5 97 HT_ ?_
                   refine one_ (i := 6) (N := some 98) #[o_,o_,o_,o_,o_,o_,o_,x_,x_,x_,x_,x_,x_,x_,x_,x_,x_,x_,x_,x_,x_,x_,x_] rfl rfl (one_of HT_.out (by kernel_rfl)) (by decide) (fun K hK => ?_)
                   refine goes_ Try.func69 (by kernel_rfl) rfl #[.int .i64 ((rd_T91 l0_2 x87_3).f1), .int .i64 (wrap64 ((wrap64 (a0_0 + 16)) + 1)), .int .i64 1000000] (by rfl) rfl rfl (by (try simp only [List.map_toArray, List.map_cons, List.map_nil]); first | done | rfl | (simp only [List.length_drop, List.length_take]; rfl)) ?_
                   with_reducible refine (impl_in.calls ((rd_T91 l0_2 x87_3).f1) (wrap64 ((wrap64 (a0_0 + 16)) + 1)) 1000000 true _ A59.out).mono ?_
                   rintro e w' ⟨rfl, ⟨nd, rfl⟩⟩
                   refine ⟨_, rfl, ?_⟩
                   refine hK.out _ _ ⟨(blk_cell BK260.out 0).trans rfl, (blk_cell BK260.out 1).trans rfl, (blk_cell BK252.out 0).trans rfl, (blk_cell BK252.out 1).trans rfl, (blk_cell BK252.out 2).trans rfl, ((HB.out.cell (World.block_lt_of_cell? w _ hw262_0)).trans hw262_0), ((HB.out.cell (World.block_lt_of_cell? w _ hw262_1)).trans hw262_1)⟩ (fun hHeld => ?_)
                   clear hK K
                   refine norm_ (a' := ?_) ?_ ?_
                   rotate_left
                   ·
                    show Act.put _ (some 98) _ = _
                    simp only [Act.put, List.setIfInBounds_toArray, List.set_cons_zero, List.set_cons_succ, i64_w, i32_w]
                    rfl
                   refine pu_ 7 99 HT_ ?_
                   refine pu_ 8 100 HT_ ?_
                   refine pu_ 9 101 HT_ ?_
                   refine pu_ 10 102 HT_ ?_
                   refine pu_ 11 103 HT_ ?_
                   refine pu_ 12 104 HT_ ?_
                   refine pu_ 14 106 HT_ ?_
                   refine pu_ 15 107 HT_ ?_
                   refine tk_ 13 105 HT_ HW_ hHeld ?_ rfl rfl (by rintro w' ⟨s0, s1, s2, s3, s4, s5, s6⟩; go_simp; with_reducible rfl)
                   refine pu_ 16 108 HT_ ?_
                   refine tk_ 17 109 HT_ HW_ hHeld ?_ rfl rfl (by rintro w' ⟨s0, s1, s2, s3, s4, s5, s6⟩; go_simp; with_reducible rfl)
                   refine tk_ 18 110 HT_ HW_ hHeld ?_ rfl rfl (by rintro w' ⟨s0, s1, s2, s3, s4, s5, s6⟩; go_simp; with_reducible rfl)
                   refine one_ (i := 19) (N := some 111) #[o_,o_,o_,o_,o_,o_,o_,o_,o_,o_,o_,o_,o_,o_,o_,o_,o_,o_,o_,o_,x_,x_,x_] rfl rfl (one_of HT_.out (by kernel_rfl)) (by decide) (fun K hK => ?_)
                   refine goes_ Try.func70 (by kernel_rfl) rfl #[.agg #[.int .i64 ((rd_T91 l0_2 (ji62)).f0), .int .i64 ((rd_T91 l0_2 (ji62)).f1)], .agg #[.int .i64 ((rd_T91 l0_2 x87_3).f0), .int .i64 ((rd_T91 l0_2 x87_3).f1)]] (by rfl) rfl rfl (by (try simp only [List.map_toArray, List.map_cons, List.map_nil]); first | done | (simp only [hji62]; rfl) | rfl | (simp only [List.length_drop, List.length_take]; rfl)) ?_
                   with_reducible refine (impl_byTime.calls k3 ((rd_T91 l0_2 (ji62)).f0) ((rd_T91 l0_2 (ji62)).f1) ((rd_T91 l0_2 x87_3).f0) ((rd_T91 l0_2 x87_3).f1) t263 _ A65.out).mono ?_
                   rintro e w78 ⟨rfl, hb⟩
                   refine ⟨_, rfl, ?_⟩
                   replace BK252 := Aside0.mk (blk_below (up_ BK252.out) hb)
                   replace BK260 := Aside0.mk (blk_below (up_ BK260.out) hb)
                   replace HB := Aside0.mk (below_step bl_ hb)
                   (try clear hb)
                   (try clear hb2)
                   (try clear hk)
                   (try clear hi)
                   refine hK.out _ _ ⟨(blk_cell BK260.out 0).trans rfl, (blk_cell BK260.out 1).trans rfl, (blk_cell BK252.out 0).trans rfl, (blk_cell BK252.out 1).trans rfl, (blk_cell BK252.out 2).trans rfl, ((HB.out.cell (World.block_lt_of_cell? w _ hw262_0)).trans hw262_0), ((HB.out.cell (World.block_lt_of_cell? w _ hw262_1)).trans hw262_1)⟩ (fun hHeld => ?_)
                   clear hK K
                   refine norm_ (a' := ?_) ?_ ?_
                   rotate_left
                   ·
                    show Act.put _ (some 111) _ = _
                    simp only [Act.put, List.setIfInBounds_toArray, List.set_cons_zero, List.set_cons_succ, i64_w, i32_w]
                    rfl
                   refine pu_ 20 112 HT_ ?_
                   refine pu_ 21 113 HT_ ?_
                   refine pu_ 22 114 HT_ ?_
                   refine done_ (done_of HT_.out (by kernel_rfl)) ?_
                   try go_wp2
                   go_roundg k3
                   case measure => have := HJ1.out; have := HK2.out; have := HK3.out; omega
                   case rel => exact ⟨(wrap64 (x87_3 + 1)), (by first | rfl | (simp; done) | (simp [*]; done)), H', ⟨by have := HJ1.out; have := HK2.out; have := HK3.out; omega⟩, ⟨up_ BK252.out⟩, ⟨bl_⟩⟩
                 ·
                  rw [if_neg c64] at H
                  exact absurd H (by simp)
                ·
                 rw [if_neg c63] at H
                 exact absurd H (by simp)
               ·
                rw [if_neg c61] at H
                have c61b0 : decide (0 < x87_3) = false := decide_eq_false c61
                clear c61
                have H' := Aside0.mk H
                clear H
                have p259 : 0 ≤ (x87_3 : Int) := ds_
                have q259 : x87_3 < (l0_2.length : Int) := ds_
                obtain ⟨ad259, e259, hx259_0, hx259_1⟩ := at_T91 HR0_2.out x87_3 p259 q259
                cases e259
                replace hx259_0 := (HB.out.cell (World.block_lt_of_cell? w _ hx259_0)).trans hx259_0
                replace hx259_1 := (HB.out.cell (World.block_lt_of_cell? w _ hx259_1)).trans hx259_1
                replace p259 := eq_true p259
                replace q259 := eq_true q259
                try go_wp2_with (first | ((with_reducible refine gate_dst (N := 9) rfl ?_); (try (refine gate_guard (by rfl) ?_; dsimp only)); refine box_event ?hg (N := 9) ?hd (cs := #[.int .i64 0, .int .i64 0]) (t := 91) ?hr ?_; (case hd => rfl); (case hg => rfl); (case hr => first | (go_simp; done) | (go_simp; rfl)); intro gb260 hg w79 hbox hb; have n0_ := Aside0.mk (blk_below (up_ BK252.out) hb); have n1_ := Aside0.mk (below_step bl_ hb); have n2_ := Aside0.mk (hbox); have n3_ := Aside0.mk ((by rw [hg]; exact (below_size bl_) : w.heap.size ≤ gb260)); have n4_ := Aside0.mk ((by rw [hg]; exact (below_size bl_) : w.heap.size ≤ gb260)); have n5_ := Aside0.mk ((by rw [hg]; exact Nat.ne_of_lt (blk_lt (up_ BK252.out)) : gb252 ≠ gb260)); have n6_ := Aside0.mk ((by rw [hg]; exact Nat.ne_of_gt (blk_lt (up_ BK252.out)) : gb260 ≠ gb252)); clear BK252; clear HB; have BK252 := n0_; have HB := n1_; have BK260 := n2_; have GW260 := n3_; have GE260 := n4_; have NB252_260 := n5_; have NB260_252 := n6_; clear n0_ n1_ n2_ n3_ n4_ n5_ n6_; clear hb hbox hg; have hnb80 := NB260_252.out; have hnc80 := NB252_260.out; have hcz81_0 : w79.cell? ⟨gb260, 0, none⟩ = some (.int .i64 0) := (blk_cell BK260.out 0).trans rfl; have hcz81_1 : w79.cell? ⟨gb260, 1, none⟩ = some (.int .i64 0) := (blk_cell BK260.out 1).trans rfl; have hfz81_0 := blk_frozen BK260.out 0; have hfz81_1 := blk_frozen BK260.out 1))
                have n0_ : Aside0 (((w79.setCell ⟨gb260, 0, none⟩ (.int .i64 ((rd_T91 l0_2 x87_3).f0))).setCell ⟨gb260, 1, none⟩ (.int .i64 ((rd_T91 l0_2 x87_3).f1))).heap[gb252]? = some (.cells #[.int .i64 a0_0, .slice A0_1 l0_1.length c0_1, .slice (some ad259) l0_2.length c0_2] 45 (0, 0))) := ⟨by (with_reducible repeat (first | refine blk_drewN ?_ _ | refine blk_drew ?_ | refine blk_alloc ?_ _)); refine blk_far ?_ NB252_260.out _; (with_reducible repeat (first | refine blk_drewN ?_ _ | refine blk_drew ?_ | refine blk_alloc ?_ _)); refine blk_far ?_ NB252_260.out _; (with_reducible repeat (first | refine blk_drewN ?_ _ | refine blk_drew ?_ | refine blk_alloc ?_ _)); exact BK252.out⟩
                have n1_ : Aside0 (((w79.setCell ⟨gb260, 0, none⟩ (.int .i64 ((rd_T91 l0_2 x87_3).f0))).setCell ⟨gb260, 1, none⟩ (.int .i64 ((rd_T91 l0_2 x87_3).f1))).heap[gb260]? = some (.cells #[.int .i64 ((rd_T91 l0_2 x87_3).f0), .int .i64 ((rd_T91 l0_2 x87_3).f1)] 91 (0, 0))) := ⟨by (with_reducible repeat (first | refine blk_drewN ?_ _ | refine blk_drew ?_ | refine blk_alloc ?_ _)); refine blk_put (cs := #[.int .i64 ((rd_T91 l0_2 x87_3).f0), .int .i64 0]) ?_ 1 _ rfl; (with_reducible repeat (first | refine blk_drewN ?_ _ | refine blk_drew ?_ | refine blk_alloc ?_ _)); refine blk_put (cs := #[.int .i64 0, .int .i64 0]) ?_ 0 _ rfl; (with_reducible repeat (first | refine blk_drewN ?_ _ | refine blk_drew ?_ | refine blk_alloc ?_ _)); exact BK260.out⟩
                have n2_ : Aside0 (Below w.heap.size w ((w79.setCell ⟨gb260, 0, none⟩ (.int .i64 ((rd_T91 l0_2 x87_3).f0))).setCell ⟨gb260, 1, none⟩ (.int .i64 ((rd_T91 l0_2 x87_3).f1)))) := ⟨bl_⟩
                (try clear BK252)
                (try clear BK260)
                (try clear HB)
                generalize ((w79.setCell ⟨gb260, 0, none⟩ (.int .i64 ((rd_T91 l0_2 x87_3).f0))).setCell ⟨gb260, 1, none⟩ (.int .i64 ((rd_T91 l0_2 x87_3).f1))) = w82 at n0_ n1_ n2_ ⊢
                have BK252 := n0_
                have BK260 := n1_
                have HB := n2_
                clear n0_ n1_ n2_
                replace BK252 := Aside0.mk (blk_drew BK252.out)
                replace BK260 := Aside0.mk (blk_drew BK260.out)
                replace HB := Aside0.mk (below_drew1 HB.out)
                refine start_ (n := 23) (S := fun w' => w'.cell? ⟨gb260, 0, none⟩ = some (.int .i64 ((rd_T91 l0_2 x87_3).f0)) ∧ w'.cell? ⟨gb260, 1, none⟩ = some (.int .i64 ((rd_T91 l0_2 x87_3).f1)) ∧ w'.cell? ⟨gb252, 0, none⟩ = some (.int .i64 a0_0) ∧ w'.cell? ⟨gb252, 1, none⟩ = some (.slice A0_1 l0_1.length c0_1) ∧ w'.cell? ⟨gb252, 2, none⟩ = some (.slice (some ad259) l0_2.length c0_2)) (ds := []) #[false, false, false, false, false, false, false, false, false, false, false, false, false, false, false, false, false, false, false, false, false, false, false] (by kernel_rfl) rfl rfl ⟨(blk_cell BK260.out 0).trans rfl, (blk_cell BK260.out 1).trans rfl, (blk_cell BK252.out 0).trans rfl, (blk_cell BK252.out 1).trans rfl, (blk_cell BK252.out 2).trans rfl⟩ (fun hHeld => ?_); refine with_tabW impl_WheelRight.tab18 impl_WheelRight.bits18 (fun HT_ HW_ => ?_)
                generalize w82.drew = w83 at BK252 BK260 HB hHeld ⊢
                refine pu_ 0 92 HT_ ?_
                refine pu_ 2 94 HT_ ?_
                refine tk_ 1 93 HT_ HW_ hHeld ?_ rfl rfl (by rintro w' ⟨s0, s1, s2, s3, s4⟩; go_simp; with_reducible rfl)
                refine tk_ 3 95 HT_ HW_ hHeld ?_ rfl rfl (by rintro w' ⟨s0, s1, s2, s3, s4⟩; go_simp; with_reducible rfl)
                refine pu_ 4 96 HT_ ?_
                refine pu_ 5 97 HT_ ?_
                refine one_ (i := 6) (N := some 98) #[o_,o_,o_,o_,o_,o_,o_,x_,x_,x_,x_,x_,x_,x_,x_,x_,x_,x_,x_,x_,x_,x_,x_] rfl rfl (one_of HT_.out (by kernel_rfl)) (by decide) (fun K hK => ?_)
                refine goes_ Try.func69 (by kernel_rfl) rfl #[.int .i64 ((rd_T91 l0_2 x87_3).f1), .int .i64 (wrap64 ((wrap64 (a0_0 + 16)) + 1)), .int .i64 1000000] (by rfl) rfl rfl (by (try simp only [List.map_toArray, List.map_cons, List.map_nil]); first | done | rfl | (simp only [List.length_drop, List.length_take]; rfl)) ?_
                with_reducible refine (impl_in.calls ((rd_T91 l0_2 x87_3).f1) (wrap64 ((wrap64 (a0_0 + 16)) + 1)) 1000000 true _ A59.out).mono ?_
                rintro e w' ⟨rfl, ⟨nd, rfl⟩⟩
                refine ⟨_, rfl, ?_⟩
                refine hK.out _ _ ⟨(blk_cell BK260.out 0).trans rfl, (blk_cell BK260.out 1).trans rfl, (blk_cell BK252.out 0).trans rfl, (blk_cell BK252.out 1).trans rfl, (blk_cell BK252.out 2).trans rfl⟩ (fun hHeld => ?_)
                clear hK K
                refine norm_ (a' := ?_) ?_ ?_
                rotate_left
                ·
                 show Act.put _ (some 98) _ = _
                 simp only [Act.put, List.setIfInBounds_toArray, List.set_cons_zero, List.set_cons_succ, i64_w, i32_w]
                 rfl
                refine pu_ 7 99 HT_ ?_
                refine pu_ 8 100 HT_ ?_
                refine pu_ 9 101 HT_ ?_
                refine pu_ 10 102 HT_ ?_
                refine pu_ 11 103 HT_ ?_
                refine pn_ 12 104 HT_ ?_
                refine pn_ 13 105 HT_ ?_
                refine pn_ 14 106 HT_ ?_
                refine pn_ 15 107 HT_ ?_
                refine pn_ 16 108 HT_ ?_
                refine pn_ 17 109 HT_ ?_
                refine pn_ 18 110 HT_ ?_
                refine pn_ 19 111 HT_ ?_
                refine pn_ 20 112 HT_ ?_
                refine pu_ 21 113 HT_ ?_
                refine pu_ 22 114 HT_ ?_
                refine done_ (done_of HT_.out (by kernel_rfl)) ?_
                try go_wp2
                go_roundg k3
                case measure => have := HJ1.out; have := HK2.out; have := HK3.out; omega
                case rel => exact ⟨(wrap64 (x87_3 + 1)), (by first | rfl | (simp; done) | (simp [*]; done)), H', ⟨by have := HJ1.out; have := HK2.out; have := HK3.out; omega⟩, ⟨up_ BK252.out⟩, ⟨bl_⟩⟩
              ·
               replace c60 := Bool.eq_false_iff.mpr c60
               subst c60
               have H1 : (some false) = some r := by rw [if_neg (show ¬ (false = true) by decide)] at H; exact H
               clear H
               have H := H1
               clear H1
               obtain rfl := Option.some.inj H
               have p259 : 0 ≤ (x87_3 : Int) := ds_
               have q259 : x87_3 < (l0_2.length : Int) := ds_
               obtain ⟨ad259, e259, hx259_0, hx259_1⟩ := at_T91 HR0_2.out x87_3 p259 q259
               cases e259
               replace hx259_0 := (HB.out.cell (World.block_lt_of_cell? w _ hx259_0)).trans hx259_0
               replace hx259_1 := (HB.out.cell (World.block_lt_of_cell? w _ hx259_1)).trans hx259_1
               replace p259 := eq_true p259
               replace q259 := eq_true q259
               try go_wp2_with (first | ((with_reducible refine gate_dst (N := 9) rfl ?_); (try (refine gate_guard (by rfl) ?_; dsimp only)); refine box_event ?hg (N := 9) ?hd (cs := #[.int .i64 0, .int .i64 0]) (t := 91) ?hr ?_; (case hd => rfl); (case hg => rfl); (case hr => first | (go_simp; done) | (go_simp; rfl)); intro gb260 hg w84 hbox hb; have n0_ := Aside0.mk (blk_below (up_ BK252.out) hb); have n1_ := Aside0.mk (below_step bl_ hb); have n2_ := Aside0.mk (hbox); have n3_ := Aside0.mk ((by rw [hg]; exact (below_size bl_) : w.heap.size ≤ gb260)); have n4_ := Aside0.mk ((by rw [hg]; exact (below_size bl_) : w.heap.size ≤ gb260)); have n5_ := Aside0.mk ((by rw [hg]; exact Nat.ne_of_lt (blk_lt (up_ BK252.out)) : gb252 ≠ gb260)); have n6_ := Aside0.mk ((by rw [hg]; exact Nat.ne_of_gt (blk_lt (up_ BK252.out)) : gb260 ≠ gb252)); clear BK252; clear HB; have BK252 := n0_; have HB := n1_; have BK260 := n2_; have GW260 := n3_; have GE260 := n4_; have NB252_260 := n5_; have NB260_252 := n6_; clear n0_ n1_ n2_ n3_ n4_ n5_ n6_; clear hb hbox hg; have hnb85 := NB260_252.out; have hnc85 := NB252_260.out; have hcz86_0 : w84.cell? ⟨gb260, 0, none⟩ = some (.int .i64 0) := (blk_cell BK260.out 0).trans rfl; have hcz86_1 : w84.cell? ⟨gb260, 1, none⟩ = some (.int .i64 0) := (blk_cell BK260.out 1).trans rfl; have hfz86_0 := blk_frozen BK260.out 0; have hfz86_1 := blk_frozen BK260.out 1))
               have n0_ : Aside0 (((w84.setCell ⟨gb260, 0, none⟩ (.int .i64 ((rd_T91 l0_2 x87_3).f0))).setCell ⟨gb260, 1, none⟩ (.int .i64 ((rd_T91 l0_2 x87_3).f1))).heap[gb252]? = some (.cells #[.int .i64 a0_0, .slice A0_1 l0_1.length c0_1, .slice (some ad259) l0_2.length c0_2] 45 (0, 0))) := ⟨by (with_reducible repeat (first | refine blk_drewN ?_ _ | refine blk_drew ?_ | refine blk_alloc ?_ _)); refine blk_far ?_ NB252_260.out _; (with_reducible repeat (first | refine blk_drewN ?_ _ | refine blk_drew ?_ | refine blk_alloc ?_ _)); refine blk_far ?_ NB252_260.out _; (with_reducible repeat (first | refine blk_drewN ?_ _ | refine blk_drew ?_ | refine blk_alloc ?_ _)); exact BK252.out⟩
               have n1_ : Aside0 (((w84.setCell ⟨gb260, 0, none⟩ (.int .i64 ((rd_T91 l0_2 x87_3).f0))).setCell ⟨gb260, 1, none⟩ (.int .i64 ((rd_T91 l0_2 x87_3).f1))).heap[gb260]? = some (.cells #[.int .i64 ((rd_T91 l0_2 x87_3).f0), .int .i64 ((rd_T91 l0_2 x87_3).f1)] 91 (0, 0))) := ⟨by (with_reducible repeat (first | refine blk_drewN ?_ _ | refine blk_drew ?_ | refine blk_alloc ?_ _)); refine blk_put (cs := #[.int .i64 ((rd_T91 l0_2 x87_3).f0), .int .i64 0]) ?_ 1 _ rfl; (with_reducible repeat (first | refine blk_drewN ?_ _ | refine blk_drew ?_ | refine blk_alloc ?_ _)); refine blk_put (cs := #[.int .i64 0, .int .i64 0]) ?_ 0 _ rfl; (with_reducible repeat (first | refine blk_drewN ?_ _ | refine blk_drew ?_ | refine blk_alloc ?_ _)); exact BK260.out⟩
               have n2_ : Aside0 (Below w.heap.size w ((w84.setCell ⟨gb260, 0, none⟩ (.int .i64 ((rd_T91 l0_2 x87_3).f0))).setCell ⟨gb260, 1, none⟩ (.int .i64 ((rd_T91 l0_2 x87_3).f1)))) := ⟨bl_⟩
               (try clear BK252)
               (try clear BK260)
               (try clear HB)
               generalize ((w84.setCell ⟨gb260, 0, none⟩ (.int .i64 ((rd_T91 l0_2 x87_3).f0))).setCell ⟨gb260, 1, none⟩ (.int .i64 ((rd_T91 l0_2 x87_3).f1))) = w87 at n0_ n1_ n2_ ⊢
               have BK252 := n0_
               have BK260 := n1_
               have HB := n2_
               clear n0_ n1_ n2_
               replace BK252 := Aside0.mk (blk_drew BK252.out)
               replace BK260 := Aside0.mk (blk_drew BK260.out)
               replace HB := Aside0.mk (below_drew1 HB.out)
               refine start_ (n := 23) (S := fun w' => w'.cell? ⟨gb260, 0, none⟩ = some (.int .i64 ((rd_T91 l0_2 x87_3).f0)) ∧ w'.cell? ⟨gb260, 1, none⟩ = some (.int .i64 ((rd_T91 l0_2 x87_3).f1)) ∧ w'.cell? ⟨gb252, 0, none⟩ = some (.int .i64 a0_0) ∧ w'.cell? ⟨gb252, 1, none⟩ = some (.slice A0_1 l0_1.length c0_1) ∧ w'.cell? ⟨gb252, 2, none⟩ = some (.slice (some ad259) l0_2.length c0_2)) (ds := []) #[false, false, false, false, false, false, false, false, false, false, false, false, false, false, false, false, false, false, false, false, false, false, false] (by kernel_rfl) rfl rfl ⟨(blk_cell BK260.out 0).trans rfl, (blk_cell BK260.out 1).trans rfl, (blk_cell BK252.out 0).trans rfl, (blk_cell BK252.out 1).trans rfl, (blk_cell BK252.out 2).trans rfl⟩ (fun hHeld => ?_); refine with_tabW impl_WheelRight.tab18 impl_WheelRight.bits18 (fun HT_ HW_ => ?_)
               generalize w87.drew = w88 at BK252 BK260 HB hHeld ⊢
               refine pu_ 0 92 HT_ ?_
               refine pu_ 2 94 HT_ ?_
               refine tk_ 1 93 HT_ HW_ hHeld ?_ rfl rfl (by rintro w' ⟨s0, s1, s2, s3, s4⟩; go_simp; with_reducible rfl)
               refine tk_ 3 95 HT_ HW_ hHeld ?_ rfl rfl (by rintro w' ⟨s0, s1, s2, s3, s4⟩; go_simp; with_reducible rfl)
               refine pu_ 4 96 HT_ ?_
               refine pu_ 5 97 HT_ ?_
               refine one_ (i := 6) (N := some 98) #[o_,o_,o_,o_,o_,o_,o_,x_,x_,x_,x_,x_,x_,x_,x_,x_,x_,x_,x_,x_,x_,x_,x_] rfl rfl (one_of HT_.out (by kernel_rfl)) (by decide) (fun K hK => ?_)
               refine goes_ Try.func69 (by kernel_rfl) rfl #[.int .i64 ((rd_T91 l0_2 x87_3).f1), .int .i64 (wrap64 ((wrap64 (a0_0 + 16)) + 1)), .int .i64 1000000] (by rfl) rfl rfl (by (try simp only [List.map_toArray, List.map_cons, List.map_nil]); first | done | rfl | (simp only [List.length_drop, List.length_take]; rfl)) ?_
               with_reducible refine (impl_in.calls ((rd_T91 l0_2 x87_3).f1) (wrap64 ((wrap64 (a0_0 + 16)) + 1)) 1000000 false _ A59.out).mono ?_
               rintro e w' ⟨rfl, ⟨nd, rfl⟩⟩
               refine ⟨_, rfl, ?_⟩
               refine hK.out _ _ ⟨(blk_cell BK260.out 0).trans rfl, (blk_cell BK260.out 1).trans rfl, (blk_cell BK252.out 0).trans rfl, (blk_cell BK252.out 1).trans rfl, (blk_cell BK252.out 2).trans rfl⟩ (fun hHeld => ?_)
               clear hK K
               refine norm_ (a' := ?_) ?_ ?_
               rotate_left
               ·
                show Act.put _ (some 98) _ = _
                simp only [Act.put, List.setIfInBounds_toArray, List.set_cons_zero, List.set_cons_succ, i64_w, i32_w]
                rfl
               refine pu_ 7 99 HT_ ?_
               refine pu_ 8 100 HT_ ?_
               refine pn_ 9 101 HT_ ?_
               refine pn_ 10 102 HT_ ?_
               refine pn_ 11 103 HT_ ?_
               refine pn_ 12 104 HT_ ?_
               refine pn_ 13 105 HT_ ?_
               refine pn_ 14 106 HT_ ?_
               refine pn_ 15 107 HT_ ?_
               refine pn_ 16 108 HT_ ?_
               refine pn_ 17 109 HT_ ?_
               refine pn_ 18 110 HT_ ?_
               refine pn_ 19 111 HT_ ?_
               refine pn_ 20 112 HT_ ?_
               refine pn_ 21 113 HT_ ?_
               refine pu_ 22 114 HT_ ?_
               refine done_ (done_of HT_.out (by kernel_rfl)) ?_
               try go_wp2
               go_ret
               exact ⟨by first | rfl | (simp [errW_none, errW_some] <;> rfl) | (simp [*, errW_none, errW_some] <;> rfl), bl_⟩
             ·
              rw [if_neg c58] at H
              exact absurd H (by simp)
            ·
             rw [if_neg c57] at H
             exact absurd H (by simp)
           ·
            rw [if_neg c56] at H
            have c56b0 : decide (x87_3 < (l0_2.length : Int)) = false := decide_eq_false c56
            clear c56
            by_cases c89 : x3_2 > 100
            ·
             rw [if_pos c89] at H
             have c89b0 : decide (100 < x3_2) = true := decide_eq_true c89
             clear c89
             obtain rfl := Option.some.inj H
             go_wp2
             go_ret
             exact ⟨by first | rfl | (simp [errW_none, errW_some] <;> rfl) | (simp [*, errW_none, errW_some] <;> rfl), bl_⟩
            ·
             rw [if_neg c89] at H
             have c89b0 : decide (100 < x3_2) = false := decide_eq_false c89
             clear c89
             replace H := Option.bind_eq_some_iff.mp H
             obtain ⟨t264, A900, H⟩ := H
             replace H : ((impl_Timer_71.f t264).bind fun t267 => (impl_WheelRight.l3 k3 t267 t267 (t267.length : Int) 0)) = some r := H
             have A90 := Aside0.mk A900
             clear A900
             replace H := Option.bind_eq_some_iff.mp H
             obtain ⟨t267, A910, H⟩ := H
             replace H : (impl_WheelRight.l3 k3 t267 t267 (t267.length : Int) 0) = some r := H
             have A91 := Aside0.mk A910
             clear A910
             have H' := Aside0.mk H
             clear H
             have hcz92_0 : wr.cell? ⟨gb252, 0, none⟩ = some (.int .i64 a0_0) := (blk_cell BK252.out 0).trans rfl
             have hcz92_1 : wr.cell? ⟨gb252, 1, none⟩ = some (.slice A0_1 l0_1.length c0_1) := (blk_cell BK252.out 1).trans rfl
             have hcz92_2 : wr.cell? ⟨gb252, 2, none⟩ = some (.slice A0_2 l0_2.length c0_2) := (blk_cell BK252.out 2).trans rfl
             have hfz92_0 := blk_frozen BK252.out 0
             have hfz92_1 := blk_frozen BK252.out 1
             have hfz92_2 := blk_frozen BK252.out 2
             go_wp2_with (first | ((with_reducible refine gate_callee (f := 73) rfl ?_); refine gL_ (some 119) Try.func73 #[.agg #[.int .i64 a0_0, .slice A0_1 l0_1.length c0_1, .slice A0_2 l0_2.length c0_2]] ?_; (with_reducible refine (impl_Wheel_all.calls a0_0 _ _ l0_1 _ _ l0_2 t264 _ ?side1 ?side2 ?side3 ?side4 A90.out).mono ?_); (case side1 => exact Kd.C_below HR0_1.out bl_); (case side2 => exact HC0_1.out); (case side3 => exact Kd.C_below HR0_2.out bl_); (case side4 => exact HC0_2.out); rintro e w93 ⟨v265, rfl, ho0, hb⟩; refine ⟨_, rfl, ?_⟩; have n0_ := Aside0.mk (Kd.R_lower ho0 (below_size bl_)); have n1_ := Aside0.mk (blk_below (up_ BK252.out) hb); have n2_ := Aside0.mk (below_step bl_ hb); clear BK252; clear HB; have HO266 := n0_; have BK252 := n1_; have HB := n2_; clear n0_ n1_ n2_; (try clear hb); (try clear hb2); (try clear hk); (try clear hi); (try clear ho0); obtain ⟨Ao94, co94, eo94⟩ := Kd.R_slice HO266.out; subst eo94) | ((with_reducible refine gate_callee (f := 72) rfl ?_); refine gL_ (some 120) Try.func72 #[.slice Ao94 t264.length co94] ?_; refine (values_calls _ _ _ _).mono ?_; rintro e w_ ⟨rfl, rfl⟩; refine ⟨_, rfl, ?_⟩) | ((with_reducible refine gate_callee (f := 71) rfl ?_); refine gL_ (some 121) Try.func71 #[.func (.func 119) #[] #[.pointer (some ⟨_, 0, none⟩)], .func (.func 74) #[] #[]] ?_; (with_reducible refine (impl_Timer_71.calls _ _ t264 t267 _ ?side1 ?side2 A91.out).mono ?_); (case side1 => repeat (first | exact (Kd.R_reads' HO266.out).2.2 | (with_reducible refine Kd.C_alloc ?_ _) | (with_reducible refine Kd.C_drewN ?_ _) | (with_reducible refine Kd.C_drew ?_))); (case side2 => exact (Kd.R_reads' HO266.out).2.1); rintro e w95 ⟨v268, rfl, ho0, hb⟩; refine ⟨_, rfl, ?_⟩; have n0_ := Aside0.mk (Kd.R_elder' (by exact rU_ HO266.out) (Kd.R_base ho0) hb); have n1_ := Aside0.mk (Kd.R_lower (Kd.R_new' ho0 (Kd.R_lt (by exact rU_ HO266.out))) (below_size bl_)); have n2_ := Aside0.mk (blk_below (up_ BK252.out) hb); have n3_ := Aside0.mk (below_step bl_ hb); clear HO266; clear BK252; clear HB; have HO266 := n0_; have HO269 := n1_; have BK252 := n2_; have HB := n3_; clear n0_ n1_ n2_ n3_; (try clear hb); (try clear hb2); (try clear hk); (try clear hi); (try clear ho0); obtain ⟨Ao96, co96, eo96⟩ := Kd.R_slice HO269.out; subst eo96))
             go_loopg [124] k3 (fun kq v124 w' => ∃ (x124_4 : Int), v124 = .int .i64 x124_4 ∧ Aside0 (impl_WheelRight.l3 kq t267 t267 (t267.length : Int) x124_4 = some r) ∧ Aside0 (kq ≤ k3) ∧ Aside0 (Kd.R k91 91 w' w.heap.size (fun _ => True) (.slice Ao96 t267.length co96) t267) ∧ Aside0 (Kd.R k91 91 w' w.heap.size (fun _ => True) (.slice Ao96 t267.length co96) t267) ∧ Aside0 (w'.heap[gb252]? = some (.cells #[.int .i64 a0_0, (.slice A0_1 l0_1.length c0_1), (.slice A0_2 l0_2.length c0_2)] 45 (0, 0))) ∧ Aside0 (Below w.heap.size w w'))
             case atStart => exact ⟨(0), (by first | rfl | (simp; done) | (simp [*]; done)), H', ⟨Nat.le_refl _⟩, ⟨by (with_reducible repeat (first | apply Kd.R_alloc | apply Kd.R_drewN | apply Kd.R_drew)); exact Kd.R_mono HO269.out (fun _ hk => trivial)⟩, ⟨by (with_reducible repeat (first | apply Kd.R_alloc | apply Kd.R_drewN | apply Kd.R_drew)); exact Kd.R_mono HO269.out (fun _ hk => trivial)⟩, ⟨up_ BK252.out⟩, ⟨bl_⟩⟩
             case round =>
              as_aux_lemma =>
               clear H'
               try clear p2
               try clear q2
               try clear hx2
               try clear c5
               try clear c6
               try clear p6
               try clear c7
               try clear c8
               try clear p25
               try clear q25
               try clear hx25
               try clear c56
               try clear c56b0
               try clear c57
               try clear c58
               try clear c60
               try clear c61
               try clear c61b0
               try clear c63
               try clear c64
               try clear p64
               try clear c69
               try clear c70
               try clear c71
               try clear c73
               try clear c80
               try clear c85
               try clear c89
               try clear c89b0
               try clear hcz81_0
               try clear hcz81_1
               try clear hcz86_0
               try clear hcz86_1
               try clear hcz92_0
               try clear hcz92_1
               try clear hcz92_2
               try clear hfz81_0
               try clear hfz81_1
               try clear hfz86_0
               try clear hfz86_1
               try clear hfz92_0
               try clear hfz92_1
               try clear hfz92_2
               try clear hx259_0
               try clear hx259_1
               try clear p259
               try clear q259
               obtain ⟨x124_4, rfl, HA, HK4, HO_10, HO_122, BK252, HB⟩ := hrel
               cases gk with
               | zero => exact absurd HA.out (by simp [impl_WheelRight.l3])
               | succ k4 =>
                have H := HA.out
                clear HA
                simp only [impl_WheelRight.l3] at H
                by_cases c97 : x124_4 < (t267.length : Int)
                ·
                 rw [if_pos c97] at H
                 have c97b0 : decide (x124_4 < (t267.length : Int)) = true := decide_eq_true c97
                 clear c97
                 by_cases c98 : 0 ≤ x124_4
                 ·
                  rw [if_pos c98] at H
                  have c98b0 : decide (0 ≤ x124_4) = true := decide_eq_true c98
                  clear c98
                  by_cases c99 : x124_4 < (t267.length : Int)
                  ·
                   rw [if_pos c99] at H
                   have c99b0 : decide (x124_4 < (t267.length : Int)) = true := decide_eq_true c99
                   clear c99
                   replace H := Option.bind_eq_some_iff.mp H
                   obtain ⟨t272, A1000, H⟩ := H
                   replace H : (if t272 = true then (if x124_4 > 0 then (if 0 ≤ (wrap64 (x124_4 - 1)) then (if (wrap64 (x124_4 - 1)) < (t267.length : Int) then (if ((rd_T91 t267 (wrap64 (x124_4 - 1))).f0) = ((rd_T91 t267 x124_4).f0) then (some false) else (impl_WheelRight.l3 k4 t267 t267 (t267.length : Int) (wrap64 (x124_4 + 1)))) else (none)) else (none)) else (impl_WheelRight.l3 k4 t267 t267 (t267.length : Int) (wrap64 (x124_4 + 1)))) else (some false)) = some r := H
                   have A100 := Aside0.mk A1000
                   clear A1000
                   by_cases c101 : t272 = true
                   ·
                    subst c101
                    have H1 : (if x124_4 > 0 then (if 0 ≤ (wrap64 (x124_4 - 1)) then (if (wrap64 (x124_4 - 1)) < (t267.length : Int) then (if ((rd_T91 t267 (wrap64 (x124_4 - 1))).f0) = ((rd_T91 t267 x124_4).f0) then (some false) else (impl_WheelRight.l3 k4 t267 t267 (t267.length : Int) (wrap64 (x124_4 + 1)))) else (none)) else (none)) else (impl_WheelRight.l3 k4 t267 t267 (t267.length : Int) (wrap64 (x124_4 + 1)))) = some r := by rw [if_pos rfl] at H; exact H
                    clear H
                    have H := H1
                    clear H1
                    by_cases c102 : x124_4 > 0
                    ·
                     rw [if_pos c102] at H
                     have c102b0 : decide (0 < x124_4) = true := decide_eq_true c102
                     clear c102
                     obtain ⟨ji103, hji103⟩ : ∃ j_ : Int, (wrap64 (x124_4 - 1)) = j_ := ⟨_, rfl⟩
                     replace H : (if 0 ≤ (ji103) then (if (ji103) < (t267.length : Int) then (if ((rd_T91 t267 (ji103)).f0) = ((rd_T91 t267 x124_4).f0) then (some false) else (impl_WheelRight.l3 k4 t267 t267 (t267.length : Int) (wrap64 (x124_4 + 1)))) else (none)) else (none)) = some r := by first | (rw [hji103] at H; exact H) | (simp only [hji103] at H ⊢; exact H)
                     (try rw [hji103] at A100)
                     have hji103w : (IntKind.i64.wrap (x124_4 - 1)) = ji103 := (i64_w _).trans hji103
                     by_cases c104 : 0 ≤ (ji103)
                     ·
                      rw [if_pos c104] at H
                      have c104b0 : decide (0 ≤ (ji103)) = true := decide_eq_true c104
                      clear c104
                      by_cases c105 : (ji103) < (t267.length : Int)
                      ·
                       rw [if_pos c105] at H
                       have c105b0 : decide ((ji103) < (t267.length : Int)) = true := decide_eq_true c105
                       clear c105
                       by_cases c106 : ((rd_T91 t267 (ji103)).f0) = ((rd_T91 t267 x124_4).f0)
                       ·
                        rw [if_pos c106] at H
                        have c106b0 : (((rd_T91 t267 (ji103)).f0) == ((rd_T91 t267 x124_4).f0)) = true := beq_iff_eq.mpr c106
                        have c106b1 : (((rd_T91 t267 (ji103)).f0) != ((rd_T91 t267 x124_4).f0)) = false := bne_eq_false_iff_eq.mpr c106
                        clear c106
                        obtain rfl := Option.some.inj H
                        have p270 : 0 ≤ (x124_4 : Int) := ds_
                        have q270 : x124_4 < (t267.length : Int) := ds_
                        obtain ⟨ad270, e270, hx270_0, hx270_1⟩ := at_T91 (Kd.R_reads' HO_122.out).2.2 x124_4 p270 q270
                        cases e270
                        replace p270 := eq_true p270
                        replace q270 := eq_true q270
                        try go_wp2_with (first | ((with_reducible refine gate_dst (N := 12) rfl ?_); (try (refine gate_guard (by rfl) ?_; dsimp only)); refine box_event ?hg (N := 12) ?hd (cs := #[.int .i64 0, .int .i64 0]) (t := 91) ?hr ?_; (case hd => rfl); (case hg => rfl); (case hr => first | (go_simp; done) | (go_simp; rfl)); intro gb271 hg w107 hbox hb; have n0_ := Aside0.mk (Kd.R_below (Kd.R_elderB (by exact rU_ HO_10.out) gb271 (Nat.le_of_eq hg.symm)) hb); have n1_ := Aside0.mk (Kd.R_below (Kd.R_elderB (by exact rU_ HO_122.out) gb271 (Nat.le_of_eq hg.symm)) hb); have n2_ := Aside0.mk (blk_below (up_ BK252.out) hb); have n3_ := Aside0.mk (below_step bl_ hb); have n4_ := Aside0.mk (hbox); have n5_ := Aside0.mk ((by rw [hg]; exact (below_size bl_) : w.heap.size ≤ gb271)); have n6_ := Aside0.mk ((by rw [hg]; exact (below_size bl_) : w.heap.size ≤ gb271)); have n7_ := Aside0.mk ((by rw [hg]; exact Nat.ne_of_lt (blk_lt (up_ BK252.out)) : gb252 ≠ gb271)); have n8_ := Aside0.mk ((by rw [hg]; exact Nat.ne_of_gt (blk_lt (up_ BK252.out)) : gb271 ≠ gb252)); clear HO_10; clear HO_122; clear BK252; clear HB; have HO_10 := n0_; have HO_122 := n1_; have BK252 := n2_; have HB := n3_; have BK271 := n4_; have GW271 := n5_; have GE271 := n6_; have NB252_271 := n7_; have NB271_252 := n8_; clear n0_ n1_ n2_ n3_ n4_ n5_ n6_ n7_ n8_; clear hb hbox hg; have hnb108 := NB271_252.out; have hnc108 := NB252_271.out; have hcz109_0 : w107.cell? ⟨gb271, 0, none⟩ = some (.int .i64 0) := (blk_cell BK271.out 0).trans rfl; have hcz109_1 : w107.cell? ⟨gb271, 1, none⟩ = some (.int .i64 0) := (blk_cell BK271.out 1).trans rfl; have hfz109_0 := blk_frozen BK271.out 0; have hfz109_1 := blk_frozen BK271.out 1))
                        have n0_ : Aside0 (Kd.R k91 91 ((w107.setCell ⟨gb271, 0, none⟩ (.int .i64 ((rd_T91 t267 x124_4).f0))).setCell ⟨gb271, 1, none⟩ (.int .i64 ((rd_T91 t267 x124_4).f1))) w.heap.size (fun k_ => k_ ≠ gb271) (.slice (some ad270) t267.length co96) t267) := ⟨by (with_reducible repeat (first | apply Kd.R_alloc | apply Kd.R_drewN | apply Kd.R_drew)); exact Kd.R_mono (Kd.R_far (p := ⟨gb271, 1, none⟩) (Kd.R_far (p := ⟨gb271, 0, none⟩) (Kd.R_mono HO_10.out (fun k_ hk => (⟨hk, hk.2⟩ : _ ∧ k_ ≠ gb271))) (fun _ hk => hk.2) (.int .i64 ((rd_T91 t267 x124_4).f0))) (fun _ hk => hk.2) (.int .i64 ((rd_T91 t267 x124_4).f1))) (fun _ hk => hk.1.2)⟩
                        have n1_ : Aside0 (Kd.R k91 91 ((w107.setCell ⟨gb271, 0, none⟩ (.int .i64 ((rd_T91 t267 x124_4).f0))).setCell ⟨gb271, 1, none⟩ (.int .i64 ((rd_T91 t267 x124_4).f1))) w.heap.size (fun k_ => k_ ≠ gb271) (.slice (some ad270) t267.length co96) t267) := ⟨by (with_reducible repeat (first | apply Kd.R_alloc | apply Kd.R_drewN | apply Kd.R_drew)); exact Kd.R_mono (Kd.R_far (p := ⟨gb271, 1, none⟩) (Kd.R_far (p := ⟨gb271, 0, none⟩) (Kd.R_mono HO_122.out (fun k_ hk => (⟨hk, hk.2⟩ : _ ∧ k_ ≠ gb271))) (fun _ hk => hk.2) (.int .i64 ((rd_T91 t267 x124_4).f0))) (fun _ hk => hk.2) (.int .i64 ((rd_T91 t267 x124_4).f1))) (fun _ hk => hk.1.2)⟩
                        have n2_ : Aside0 (((w107.setCell ⟨gb271, 0, none⟩ (.int .i64 ((rd_T91 t267 x124_4).f0))).setCell ⟨gb271, 1, none⟩ (.int .i64 ((rd_T91 t267 x124_4).f1))).heap[gb252]? = some (.cells #[.int .i64 a0_0, .slice A0_1 l0_1.length c0_1, .slice A0_2 l0_2.length c0_2] 45 (0, 0))) := ⟨by (with_reducible repeat (first | refine blk_drewN ?_ _ | refine blk_drew ?_ | refine blk_alloc ?_ _)); refine blk_far ?_ NB252_271.out _; (with_reducible repeat (first | refine blk_drewN ?_ _ | refine blk_drew ?_ | refine blk_alloc ?_ _)); refine blk_far ?_ NB252_271.out _; (with_reducible repeat (first | refine blk_drewN ?_ _ | refine blk_drew ?_ | refine blk_alloc ?_ _)); exact BK252.out⟩
                        have n3_ : Aside0 (((w107.setCell ⟨gb271, 0, none⟩ (.int .i64 ((rd_T91 t267 x124_4).f0))).setCell ⟨gb271, 1, none⟩ (.int .i64 ((rd_T91 t267 x124_4).f1))).heap[gb271]? = some (.cells #[.int .i64 ((rd_T91 t267 x124_4).f0), .int .i64 ((rd_T91 t267 x124_4).f1)] 91 (0, 0))) := ⟨by (with_reducible repeat (first | refine blk_drewN ?_ _ | refine blk_drew ?_ | refine blk_alloc ?_ _)); refine blk_put (cs := #[.int .i64 ((rd_T91 t267 x124_4).f0), .int .i64 0]) ?_ 1 _ rfl; (with_reducible repeat (first | refine blk_drewN ?_ _ | refine blk_drew ?_ | refine blk_alloc ?_ _)); refine blk_put (cs := #[.int .i64 0, .int .i64 0]) ?_ 0 _ rfl; (with_reducible repeat (first | refine blk_drewN ?_ _ | refine blk_drew ?_ | refine blk_alloc ?_ _)); exact BK271.out⟩
                        have n4_ : Aside0 (Below w.heap.size w ((w107.setCell ⟨gb271, 0, none⟩ (.int .i64 ((rd_T91 t267 x124_4).f0))).setCell ⟨gb271, 1, none⟩ (.int .i64 ((rd_T91 t267 x124_4).f1)))) := ⟨bl_⟩
                        (try clear HO_10)
                        (try clear HO_122)
                        (try clear BK252)
                        (try clear BK271)
                        (try clear HB)
                        generalize ((w107.setCell ⟨gb271, 0, none⟩ (.int .i64 ((rd_T91 t267 x124_4).f0))).setCell ⟨gb271, 1, none⟩ (.int .i64 ((rd_T91 t267 x124_4).f1))) = w110 at n0_ n1_ n2_ n3_ n4_ ⊢
                        have HO_10 := n0_
                        have HO_122 := n1_
                        have BK252 := n2_
                        have BK271 := n3_
                        have HB := n4_
                        clear n0_ n1_ n2_ n3_ n4_
                        replace HO_10 := Aside0.mk (Kd.R_drew HO_10.out)
                        replace HO_122 := Aside0.mk (Kd.R_drew HO_122.out)
                        replace BK252 := Aside0.mk (blk_drew BK252.out)
                        replace BK271 := Aside0.mk (blk_drew BK271.out)
                        replace HB := Aside0.mk (below_drew1 HB.out)
                        have p273 : 0 ≤ ((ji103) : Int) := ds_
                        have q273 : (ji103) < (t267.length : Int) := ds_
                        obtain ⟨ad273, e273, hx273_0, hx273_1⟩ := at_T91 (Kd.R_reads' HO_10.out).2.2 (ji103) p273 q273
                        obtain rfl : ad270 = ad273 := (by injection e273)
                        replace p273 := eq_true p273
                        replace q273 := eq_true q273
                        refine start_ (n := 19) (S := fun w' => w'.cell? ⟨gb271, 0, none⟩ = some (.int .i64 ((rd_T91 t267 x124_4).f0)) ∧ w'.cell? ⟨gb271, 1, none⟩ = some (.int .i64 ((rd_T91 t267 x124_4).f1)) ∧ w'.cell? (ad270.add (((ji103)).toNat * 2)) = some (.int .i64 ((rd_T91 t267 (ji103)).f0)) ∧ w'.cell? ⟨(ad270.add (((ji103)).toNat * 2)).block, (ad270.add (((ji103)).toNat * 2)).off + 1, none⟩ = some (.int .i64 ((rd_T91 t267 (ji103)).f1))) (ds := []) #[false, false, false, false, false, false, false, false, false, false, false, false, false, false, false, false, false, false, false] (by kernel_rfl) rfl rfl ⟨(blk_cell BK271.out 0).trans rfl, (blk_cell BK271.out 1).trans rfl, hx273_0, hx273_1⟩ (fun hHeld => ?_); refine with_tabW impl_WheelRight.tab27 impl_WheelRight.bits27 (fun HT_ HW_ => ?_)
                        generalize w110.drew = w111 at HO_10 HO_122 BK252 BK271 HB hx273_0 hx273_1 hHeld ⊢
                        refine pu_ 0 129 HT_ ?_
                        refine tk_ 1 130 HT_ HW_ hHeld ?_ rfl rfl (by rintro w' ⟨s0, s1, s2, s3⟩; go_simp; with_reducible rfl)
                        refine one_ (i := 2) (N := some 131) #[o_,o_,o_,x_,x_,x_,x_,x_,x_,x_,x_,x_,x_,x_,x_,x_,x_,x_,x_] rfl rfl (one_of HT_.out (by kernel_rfl)) (by decide) (fun K hK => ?_)
                        refine goes_ Try.func75 (by kernel_rfl) rfl #[.int .i64 ((rd_T91 t267 x124_4).f0)] (by rfl) rfl rfl (by (try simp only [List.map_toArray, List.map_cons, List.map_nil]); first | done | rfl | (simp only [List.length_drop, List.length_take]; rfl)) ?_
                        with_reducible refine (impl_isId.calls ((rd_T91 t267 x124_4).f0) true _ A100.out).mono ?_
                        rintro e w' ⟨rfl, ⟨nd, rfl⟩⟩
                        refine ⟨_, rfl, ?_⟩
                        refine hK.out _ _ ⟨(blk_cell BK271.out 0).trans rfl, (blk_cell BK271.out 1).trans rfl, hHeld.2.2.1, hHeld.2.2.2⟩ (fun hHeld => ?_)
                        clear hK K
                        refine norm_ (a' := ?_) ?_ ?_
                        rotate_left
                        ·
                         show Act.put _ (some 131) _ = _
                         simp only [Act.put, List.setIfInBounds_toArray, List.set_cons_zero, List.set_cons_succ, i64_w, i32_w]
                         rfl
                        refine pu_ 3 132 HT_ ?_
                        refine pu_ 4 133 HT_ ?_
                        refine pu_ 5 134 HT_ ?_
                        refine pu_ 6 135 HT_ ?_
                        refine pu_ 7 136 HT_ ?_
                        refine pu_ 8 137 HT_ ?_
                        refine pu_ 9 138 HT_ ?_
                        refine pu_ 10 139 HT_ ?_
                        refine pu_ 11 140 HT_ ?_
                        refine pu_ 12 141 HT_ ?_
                        refine pu_ 14 143 HT_ ?_
                        refine tk_ 13 142 HT_ HW_ hHeld ?_ rfl rfl (by rintro w' ⟨s0, s1, s2, s3⟩; go_simp; with_reducible rfl)
                        refine tk_ 15 144 HT_ HW_ hHeld ?_ rfl rfl (by rintro w' ⟨s0, s1, s2, s3⟩; go_simp; with_reducible rfl)
                        refine pu_ 16 145 HT_ ?_
                        refine pu_ 17 146 HT_ ?_
                        refine pu_ 18 147 HT_ ?_
                        refine done_ (done_of HT_.out (by kernel_rfl)) ?_
                        try go_wp2
                        go_ret
                        exact ⟨by first | rfl | (simp [errW_none, errW_some] <;> rfl) | (simp only [← hji103]; first | rfl | (simp [errW_none, errW_some] <;> rfl)) | (simp [*, errW_none, errW_some] <;> rfl), bl_⟩
                       ·
                        rw [if_neg c106] at H
                        have c106b0 : (((rd_T91 t267 (ji103)).f0) == ((rd_T91 t267 x124_4).f0)) = false := beq_eq_false_iff_ne.mpr c106
                        have c106b1 : (((rd_T91 t267 (ji103)).f0) != ((rd_T91 t267 x124_4).f0)) = true := bne_iff_ne.mpr c106
                        have H' := Aside0.mk H
                        clear H
                        have p270 : 0 ≤ (x124_4 : Int) := ds_
                        have q270 : x124_4 < (t267.length : Int) := ds_
                        obtain ⟨ad270, e270, hx270_0, hx270_1⟩ := at_T91 (Kd.R_reads' HO_122.out).2.2 x124_4 p270 q270
                        cases e270
                        replace p270 := eq_true p270
                        replace q270 := eq_true q270
                        try go_wp2_with (first | ((with_reducible refine gate_dst (N := 12) rfl ?_); (try (refine gate_guard (by rfl) ?_; dsimp only)); refine box_event ?hg (N := 12) ?hd (cs := #[.int .i64 0, .int .i64 0]) (t := 91) ?hr ?_; (case hd => rfl); (case hg => rfl); (case hr => first | (go_simp; done) | (go_simp; rfl)); intro gb271 hg w112 hbox hb; have n0_ := Aside0.mk (Kd.R_below (Kd.R_elderB (by exact rU_ HO_10.out) gb271 (Nat.le_of_eq hg.symm)) hb); have n1_ := Aside0.mk (Kd.R_below (Kd.R_elderB (by exact rU_ HO_122.out) gb271 (Nat.le_of_eq hg.symm)) hb); have n2_ := Aside0.mk (blk_below (up_ BK252.out) hb); have n3_ := Aside0.mk (below_step bl_ hb); have n4_ := Aside0.mk (hbox); have n5_ := Aside0.mk ((by rw [hg]; exact (below_size bl_) : w.heap.size ≤ gb271)); have n6_ := Aside0.mk ((by rw [hg]; exact (below_size bl_) : w.heap.size ≤ gb271)); have n7_ := Aside0.mk ((by rw [hg]; exact Nat.ne_of_lt (blk_lt (up_ BK252.out)) : gb252 ≠ gb271)); have n8_ := Aside0.mk ((by rw [hg]; exact Nat.ne_of_gt (blk_lt (up_ BK252.out)) : gb271 ≠ gb252)); clear HO_10; clear HO_122; clear BK252; clear HB; have HO_10 := n0_; have HO_122 := n1_; have BK252 := n2_; have HB := n3_; have BK271 := n4_; have GW271 := n5_; have GE271 := n6_; have NB252_271 := n7_; have NB271_252 := n8_; clear n0_ n1_ n2_ n3_ n4_ n5_ n6_ n7_ n8_; clear hb hbox hg; have hnb113 := NB271_252.out; have hnc113 := NB252_271.out; have hcz114_0 : w112.cell? ⟨gb271, 0, none⟩ = some (.int .i64 0) := (blk_cell BK271.out 0).trans rfl; have hcz114_1 : w112.cell? ⟨gb271, 1, none⟩ = some (.int .i64 0) := (blk_cell BK271.out 1).trans rfl; have hfz114_0 := blk_frozen BK271.out 0; have hfz114_1 := blk_frozen BK271.out 1))
                        have n0_ : Aside0 (Kd.R k91 91 ((w112.setCell ⟨gb271, 0, none⟩ (.int .i64 ((rd_T91 t267 x124_4).f0))).setCell ⟨gb271, 1, none⟩ (.int .i64 ((rd_T91 t267 x124_4).f1))) w.heap.size (fun k_ => k_ ≠ gb271) (.slice (some ad270) t267.length co96) t267) := ⟨by (with_reducible repeat (first | apply Kd.R_alloc | apply Kd.R_drewN | apply Kd.R_drew)); exact Kd.R_mono (Kd.R_far (p := ⟨gb271, 1, none⟩) (Kd.R_far (p := ⟨gb271, 0, none⟩) (Kd.R_mono HO_10.out (fun k_ hk => (⟨hk, hk.2⟩ : _ ∧ k_ ≠ gb271))) (fun _ hk => hk.2) (.int .i64 ((rd_T91 t267 x124_4).f0))) (fun _ hk => hk.2) (.int .i64 ((rd_T91 t267 x124_4).f1))) (fun _ hk => hk.1.2)⟩
                        have n1_ : Aside0 (Kd.R k91 91 ((w112.setCell ⟨gb271, 0, none⟩ (.int .i64 ((rd_T91 t267 x124_4).f0))).setCell ⟨gb271, 1, none⟩ (.int .i64 ((rd_T91 t267 x124_4).f1))) w.heap.size (fun k_ => k_ ≠ gb271) (.slice (some ad270) t267.length co96) t267) := ⟨by (with_reducible repeat (first | apply Kd.R_alloc | apply Kd.R_drewN | apply Kd.R_drew)); exact Kd.R_mono (Kd.R_far (p := ⟨gb271, 1, none⟩) (Kd.R_far (p := ⟨gb271, 0, none⟩) (Kd.R_mono HO_122.out (fun k_ hk => (⟨hk, hk.2⟩ : _ ∧ k_ ≠ gb271))) (fun _ hk => hk.2) (.int .i64 ((rd_T91 t267 x124_4).f0))) (fun _ hk => hk.2) (.int .i64 ((rd_T91 t267 x124_4).f1))) (fun _ hk => hk.1.2)⟩
                        have n2_ : Aside0 (((w112.setCell ⟨gb271, 0, none⟩ (.int .i64 ((rd_T91 t267 x124_4).f0))).setCell ⟨gb271, 1, none⟩ (.int .i64 ((rd_T91 t267 x124_4).f1))).heap[gb252]? = some (.cells #[.int .i64 a0_0, .slice A0_1 l0_1.length c0_1, .slice A0_2 l0_2.length c0_2] 45 (0, 0))) := ⟨by (with_reducible repeat (first | refine blk_drewN ?_ _ | refine blk_drew ?_ | refine blk_alloc ?_ _)); refine blk_far ?_ NB252_271.out _; (with_reducible repeat (first | refine blk_drewN ?_ _ | refine blk_drew ?_ | refine blk_alloc ?_ _)); refine blk_far ?_ NB252_271.out _; (with_reducible repeat (first | refine blk_drewN ?_ _ | refine blk_drew ?_ | refine blk_alloc ?_ _)); exact BK252.out⟩
                        have n3_ : Aside0 (((w112.setCell ⟨gb271, 0, none⟩ (.int .i64 ((rd_T91 t267 x124_4).f0))).setCell ⟨gb271, 1, none⟩ (.int .i64 ((rd_T91 t267 x124_4).f1))).heap[gb271]? = some (.cells #[.int .i64 ((rd_T91 t267 x124_4).f0), .int .i64 ((rd_T91 t267 x124_4).f1)] 91 (0, 0))) := ⟨by (with_reducible repeat (first | refine blk_drewN ?_ _ | refine blk_drew ?_ | refine blk_alloc ?_ _)); refine blk_put (cs := #[.int .i64 ((rd_T91 t267 x124_4).f0), .int .i64 0]) ?_ 1 _ rfl; (with_reducible repeat (first | refine blk_drewN ?_ _ | refine blk_drew ?_ | refine blk_alloc ?_ _)); refine blk_put (cs := #[.int .i64 0, .int .i64 0]) ?_ 0 _ rfl; (with_reducible repeat (first | refine blk_drewN ?_ _ | refine blk_drew ?_ | refine blk_alloc ?_ _)); exact BK271.out⟩
                        have n4_ : Aside0 (Below w.heap.size w ((w112.setCell ⟨gb271, 0, none⟩ (.int .i64 ((rd_T91 t267 x124_4).f0))).setCell ⟨gb271, 1, none⟩ (.int .i64 ((rd_T91 t267 x124_4).f1)))) := ⟨bl_⟩
                        (try clear HO_10)
                        (try clear HO_122)
                        (try clear BK252)
                        (try clear BK271)
                        (try clear HB)
                        generalize ((w112.setCell ⟨gb271, 0, none⟩ (.int .i64 ((rd_T91 t267 x124_4).f0))).setCell ⟨gb271, 1, none⟩ (.int .i64 ((rd_T91 t267 x124_4).f1))) = w115 at n0_ n1_ n2_ n3_ n4_ ⊢
                        have HO_10 := n0_
                        have HO_122 := n1_
                        have BK252 := n2_
                        have BK271 := n3_
                        have HB := n4_
                        clear n0_ n1_ n2_ n3_ n4_
                        replace HO_10 := Aside0.mk (Kd.R_drew HO_10.out)
                        replace HO_122 := Aside0.mk (Kd.R_drew HO_122.out)
                        replace BK252 := Aside0.mk (blk_drew BK252.out)
                        replace BK271 := Aside0.mk (blk_drew BK271.out)
                        replace HB := Aside0.mk (below_drew1 HB.out)
                        have p273 : 0 ≤ ((ji103) : Int) := ds_
                        have q273 : (ji103) < (t267.length : Int) := ds_
                        obtain ⟨ad273, e273, hx273_0, hx273_1⟩ := at_T91 (Kd.R_reads' HO_10.out).2.2 (ji103) p273 q273
                        obtain rfl : ad270 = ad273 := (by injection e273)
                        replace p273 := eq_true p273
                        replace q273 := eq_true q273
                        refine start_ (n := 19) (S := fun w' => w'.cell? ⟨gb271, 0, none⟩ = some (.int .i64 ((rd_T91 t267 x124_4).f0)) ∧ w'.cell? ⟨gb271, 1, none⟩ = some (.int .i64 ((rd_T91 t267 x124_4).f1)) ∧ w'.cell? (ad270.add (((ji103)).toNat * 2)) = some (.int .i64 ((rd_T91 t267 (ji103)).f0)) ∧ w'.cell? ⟨(ad270.add (((ji103)).toNat * 2)).block, (ad270.add (((ji103)).toNat * 2)).off + 1, none⟩ = some (.int .i64 ((rd_T91 t267 (ji103)).f1))) (ds := []) #[false, false, false, false, false, false, false, false, false, false, false, false, false, false, false, false, false, false, false] (by kernel_rfl) rfl rfl ⟨(blk_cell BK271.out 0).trans rfl, (blk_cell BK271.out 1).trans rfl, hx273_0, hx273_1⟩ (fun hHeld => ?_); refine with_tabW impl_WheelRight.tab27 impl_WheelRight.bits27 (fun HT_ HW_ => ?_)
                        generalize w115.drew = w116 at HO_10 HO_122 BK252 BK271 HB hx273_0 hx273_1 hHeld ⊢
                        refine pu_ 0 129 HT_ ?_
                        refine tk_ 1 130 HT_ HW_ hHeld ?_ rfl rfl (by rintro w' ⟨s0, s1, s2, s3⟩; go_simp; with_reducible rfl)
                        refine one_ (i := 2) (N := some 131) #[o_,o_,o_,x_,x_,x_,x_,x_,x_,x_,x_,x_,x_,x_,x_,x_,x_,x_,x_] rfl rfl (one_of HT_.out (by kernel_rfl)) (by decide) (fun K hK => ?_)
                        refine goes_ Try.func75 (by kernel_rfl) rfl #[.int .i64 ((rd_T91 t267 x124_4).f0)] (by rfl) rfl rfl (by (try simp only [List.map_toArray, List.map_cons, List.map_nil]); first | done | rfl | (simp only [List.length_drop, List.length_take]; rfl)) ?_
                        with_reducible refine (impl_isId.calls ((rd_T91 t267 x124_4).f0) true _ A100.out).mono ?_
                        rintro e w' ⟨rfl, ⟨nd, rfl⟩⟩
                        refine ⟨_, rfl, ?_⟩
                        refine hK.out _ _ ⟨(blk_cell BK271.out 0).trans rfl, (blk_cell BK271.out 1).trans rfl, hHeld.2.2.1, hHeld.2.2.2⟩ (fun hHeld => ?_)
                        clear hK K
                        refine norm_ (a' := ?_) ?_ ?_
                        rotate_left
                        ·
                         show Act.put _ (some 131) _ = _
                         simp only [Act.put, List.setIfInBounds_toArray, List.set_cons_zero, List.set_cons_succ, i64_w, i32_w]
                         rfl
                        refine pu_ 3 132 HT_ ?_
                        refine pu_ 4 133 HT_ ?_
                        refine pu_ 5 134 HT_ ?_
                        refine pu_ 6 135 HT_ ?_
                        refine pu_ 7 136 HT_ ?_
                        refine pu_ 8 137 HT_ ?_
                        refine pu_ 9 138 HT_ ?_
                        refine pu_ 10 139 HT_ ?_
                        refine pu_ 11 140 HT_ ?_
                        refine pu_ 12 141 HT_ ?_
                        refine pu_ 14 143 HT_ ?_
                        refine tk_ 13 142 HT_ HW_ hHeld ?_ rfl rfl (by rintro w' ⟨s0, s1, s2, s3⟩; go_simp; with_reducible rfl)
                        refine tk_ 15 144 HT_ HW_ hHeld ?_ rfl rfl (by rintro w' ⟨s0, s1, s2, s3⟩; go_simp; with_reducible rfl)
                        refine pu_ 16 145 HT_ ?_
                        refine pu_ 17 146 HT_ ?_
                        refine pu_ 18 147 HT_ ?_
                        refine done_ (done_of HT_.out (by kernel_rfl)) ?_
                        try go_wp2
                        go_roundg k4
                        case measure => have := HJ1.out; have := HK2.out; have := HK3.out; have := HK4.out; omega
                        case rel => exact ⟨(wrap64 (x124_4 + 1)), (by first | rfl | (simp; done) | (simp [*]; done)), H', ⟨by have := HJ1.out; have := HK2.out; have := HK3.out; have := HK4.out; omega⟩, ⟨by (with_reducible repeat (first | apply Kd.R_alloc | apply Kd.R_drewN | apply Kd.R_drew)); exact Kd.R_mono HO_10.out (fun _ hk => trivial)⟩, ⟨by (with_reducible repeat (first | apply Kd.R_alloc | apply Kd.R_drewN | apply Kd.R_drew)); exact Kd.R_mono HO_122.out (fun _ hk => trivial)⟩, ⟨up_ BK252.out⟩, ⟨bl_⟩⟩
                      ·
                       rw [if_neg c105] at H
                       exact absurd H (by simp)
                     ·
                      rw [if_neg c104] at H
                      exact absurd H (by simp)
                    ·
                     rw [if_neg c102] at H
                     have c102b0 : decide (0 < x124_4) = false := decide_eq_false c102
                     clear c102
                     have H' := Aside0.mk H
                     clear H
                     have p270 : 0 ≤ (x124_4 : Int) := ds_
                     have q270 : x124_4 < (t267.length : Int) := ds_
                     obtain ⟨ad270, e270, hx270_0, hx270_1⟩ := at_T91 (Kd.R_reads' HO_122.out).2.2 x124_4 p270 q270
                     cases e270
                     replace p270 := eq_true p270
                     replace q270 := eq_true q270
                     try go_wp2_with (first | ((with_reducible refine gate_dst (N := 12) rfl ?_); (try (refine gate_guard (by rfl) ?_; dsimp only)); refine box_event ?hg (N := 12) ?hd (cs := #[.int .i64 0, .int .i64 0]) (t := 91) ?hr ?_; (case hd => rfl); (case hg => rfl); (case hr => first | (go_simp; done) | (go_simp; rfl)); intro gb271 hg w117 hbox hb; have n0_ := Aside0.mk (Kd.R_below (Kd.R_elderB (by exact rU_ HO_10.out) gb271 (Nat.le_of_eq hg.symm)) hb); have n1_ := Aside0.mk (Kd.R_below (Kd.R_elderB (by exact rU_ HO_122.out) gb271 (Nat.le_of_eq hg.symm)) hb); have n2_ := Aside0.mk (blk_below (up_ BK252.out) hb); have n3_ := Aside0.mk (below_step bl_ hb); have n4_ := Aside0.mk (hbox); have n5_ := Aside0.mk ((by rw [hg]; exact (below_size bl_) : w.heap.size ≤ gb271)); have n6_ := Aside0.mk ((by rw [hg]; exact (below_size bl_) : w.heap.size ≤ gb271)); have n7_ := Aside0.mk ((by rw [hg]; exact Nat.ne_of_lt (blk_lt (up_ BK252.out)) : gb252 ≠ gb271)); have n8_ := Aside0.mk ((by rw [hg]; exact Nat.ne_of_gt (blk_lt (up_ BK252.out)) : gb271 ≠ gb252)); clear HO_10; clear HO_122; clear BK252; clear HB; have HO_10 := n0_; have HO_122 := n1_; have BK252 := n2_; have HB := n3_; have BK271 := n4_; have GW271 := n5_; have GE271 := n6_; have NB252_271 := n7_; have NB271_252 := n8_; clear n0_ n1_ n2_ n3_ n4_ n5_ n6_ n7_ n8_; clear hb hbox hg; have hnb118 := NB271_252.out; have hnc118 := NB252_271.out; have hcz119_0 : w117.cell? ⟨gb271, 0, none⟩ = some (.int .i64 0) := (blk_cell BK271.out 0).trans rfl; have hcz119_1 : w117.cell? ⟨gb271, 1, none⟩ = some (.int .i64 0) := (blk_cell BK271.out 1).trans rfl; have hfz119_0 := blk_frozen BK271.out 0; have hfz119_1 := blk_frozen BK271.out 1))
                     have n0_ : Aside0 (Kd.R k91 91 ((w117.setCell ⟨gb271, 0, none⟩ (.int .i64 ((rd_T91 t267 x124_4).f0))).setCell ⟨gb271, 1, none⟩ (.int .i64 ((rd_T91 t267 x124_4).f1))) w.heap.size (fun k_ => k_ ≠ gb271) (.slice (some ad270) t267.length co96) t267) := ⟨by (with_reducible repeat (first | apply Kd.R_alloc | apply Kd.R_drewN | apply Kd.R_drew)); exact Kd.R_mono (Kd.R_far (p := ⟨gb271, 1, none⟩) (Kd.R_far (p := ⟨gb271, 0, none⟩) (Kd.R_mono HO_10.out (fun k_ hk => (⟨hk, hk.2⟩ : _ ∧ k_ ≠ gb271))) (fun _ hk => hk.2) (.int .i64 ((rd_T91 t267 x124_4).f0))) (fun _ hk => hk.2) (.int .i64 ((rd_T91 t267 x124_4).f1))) (fun _ hk => hk.1.2)⟩
                     have n1_ : Aside0 (Kd.R k91 91 ((w117.setCell ⟨gb271, 0, none⟩ (.int .i64 ((rd_T91 t267 x124_4).f0))).setCell ⟨gb271, 1, none⟩ (.int .i64 ((rd_T91 t267 x124_4).f1))) w.heap.size (fun k_ => k_ ≠ gb271) (.slice (some ad270) t267.length co96) t267) := ⟨by (with_reducible repeat (first | apply Kd.R_alloc | apply Kd.R_drewN | apply Kd.R_drew)); exact Kd.R_mono (Kd.R_far (p := ⟨gb271, 1, none⟩) (Kd.R_far (p := ⟨gb271, 0, none⟩) (Kd.R_mono HO_122.out (fun k_ hk => (⟨hk, hk.2⟩ : _ ∧ k_ ≠ gb271))) (fun _ hk => hk.2) (.int .i64 ((rd_T91 t267 x124_4).f0))) (fun _ hk => hk.2) (.int .i64 ((rd_T91 t267 x124_4).f1))) (fun _ hk => hk.1.2)⟩
                     have n2_ : Aside0 (((w117.setCell ⟨gb271, 0, none⟩ (.int .i64 ((rd_T91 t267 x124_4).f0))).setCell ⟨gb271, 1, none⟩ (.int .i64 ((rd_T91 t267 x124_4).f1))).heap[gb252]? = some (.cells #[.int .i64 a0_0, .slice A0_1 l0_1.length c0_1, .slice A0_2 l0_2.length c0_2] 45 (0, 0))) := ⟨by (with_reducible repeat (first | refine blk_drewN ?_ _ | refine blk_drew ?_ | refine blk_alloc ?_ _)); refine blk_far ?_ NB252_271.out _; (with_reducible repeat (first | refine blk_drewN ?_ _ | refine blk_drew ?_ | refine blk_alloc ?_ _)); refine blk_far ?_ NB252_271.out _; (with_reducible repeat (first | refine blk_drewN ?_ _ | refine blk_drew ?_ | refine blk_alloc ?_ _)); exact BK252.out⟩
                     have n3_ : Aside0 (((w117.setCell ⟨gb271, 0, none⟩ (.int .i64 ((rd_T91 t267 x124_4).f0))).setCell ⟨gb271, 1, none⟩ (.int .i64 ((rd_T91 t267 x124_4).f1))).heap[gb271]? = some (.cells #[.int .i64 ((rd_T91 t267 x124_4).f0), .int .i64 ((rd_T91 t267 x124_4).f1)] 91 (0, 0))) := ⟨by (with_reducible repeat (first | refine blk_drewN ?_ _ | refine blk_drew ?_ | refine blk_alloc ?_ _)); refine blk_put (cs := #[.int .i64 ((rd_T91 t267 x124_4).f0), .int .i64 0]) ?_ 1 _ rfl; (with_reducible repeat (first | refine blk_drewN ?_ _ | refine blk_drew ?_ | refine blk_alloc ?_ _)); refine blk_put (cs := #[.int .i64 0, .int .i64 0]) ?_ 0 _ rfl; (with_reducible repeat (first | refine blk_drewN ?_ _ | refine blk_drew ?_ | refine blk_alloc ?_ _)); exact BK271.out⟩
                     have n4_ : Aside0 (Below w.heap.size w ((w117.setCell ⟨gb271, 0, none⟩ (.int .i64 ((rd_T91 t267 x124_4).f0))).setCell ⟨gb271, 1, none⟩ (.int .i64 ((rd_T91 t267 x124_4).f1)))) := ⟨bl_⟩
                     (try clear HO_10)
                     (try clear HO_122)
                     (try clear BK252)
                     (try clear BK271)
                     (try clear HB)
                     generalize ((w117.setCell ⟨gb271, 0, none⟩ (.int .i64 ((rd_T91 t267 x124_4).f0))).setCell ⟨gb271, 1, none⟩ (.int .i64 ((rd_T91 t267 x124_4).f1))) = w120 at n0_ n1_ n2_ n3_ n4_ ⊢
                     have HO_10 := n0_
                     have HO_122 := n1_
                     have BK252 := n2_
                     have BK271 := n3_
                     have HB := n4_
                     clear n0_ n1_ n2_ n3_ n4_
                     replace HO_10 := Aside0.mk (Kd.R_drew HO_10.out)
                     replace HO_122 := Aside0.mk (Kd.R_drew HO_122.out)
                     replace BK252 := Aside0.mk (blk_drew BK252.out)
                     replace BK271 := Aside0.mk (blk_drew BK271.out)
                     replace HB := Aside0.mk (below_drew1 HB.out)
                     refine start_ (n := 19) (S := fun w' => w'.cell? ⟨gb271, 0, none⟩ = some (.int .i64 ((rd_T91 t267 x124_4).f0)) ∧ w'.cell? ⟨gb271, 1, none⟩ = some (.int .i64 ((rd_T91 t267 x124_4).f1))) (ds := []) #[false, false, false, false, false, false, false, false, false, false, false, false, false, false, false, false, false, false, false] (by kernel_rfl) rfl rfl ⟨(blk_cell BK271.out 0).trans rfl, (blk_cell BK271.out 1).trans rfl⟩ (fun hHeld => ?_); refine with_tabW impl_WheelRight.tab27 impl_WheelRight.bits27 (fun HT_ HW_ => ?_)
                     generalize w120.drew = w121 at HO_10 HO_122 BK252 BK271 HB hHeld ⊢
                     refine pu_ 0 129 HT_ ?_
                     refine tk_ 1 130 HT_ HW_ hHeld ?_ rfl rfl (by rintro w' ⟨s0, s1⟩; go_simp; with_reducible rfl)
                     refine one_ (i := 2) (N := some 131) #[o_,o_,o_,x_,x_,x_,x_,x_,x_,x_,x_,x_,x_,x_,x_,x_,x_,x_,x_] rfl rfl (one_of HT_.out (by kernel_rfl)) (by decide) (fun K hK => ?_)
                     refine goes_ Try.func75 (by kernel_rfl) rfl #[.int .i64 ((rd_T91 t267 x124_4).f0)] (by rfl) rfl rfl (by (try simp only [List.map_toArray, List.map_cons, List.map_nil]); first | done | rfl | (simp only [List.length_drop, List.length_take]; rfl)) ?_
                     with_reducible refine (impl_isId.calls ((rd_T91 t267 x124_4).f0) true _ A100.out).mono ?_
                     rintro e w' ⟨rfl, ⟨nd, rfl⟩⟩
                     refine ⟨_, rfl, ?_⟩
                     refine hK.out _ _ ⟨(blk_cell BK271.out 0).trans rfl, (blk_cell BK271.out 1).trans rfl⟩ (fun hHeld => ?_)
                     clear hK K
                     refine norm_ (a' := ?_) ?_ ?_
                     rotate_left
                     ·
                      show Act.put _ (some 131) _ = _
                      simp only [Act.put, List.setIfInBounds_toArray, List.set_cons_zero, List.set_cons_succ, i64_w, i32_w]
                      rfl
                     refine pu_ 3 132 HT_ ?_
                     refine pu_ 4 133 HT_ ?_
                     refine pu_ 5 134 HT_ ?_
                     refine pu_ 6 135 HT_ ?_
                     refine pu_ 7 136 HT_ ?_
                     refine pn_ 8 137 HT_ ?_
                     refine pn_ 9 138 HT_ ?_
                     refine pn_ 10 139 HT_ ?_
                     refine pn_ 11 140 HT_ ?_
                     refine pn_ 12 141 HT_ ?_
                     refine pn_ 13 142 HT_ ?_
                     refine pn_ 14 143 HT_ ?_
                     refine pn_ 15 144 HT_ ?_
                     refine pn_ 16 145 HT_ ?_
                     refine pu_ 17 146 HT_ ?_
                     refine pu_ 18 147 HT_ ?_
                     refine done_ (done_of HT_.out (by kernel_rfl)) ?_
                     try go_wp2
                     go_roundg k4
                     case measure => have := HJ1.out; have := HK2.out; have := HK3.out; have := HK4.out; omega
                     case rel => exact ⟨(wrap64 (x124_4 + 1)), (by first | rfl | (simp; done) | (simp [*]; done)), H', ⟨by have := HJ1.out; have := HK2.out; have := HK3.out; have := HK4.out; omega⟩, ⟨by (with_reducible repeat (first | apply Kd.R_alloc | apply Kd.R_drewN | apply Kd.R_drew)); exact Kd.R_mono HO_10.out (fun _ hk => trivial)⟩, ⟨by (with_reducible repeat (first | apply Kd.R_alloc | apply Kd.R_drewN | apply Kd.R_drew)); exact Kd.R_mono HO_122.out (fun _ hk => trivial)⟩, ⟨up_ BK252.out⟩, ⟨bl_⟩⟩
                   ·
                    replace c101 := Bool.eq_false_iff.mpr c101
                    subst c101
                    have H1 : (some false) = some r := by rw [if_neg (show ¬ (false = true) by decide)] at H; exact H
                    clear H
                    have H := H1
                    clear H1
                    obtain rfl := Option.some.inj H
                    have p270 : 0 ≤ (x124_4 : Int) := ds_
                    have q270 : x124_4 < (t267.length : Int) := ds_
                    obtain ⟨ad270, e270, hx270_0, hx270_1⟩ := at_T91 (Kd.R_reads' HO_122.out).2.2 x124_4 p270 q270
                    cases e270
                    replace p270 := eq_true p270
                    replace q270 := eq_true q270
                    try go_wp2_with (first | ((with_reducible refine gate_dst (N := 12) rfl ?_); (try (refine gate_guard (by rfl) ?_; dsimp only)); refine box_event ?hg (N := 12) ?hd (cs := #[.int .i64 0, .int .i64 0]) (t := 91) ?hr ?_; (case hd => rfl); (case hg => rfl); (case hr => first | (go_simp; done) | (go_simp; rfl)); intro gb271 hg w122 hbox hb; have n0_ := Aside0.mk (Kd.R_below (Kd.R_elderB (by exact rU_ HO_10.out) gb271 (Nat.le_of_eq hg.symm)) hb); have n1_ := Aside0.mk (Kd.R_below (Kd.R_elderB (by exact rU_ HO_122.out) gb271 (Nat.le_of_eq hg.symm)) hb); have n2_ := Aside0.mk (blk_below (up_ BK252.out) hb); have n3_ := Aside0.mk (below_step bl_ hb); have n4_ := Aside0.mk (hbox); have n5_ := Aside0.mk ((by rw [hg]; exact (below_size bl_) : w.heap.size ≤ gb271)); have n6_ := Aside0.mk ((by rw [hg]; exact (below_size bl_) : w.heap.size ≤ gb271)); have n7_ := Aside0.mk ((by rw [hg]; exact Nat.ne_of_lt (blk_lt (up_ BK252.out)) : gb252 ≠ gb271)); have n8_ := Aside0.mk ((by rw [hg]; exact Nat.ne_of_gt (blk_lt (up_ BK252.out)) : gb271 ≠ gb252)); clear HO_10; clear HO_122; clear BK252; clear HB; have HO_10 := n0_; have HO_122 := n1_; have BK252 := n2_; have HB := n3_; have BK271 := n4_; have GW271 := n5_; have GE271 := n6_; have NB252_271 := n7_; have NB271_252 := n8_; clear n0_ n1_ n2_ n3_ n4_ n5_ n6_ n7_ n8_; clear hb hbox hg; have hnb123 := NB271_252.out; have hnc123 := NB252_271.out; have hcz124_0 : w122.cell? ⟨gb271, 0, none⟩ = some (.int .i64 0) := (blk_cell BK271.out 0).trans rfl; have hcz124_1 : w122.cell? ⟨gb271, 1, none⟩ = some (.int .i64 0) := (blk_cell BK271.out 1).trans rfl; have hfz124_0 := blk_frozen BK271.out 0; have hfz124_1 := blk_frozen BK271.out 1))
                    have n0_ : Aside0 (Kd.R k91 91 ((w122.setCell ⟨gb271, 0, none⟩ (.int .i64 ((rd_T91 t267 x124_4).f0))).setCell ⟨gb271, 1, none⟩ (.int .i64 ((rd_T91 t267 x124_4).f1))) w.heap.size (fun k_ => k_ ≠ gb271) (.slice (some ad270) t267.length co96) t267) := ⟨by (with_reducible repeat (first | apply Kd.R_alloc | apply Kd.R_drewN | apply Kd.R_drew)); exact Kd.R_mono (Kd.R_far (p := ⟨gb271, 1, none⟩) (Kd.R_far (p := ⟨gb271, 0, none⟩) (Kd.R_mono HO_10.out (fun k_ hk => (⟨hk, hk.2⟩ : _ ∧ k_ ≠ gb271))) (fun _ hk => hk.2) (.int .i64 ((rd_T91 t267 x124_4).f0))) (fun _ hk => hk.2) (.int .i64 ((rd_T91 t267 x124_4).f1))) (fun _ hk => hk.1.2)⟩
                    have n1_ : Aside0 (Kd.R k91 91 ((w122.setCell ⟨gb271, 0, none⟩ (.int .i64 ((rd_T91 t267 x124_4).f0))).setCell ⟨gb271, 1, none⟩ (.int .i64 ((rd_T91 t267 x124_4).f1))) w.heap.size (fun k_ => k_ ≠ gb271) (.slice (some ad270) t267.length co96) t267) := ⟨by (with_reducible repeat (first | apply Kd.R_alloc | apply Kd.R_drewN | apply Kd.R_drew)); exact Kd.R_mono (Kd.R_far (p := ⟨gb271, 1, none⟩) (Kd.R_far (p := ⟨gb271, 0, none⟩) (Kd.R_mono HO_122.out (fun k_ hk => (⟨hk, hk.2⟩ : _ ∧ k_ ≠ gb271))) (fun _ hk => hk.2) (.int .i64 ((rd_T91 t267 x124_4).f0))) (fun _ hk => hk.2) (.int .i64 ((rd_T91 t267 x124_4).f1))) (fun _ hk => hk.1.2)⟩
                    have n2_ : Aside0 (((w122.setCell ⟨gb271, 0, none⟩ (.int .i64 ((rd_T91 t267 x124_4).f0))).setCell ⟨gb271, 1, none⟩ (.int .i64 ((rd_T91 t267 x124_4).f1))).heap[gb252]? = some (.cells #[.int .i64 a0_0, .slice A0_1 l0_1.length c0_1, .slice A0_2 l0_2.length c0_2] 45 (0, 0))) := ⟨by (with_reducible repeat (first | refine blk_drewN ?_ _ | refine blk_drew ?_ | refine blk_alloc ?_ _)); refine blk_far ?_ NB252_271.out _; (with_reducible repeat (first | refine blk_drewN ?_ _ | refine blk_drew ?_ | refine blk_alloc ?_ _)); refine blk_far ?_ NB252_271.out _; (with_reducible repeat (first | refine blk_drewN ?_ _ | refine blk_drew ?_ | refine blk_alloc ?_ _)); exact BK252.out⟩
                    have n3_ : Aside0 (((w122.setCell ⟨gb271, 0, none⟩ (.int .i64 ((rd_T91 t267 x124_4).f0))).setCell ⟨gb271, 1, none⟩ (.int .i64 ((rd_T91 t267 x124_4).f1))).heap[gb271]? = some (.cells #[.int .i64 ((rd_T91 t267 x124_4).f0), .int .i64 ((rd_T91 t267 x124_4).f1)] 91 (0, 0))) := ⟨by (with_reducible repeat (first | refine blk_drewN ?_ _ | refine blk_drew ?_ | refine blk_alloc ?_ _)); refine blk_put (cs := #[.int .i64 ((rd_T91 t267 x124_4).f0), .int .i64 0]) ?_ 1 _ rfl; (with_reducible repeat (first | refine blk_drewN ?_ _ | refine blk_drew ?_ | refine blk_alloc ?_ _)); refine blk_put (cs := #[.int .i64 0, .int .i64 0]) ?_ 0 _ rfl; (with_reducible repeat (first | refine blk_drewN ?_ _ | refine blk_drew ?_ | refine blk_alloc ?_ _)); exact BK271.out⟩
                    have n4_ : Aside0 (Below w.heap.size w ((w122.setCell ⟨gb271, 0, none⟩ (.int .i64 ((rd_T91 t267 x124_4).f0))).setCell ⟨gb271, 1, none⟩ (.int .i64 ((rd_T91 t267 x124_4).f1)))) := ⟨bl_⟩
                    (try clear HO_10)
                    (try clear HO_122)
                    (try clear BK252)
                    (try clear BK271)
                    (try clear HB)
                    generalize ((w122.setCell ⟨gb271, 0, none⟩ (.int .i64 ((rd_T91 t267 x124_4).f0))).setCell ⟨gb271, 1, none⟩ (.int .i64 ((rd_T91 t267 x124_4).f1))) = w125 at n0_ n1_ n2_ n3_ n4_ ⊢
                    have HO_10 := n0_
                    have HO_122 := n1_
                    have BK252 := n2_
                    have BK271 := n3_
                    have HB := n4_
                    clear n0_ n1_ n2_ n3_ n4_
                    replace HO_10 := Aside0.mk (Kd.R_drew HO_10.out)
                    replace HO_122 := Aside0.mk (Kd.R_drew HO_122.out)
                    replace BK252 := Aside0.mk (blk_drew BK252.out)
                    replace BK271 := Aside0.mk (blk_drew BK271.out)
                    replace HB := Aside0.mk (below_drew1 HB.out)
                    refine start_ (n := 19) (S := fun w' => w'.cell? ⟨gb271, 0, none⟩ = some (.int .i64 ((rd_T91 t267 x124_4).f0)) ∧ w'.cell? ⟨gb271, 1, none⟩ = some (.int .i64 ((rd_T91 t267 x124_4).f1))) (ds := []) #[false, false, false, false, false, false, false, false, false, false, false, false, false, false, false, false, false, false, false] (by kernel_rfl) rfl rfl ⟨(blk_cell BK271.out 0).trans rfl, (blk_cell BK271.out 1).trans rfl⟩ (fun hHeld => ?_); refine with_tabW impl_WheelRight.tab27 impl_WheelRight.bits27 (fun HT_ HW_ => ?_)
                    generalize w125.drew = w126 at HO_10 HO_122 BK252 BK271 HB hHeld ⊢
                    refine pu_ 0 129 HT_ ?_
                    refine tk_ 1 130 HT_ HW_ hHeld ?_ rfl rfl (by rintro w' ⟨s0, s1⟩; go_simp; with_reducible rfl)
                    refine one_ (i := 2) (N := some 131) #[o_,o_,o_,x_,x_,x_,x_,x_,x_,x_,x_,x_,x_,x_,x_,x_,x_,x_,x_] rfl rfl (one_of HT_.out (by kernel_rfl)) (by decide) (fun K hK => ?_)
                    refine goes_ Try.func75 (by kernel_rfl) rfl #[.int .i64 ((rd_T91 t267 x124_4).f0)] (by rfl) rfl rfl (by (try simp only [List.map_toArray, List.map_cons, List.map_nil]); first | done | rfl | (simp only [List.length_drop, List.length_take]; rfl)) ?_
                    with_reducible refine (impl_isId.calls ((rd_T91 t267 x124_4).f0) false _ A100.out).mono ?_
                    rintro e w' ⟨rfl, ⟨nd, rfl⟩⟩
                    refine ⟨_, rfl, ?_⟩
                    refine hK.out _ _ ⟨(blk_cell BK271.out 0).trans rfl, (blk_cell BK271.out 1).trans rfl⟩ (fun hHeld => ?_)
                    clear hK K
                    refine norm_ (a' := ?_) ?_ ?_
                    rotate_left
                    ·
                     show Act.put _ (some 131) _ = _
                     simp only [Act.put, List.setIfInBounds_toArray, List.set_cons_zero, List.set_cons_succ, i64_w, i32_w]
                     rfl
                    refine pu_ 3 132 HT_ ?_
                    refine pu_ 4 133 HT_ ?_
                    refine pn_ 5 134 HT_ ?_
                    refine pn_ 6 135 HT_ ?_
                    refine pn_ 7 136 HT_ ?_
                    refine pn_ 8 137 HT_ ?_
                    refine pn_ 9 138 HT_ ?_
                    refine pn_ 10 139 HT_ ?_
                    refine pn_ 11 140 HT_ ?_
                    refine pn_ 12 141 HT_ ?_
                    refine pn_ 13 142 HT_ ?_
                    refine pn_ 14 143 HT_ ?_
                    refine pn_ 15 144 HT_ ?_
                    refine pn_ 16 145 HT_ ?_
                    refine pn_ 17 146 HT_ ?_
                    refine pu_ 18 147 HT_ ?_
                    refine done_ (done_of HT_.out (by kernel_rfl)) ?_
                    try go_wp2
                    go_ret
                    exact ⟨by first | rfl | (simp [errW_none, errW_some] <;> rfl) | (simp [*, errW_none, errW_some] <;> rfl), bl_⟩
                  ·
                   rw [if_neg c99] at H
                   exact absurd H (by simp)
                 ·
                  rw [if_neg c98] at H
                  exact absurd H (by simp)
                ·
                 rw [if_neg c97] at H
                 have c97b0 : decide (x124_4 < (t267.length : Int)) = false := decide_eq_false c97
                 clear c97
                 obtain rfl := Option.some.inj H
                 go_wp2
                 go_ret
                 exact ⟨by first | rfl | (simp [errW_none, errW_some] <;> rfl) | (simp [*, errW_none, errW_some] <;> rfl), bl_⟩

end Go.Proofs.Ytenlceojmjkbkaa.XFnExactWheelDrop
