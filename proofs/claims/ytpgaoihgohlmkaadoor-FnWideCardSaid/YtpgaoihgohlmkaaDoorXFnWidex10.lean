/- Functions that FnWide comes to, as Lean functions with their contracts: written by the prover's own program (wip/tpl/myprint.py) over the kit's printer, some contracts by hand. Conditions: none. -/
import Derived.Test.YtpgaoihgohlmkaaDoorXFnWidex0
import Derived.Test.YtpgaoihgohlmkaaDoorXFnWidex1
import Derived.Test.YtpgaoihgohlmkaaDoorXFnWidex2
import Derived.Test.YtpgaoihgohlmkaaDoorXFnWidex3
import Derived.Test.YtpgaoihgohlmkaaDoorXFnWidex4
import Derived.Test.YtpgaoihgohlmkaaDoorXFnWidex5
import Derived.Test.YtpgaoihgohlmkaaDoorXFnWidex8
import Derived.Test.YtpgaoihgohlmkaaDoorXFnWidex9
namespace Go.Proofs.YtpgaoihgohlmkaaDoor.XFnWide
open Go.RowKit Go.Proofs.YtpgaoihgohlmkaaDoorW.PrintWords Go.Proofs.YtpgaoihgohlmkaaDoorW.PrintLast Go.Proofs.YtpgaoihgohlmkaaDoorW.PrintMore
attribute [local go_sem] max2_int min2_int max_two min_two max_three min_three max_four min_four   -- for this text's walks alone
set_option linter.unusedVariables false
set_option linter.unusedSimpArgs false

attribute [local go_sem high] eqA24 eqA26
/-! ### laws_FnWide: function 4 -/
section
variable {w : World} {g : Nat} {o : Obj}
theorem bn_ (h : w.heap[g]? = some o) (n : Nat) : (w.drewN n).heap[g]? = some o := h
theorem bd_ (h : w.heap[g]? = some o) : w.drew.heap[g]? = some o := h
theorem ba_ (h : w.heap[g]? = some o) (o' : Obj) : (w.alloc o').heap[g]? = some o := blk_alloc h o'
end
mutual
def laws_FnWide.j0 : Nat → List Int → List Int → Bool → Option (Bool)
  | 0, _, _, _ => none
  | k + 1, x0, x1, x22 => if x22 = true then (some true) else ((spec_DrawWideAdd.f k x0).bind fun bt254 => ((impl_WideAdd.f bt254.1 bt254.2.1 bt254.2.2.1 bt254.2.2.2).bind fun bt260 => ((impl_WideSub.f bt260.1 bt260.2.1 bt254.2.2.1 bt254.2.2.2).bind fun bt265 => (if (!(bt265.1 == bt254.1) || (!(bt265.2.1 == bt254.2.1))) = true then (laws_FnWide.j1 k x1 true bt254.1 bt254.2.1 bt254.2.2.1 bt254.2.2.2) else (if (bt260.2.2.1 != bt265.2.2.1) = true then (laws_FnWide.j1 k x1 true bt254.1 bt254.2.1 bt254.2.2.1 bt254.2.2.2) else ((impl_WideAdd.f bt254.2.2.1 bt254.2.2.2 bt254.1 bt254.2.1).bind fun bt270 => (laws_FnWide.j1 k x1 ((!(bt270.1 == bt260.1) || (!(bt270.2.1 == bt260.2.1))) || (!(bt270.2.2.1 == bt260.2.2.1) || (!(bt270.2.2.2 == bt260.2.2.2)))) bt254.1 bt254.2.1 bt254.2.2.1 bt254.2.2.2)))))))
def laws_FnWide.j1 : Nat → List Int → Bool → Int → Int → Int → Int → Option (Bool)
  | 0, _, _, _, _, _, _ => none
  | k + 1, x1, x52, x259000, x259001, x260000, x260001 => if x52 = true then (some false) else ((impl_WideCmp.f k x259000 x259001 x260000 x260001).bind fun t274 => ((impl_WideSub.f x259000 x259001 x260000 x260001).bind fun bt275 => (if ((decide (t274 < 0)) != bt275.2.2.1) = true then (laws_FnWide.j2 k x1 true) else ((impl_WideCmp.f k x259000 x259001 x260000 x260001).bind fun t279 => ((impl_WideCmp.f k x260000 x260001 x259000 x259001).bind fun t280 => (laws_FnWide.j2 k x1 (t279 != (wrap64 (-t280)))))))))
def laws_FnWide.j2 : Nat → List Int → Bool → Option (Bool)
  | 0, _, _ => none
  | k + 1, x1, x71 => if x71 = true then (some false) else ((spec_DrawWideDiv.f k x1).bind fun bt281 => (if bt281.2.2 = 0 then ((impl_WideText.f k bt281.1 bt281.2.1).bind fun t285 => ((impl_WideRead.f k t285).bind fun bt286 => (some ((bt286.1 == bt281.1 && (bt286.2.1 == bt281.2.1)) && (!bt286.2.2.1 && (bt286.2.2.2 == 0)))))) else ((impl_WideDiv.f k bt281.1 bt281.2.1 bt281.2.2).bind fun bt290 => ((impl_WideMul.f bt290.2.1 bt281.2.2).bind fun bt294 => ((impl_WideMul.f bt290.1 bt281.2.2).bind fun bt297 => ((impl_WideAdd.f bt294.1 bt294.2 bt297.2 0).bind fun bt300 => (if bt290.2.2 ≥ bt281.2.2 then (laws_FnWide.j3 k true bt281.1 bt281.2.1) else ((impl_WideAdd.f bt300.1 bt300.2.1 0 bt290.2.2).bind fun bt305 => (laws_FnWide.j3 k (!(bt305.1 == bt281.1) || (!(bt305.2.1 == bt281.2.1))) bt281.1 bt281.2.1)))))))))
def laws_FnWide.j3 : Nat → Bool → Int → Int → Option (Bool)
  | 0, _, _, _ => none
  | k + 1, x111, x285000, x285001 => if x111 = true then (some false) else ((impl_WideText.f k x285000 x285001).bind fun t309 => ((impl_WideRead.f k t309).bind fun bt310 => (some ((bt310.1 == x285000 && (bt310.2.1 == x285001)) && (!bt310.2.2.1 && (bt310.2.2.2 == 0))))))
end
def laws_FnWide.f (k : Nat) (l0 : List Int) (l1 : List Int) : Option (Bool) := if (l0.length : Int) > 1048576 then (laws_FnWide.j0 k l0 l1 true) else (laws_FnWide.j0 k l0 l1 (decide ((l1.length : Int) > 1048576)))
theorem laws_FnWide.mono_l : ∀ k, (∀ y0 y1 y2, LeO (laws_FnWide.j0 k y0 y1 y2) (laws_FnWide.j0 (k + 1) y0 y1 y2)) ∧ (∀ y0 y1 y2 y3 y4 y5, LeO (laws_FnWide.j1 k y0 y1 y2 y3 y4 y5) (laws_FnWide.j1 (k + 1) y0 y1 y2 y3 y4 y5)) ∧ (∀ y0 y1, LeO (laws_FnWide.j2 k y0 y1) (laws_FnWide.j2 (k + 1) y0 y1)) ∧ (∀ y0 y1 y2, LeO (laws_FnWide.j3 k y0 y1 y2) (laws_FnWide.j3 (k + 1) y0 y1 y2))
  | 0 => ⟨fun _ _ _ r h => by simp [laws_FnWide.j0] at h, fun _ _ _ _ _ _ r h => by simp [laws_FnWide.j1] at h, fun _ _ r h => by simp [laws_FnWide.j2] at h, fun _ _ _ r h => by simp [laws_FnWide.j3] at h⟩
  | k + 1 => by
    obtain ⟨ih0, ih1, ih2, ih3⟩ := laws_FnWide.mono_l k
    refine ⟨?_, ?_, ?_, ?_⟩
    · intro y0 y1 y2
      unfold laws_FnWide.j0
      repeat' first
      | (with_reducible exact ih0 _ _ _)
      | (with_reducible exact ih1 _ _ _ _ _ _)
      | (with_reducible exact ih2 _ _)
      | (with_reducible exact ih3 _ _ _)
      | (with_reducible exact impl_WideCmp.mono _ _ _ _ _)
      | (with_reducible exact impl_WideDiv.mono _ _ _ _)
      | (with_reducible exact impl_WideRead.mono _ _)
      | (with_reducible exact impl_WideText.mono _ _ _)
      | (with_reducible exact spec_DrawWideAdd.mono _ _)
      | (with_reducible exact spec_DrawWideDiv.mono _ _)
      | (with_reducible exact LeO.refl _)
      | (with_reducible exact LeO.none _)
      | (with_reducible refine LeO.ite ?_ ?_)
      | (with_reducible refine LeO.bind ?_ (fun _ => ?_))
      | exact ih0 _ _ _
      | exact ih1 _ _ _ _ _ _
      | exact ih2 _ _
      | exact ih3 _ _ _
      | exact impl_WideCmp.mono _ _ _ _ _
      | exact impl_WideDiv.mono _ _ _ _
      | exact impl_WideRead.mono _ _
      | exact impl_WideText.mono _ _ _
      | exact spec_DrawWideAdd.mono _ _
      | exact spec_DrawWideDiv.mono _ _
      | exact LeO.none _
      | refine LeO.ite ?_ ?_
      | refine LeO.bind ?_ (fun _ => ?_)
    · intro y0 y1 y2 y3 y4 y5
      unfold laws_FnWide.j1
      repeat' first
      | (with_reducible exact ih0 _ _ _)
      | (with_reducible exact ih1 _ _ _ _ _ _)
      | (with_reducible exact ih2 _ _)
      | (with_reducible exact ih3 _ _ _)
      | (with_reducible exact impl_WideCmp.mono _ _ _ _ _)
      | (with_reducible exact impl_WideDiv.mono _ _ _ _)
      | (with_reducible exact impl_WideRead.mono _ _)
      | (with_reducible exact impl_WideText.mono _ _ _)
      | (with_reducible exact spec_DrawWideAdd.mono _ _)
      | (with_reducible exact spec_DrawWideDiv.mono _ _)
      | (with_reducible exact LeO.refl _)
      | (with_reducible exact LeO.none _)
      | (with_reducible refine LeO.ite ?_ ?_)
      | (with_reducible refine LeO.bind ?_ (fun _ => ?_))
      | exact ih0 _ _ _
      | exact ih1 _ _ _ _ _ _
      | exact ih2 _ _
      | exact ih3 _ _ _
      | exact impl_WideCmp.mono _ _ _ _ _
      | exact impl_WideDiv.mono _ _ _ _
      | exact impl_WideRead.mono _ _
      | exact impl_WideText.mono _ _ _
      | exact spec_DrawWideAdd.mono _ _
      | exact spec_DrawWideDiv.mono _ _
      | exact LeO.none _
      | refine LeO.ite ?_ ?_
      | refine LeO.bind ?_ (fun _ => ?_)
    · intro y0 y1
      unfold laws_FnWide.j2
      repeat' first
      | (with_reducible exact ih0 _ _ _)
      | (with_reducible exact ih1 _ _ _ _ _ _)
      | (with_reducible exact ih2 _ _)
      | (with_reducible exact ih3 _ _ _)
      | (with_reducible exact impl_WideCmp.mono _ _ _ _ _)
      | (with_reducible exact impl_WideDiv.mono _ _ _ _)
      | (with_reducible exact impl_WideRead.mono _ _)
      | (with_reducible exact impl_WideText.mono _ _ _)
      | (with_reducible exact spec_DrawWideAdd.mono _ _)
      | (with_reducible exact spec_DrawWideDiv.mono _ _)
      | (with_reducible exact LeO.refl _)
      | (with_reducible exact LeO.none _)
      | (with_reducible refine LeO.ite ?_ ?_)
      | (with_reducible refine LeO.bind ?_ (fun _ => ?_))
      | exact ih0 _ _ _
      | exact ih1 _ _ _ _ _ _
      | exact ih2 _ _
      | exact ih3 _ _ _
      | exact impl_WideCmp.mono _ _ _ _ _
      | exact impl_WideDiv.mono _ _ _ _
      | exact impl_WideRead.mono _ _
      | exact impl_WideText.mono _ _ _
      | exact spec_DrawWideAdd.mono _ _
      | exact spec_DrawWideDiv.mono _ _
      | exact LeO.none _
      | refine LeO.ite ?_ ?_
      | refine LeO.bind ?_ (fun _ => ?_)
    · intro y0 y1 y2
      unfold laws_FnWide.j3
      repeat' first
      | (with_reducible exact ih0 _ _ _)
      | (with_reducible exact ih1 _ _ _ _ _ _)
      | (with_reducible exact ih2 _ _)
      | (with_reducible exact ih3 _ _ _)
      | (with_reducible exact impl_WideCmp.mono _ _ _ _ _)
      | (with_reducible exact impl_WideDiv.mono _ _ _ _)
      | (with_reducible exact impl_WideRead.mono _ _)
      | (with_reducible exact impl_WideText.mono _ _ _)
      | (with_reducible exact spec_DrawWideAdd.mono _ _)
      | (with_reducible exact spec_DrawWideDiv.mono _ _)
      | (with_reducible exact LeO.refl _)
      | (with_reducible exact LeO.none _)
      | (with_reducible refine LeO.ite ?_ ?_)
      | (with_reducible refine LeO.bind ?_ (fun _ => ?_))
      | exact ih0 _ _ _
      | exact ih1 _ _ _ _ _ _
      | exact ih2 _ _
      | exact ih3 _ _ _
      | exact impl_WideCmp.mono _ _ _ _ _
      | exact impl_WideDiv.mono _ _ _ _
      | exact impl_WideRead.mono _ _
      | exact impl_WideText.mono _ _ _
      | exact spec_DrawWideAdd.mono _ _
      | exact spec_DrawWideDiv.mono _ _
      | exact LeO.none _
      | refine LeO.ite ?_ ?_
      | refine LeO.bind ?_ (fun _ => ?_)
theorem laws_FnWide.mono : ∀ a0 a1 k, LeO (laws_FnWide.f k a0 a1) (laws_FnWide.f (k + 1) a0 a1) := by
  intro a0 a1 k
  obtain ⟨ih0, ih1, ih2, ih3⟩ := laws_FnWide.mono_l k
  unfold laws_FnWide.f
  repeat' first
      | (with_reducible exact ih0 _ _ _)
      | (with_reducible exact ih1 _ _ _ _ _ _)
      | (with_reducible exact ih2 _ _)
      | (with_reducible exact ih3 _ _ _)
      | (with_reducible exact impl_WideCmp.mono _ _ _ _ _)
      | (with_reducible exact impl_WideDiv.mono _ _ _ _)
      | (with_reducible exact impl_WideRead.mono _ _)
      | (with_reducible exact impl_WideText.mono _ _ _)
      | (with_reducible exact spec_DrawWideAdd.mono _ _)
      | (with_reducible exact spec_DrawWideDiv.mono _ _)
      | (with_reducible exact LeO.refl _)
      | (with_reducible exact LeO.none _)
      | (with_reducible refine LeO.ite ?_ ?_)
      | (with_reducible refine LeO.bind ?_ (fun _ => ?_))
      | exact ih0 _ _ _
      | exact ih1 _ _ _ _ _ _
      | exact ih2 _ _
      | exact ih3 _ _ _
      | exact impl_WideCmp.mono _ _ _ _ _
      | exact impl_WideDiv.mono _ _ _ _
      | exact impl_WideRead.mono _ _
      | exact impl_WideText.mono _ _ _
      | exact spec_DrawWideAdd.mono _ _
      | exact spec_DrawWideDiv.mono _ _
      | exact LeO.none _
      | refine LeO.ite ?_ ?_
      | refine LeO.bind ?_ (fun _ => ?_)
def laws_FnWide.T6 : Bool × List (List Nat × List Nat) := (true, [([], []), ([0], [0]), ([], []), ([1, 2], [1, 2]), ([3], [3]), ([4], [4]), ([5, 4], [4, 5]), ([4], [4]), ([7, 4], [4, 7]), ([6, 8, 4], [4, 6, 8]), ([4, 9], [4, 9]), ([10, 4], [10]), ([11], [11]), ([11], [11]), ([12, 13, 11, 11], [11, 12, 13]), ([11], [11]), ([14, 15, 11], [11, 14, 15]), ([11, 16], [11, 16])])
def laws_FnWide.B6 : List Nat := [0, 1, 0, 7, 15, 31, 63, 31, 159, 511, 1023, 2047, 4095, 4095, 16383, 4095, 65535, 131071]
theorem laws_FnWide.tab6 : rtab .any (opsOf Tryd.f4 6) = laws_FnWide.T6 := by kernel_rfl
theorem laws_FnWide.bits6 : waitsOk laws_FnWide.T6.2 laws_FnWide.B6 = true := by kernel_rfl
def laws_FnWide.T8 : Bool × List (List Nat × List Nat) := (true, [([], []), ([], []), ([0, 1], [0, 1]), ([2], [2]), ([], []), ([], []), ([4, 5, 2], [4, 5]), ([6], [6]), ([3, 7], [3, 7]), ([8, 6], [8]), ([9], [9]), ([9], [9]), ([10, 11, 9, 9], [9, 10, 11]), ([9], [9]), ([9], [9]), ([13, 14, 12, 9], [9, 13, 14]), ([15, 9], [9, 15]), ([12, 16, 9], [9, 12, 16]), ([9, 17], [9, 17])])
def laws_FnWide.B8 : List Nat := [0, 0, 3, 7, 0, 0, 55, 119, 255, 511, 1023, 1023, 4095, 1023, 1023, 32767, 65535, 131071, 262143]
theorem laws_FnWide.tab8 : rtab .any (opsOf Tryd.f4 8) = laws_FnWide.T8 := by kernel_rfl
theorem laws_FnWide.bits8 : waitsOk laws_FnWide.T8.2 laws_FnWide.B8 = true := by kernel_rfl
def laws_FnWide.T16 : Bool × List (List Nat × List Nat) := (true, [([], []), ([0], [0]), ([], []), ([1, 2], [1, 2]), ([3], [3]), ([4], [4]), ([5, 4], [4, 5]), ([4], [4]), ([7, 4], [4, 7]), ([8, 4], [4, 8]), ([6, 9, 4, 4], [4, 6, 9]), ([10, 4], [4, 10]), ([4], [4]), ([11, 12, 4], [4, 11, 12]), ([4, 13], [4, 13])])
def laws_FnWide.B16 : List Nat := [0, 1, 0, 7, 15, 31, 63, 31, 159, 415, 1023, 2047, 31, 8191, 16383]
theorem laws_FnWide.tab16 : rtab .any (opsOf Tryd.f4 16) = laws_FnWide.T16 := by kernel_rfl
theorem laws_FnWide.bits16 : waitsOk laws_FnWide.T16.2 laws_FnWide.B16 = true := by kernel_rfl
set_option maxHeartbeats 8000000 in
set_option maxRecDepth 100000 in
theorem laws_FnWide.calls (k : Nat) (A0 : Option Addr) (c0 : Nat) (l0 : List Int) (A1 : Option Addr) (c1 : Nat) (l1 : List Int) (r : Bool) (w : World) (hr0 : Kd.C (Kd.int .u8) w A0 l0.length l0) (hc0 : l0.length ≤ c0) (hr1 : Kd.C (Kd.int .u8) w A1 l1.length l1) (hc1 : l1.length ≤ c1) (h : laws_FnWide.f k l0 l1 = some r) :
    Calls Tryd.prog 4 #[.slice A0 l0.length c0, .slice A1 l1.length c1] w fun e w' => e = .returned (.bool r) ∧ Below w.heap.size w w' := by
  have hu24 := Tryd.underlying24
  have hu26 := Tryd.underlying26
  have hu38 := Tryd.underlying38
  have hfld26_1 : ∀ (v0_ v1_ v2_ v3_ : Value) (W_ : World), (Instr.field 26 (.agg #[v0_, v1_, v2_, v3_]) 1).run Tryd.prog W_ = .ok v2_ W_ := fun _ _ _ _ _ => by rfl
  have hfld26_0 : ∀ (v0_ v1_ v2_ v3_ : Value) (W_ : World), (Instr.field 26 (.agg #[v0_, v1_, v2_, v3_]) 0).run Tryd.prog W_ = .ok (.agg #[v0_, v1_]) W_ := fun _ _ _ _ _ => by rfl
  have HR0 := Aside0.mk hr0
  have HC0 := Aside0.mk hc0
  clear hr0 hc0
  have HR1 := Aside0.mk hr1
  have HC1 := Aside0.mk hc1
  clear hr1 hc1
  have HB := Aside0.mk (Below.refl w.heap.size w)
  have H : (if (l0.length : Int) > 1048576 then (laws_FnWide.j0 k l0 l1 true) else (laws_FnWide.j0 k l0 l1 (decide ((l1.length : Int) > 1048576)))) = some r := h
  clear h
  have HC3 := Aside0.mk H
  clear H
  go_enter Tryd.func4, Tryd.ntmps4
  go_upto_region 1 with (fail)
  go_cut [22] (fun v22 wc => ∃ (kq : Nat) (x22_2 : Bool), v22 = .bool x22_2 ∧ Aside0 (laws_FnWide.j0 kq l0 l1 x22_2 = some r) ∧ Aside0 (kq ≤ k) ∧ Aside0 (Below w.heap.size w wc))
  case first =>
    have H := HC3.out
    clear HC3
    by_cases c4 : (l0.length : Int) > 1048576
    · rw [if_pos c4] at H
      have c4b0 : decide (1048576 < (l0.length : Int)) = true := decide_eq_true c4
      have c4b1 : decide (1048576 < l0.length) = true := decide_eq_true (by omega)
      clear c4
      (first | rw [c4b0] | (simp only [i64_w, i32_w]; rw [c4b0]) | skip)
      have H' := Aside0.mk H
      clear H
      go_wp2
      go_meet
      case rel => exact ⟨_, (true), (by first | rfl | (simp; done) | (simp [*]; done)), H', ⟨by first | omega | exact Nat.le_refl _⟩, ⟨by repeat (first | (with_reducible first | exact HB.out | apply below_alloc | apply pw_below_drewN | apply below_drew1) | exact HB.out)⟩⟩
    · rw [if_neg c4] at H
      have c4b0 : decide (1048576 < (l0.length : Int)) = false := decide_eq_false c4
      have c4b1 : decide (1048576 < l0.length) = false := decide_eq_false (by omega)
      clear c4
      (first | rw [c4b0] | (simp only [i64_w, i32_w]; rw [c4b0]) | skip)
      have H' := Aside0.mk H
      clear H
      go_wp2
      go_meet
      case rel => exact ⟨_, (decide ((l1.length : Int) > 1048576)), (by first | rfl | (simp; done) | (simp [*]; done)), H', ⟨by first | omega | exact Nat.le_refl _⟩, ⟨by repeat (first | (with_reducible first | exact HB.out | apply below_alloc | apply pw_below_drewN | apply below_drew1) | exact HB.out)⟩⟩
  case rest =>
    clear HC3
    try clear c1
    try clear p2
    try clear c4
    try clear c4b0
    try clear c4b1
    obtain ⟨kq, x22_2, rfl, HA, HJ2, HB⟩ := hcut
    cases kq with
    | zero => exact absurd HA.out (by simp [laws_FnWide.j0])
    | succ kj2 =>
      have H := HA.out
      clear HA
      simp only [laws_FnWide.j0] at H
      by_cases c5 : x22_2 = true
      · subst c5
        have H1 : (some true) = some r := by rw [if_pos rfl] at H; exact H
        clear H
        have H := H1
        clear H1
        obtain rfl := Option.some.inj H
        go_wp2
        go_ret
        exact ⟨by first | rfl | (simp [errW_none, errW_some] <;> rfl) | (simp [*, errW_none, errW_some] <;> rfl), by repeat (first | (with_reducible first | exact HB.out | apply below_alloc | apply pw_below_drewN | apply below_drew1) | exact HB.out)⟩
      · replace c5 := Bool.eq_false_iff.mpr c5
        subst c5
        have H1 : ((spec_DrawWideAdd.f kj2 l0).bind fun bt254 => ((impl_WideAdd.f bt254.1 bt254.2.1 bt254.2.2.1 bt254.2.2.2).bind fun bt260 => ((impl_WideSub.f bt260.1 bt260.2.1 bt254.2.2.1 bt254.2.2.2).bind fun bt265 => (if (!(bt265.1 == bt254.1) || (!(bt265.2.1 == bt254.2.1))) = true then (laws_FnWide.j1 kj2 l1 true bt254.1 bt254.2.1 bt254.2.2.1 bt254.2.2.2) else (if (bt260.2.2.1 != bt265.2.2.1) = true then (laws_FnWide.j1 kj2 l1 true bt254.1 bt254.2.1 bt254.2.2.1 bt254.2.2.2) else ((impl_WideAdd.f bt254.2.2.1 bt254.2.2.2 bt254.1 bt254.2.1).bind fun bt270 => (laws_FnWide.j1 kj2 l1 ((!(bt270.1 == bt260.1) || (!(bt270.2.1 == bt260.2.1))) || (!(bt270.2.2.1 == bt260.2.2.1) || (!(bt270.2.2.2 == bt260.2.2.2)))) bt254.1 bt254.2.1 bt254.2.2.1 bt254.2.2.2))))))) = some r := by rw [if_neg (show ¬ (false = true) by decide)] at H; exact H
        clear H
        have H := H1
        clear H1
        replace H := Option.bind_eq_some_iff.mp H
        obtain ⟨⟨t254, t255, t256, t257⟩, A60, H⟩ := H
        replace H : ((impl_WideAdd.f t254 t255 t256 t257).bind fun bt260 => ((impl_WideSub.f bt260.1 bt260.2.1 t256 t257).bind fun bt265 => (if (!(bt265.1 == t254) || (!(bt265.2.1 == t255))) = true then (laws_FnWide.j1 kj2 l1 true t254 t255 t256 t257) else (if (bt260.2.2.1 != bt265.2.2.1) = true then (laws_FnWide.j1 kj2 l1 true t254 t255 t256 t257) else ((impl_WideAdd.f t256 t257 t254 t255).bind fun bt270 => (laws_FnWide.j1 kj2 l1 ((!(bt270.1 == bt260.1) || (!(bt270.2.1 == bt260.2.1))) || (!(bt270.2.2.1 == bt260.2.2.1) || (!(bt270.2.2.2 == bt260.2.2.2)))) t254 t255 t256 t257)))))) = some r := H
        have A6 := Aside0.mk A60
        clear A60
        replace H := Option.bind_eq_some_iff.mp H
        obtain ⟨⟨t260, t261, t262, t263⟩, A70, H⟩ := H
        replace H : ((impl_WideSub.f t260 t261 t256 t257).bind fun bt265 => (if (!(bt265.1 == t254) || (!(bt265.2.1 == t255))) = true then (laws_FnWide.j1 kj2 l1 true t254 t255 t256 t257) else (if (t262 != bt265.2.2.1) = true then (laws_FnWide.j1 kj2 l1 true t254 t255 t256 t257) else ((impl_WideAdd.f t256 t257 t254 t255).bind fun bt270 => (laws_FnWide.j1 kj2 l1 ((!(bt270.1 == t260) || (!(bt270.2.1 == t261))) || (!(bt270.2.2.1 == t262) || (!(bt270.2.2.2 == t263)))) t254 t255 t256 t257))))) = some r := H
        have A7 := Aside0.mk A70
        clear A70
        replace H := Option.bind_eq_some_iff.mp H
        obtain ⟨⟨t265, t266, t267, t268⟩, A80, H⟩ := H
        replace H : (if (!(t265 == t254) || (!(t266 == t255))) = true then (laws_FnWide.j1 kj2 l1 true t254 t255 t256 t257) else (if (t262 != t267) = true then (laws_FnWide.j1 kj2 l1 true t254 t255 t256 t257) else ((impl_WideAdd.f t256 t257 t254 t255).bind fun bt270 => (laws_FnWide.j1 kj2 l1 ((!(bt270.1 == t260) || (!(bt270.2.1 == t261))) || (!(bt270.2.2.1 == t262) || (!(bt270.2.2.2 == t263)))) t254 t255 t256 t257)))) = some r := H
        have A8 := Aside0.mk A80
        clear A80
        have HC9 := Aside0.mk H
        clear H
        go_upto_region 6 with (first | ((with_reducible refine gate_callee (f := 8) rfl ?_); refine goesL_ (some 25) rfl rfl Tryd.func8 (by kernel_rfl) rfl #[.slice A0 l0.length c0] rfl (by (try simp only [List.map_toArray, List.map_cons, List.map_nil]); first | done | rfl | (simp only [List.length_drop, List.length_take]; rfl)) ?_; (with_reducible refine (spec_DrawWideAdd.calls kj2 _ _ l0 t254 t255 t256 t257 _ ?side1 ?side2 A6.out).mono ?_); (case side1 => repeat (first | exact (Kd.C_below HR0.out HB.out) | (with_reducible refine Kd.C_alloc ?_ _) | (with_reducible refine Kd.C_drewN ?_ _) | (with_reducible refine Kd.C_drew ?_))); (case side2 => exact HC0.out); rintro e w10 ⟨rfl, hb⟩; refine ⟨_, rfl, ?_⟩; have n0_ := Aside0.mk (below_step (by repeat (first | (with_reducible first | exact HB.out | apply below_alloc | apply pw_below_drewN | apply below_drew1) | exact HB.out)) hb); clear HB; have HB := n0_; clear n0_; (try clear hb); (try clear hb2); (try clear hk); (try clear hi)) | ((with_reducible refine gate_dst (N := 5) rfl ?_); (try (refine gate_guard (by rfl) ?_; dsimp only)); refine box_event ?hg (N := 5) ?hd (cs := #[.int .u64 0, .int .u64 0]) (t := 24) ?hr ?_; (case hd => rfl); (case hg => rfl); (case hr => first | (go_simp; done) | (go_simp; rfl)); intro gb258 hg w11 hbox hb; have n0_ := Aside0.mk (below_step (by repeat (first | (with_reducible first | exact HB.out | apply below_alloc | apply pw_below_drewN | apply below_drew1) | exact HB.out)) hb); have n1_ := Aside0.mk (hbox); have n2_ := Aside0.mk ((by rw [hg]; exact (below_size (by repeat (first | (with_reducible first | exact HB.out | apply below_alloc | apply pw_below_drewN | apply below_drew1) | exact HB.out))) : w.heap.size ≤ gb258)); have n3_ := Aside0.mk ((by rw [hg]; exact (below_size (by repeat (first | (with_reducible first | exact HB.out | apply below_alloc | apply pw_below_drewN | apply below_drew1) | exact HB.out))) : w.heap.size ≤ gb258)); clear HB; have HB := n0_; have BK258 := n1_; have GW258 := n2_; have GE258 := n3_; clear n0_ n1_ n2_ n3_; clear hb hbox hg) | ((with_reducible refine gate_dst (N := 6) rfl ?_); (try (refine gate_guard (by rfl) ?_; dsimp only)); refine box_event ?hg (N := 6) ?hd (cs := #[.int .u64 0, .int .u64 0]) (t := 24) ?hr ?_; (case hd => rfl); (case hg => rfl); (case hr => first | (go_simp; done) | (go_simp; rfl)); intro gb259 hg w12 hbox hb; have n0_ := Aside0.mk (blk_below (g := gb258) (o := .cells #[.int .u64 0, .int .u64 0] 24 (0, 0)) (by (with_reducible repeat first | apply bn_ | apply bd_ | apply ba_); exact BK258.out) hb); have n1_ := Aside0.mk (below_step (by repeat (first | (with_reducible first | exact HB.out | apply below_alloc | apply pw_below_drewN | apply below_drew1 | refine below_set ?_ GE258.out) | exact HB.out)) hb); have n2_ := Aside0.mk (hbox); have n3_ := Aside0.mk ((by rw [hg]; exact (below_size (by repeat (first | (with_reducible first | exact HB.out | apply below_alloc | apply pw_below_drewN | apply below_drew1 | refine below_set ?_ GE258.out) | exact HB.out))) : w.heap.size ≤ gb259)); have n4_ := Aside0.mk ((by rw [hg]; exact (below_size (by repeat (first | (with_reducible first | exact HB.out | apply below_alloc | apply pw_below_drewN | apply below_drew1 | refine below_set ?_ GE258.out) | exact HB.out))) : w.heap.size ≤ gb259)); have n5_ := Aside0.mk ((by rw [hg]; exact Nat.ne_of_lt (blk_lt (g := gb258) (o := .cells #[.int .u64 0, .int .u64 0] 24 (0, 0)) (by (with_reducible repeat first | apply bn_ | apply bd_ | apply ba_); exact BK258.out)) : gb258 ≠ gb259)); have n6_ := Aside0.mk ((by rw [hg]; exact Nat.ne_of_gt (blk_lt (g := gb258) (o := .cells #[.int .u64 0, .int .u64 0] 24 (0, 0)) (by (with_reducible repeat first | apply bn_ | apply bd_ | apply ba_); exact BK258.out)) : gb259 ≠ gb258)); clear BK258; clear HB; have BK258 := n0_; have HB := n1_; have BK259 := n2_; have GW259 := n3_; have GE259 := n4_; have NB258_259 := n5_; have NB259_258 := n6_; clear n0_ n1_ n2_ n3_ n4_ n5_ n6_; clear hb hbox hg; have hnb13 := NB258_259.out; have hnc13 := NB259_258.out; have hcz14_0 : w12.cell? ⟨gb258, 0, none⟩ = some (.int .u64 0) := (blk_cell BK258.out 0).trans rfl; have hcz14_1 : w12.cell? ⟨gb258, 1, none⟩ = some (.int .u64 0) := (blk_cell BK258.out 1).trans rfl; have hfz14_0 := blk_frozen BK258.out 0; have hfz14_1 := blk_frozen BK258.out 1; have hcz15_0 : w12.cell? ⟨gb259, 0, none⟩ = some (.int .u64 0) := (blk_cell BK259.out 0).trans rfl; have hcz15_1 : w12.cell? ⟨gb259, 1, none⟩ = some (.int .u64 0) := (blk_cell BK259.out 1).trans rfl; have hfz15_0 := blk_frozen BK259.out 0; have hfz15_1 := blk_frozen BK259.out 1) | ((with_reducible refine gate_callee (f := 9) rfl ?_); refine goesL_ (some 30) rfl rfl Tryd.func9 (by kernel_rfl) rfl #[.agg #[.int .u64 t254, .int .u64 t255], .agg #[.int .u64 t256, .int .u64 t257]] rfl (by (try simp only [List.map_toArray, List.map_cons, List.map_nil]); first | done | rfl | (simp only [List.length_drop, List.length_take]; rfl)) ?_; (with_reducible refine (impl_WideAdd.calls t254 t255 t256 t257 t260 t261 t262 t263 _ A7.out).mono ?_); rintro e w16 ⟨rfl, hb⟩; refine ⟨_, rfl, ?_⟩; have n0_ := Aside0.mk (blk_below (g := gb258) (o := .cells #[.int .u64 t254, .int .u64 t255] 24 (0, 0)) (by (with_reducible repeat first | apply bn_ | apply bd_ | apply ba_); refine blk_far ?_ NB258_259.out _; (with_reducible repeat first | apply bn_ | apply bd_ | apply ba_); refine blk_far ?_ NB258_259.out _; (with_reducible repeat first | apply bn_ | apply bd_ | apply ba_); refine blk_put (cs := #[.int .u64 t254, .int .u64 0]) ?_ 1 _ rfl; (with_reducible repeat first | apply bn_ | apply bd_ | apply ba_); refine blk_put (cs := #[.int .u64 0, .int .u64 0]) ?_ 0 _ rfl; (with_reducible repeat first | apply bn_ | apply bd_ | apply ba_); exact BK258.out) hb); have n1_ := Aside0.mk (blk_below (g := gb259) (o := .cells #[.int .u64 t256, .int .u64 t257] 24 (0, 0)) (by (with_reducible repeat first | apply bn_ | apply bd_ | apply ba_); refine blk_put (cs := #[.int .u64 t256, .int .u64 0]) ?_ 1 _ rfl; (with_reducible repeat first | apply bn_ | apply bd_ | apply ba_); refine blk_put (cs := #[.int .u64 0, .int .u64 0]) ?_ 0 _ rfl; (with_reducible repeat first | apply bn_ | apply bd_ | apply ba_); refine blk_far ?_ NB259_258.out _; (with_reducible repeat first | apply bn_ | apply bd_ | apply ba_); refine blk_far ?_ NB259_258.out _; (with_reducible repeat first | apply bn_ | apply bd_ | apply ba_); exact BK259.out) hb); have n2_ := Aside0.mk (below_step (by repeat (first | (with_reducible first | exact HB.out | apply below_alloc | apply pw_below_drewN | apply below_drew1 | refine below_set ?_ GE258.out | refine below_set ?_ GE259.out) | exact HB.out)) hb); clear BK258; clear BK259; clear HB; have BK258 := n0_; have BK259 := n1_; have HB := n2_; clear n0_ n1_ n2_; (try clear hb); (try clear hb2); (try clear hk); (try clear hi)) | ((with_reducible refine gate_dst (N := 7) rfl ?_); (try (refine gate_guard (by rfl) ?_; dsimp only)); refine box_event ?hg (N := 7) ?hd (cs := #[.int .u64 0, .int .u64 0, .bool false, .int .i64 0]) (t := 26) ?hr ?_; (case hd => rfl); (case hg => rfl); (case hr => first | (go_simp; done) | (go_simp; rfl)); intro gb264 hg w17 hbox hb; have n0_ := Aside0.mk (blk_below (g := gb258) (o := .cells #[.int .u64 t254, .int .u64 t255] 24 (0, 0)) (by (with_reducible repeat first | apply bn_ | apply bd_ | apply ba_); exact BK258.out) hb); have n1_ := Aside0.mk (blk_below (g := gb259) (o := .cells #[.int .u64 t256, .int .u64 t257] 24 (0, 0)) (by (with_reducible repeat first | apply bn_ | apply bd_ | apply ba_); exact BK259.out) hb); have n2_ := Aside0.mk (below_step (by repeat (first | (with_reducible first | exact HB.out | apply below_alloc | apply pw_below_drewN | apply below_drew1 | refine below_set ?_ GE258.out | refine below_set ?_ GE259.out) | exact HB.out)) hb); have n3_ := Aside0.mk (hbox); have n4_ := Aside0.mk ((by rw [hg]; exact (below_size (by repeat (first | (with_reducible first | exact HB.out | apply below_alloc | apply pw_below_drewN | apply below_drew1 | refine below_set ?_ GE258.out | refine below_set ?_ GE259.out) | exact HB.out))) : w.heap.size ≤ gb264)); have n5_ := Aside0.mk ((by rw [hg]; exact (below_size (by repeat (first | (with_reducible first | exact HB.out | apply below_alloc | apply pw_below_drewN | apply below_drew1 | refine below_set ?_ GE258.out | refine below_set ?_ GE259.out) | exact HB.out))) : w.heap.size ≤ gb264)); have n6_ := Aside0.mk ((by rw [hg]; exact Nat.ne_of_lt (blk_lt (g := gb258) (o := .cells #[.int .u64 t254, .int .u64 t255] 24 (0, 0)) (by (with_reducible repeat first | apply bn_ | apply bd_ | apply ba_); exact BK258.out)) : gb258 ≠ gb264)); have n7_ := Aside0.mk ((by rw [hg]; exact Nat.ne_of_gt (blk_lt (g := gb258) (o := .cells #[.int .u64 t254, .int .u64 t255] 24 (0, 0)) (by (with_reducible repeat first | apply bn_ | apply bd_ | apply ba_); exact BK258.out)) : gb264 ≠ gb258)); have n8_ := Aside0.mk ((by rw [hg]; exact Nat.ne_of_lt (blk_lt (g := gb259) (o := .cells #[.int .u64 t256, .int .u64 t257] 24 (0, 0)) (by (with_reducible repeat first | apply bn_ | apply bd_ | apply ba_); exact BK259.out)) : gb259 ≠ gb264)); have n9_ := Aside0.mk ((by rw [hg]; exact Nat.ne_of_gt (blk_lt (g := gb259) (o := .cells #[.int .u64 t256, .int .u64 t257] 24 (0, 0)) (by (with_reducible repeat first | apply bn_ | apply bd_ | apply ba_); exact BK259.out)) : gb264 ≠ gb259)); clear BK258; clear BK259; clear HB; have BK258 := n0_; have BK259 := n1_; have HB := n2_; have BK264 := n3_; have GW264 := n4_; have GE264 := n5_; have NB258_264 := n6_; have NB264_258 := n7_; have NB259_264 := n8_; have NB264_259 := n9_; clear n0_ n1_ n2_ n3_ n4_ n5_ n6_ n7_ n8_ n9_; clear hb hbox hg; have hnb18 := NB264_258.out; have hnc18 := NB258_264.out; have hnb19 := NB264_259.out; have hnc19 := NB259_264.out; have hcz20_0 : w17.cell? ⟨gb264, 0, none⟩ = some (.int .u64 0) := (blk_cell BK264.out 0).trans rfl; have hcz20_1 : w17.cell? ⟨gb264, 1, none⟩ = some (.int .u64 0) := (blk_cell BK264.out 1).trans rfl; have hcz20_2 : w17.cell? ⟨gb264, 2, none⟩ = some (.bool false) := (blk_cell BK264.out 2).trans rfl; have hcz20_3 : w17.cell? ⟨gb264, 3, none⟩ = some (.int .i64 0) := (blk_cell BK264.out 3).trans rfl; have hfz20_0 := blk_frozen BK264.out 0; have hfz20_1 := blk_frozen BK264.out 1; have hfz20_2 := blk_frozen BK264.out 2; have hfz20_3 := blk_frozen BK264.out 3; have hcz21_0 : w17.cell? ⟨gb259, 0, none⟩ = some (.int .u64 t256) := (blk_cell BK259.out 0).trans rfl; have hcz21_1 : w17.cell? ⟨gb259, 1, none⟩ = some (.int .u64 t257) := (blk_cell BK259.out 1).trans rfl; have hfz21_0 := blk_frozen BK259.out 0; have hfz21_1 := blk_frozen BK259.out 1) | ((with_reducible refine gate_callee (f := 10) rfl ?_); refine goesL_ (some 34) rfl rfl Tryd.func10 (by kernel_rfl) rfl #[.agg #[.int .u64 t260, .int .u64 t261], .agg #[.int .u64 t256, .int .u64 t257]] rfl (by (try simp only [List.map_toArray, List.map_cons, List.map_nil]); first | done | rfl | (simp only [List.length_drop, List.length_take]; rfl)) ?_; (with_reducible refine (impl_WideSub.calls t260 t261 t256 t257 t265 t266 t267 t268 _ A8.out).mono ?_); rintro e w22 ⟨rfl, hb⟩; refine ⟨_, rfl, ?_⟩; have n0_ := Aside0.mk (blk_below (g := gb258) (o := .cells #[.int .u64 t254, .int .u64 t255] 24 (0, 0)) (by (with_reducible repeat first | apply bn_ | apply bd_ | apply ba_); refine blk_far ?_ NB258_264.out _; (with_reducible repeat first | apply bn_ | apply bd_ | apply ba_); refine blk_far ?_ NB258_264.out _; (with_reducible repeat first | apply bn_ | apply bd_ | apply ba_); refine blk_far ?_ NB258_264.out _; (with_reducible repeat first | apply bn_ | apply bd_ | apply ba_); refine blk_far ?_ NB258_264.out _; (with_reducible repeat first | apply bn_ | apply bd_ | apply ba_); exact BK258.out) hb); have n1_ := Aside0.mk (blk_below (g := gb259) (o := .cells #[.int .u64 t256, .int .u64 t257] 24 (0, 0)) (by (with_reducible repeat first | apply bn_ | apply bd_ | apply ba_); refine blk_far ?_ NB259_264.out _; (with_reducible repeat first | apply bn_ | apply bd_ | apply ba_); refine blk_far ?_ NB259_264.out _; (with_reducible repeat first | apply bn_ | apply bd_ | apply ba_); refine blk_far ?_ NB259_264.out _; (with_reducible repeat first | apply bn_ | apply bd_ | apply ba_); refine blk_far ?_ NB259_264.out _; (with_reducible repeat first | apply bn_ | apply bd_ | apply ba_); exact BK259.out) hb); have n2_ := Aside0.mk (blk_below (g := gb264) (o := .cells #[.int .u64 t260, .int .u64 t261, .bool t262, .int .i64 t263] 26 (0, 0)) (by (with_reducible repeat first | apply bn_ | apply bd_ | apply ba_); refine blk_put (cs := #[.int .u64 t260, .int .u64 t261, .bool t262, .int .i64 0]) ?_ 3 _ rfl; (with_reducible repeat first | apply bn_ | apply bd_ | apply ba_); refine blk_put (cs := #[.int .u64 t260, .int .u64 t261, .bool false, .int .i64 0]) ?_ 2 _ rfl; (with_reducible repeat first | apply bn_ | apply bd_ | apply ba_); refine blk_put (cs := #[.int .u64 t260, .int .u64 0, .bool false, .int .i64 0]) ?_ 1 _ rfl; (with_reducible repeat first | apply bn_ | apply bd_ | apply ba_); refine blk_put (cs := #[.int .u64 0, .int .u64 0, .bool false, .int .i64 0]) ?_ 0 _ rfl; (with_reducible repeat first | apply bn_ | apply bd_ | apply ba_); exact BK264.out) hb); have n3_ := Aside0.mk (below_step (by repeat (first | (with_reducible first | exact HB.out | apply below_alloc | apply pw_below_drewN | apply below_drew1 | refine below_set ?_ GE258.out | refine below_set ?_ GE259.out | refine below_set ?_ GE264.out) | exact HB.out)) hb); clear BK258; clear BK259; clear BK264; clear HB; have BK258 := n0_; have BK259 := n1_; have BK264 := n2_; have HB := n3_; clear n0_ n1_ n2_ n3_; (try clear hb); (try clear hb2); (try clear hk); (try clear hi)) | ((with_reducible refine gate_dst (N := 8) rfl ?_); (try (refine gate_guard (by rfl) ?_; dsimp only)); refine box_event ?hg (N := 8) ?hd (cs := #[.int .u64 0, .int .u64 0, .bool false, .int .i64 0]) (t := 26) ?hr ?_; (case hd => rfl); (case hg => rfl); (case hr => first | (go_simp; done) | (go_simp; rfl)); intro gb269 hg w23 hbox hb; have n0_ := Aside0.mk (blk_below (g := gb258) (o := .cells #[.int .u64 t254, .int .u64 t255] 24 (0, 0)) (by (with_reducible repeat first | apply bn_ | apply bd_ | apply ba_); exact BK258.out) hb); have n1_ := Aside0.mk (blk_below (g := gb259) (o := .cells #[.int .u64 t256, .int .u64 t257] 24 (0, 0)) (by (with_reducible repeat first | apply bn_ | apply bd_ | apply ba_); exact BK259.out) hb); have n2_ := Aside0.mk (blk_below (g := gb264) (o := .cells #[.int .u64 t260, .int .u64 t261, .bool t262, .int .i64 t263] 26 (0, 0)) (by (with_reducible repeat first | apply bn_ | apply bd_ | apply ba_); exact BK264.out) hb); have n3_ := Aside0.mk (below_step (by repeat (first | (with_reducible first | exact HB.out | apply below_alloc | apply pw_below_drewN | apply below_drew1 | refine below_set ?_ GE258.out | refine below_set ?_ GE259.out | refine below_set ?_ GE264.out) | exact HB.out)) hb); have n4_ := Aside0.mk (hbox); have n5_ := Aside0.mk ((by rw [hg]; exact (below_size (by repeat (first | (with_reducible first | exact HB.out | apply below_alloc | apply pw_below_drewN | apply below_drew1 | refine below_set ?_ GE258.out | refine below_set ?_ GE259.out | refine below_set ?_ GE264.out) | exact HB.out))) : w.heap.size ≤ gb269)); have n6_ := Aside0.mk ((by rw [hg]; exact (below_size (by repeat (first | (with_reducible first | exact HB.out | apply below_alloc | apply pw_below_drewN | apply below_drew1 | refine below_set ?_ GE258.out | refine below_set ?_ GE259.out | refine below_set ?_ GE264.out) | exact HB.out))) : w.heap.size ≤ gb269)); have n7_ := Aside0.mk ((by rw [hg]; exact Nat.ne_of_lt (blk_lt (g := gb258) (o := .cells #[.int .u64 t254, .int .u64 t255] 24 (0, 0)) (by (with_reducible repeat first | apply bn_ | apply bd_ | apply ba_); exact BK258.out)) : gb258 ≠ gb269)); have n8_ := Aside0.mk ((by rw [hg]; exact Nat.ne_of_gt (blk_lt (g := gb258) (o := .cells #[.int .u64 t254, .int .u64 t255] 24 (0, 0)) (by (with_reducible repeat first | apply bn_ | apply bd_ | apply ba_); exact BK258.out)) : gb269 ≠ gb258)); have n9_ := Aside0.mk ((by rw [hg]; exact Nat.ne_of_lt (blk_lt (g := gb259) (o := .cells #[.int .u64 t256, .int .u64 t257] 24 (0, 0)) (by (with_reducible repeat first | apply bn_ | apply bd_ | apply ba_); exact BK259.out)) : gb259 ≠ gb269)); have n10_ := Aside0.mk ((by rw [hg]; exact Nat.ne_of_gt (blk_lt (g := gb259) (o := .cells #[.int .u64 t256, .int .u64 t257] 24 (0, 0)) (by (with_reducible repeat first | apply bn_ | apply bd_ | apply ba_); exact BK259.out)) : gb269 ≠ gb259)); have n11_ := Aside0.mk ((by rw [hg]; exact Nat.ne_of_lt (blk_lt (g := gb264) (o := .cells #[.int .u64 t260, .int .u64 t261, .bool t262, .int .i64 t263] 26 (0, 0)) (by (with_reducible repeat first | apply bn_ | apply bd_ | apply ba_); exact BK264.out)) : gb264 ≠ gb269)); have n12_ := Aside0.mk ((by rw [hg]; exact Nat.ne_of_gt (blk_lt (g := gb264) (o := .cells #[.int .u64 t260, .int .u64 t261, .bool t262, .int .i64 t263] 26 (0, 0)) (by (with_reducible repeat first | apply bn_ | apply bd_ | apply ba_); exact BK264.out)) : gb269 ≠ gb264)); clear BK258; clear BK259; clear BK264; clear HB; have BK258 := n0_; have BK259 := n1_; have BK264 := n2_; have HB := n3_; have BK269 := n4_; have GW269 := n5_; have GE269 := n6_; have NB258_269 := n7_; have NB269_258 := n8_; have NB259_269 := n9_; have NB269_259 := n10_; have NB264_269 := n11_; have NB269_264 := n12_; clear n0_ n1_ n2_ n3_ n4_ n5_ n6_ n7_ n8_ n9_ n10_ n11_ n12_; clear hb hbox hg; have hnb24 := NB269_258.out; have hnc24 := NB258_269.out; have hnb25 := NB269_259.out; have hnc25 := NB259_269.out; have hnb26 := NB269_264.out; have hnc26 := NB264_269.out; have hcz27_0 : w23.cell? ⟨gb269, 0, none⟩ = some (.int .u64 0) := (blk_cell BK269.out 0).trans rfl; have hcz27_1 : w23.cell? ⟨gb269, 1, none⟩ = some (.int .u64 0) := (blk_cell BK269.out 1).trans rfl; have hcz27_2 : w23.cell? ⟨gb269, 2, none⟩ = some (.bool false) := (blk_cell BK269.out 2).trans rfl; have hcz27_3 : w23.cell? ⟨gb269, 3, none⟩ = some (.int .i64 0) := (blk_cell BK269.out 3).trans rfl; have hfz27_0 := blk_frozen BK269.out 0; have hfz27_1 := blk_frozen BK269.out 1; have hfz27_2 := blk_frozen BK269.out 2; have hfz27_3 := blk_frozen BK269.out 3))
        (try simp only [Act.put, List.setIfInBounds_toArray, List.set_cons_zero, List.set_cons_succ])
        go_cut [52] (fun v52 wc => ∃ (kq : Nat) (x52_8 : Bool), v52 = .bool x52_8 ∧ Aside0 (laws_FnWide.j1 kq l1 x52_8 t254 t255 t256 t257 = some r) ∧ Aside0 (kq ≤ kj2) ∧ Aside0 (wc.heap[gb258]? = some (.cells #[.int .u64 t254, .int .u64 t255] 24 (0, 0))) ∧ Aside0 (wc.heap[gb259]? = some (.cells #[.int .u64 t256, .int .u64 t257] 24 (0, 0))) ∧ Aside0 (wc.heap[gb264]? = some (.cells #[.int .u64 t260, .int .u64 t261, .bool t262, .int .i64 t263] 26 (0, 0))) ∧ Aside0 (wc.heap[gb269]? = some (.cells #[.int .u64 t265, .int .u64 t266, .bool t267, .int .i64 t268] 26 (0, 0))) ∧ Aside0 (Below w.heap.size w wc))
        case first =>
          have H := HC9.out
          clear HC9
          by_cases c28 : (!(t265 == t254) || (!(t266 == t255))) = true
          · rw [if_pos c28] at H
            have c28b0 : (!(t265 == t254) || (!(t266 == t255))) = true := c28
            clear c28
            (first | rw [c28b0] | (simp only [i64_w, i32_w]; rw [c28b0]) | skip)
            have H' := Aside0.mk H
            clear H
            try go_wp2
            have n0_ : Aside0 (((((w23.setCell ⟨gb269, 0, none⟩ (.int .u64 t265)).setCell ⟨gb269, 1, none⟩ (.int .u64 t266)).setCell ⟨gb269, 2, none⟩ (.bool t267)).setCell ⟨gb269, 3, none⟩ (.int .i64 t268)).heap[gb258]? = some (.cells #[.int .u64 t254, .int .u64 t255] 24 (0, 0))) := ⟨by (with_reducible repeat first | apply bn_ | apply bd_ | apply ba_); refine blk_far ?_ NB258_269.out _; (with_reducible repeat first | apply bn_ | apply bd_ | apply ba_); refine blk_far ?_ NB258_269.out _; (with_reducible repeat first | apply bn_ | apply bd_ | apply ba_); refine blk_far ?_ NB258_269.out _; (with_reducible repeat first | apply bn_ | apply bd_ | apply ba_); refine blk_far ?_ NB258_269.out _; (with_reducible repeat first | apply bn_ | apply bd_ | apply ba_); exact BK258.out⟩
            have n1_ : Aside0 (((((w23.setCell ⟨gb269, 0, none⟩ (.int .u64 t265)).setCell ⟨gb269, 1, none⟩ (.int .u64 t266)).setCell ⟨gb269, 2, none⟩ (.bool t267)).setCell ⟨gb269, 3, none⟩ (.int .i64 t268)).heap[gb259]? = some (.cells #[.int .u64 t256, .int .u64 t257] 24 (0, 0))) := ⟨by (with_reducible repeat first | apply bn_ | apply bd_ | apply ba_); refine blk_far ?_ NB259_269.out _; (with_reducible repeat first | apply bn_ | apply bd_ | apply ba_); refine blk_far ?_ NB259_269.out _; (with_reducible repeat first | apply bn_ | apply bd_ | apply ba_); refine blk_far ?_ NB259_269.out _; (with_reducible repeat first | apply bn_ | apply bd_ | apply ba_); refine blk_far ?_ NB259_269.out _; (with_reducible repeat first | apply bn_ | apply bd_ | apply ba_); exact BK259.out⟩
            have n2_ : Aside0 (((((w23.setCell ⟨gb269, 0, none⟩ (.int .u64 t265)).setCell ⟨gb269, 1, none⟩ (.int .u64 t266)).setCell ⟨gb269, 2, none⟩ (.bool t267)).setCell ⟨gb269, 3, none⟩ (.int .i64 t268)).heap[gb264]? = some (.cells #[.int .u64 t260, .int .u64 t261, .bool t262, .int .i64 t263] 26 (0, 0))) := ⟨by (with_reducible repeat first | apply bn_ | apply bd_ | apply ba_); refine blk_far ?_ NB264_269.out _; (with_reducible repeat first | apply bn_ | apply bd_ | apply ba_); refine blk_far ?_ NB264_269.out _; (with_reducible repeat first | apply bn_ | apply bd_ | apply ba_); refine blk_far ?_ NB264_269.out _; (with_reducible repeat first | apply bn_ | apply bd_ | apply ba_); refine blk_far ?_ NB264_269.out _; (with_reducible repeat first | apply bn_ | apply bd_ | apply ba_); exact BK264.out⟩
            have n3_ : Aside0 (((((w23.setCell ⟨gb269, 0, none⟩ (.int .u64 t265)).setCell ⟨gb269, 1, none⟩ (.int .u64 t266)).setCell ⟨gb269, 2, none⟩ (.bool t267)).setCell ⟨gb269, 3, none⟩ (.int .i64 t268)).heap[gb269]? = some (.cells #[.int .u64 t265, .int .u64 t266, .bool t267, .int .i64 t268] 26 (0, 0))) := ⟨by (with_reducible repeat first | apply bn_ | apply bd_ | apply ba_); refine blk_put (cs := #[.int .u64 t265, .int .u64 t266, .bool t267, .int .i64 0]) ?_ 3 _ rfl; (with_reducible repeat first | apply bn_ | apply bd_ | apply ba_); refine blk_put (cs := #[.int .u64 t265, .int .u64 t266, .bool false, .int .i64 0]) ?_ 2 _ rfl; (with_reducible repeat first | apply bn_ | apply bd_ | apply ba_); refine blk_put (cs := #[.int .u64 t265, .int .u64 0, .bool false, .int .i64 0]) ?_ 1 _ rfl; (with_reducible repeat first | apply bn_ | apply bd_ | apply ba_); refine blk_put (cs := #[.int .u64 0, .int .u64 0, .bool false, .int .i64 0]) ?_ 0 _ rfl; (with_reducible repeat first | apply bn_ | apply bd_ | apply ba_); exact BK269.out⟩
            have n4_ : Aside0 (Below w.heap.size w ((((w23.setCell ⟨gb269, 0, none⟩ (.int .u64 t265)).setCell ⟨gb269, 1, none⟩ (.int .u64 t266)).setCell ⟨gb269, 2, none⟩ (.bool t267)).setCell ⟨gb269, 3, none⟩ (.int .i64 t268))) := ⟨by repeat (first | (with_reducible first | exact HB.out | apply below_alloc | apply pw_below_drewN | apply below_drew1 | refine below_set ?_ GE258.out | refine below_set ?_ GE259.out | refine below_set ?_ GE264.out | refine below_set ?_ GE269.out) | exact HB.out)⟩
            (try clear BK258)
            (try clear BK259)
            (try clear BK264)
            (try clear BK269)
            (try clear HB)
            generalize ((((w23.setCell ⟨gb269, 0, none⟩ (.int .u64 t265)).setCell ⟨gb269, 1, none⟩ (.int .u64 t266)).setCell ⟨gb269, 2, none⟩ (.bool t267)).setCell ⟨gb269, 3, none⟩ (.int .i64 t268)) = w29 at n0_ n1_ n2_ n3_ n4_ ⊢
            have BK258 := n0_
            have BK259 := n1_
            have BK264 := n2_
            have BK269 := n3_
            have HB := n4_
            clear n0_ n1_ n2_ n3_ n4_
            have n0_ := Aside0.mk (blk_drew BK258.out)
            have n1_ := Aside0.mk (blk_drew BK259.out)
            have n2_ := Aside0.mk (blk_drew BK264.out)
            have n3_ := Aside0.mk (blk_drew BK269.out)
            have n4_ := Aside0.mk (below_drew1 HB.out)
            clear BK258
            clear BK259
            clear BK264
            clear BK269
            clear HB
            have BK258 := n0_
            have BK259 := n1_
            have BK264 := n2_
            have BK269 := n3_
            have HB := n4_
            clear n0_ n1_ n2_ n3_ n4_
            refine start_ (n := 18) (S := fun w' => w'.cell? ⟨gb269, 0, none⟩ = some (.int .u64 t265) ∧ w'.cell? ⟨gb269, 1, none⟩ = some (.int .u64 t266) ∧ w'.cell? ⟨gb269, 2, none⟩ = some (.bool t267) ∧ w'.cell? ⟨gb269, 3, none⟩ = some (.int .i64 t268) ∧ w'.cell? ⟨gb258, 0, none⟩ = some (.int .u64 t254) ∧ w'.cell? ⟨gb258, 1, none⟩ = some (.int .u64 t255)) (ds := []) #[false, false, false, false, false, false, false, false, false, false, false, false, false, false, false, false, false, false] (by kernel_rfl) rfl rfl ⟨(blk_cell BK269.out 0).trans rfl, (blk_cell BK269.out 1).trans rfl, (blk_cell BK269.out 2).trans rfl, (blk_cell BK269.out 3).trans rfl, (blk_cell BK258.out 0).trans rfl, (blk_cell BK258.out 1).trans rfl⟩ (fun hHeld => ?_); refine with_tabW laws_FnWide.tab6 laws_FnWide.bits6 (fun HT_ HW_ => ?_)
            generalize w29.drew = w30 at BK258 BK259 BK264 BK269 HB hHeld ⊢
            refine pure_ (i := 0) (N := some 35) (v := ?_) (a' := ?_) #[true, false, false, false, false, false, false, false, false, false, false, false, false, false, false, false, false, false] rfl rfl (any_of HT_.out (by kernel_rfl)) (fun _ _ _ h => h) (Or.inl ⟨by rfl, ?_⟩) ?_ ?_; rotate_left; (intro w'; go_simp; with_reducible rfl); rotate_left; (simp only [Act.put, List.setIfInBounds_toArray, List.set_cons_zero, List.set_cons_succ, i64_w, i32_w]; rfl)
            refine take_ (i := 1) (N := some 36) (v := ?_) (a' := ?_) #[true, true, false, false, false, false, false, false, false, false, false, false, false, false, false, false, false, false] rfl rfl (take_ofW HT_.out HW_.out (by kernel_rfl)) (fun _ _ _ h => h) (Or.inl ⟨by rfl, ?_⟩) hHeld ?_ ?_; rotate_left; (rintro w' ⟨s0, s1, s2, s3, s4, s5⟩; go_simp; with_reducible rfl); rotate_left; (simp only [Act.put, List.setIfInBounds_toArray, List.set_cons_zero, List.set_cons_succ, i64_w, i32_w]; rfl)
            refine take_ (i := 2) (N := some 37) (v := ?_) (a' := ?_) #[true, true, true, false, false, false, false, false, false, false, false, false, false, false, false, false, false, false] rfl rfl (take_ofW HT_.out HW_.out (by kernel_rfl)) (fun _ _ _ h => h) (Or.inl ⟨by rfl, ?_⟩) hHeld ?_ ?_; rotate_left; (rintro w' ⟨s0, s1, s2, s3, s4, s5⟩; go_simp; with_reducible rfl); rotate_left; (simp only [Act.put, List.setIfInBounds_toArray, List.set_cons_zero, List.set_cons_succ, i64_w, i32_w]; rfl)
            refine pure_ (i := 3) (N := some 38) (v := ?_) (a' := ?_) #[true, true, true, true, false, false, false, false, false, false, false, false, false, false, false, false, false, false] rfl rfl (any_of HT_.out (by kernel_rfl)) (fun _ _ _ h => h) (Or.inl ⟨by rfl, ?_⟩) ?_ ?_; rotate_left; (intro w'; go_simp; with_reducible rfl); rotate_left; (simp only [Act.put, List.setIfInBounds_toArray, List.set_cons_zero, List.set_cons_succ, i64_w, i32_w]; rfl)
            refine pure_ (i := 4) (N := some 39) (v := ?_) (a' := ?_) #[true, true, true, true, true, false, false, false, false, false, false, false, false, false, false, false, false, false] rfl rfl (any_of HT_.out (by kernel_rfl)) (fun _ _ _ h => h) (Or.inl ⟨by rfl, ?_⟩) ?_ ?_; rotate_left; (intro w'; go_simp; with_reducible rfl); rotate_left; (simp only [Act.put, List.setIfInBounds_toArray, List.set_cons_zero, List.set_cons_succ, i64_w, i32_w]; rfl)
            refine pure_ (i := 5) (N := some 40) (v := undef) (a' := ?_) #[true, true, true, true, true, true, false, false, false, false, false, false, false, false, false, false, false, false] rfl rfl (any_of HT_.out (by kernel_rfl)) (fun _ _ _ h => h) (Or.inr ⟨by rfl, rfl⟩) ?_ ?_
            rotate_left
            · simp only [Act.put, List.setIfInBounds_toArray, List.set_cons_zero, List.set_cons_succ, i64_w, i32_w]
              rfl
            refine pure_ (i := 6) (N := some 41) (v := undef) (a' := ?_) #[true, true, true, true, true, true, true, false, false, false, false, false, false, false, false, false, false, false] rfl rfl (any_of HT_.out (by kernel_rfl)) (fun _ _ _ h => h) (Or.inr ⟨by rfl, rfl⟩) ?_ ?_
            rotate_left
            · simp only [Act.put, List.setIfInBounds_toArray, List.set_cons_zero, List.set_cons_succ, i64_w, i32_w]
              rfl
            refine pure_ (i := 7) (N := some 42) (v := undef) (a' := ?_) #[true, true, true, true, true, true, true, true, false, false, false, false, false, false, false, false, false, false] rfl rfl (any_of HT_.out (by kernel_rfl)) (fun _ _ _ h => h) (Or.inr ⟨by rfl, rfl⟩) ?_ ?_
            rotate_left
            · simp only [Act.put, List.setIfInBounds_toArray, List.set_cons_zero, List.set_cons_succ, i64_w, i32_w]
              rfl
            refine pure_ (i := 8) (N := some 43) (v := undef) (a' := ?_) #[true, true, true, true, true, true, true, true, true, false, false, false, false, false, false, false, false, false] rfl rfl (any_of HT_.out (by kernel_rfl)) (fun _ _ _ h => h) (Or.inr ⟨by rfl, rfl⟩) ?_ ?_
            rotate_left
            · simp only [Act.put, List.setIfInBounds_toArray, List.set_cons_zero, List.set_cons_succ, i64_w, i32_w]
              rfl
            refine pure_ (i := 9) (N := some 44) (v := undef) (a' := ?_) #[true, true, true, true, true, true, true, true, true, true, false, false, false, false, false, false, false, false] rfl rfl (any_of HT_.out (by kernel_rfl)) (fun _ _ _ h => h) (Or.inr ⟨by rfl, rfl⟩) ?_ ?_
            rotate_left
            · simp only [Act.put, List.setIfInBounds_toArray, List.set_cons_zero, List.set_cons_succ, i64_w, i32_w]
              rfl
            refine pure_ (i := 10) (N := some 45) (v := ?_) (a' := ?_) #[true, true, true, true, true, true, true, true, true, true, true, false, false, false, false, false, false, false] rfl rfl (any_of HT_.out (by kernel_rfl)) (fun _ _ _ h => h) (Or.inl ⟨by rfl, ?_⟩) ?_ ?_; rotate_left; (intro w'; go_simp; with_reducible rfl); rotate_left; (simp only [Act.put, List.setIfInBounds_toArray, List.set_cons_zero, List.set_cons_succ, i64_w, i32_w]; rfl)
            refine pure_ (i := 11) (N := some 46) (v := ?_) (a' := ?_) #[true, true, true, true, true, true, true, true, true, true, true, true, false, false, false, false, false, false] rfl rfl (any_of HT_.out (by kernel_rfl)) (fun _ _ _ h => h) (Or.inl ⟨by rfl, ?_⟩) ?_ ?_; rotate_left; (intro w'; go_simp; with_reducible rfl); rotate_left; (simp only [Act.put, List.setIfInBounds_toArray, List.set_cons_zero, List.set_cons_succ, i64_w, i32_w]; rfl)
            refine pure_ (i := 12) (N := some 47) (v := undef) (a' := ?_) #[true, true, true, true, true, true, true, true, true, true, true, true, true, false, false, false, false, false] rfl rfl (any_of HT_.out (by kernel_rfl)) (fun _ _ _ h => h) (Or.inr ⟨by rfl, rfl⟩) ?_ ?_
            rotate_left
            · simp only [Act.put, List.setIfInBounds_toArray, List.set_cons_zero, List.set_cons_succ, i64_w, i32_w]
              rfl
            refine pure_ (i := 13) (N := some 48) (v := undef) (a' := ?_) #[true, true, true, true, true, true, true, true, true, true, true, true, true, true, false, false, false, false] rfl rfl (any_of HT_.out (by kernel_rfl)) (fun _ _ _ h => h) (Or.inr ⟨by rfl, rfl⟩) ?_ ?_
            rotate_left
            · simp only [Act.put, List.setIfInBounds_toArray, List.set_cons_zero, List.set_cons_succ, i64_w, i32_w]
              rfl
            refine pure_ (i := 14) (N := some 49) (v := undef) (a' := ?_) #[true, true, true, true, true, true, true, true, true, true, true, true, true, true, true, false, false, false] rfl rfl (any_of HT_.out (by kernel_rfl)) (fun _ _ _ h => h) (Or.inr ⟨by rfl, rfl⟩) ?_ ?_
            rotate_left
            · simp only [Act.put, List.setIfInBounds_toArray, List.set_cons_zero, List.set_cons_succ, i64_w, i32_w]
              rfl
            refine pure_ (i := 15) (N := some 50) (v := undef) (a' := ?_) #[true, true, true, true, true, true, true, true, true, true, true, true, true, true, true, true, false, false] rfl rfl (any_of HT_.out (by kernel_rfl)) (fun _ _ _ h => h) (Or.inr ⟨by rfl, rfl⟩) ?_ ?_
            rotate_left
            · simp only [Act.put, List.setIfInBounds_toArray, List.set_cons_zero, List.set_cons_succ, i64_w, i32_w]
              rfl
            refine pure_ (i := 16) (N := some 51) (v := undef) (a' := ?_) #[true, true, true, true, true, true, true, true, true, true, true, true, true, true, true, true, true, false] rfl rfl (any_of HT_.out (by kernel_rfl)) (fun _ _ _ h => h) (Or.inr ⟨by rfl, rfl⟩) ?_ ?_
            rotate_left
            · simp only [Act.put, List.setIfInBounds_toArray, List.set_cons_zero, List.set_cons_succ, i64_w, i32_w]
              rfl
            refine pure_ (i := 17) (N := some 52) (v := ?_) (a' := ?_) #[true, true, true, true, true, true, true, true, true, true, true, true, true, true, true, true, true, true] rfl rfl (any_of HT_.out (by kernel_rfl)) (fun _ _ _ h => h) (Or.inl ⟨by rfl, ?_⟩) ?_ ?_; rotate_left; (intro w'; go_simp; with_reducible rfl); rotate_left; (simp only [Act.put, List.setIfInBounds_toArray, List.set_cons_zero, List.set_cons_succ, i64_w, i32_w]; rfl)
            refine done_ (done_of HT_.out (by kernel_rfl)) ?_
            try go_wp2
            go_meet
            case rel => exact ⟨_, (true), (by first | rfl | (simp; done) | (simp [*]; done)), H', ⟨by have := HJ2.out; first | omega | exact Nat.le_refl _⟩, ⟨by (with_reducible repeat first | apply bn_ | apply bd_ | apply ba_); exact BK258.out⟩, ⟨by (with_reducible repeat first | apply bn_ | apply bd_ | apply ba_); exact BK259.out⟩, ⟨by (with_reducible repeat first | apply bn_ | apply bd_ | apply ba_); exact BK264.out⟩, ⟨by (with_reducible repeat first | apply bn_ | apply bd_ | apply ba_); exact BK269.out⟩, ⟨by repeat (first | (with_reducible first | exact HB.out | apply below_alloc | apply pw_below_drewN | apply below_drew1 | refine below_set ?_ GE258.out | refine below_set ?_ GE259.out | refine below_set ?_ GE264.out | refine below_set ?_ GE269.out) | exact HB.out)⟩⟩
          · rw [if_neg c28] at H
            have c28b0 : (!(t265 == t254) || (!(t266 == t255))) = false := by simpa using c28
            clear c28
            (first | rw [c28b0] | (simp only [i64_w, i32_w]; rw [c28b0]) | skip)
            by_cases c31 : (t262 != t267) = true
            · rw [if_pos c31] at H
              have c31b0 : (t262 != t267) = true := c31
              (try (have c31b1 : decide (t262 = t267) = false := by simpa using c31))
              (try (have c31b2 : (t262 == t267) = false := by simpa using c31))
              (try (have c31b3 : ¬ (t262 = t267) := by simpa using c31))
              clear c31
              have H' := Aside0.mk H
              clear H
              try go_wp2
              have n0_ : Aside0 (((((w23.setCell ⟨gb269, 0, none⟩ (.int .u64 t265)).setCell ⟨gb269, 1, none⟩ (.int .u64 t266)).setCell ⟨gb269, 2, none⟩ (.bool t267)).setCell ⟨gb269, 3, none⟩ (.int .i64 t268)).heap[gb258]? = some (.cells #[.int .u64 t254, .int .u64 t255] 24 (0, 0))) := ⟨by (with_reducible repeat first | apply bn_ | apply bd_ | apply ba_); refine blk_far ?_ NB258_269.out _; (with_reducible repeat first | apply bn_ | apply bd_ | apply ba_); refine blk_far ?_ NB258_269.out _; (with_reducible repeat first | apply bn_ | apply bd_ | apply ba_); refine blk_far ?_ NB258_269.out _; (with_reducible repeat first | apply bn_ | apply bd_ | apply ba_); refine blk_far ?_ NB258_269.out _; (with_reducible repeat first | apply bn_ | apply bd_ | apply ba_); exact BK258.out⟩
              have n1_ : Aside0 (((((w23.setCell ⟨gb269, 0, none⟩ (.int .u64 t265)).setCell ⟨gb269, 1, none⟩ (.int .u64 t266)).setCell ⟨gb269, 2, none⟩ (.bool t267)).setCell ⟨gb269, 3, none⟩ (.int .i64 t268)).heap[gb259]? = some (.cells #[.int .u64 t256, .int .u64 t257] 24 (0, 0))) := ⟨by (with_reducible repeat first | apply bn_ | apply bd_ | apply ba_); refine blk_far ?_ NB259_269.out _; (with_reducible repeat first | apply bn_ | apply bd_ | apply ba_); refine blk_far ?_ NB259_269.out _; (with_reducible repeat first | apply bn_ | apply bd_ | apply ba_); refine blk_far ?_ NB259_269.out _; (with_reducible repeat first | apply bn_ | apply bd_ | apply ba_); refine blk_far ?_ NB259_269.out _; (with_reducible repeat first | apply bn_ | apply bd_ | apply ba_); exact BK259.out⟩
              have n2_ : Aside0 (((((w23.setCell ⟨gb269, 0, none⟩ (.int .u64 t265)).setCell ⟨gb269, 1, none⟩ (.int .u64 t266)).setCell ⟨gb269, 2, none⟩ (.bool t267)).setCell ⟨gb269, 3, none⟩ (.int .i64 t268)).heap[gb264]? = some (.cells #[.int .u64 t260, .int .u64 t261, .bool t262, .int .i64 t263] 26 (0, 0))) := ⟨by (with_reducible repeat first | apply bn_ | apply bd_ | apply ba_); refine blk_far ?_ NB264_269.out _; (with_reducible repeat first | apply bn_ | apply bd_ | apply ba_); refine blk_far ?_ NB264_269.out _; (with_reducible repeat first | apply bn_ | apply bd_ | apply ba_); refine blk_far ?_ NB264_269.out _; (with_reducible repeat first | apply bn_ | apply bd_ | apply ba_); refine blk_far ?_ NB264_269.out _; (with_reducible repeat first | apply bn_ | apply bd_ | apply ba_); exact BK264.out⟩
              have n3_ : Aside0 (((((w23.setCell ⟨gb269, 0, none⟩ (.int .u64 t265)).setCell ⟨gb269, 1, none⟩ (.int .u64 t266)).setCell ⟨gb269, 2, none⟩ (.bool t267)).setCell ⟨gb269, 3, none⟩ (.int .i64 t268)).heap[gb269]? = some (.cells #[.int .u64 t265, .int .u64 t266, .bool t267, .int .i64 t268] 26 (0, 0))) := ⟨by (with_reducible repeat first | apply bn_ | apply bd_ | apply ba_); refine blk_put (cs := #[.int .u64 t265, .int .u64 t266, .bool t267, .int .i64 0]) ?_ 3 _ rfl; (with_reducible repeat first | apply bn_ | apply bd_ | apply ba_); refine blk_put (cs := #[.int .u64 t265, .int .u64 t266, .bool false, .int .i64 0]) ?_ 2 _ rfl; (with_reducible repeat first | apply bn_ | apply bd_ | apply ba_); refine blk_put (cs := #[.int .u64 t265, .int .u64 0, .bool false, .int .i64 0]) ?_ 1 _ rfl; (with_reducible repeat first | apply bn_ | apply bd_ | apply ba_); refine blk_put (cs := #[.int .u64 0, .int .u64 0, .bool false, .int .i64 0]) ?_ 0 _ rfl; (with_reducible repeat first | apply bn_ | apply bd_ | apply ba_); exact BK269.out⟩
              have n4_ : Aside0 (Below w.heap.size w ((((w23.setCell ⟨gb269, 0, none⟩ (.int .u64 t265)).setCell ⟨gb269, 1, none⟩ (.int .u64 t266)).setCell ⟨gb269, 2, none⟩ (.bool t267)).setCell ⟨gb269, 3, none⟩ (.int .i64 t268))) := ⟨by repeat (first | (with_reducible first | exact HB.out | apply below_alloc | apply pw_below_drewN | apply below_drew1 | refine below_set ?_ GE258.out | refine below_set ?_ GE259.out | refine below_set ?_ GE264.out | refine below_set ?_ GE269.out) | exact HB.out)⟩
              (try clear BK258)
              (try clear BK259)
              (try clear BK264)
              (try clear BK269)
              (try clear HB)
              generalize ((((w23.setCell ⟨gb269, 0, none⟩ (.int .u64 t265)).setCell ⟨gb269, 1, none⟩ (.int .u64 t266)).setCell ⟨gb269, 2, none⟩ (.bool t267)).setCell ⟨gb269, 3, none⟩ (.int .i64 t268)) = w32 at n0_ n1_ n2_ n3_ n4_ ⊢
              have BK258 := n0_
              have BK259 := n1_
              have BK264 := n2_
              have BK269 := n3_
              have HB := n4_
              clear n0_ n1_ n2_ n3_ n4_
              have n0_ := Aside0.mk (blk_drew BK258.out)
              have n1_ := Aside0.mk (blk_drew BK259.out)
              have n2_ := Aside0.mk (blk_drew BK264.out)
              have n3_ := Aside0.mk (blk_drew BK269.out)
              have n4_ := Aside0.mk (below_drew1 HB.out)
              clear BK258
              clear BK259
              clear BK264
              clear BK269
              clear HB
              have BK258 := n0_
              have BK259 := n1_
              have BK264 := n2_
              have BK269 := n3_
              have HB := n4_
              clear n0_ n1_ n2_ n3_ n4_
              refine start_ (n := 18) (S := fun w' => w'.cell? ⟨gb269, 0, none⟩ = some (.int .u64 t265) ∧ w'.cell? ⟨gb269, 1, none⟩ = some (.int .u64 t266) ∧ w'.cell? ⟨gb269, 2, none⟩ = some (.bool t267) ∧ w'.cell? ⟨gb269, 3, none⟩ = some (.int .i64 t268) ∧ w'.cell? ⟨gb258, 0, none⟩ = some (.int .u64 t254) ∧ w'.cell? ⟨gb258, 1, none⟩ = some (.int .u64 t255) ∧ w'.cell? ⟨gb264, 0, none⟩ = some (.int .u64 t260) ∧ w'.cell? ⟨gb264, 1, none⟩ = some (.int .u64 t261) ∧ w'.cell? ⟨gb264, 2, none⟩ = some (.bool t262) ∧ w'.cell? ⟨gb264, 3, none⟩ = some (.int .i64 t263)) (ds := []) #[false, false, false, false, false, false, false, false, false, false, false, false, false, false, false, false, false, false] (by kernel_rfl) rfl rfl ⟨(blk_cell BK269.out 0).trans rfl, (blk_cell BK269.out 1).trans rfl, (blk_cell BK269.out 2).trans rfl, (blk_cell BK269.out 3).trans rfl, (blk_cell BK258.out 0).trans rfl, (blk_cell BK258.out 1).trans rfl, (blk_cell BK264.out 0).trans rfl, (blk_cell BK264.out 1).trans rfl, (blk_cell BK264.out 2).trans rfl, (blk_cell BK264.out 3).trans rfl⟩ (fun hHeld => ?_); refine with_tabW laws_FnWide.tab6 laws_FnWide.bits6 (fun HT_ HW_ => ?_)
              generalize w32.drew = w33 at BK258 BK259 BK264 BK269 HB hHeld ⊢
              refine pure_ (i := 0) (N := some 35) (v := ?_) (a' := ?_) #[true, false, false, false, false, false, false, false, false, false, false, false, false, false, false, false, false, false] rfl rfl (any_of HT_.out (by kernel_rfl)) (fun _ _ _ h => h) (Or.inl ⟨by rfl, ?_⟩) ?_ ?_; rotate_left; (intro w'; go_simp; with_reducible rfl); rotate_left; (simp only [Act.put, List.setIfInBounds_toArray, List.set_cons_zero, List.set_cons_succ, i64_w, i32_w]; rfl)
              refine take_ (i := 1) (N := some 36) (v := ?_) (a' := ?_) #[true, true, false, false, false, false, false, false, false, false, false, false, false, false, false, false, false, false] rfl rfl (take_ofW HT_.out HW_.out (by kernel_rfl)) (fun _ _ _ h => h) (Or.inl ⟨by rfl, ?_⟩) hHeld ?_ ?_; rotate_left; (rintro w' ⟨s0, s1, s2, s3, s4, s5, s6, s7, s8, s9⟩; go_simp; with_reducible rfl); rotate_left; (simp only [Act.put, List.setIfInBounds_toArray, List.set_cons_zero, List.set_cons_succ, i64_w, i32_w]; rfl)
              refine take_ (i := 2) (N := some 37) (v := ?_) (a' := ?_) #[true, true, true, false, false, false, false, false, false, false, false, false, false, false, false, false, false, false] rfl rfl (take_ofW HT_.out HW_.out (by kernel_rfl)) (fun _ _ _ h => h) (Or.inl ⟨by rfl, ?_⟩) hHeld ?_ ?_; rotate_left; (rintro w' ⟨s0, s1, s2, s3, s4, s5, s6, s7, s8, s9⟩; go_simp; with_reducible rfl); rotate_left; (simp only [Act.put, List.setIfInBounds_toArray, List.set_cons_zero, List.set_cons_succ, i64_w, i32_w]; rfl)
              refine pure_ (i := 3) (N := some 38) (v := ?_) (a' := ?_) #[true, true, true, true, false, false, false, false, false, false, false, false, false, false, false, false, false, false] rfl rfl (any_of HT_.out (by kernel_rfl)) (fun _ _ _ h => h) (Or.inl ⟨by rfl, ?_⟩) ?_ ?_; rotate_left; (intro w'; go_simp; with_reducible rfl); rotate_left; (simp only [Act.put, List.setIfInBounds_toArray, List.set_cons_zero, List.set_cons_succ, i64_w, i32_w]; rfl)
              refine pure_ (i := 4) (N := some 39) (v := ?_) (a' := ?_) #[true, true, true, true, true, false, false, false, false, false, false, false, false, false, false, false, false, false] rfl rfl (any_of HT_.out (by kernel_rfl)) (fun _ _ _ h => h) (Or.inl ⟨by rfl, ?_⟩) ?_ ?_; rotate_left; (intro w'; go_simp; with_reducible rfl); rotate_left; (simp only [Act.put, List.setIfInBounds_toArray, List.set_cons_zero, List.set_cons_succ, i64_w, i32_w]; rfl)
              refine pure_ (i := 5) (N := some 40) (v := ?_) (a' := ?_) #[true, true, true, true, true, true, false, false, false, false, false, false, false, false, false, false, false, false] rfl rfl (any_of HT_.out (by kernel_rfl)) (fun _ _ _ h => h) (Or.inl ⟨by rfl, ?_⟩) ?_ ?_; rotate_left; (intro w'; go_simp; with_reducible rfl); rotate_left; (simp only [Act.put, List.setIfInBounds_toArray, List.set_cons_zero, List.set_cons_succ, i64_w, i32_w]; rfl)
              refine pure_ (i := 7) (N := some 42) (v := ?_) (a' := ?_) #[true, true, true, true, true, true, false, true, false, false, false, false, false, false, false, false, false, false] rfl rfl (any_of HT_.out (by kernel_rfl)) (fun _ _ _ h => h) (Or.inl ⟨by rfl, ?_⟩) ?_ ?_; rotate_left; (intro w'; go_simp; with_reducible rfl); rotate_left; (simp only [Act.put, List.setIfInBounds_toArray, List.set_cons_zero, List.set_cons_succ, i64_w, i32_w]; rfl)
              refine take_ (i := 6) (N := some 41) (v := ?_) (a' := ?_) #[true, true, true, true, true, true, true, true, false, false, false, false, false, false, false, false, false, false] rfl rfl (take_ofW HT_.out HW_.out (by kernel_rfl)) (fun _ _ _ h => h) (Or.inl ⟨by rfl, ?_⟩) hHeld ?_ ?_; rotate_left; (rintro w' ⟨s0, s1, s2, s3, s4, s5, s6, s7, s8, s9⟩; go_simp; with_reducible rfl); rotate_left; (simp only [Act.put, List.setIfInBounds_toArray, List.set_cons_zero, List.set_cons_succ, i64_w, i32_w]; rfl)
              refine take_ (i := 8) (N := some 43) (v := ?_) (a' := ?_) #[true, true, true, true, true, true, true, true, true, false, false, false, false, false, false, false, false, false] rfl rfl (take_ofW HT_.out HW_.out (by kernel_rfl)) (fun _ _ _ h => h) (Or.inl ⟨by rfl, ?_⟩) hHeld ?_ ?_; rotate_left; (rintro w' ⟨s0, s1, s2, s3, s4, s5, s6, s7, s8, s9⟩; go_simp; with_reducible rfl); rotate_left; (simp only [Act.put, List.setIfInBounds_toArray, List.set_cons_zero, List.set_cons_succ, i64_w, i32_w]; rfl)
              refine pure_ (i := 9) (N := some 44) (v := ?_) (a' := ?_) #[true, true, true, true, true, true, true, true, true, true, false, false, false, false, false, false, false, false] rfl rfl (any_of HT_.out (by kernel_rfl)) (fun _ _ _ h => h) (Or.inl ⟨by rfl, ?_⟩) ?_ ?_; rotate_left; (intro w'; go_simp; with_reducible rfl); rotate_left; (simp only [Act.put, List.setIfInBounds_toArray, List.set_cons_zero, List.set_cons_succ, i64_w, i32_w]; rfl)
              refine pure_ (i := 10) (N := some 45) (v := ?_) (a' := ?_) #[true, true, true, true, true, true, true, true, true, true, true, false, false, false, false, false, false, false] rfl rfl (any_of HT_.out (by kernel_rfl)) (fun _ _ _ h => h) (Or.inl ⟨by rfl, ?_⟩) ?_ ?_; rotate_left; (intro w'; go_simp; with_reducible rfl); rotate_left; (simp only [Act.put, List.setIfInBounds_toArray, List.set_cons_zero, List.set_cons_succ, i64_w, i32_w]; rfl)
              refine pure_ (i := 11) (N := some 46) (v := ?_) (a' := ?_) #[true, true, true, true, true, true, true, true, true, true, true, true, false, false, false, false, false, false] rfl rfl (any_of HT_.out (by kernel_rfl)) (fun _ _ _ h => h) (Or.inl ⟨by rfl, ?_⟩) ?_ ?_; rotate_left; (intro w'; go_simp; with_reducible rfl); rotate_left; (simp only [Act.put, List.setIfInBounds_toArray, List.set_cons_zero, List.set_cons_succ, i64_w, i32_w]; rfl)
              refine pure_ (i := 12) (N := some 47) (v := undef) (a' := ?_) #[true, true, true, true, true, true, true, true, true, true, true, true, true, false, false, false, false, false] rfl rfl (any_of HT_.out (by kernel_rfl)) (fun _ _ _ h => h) (Or.inr ⟨by rfl, rfl⟩) ?_ ?_
              rotate_left
              · simp only [Act.put, List.setIfInBounds_toArray, List.set_cons_zero, List.set_cons_succ, i64_w, i32_w]
                rfl
              refine pure_ (i := 13) (N := some 48) (v := undef) (a' := ?_) #[true, true, true, true, true, true, true, true, true, true, true, true, true, true, false, false, false, false] rfl rfl (any_of HT_.out (by kernel_rfl)) (fun _ _ _ h => h) (Or.inr ⟨by rfl, rfl⟩) ?_ ?_
              rotate_left
              · simp only [Act.put, List.setIfInBounds_toArray, List.set_cons_zero, List.set_cons_succ, i64_w, i32_w]
                rfl
              refine pure_ (i := 14) (N := some 49) (v := undef) (a' := ?_) #[true, true, true, true, true, true, true, true, true, true, true, true, true, true, true, false, false, false] rfl rfl (any_of HT_.out (by kernel_rfl)) (fun _ _ _ h => h) (Or.inr ⟨by rfl, rfl⟩) ?_ ?_
              rotate_left
              · simp only [Act.put, List.setIfInBounds_toArray, List.set_cons_zero, List.set_cons_succ, i64_w, i32_w]
                rfl
              refine pure_ (i := 15) (N := some 50) (v := undef) (a' := ?_) #[true, true, true, true, true, true, true, true, true, true, true, true, true, true, true, true, false, false] rfl rfl (any_of HT_.out (by kernel_rfl)) (fun _ _ _ h => h) (Or.inr ⟨by rfl, rfl⟩) ?_ ?_
              rotate_left
              · simp only [Act.put, List.setIfInBounds_toArray, List.set_cons_zero, List.set_cons_succ, i64_w, i32_w]
                rfl
              refine pure_ (i := 16) (N := some 51) (v := undef) (a' := ?_) #[true, true, true, true, true, true, true, true, true, true, true, true, true, true, true, true, true, false] rfl rfl (any_of HT_.out (by kernel_rfl)) (fun _ _ _ h => h) (Or.inr ⟨by rfl, rfl⟩) ?_ ?_
              rotate_left
              · simp only [Act.put, List.setIfInBounds_toArray, List.set_cons_zero, List.set_cons_succ, i64_w, i32_w]
                rfl
              refine pure_ (i := 17) (N := some 52) (v := ?_) (a' := ?_) #[true, true, true, true, true, true, true, true, true, true, true, true, true, true, true, true, true, true] rfl rfl (any_of HT_.out (by kernel_rfl)) (fun _ _ _ h => h) (Or.inl ⟨by rfl, ?_⟩) ?_ ?_; rotate_left; (intro w'; go_simp; with_reducible rfl); rotate_left; (simp only [Act.put, List.setIfInBounds_toArray, List.set_cons_zero, List.set_cons_succ, i64_w, i32_w]; rfl)
              refine done_ (done_of HT_.out (by kernel_rfl)) ?_
              try go_wp2
              go_meet
              case rel => exact ⟨_, (true), (by first | rfl | (simp; done) | (simp [*]; done)), H', ⟨by have := HJ2.out; first | omega | exact Nat.le_refl _⟩, ⟨by (with_reducible repeat first | apply bn_ | apply bd_ | apply ba_); exact BK258.out⟩, ⟨by (with_reducible repeat first | apply bn_ | apply bd_ | apply ba_); exact BK259.out⟩, ⟨by (with_reducible repeat first | apply bn_ | apply bd_ | apply ba_); exact BK264.out⟩, ⟨by (with_reducible repeat first | apply bn_ | apply bd_ | apply ba_); exact BK269.out⟩, ⟨by repeat (first | (with_reducible first | exact HB.out | apply below_alloc | apply pw_below_drewN | apply below_drew1 | refine below_set ?_ GE258.out | refine below_set ?_ GE259.out | refine below_set ?_ GE264.out | refine below_set ?_ GE269.out) | exact HB.out)⟩⟩
            · rw [if_neg c31] at H
              have c31b0 : (t262 != t267) = false := by simpa using c31
              (try (have c31b1 : decide (t262 = t267) = true := by simpa using c31))
              (try (have c31b2 : (t262 == t267) = true := by simpa using c31))
              clear c31
              replace H := Option.bind_eq_some_iff.mp H
              obtain ⟨⟨t270, t271, t272, t273⟩, A340, H⟩ := H
              replace H : (laws_FnWide.j1 kj2 l1 ((!(t270 == t260) || (!(t271 == t261))) || (!(t272 == t262) || (!(t273 == t263)))) t254 t255 t256 t257) = some r := H
              have A34 := Aside0.mk A340
              clear A340
              have H' := Aside0.mk H
              clear H
              try go_wp2
              have n0_ : Aside0 (((((w23.setCell ⟨gb269, 0, none⟩ (.int .u64 t265)).setCell ⟨gb269, 1, none⟩ (.int .u64 t266)).setCell ⟨gb269, 2, none⟩ (.bool t267)).setCell ⟨gb269, 3, none⟩ (.int .i64 t268)).heap[gb258]? = some (.cells #[.int .u64 t254, .int .u64 t255] 24 (0, 0))) := ⟨by (with_reducible repeat first | apply bn_ | apply bd_ | apply ba_); refine blk_far ?_ NB258_269.out _; (with_reducible repeat first | apply bn_ | apply bd_ | apply ba_); refine blk_far ?_ NB258_269.out _; (with_reducible repeat first | apply bn_ | apply bd_ | apply ba_); refine blk_far ?_ NB258_269.out _; (with_reducible repeat first | apply bn_ | apply bd_ | apply ba_); refine blk_far ?_ NB258_269.out _; (with_reducible repeat first | apply bn_ | apply bd_ | apply ba_); exact BK258.out⟩
              have n1_ : Aside0 (((((w23.setCell ⟨gb269, 0, none⟩ (.int .u64 t265)).setCell ⟨gb269, 1, none⟩ (.int .u64 t266)).setCell ⟨gb269, 2, none⟩ (.bool t267)).setCell ⟨gb269, 3, none⟩ (.int .i64 t268)).heap[gb259]? = some (.cells #[.int .u64 t256, .int .u64 t257] 24 (0, 0))) := ⟨by (with_reducible repeat first | apply bn_ | apply bd_ | apply ba_); refine blk_far ?_ NB259_269.out _; (with_reducible repeat first | apply bn_ | apply bd_ | apply ba_); refine blk_far ?_ NB259_269.out _; (with_reducible repeat first | apply bn_ | apply bd_ | apply ba_); refine blk_far ?_ NB259_269.out _; (with_reducible repeat first | apply bn_ | apply bd_ | apply ba_); refine blk_far ?_ NB259_269.out _; (with_reducible repeat first | apply bn_ | apply bd_ | apply ba_); exact BK259.out⟩
              have n2_ : Aside0 (((((w23.setCell ⟨gb269, 0, none⟩ (.int .u64 t265)).setCell ⟨gb269, 1, none⟩ (.int .u64 t266)).setCell ⟨gb269, 2, none⟩ (.bool t267)).setCell ⟨gb269, 3, none⟩ (.int .i64 t268)).heap[gb264]? = some (.cells #[.int .u64 t260, .int .u64 t261, .bool t262, .int .i64 t263] 26 (0, 0))) := ⟨by (with_reducible repeat first | apply bn_ | apply bd_ | apply ba_); refine blk_far ?_ NB264_269.out _; (with_reducible repeat first | apply bn_ | apply bd_ | apply ba_); refine blk_far ?_ NB264_269.out _; (with_reducible repeat first | apply bn_ | apply bd_ | apply ba_); refine blk_far ?_ NB264_269.out _; (with_reducible repeat first | apply bn_ | apply bd_ | apply ba_); refine blk_far ?_ NB264_269.out _; (with_reducible repeat first | apply bn_ | apply bd_ | apply ba_); exact BK264.out⟩
              have n3_ : Aside0 (((((w23.setCell ⟨gb269, 0, none⟩ (.int .u64 t265)).setCell ⟨gb269, 1, none⟩ (.int .u64 t266)).setCell ⟨gb269, 2, none⟩ (.bool t267)).setCell ⟨gb269, 3, none⟩ (.int .i64 t268)).heap[gb269]? = some (.cells #[.int .u64 t265, .int .u64 t266, .bool t267, .int .i64 t268] 26 (0, 0))) := ⟨by (with_reducible repeat first | apply bn_ | apply bd_ | apply ba_); refine blk_put (cs := #[.int .u64 t265, .int .u64 t266, .bool t267, .int .i64 0]) ?_ 3 _ rfl; (with_reducible repeat first | apply bn_ | apply bd_ | apply ba_); refine blk_put (cs := #[.int .u64 t265, .int .u64 t266, .bool false, .int .i64 0]) ?_ 2 _ rfl; (with_reducible repeat first | apply bn_ | apply bd_ | apply ba_); refine blk_put (cs := #[.int .u64 t265, .int .u64 0, .bool false, .int .i64 0]) ?_ 1 _ rfl; (with_reducible repeat first | apply bn_ | apply bd_ | apply ba_); refine blk_put (cs := #[.int .u64 0, .int .u64 0, .bool false, .int .i64 0]) ?_ 0 _ rfl; (with_reducible repeat first | apply bn_ | apply bd_ | apply ba_); exact BK269.out⟩
              have n4_ : Aside0 (Below w.heap.size w ((((w23.setCell ⟨gb269, 0, none⟩ (.int .u64 t265)).setCell ⟨gb269, 1, none⟩ (.int .u64 t266)).setCell ⟨gb269, 2, none⟩ (.bool t267)).setCell ⟨gb269, 3, none⟩ (.int .i64 t268))) := ⟨by repeat (first | (with_reducible first | exact HB.out | apply below_alloc | apply pw_below_drewN | apply below_drew1 | refine below_set ?_ GE258.out | refine below_set ?_ GE259.out | refine below_set ?_ GE264.out | refine below_set ?_ GE269.out) | exact HB.out)⟩
              (try clear BK258)
              (try clear BK259)
              (try clear BK264)
              (try clear BK269)
              (try clear HB)
              generalize ((((w23.setCell ⟨gb269, 0, none⟩ (.int .u64 t265)).setCell ⟨gb269, 1, none⟩ (.int .u64 t266)).setCell ⟨gb269, 2, none⟩ (.bool t267)).setCell ⟨gb269, 3, none⟩ (.int .i64 t268)) = w35 at n0_ n1_ n2_ n3_ n4_ ⊢
              have BK258 := n0_
              have BK259 := n1_
              have BK264 := n2_
              have BK269 := n3_
              have HB := n4_
              clear n0_ n1_ n2_ n3_ n4_
              have n0_ := Aside0.mk (blk_drew BK258.out)
              have n1_ := Aside0.mk (blk_drew BK259.out)
              have n2_ := Aside0.mk (blk_drew BK264.out)
              have n3_ := Aside0.mk (blk_drew BK269.out)
              have n4_ := Aside0.mk (below_drew1 HB.out)
              clear BK258
              clear BK259
              clear BK264
              clear BK269
              clear HB
              have BK258 := n0_
              have BK259 := n1_
              have BK264 := n2_
              have BK269 := n3_
              have HB := n4_
              clear n0_ n1_ n2_ n3_ n4_
              refine start_ (n := 18) (S := fun w' => w'.cell? ⟨gb269, 0, none⟩ = some (.int .u64 t265) ∧ w'.cell? ⟨gb269, 1, none⟩ = some (.int .u64 t266) ∧ w'.cell? ⟨gb269, 2, none⟩ = some (.bool t267) ∧ w'.cell? ⟨gb269, 3, none⟩ = some (.int .i64 t268) ∧ w'.cell? ⟨gb258, 0, none⟩ = some (.int .u64 t254) ∧ w'.cell? ⟨gb258, 1, none⟩ = some (.int .u64 t255) ∧ w'.cell? ⟨gb264, 0, none⟩ = some (.int .u64 t260) ∧ w'.cell? ⟨gb264, 1, none⟩ = some (.int .u64 t261) ∧ w'.cell? ⟨gb264, 2, none⟩ = some (.bool t262) ∧ w'.cell? ⟨gb264, 3, none⟩ = some (.int .i64 t263) ∧ w'.cell? ⟨gb259, 0, none⟩ = some (.int .u64 t256) ∧ w'.cell? ⟨gb259, 1, none⟩ = some (.int .u64 t257)) (ds := []) #[false, false, false, false, false, false, false, false, false, false, false, false, false, false, false, false, false, false] (by kernel_rfl) rfl rfl ⟨(blk_cell BK269.out 0).trans rfl, (blk_cell BK269.out 1).trans rfl, (blk_cell BK269.out 2).trans rfl, (blk_cell BK269.out 3).trans rfl, (blk_cell BK258.out 0).trans rfl, (blk_cell BK258.out 1).trans rfl, (blk_cell BK264.out 0).trans rfl, (blk_cell BK264.out 1).trans rfl, (blk_cell BK264.out 2).trans rfl, (blk_cell BK264.out 3).trans rfl, (blk_cell BK259.out 0).trans rfl, (blk_cell BK259.out 1).trans rfl⟩ (fun hHeld => ?_); refine with_tabW laws_FnWide.tab6 laws_FnWide.bits6 (fun HT_ HW_ => ?_)
              generalize w35.drew = w36 at BK258 BK259 BK264 BK269 HB hHeld ⊢
              refine pure_ (i := 0) (N := some 35) (v := ?_) (a' := ?_) #[true, false, false, false, false, false, false, false, false, false, false, false, false, false, false, false, false, false] rfl rfl (any_of HT_.out (by kernel_rfl)) (fun _ _ _ h => h) (Or.inl ⟨by rfl, ?_⟩) ?_ ?_; rotate_left; (intro w'; go_simp; with_reducible rfl); rotate_left; (simp only [Act.put, List.setIfInBounds_toArray, List.set_cons_zero, List.set_cons_succ, i64_w, i32_w]; rfl)
              refine take_ (i := 1) (N := some 36) (v := ?_) (a' := ?_) #[true, true, false, false, false, false, false, false, false, false, false, false, false, false, false, false, false, false] rfl rfl (take_ofW HT_.out HW_.out (by kernel_rfl)) (fun _ _ _ h => h) (Or.inl ⟨by rfl, ?_⟩) hHeld ?_ ?_; rotate_left; (rintro w' ⟨s0, s1, s2, s3, s4, s5, s6, s7, s8, s9, s10, s11⟩; go_simp; with_reducible rfl); rotate_left; (simp only [Act.put, List.setIfInBounds_toArray, List.set_cons_zero, List.set_cons_succ, i64_w, i32_w]; rfl)
              refine take_ (i := 2) (N := some 37) (v := ?_) (a' := ?_) #[true, true, true, false, false, false, false, false, false, false, false, false, false, false, false, false, false, false] rfl rfl (take_ofW HT_.out HW_.out (by kernel_rfl)) (fun _ _ _ h => h) (Or.inl ⟨by rfl, ?_⟩) hHeld ?_ ?_; rotate_left; (rintro w' ⟨s0, s1, s2, s3, s4, s5, s6, s7, s8, s9, s10, s11⟩; go_simp; with_reducible rfl); rotate_left; (simp only [Act.put, List.setIfInBounds_toArray, List.set_cons_zero, List.set_cons_succ, i64_w, i32_w]; rfl)
              refine pure_ (i := 3) (N := some 38) (v := ?_) (a' := ?_) #[true, true, true, true, false, false, false, false, false, false, false, false, false, false, false, false, false, false] rfl rfl (any_of HT_.out (by kernel_rfl)) (fun _ _ _ h => h) (Or.inl ⟨by rfl, ?_⟩) ?_ ?_; rotate_left; (intro w'; go_simp; with_reducible rfl); rotate_left; (simp only [Act.put, List.setIfInBounds_toArray, List.set_cons_zero, List.set_cons_succ, i64_w, i32_w]; rfl)
              refine pure_ (i := 4) (N := some 39) (v := ?_) (a' := ?_) #[true, true, true, true, true, false, false, false, false, false, false, false, false, false, false, false, false, false] rfl rfl (any_of HT_.out (by kernel_rfl)) (fun _ _ _ h => h) (Or.inl ⟨by rfl, ?_⟩) ?_ ?_; rotate_left; (intro w'; go_simp; with_reducible rfl); rotate_left; (simp only [Act.put, List.setIfInBounds_toArray, List.set_cons_zero, List.set_cons_succ, i64_w, i32_w]; rfl)
              refine pure_ (i := 5) (N := some 40) (v := ?_) (a' := ?_) #[true, true, true, true, true, true, false, false, false, false, false, false, false, false, false, false, false, false] rfl rfl (any_of HT_.out (by kernel_rfl)) (fun _ _ _ h => h) (Or.inl ⟨by rfl, ?_⟩) ?_ ?_; rotate_left; (intro w'; go_simp; with_reducible rfl); rotate_left; (simp only [Act.put, List.setIfInBounds_toArray, List.set_cons_zero, List.set_cons_succ, i64_w, i32_w]; rfl)
              refine pure_ (i := 7) (N := some 42) (v := ?_) (a' := ?_) #[true, true, true, true, true, true, false, true, false, false, false, false, false, false, false, false, false, false] rfl rfl (any_of HT_.out (by kernel_rfl)) (fun _ _ _ h => h) (Or.inl ⟨by rfl, ?_⟩) ?_ ?_; rotate_left; (intro w'; go_simp; with_reducible rfl); rotate_left; (simp only [Act.put, List.setIfInBounds_toArray, List.set_cons_zero, List.set_cons_succ, i64_w, i32_w]; rfl)
              refine take_ (i := 6) (N := some 41) (v := ?_) (a' := ?_) #[true, true, true, true, true, true, true, true, false, false, false, false, false, false, false, false, false, false] rfl rfl (take_ofW HT_.out HW_.out (by kernel_rfl)) (fun _ _ _ h => h) (Or.inl ⟨by rfl, ?_⟩) hHeld ?_ ?_; rotate_left; (rintro w' ⟨s0, s1, s2, s3, s4, s5, s6, s7, s8, s9, s10, s11⟩; go_simp; with_reducible rfl); rotate_left; (simp only [Act.put, List.setIfInBounds_toArray, List.set_cons_zero, List.set_cons_succ, i64_w, i32_w]; rfl)
              refine take_ (i := 8) (N := some 43) (v := ?_) (a' := ?_) #[true, true, true, true, true, true, true, true, true, false, false, false, false, false, false, false, false, false] rfl rfl (take_ofW HT_.out HW_.out (by kernel_rfl)) (fun _ _ _ h => h) (Or.inl ⟨by rfl, ?_⟩) hHeld ?_ ?_; rotate_left; (rintro w' ⟨s0, s1, s2, s3, s4, s5, s6, s7, s8, s9, s10, s11⟩; go_simp; with_reducible rfl); rotate_left; (simp only [Act.put, List.setIfInBounds_toArray, List.set_cons_zero, List.set_cons_succ, i64_w, i32_w]; rfl)
              refine pure_ (i := 9) (N := some 44) (v := ?_) (a' := ?_) #[true, true, true, true, true, true, true, true, true, true, false, false, false, false, false, false, false, false] rfl rfl (any_of HT_.out (by kernel_rfl)) (fun _ _ _ h => h) (Or.inl ⟨by rfl, ?_⟩) ?_ ?_; rotate_left; (intro w'; go_simp; with_reducible rfl); rotate_left; (simp only [Act.put, List.setIfInBounds_toArray, List.set_cons_zero, List.set_cons_succ, i64_w, i32_w]; rfl)
              refine pure_ (i := 10) (N := some 45) (v := ?_) (a' := ?_) #[true, true, true, true, true, true, true, true, true, true, true, false, false, false, false, false, false, false] rfl rfl (any_of HT_.out (by kernel_rfl)) (fun _ _ _ h => h) (Or.inl ⟨by rfl, ?_⟩) ?_ ?_; rotate_left; (intro w'; go_simp; with_reducible rfl); rotate_left; (simp only [Act.put, List.setIfInBounds_toArray, List.set_cons_zero, List.set_cons_succ, i64_w, i32_w]; rfl)
              refine pure_ (i := 11) (N := some 46) (v := ?_) (a' := ?_) #[true, true, true, true, true, true, true, true, true, true, true, true, false, false, false, false, false, false] rfl rfl (any_of HT_.out (by kernel_rfl)) (fun _ _ _ h => h) (Or.inl ⟨by rfl, ?_⟩) ?_ ?_; rotate_left; (intro w'; go_simp; with_reducible rfl); rotate_left; (simp only [Act.put, List.setIfInBounds_toArray, List.set_cons_zero, List.set_cons_succ, i64_w, i32_w]; rfl)
              refine take_ (i := 12) (N := some 47) (v := ?_) (a' := ?_) #[true, true, true, true, true, true, true, true, true, true, true, true, true, false, false, false, false, false] rfl rfl (take_ofW HT_.out HW_.out (by kernel_rfl)) (fun _ _ _ h => h) (Or.inl ⟨by rfl, ?_⟩) hHeld ?_ ?_; rotate_left; (rintro w' ⟨s0, s1, s2, s3, s4, s5, s6, s7, s8, s9, s10, s11⟩; go_simp; with_reducible rfl); rotate_left; (simp only [Act.put, List.setIfInBounds_toArray, List.set_cons_zero, List.set_cons_succ, i64_w, i32_w]; rfl)
              refine take_ (i := 13) (N := some 48) (v := ?_) (a' := ?_) #[true, true, true, true, true, true, true, true, true, true, true, true, true, true, false, false, false, false] rfl rfl (take_ofW HT_.out HW_.out (by kernel_rfl)) (fun _ _ _ h => h) (Or.inl ⟨by rfl, ?_⟩) hHeld ?_ ?_; rotate_left; (rintro w' ⟨s0, s1, s2, s3, s4, s5, s6, s7, s8, s9, s10, s11⟩; go_simp; with_reducible rfl); rotate_left; (simp only [Act.put, List.setIfInBounds_toArray, List.set_cons_zero, List.set_cons_succ, i64_w, i32_w]; rfl)
              refine take_ (i := 15) (N := some 50) (v := ?_) (a' := ?_) #[true, true, true, true, true, true, true, true, true, true, true, true, true, true, false, true, false, false] rfl rfl (take_ofW HT_.out HW_.out (by kernel_rfl)) (fun _ _ _ h => h) (Or.inl ⟨by rfl, ?_⟩) hHeld ?_ ?_; rotate_left; (rintro w' ⟨s0, s1, s2, s3, s4, s5, s6, s7, s8, s9, s10, s11⟩; go_simp; with_reducible rfl); rotate_left; (simp only [Act.put, List.setIfInBounds_toArray, List.set_cons_zero, List.set_cons_succ, i64_w, i32_w]; rfl)
              refine one_ (i := 14) (N := some 49) #[true, true, true, true, true, true, true, true, true, true, true, true, true, true, true, true, false, false] rfl rfl (one_of HT_.out (by kernel_rfl)) (by decide) (fun K hK => ?_)
              refine goes_ Tryd.func9 (by kernel_rfl) rfl #[.agg #[.int .u64 t256, .int .u64 t257], .agg #[.int .u64 t254, .int .u64 t255]] (by rfl) rfl rfl (by (try simp only [List.map_toArray, List.map_cons, List.map_nil]); first | done | rfl | (simp only [List.length_drop, List.length_take]; rfl)) ?_
              with_reducible refine (impl_WideAdd.calls t256 t257 t254 t255 t270 t271 t272 t273 _ A34.out).mono ?_
              rintro e w37 ⟨rfl, hb⟩
              refine ⟨_, rfl, ?_⟩
              have n0_ := Aside0.mk (blk_below (g := gb258) (o := .cells #[.int .u64 t254, .int .u64 t255] 24 (0, 0)) (by (with_reducible repeat first | apply bn_ | apply bd_ | apply ba_); exact BK258.out) hb)
              have n1_ := Aside0.mk (blk_below (g := gb259) (o := .cells #[.int .u64 t256, .int .u64 t257] 24 (0, 0)) (by (with_reducible repeat first | apply bn_ | apply bd_ | apply ba_); exact BK259.out) hb)
              have n2_ := Aside0.mk (blk_below (g := gb264) (o := .cells #[.int .u64 t260, .int .u64 t261, .bool t262, .int .i64 t263] 26 (0, 0)) (by (with_reducible repeat first | apply bn_ | apply bd_ | apply ba_); exact BK264.out) hb)
              have n3_ := Aside0.mk (blk_below (g := gb269) (o := .cells #[.int .u64 t265, .int .u64 t266, .bool t267, .int .i64 t268] 26 (0, 0)) (by (with_reducible repeat first | apply bn_ | apply bd_ | apply ba_); exact BK269.out) hb)
              have n4_ := Aside0.mk (below_step (by repeat (first | (with_reducible first | exact HB.out | apply below_alloc | apply pw_below_drewN | apply below_drew1 | refine below_set ?_ GE258.out | refine below_set ?_ GE259.out | refine below_set ?_ GE264.out | refine below_set ?_ GE269.out) | exact HB.out)) hb)
              clear BK258
              clear BK259
              clear BK264
              clear BK269
              clear HB
              have BK258 := n0_
              have BK259 := n1_
              have BK264 := n2_
              have BK269 := n3_
              have HB := n4_
              clear n0_ n1_ n2_ n3_ n4_
              (try clear hb)
              (try clear hb2)
              (try clear hk)
              (try clear hi)
              refine hK.out _ _ ⟨(blk_cell BK269.out 0).trans rfl, (blk_cell BK269.out 1).trans rfl, (blk_cell BK269.out 2).trans rfl, (blk_cell BK269.out 3).trans rfl, (blk_cell BK258.out 0).trans rfl, (blk_cell BK258.out 1).trans rfl, (blk_cell BK264.out 0).trans rfl, (blk_cell BK264.out 1).trans rfl, (blk_cell BK264.out 2).trans rfl, (blk_cell BK264.out 3).trans rfl, (blk_cell BK259.out 0).trans rfl, (blk_cell BK259.out 1).trans rfl⟩ (fun hHeld => ?_)
              clear hK K
              refine norm_ (a' := ?_) ?_ ?_
              rotate_left
              · show Act.put _ (some 49) _ = _
                simp only [Act.put, List.setIfInBounds_toArray, List.set_cons_zero, List.set_cons_succ, i64_w, i32_w]
                rfl
              refine pure_ (i := 16) (N := some 51) (v := ?_) (a' := ?_) #[true, true, true, true, true, true, true, true, true, true, true, true, true, true, true, true, true, false] rfl rfl (any_of HT_.out (by kernel_rfl)) (fun _ _ _ h => h) (Or.inl ⟨by rfl, ?_⟩) ?_ ?_; rotate_left; (intro w'; go_simp; with_reducible rfl); rotate_left; (simp only [Act.put, List.setIfInBounds_toArray, List.set_cons_zero, List.set_cons_succ, i64_w, i32_w]; rfl)
              refine pure_ (i := 17) (N := some 52) (v := ?_) (a' := ?_) #[true, true, true, true, true, true, true, true, true, true, true, true, true, true, true, true, true, true] rfl rfl (any_of HT_.out (by kernel_rfl)) (fun _ _ _ h => h) (Or.inl ⟨by rfl, ?_⟩) ?_ ?_; rotate_left; (intro w'; go_simp; with_reducible rfl); rotate_left; (simp only [Act.put, List.setIfInBounds_toArray, List.set_cons_zero, List.set_cons_succ, i64_w, i32_w]; rfl)
              refine done_ (done_of HT_.out (by kernel_rfl)) ?_
              try go_wp2
              go_meet
              case rel => exact ⟨_, (((!(t270 == t260) || (!(t271 == t261))) || (!(t272 == t262) || (!(t273 == t263))))), (by first | rfl | (simp; done) | (simp [*]; done)), H', ⟨by have := HJ2.out; first | omega | exact Nat.le_refl _⟩, ⟨by (with_reducible repeat first | apply bn_ | apply bd_ | apply ba_); exact BK258.out⟩, ⟨by (with_reducible repeat first | apply bn_ | apply bd_ | apply ba_); exact BK259.out⟩, ⟨by (with_reducible repeat first | apply bn_ | apply bd_ | apply ba_); exact BK264.out⟩, ⟨by (with_reducible repeat first | apply bn_ | apply bd_ | apply ba_); exact BK269.out⟩, ⟨by repeat (first | (with_reducible first | exact HB.out | apply below_alloc | apply pw_below_drewN | apply below_drew1 | refine below_set ?_ GE258.out | refine below_set ?_ GE259.out | refine below_set ?_ GE264.out | refine below_set ?_ GE269.out) | exact HB.out)⟩⟩
        case rest =>
          clear HC9
          try clear c1
          try clear c2
          try clear p2
          try clear c3
          try clear c4
          try clear c4b0
          try clear c4b1
          try clear c5
          try clear c8
          try clear c9
          try clear c10
          try clear c13
          try clear c18
          try clear c19
          try clear c24
          try clear c25
          try clear c26
          try clear c28
          try clear c28b0
          try clear c31
          try clear c31b0
          try clear c31b1
          try clear c31b2
          try clear hcz14_0
          try clear hcz14_1
          try clear hcz15_0
          try clear hcz15_1
          try clear hcz20_0
          try clear hcz20_1
          try clear hcz20_2
          try clear hcz20_3
          try clear hcz21_0
          try clear hcz21_1
          try clear hcz27_0
          try clear hcz27_1
          try clear hcz27_2
          try clear hcz27_3
          try clear hfz14_0
          try clear hfz14_1
          try clear hfz15_0
          try clear hfz15_1
          try clear hfz20_0
          try clear hfz20_1
          try clear hfz20_2
          try clear hfz20_3
          try clear hfz21_0
          try clear hfz21_1
          try clear hfz27_0
          try clear hfz27_1
          try clear hfz27_2
          try clear hfz27_3
          try clear p2
          obtain ⟨kq, x52_8, rfl, HA, HJ8, BK258, BK259, BK264, BK269, HB⟩ := hcut
          cases kq with
          | zero => exact absurd HA.out (by simp [laws_FnWide.j1])
          | succ kj8 =>
            have H := HA.out
            clear HA
            simp only [laws_FnWide.j1] at H
            by_cases c38 : x52_8 = true
            · subst c38
              have H1 : (some false) = some r := by rw [if_pos rfl] at H; exact H
              clear H
              have H := H1
              clear H1
              obtain rfl := Option.some.inj H
              go_wp2
              go_ret
              exact ⟨by first | rfl | (simp [errW_none, errW_some] <;> rfl) | (simp [*, errW_none, errW_some] <;> rfl), by repeat (first | (with_reducible first | exact HB.out | apply below_alloc | apply pw_below_drewN | apply below_drew1 | refine below_set ?_ GE258.out | refine below_set ?_ GE259.out | refine below_set ?_ GE264.out | refine below_set ?_ GE269.out) | exact HB.out)⟩
            · replace c38 := Bool.eq_false_iff.mpr c38
              subst c38
              have H1 : ((impl_WideCmp.f kj8 t254 t255 t256 t257).bind fun t274 => ((impl_WideSub.f t254 t255 t256 t257).bind fun bt275 => (if ((decide (t274 < 0)) != bt275.2.2.1) = true then (laws_FnWide.j2 kj8 l1 true) else ((impl_WideCmp.f kj8 t254 t255 t256 t257).bind fun t279 => ((impl_WideCmp.f kj8 t256 t257 t254 t255).bind fun t280 => (laws_FnWide.j2 kj8 l1 (t279 != (wrap64 (-t280))))))))) = some r := by rw [if_neg (show ¬ (false = true) by decide)] at H; exact H
              clear H
              have H := H1
              clear H1
              have HC39 := Aside0.mk H
              clear H
              go_upto_region 8 with (fail)
              go_cut [71] (fun v71 wc => ∃ (kq : Nat) (x71_38 : Bool), v71 = .bool x71_38 ∧ Aside0 (laws_FnWide.j2 kq l1 x71_38 = some r) ∧ Aside0 (kq ≤ kj8) ∧ Aside0 (wc.heap[gb258]? = some (.cells #[.int .u64 t254, .int .u64 t255] 24 (0, 0))) ∧ Aside0 (wc.heap[gb259]? = some (.cells #[.int .u64 t256, .int .u64 t257] 24 (0, 0))) ∧ Aside0 (wc.heap[gb264]? = some (.cells #[.int .u64 t260, .int .u64 t261, .bool t262, .int .i64 t263] 26 (0, 0))) ∧ Aside0 (wc.heap[gb269]? = some (.cells #[.int .u64 t265, .int .u64 t266, .bool t267, .int .i64 t268] 26 (0, 0))) ∧ Aside0 (Below w.heap.size w wc))
              case first =>
                have H := HC39.out
                clear HC39
                replace H := Option.bind_eq_some_iff.mp H
                obtain ⟨t274, A400, H⟩ := H
                replace H : ((impl_WideSub.f t254 t255 t256 t257).bind fun bt275 => (if ((decide (t274 < 0)) != bt275.2.2.1) = true then (laws_FnWide.j2 kj8 l1 true) else ((impl_WideCmp.f kj8 t254 t255 t256 t257).bind fun t279 => ((impl_WideCmp.f kj8 t256 t257 t254 t255).bind fun t280 => (laws_FnWide.j2 kj8 l1 (t279 != (wrap64 (-t280)))))))) = some r := H
                have A40 := Aside0.mk A400
                clear A400
                replace H := Option.bind_eq_some_iff.mp H
                obtain ⟨⟨t275, t276, t277, t278⟩, A410, H⟩ := H
                replace H : (if ((decide (t274 < 0)) != t277) = true then (laws_FnWide.j2 kj8 l1 true) else ((impl_WideCmp.f kj8 t254 t255 t256 t257).bind fun t279 => ((impl_WideCmp.f kj8 t256 t257 t254 t255).bind fun t280 => (laws_FnWide.j2 kj8 l1 (t279 != (wrap64 (-t280))))))) = some r := H
                have A41 := Aside0.mk A410
                clear A410
                by_cases c42 : ((decide (t274 < 0)) != t277) = true
                · rw [if_pos c42] at H
                  have c42b0 : ((decide (t274 < 0)) != t277) = true := c42
                  (try (have c42b1 : decide ((decide (t274 < 0)) = t277) = false := by simpa using c42))
                  (try (have c42b2 : ((decide (t274 < 0)) == t277) = false := by simpa using c42))
                  (try (have c42b3 : ¬ ((decide (t274 < 0)) = t277) := by simpa using c42))
                  clear c42
                  (first | rw [c42b0] | (simp only [i64_w, i32_w]; rw [c42b0]) | skip)
                  have H' := Aside0.mk H
                  clear H
                  try go_wp2
                  have n0_ := Aside0.mk (blk_drew BK258.out)
                  have n1_ := Aside0.mk (blk_drew BK259.out)
                  have n2_ := Aside0.mk (blk_drew BK264.out)
                  have n3_ := Aside0.mk (blk_drew BK269.out)
                  have n4_ := Aside0.mk (below_drew1 HB.out)
                  clear BK258
                  clear BK259
                  clear BK264
                  clear BK269
                  clear HB
                  have BK258 := n0_
                  have BK259 := n1_
                  have BK264 := n2_
                  have BK269 := n3_
                  have HB := n4_
                  clear n0_ n1_ n2_ n3_ n4_
                  refine start_ (n := 19) (S := fun w' => w'.cell? ⟨gb258, 0, none⟩ = some (.int .u64 t254) ∧ w'.cell? ⟨gb258, 1, none⟩ = some (.int .u64 t255) ∧ w'.cell? ⟨gb259, 0, none⟩ = some (.int .u64 t256) ∧ w'.cell? ⟨gb259, 1, none⟩ = some (.int .u64 t257)) (ds := []) #[false, false, false, false, false, false, false, false, false, false, false, false, false, false, false, false, false, false, false] (by kernel_rfl) rfl rfl ⟨(blk_cell BK258.out 0).trans rfl, (blk_cell BK258.out 1).trans rfl, (blk_cell BK259.out 0).trans rfl, (blk_cell BK259.out 1).trans rfl⟩ (fun hHeld => ?_); refine with_tabW laws_FnWide.tab8 laws_FnWide.bits8 (fun HT_ HW_ => ?_)
                  generalize wc.drew = w43 at BK258 BK259 BK264 BK269 HB hHeld ⊢
                  refine take_ (i := 0) (N := some 53) (v := ?_) (a' := ?_) #[true, false, false, false, false, false, false, false, false, false, false, false, false, false, false, false, false, false, false] rfl rfl (take_ofW HT_.out HW_.out (by kernel_rfl)) (fun _ _ _ h => h) (Or.inl ⟨by rfl, ?_⟩) hHeld ?_ ?_; rotate_left; (rintro w' ⟨s0, s1, s2, s3⟩; go_simp; with_reducible rfl); rotate_left; (simp only [Act.put, List.setIfInBounds_toArray, List.set_cons_zero, List.set_cons_succ, i64_w, i32_w]; rfl)
                  refine take_ (i := 1) (N := some 54) (v := ?_) (a' := ?_) #[true, true, false, false, false, false, false, false, false, false, false, false, false, false, false, false, false, false, false] rfl rfl (take_ofW HT_.out HW_.out (by kernel_rfl)) (fun _ _ _ h => h) (Or.inl ⟨by rfl, ?_⟩) hHeld ?_ ?_; rotate_left; (rintro w' ⟨s0, s1, s2, s3⟩; go_simp; with_reducible rfl); rotate_left; (simp only [Act.put, List.setIfInBounds_toArray, List.set_cons_zero, List.set_cons_succ, i64_w, i32_w]; rfl)
                  refine take_ (i := 4) (N := some 57) (v := ?_) (a' := ?_) #[true, true, false, false, true, false, false, false, false, false, false, false, false, false, false, false, false, false, false] rfl rfl (take_ofW HT_.out HW_.out (by kernel_rfl)) (fun _ _ _ h => h) (Or.inl ⟨by rfl, ?_⟩) hHeld ?_ ?_; rotate_left; (rintro w' ⟨s0, s1, s2, s3⟩; go_simp; with_reducible rfl); rotate_left; (simp only [Act.put, List.setIfInBounds_toArray, List.set_cons_zero, List.set_cons_succ, i64_w, i32_w]; rfl)
                  refine take_ (i := 5) (N := some 58) (v := ?_) (a' := ?_) #[true, true, false, false, true, true, false, false, false, false, false, false, false, false, false, false, false, false, false] rfl rfl (take_ofW HT_.out HW_.out (by kernel_rfl)) (fun _ _ _ h => h) (Or.inl ⟨by rfl, ?_⟩) hHeld ?_ ?_; rotate_left; (rintro w' ⟨s0, s1, s2, s3⟩; go_simp; with_reducible rfl); rotate_left; (simp only [Act.put, List.setIfInBounds_toArray, List.set_cons_zero, List.set_cons_succ, i64_w, i32_w]; rfl)
                  refine one_ (i := 2) (N := some 55) #[true, true, true, false, true, true, false, false, false, false, false, false, false, false, false, false, false, false, false] rfl rfl (one_of HT_.out (by kernel_rfl)) (by decide) (fun K hK => ?_)
                  refine goes_ Tryd.func11 (by kernel_rfl) rfl #[.agg #[.int .u64 t254, .int .u64 t255], .agg #[.int .u64 t256, .int .u64 t257]] (by rfl) rfl rfl (by (try simp only [List.map_toArray, List.map_cons, List.map_nil]); first | done | rfl | (simp only [List.length_drop, List.length_take]; rfl)) ?_
                  with_reducible refine (impl_WideCmp.calls kj8 t254 t255 t256 t257 t274 _ A40.out).mono ?_
                  rintro e w44 ⟨rfl, hb⟩
                  refine ⟨_, rfl, ?_⟩
                  have n0_ := Aside0.mk (blk_below (g := gb258) (o := .cells #[.int .u64 t254, .int .u64 t255] 24 (0, 0)) (by (with_reducible repeat first | apply bn_ | apply bd_ | apply ba_); exact BK258.out) hb)
                  have n1_ := Aside0.mk (blk_below (g := gb259) (o := .cells #[.int .u64 t256, .int .u64 t257] 24 (0, 0)) (by (with_reducible repeat first | apply bn_ | apply bd_ | apply ba_); exact BK259.out) hb)
                  have n2_ := Aside0.mk (blk_below (g := gb264) (o := .cells #[.int .u64 t260, .int .u64 t261, .bool t262, .int .i64 t263] 26 (0, 0)) (by (with_reducible repeat first | apply bn_ | apply bd_ | apply ba_); exact BK264.out) hb)
                  have n3_ := Aside0.mk (blk_below (g := gb269) (o := .cells #[.int .u64 t265, .int .u64 t266, .bool t267, .int .i64 t268] 26 (0, 0)) (by (with_reducible repeat first | apply bn_ | apply bd_ | apply ba_); exact BK269.out) hb)
                  have n4_ := Aside0.mk (below_step (by repeat (first | (with_reducible first | exact HB.out | apply below_alloc | apply pw_below_drewN | apply below_drew1 | refine below_set ?_ GE258.out | refine below_set ?_ GE259.out | refine below_set ?_ GE264.out | refine below_set ?_ GE269.out) | exact HB.out)) hb)
                  clear BK258
                  clear BK259
                  clear BK264
                  clear BK269
                  clear HB
                  have BK258 := n0_
                  have BK259 := n1_
                  have BK264 := n2_
                  have BK269 := n3_
                  have HB := n4_
                  clear n0_ n1_ n2_ n3_ n4_
                  (try clear hb)
                  (try clear hb2)
                  (try clear hk)
                  (try clear hi)
                  refine hK.out _ _ ⟨(blk_cell BK258.out 0).trans rfl, (blk_cell BK258.out 1).trans rfl, (blk_cell BK259.out 0).trans rfl, (blk_cell BK259.out 1).trans rfl⟩ (fun hHeld => ?_)
                  clear hK K
                  refine norm_ (a' := ?_) ?_ ?_
                  rotate_left
                  · show Act.put _ (some 55) _ = _
                    simp only [Act.put, List.setIfInBounds_toArray, List.set_cons_zero, List.set_cons_succ, i64_w, i32_w]
                    rfl
                  refine pure_ (i := 3) (N := some 56) (v := ?_) (a' := ?_) #[true, true, true, true, true, true, false, false, false, false, false, false, false, false, false, false, false, false, false] rfl rfl (any_of HT_.out (by kernel_rfl)) (fun _ _ _ h => h) (Or.inl ⟨by rfl, ?_⟩) ?_ ?_; rotate_left; (intro w'; go_simp; with_reducible rfl); rotate_left; (simp only [Act.put, List.setIfInBounds_toArray, List.set_cons_zero, List.set_cons_succ, i64_w, i32_w]; rfl)
                  refine one_ (i := 6) (N := some 59) #[true, true, true, true, true, true, true, false, false, false, false, false, false, false, false, false, false, false, false] rfl rfl (one_of HT_.out (by kernel_rfl)) (by decide) (fun K hK => ?_)
                  refine goes_ Tryd.func10 (by kernel_rfl) rfl #[.agg #[.int .u64 t254, .int .u64 t255], .agg #[.int .u64 t256, .int .u64 t257]] (by rfl) rfl rfl (by (try simp only [List.map_toArray, List.map_cons, List.map_nil]); first | done | rfl | (simp only [List.length_drop, List.length_take]; rfl)) ?_
                  with_reducible refine (impl_WideSub.calls t254 t255 t256 t257 t275 t276 t277 t278 _ A41.out).mono ?_
                  rintro e w45 ⟨rfl, hb⟩
                  refine ⟨_, rfl, ?_⟩
                  have n0_ := Aside0.mk (blk_below (g := gb258) (o := .cells #[.int .u64 t254, .int .u64 t255] 24 (0, 0)) (by (with_reducible repeat first | apply bn_ | apply bd_ | apply ba_); exact BK258.out) hb)
                  have n1_ := Aside0.mk (blk_below (g := gb259) (o := .cells #[.int .u64 t256, .int .u64 t257] 24 (0, 0)) (by (with_reducible repeat first | apply bn_ | apply bd_ | apply ba_); exact BK259.out) hb)
                  have n2_ := Aside0.mk (blk_below (g := gb264) (o := .cells #[.int .u64 t260, .int .u64 t261, .bool t262, .int .i64 t263] 26 (0, 0)) (by (with_reducible repeat first | apply bn_ | apply bd_ | apply ba_); exact BK264.out) hb)
                  have n3_ := Aside0.mk (blk_below (g := gb269) (o := .cells #[.int .u64 t265, .int .u64 t266, .bool t267, .int .i64 t268] 26 (0, 0)) (by (with_reducible repeat first | apply bn_ | apply bd_ | apply ba_); exact BK269.out) hb)
                  have n4_ := Aside0.mk (below_step (by repeat (first | (with_reducible first | exact HB.out | apply below_alloc | apply pw_below_drewN | apply below_drew1 | refine below_set ?_ GE258.out | refine below_set ?_ GE259.out | refine below_set ?_ GE264.out | refine below_set ?_ GE269.out) | exact HB.out)) hb)
                  clear BK258
                  clear BK259
                  clear BK264
                  clear BK269
                  clear HB
                  have BK258 := n0_
                  have BK259 := n1_
                  have BK264 := n2_
                  have BK269 := n3_
                  have HB := n4_
                  clear n0_ n1_ n2_ n3_ n4_
                  (try clear hb)
                  (try clear hb2)
                  (try clear hk)
                  (try clear hi)
                  refine hK.out _ _ ⟨(blk_cell BK258.out 0).trans rfl, (blk_cell BK258.out 1).trans rfl, (blk_cell BK259.out 0).trans rfl, (blk_cell BK259.out 1).trans rfl⟩ (fun hHeld => ?_)
                  clear hK K
                  refine norm_ (a' := ?_) ?_ ?_
                  rotate_left
                  · show Act.put _ (some 59) _ = _
                    simp only [Act.put, List.setIfInBounds_toArray, List.set_cons_zero, List.set_cons_succ, i64_w, i32_w]
                    rfl
                  refine pure_ (i := 7) (N := some 60) (v := ?_) (a' := ?_) #[true, true, true, true, true, true, true, true, false, false, false, false, false, false, false, false, false, false, false] rfl rfl (any_of HT_.out (by kernel_rfl)) (fun _ _ _ h => h) (Or.inl ⟨by rfl, ?_⟩) ?_ ?_; rotate_left; (intro w'; go_simp; with_reducible rfl); rotate_left; (simp only [Act.put, List.setIfInBounds_toArray, List.set_cons_zero, List.set_cons_succ, i64_w, i32_w]; rfl)
                  refine pure_ (i := 8) (N := some 61) (v := ?_) (a' := ?_) #[true, true, true, true, true, true, true, true, true, false, false, false, false, false, false, false, false, false, false] rfl rfl (any_of HT_.out (by kernel_rfl)) (fun _ _ _ h => h) (Or.inl ⟨by rfl, ?_⟩) ?_ ?_; rotate_left; (intro w'; go_simp; with_reducible rfl); rotate_left; (simp only [Act.put, List.setIfInBounds_toArray, List.set_cons_zero, List.set_cons_succ, i64_w, i32_w]; rfl)
                  refine pure_ (i := 9) (N := some 62) (v := ?_) (a' := ?_) #[true, true, true, true, true, true, true, true, true, true, false, false, false, false, false, false, false, false, false] rfl rfl (any_of HT_.out (by kernel_rfl)) (fun _ _ _ h => h) (Or.inl ⟨by rfl, ?_⟩) ?_ ?_; rotate_left; (intro w'; go_simp; with_reducible rfl); rotate_left; (simp only [Act.put, List.setIfInBounds_toArray, List.set_cons_zero, List.set_cons_succ, i64_w, i32_w]; rfl)
                  refine pure_ (i := 10) (N := some 63) (v := undef) (a' := ?_) #[true, true, true, true, true, true, true, true, true, true, true, false, false, false, false, false, false, false, false] rfl rfl (any_of HT_.out (by kernel_rfl)) (fun _ _ _ h => h) (Or.inr ⟨by rfl, rfl⟩) ?_ ?_
                  rotate_left
                  · simp only [Act.put, List.setIfInBounds_toArray, List.set_cons_zero, List.set_cons_succ, i64_w, i32_w]
                    rfl
                  refine pure_ (i := 11) (N := some 64) (v := undef) (a' := ?_) #[true, true, true, true, true, true, true, true, true, true, true, true, false, false, false, false, false, false, false] rfl rfl (any_of HT_.out (by kernel_rfl)) (fun _ _ _ h => h) (Or.inr ⟨by rfl, rfl⟩) ?_ ?_
                  rotate_left
                  · simp only [Act.put, List.setIfInBounds_toArray, List.set_cons_zero, List.set_cons_succ, i64_w, i32_w]
                    rfl
                  refine pure_ (i := 12) (N := some 65) (v := undef) (a' := ?_) #[true, true, true, true, true, true, true, true, true, true, true, true, true, false, false, false, false, false, false] rfl rfl (any_of HT_.out (by kernel_rfl)) (fun _ _ _ h => h) (Or.inr ⟨by rfl, rfl⟩) ?_ ?_
                  rotate_left
                  · simp only [Act.put, List.setIfInBounds_toArray, List.set_cons_zero, List.set_cons_succ, i64_w, i32_w]
                    rfl
                  refine pure_ (i := 13) (N := some 66) (v := undef) (a' := ?_) #[true, true, true, true, true, true, true, true, true, true, true, true, true, true, false, false, false, false, false] rfl rfl (any_of HT_.out (by kernel_rfl)) (fun _ _ _ h => h) (Or.inr ⟨by rfl, rfl⟩) ?_ ?_
                  rotate_left
                  · simp only [Act.put, List.setIfInBounds_toArray, List.set_cons_zero, List.set_cons_succ, i64_w, i32_w]
                    rfl
                  refine pure_ (i := 14) (N := some 67) (v := undef) (a' := ?_) #[true, true, true, true, true, true, true, true, true, true, true, true, true, true, true, false, false, false, false] rfl rfl (any_of HT_.out (by kernel_rfl)) (fun _ _ _ h => h) (Or.inr ⟨by rfl, rfl⟩) ?_ ?_
                  rotate_left
                  · simp only [Act.put, List.setIfInBounds_toArray, List.set_cons_zero, List.set_cons_succ, i64_w, i32_w]
                    rfl
                  refine pure_ (i := 15) (N := some 68) (v := undef) (a' := ?_) #[true, true, true, true, true, true, true, true, true, true, true, true, true, true, true, true, false, false, false] rfl rfl (any_of HT_.out (by kernel_rfl)) (fun _ _ _ h => h) (Or.inr ⟨by rfl, rfl⟩) ?_ ?_
                  rotate_left
                  · simp only [Act.put, List.setIfInBounds_toArray, List.set_cons_zero, List.set_cons_succ, i64_w, i32_w]
                    rfl
                  refine pure_ (i := 16) (N := some 69) (v := undef) (a' := ?_) #[true, true, true, true, true, true, true, true, true, true, true, true, true, true, true, true, true, false, false] rfl rfl (any_of HT_.out (by kernel_rfl)) (fun _ _ _ h => h) (Or.inr ⟨by rfl, rfl⟩) ?_ ?_
                  rotate_left
                  · simp only [Act.put, List.setIfInBounds_toArray, List.set_cons_zero, List.set_cons_succ, i64_w, i32_w]
                    rfl
                  refine pure_ (i := 17) (N := some 70) (v := undef) (a' := ?_) #[true, true, true, true, true, true, true, true, true, true, true, true, true, true, true, true, true, true, false] rfl rfl (any_of HT_.out (by kernel_rfl)) (fun _ _ _ h => h) (Or.inr ⟨by rfl, rfl⟩) ?_ ?_
                  rotate_left
                  · simp only [Act.put, List.setIfInBounds_toArray, List.set_cons_zero, List.set_cons_succ, i64_w, i32_w]
                    rfl
                  refine pure_ (i := 18) (N := some 71) (v := ?_) (a' := ?_) #[true, true, true, true, true, true, true, true, true, true, true, true, true, true, true, true, true, true, true] rfl rfl (any_of HT_.out (by kernel_rfl)) (fun _ _ _ h => h) (Or.inl ⟨by rfl, ?_⟩) ?_ ?_; rotate_left; (intro w'; go_simp; with_reducible rfl); rotate_left; (simp only [Act.put, List.setIfInBounds_toArray, List.set_cons_zero, List.set_cons_succ, i64_w, i32_w]; rfl)
                  refine done_ (done_of HT_.out (by kernel_rfl)) ?_
                  try go_wp2
                  go_meet
                  case rel => exact ⟨_, (true), (by first | rfl | (simp; done) | (simp [*]; done)), H', ⟨by have := HJ2.out; have := HJ8.out; first | omega | exact Nat.le_refl _⟩, ⟨by (with_reducible repeat first | apply bn_ | apply bd_ | apply ba_); exact BK258.out⟩, ⟨by (with_reducible repeat first | apply bn_ | apply bd_ | apply ba_); exact BK259.out⟩, ⟨by (with_reducible repeat first | apply bn_ | apply bd_ | apply ba_); exact BK264.out⟩, ⟨by (with_reducible repeat first | apply bn_ | apply bd_ | apply ba_); exact BK269.out⟩, ⟨by repeat (first | (with_reducible first | exact HB.out | apply below_alloc | apply pw_below_drewN | apply below_drew1 | refine below_set ?_ GE258.out | refine below_set ?_ GE259.out | refine below_set ?_ GE264.out | refine below_set ?_ GE269.out) | exact HB.out)⟩⟩
                · rw [if_neg c42] at H
                  have c42b0 : ((decide (t274 < 0)) != t277) = false := by simpa using c42
                  (try (have c42b1 : decide ((decide (t274 < 0)) = t277) = true := by simpa using c42))
                  (try (have c42b2 : ((decide (t274 < 0)) == t277) = true := by simpa using c42))
                  clear c42
                  (first | rw [c42b0] | (simp only [i64_w, i32_w]; rw [c42b0]) | skip)
                  replace H := Option.bind_eq_some_iff.mp H
                  obtain ⟨t279, A460, H⟩ := H
                  replace H : ((impl_WideCmp.f kj8 t256 t257 t254 t255).bind fun t280 => (laws_FnWide.j2 kj8 l1 (t279 != (wrap64 (-t280))))) = some r := H
                  have A46 := Aside0.mk A460
                  clear A460
                  replace H := Option.bind_eq_some_iff.mp H
                  obtain ⟨t280, A470, H⟩ := H
                  replace H : (laws_FnWide.j2 kj8 l1 (t279 != (wrap64 (-t280)))) = some r := H
                  have A47 := Aside0.mk A470
                  clear A470
                  have H' := Aside0.mk H
                  clear H
                  try go_wp2
                  have n0_ := Aside0.mk (blk_drew BK258.out)
                  have n1_ := Aside0.mk (blk_drew BK259.out)
                  have n2_ := Aside0.mk (blk_drew BK264.out)
                  have n3_ := Aside0.mk (blk_drew BK269.out)
                  have n4_ := Aside0.mk (below_drew1 HB.out)
                  clear BK258
                  clear BK259
                  clear BK264
                  clear BK269
                  clear HB
                  have BK258 := n0_
                  have BK259 := n1_
                  have BK264 := n2_
                  have BK269 := n3_
                  have HB := n4_
                  clear n0_ n1_ n2_ n3_ n4_
                  refine start_ (n := 19) (S := fun w' => w'.cell? ⟨gb258, 0, none⟩ = some (.int .u64 t254) ∧ w'.cell? ⟨gb258, 1, none⟩ = some (.int .u64 t255) ∧ w'.cell? ⟨gb259, 0, none⟩ = some (.int .u64 t256) ∧ w'.cell? ⟨gb259, 1, none⟩ = some (.int .u64 t257)) (ds := []) #[false, false, false, false, false, false, false, false, false, false, false, false, false, false, false, false, false, false, false] (by kernel_rfl) rfl rfl ⟨(blk_cell BK258.out 0).trans rfl, (blk_cell BK258.out 1).trans rfl, (blk_cell BK259.out 0).trans rfl, (blk_cell BK259.out 1).trans rfl⟩ (fun hHeld => ?_); refine with_tabW laws_FnWide.tab8 laws_FnWide.bits8 (fun HT_ HW_ => ?_)
                  generalize wc.drew = w48 at BK258 BK259 BK264 BK269 HB hHeld ⊢
                  refine take_ (i := 0) (N := some 53) (v := ?_) (a' := ?_) #[true, false, false, false, false, false, false, false, false, false, false, false, false, false, false, false, false, false, false] rfl rfl (take_ofW HT_.out HW_.out (by kernel_rfl)) (fun _ _ _ h => h) (Or.inl ⟨by rfl, ?_⟩) hHeld ?_ ?_; rotate_left; (rintro w' ⟨s0, s1, s2, s3⟩; go_simp; with_reducible rfl); rotate_left; (simp only [Act.put, List.setIfInBounds_toArray, List.set_cons_zero, List.set_cons_succ, i64_w, i32_w]; rfl)
                  refine take_ (i := 1) (N := some 54) (v := ?_) (a' := ?_) #[true, true, false, false, false, false, false, false, false, false, false, false, false, false, false, false, false, false, false] rfl rfl (take_ofW HT_.out HW_.out (by kernel_rfl)) (fun _ _ _ h => h) (Or.inl ⟨by rfl, ?_⟩) hHeld ?_ ?_; rotate_left; (rintro w' ⟨s0, s1, s2, s3⟩; go_simp; with_reducible rfl); rotate_left; (simp only [Act.put, List.setIfInBounds_toArray, List.set_cons_zero, List.set_cons_succ, i64_w, i32_w]; rfl)
                  refine take_ (i := 4) (N := some 57) (v := ?_) (a' := ?_) #[true, true, false, false, true, false, false, false, false, false, false, false, false, false, false, false, false, false, false] rfl rfl (take_ofW HT_.out HW_.out (by kernel_rfl)) (fun _ _ _ h => h) (Or.inl ⟨by rfl, ?_⟩) hHeld ?_ ?_; rotate_left; (rintro w' ⟨s0, s1, s2, s3⟩; go_simp; with_reducible rfl); rotate_left; (simp only [Act.put, List.setIfInBounds_toArray, List.set_cons_zero, List.set_cons_succ, i64_w, i32_w]; rfl)
                  refine take_ (i := 5) (N := some 58) (v := ?_) (a' := ?_) #[true, true, false, false, true, true, false, false, false, false, false, false, false, false, false, false, false, false, false] rfl rfl (take_ofW HT_.out HW_.out (by kernel_rfl)) (fun _ _ _ h => h) (Or.inl ⟨by rfl, ?_⟩) hHeld ?_ ?_; rotate_left; (rintro w' ⟨s0, s1, s2, s3⟩; go_simp; with_reducible rfl); rotate_left; (simp only [Act.put, List.setIfInBounds_toArray, List.set_cons_zero, List.set_cons_succ, i64_w, i32_w]; rfl)
                  refine one_ (i := 2) (N := some 55) #[true, true, true, false, true, true, false, false, false, false, false, false, false, false, false, false, false, false, false] rfl rfl (one_of HT_.out (by kernel_rfl)) (by decide) (fun K hK => ?_)
                  refine goes_ Tryd.func11 (by kernel_rfl) rfl #[.agg #[.int .u64 t254, .int .u64 t255], .agg #[.int .u64 t256, .int .u64 t257]] (by rfl) rfl rfl (by (try simp only [List.map_toArray, List.map_cons, List.map_nil]); first | done | rfl | (simp only [List.length_drop, List.length_take]; rfl)) ?_
                  with_reducible refine (impl_WideCmp.calls kj8 t254 t255 t256 t257 t274 _ A40.out).mono ?_
                  rintro e w49 ⟨rfl, hb⟩
                  refine ⟨_, rfl, ?_⟩
                  have n0_ := Aside0.mk (blk_below (g := gb258) (o := .cells #[.int .u64 t254, .int .u64 t255] 24 (0, 0)) (by (with_reducible repeat first | apply bn_ | apply bd_ | apply ba_); exact BK258.out) hb)
                  have n1_ := Aside0.mk (blk_below (g := gb259) (o := .cells #[.int .u64 t256, .int .u64 t257] 24 (0, 0)) (by (with_reducible repeat first | apply bn_ | apply bd_ | apply ba_); exact BK259.out) hb)
                  have n2_ := Aside0.mk (blk_below (g := gb264) (o := .cells #[.int .u64 t260, .int .u64 t261, .bool t262, .int .i64 t263] 26 (0, 0)) (by (with_reducible repeat first | apply bn_ | apply bd_ | apply ba_); exact BK264.out) hb)
                  have n3_ := Aside0.mk (blk_below (g := gb269) (o := .cells #[.int .u64 t265, .int .u64 t266, .bool t267, .int .i64 t268] 26 (0, 0)) (by (with_reducible repeat first | apply bn_ | apply bd_ | apply ba_); exact BK269.out) hb)
                  have n4_ := Aside0.mk (below_step (by repeat (first | (with_reducible first | exact HB.out | apply below_alloc | apply pw_below_drewN | apply below_drew1 | refine below_set ?_ GE258.out | refine below_set ?_ GE259.out | refine below_set ?_ GE264.out | refine below_set ?_ GE269.out) | exact HB.out)) hb)
                  clear BK258
                  clear BK259
                  clear BK264
                  clear BK269
                  clear HB
                  have BK258 := n0_
                  have BK259 := n1_
                  have BK264 := n2_
                  have BK269 := n3_
                  have HB := n4_
                  clear n0_ n1_ n2_ n3_ n4_
                  (try clear hb)
                  (try clear hb2)
                  (try clear hk)
                  (try clear hi)
                  refine hK.out _ _ ⟨(blk_cell BK258.out 0).trans rfl, (blk_cell BK258.out 1).trans rfl, (blk_cell BK259.out 0).trans rfl, (blk_cell BK259.out 1).trans rfl⟩ (fun hHeld => ?_)
                  clear hK K
                  refine norm_ (a' := ?_) ?_ ?_
                  rotate_left
                  · show Act.put _ (some 55) _ = _
                    simp only [Act.put, List.setIfInBounds_toArray, List.set_cons_zero, List.set_cons_succ, i64_w, i32_w]
                    rfl
                  refine pure_ (i := 3) (N := some 56) (v := ?_) (a' := ?_) #[true, true, true, true, true, true, false, false, false, false, false, false, false, false, false, false, false, false, false] rfl rfl (any_of HT_.out (by kernel_rfl)) (fun _ _ _ h => h) (Or.inl ⟨by rfl, ?_⟩) ?_ ?_; rotate_left; (intro w'; go_simp; with_reducible rfl); rotate_left; (simp only [Act.put, List.setIfInBounds_toArray, List.set_cons_zero, List.set_cons_succ, i64_w, i32_w]; rfl)
                  refine one_ (i := 6) (N := some 59) #[true, true, true, true, true, true, true, false, false, false, false, false, false, false, false, false, false, false, false] rfl rfl (one_of HT_.out (by kernel_rfl)) (by decide) (fun K hK => ?_)
                  refine goes_ Tryd.func10 (by kernel_rfl) rfl #[.agg #[.int .u64 t254, .int .u64 t255], .agg #[.int .u64 t256, .int .u64 t257]] (by rfl) rfl rfl (by (try simp only [List.map_toArray, List.map_cons, List.map_nil]); first | done | rfl | (simp only [List.length_drop, List.length_take]; rfl)) ?_
                  with_reducible refine (impl_WideSub.calls t254 t255 t256 t257 t275 t276 t277 t278 _ A41.out).mono ?_
                  rintro e w50 ⟨rfl, hb⟩
                  refine ⟨_, rfl, ?_⟩
                  have n0_ := Aside0.mk (blk_below (g := gb258) (o := .cells #[.int .u64 t254, .int .u64 t255] 24 (0, 0)) (by (with_reducible repeat first | apply bn_ | apply bd_ | apply ba_); exact BK258.out) hb)
                  have n1_ := Aside0.mk (blk_below (g := gb259) (o := .cells #[.int .u64 t256, .int .u64 t257] 24 (0, 0)) (by (with_reducible repeat first | apply bn_ | apply bd_ | apply ba_); exact BK259.out) hb)
                  have n2_ := Aside0.mk (blk_below (g := gb264) (o := .cells #[.int .u64 t260, .int .u64 t261, .bool t262, .int .i64 t263] 26 (0, 0)) (by (with_reducible repeat first | apply bn_ | apply bd_ | apply ba_); exact BK264.out) hb)
                  have n3_ := Aside0.mk (blk_below (g := gb269) (o := .cells #[.int .u64 t265, .int .u64 t266, .bool t267, .int .i64 t268] 26 (0, 0)) (by (with_reducible repeat first | apply bn_ | apply bd_ | apply ba_); exact BK269.out) hb)
                  have n4_ := Aside0.mk (below_step (by repeat (first | (with_reducible first | exact HB.out | apply below_alloc | apply pw_below_drewN | apply below_drew1 | refine below_set ?_ GE258.out | refine below_set ?_ GE259.out | refine below_set ?_ GE264.out | refine below_set ?_ GE269.out) | exact HB.out)) hb)
                  clear BK258
                  clear BK259
                  clear BK264
                  clear BK269
                  clear HB
                  have BK258 := n0_
                  have BK259 := n1_
                  have BK264 := n2_
                  have BK269 := n3_
                  have HB := n4_
                  clear n0_ n1_ n2_ n3_ n4_
                  (try clear hb)
                  (try clear hb2)
                  (try clear hk)
                  (try clear hi)
                  refine hK.out _ _ ⟨(blk_cell BK258.out 0).trans rfl, (blk_cell BK258.out 1).trans rfl, (blk_cell BK259.out 0).trans rfl, (blk_cell BK259.out 1).trans rfl⟩ (fun hHeld => ?_)
                  clear hK K
                  refine norm_ (a' := ?_) ?_ ?_
                  rotate_left
                  · show Act.put _ (some 59) _ = _
                    simp only [Act.put, List.setIfInBounds_toArray, List.set_cons_zero, List.set_cons_succ, i64_w, i32_w]
                    rfl
                  refine pure_ (i := 7) (N := some 60) (v := ?_) (a' := ?_) #[true, true, true, true, true, true, true, true, false, false, false, false, false, false, false, false, false, false, false] rfl rfl (any_of HT_.out (by kernel_rfl)) (fun _ _ _ h => h) (Or.inl ⟨by rfl, ?_⟩) ?_ ?_; rotate_left; (intro w'; go_simp; with_reducible rfl); rotate_left; (simp only [Act.put, List.setIfInBounds_toArray, List.set_cons_zero, List.set_cons_succ, i64_w, i32_w]; rfl)
                  refine pure_ (i := 8) (N := some 61) (v := ?_) (a' := ?_) #[true, true, true, true, true, true, true, true, true, false, false, false, false, false, false, false, false, false, false] rfl rfl (any_of HT_.out (by kernel_rfl)) (fun _ _ _ h => h) (Or.inl ⟨by rfl, ?_⟩) ?_ ?_; rotate_left; (intro w'; go_simp; with_reducible rfl); rotate_left; (simp only [Act.put, List.setIfInBounds_toArray, List.set_cons_zero, List.set_cons_succ, i64_w, i32_w]; rfl)
                  refine pure_ (i := 9) (N := some 62) (v := ?_) (a' := ?_) #[true, true, true, true, true, true, true, true, true, true, false, false, false, false, false, false, false, false, false] rfl rfl (any_of HT_.out (by kernel_rfl)) (fun _ _ _ h => h) (Or.inl ⟨by rfl, ?_⟩) ?_ ?_; rotate_left; (intro w'; go_simp; with_reducible rfl); rotate_left; (simp only [Act.put, List.setIfInBounds_toArray, List.set_cons_zero, List.set_cons_succ, i64_w, i32_w]; rfl)
                  refine take_ (i := 10) (N := some 63) (v := ?_) (a' := ?_) #[true, true, true, true, true, true, true, true, true, true, true, false, false, false, false, false, false, false, false] rfl rfl (take_ofW HT_.out HW_.out (by kernel_rfl)) (fun _ _ _ h => h) (Or.inl ⟨by rfl, ?_⟩) hHeld ?_ ?_; rotate_left; (rintro w' ⟨s0, s1, s2, s3⟩; go_simp; with_reducible rfl); rotate_left; (simp only [Act.put, List.setIfInBounds_toArray, List.set_cons_zero, List.set_cons_succ, i64_w, i32_w]; rfl)
                  refine take_ (i := 11) (N := some 64) (v := ?_) (a' := ?_) #[true, true, true, true, true, true, true, true, true, true, true, true, false, false, false, false, false, false, false] rfl rfl (take_ofW HT_.out HW_.out (by kernel_rfl)) (fun _ _ _ h => h) (Or.inl ⟨by rfl, ?_⟩) hHeld ?_ ?_; rotate_left; (rintro w' ⟨s0, s1, s2, s3⟩; go_simp; with_reducible rfl); rotate_left; (simp only [Act.put, List.setIfInBounds_toArray, List.set_cons_zero, List.set_cons_succ, i64_w, i32_w]; rfl)
                  refine take_ (i := 13) (N := some 66) (v := ?_) (a' := ?_) #[true, true, true, true, true, true, true, true, true, true, true, true, false, true, false, false, false, false, false] rfl rfl (take_ofW HT_.out HW_.out (by kernel_rfl)) (fun _ _ _ h => h) (Or.inl ⟨by rfl, ?_⟩) hHeld ?_ ?_; rotate_left; (rintro w' ⟨s0, s1, s2, s3⟩; go_simp; with_reducible rfl); rotate_left; (simp only [Act.put, List.setIfInBounds_toArray, List.set_cons_zero, List.set_cons_succ, i64_w, i32_w]; rfl)
                  refine take_ (i := 14) (N := some 67) (v := ?_) (a' := ?_) #[true, true, true, true, true, true, true, true, true, true, true, true, false, true, true, false, false, false, false] rfl rfl (take_ofW HT_.out HW_.out (by kernel_rfl)) (fun _ _ _ h => h) (Or.inl ⟨by rfl, ?_⟩) hHeld ?_ ?_; rotate_left; (rintro w' ⟨s0, s1, s2, s3⟩; go_simp; with_reducible rfl); rotate_left; (simp only [Act.put, List.setIfInBounds_toArray, List.set_cons_zero, List.set_cons_succ, i64_w, i32_w]; rfl)
                  refine one_ (i := 12) (N := some 65) #[true, true, true, true, true, true, true, true, true, true, true, true, true, true, true, false, false, false, false] rfl rfl (one_of HT_.out (by kernel_rfl)) (by decide) (fun K hK => ?_)
                  refine goes_ Tryd.func11 (by kernel_rfl) rfl #[.agg #[.int .u64 t254, .int .u64 t255], .agg #[.int .u64 t256, .int .u64 t257]] (by rfl) rfl rfl (by (try simp only [List.map_toArray, List.map_cons, List.map_nil]); first | done | rfl | (simp only [List.length_drop, List.length_take]; rfl)) ?_
                  with_reducible refine (impl_WideCmp.calls kj8 t254 t255 t256 t257 t279 _ A46.out).mono ?_
                  rintro e w51 ⟨rfl, hb⟩
                  refine ⟨_, rfl, ?_⟩
                  have n0_ := Aside0.mk (blk_below (g := gb258) (o := .cells #[.int .u64 t254, .int .u64 t255] 24 (0, 0)) (by (with_reducible repeat first | apply bn_ | apply bd_ | apply ba_); exact BK258.out) hb)
                  have n1_ := Aside0.mk (blk_below (g := gb259) (o := .cells #[.int .u64 t256, .int .u64 t257] 24 (0, 0)) (by (with_reducible repeat first | apply bn_ | apply bd_ | apply ba_); exact BK259.out) hb)
                  have n2_ := Aside0.mk (blk_below (g := gb264) (o := .cells #[.int .u64 t260, .int .u64 t261, .bool t262, .int .i64 t263] 26 (0, 0)) (by (with_reducible repeat first | apply bn_ | apply bd_ | apply ba_); exact BK264.out) hb)
                  have n3_ := Aside0.mk (blk_below (g := gb269) (o := .cells #[.int .u64 t265, .int .u64 t266, .bool t267, .int .i64 t268] 26 (0, 0)) (by (with_reducible repeat first | apply bn_ | apply bd_ | apply ba_); exact BK269.out) hb)
                  have n4_ := Aside0.mk (below_step (by repeat (first | (with_reducible first | exact HB.out | apply below_alloc | apply pw_below_drewN | apply below_drew1 | refine below_set ?_ GE258.out | refine below_set ?_ GE259.out | refine below_set ?_ GE264.out | refine below_set ?_ GE269.out) | exact HB.out)) hb)
                  clear BK258
                  clear BK259
                  clear BK264
                  clear BK269
                  clear HB
                  have BK258 := n0_
                  have BK259 := n1_
                  have BK264 := n2_
                  have BK269 := n3_
                  have HB := n4_
                  clear n0_ n1_ n2_ n3_ n4_
                  (try clear hb)
                  (try clear hb2)
                  (try clear hk)
                  (try clear hi)
                  refine hK.out _ _ ⟨(blk_cell BK258.out 0).trans rfl, (blk_cell BK258.out 1).trans rfl, (blk_cell BK259.out 0).trans rfl, (blk_cell BK259.out 1).trans rfl⟩ (fun hHeld => ?_)
                  clear hK K
                  refine norm_ (a' := ?_) ?_ ?_
                  rotate_left
                  · show Act.put _ (some 65) _ = _
                    simp only [Act.put, List.setIfInBounds_toArray, List.set_cons_zero, List.set_cons_succ, i64_w, i32_w]
                    rfl
                  refine one_ (i := 15) (N := some 68) #[true, true, true, true, true, true, true, true, true, true, true, true, true, true, true, true, false, false, false] rfl rfl (one_of HT_.out (by kernel_rfl)) (by decide) (fun K hK => ?_)
                  refine goes_ Tryd.func11 (by kernel_rfl) rfl #[.agg #[.int .u64 t256, .int .u64 t257], .agg #[.int .u64 t254, .int .u64 t255]] (by rfl) rfl rfl (by (try simp only [List.map_toArray, List.map_cons, List.map_nil]); first | done | rfl | (simp only [List.length_drop, List.length_take]; rfl)) ?_
                  with_reducible refine (impl_WideCmp.calls kj8 t256 t257 t254 t255 t280 _ A47.out).mono ?_
                  rintro e w52 ⟨rfl, hb⟩
                  refine ⟨_, rfl, ?_⟩
                  have n0_ := Aside0.mk (blk_below (g := gb258) (o := .cells #[.int .u64 t254, .int .u64 t255] 24 (0, 0)) (by (with_reducible repeat first | apply bn_ | apply bd_ | apply ba_); exact BK258.out) hb)
                  have n1_ := Aside0.mk (blk_below (g := gb259) (o := .cells #[.int .u64 t256, .int .u64 t257] 24 (0, 0)) (by (with_reducible repeat first | apply bn_ | apply bd_ | apply ba_); exact BK259.out) hb)
                  have n2_ := Aside0.mk (blk_below (g := gb264) (o := .cells #[.int .u64 t260, .int .u64 t261, .bool t262, .int .i64 t263] 26 (0, 0)) (by (with_reducible repeat first | apply bn_ | apply bd_ | apply ba_); exact BK264.out) hb)
                  have n3_ := Aside0.mk (blk_below (g := gb269) (o := .cells #[.int .u64 t265, .int .u64 t266, .bool t267, .int .i64 t268] 26 (0, 0)) (by (with_reducible repeat first | apply bn_ | apply bd_ | apply ba_); exact BK269.out) hb)
                  have n4_ := Aside0.mk (below_step (by repeat (first | (with_reducible first | exact HB.out | apply below_alloc | apply pw_below_drewN | apply below_drew1 | refine below_set ?_ GE258.out | refine below_set ?_ GE259.out | refine below_set ?_ GE264.out | refine below_set ?_ GE269.out) | exact HB.out)) hb)
                  clear BK258
                  clear BK259
                  clear BK264
                  clear BK269
                  clear HB
                  have BK258 := n0_
                  have BK259 := n1_
                  have BK264 := n2_
                  have BK269 := n3_
                  have HB := n4_
                  clear n0_ n1_ n2_ n3_ n4_
                  (try clear hb)
                  (try clear hb2)
                  (try clear hk)
                  (try clear hi)
                  refine hK.out _ _ ⟨(blk_cell BK258.out 0).trans rfl, (blk_cell BK258.out 1).trans rfl, (blk_cell BK259.out 0).trans rfl, (blk_cell BK259.out 1).trans rfl⟩ (fun hHeld => ?_)
                  clear hK K
                  refine norm_ (a' := ?_) ?_ ?_
                  rotate_left
                  · show Act.put _ (some 68) _ = _
                    simp only [Act.put, List.setIfInBounds_toArray, List.set_cons_zero, List.set_cons_succ, i64_w, i32_w]
                    rfl
                  refine pure_ (i := 16) (N := some 69) (v := ?_) (a' := ?_) #[true, true, true, true, true, true, true, true, true, true, true, true, true, true, true, true, true, false, false] rfl rfl (any_of HT_.out (by kernel_rfl)) (fun _ _ _ h => h) (Or.inl ⟨by rfl, ?_⟩) ?_ ?_; rotate_left; (intro w'; go_simp; with_reducible rfl); rotate_left; (simp only [Act.put, List.setIfInBounds_toArray, List.set_cons_zero, List.set_cons_succ, i64_w, i32_w]; rfl)
                  refine pure_ (i := 17) (N := some 70) (v := ?_) (a' := ?_) #[true, true, true, true, true, true, true, true, true, true, true, true, true, true, true, true, true, true, false] rfl rfl (any_of HT_.out (by kernel_rfl)) (fun _ _ _ h => h) (Or.inl ⟨by rfl, ?_⟩) ?_ ?_; rotate_left; (intro w'; go_simp; with_reducible rfl); rotate_left; (simp only [Act.put, List.setIfInBounds_toArray, List.set_cons_zero, List.set_cons_succ, i64_w, i32_w]; rfl)
                  refine pure_ (i := 18) (N := some 71) (v := ?_) (a' := ?_) #[true, true, true, true, true, true, true, true, true, true, true, true, true, true, true, true, true, true, true] rfl rfl (any_of HT_.out (by kernel_rfl)) (fun _ _ _ h => h) (Or.inl ⟨by rfl, ?_⟩) ?_ ?_; rotate_left; (intro w'; go_simp; with_reducible rfl); rotate_left; (simp only [Act.put, List.setIfInBounds_toArray, List.set_cons_zero, List.set_cons_succ, i64_w, i32_w]; rfl)
                  refine done_ (done_of HT_.out (by kernel_rfl)) ?_
                  try go_wp2
                  go_meet
                  case rel => exact ⟨_, ((t279 != (wrap64 (-t280)))), (by first | rfl | (simp; done) | (simp [*]; done)), H', ⟨by have := HJ2.out; have := HJ8.out; first | omega | exact Nat.le_refl _⟩, ⟨by (with_reducible repeat first | apply bn_ | apply bd_ | apply ba_); exact BK258.out⟩, ⟨by (with_reducible repeat first | apply bn_ | apply bd_ | apply ba_); exact BK259.out⟩, ⟨by (with_reducible repeat first | apply bn_ | apply bd_ | apply ba_); exact BK264.out⟩, ⟨by (with_reducible repeat first | apply bn_ | apply bd_ | apply ba_); exact BK269.out⟩, ⟨by repeat (first | (with_reducible first | exact HB.out | apply below_alloc | apply pw_below_drewN | apply below_drew1 | refine below_set ?_ GE258.out | refine below_set ?_ GE259.out | refine below_set ?_ GE264.out | refine below_set ?_ GE269.out) | exact HB.out)⟩⟩
              case rest =>
                clear HC39
                try clear c1
                try clear c2
                try clear p2
                try clear c3
                try clear c4
                try clear c4b0
                try clear c4b1
                try clear c5
                try clear p6
                try clear c8
                try clear c9
                try clear c10
                try clear c11
                try clear c13
                try clear c18
                try clear c19
                try clear c24
                try clear c25
                try clear c26
                try clear c28
                try clear c28b0
                try clear c31
                try clear c31b0
                try clear c31b1
                try clear c31b2
                try clear c38
                try clear c42
                try clear c42b0
                try clear c42b1
                try clear c42b2
                try clear hcz14_0
                try clear hcz14_1
                try clear hcz15_0
                try clear hcz15_1
                try clear hcz20_0
                try clear hcz20_1
                try clear hcz20_2
                try clear hcz20_3
                try clear hcz21_0
                try clear hcz21_1
                try clear hcz27_0
                try clear hcz27_1
                try clear hcz27_2
                try clear hcz27_3
                try clear hfz14_0
                try clear hfz14_1
                try clear hfz15_0
                try clear hfz15_1
                try clear hfz20_0
                try clear hfz20_1
                try clear hfz20_2
                try clear hfz20_3
                try clear hfz21_0
                try clear hfz21_1
                try clear hfz27_0
                try clear hfz27_1
                try clear hfz27_2
                try clear hfz27_3
                try clear p2
                obtain ⟨kq, x71_38, rfl, HA, HJ38, BK258, BK259, BK264, BK269, HB⟩ := hcut
                cases kq with
                | zero => exact absurd HA.out (by simp [laws_FnWide.j2])
                | succ kj38 =>
                  have H := HA.out
                  clear HA
                  simp only [laws_FnWide.j2] at H
                  by_cases c53 : x71_38 = true
                  · subst c53
                    have H1 : (some false) = some r := by rw [if_pos rfl] at H; exact H
                    clear H
                    have H := H1
                    clear H1
                    obtain rfl := Option.some.inj H
                    go_wp2
                    go_ret
                    exact ⟨by first | rfl | (simp [errW_none, errW_some] <;> rfl) | (simp [*, errW_none, errW_some] <;> rfl), by repeat (first | (with_reducible first | exact HB.out | apply below_alloc | apply pw_below_drewN | apply below_drew1 | refine below_set ?_ GE258.out | refine below_set ?_ GE259.out | refine below_set ?_ GE264.out | refine below_set ?_ GE269.out) | exact HB.out)⟩
                  · replace c53 := Bool.eq_false_iff.mpr c53
                    subst c53
                    have H1 : ((spec_DrawWideDiv.f kj38 l1).bind fun bt281 => (if bt281.2.2 = 0 then ((impl_WideText.f kj38 bt281.1 bt281.2.1).bind fun t285 => ((impl_WideRead.f kj38 t285).bind fun bt286 => (some ((bt286.1 == bt281.1 && (bt286.2.1 == bt281.2.1)) && (!bt286.2.2.1 && (bt286.2.2.2 == 0)))))) else ((impl_WideDiv.f kj38 bt281.1 bt281.2.1 bt281.2.2).bind fun bt290 => ((impl_WideMul.f bt290.2.1 bt281.2.2).bind fun bt294 => ((impl_WideMul.f bt290.1 bt281.2.2).bind fun bt297 => ((impl_WideAdd.f bt294.1 bt294.2 bt297.2 0).bind fun bt300 => (if bt290.2.2 ≥ bt281.2.2 then (laws_FnWide.j3 kj38 true bt281.1 bt281.2.1) else ((impl_WideAdd.f bt300.1 bt300.2.1 0 bt290.2.2).bind fun bt305 => (laws_FnWide.j3 kj38 (!(bt305.1 == bt281.1) || (!(bt305.2.1 == bt281.2.1))) bt281.1 bt281.2.1))))))))) = some r := by rw [if_neg (show ¬ (false = true) by decide)] at H; exact H
                    clear H
                    have H := H1
                    clear H1
                    replace H := Option.bind_eq_some_iff.mp H
                    obtain ⟨⟨t281, t282, t283⟩, A540, H⟩ := H
                    replace H : (if t283 = 0 then ((impl_WideText.f kj38 t281 t282).bind fun t285 => ((impl_WideRead.f kj38 t285).bind fun bt286 => (some ((bt286.1 == t281 && (bt286.2.1 == t282)) && (!bt286.2.2.1 && (bt286.2.2.2 == 0)))))) else ((impl_WideDiv.f kj38 t281 t282 t283).bind fun bt290 => ((impl_WideMul.f bt290.2.1 t283).bind fun bt294 => ((impl_WideMul.f bt290.1 t283).bind fun bt297 => ((impl_WideAdd.f bt294.1 bt294.2 bt297.2 0).bind fun bt300 => (if bt290.2.2 ≥ t283 then (laws_FnWide.j3 kj38 true t281 t282) else ((impl_WideAdd.f bt300.1 bt300.2.1 0 bt290.2.2).bind fun bt305 => (laws_FnWide.j3 kj38 (!(bt305.1 == t281) || (!(bt305.2.1 == t282))) t281 t282)))))))) = some r := H
                    have A54 := Aside0.mk A540
                    clear A540
                    by_cases c55 : t283 = 0
                    · rw [if_pos c55] at H
                      have c55b0 : (t283 == 0) = true := beq_iff_eq.mpr c55
                      have c55b1 : (t283 != 0) = false := bne_eq_false_iff_eq.mpr c55
                      clear c55
                      replace H := Option.bind_eq_some_iff.mp H
                      obtain ⟨t285, A560, H⟩ := H
                      replace H : ((impl_WideRead.f kj38 t285).bind fun bt286 => (some ((bt286.1 == t281 && (bt286.2.1 == t282)) && (!bt286.2.2.1 && (bt286.2.2.2 == 0))))) = some r := H
                      have A56 := Aside0.mk A560
                      clear A560
                      replace H := Option.bind_eq_some_iff.mp H
                      obtain ⟨⟨t286, t287, t288, t289⟩, A570, H⟩ := H
                      replace H : (some ((t286 == t281 && (t287 == t282)) && (!t288 && (t289 == 0)))) = some r := H
                      have A57 := Aside0.mk A570
                      clear A570
                      obtain rfl := Option.some.inj H
                      try go_wp2_with (first | ((with_reducible refine gate_callee (f := 12) rfl ?_); refine goesL_ (some 74) rfl rfl Tryd.func12 (by kernel_rfl) rfl #[.slice A1 l1.length c1] rfl (by (try simp only [List.map_toArray, List.map_cons, List.map_nil]); first | done | rfl | (simp only [List.length_drop, List.length_take]; rfl)) ?_; (with_reducible refine (spec_DrawWideDiv.calls kj38 _ _ l1 t281 t282 t283 _ ?side1 ?side2 A54.out).mono ?_); (case side1 => repeat (first | exact (Kd.C_below HR1.out HB.out) | (with_reducible refine Kd.C_alloc ?_ _) | (with_reducible refine Kd.C_drewN ?_ _) | (with_reducible refine Kd.C_drew ?_))); (case side2 => exact HC1.out); rintro e w58 ⟨rfl, hb⟩; refine ⟨_, rfl, ?_⟩; have n0_ := Aside0.mk (blk_below (g := gb258) (o := .cells #[.int .u64 t254, .int .u64 t255] 24 (0, 0)) (by (with_reducible repeat first | apply bn_ | apply bd_ | apply ba_); exact BK258.out) hb); have n1_ := Aside0.mk (blk_below (g := gb259) (o := .cells #[.int .u64 t256, .int .u64 t257] 24 (0, 0)) (by (with_reducible repeat first | apply bn_ | apply bd_ | apply ba_); exact BK259.out) hb); have n2_ := Aside0.mk (blk_below (g := gb264) (o := .cells #[.int .u64 t260, .int .u64 t261, .bool t262, .int .i64 t263] 26 (0, 0)) (by (with_reducible repeat first | apply bn_ | apply bd_ | apply ba_); exact BK264.out) hb); have n3_ := Aside0.mk (blk_below (g := gb269) (o := .cells #[.int .u64 t265, .int .u64 t266, .bool t267, .int .i64 t268] 26 (0, 0)) (by (with_reducible repeat first | apply bn_ | apply bd_ | apply ba_); exact BK269.out) hb); have n4_ := Aside0.mk (below_step (by repeat (first | (with_reducible first | exact HB.out | apply below_alloc | apply pw_below_drewN | apply below_drew1 | refine below_set ?_ GE258.out | refine below_set ?_ GE259.out | refine below_set ?_ GE264.out | refine below_set ?_ GE269.out) | exact HB.out)) hb); clear BK258; clear BK259; clear BK264; clear BK269; clear HB; have BK258 := n0_; have BK259 := n1_; have BK264 := n2_; have BK269 := n3_; have HB := n4_; clear n0_ n1_ n2_ n3_ n4_; (try clear hb); (try clear hb2); (try clear hk); (try clear hi)) | ((with_reducible refine gate_dst (N := 9) rfl ?_); (try (refine gate_guard (by rfl) ?_; dsimp only)); refine box_event ?hg (N := 9) ?hd (cs := #[.int .u64 0, .int .u64 0]) (t := 24) ?hr ?_; (case hd => rfl); (case hg => rfl); (case hr => first | (go_simp; done) | (go_simp; rfl)); intro gb284 hg w59 hbox hb; have n0_ := Aside0.mk (blk_below (g := gb258) (o := .cells #[.int .u64 t254, .int .u64 t255] 24 (0, 0)) (by (with_reducible repeat first | apply bn_ | apply bd_ | apply ba_); exact BK258.out) hb); have n1_ := Aside0.mk (blk_below (g := gb259) (o := .cells #[.int .u64 t256, .int .u64 t257] 24 (0, 0)) (by (with_reducible repeat first | apply bn_ | apply bd_ | apply ba_); exact BK259.out) hb); have n2_ := Aside0.mk (blk_below (g := gb264) (o := .cells #[.int .u64 t260, .int .u64 t261, .bool t262, .int .i64 t263] 26 (0, 0)) (by (with_reducible repeat first | apply bn_ | apply bd_ | apply ba_); exact BK264.out) hb); have n3_ := Aside0.mk (blk_below (g := gb269) (o := .cells #[.int .u64 t265, .int .u64 t266, .bool t267, .int .i64 t268] 26 (0, 0)) (by (with_reducible repeat first | apply bn_ | apply bd_ | apply ba_); exact BK269.out) hb); have n4_ := Aside0.mk (below_step (by repeat (first | (with_reducible first | exact HB.out | apply below_alloc | apply pw_below_drewN | apply below_drew1 | refine below_set ?_ GE258.out | refine below_set ?_ GE259.out | refine below_set ?_ GE264.out | refine below_set ?_ GE269.out) | exact HB.out)) hb); have n5_ := Aside0.mk (hbox); have n6_ := Aside0.mk ((by rw [hg]; exact (below_size (by repeat (first | (with_reducible first | exact HB.out | apply below_alloc | apply pw_below_drewN | apply below_drew1 | refine below_set ?_ GE258.out | refine below_set ?_ GE259.out | refine below_set ?_ GE264.out | refine below_set ?_ GE269.out) | exact HB.out))) : w.heap.size ≤ gb284)); have n7_ := Aside0.mk ((by rw [hg]; exact (below_size (by repeat (first | (with_reducible first | exact HB.out | apply below_alloc | apply pw_below_drewN | apply below_drew1 | refine below_set ?_ GE258.out | refine below_set ?_ GE259.out | refine below_set ?_ GE264.out | refine below_set ?_ GE269.out) | exact HB.out))) : w.heap.size ≤ gb284)); have n8_ := Aside0.mk ((by rw [hg]; exact Nat.ne_of_lt (blk_lt (g := gb258) (o := .cells #[.int .u64 t254, .int .u64 t255] 24 (0, 0)) (by (with_reducible repeat first | apply bn_ | apply bd_ | apply ba_); exact BK258.out)) : gb258 ≠ gb284)); have n9_ := Aside0.mk ((by rw [hg]; exact Nat.ne_of_gt (blk_lt (g := gb258) (o := .cells #[.int .u64 t254, .int .u64 t255] 24 (0, 0)) (by (with_reducible repeat first | apply bn_ | apply bd_ | apply ba_); exact BK258.out)) : gb284 ≠ gb258)); have n10_ := Aside0.mk ((by rw [hg]; exact Nat.ne_of_lt (blk_lt (g := gb259) (o := .cells #[.int .u64 t256, .int .u64 t257] 24 (0, 0)) (by (with_reducible repeat first | apply bn_ | apply bd_ | apply ba_); exact BK259.out)) : gb259 ≠ gb284)); have n11_ := Aside0.mk ((by rw [hg]; exact Nat.ne_of_gt (blk_lt (g := gb259) (o := .cells #[.int .u64 t256, .int .u64 t257] 24 (0, 0)) (by (with_reducible repeat first | apply bn_ | apply bd_ | apply ba_); exact BK259.out)) : gb284 ≠ gb259)); have n12_ := Aside0.mk ((by rw [hg]; exact Nat.ne_of_lt (blk_lt (g := gb264) (o := .cells #[.int .u64 t260, .int .u64 t261, .bool t262, .int .i64 t263] 26 (0, 0)) (by (with_reducible repeat first | apply bn_ | apply bd_ | apply ba_); exact BK264.out)) : gb264 ≠ gb284)); have n13_ := Aside0.mk ((by rw [hg]; exact Nat.ne_of_gt (blk_lt (g := gb264) (o := .cells #[.int .u64 t260, .int .u64 t261, .bool t262, .int .i64 t263] 26 (0, 0)) (by (with_reducible repeat first | apply bn_ | apply bd_ | apply ba_); exact BK264.out)) : gb284 ≠ gb264)); have n14_ := Aside0.mk ((by rw [hg]; exact Nat.ne_of_lt (blk_lt (g := gb269) (o := .cells #[.int .u64 t265, .int .u64 t266, .bool t267, .int .i64 t268] 26 (0, 0)) (by (with_reducible repeat first | apply bn_ | apply bd_ | apply ba_); exact BK269.out)) : gb269 ≠ gb284)); have n15_ := Aside0.mk ((by rw [hg]; exact Nat.ne_of_gt (blk_lt (g := gb269) (o := .cells #[.int .u64 t265, .int .u64 t266, .bool t267, .int .i64 t268] 26 (0, 0)) (by (with_reducible repeat first | apply bn_ | apply bd_ | apply ba_); exact BK269.out)) : gb284 ≠ gb269)); clear BK258; clear BK259; clear BK264; clear BK269; clear HB; have BK258 := n0_; have BK259 := n1_; have BK264 := n2_; have BK269 := n3_; have HB := n4_; have BK284 := n5_; have GW284 := n6_; have GE284 := n7_; have NB258_284 := n8_; have NB284_258 := n9_; have NB259_284 := n10_; have NB284_259 := n11_; have NB264_284 := n12_; have NB284_264 := n13_; have NB269_284 := n14_; have NB284_269 := n15_; clear n0_ n1_ n2_ n3_ n4_ n5_ n6_ n7_ n8_ n9_ n10_ n11_ n12_ n13_ n14_ n15_; clear hb hbox hg; have hnb60 := NB284_258.out; have hnc60 := NB258_284.out; have hnb61 := NB284_259.out; have hnc61 := NB259_284.out; have hnb62 := NB284_264.out; have hnc62 := NB264_284.out; have hnb63 := NB284_269.out; have hnc63 := NB269_284.out; have hcz64_0 : w59.cell? ⟨gb284, 0, none⟩ = some (.int .u64 0) := (blk_cell BK284.out 0).trans rfl; have hcz64_1 : w59.cell? ⟨gb284, 1, none⟩ = some (.int .u64 0) := (blk_cell BK284.out 1).trans rfl; have hfz64_0 := blk_frozen BK284.out 0; have hfz64_1 := blk_frozen BK284.out 1))
                      have n0_ : Aside0 (((w59.setCell ⟨gb284, 0, none⟩ (.int .u64 t281)).setCell ⟨gb284, 1, none⟩ (.int .u64 t282)).heap[gb258]? = some (.cells #[.int .u64 t254, .int .u64 t255] 24 (0, 0))) := ⟨by (with_reducible repeat first | apply bn_ | apply bd_ | apply ba_); refine blk_far ?_ NB258_284.out _; (with_reducible repeat first | apply bn_ | apply bd_ | apply ba_); refine blk_far ?_ NB258_284.out _; (with_reducible repeat first | apply bn_ | apply bd_ | apply ba_); exact BK258.out⟩
                      have n1_ : Aside0 (((w59.setCell ⟨gb284, 0, none⟩ (.int .u64 t281)).setCell ⟨gb284, 1, none⟩ (.int .u64 t282)).heap[gb259]? = some (.cells #[.int .u64 t256, .int .u64 t257] 24 (0, 0))) := ⟨by (with_reducible repeat first | apply bn_ | apply bd_ | apply ba_); refine blk_far ?_ NB259_284.out _; (with_reducible repeat first | apply bn_ | apply bd_ | apply ba_); refine blk_far ?_ NB259_284.out _; (with_reducible repeat first | apply bn_ | apply bd_ | apply ba_); exact BK259.out⟩
                      have n2_ : Aside0 (((w59.setCell ⟨gb284, 0, none⟩ (.int .u64 t281)).setCell ⟨gb284, 1, none⟩ (.int .u64 t282)).heap[gb264]? = some (.cells #[.int .u64 t260, .int .u64 t261, .bool t262, .int .i64 t263] 26 (0, 0))) := ⟨by (with_reducible repeat first | apply bn_ | apply bd_ | apply ba_); refine blk_far ?_ NB264_284.out _; (with_reducible repeat first | apply bn_ | apply bd_ | apply ba_); refine blk_far ?_ NB264_284.out _; (with_reducible repeat first | apply bn_ | apply bd_ | apply ba_); exact BK264.out⟩
                      have n3_ : Aside0 (((w59.setCell ⟨gb284, 0, none⟩ (.int .u64 t281)).setCell ⟨gb284, 1, none⟩ (.int .u64 t282)).heap[gb269]? = some (.cells #[.int .u64 t265, .int .u64 t266, .bool t267, .int .i64 t268] 26 (0, 0))) := ⟨by (with_reducible repeat first | apply bn_ | apply bd_ | apply ba_); refine blk_far ?_ NB269_284.out _; (with_reducible repeat first | apply bn_ | apply bd_ | apply ba_); refine blk_far ?_ NB269_284.out _; (with_reducible repeat first | apply bn_ | apply bd_ | apply ba_); exact BK269.out⟩
                      have n4_ : Aside0 (((w59.setCell ⟨gb284, 0, none⟩ (.int .u64 t281)).setCell ⟨gb284, 1, none⟩ (.int .u64 t282)).heap[gb284]? = some (.cells #[.int .u64 t281, .int .u64 t282] 24 (0, 0))) := ⟨by (with_reducible repeat first | apply bn_ | apply bd_ | apply ba_); refine blk_put (cs := #[.int .u64 t281, .int .u64 0]) ?_ 1 _ rfl; (with_reducible repeat first | apply bn_ | apply bd_ | apply ba_); refine blk_put (cs := #[.int .u64 0, .int .u64 0]) ?_ 0 _ rfl; (with_reducible repeat first | apply bn_ | apply bd_ | apply ba_); exact BK284.out⟩
                      have n5_ : Aside0 (Below w.heap.size w ((w59.setCell ⟨gb284, 0, none⟩ (.int .u64 t281)).setCell ⟨gb284, 1, none⟩ (.int .u64 t282))) := ⟨by repeat (first | (with_reducible first | exact HB.out | apply below_alloc | apply pw_below_drewN | apply below_drew1 | refine below_set ?_ GE258.out | refine below_set ?_ GE259.out | refine below_set ?_ GE264.out | refine below_set ?_ GE269.out | refine below_set ?_ GE284.out) | exact HB.out)⟩
                      (try clear BK258)
                      (try clear BK259)
                      (try clear BK264)
                      (try clear BK269)
                      (try clear BK284)
                      (try clear HB)
                      generalize ((w59.setCell ⟨gb284, 0, none⟩ (.int .u64 t281)).setCell ⟨gb284, 1, none⟩ (.int .u64 t282)) = w65 at n0_ n1_ n2_ n3_ n4_ n5_ ⊢
                      have BK258 := n0_
                      have BK259 := n1_
                      have BK264 := n2_
                      have BK269 := n3_
                      have BK284 := n4_
                      have HB := n5_
                      clear n0_ n1_ n2_ n3_ n4_ n5_
                      have n0_ := Aside0.mk (blk_drew BK258.out)
                      have n1_ := Aside0.mk (blk_drew BK259.out)
                      have n2_ := Aside0.mk (blk_drew BK264.out)
                      have n3_ := Aside0.mk (blk_drew BK269.out)
                      have n4_ := Aside0.mk (blk_drew BK284.out)
                      have n5_ := Aside0.mk (below_drew1 HB.out)
                      clear BK258
                      clear BK259
                      clear BK264
                      clear BK269
                      clear BK284
                      clear HB
                      have BK258 := n0_
                      have BK259 := n1_
                      have BK264 := n2_
                      have BK269 := n3_
                      have BK284 := n4_
                      have HB := n5_
                      clear n0_ n1_ n2_ n3_ n4_ n5_
                      refine start_ (n := 7) (S := fun w' => w'.cell? ⟨gb284, 0, none⟩ = some (.int .u64 t281) ∧ w'.cell? ⟨gb284, 1, none⟩ = some (.int .u64 t282)) (ds := []) #[false, false, false, false, false, false, false] (by kernel_rfl) rfl rfl ⟨(blk_cell BK284.out 0).trans rfl, (blk_cell BK284.out 1).trans rfl⟩ (fun hHeld => ?_)
                      generalize w65.drew = w66 at BK258 BK259 BK264 BK269 BK284 HB hHeld ⊢
                      refine take_ (i := 0) (N := some 112) (v := ?_) (a' := ?_) #[true, false, false, false, false, false, false] rfl rfl (by kernel_rfl) (fun _ _ _ h => h) (Or.inl ⟨by rfl, ?_⟩) hHeld ?_ ?_; rotate_left; (rintro w' ⟨s0, s1⟩; go_simp; with_reducible rfl); rotate_left; (simp only [Act.put, List.setIfInBounds_toArray, List.set_cons_zero, List.set_cons_succ, i64_w, i32_w]; rfl)
                      refine take_ (i := 3) (N := some 115) (v := ?_) (a' := ?_) #[true, false, false, true, false, false, false] rfl rfl (by kernel_rfl) (fun _ _ _ h => h) (Or.inl ⟨by rfl, ?_⟩) hHeld ?_ ?_; rotate_left; (rintro w' ⟨s0, s1⟩; go_simp; with_reducible rfl); rotate_left; (simp only [Act.put, List.setIfInBounds_toArray, List.set_cons_zero, List.set_cons_succ, i64_w, i32_w]; rfl)
                      refine pure_ (i := 4) (N := some 116) (v := ?_) (a' := ?_) #[true, false, false, true, true, false, false] rfl rfl (by kernel_rfl) (fun _ _ _ h => h) (Or.inl ⟨by rfl, ?_⟩) ?_ ?_; rotate_left; (intro w'; go_simp; with_reducible rfl); rotate_left; (simp only [Act.put, List.setIfInBounds_toArray, List.set_cons_zero, List.set_cons_succ, i64_w, i32_w]; rfl)
                      refine one_ (i := 1) (N := some 113) #[true, true, false, true, true, false, false] rfl rfl (by kernel_rfl) (by decide) (fun K hK => ?_)
                      refine goes_ Tryd.func15 (by kernel_rfl) rfl #[.agg #[.int .u64 t281, .int .u64 t282]] (by rfl) rfl rfl (by (try simp only [List.map_toArray, List.map_cons, List.map_nil]); first | done | rfl | (simp only [List.length_drop, List.length_take]; rfl)) ?_
                      with_reducible refine (impl_WideText.calls kj38 t281 t282 t285 _ A56.out).mono ?_
                      rintro e w67 ⟨rfl, hb⟩
                      refine ⟨_, rfl, ?_⟩
                      have n0_ := Aside0.mk (blk_below (g := gb258) (o := .cells #[.int .u64 t254, .int .u64 t255] 24 (0, 0)) (by (with_reducible repeat first | apply bn_ | apply bd_ | apply ba_); exact BK258.out) hb)
                      have n1_ := Aside0.mk (blk_below (g := gb259) (o := .cells #[.int .u64 t256, .int .u64 t257] 24 (0, 0)) (by (with_reducible repeat first | apply bn_ | apply bd_ | apply ba_); exact BK259.out) hb)
                      have n2_ := Aside0.mk (blk_below (g := gb264) (o := .cells #[.int .u64 t260, .int .u64 t261, .bool t262, .int .i64 t263] 26 (0, 0)) (by (with_reducible repeat first | apply bn_ | apply bd_ | apply ba_); exact BK264.out) hb)
                      have n3_ := Aside0.mk (blk_below (g := gb269) (o := .cells #[.int .u64 t265, .int .u64 t266, .bool t267, .int .i64 t268] 26 (0, 0)) (by (with_reducible repeat first | apply bn_ | apply bd_ | apply ba_); exact BK269.out) hb)
                      have n4_ := Aside0.mk (blk_below (g := gb284) (o := .cells #[.int .u64 t281, .int .u64 t282] 24 (0, 0)) (by (with_reducible repeat first | apply bn_ | apply bd_ | apply ba_); exact BK284.out) hb)
                      have n5_ := Aside0.mk (below_step (by repeat (first | (with_reducible first | exact HB.out | apply below_alloc | apply pw_below_drewN | apply below_drew1 | refine below_set ?_ GE258.out | refine below_set ?_ GE259.out | refine below_set ?_ GE264.out | refine below_set ?_ GE269.out | refine below_set ?_ GE284.out) | exact HB.out)) hb)
                      clear BK258
                      clear BK259
                      clear BK264
                      clear BK269
                      clear BK284
                      clear HB
                      have BK258 := n0_
                      have BK259 := n1_
                      have BK264 := n2_
                      have BK269 := n3_
                      have BK284 := n4_
                      have HB := n5_
                      clear n0_ n1_ n2_ n3_ n4_ n5_
                      (try clear hb)
                      (try clear hb2)
                      (try clear hk)
                      (try clear hi)
                      refine hK.out _ _ ⟨(blk_cell BK284.out 0).trans rfl, (blk_cell BK284.out 1).trans rfl⟩ (fun hHeld => ?_)
                      clear hK K
                      refine norm_ (a' := ?_) ?_ ?_
                      rotate_left
                      · show Act.put _ (some 113) _ = _
                        simp only [Act.put, List.setIfInBounds_toArray, List.set_cons_zero, List.set_cons_succ, i64_w, i32_w]
                        rfl
                      refine one_ (i := 2) (N := some 114) #[true, true, true, true, true, false, false] rfl rfl (by kernel_rfl) (by decide) (fun K hK => ?_)
                      refine goes_ Tryd.func6 (by kernel_rfl) rfl #[.string t285] (by rfl) rfl rfl (by (try simp only [List.map_toArray, List.map_cons, List.map_nil]); first | done | rfl | (simp only [List.length_drop, List.length_take]; rfl)) ?_
                      with_reducible refine (impl_WideRead.calls kj38 t285 t286 t287 t288 t289 _ A57.out).mono ?_
                      rintro e w68 ⟨rfl, hb⟩
                      refine ⟨_, rfl, ?_⟩
                      have n0_ := Aside0.mk (blk_below (g := gb258) (o := .cells #[.int .u64 t254, .int .u64 t255] 24 (0, 0)) (by (with_reducible repeat first | apply bn_ | apply bd_ | apply ba_); exact BK258.out) hb)
                      have n1_ := Aside0.mk (blk_below (g := gb259) (o := .cells #[.int .u64 t256, .int .u64 t257] 24 (0, 0)) (by (with_reducible repeat first | apply bn_ | apply bd_ | apply ba_); exact BK259.out) hb)
                      have n2_ := Aside0.mk (blk_below (g := gb264) (o := .cells #[.int .u64 t260, .int .u64 t261, .bool t262, .int .i64 t263] 26 (0, 0)) (by (with_reducible repeat first | apply bn_ | apply bd_ | apply ba_); exact BK264.out) hb)
                      have n3_ := Aside0.mk (blk_below (g := gb269) (o := .cells #[.int .u64 t265, .int .u64 t266, .bool t267, .int .i64 t268] 26 (0, 0)) (by (with_reducible repeat first | apply bn_ | apply bd_ | apply ba_); exact BK269.out) hb)
                      have n4_ := Aside0.mk (blk_below (g := gb284) (o := .cells #[.int .u64 t281, .int .u64 t282] 24 (0, 0)) (by (with_reducible repeat first | apply bn_ | apply bd_ | apply ba_); exact BK284.out) hb)
                      have n5_ := Aside0.mk (below_step (by repeat (first | (with_reducible first | exact HB.out | apply below_alloc | apply pw_below_drewN | apply below_drew1 | refine below_set ?_ GE258.out | refine below_set ?_ GE259.out | refine below_set ?_ GE264.out | refine below_set ?_ GE269.out | refine below_set ?_ GE284.out) | exact HB.out)) hb)
                      clear BK258
                      clear BK259
                      clear BK264
                      clear BK269
                      clear BK284
                      clear HB
                      have BK258 := n0_
                      have BK259 := n1_
                      have BK264 := n2_
                      have BK269 := n3_
                      have BK284 := n4_
                      have HB := n5_
                      clear n0_ n1_ n2_ n3_ n4_ n5_
                      (try clear hb)
                      (try clear hb2)
                      (try clear hk)
                      (try clear hi)
                      refine hK.out _ _ ⟨(blk_cell BK284.out 0).trans rfl, (blk_cell BK284.out 1).trans rfl⟩ (fun hHeld => ?_)
                      clear hK K
                      refine norm_ (a' := ?_) ?_ ?_
                      rotate_left
                      · show Act.put _ (some 114) _ = _
                        simp only [Act.put, List.setIfInBounds_toArray, List.set_cons_zero, List.set_cons_succ, i64_w, i32_w]
                        rfl
                      refine pure_ (i := 5) (N := some 117) (v := ?_) (a' := ?_) #[true, true, true, true, true, true, false] rfl rfl (by kernel_rfl) (fun _ _ _ h => h) (Or.inl ⟨by rfl, ?_⟩) ?_ ?_; rotate_left; (intro w'; go_simp; with_reducible rfl); rotate_left; (simp only [Act.put, List.setIfInBounds_toArray, List.set_cons_zero, List.set_cons_succ, i64_w, i32_w]; rfl)
                      refine pure_ (i := 6) (N := some 4) (v := ?_) (a' := ?_) #[true, true, true, true, true, true, true] rfl rfl (by kernel_rfl) (fun _ _ _ h => h) (Or.inl ⟨by rfl, ?_⟩) ?_ ?_; rotate_left; (intro w'; go_simp; with_reducible rfl); rotate_left; (simp only [Act.put, List.setIfInBounds_toArray, List.set_cons_zero, List.set_cons_succ, i64_w, i32_w]; rfl)
                      refine done_ (by kernel_rfl) ?_
                      try go_wp2
                      go_ret
                      exact ⟨by first | rfl | (simp [errW_none, errW_some] <;> rfl) | (simp [*, errW_none, errW_some] <;> rfl), by repeat (first | (with_reducible first | exact HB.out | apply below_alloc | apply pw_below_drewN | apply below_drew1 | refine below_set ?_ GE258.out | refine below_set ?_ GE259.out | refine below_set ?_ GE264.out | refine below_set ?_ GE269.out | refine below_set ?_ GE284.out) | exact HB.out)⟩
                    · rw [if_neg c55] at H
                      have c55b0 : (t283 == 0) = false := beq_eq_false_iff_ne.mpr c55
                      have c55b1 : (t283 != 0) = true := bne_iff_ne.mpr c55
                      replace H := Option.bind_eq_some_iff.mp H
                      obtain ⟨⟨t290, t291, t292⟩, A690, H⟩ := H
                      replace H : ((impl_WideMul.f t291 t283).bind fun bt294 => ((impl_WideMul.f t290 t283).bind fun bt297 => ((impl_WideAdd.f bt294.1 bt294.2 bt297.2 0).bind fun bt300 => (if t292 ≥ t283 then (laws_FnWide.j3 kj38 true t281 t282) else ((impl_WideAdd.f bt300.1 bt300.2.1 0 t292).bind fun bt305 => (laws_FnWide.j3 kj38 (!(bt305.1 == t281) || (!(bt305.2.1 == t282))) t281 t282)))))) = some r := H
                      have A69 := Aside0.mk A690
                      clear A690
                      replace H := Option.bind_eq_some_iff.mp H
                      obtain ⟨⟨t294, t295⟩, A700, H⟩ := H
                      replace H : ((impl_WideMul.f t290 t283).bind fun bt297 => ((impl_WideAdd.f t294 t295 bt297.2 0).bind fun bt300 => (if t292 ≥ t283 then (laws_FnWide.j3 kj38 true t281 t282) else ((impl_WideAdd.f bt300.1 bt300.2.1 0 t292).bind fun bt305 => (laws_FnWide.j3 kj38 (!(bt305.1 == t281) || (!(bt305.2.1 == t282))) t281 t282))))) = some r := H
                      have A70 := Aside0.mk A700
                      clear A700
                      replace H := Option.bind_eq_some_iff.mp H
                      obtain ⟨⟨t297, t298⟩, A710, H⟩ := H
                      replace H : ((impl_WideAdd.f t294 t295 t298 0).bind fun bt300 => (if t292 ≥ t283 then (laws_FnWide.j3 kj38 true t281 t282) else ((impl_WideAdd.f bt300.1 bt300.2.1 0 t292).bind fun bt305 => (laws_FnWide.j3 kj38 (!(bt305.1 == t281) || (!(bt305.2.1 == t282))) t281 t282)))) = some r := H
                      have A71 := Aside0.mk A710
                      clear A710
                      replace H := Option.bind_eq_some_iff.mp H
                      obtain ⟨⟨t300, t301, t302, t303⟩, A720, H⟩ := H
                      replace H : (if t292 ≥ t283 then (laws_FnWide.j3 kj38 true t281 t282) else ((impl_WideAdd.f t300 t301 0 t292).bind fun bt305 => (laws_FnWide.j3 kj38 (!(bt305.1 == t281) || (!(bt305.2.1 == t282))) t281 t282))) = some r := H
                      have A72 := Aside0.mk A720
                      clear A720
                      have HC73 := Aside0.mk H
                      clear H
                      go_upto_region 16 with (first | ((with_reducible refine gate_callee (f := 12) rfl ?_); refine goesL_ (some 74) rfl rfl Tryd.func12 (by kernel_rfl) rfl #[.slice A1 l1.length c1] rfl (by (try simp only [List.map_toArray, List.map_cons, List.map_nil]); first | done | rfl | (simp only [List.length_drop, List.length_take]; rfl)) ?_; (with_reducible refine (spec_DrawWideDiv.calls kj38 _ _ l1 t281 t282 t283 _ ?side1 ?side2 A54.out).mono ?_); (case side1 => repeat (first | exact (Kd.C_below HR1.out HB.out) | (with_reducible refine Kd.C_alloc ?_ _) | (with_reducible refine Kd.C_drewN ?_ _) | (with_reducible refine Kd.C_drew ?_))); (case side2 => exact HC1.out); rintro e w74 ⟨rfl, hb⟩; refine ⟨_, rfl, ?_⟩; have n0_ := Aside0.mk (blk_below (g := gb258) (o := .cells #[.int .u64 t254, .int .u64 t255] 24 (0, 0)) (by (with_reducible repeat first | apply bn_ | apply bd_ | apply ba_); exact BK258.out) hb); have n1_ := Aside0.mk (blk_below (g := gb259) (o := .cells #[.int .u64 t256, .int .u64 t257] 24 (0, 0)) (by (with_reducible repeat first | apply bn_ | apply bd_ | apply ba_); exact BK259.out) hb); have n2_ := Aside0.mk (blk_below (g := gb264) (o := .cells #[.int .u64 t260, .int .u64 t261, .bool t262, .int .i64 t263] 26 (0, 0)) (by (with_reducible repeat first | apply bn_ | apply bd_ | apply ba_); exact BK264.out) hb); have n3_ := Aside0.mk (blk_below (g := gb269) (o := .cells #[.int .u64 t265, .int .u64 t266, .bool t267, .int .i64 t268] 26 (0, 0)) (by (with_reducible repeat first | apply bn_ | apply bd_ | apply ba_); exact BK269.out) hb); have n4_ := Aside0.mk (below_step (by repeat (first | (with_reducible first | exact HB.out | apply below_alloc | apply pw_below_drewN | apply below_drew1 | refine below_set ?_ GE258.out | refine below_set ?_ GE259.out | refine below_set ?_ GE264.out | refine below_set ?_ GE269.out) | exact HB.out)) hb); clear BK258; clear BK259; clear BK264; clear BK269; clear HB; have BK258 := n0_; have BK259 := n1_; have BK264 := n2_; have BK269 := n3_; have HB := n4_; clear n0_ n1_ n2_ n3_ n4_; (try clear hb); (try clear hb2); (try clear hk); (try clear hi)) | ((with_reducible refine gate_dst (N := 9) rfl ?_); (try (refine gate_guard (by rfl) ?_; dsimp only)); refine box_event ?hg (N := 9) ?hd (cs := #[.int .u64 0, .int .u64 0]) (t := 24) ?hr ?_; (case hd => rfl); (case hg => rfl); (case hr => first | (go_simp; done) | (go_simp; rfl)); intro gb284 hg w75 hbox hb; have n0_ := Aside0.mk (blk_below (g := gb258) (o := .cells #[.int .u64 t254, .int .u64 t255] 24 (0, 0)) (by (with_reducible repeat first | apply bn_ | apply bd_ | apply ba_); exact BK258.out) hb); have n1_ := Aside0.mk (blk_below (g := gb259) (o := .cells #[.int .u64 t256, .int .u64 t257] 24 (0, 0)) (by (with_reducible repeat first | apply bn_ | apply bd_ | apply ba_); exact BK259.out) hb); have n2_ := Aside0.mk (blk_below (g := gb264) (o := .cells #[.int .u64 t260, .int .u64 t261, .bool t262, .int .i64 t263] 26 (0, 0)) (by (with_reducible repeat first | apply bn_ | apply bd_ | apply ba_); exact BK264.out) hb); have n3_ := Aside0.mk (blk_below (g := gb269) (o := .cells #[.int .u64 t265, .int .u64 t266, .bool t267, .int .i64 t268] 26 (0, 0)) (by (with_reducible repeat first | apply bn_ | apply bd_ | apply ba_); exact BK269.out) hb); have n4_ := Aside0.mk (below_step (by repeat (first | (with_reducible first | exact HB.out | apply below_alloc | apply pw_below_drewN | apply below_drew1 | refine below_set ?_ GE258.out | refine below_set ?_ GE259.out | refine below_set ?_ GE264.out | refine below_set ?_ GE269.out) | exact HB.out)) hb); have n5_ := Aside0.mk (hbox); have n6_ := Aside0.mk ((by rw [hg]; exact (below_size (by repeat (first | (with_reducible first | exact HB.out | apply below_alloc | apply pw_below_drewN | apply below_drew1 | refine below_set ?_ GE258.out | refine below_set ?_ GE259.out | refine below_set ?_ GE264.out | refine below_set ?_ GE269.out) | exact HB.out))) : w.heap.size ≤ gb284)); have n7_ := Aside0.mk ((by rw [hg]; exact (below_size (by repeat (first | (with_reducible first | exact HB.out | apply below_alloc | apply pw_below_drewN | apply below_drew1 | refine below_set ?_ GE258.out | refine below_set ?_ GE259.out | refine below_set ?_ GE264.out | refine below_set ?_ GE269.out) | exact HB.out))) : w.heap.size ≤ gb284)); have n8_ := Aside0.mk ((by rw [hg]; exact Nat.ne_of_lt (blk_lt (g := gb258) (o := .cells #[.int .u64 t254, .int .u64 t255] 24 (0, 0)) (by (with_reducible repeat first | apply bn_ | apply bd_ | apply ba_); exact BK258.out)) : gb258 ≠ gb284)); have n9_ := Aside0.mk ((by rw [hg]; exact Nat.ne_of_gt (blk_lt (g := gb258) (o := .cells #[.int .u64 t254, .int .u64 t255] 24 (0, 0)) (by (with_reducible repeat first | apply bn_ | apply bd_ | apply ba_); exact BK258.out)) : gb284 ≠ gb258)); have n10_ := Aside0.mk ((by rw [hg]; exact Nat.ne_of_lt (blk_lt (g := gb259) (o := .cells #[.int .u64 t256, .int .u64 t257] 24 (0, 0)) (by (with_reducible repeat first | apply bn_ | apply bd_ | apply ba_); exact BK259.out)) : gb259 ≠ gb284)); have n11_ := Aside0.mk ((by rw [hg]; exact Nat.ne_of_gt (blk_lt (g := gb259) (o := .cells #[.int .u64 t256, .int .u64 t257] 24 (0, 0)) (by (with_reducible repeat first | apply bn_ | apply bd_ | apply ba_); exact BK259.out)) : gb284 ≠ gb259)); have n12_ := Aside0.mk ((by rw [hg]; exact Nat.ne_of_lt (blk_lt (g := gb264) (o := .cells #[.int .u64 t260, .int .u64 t261, .bool t262, .int .i64 t263] 26 (0, 0)) (by (with_reducible repeat first | apply bn_ | apply bd_ | apply ba_); exact BK264.out)) : gb264 ≠ gb284)); have n13_ := Aside0.mk ((by rw [hg]; exact Nat.ne_of_gt (blk_lt (g := gb264) (o := .cells #[.int .u64 t260, .int .u64 t261, .bool t262, .int .i64 t263] 26 (0, 0)) (by (with_reducible repeat first | apply bn_ | apply bd_ | apply ba_); exact BK264.out)) : gb284 ≠ gb264)); have n14_ := Aside0.mk ((by rw [hg]; exact Nat.ne_of_lt (blk_lt (g := gb269) (o := .cells #[.int .u64 t265, .int .u64 t266, .bool t267, .int .i64 t268] 26 (0, 0)) (by (with_reducible repeat first | apply bn_ | apply bd_ | apply ba_); exact BK269.out)) : gb269 ≠ gb284)); have n15_ := Aside0.mk ((by rw [hg]; exact Nat.ne_of_gt (blk_lt (g := gb269) (o := .cells #[.int .u64 t265, .int .u64 t266, .bool t267, .int .i64 t268] 26 (0, 0)) (by (with_reducible repeat first | apply bn_ | apply bd_ | apply ba_); exact BK269.out)) : gb284 ≠ gb269)); clear BK258; clear BK259; clear BK264; clear BK269; clear HB; have BK258 := n0_; have BK259 := n1_; have BK264 := n2_; have BK269 := n3_; have HB := n4_; have BK284 := n5_; have GW284 := n6_; have GE284 := n7_; have NB258_284 := n8_; have NB284_258 := n9_; have NB259_284 := n10_; have NB284_259 := n11_; have NB264_284 := n12_; have NB284_264 := n13_; have NB269_284 := n14_; have NB284_269 := n15_; clear n0_ n1_ n2_ n3_ n4_ n5_ n6_ n7_ n8_ n9_ n10_ n11_ n12_ n13_ n14_ n15_; clear hb hbox hg; have hnb76 := NB284_258.out; have hnc76 := NB258_284.out; have hnb77 := NB284_259.out; have hnc77 := NB259_284.out; have hnb78 := NB284_264.out; have hnc78 := NB264_284.out; have hnb79 := NB284_269.out; have hnc79 := NB269_284.out; have hcz80_0 : w75.cell? ⟨gb284, 0, none⟩ = some (.int .u64 0) := (blk_cell BK284.out 0).trans rfl; have hcz80_1 : w75.cell? ⟨gb284, 1, none⟩ = some (.int .u64 0) := (blk_cell BK284.out 1).trans rfl; have hfz80_0 := blk_frozen BK284.out 0; have hfz80_1 := blk_frozen BK284.out 1) | ((with_reducible refine gate_callee (f := 13) rfl ?_); refine goesL_ (some 81) rfl rfl Tryd.func13 (by kernel_rfl) rfl #[.agg #[.int .u64 t281, .int .u64 t282], .int .u64 t283] rfl (by (try simp only [List.map_toArray, List.map_cons, List.map_nil]); first | done | rfl | (simp only [List.length_drop, List.length_take]; rfl)) ?_; (with_reducible refine (impl_WideDiv.calls kj38 t281 t282 t283 t290 t291 t292 _ A69.out).mono ?_); rintro e w81 ⟨rfl, hb⟩; refine ⟨_, rfl, ?_⟩; have n0_ := Aside0.mk (blk_below (g := gb258) (o := .cells #[.int .u64 t254, .int .u64 t255] 24 (0, 0)) (by (with_reducible repeat first | apply bn_ | apply bd_ | apply ba_); refine blk_far ?_ NB258_284.out _; (with_reducible repeat first | apply bn_ | apply bd_ | apply ba_); refine blk_far ?_ NB258_284.out _; (with_reducible repeat first | apply bn_ | apply bd_ | apply ba_); exact BK258.out) hb); have n1_ := Aside0.mk (blk_below (g := gb259) (o := .cells #[.int .u64 t256, .int .u64 t257] 24 (0, 0)) (by (with_reducible repeat first | apply bn_ | apply bd_ | apply ba_); refine blk_far ?_ NB259_284.out _; (with_reducible repeat first | apply bn_ | apply bd_ | apply ba_); refine blk_far ?_ NB259_284.out _; (with_reducible repeat first | apply bn_ | apply bd_ | apply ba_); exact BK259.out) hb); have n2_ := Aside0.mk (blk_below (g := gb264) (o := .cells #[.int .u64 t260, .int .u64 t261, .bool t262, .int .i64 t263] 26 (0, 0)) (by (with_reducible repeat first | apply bn_ | apply bd_ | apply ba_); refine blk_far ?_ NB264_284.out _; (with_reducible repeat first | apply bn_ | apply bd_ | apply ba_); refine blk_far ?_ NB264_284.out _; (with_reducible repeat first | apply bn_ | apply bd_ | apply ba_); exact BK264.out) hb); have n3_ := Aside0.mk (blk_below (g := gb269) (o := .cells #[.int .u64 t265, .int .u64 t266, .bool t267, .int .i64 t268] 26 (0, 0)) (by (with_reducible repeat first | apply bn_ | apply bd_ | apply ba_); refine blk_far ?_ NB269_284.out _; (with_reducible repeat first | apply bn_ | apply bd_ | apply ba_); refine blk_far ?_ NB269_284.out _; (with_reducible repeat first | apply bn_ | apply bd_ | apply ba_); exact BK269.out) hb); have n4_ := Aside0.mk (blk_below (g := gb284) (o := .cells #[.int .u64 t281, .int .u64 t282] 24 (0, 0)) (by (with_reducible repeat first | apply bn_ | apply bd_ | apply ba_); refine blk_put (cs := #[.int .u64 t281, .int .u64 0]) ?_ 1 _ rfl; (with_reducible repeat first | apply bn_ | apply bd_ | apply ba_); refine blk_put (cs := #[.int .u64 0, .int .u64 0]) ?_ 0 _ rfl; (with_reducible repeat first | apply bn_ | apply bd_ | apply ba_); exact BK284.out) hb); have n5_ := Aside0.mk (below_step (by repeat (first | (with_reducible first | exact HB.out | apply below_alloc | apply pw_below_drewN | apply below_drew1 | refine below_set ?_ GE258.out | refine below_set ?_ GE259.out | refine below_set ?_ GE264.out | refine below_set ?_ GE269.out | refine below_set ?_ GE284.out) | exact HB.out)) hb); clear BK258; clear BK259; clear BK264; clear BK269; clear BK284; clear HB; have BK258 := n0_; have BK259 := n1_; have BK264 := n2_; have BK269 := n3_; have BK284 := n4_; have HB := n5_; clear n0_ n1_ n2_ n3_ n4_ n5_; (try clear hb); (try clear hb2); (try clear hk); (try clear hi)) | ((with_reducible refine gate_dst (N := 11) rfl ?_); (try (refine gate_guard (by rfl) ?_; dsimp only)); refine box_event ?hg (N := 11) ?hd (cs := #[.int .u64 0, .int .u64 0, .int .u64 0]) (t := 38) ?hr ?_; (case hd => rfl); (case hg => rfl); (case hr => first | (go_simp; done) | (go_simp; rfl)); intro gb293 hg w82 hbox hb; have n0_ := Aside0.mk (blk_below (g := gb258) (o := .cells #[.int .u64 t254, .int .u64 t255] 24 (0, 0)) (by (with_reducible repeat first | apply bn_ | apply bd_ | apply ba_); exact BK258.out) hb); have n1_ := Aside0.mk (blk_below (g := gb259) (o := .cells #[.int .u64 t256, .int .u64 t257] 24 (0, 0)) (by (with_reducible repeat first | apply bn_ | apply bd_ | apply ba_); exact BK259.out) hb); have n2_ := Aside0.mk (blk_below (g := gb264) (o := .cells #[.int .u64 t260, .int .u64 t261, .bool t262, .int .i64 t263] 26 (0, 0)) (by (with_reducible repeat first | apply bn_ | apply bd_ | apply ba_); exact BK264.out) hb); have n3_ := Aside0.mk (blk_below (g := gb269) (o := .cells #[.int .u64 t265, .int .u64 t266, .bool t267, .int .i64 t268] 26 (0, 0)) (by (with_reducible repeat first | apply bn_ | apply bd_ | apply ba_); exact BK269.out) hb); have n4_ := Aside0.mk (blk_below (g := gb284) (o := .cells #[.int .u64 t281, .int .u64 t282] 24 (0, 0)) (by (with_reducible repeat first | apply bn_ | apply bd_ | apply ba_); exact BK284.out) hb); have n5_ := Aside0.mk (below_step (by repeat (first | (with_reducible first | exact HB.out | apply below_alloc | apply pw_below_drewN | apply below_drew1 | refine below_set ?_ GE258.out | refine below_set ?_ GE259.out | refine below_set ?_ GE264.out | refine below_set ?_ GE269.out | refine below_set ?_ GE284.out) | exact HB.out)) hb); have n6_ := Aside0.mk (hbox); have n7_ := Aside0.mk ((by rw [hg]; exact (below_size (by repeat (first | (with_reducible first | exact HB.out | apply below_alloc | apply pw_below_drewN | apply below_drew1 | refine below_set ?_ GE258.out | refine below_set ?_ GE259.out | refine below_set ?_ GE264.out | refine below_set ?_ GE269.out | refine below_set ?_ GE284.out) | exact HB.out))) : w.heap.size ≤ gb293)); have n8_ := Aside0.mk ((by rw [hg]; exact (below_size (by repeat (first | (with_reducible first | exact HB.out | apply below_alloc | apply pw_below_drewN | apply below_drew1 | refine below_set ?_ GE258.out | refine below_set ?_ GE259.out | refine below_set ?_ GE264.out | refine below_set ?_ GE269.out | refine below_set ?_ GE284.out) | exact HB.out))) : w.heap.size ≤ gb293)); have n9_ := Aside0.mk ((by rw [hg]; exact Nat.ne_of_lt (blk_lt (g := gb258) (o := .cells #[.int .u64 t254, .int .u64 t255] 24 (0, 0)) (by (with_reducible repeat first | apply bn_ | apply bd_ | apply ba_); exact BK258.out)) : gb258 ≠ gb293)); have n10_ := Aside0.mk ((by rw [hg]; exact Nat.ne_of_gt (blk_lt (g := gb258) (o := .cells #[.int .u64 t254, .int .u64 t255] 24 (0, 0)) (by (with_reducible repeat first | apply bn_ | apply bd_ | apply ba_); exact BK258.out)) : gb293 ≠ gb258)); have n11_ := Aside0.mk ((by rw [hg]; exact Nat.ne_of_lt (blk_lt (g := gb259) (o := .cells #[.int .u64 t256, .int .u64 t257] 24 (0, 0)) (by (with_reducible repeat first | apply bn_ | apply bd_ | apply ba_); exact BK259.out)) : gb259 ≠ gb293)); have n12_ := Aside0.mk ((by rw [hg]; exact Nat.ne_of_gt (blk_lt (g := gb259) (o := .cells #[.int .u64 t256, .int .u64 t257] 24 (0, 0)) (by (with_reducible repeat first | apply bn_ | apply bd_ | apply ba_); exact BK259.out)) : gb293 ≠ gb259)); have n13_ := Aside0.mk ((by rw [hg]; exact Nat.ne_of_lt (blk_lt (g := gb264) (o := .cells #[.int .u64 t260, .int .u64 t261, .bool t262, .int .i64 t263] 26 (0, 0)) (by (with_reducible repeat first | apply bn_ | apply bd_ | apply ba_); exact BK264.out)) : gb264 ≠ gb293)); have n14_ := Aside0.mk ((by rw [hg]; exact Nat.ne_of_gt (blk_lt (g := gb264) (o := .cells #[.int .u64 t260, .int .u64 t261, .bool t262, .int .i64 t263] 26 (0, 0)) (by (with_reducible repeat first | apply bn_ | apply bd_ | apply ba_); exact BK264.out)) : gb293 ≠ gb264)); have n15_ := Aside0.mk ((by rw [hg]; exact Nat.ne_of_lt (blk_lt (g := gb269) (o := .cells #[.int .u64 t265, .int .u64 t266, .bool t267, .int .i64 t268] 26 (0, 0)) (by (with_reducible repeat first | apply bn_ | apply bd_ | apply ba_); exact BK269.out)) : gb269 ≠ gb293)); have n16_ := Aside0.mk ((by rw [hg]; exact Nat.ne_of_gt (blk_lt (g := gb269) (o := .cells #[.int .u64 t265, .int .u64 t266, .bool t267, .int .i64 t268] 26 (0, 0)) (by (with_reducible repeat first | apply bn_ | apply bd_ | apply ba_); exact BK269.out)) : gb293 ≠ gb269)); have n17_ := Aside0.mk ((by rw [hg]; exact Nat.ne_of_lt (blk_lt (g := gb284) (o := .cells #[.int .u64 t281, .int .u64 t282] 24 (0, 0)) (by (with_reducible repeat first | apply bn_ | apply bd_ | apply ba_); exact BK284.out)) : gb284 ≠ gb293)); have n18_ := Aside0.mk ((by rw [hg]; exact Nat.ne_of_gt (blk_lt (g := gb284) (o := .cells #[.int .u64 t281, .int .u64 t282] 24 (0, 0)) (by (with_reducible repeat first | apply bn_ | apply bd_ | apply ba_); exact BK284.out)) : gb293 ≠ gb284)); clear BK258; clear BK259; clear BK264; clear BK269; clear BK284; clear HB; have BK258 := n0_; have BK259 := n1_; have BK264 := n2_; have BK269 := n3_; have BK284 := n4_; have HB := n5_; have BK293 := n6_; have GW293 := n7_; have GE293 := n8_; have NB258_293 := n9_; have NB293_258 := n10_; have NB259_293 := n11_; have NB293_259 := n12_; have NB264_293 := n13_; have NB293_264 := n14_; have NB269_293 := n15_; have NB293_269 := n16_; have NB284_293 := n17_; have NB293_284 := n18_; clear n0_ n1_ n2_ n3_ n4_ n5_ n6_ n7_ n8_ n9_ n10_ n11_ n12_ n13_ n14_ n15_ n16_ n17_ n18_; clear hb hbox hg; have hnb83 := NB293_258.out; have hnc83 := NB258_293.out; have hnb84 := NB293_259.out; have hnc84 := NB259_293.out; have hnb85 := NB293_264.out; have hnc85 := NB264_293.out; have hnb86 := NB293_269.out; have hnc86 := NB269_293.out; have hnb87 := NB293_284.out; have hnc87 := NB284_293.out; have hcz88_0 : w82.cell? ⟨gb293, 0, none⟩ = some (.int .u64 0) := (blk_cell BK293.out 0).trans rfl; have hcz88_1 : w82.cell? ⟨gb293, 1, none⟩ = some (.int .u64 0) := (blk_cell BK293.out 1).trans rfl; have hcz88_2 : w82.cell? ⟨gb293, 2, none⟩ = some (.int .u64 0) := (blk_cell BK293.out 2).trans rfl; have hfz88_0 := blk_frozen BK293.out 0; have hfz88_1 := blk_frozen BK293.out 1; have hfz88_2 := blk_frozen BK293.out 2) | ((with_reducible refine gate_callee (f := 14) rfl ?_); refine goesL_ (some 86) rfl rfl Tryd.func14 (by kernel_rfl) rfl #[.int .u64 t291, .int .u64 t283] rfl (by (try simp only [List.map_toArray, List.map_cons, List.map_nil]); first | done | rfl | (simp only [List.length_drop, List.length_take]; rfl)) ?_; (with_reducible refine (impl_WideMul.calls t291 t283 t294 t295 _ A70.out).mono ?_); rintro e w89 ⟨rfl, hb⟩; refine ⟨_, rfl, ?_⟩; have n0_ := Aside0.mk (blk_below (g := gb258) (o := .cells #[.int .u64 t254, .int .u64 t255] 24 (0, 0)) (by (with_reducible repeat first | apply bn_ | apply bd_ | apply ba_); refine blk_far ?_ NB258_293.out _; (with_reducible repeat first | apply bn_ | apply bd_ | apply ba_); refine blk_far ?_ NB258_293.out _; (with_reducible repeat first | apply bn_ | apply bd_ | apply ba_); refine blk_far ?_ NB258_293.out _; (with_reducible repeat first | apply bn_ | apply bd_ | apply ba_); exact BK258.out) hb); have n1_ := Aside0.mk (blk_below (g := gb259) (o := .cells #[.int .u64 t256, .int .u64 t257] 24 (0, 0)) (by (with_reducible repeat first | apply bn_ | apply bd_ | apply ba_); refine blk_far ?_ NB259_293.out _; (with_reducible repeat first | apply bn_ | apply bd_ | apply ba_); refine blk_far ?_ NB259_293.out _; (with_reducible repeat first | apply bn_ | apply bd_ | apply ba_); refine blk_far ?_ NB259_293.out _; (with_reducible repeat first | apply bn_ | apply bd_ | apply ba_); exact BK259.out) hb); have n2_ := Aside0.mk (blk_below (g := gb264) (o := .cells #[.int .u64 t260, .int .u64 t261, .bool t262, .int .i64 t263] 26 (0, 0)) (by (with_reducible repeat first | apply bn_ | apply bd_ | apply ba_); refine blk_far ?_ NB264_293.out _; (with_reducible repeat first | apply bn_ | apply bd_ | apply ba_); refine blk_far ?_ NB264_293.out _; (with_reducible repeat first | apply bn_ | apply bd_ | apply ba_); refine blk_far ?_ NB264_293.out _; (with_reducible repeat first | apply bn_ | apply bd_ | apply ba_); exact BK264.out) hb); have n3_ := Aside0.mk (blk_below (g := gb269) (o := .cells #[.int .u64 t265, .int .u64 t266, .bool t267, .int .i64 t268] 26 (0, 0)) (by (with_reducible repeat first | apply bn_ | apply bd_ | apply ba_); refine blk_far ?_ NB269_293.out _; (with_reducible repeat first | apply bn_ | apply bd_ | apply ba_); refine blk_far ?_ NB269_293.out _; (with_reducible repeat first | apply bn_ | apply bd_ | apply ba_); refine blk_far ?_ NB269_293.out _; (with_reducible repeat first | apply bn_ | apply bd_ | apply ba_); exact BK269.out) hb); have n4_ := Aside0.mk (blk_below (g := gb284) (o := .cells #[.int .u64 t281, .int .u64 t282] 24 (0, 0)) (by (with_reducible repeat first | apply bn_ | apply bd_ | apply ba_); refine blk_far ?_ NB284_293.out _; (with_reducible repeat first | apply bn_ | apply bd_ | apply ba_); refine blk_far ?_ NB284_293.out _; (with_reducible repeat first | apply bn_ | apply bd_ | apply ba_); refine blk_far ?_ NB284_293.out _; (with_reducible repeat first | apply bn_ | apply bd_ | apply ba_); exact BK284.out) hb); have n5_ := Aside0.mk (blk_below (g := gb293) (o := .cells #[.int .u64 t290, .int .u64 t291, .int .u64 t292] 38 (0, 0)) (by (with_reducible repeat first | apply bn_ | apply bd_ | apply ba_); refine blk_put (cs := #[.int .u64 t290, .int .u64 t291, .int .u64 0]) ?_ 2 _ rfl; (with_reducible repeat first | apply bn_ | apply bd_ | apply ba_); refine blk_put (cs := #[.int .u64 t290, .int .u64 0, .int .u64 0]) ?_ 1 _ rfl; (with_reducible repeat first | apply bn_ | apply bd_ | apply ba_); refine blk_put (cs := #[.int .u64 0, .int .u64 0, .int .u64 0]) ?_ 0 _ rfl; (with_reducible repeat first | apply bn_ | apply bd_ | apply ba_); exact BK293.out) hb); have n6_ := Aside0.mk (below_step (by repeat (first | (with_reducible first | exact HB.out | apply below_alloc | apply pw_below_drewN | apply below_drew1 | refine below_set ?_ GE258.out | refine below_set ?_ GE259.out | refine below_set ?_ GE264.out | refine below_set ?_ GE269.out | refine below_set ?_ GE284.out | refine below_set ?_ GE293.out) | exact HB.out)) hb); clear BK258; clear BK259; clear BK264; clear BK269; clear BK284; clear BK293; clear HB; have BK258 := n0_; have BK259 := n1_; have BK264 := n2_; have BK269 := n3_; have BK284 := n4_; have BK293 := n5_; have HB := n6_; clear n0_ n1_ n2_ n3_ n4_ n5_ n6_; (try clear hb); (try clear hb2); (try clear hk); (try clear hi)) | ((with_reducible refine gate_dst (N := 12) rfl ?_); (try (refine gate_guard (by rfl) ?_; dsimp only)); refine box_event ?hg (N := 12) ?hd (cs := #[.int .u64 0, .int .u64 0]) (t := 24) ?hr ?_; (case hd => rfl); (case hg => rfl); (case hr => first | (go_simp; done) | (go_simp; rfl)); intro gb296 hg w90 hbox hb; have n0_ := Aside0.mk (blk_below (g := gb258) (o := .cells #[.int .u64 t254, .int .u64 t255] 24 (0, 0)) (by (with_reducible repeat first | apply bn_ | apply bd_ | apply ba_); exact BK258.out) hb); have n1_ := Aside0.mk (blk_below (g := gb259) (o := .cells #[.int .u64 t256, .int .u64 t257] 24 (0, 0)) (by (with_reducible repeat first | apply bn_ | apply bd_ | apply ba_); exact BK259.out) hb); have n2_ := Aside0.mk (blk_below (g := gb264) (o := .cells #[.int .u64 t260, .int .u64 t261, .bool t262, .int .i64 t263] 26 (0, 0)) (by (with_reducible repeat first | apply bn_ | apply bd_ | apply ba_); exact BK264.out) hb); have n3_ := Aside0.mk (blk_below (g := gb269) (o := .cells #[.int .u64 t265, .int .u64 t266, .bool t267, .int .i64 t268] 26 (0, 0)) (by (with_reducible repeat first | apply bn_ | apply bd_ | apply ba_); exact BK269.out) hb); have n4_ := Aside0.mk (blk_below (g := gb284) (o := .cells #[.int .u64 t281, .int .u64 t282] 24 (0, 0)) (by (with_reducible repeat first | apply bn_ | apply bd_ | apply ba_); exact BK284.out) hb); have n5_ := Aside0.mk (blk_below (g := gb293) (o := .cells #[.int .u64 t290, .int .u64 t291, .int .u64 t292] 38 (0, 0)) (by (with_reducible repeat first | apply bn_ | apply bd_ | apply ba_); exact BK293.out) hb); have n6_ := Aside0.mk (below_step (by repeat (first | (with_reducible first | exact HB.out | apply below_alloc | apply pw_below_drewN | apply below_drew1 | refine below_set ?_ GE258.out | refine below_set ?_ GE259.out | refine below_set ?_ GE264.out | refine below_set ?_ GE269.out | refine below_set ?_ GE284.out | refine below_set ?_ GE293.out) | exact HB.out)) hb); have n7_ := Aside0.mk (hbox); have n8_ := Aside0.mk ((by rw [hg]; exact (below_size (by repeat (first | (with_reducible first | exact HB.out | apply below_alloc | apply pw_below_drewN | apply below_drew1 | refine below_set ?_ GE258.out | refine below_set ?_ GE259.out | refine below_set ?_ GE264.out | refine below_set ?_ GE269.out | refine below_set ?_ GE284.out | refine below_set ?_ GE293.out) | exact HB.out))) : w.heap.size ≤ gb296)); have n9_ := Aside0.mk ((by rw [hg]; exact (below_size (by repeat (first | (with_reducible first | exact HB.out | apply below_alloc | apply pw_below_drewN | apply below_drew1 | refine below_set ?_ GE258.out | refine below_set ?_ GE259.out | refine below_set ?_ GE264.out | refine below_set ?_ GE269.out | refine below_set ?_ GE284.out | refine below_set ?_ GE293.out) | exact HB.out))) : w.heap.size ≤ gb296)); have n10_ := Aside0.mk ((by rw [hg]; exact Nat.ne_of_lt (blk_lt (g := gb258) (o := .cells #[.int .u64 t254, .int .u64 t255] 24 (0, 0)) (by (with_reducible repeat first | apply bn_ | apply bd_ | apply ba_); exact BK258.out)) : gb258 ≠ gb296)); have n11_ := Aside0.mk ((by rw [hg]; exact Nat.ne_of_gt (blk_lt (g := gb258) (o := .cells #[.int .u64 t254, .int .u64 t255] 24 (0, 0)) (by (with_reducible repeat first | apply bn_ | apply bd_ | apply ba_); exact BK258.out)) : gb296 ≠ gb258)); have n12_ := Aside0.mk ((by rw [hg]; exact Nat.ne_of_lt (blk_lt (g := gb259) (o := .cells #[.int .u64 t256, .int .u64 t257] 24 (0, 0)) (by (with_reducible repeat first | apply bn_ | apply bd_ | apply ba_); exact BK259.out)) : gb259 ≠ gb296)); have n13_ := Aside0.mk ((by rw [hg]; exact Nat.ne_of_gt (blk_lt (g := gb259) (o := .cells #[.int .u64 t256, .int .u64 t257] 24 (0, 0)) (by (with_reducible repeat first | apply bn_ | apply bd_ | apply ba_); exact BK259.out)) : gb296 ≠ gb259)); have n14_ := Aside0.mk ((by rw [hg]; exact Nat.ne_of_lt (blk_lt (g := gb264) (o := .cells #[.int .u64 t260, .int .u64 t261, .bool t262, .int .i64 t263] 26 (0, 0)) (by (with_reducible repeat first | apply bn_ | apply bd_ | apply ba_); exact BK264.out)) : gb264 ≠ gb296)); have n15_ := Aside0.mk ((by rw [hg]; exact Nat.ne_of_gt (blk_lt (g := gb264) (o := .cells #[.int .u64 t260, .int .u64 t261, .bool t262, .int .i64 t263] 26 (0, 0)) (by (with_reducible repeat first | apply bn_ | apply bd_ | apply ba_); exact BK264.out)) : gb296 ≠ gb264)); have n16_ := Aside0.mk ((by rw [hg]; exact Nat.ne_of_lt (blk_lt (g := gb269) (o := .cells #[.int .u64 t265, .int .u64 t266, .bool t267, .int .i64 t268] 26 (0, 0)) (by (with_reducible repeat first | apply bn_ | apply bd_ | apply ba_); exact BK269.out)) : gb269 ≠ gb296)); have n17_ := Aside0.mk ((by rw [hg]; exact Nat.ne_of_gt (blk_lt (g := gb269) (o := .cells #[.int .u64 t265, .int .u64 t266, .bool t267, .int .i64 t268] 26 (0, 0)) (by (with_reducible repeat first | apply bn_ | apply bd_ | apply ba_); exact BK269.out)) : gb296 ≠ gb269)); have n18_ := Aside0.mk ((by rw [hg]; exact Nat.ne_of_lt (blk_lt (g := gb284) (o := .cells #[.int .u64 t281, .int .u64 t282] 24 (0, 0)) (by (with_reducible repeat first | apply bn_ | apply bd_ | apply ba_); exact BK284.out)) : gb284 ≠ gb296)); have n19_ := Aside0.mk ((by rw [hg]; exact Nat.ne_of_gt (blk_lt (g := gb284) (o := .cells #[.int .u64 t281, .int .u64 t282] 24 (0, 0)) (by (with_reducible repeat first | apply bn_ | apply bd_ | apply ba_); exact BK284.out)) : gb296 ≠ gb284)); have n20_ := Aside0.mk ((by rw [hg]; exact Nat.ne_of_lt (blk_lt (g := gb293) (o := .cells #[.int .u64 t290, .int .u64 t291, .int .u64 t292] 38 (0, 0)) (by (with_reducible repeat first | apply bn_ | apply bd_ | apply ba_); exact BK293.out)) : gb293 ≠ gb296)); have n21_ := Aside0.mk ((by rw [hg]; exact Nat.ne_of_gt (blk_lt (g := gb293) (o := .cells #[.int .u64 t290, .int .u64 t291, .int .u64 t292] 38 (0, 0)) (by (with_reducible repeat first | apply bn_ | apply bd_ | apply ba_); exact BK293.out)) : gb296 ≠ gb293)); clear BK258; clear BK259; clear BK264; clear BK269; clear BK284; clear BK293; clear HB; have BK258 := n0_; have BK259 := n1_; have BK264 := n2_; have BK269 := n3_; have BK284 := n4_; have BK293 := n5_; have HB := n6_; have BK296 := n7_; have GW296 := n8_; have GE296 := n9_; have NB258_296 := n10_; have NB296_258 := n11_; have NB259_296 := n12_; have NB296_259 := n13_; have NB264_296 := n14_; have NB296_264 := n15_; have NB269_296 := n16_; have NB296_269 := n17_; have NB284_296 := n18_; have NB296_284 := n19_; have NB293_296 := n20_; have NB296_293 := n21_; clear n0_ n1_ n2_ n3_ n4_ n5_ n6_ n7_ n8_ n9_ n10_ n11_ n12_ n13_ n14_ n15_ n16_ n17_ n18_ n19_ n20_ n21_; clear hb hbox hg; have hnb91 := NB296_258.out; have hnc91 := NB258_296.out; have hnb92 := NB296_259.out; have hnc92 := NB259_296.out; have hnb93 := NB296_264.out; have hnc93 := NB264_296.out; have hnb94 := NB296_269.out; have hnc94 := NB269_296.out; have hnb95 := NB296_284.out; have hnc95 := NB284_296.out; have hnb96 := NB296_293.out; have hnc96 := NB293_296.out; have hcz97_0 : w90.cell? ⟨gb296, 0, none⟩ = some (.int .u64 0) := (blk_cell BK296.out 0).trans rfl; have hcz97_1 : w90.cell? ⟨gb296, 1, none⟩ = some (.int .u64 0) := (blk_cell BK296.out 1).trans rfl; have hfz97_0 := blk_frozen BK296.out 0; have hfz97_1 := blk_frozen BK296.out 1; have hcz98_0 : w90.cell? ⟨gb293, 0, none⟩ = some (.int .u64 t290) := (blk_cell BK293.out 0).trans rfl; have hcz98_1 : w90.cell? ⟨gb293, 1, none⟩ = some (.int .u64 t291) := (blk_cell BK293.out 1).trans rfl; have hcz98_2 : w90.cell? ⟨gb293, 2, none⟩ = some (.int .u64 t292) := (blk_cell BK293.out 2).trans rfl; have hfz98_0 := blk_frozen BK293.out 0; have hfz98_1 := blk_frozen BK293.out 1; have hfz98_2 := blk_frozen BK293.out 2) | ((with_reducible refine gate_callee (f := 14) rfl ?_); refine goesL_ (some 91) rfl rfl Tryd.func14 (by kernel_rfl) rfl #[.int .u64 t290, .int .u64 t283] rfl (by (try simp only [List.map_toArray, List.map_cons, List.map_nil]); first | done | rfl | (simp only [List.length_drop, List.length_take]; rfl)) ?_; (with_reducible refine (impl_WideMul.calls t290 t283 t297 t298 _ A71.out).mono ?_); rintro e w99 ⟨rfl, hb⟩; refine ⟨_, rfl, ?_⟩; have n0_ := Aside0.mk (blk_below (g := gb258) (o := .cells #[.int .u64 t254, .int .u64 t255] 24 (0, 0)) (by (with_reducible repeat first | apply bn_ | apply bd_ | apply ba_); refine blk_far ?_ NB258_296.out _; (with_reducible repeat first | apply bn_ | apply bd_ | apply ba_); refine blk_far ?_ NB258_296.out _; (with_reducible repeat first | apply bn_ | apply bd_ | apply ba_); exact BK258.out) hb); have n1_ := Aside0.mk (blk_below (g := gb259) (o := .cells #[.int .u64 t256, .int .u64 t257] 24 (0, 0)) (by (with_reducible repeat first | apply bn_ | apply bd_ | apply ba_); refine blk_far ?_ NB259_296.out _; (with_reducible repeat first | apply bn_ | apply bd_ | apply ba_); refine blk_far ?_ NB259_296.out _; (with_reducible repeat first | apply bn_ | apply bd_ | apply ba_); exact BK259.out) hb); have n2_ := Aside0.mk (blk_below (g := gb264) (o := .cells #[.int .u64 t260, .int .u64 t261, .bool t262, .int .i64 t263] 26 (0, 0)) (by (with_reducible repeat first | apply bn_ | apply bd_ | apply ba_); refine blk_far ?_ NB264_296.out _; (with_reducible repeat first | apply bn_ | apply bd_ | apply ba_); refine blk_far ?_ NB264_296.out _; (with_reducible repeat first | apply bn_ | apply bd_ | apply ba_); exact BK264.out) hb); have n3_ := Aside0.mk (blk_below (g := gb269) (o := .cells #[.int .u64 t265, .int .u64 t266, .bool t267, .int .i64 t268] 26 (0, 0)) (by (with_reducible repeat first | apply bn_ | apply bd_ | apply ba_); refine blk_far ?_ NB269_296.out _; (with_reducible repeat first | apply bn_ | apply bd_ | apply ba_); refine blk_far ?_ NB269_296.out _; (with_reducible repeat first | apply bn_ | apply bd_ | apply ba_); exact BK269.out) hb); have n4_ := Aside0.mk (blk_below (g := gb284) (o := .cells #[.int .u64 t281, .int .u64 t282] 24 (0, 0)) (by (with_reducible repeat first | apply bn_ | apply bd_ | apply ba_); refine blk_far ?_ NB284_296.out _; (with_reducible repeat first | apply bn_ | apply bd_ | apply ba_); refine blk_far ?_ NB284_296.out _; (with_reducible repeat first | apply bn_ | apply bd_ | apply ba_); exact BK284.out) hb); have n5_ := Aside0.mk (blk_below (g := gb293) (o := .cells #[.int .u64 t290, .int .u64 t291, .int .u64 t292] 38 (0, 0)) (by (with_reducible repeat first | apply bn_ | apply bd_ | apply ba_); refine blk_far ?_ NB293_296.out _; (with_reducible repeat first | apply bn_ | apply bd_ | apply ba_); refine blk_far ?_ NB293_296.out _; (with_reducible repeat first | apply bn_ | apply bd_ | apply ba_); exact BK293.out) hb); have n6_ := Aside0.mk (blk_below (g := gb296) (o := .cells #[.int .u64 t294, .int .u64 t295] 24 (0, 0)) (by (with_reducible repeat first | apply bn_ | apply bd_ | apply ba_); refine blk_put (cs := #[.int .u64 t294, .int .u64 0]) ?_ 1 _ rfl; (with_reducible repeat first | apply bn_ | apply bd_ | apply ba_); refine blk_put (cs := #[.int .u64 0, .int .u64 0]) ?_ 0 _ rfl; (with_reducible repeat first | apply bn_ | apply bd_ | apply ba_); exact BK296.out) hb); have n7_ := Aside0.mk (below_step (by repeat (first | (with_reducible first | exact HB.out | apply below_alloc | apply pw_below_drewN | apply below_drew1 | refine below_set ?_ GE258.out | refine below_set ?_ GE259.out | refine below_set ?_ GE264.out | refine below_set ?_ GE269.out | refine below_set ?_ GE284.out | refine below_set ?_ GE293.out | refine below_set ?_ GE296.out) | exact HB.out)) hb); clear BK258; clear BK259; clear BK264; clear BK269; clear BK284; clear BK293; clear BK296; clear HB; have BK258 := n0_; have BK259 := n1_; have BK264 := n2_; have BK269 := n3_; have BK284 := n4_; have BK293 := n5_; have BK296 := n6_; have HB := n7_; clear n0_ n1_ n2_ n3_ n4_ n5_ n6_ n7_; (try clear hb); (try clear hb2); (try clear hk); (try clear hi)) | ((with_reducible refine gate_dst (N := 13) rfl ?_); (try (refine gate_guard (by rfl) ?_; dsimp only)); refine box_event ?hg (N := 13) ?hd (cs := #[.int .u64 0, .int .u64 0]) (t := 24) ?hr ?_; (case hd => rfl); (case hg => rfl); (case hr => first | (go_simp; done) | (go_simp; rfl)); intro gb299 hg w100 hbox hb; have n0_ := Aside0.mk (blk_below (g := gb258) (o := .cells #[.int .u64 t254, .int .u64 t255] 24 (0, 0)) (by (with_reducible repeat first | apply bn_ | apply bd_ | apply ba_); exact BK258.out) hb); have n1_ := Aside0.mk (blk_below (g := gb259) (o := .cells #[.int .u64 t256, .int .u64 t257] 24 (0, 0)) (by (with_reducible repeat first | apply bn_ | apply bd_ | apply ba_); exact BK259.out) hb); have n2_ := Aside0.mk (blk_below (g := gb264) (o := .cells #[.int .u64 t260, .int .u64 t261, .bool t262, .int .i64 t263] 26 (0, 0)) (by (with_reducible repeat first | apply bn_ | apply bd_ | apply ba_); exact BK264.out) hb); have n3_ := Aside0.mk (blk_below (g := gb269) (o := .cells #[.int .u64 t265, .int .u64 t266, .bool t267, .int .i64 t268] 26 (0, 0)) (by (with_reducible repeat first | apply bn_ | apply bd_ | apply ba_); exact BK269.out) hb); have n4_ := Aside0.mk (blk_below (g := gb284) (o := .cells #[.int .u64 t281, .int .u64 t282] 24 (0, 0)) (by (with_reducible repeat first | apply bn_ | apply bd_ | apply ba_); exact BK284.out) hb); have n5_ := Aside0.mk (blk_below (g := gb293) (o := .cells #[.int .u64 t290, .int .u64 t291, .int .u64 t292] 38 (0, 0)) (by (with_reducible repeat first | apply bn_ | apply bd_ | apply ba_); exact BK293.out) hb); have n6_ := Aside0.mk (blk_below (g := gb296) (o := .cells #[.int .u64 t294, .int .u64 t295] 24 (0, 0)) (by (with_reducible repeat first | apply bn_ | apply bd_ | apply ba_); exact BK296.out) hb); have n7_ := Aside0.mk (below_step (by repeat (first | (with_reducible first | exact HB.out | apply below_alloc | apply pw_below_drewN | apply below_drew1 | refine below_set ?_ GE258.out | refine below_set ?_ GE259.out | refine below_set ?_ GE264.out | refine below_set ?_ GE269.out | refine below_set ?_ GE284.out | refine below_set ?_ GE293.out | refine below_set ?_ GE296.out) | exact HB.out)) hb); have n8_ := Aside0.mk (hbox); have n9_ := Aside0.mk ((by rw [hg]; exact (below_size (by repeat (first | (with_reducible first | exact HB.out | apply below_alloc | apply pw_below_drewN | apply below_drew1 | refine below_set ?_ GE258.out | refine below_set ?_ GE259.out | refine below_set ?_ GE264.out | refine below_set ?_ GE269.out | refine below_set ?_ GE284.out | refine below_set ?_ GE293.out | refine below_set ?_ GE296.out) | exact HB.out))) : w.heap.size ≤ gb299)); have n10_ := Aside0.mk ((by rw [hg]; exact (below_size (by repeat (first | (with_reducible first | exact HB.out | apply below_alloc | apply pw_below_drewN | apply below_drew1 | refine below_set ?_ GE258.out | refine below_set ?_ GE259.out | refine below_set ?_ GE264.out | refine below_set ?_ GE269.out | refine below_set ?_ GE284.out | refine below_set ?_ GE293.out | refine below_set ?_ GE296.out) | exact HB.out))) : w.heap.size ≤ gb299)); have n11_ := Aside0.mk ((by rw [hg]; exact Nat.ne_of_lt (blk_lt (g := gb258) (o := .cells #[.int .u64 t254, .int .u64 t255] 24 (0, 0)) (by (with_reducible repeat first | apply bn_ | apply bd_ | apply ba_); exact BK258.out)) : gb258 ≠ gb299)); have n12_ := Aside0.mk ((by rw [hg]; exact Nat.ne_of_gt (blk_lt (g := gb258) (o := .cells #[.int .u64 t254, .int .u64 t255] 24 (0, 0)) (by (with_reducible repeat first | apply bn_ | apply bd_ | apply ba_); exact BK258.out)) : gb299 ≠ gb258)); have n13_ := Aside0.mk ((by rw [hg]; exact Nat.ne_of_lt (blk_lt (g := gb259) (o := .cells #[.int .u64 t256, .int .u64 t257] 24 (0, 0)) (by (with_reducible repeat first | apply bn_ | apply bd_ | apply ba_); exact BK259.out)) : gb259 ≠ gb299)); have n14_ := Aside0.mk ((by rw [hg]; exact Nat.ne_of_gt (blk_lt (g := gb259) (o := .cells #[.int .u64 t256, .int .u64 t257] 24 (0, 0)) (by (with_reducible repeat first | apply bn_ | apply bd_ | apply ba_); exact BK259.out)) : gb299 ≠ gb259)); have n15_ := Aside0.mk ((by rw [hg]; exact Nat.ne_of_lt (blk_lt (g := gb264) (o := .cells #[.int .u64 t260, .int .u64 t261, .bool t262, .int .i64 t263] 26 (0, 0)) (by (with_reducible repeat first | apply bn_ | apply bd_ | apply ba_); exact BK264.out)) : gb264 ≠ gb299)); have n16_ := Aside0.mk ((by rw [hg]; exact Nat.ne_of_gt (blk_lt (g := gb264) (o := .cells #[.int .u64 t260, .int .u64 t261, .bool t262, .int .i64 t263] 26 (0, 0)) (by (with_reducible repeat first | apply bn_ | apply bd_ | apply ba_); exact BK264.out)) : gb299 ≠ gb264)); have n17_ := Aside0.mk ((by rw [hg]; exact Nat.ne_of_lt (blk_lt (g := gb269) (o := .cells #[.int .u64 t265, .int .u64 t266, .bool t267, .int .i64 t268] 26 (0, 0)) (by (with_reducible repeat first | apply bn_ | apply bd_ | apply ba_); exact BK269.out)) : gb269 ≠ gb299)); have n18_ := Aside0.mk ((by rw [hg]; exact Nat.ne_of_gt (blk_lt (g := gb269) (o := .cells #[.int .u64 t265, .int .u64 t266, .bool t267, .int .i64 t268] 26 (0, 0)) (by (with_reducible repeat first | apply bn_ | apply bd_ | apply ba_); exact BK269.out)) : gb299 ≠ gb269)); have n19_ := Aside0.mk ((by rw [hg]; exact Nat.ne_of_lt (blk_lt (g := gb284) (o := .cells #[.int .u64 t281, .int .u64 t282] 24 (0, 0)) (by (with_reducible repeat first | apply bn_ | apply bd_ | apply ba_); exact BK284.out)) : gb284 ≠ gb299)); have n20_ := Aside0.mk ((by rw [hg]; exact Nat.ne_of_gt (blk_lt (g := gb284) (o := .cells #[.int .u64 t281, .int .u64 t282] 24 (0, 0)) (by (with_reducible repeat first | apply bn_ | apply bd_ | apply ba_); exact BK284.out)) : gb299 ≠ gb284)); have n21_ := Aside0.mk ((by rw [hg]; exact Nat.ne_of_lt (blk_lt (g := gb293) (o := .cells #[.int .u64 t290, .int .u64 t291, .int .u64 t292] 38 (0, 0)) (by (with_reducible repeat first | apply bn_ | apply bd_ | apply ba_); exact BK293.out)) : gb293 ≠ gb299)); have n22_ := Aside0.mk ((by rw [hg]; exact Nat.ne_of_gt (blk_lt (g := gb293) (o := .cells #[.int .u64 t290, .int .u64 t291, .int .u64 t292] 38 (0, 0)) (by (with_reducible repeat first | apply bn_ | apply bd_ | apply ba_); exact BK293.out)) : gb299 ≠ gb293)); have n23_ := Aside0.mk ((by rw [hg]; exact Nat.ne_of_lt (blk_lt (g := gb296) (o := .cells #[.int .u64 t294, .int .u64 t295] 24 (0, 0)) (by (with_reducible repeat first | apply bn_ | apply bd_ | apply ba_); exact BK296.out)) : gb296 ≠ gb299)); have n24_ := Aside0.mk ((by rw [hg]; exact Nat.ne_of_gt (blk_lt (g := gb296) (o := .cells #[.int .u64 t294, .int .u64 t295] 24 (0, 0)) (by (with_reducible repeat first | apply bn_ | apply bd_ | apply ba_); exact BK296.out)) : gb299 ≠ gb296)); clear BK258; clear BK259; clear BK264; clear BK269; clear BK284; clear BK293; clear BK296; clear HB; have BK258 := n0_; have BK259 := n1_; have BK264 := n2_; have BK269 := n3_; have BK284 := n4_; have BK293 := n5_; have BK296 := n6_; have HB := n7_; have BK299 := n8_; have GW299 := n9_; have GE299 := n10_; have NB258_299 := n11_; have NB299_258 := n12_; have NB259_299 := n13_; have NB299_259 := n14_; have NB264_299 := n15_; have NB299_264 := n16_; have NB269_299 := n17_; have NB299_269 := n18_; have NB284_299 := n19_; have NB299_284 := n20_; have NB293_299 := n21_; have NB299_293 := n22_; have NB296_299 := n23_; have NB299_296 := n24_; clear n0_ n1_ n2_ n3_ n4_ n5_ n6_ n7_ n8_ n9_ n10_ n11_ n12_ n13_ n14_ n15_ n16_ n17_ n18_ n19_ n20_ n21_ n22_ n23_ n24_; clear hb hbox hg; have hnb101 := NB299_258.out; have hnc101 := NB258_299.out; have hnb102 := NB299_259.out; have hnc102 := NB259_299.out; have hnb103 := NB299_264.out; have hnc103 := NB264_299.out; have hnb104 := NB299_269.out; have hnc104 := NB269_299.out; have hnb105 := NB299_284.out; have hnc105 := NB284_299.out; have hnb106 := NB299_293.out; have hnc106 := NB293_299.out; have hnb107 := NB299_296.out; have hnc107 := NB296_299.out; have hcz108_0 : w100.cell? ⟨gb299, 0, none⟩ = some (.int .u64 0) := (blk_cell BK299.out 0).trans rfl; have hcz108_1 : w100.cell? ⟨gb299, 1, none⟩ = some (.int .u64 0) := (blk_cell BK299.out 1).trans rfl; have hfz108_0 := blk_frozen BK299.out 0; have hfz108_1 := blk_frozen BK299.out 1; have hcz109_0 : w100.cell? ⟨gb296, 0, none⟩ = some (.int .u64 t294) := (blk_cell BK296.out 0).trans rfl; have hcz109_1 : w100.cell? ⟨gb296, 1, none⟩ = some (.int .u64 t295) := (blk_cell BK296.out 1).trans rfl; have hfz109_0 := blk_frozen BK296.out 0; have hfz109_1 := blk_frozen BK296.out 1) | ((with_reducible refine gate_callee (f := 9) rfl ?_); refine goesL_ (some 96) rfl rfl Tryd.func9 (by kernel_rfl) rfl #[.agg #[.int .u64 t294, .int .u64 t295], .agg #[.int .u64 t298, .int .u64 0]] rfl (by (try simp only [List.map_toArray, List.map_cons, List.map_nil]); first | done | rfl | (simp only [List.length_drop, List.length_take]; rfl)) ?_; (with_reducible refine (impl_WideAdd.calls t294 t295 t298 0 t300 t301 t302 t303 _ A72.out).mono ?_); rintro e w110 ⟨rfl, hb⟩; refine ⟨_, rfl, ?_⟩; have n0_ := Aside0.mk (blk_below (g := gb258) (o := .cells #[.int .u64 t254, .int .u64 t255] 24 (0, 0)) (by (with_reducible repeat first | apply bn_ | apply bd_ | apply ba_); refine blk_far ?_ NB258_299.out _; (with_reducible repeat first | apply bn_ | apply bd_ | apply ba_); refine blk_far ?_ NB258_299.out _; (with_reducible repeat first | apply bn_ | apply bd_ | apply ba_); exact BK258.out) hb); have n1_ := Aside0.mk (blk_below (g := gb259) (o := .cells #[.int .u64 t256, .int .u64 t257] 24 (0, 0)) (by (with_reducible repeat first | apply bn_ | apply bd_ | apply ba_); refine blk_far ?_ NB259_299.out _; (with_reducible repeat first | apply bn_ | apply bd_ | apply ba_); refine blk_far ?_ NB259_299.out _; (with_reducible repeat first | apply bn_ | apply bd_ | apply ba_); exact BK259.out) hb); have n2_ := Aside0.mk (blk_below (g := gb264) (o := .cells #[.int .u64 t260, .int .u64 t261, .bool t262, .int .i64 t263] 26 (0, 0)) (by (with_reducible repeat first | apply bn_ | apply bd_ | apply ba_); refine blk_far ?_ NB264_299.out _; (with_reducible repeat first | apply bn_ | apply bd_ | apply ba_); refine blk_far ?_ NB264_299.out _; (with_reducible repeat first | apply bn_ | apply bd_ | apply ba_); exact BK264.out) hb); have n3_ := Aside0.mk (blk_below (g := gb269) (o := .cells #[.int .u64 t265, .int .u64 t266, .bool t267, .int .i64 t268] 26 (0, 0)) (by (with_reducible repeat first | apply bn_ | apply bd_ | apply ba_); refine blk_far ?_ NB269_299.out _; (with_reducible repeat first | apply bn_ | apply bd_ | apply ba_); refine blk_far ?_ NB269_299.out _; (with_reducible repeat first | apply bn_ | apply bd_ | apply ba_); exact BK269.out) hb); have n4_ := Aside0.mk (blk_below (g := gb284) (o := .cells #[.int .u64 t281, .int .u64 t282] 24 (0, 0)) (by (with_reducible repeat first | apply bn_ | apply bd_ | apply ba_); refine blk_far ?_ NB284_299.out _; (with_reducible repeat first | apply bn_ | apply bd_ | apply ba_); refine blk_far ?_ NB284_299.out _; (with_reducible repeat first | apply bn_ | apply bd_ | apply ba_); exact BK284.out) hb); have n5_ := Aside0.mk (blk_below (g := gb293) (o := .cells #[.int .u64 t290, .int .u64 t291, .int .u64 t292] 38 (0, 0)) (by (with_reducible repeat first | apply bn_ | apply bd_ | apply ba_); refine blk_far ?_ NB293_299.out _; (with_reducible repeat first | apply bn_ | apply bd_ | apply ba_); refine blk_far ?_ NB293_299.out _; (with_reducible repeat first | apply bn_ | apply bd_ | apply ba_); exact BK293.out) hb); have n6_ := Aside0.mk (blk_below (g := gb296) (o := .cells #[.int .u64 t294, .int .u64 t295] 24 (0, 0)) (by (with_reducible repeat first | apply bn_ | apply bd_ | apply ba_); refine blk_far ?_ NB296_299.out _; (with_reducible repeat first | apply bn_ | apply bd_ | apply ba_); refine blk_far ?_ NB296_299.out _; (with_reducible repeat first | apply bn_ | apply bd_ | apply ba_); exact BK296.out) hb); have n7_ := Aside0.mk (blk_below (g := gb299) (o := .cells #[.int .u64 t297, .int .u64 t298] 24 (0, 0)) (by (with_reducible repeat first | apply bn_ | apply bd_ | apply ba_); refine blk_put (cs := #[.int .u64 t297, .int .u64 0]) ?_ 1 _ rfl; (with_reducible repeat first | apply bn_ | apply bd_ | apply ba_); refine blk_put (cs := #[.int .u64 0, .int .u64 0]) ?_ 0 _ rfl; (with_reducible repeat first | apply bn_ | apply bd_ | apply ba_); exact BK299.out) hb); have n8_ := Aside0.mk (below_step (by repeat (first | (with_reducible first | exact HB.out | apply below_alloc | apply pw_below_drewN | apply below_drew1 | refine below_set ?_ GE258.out | refine below_set ?_ GE259.out | refine below_set ?_ GE264.out | refine below_set ?_ GE269.out | refine below_set ?_ GE284.out | refine below_set ?_ GE293.out | refine below_set ?_ GE296.out | refine below_set ?_ GE299.out) | exact HB.out)) hb); clear BK258; clear BK259; clear BK264; clear BK269; clear BK284; clear BK293; clear BK296; clear BK299; clear HB; have BK258 := n0_; have BK259 := n1_; have BK264 := n2_; have BK269 := n3_; have BK284 := n4_; have BK293 := n5_; have BK296 := n6_; have BK299 := n7_; have HB := n8_; clear n0_ n1_ n2_ n3_ n4_ n5_ n6_ n7_ n8_; (try clear hb); (try clear hb2); (try clear hk); (try clear hi)) | ((with_reducible refine gate_dst (N := 14) rfl ?_); (try (refine gate_guard (by rfl) ?_; dsimp only)); refine box_event ?hg (N := 14) ?hd (cs := #[.int .u64 0, .int .u64 0, .bool false, .int .i64 0]) (t := 26) ?hr ?_; (case hd => rfl); (case hg => rfl); (case hr => first | (go_simp; done) | (go_simp; rfl)); intro gb304 hg w111 hbox hb; have n0_ := Aside0.mk (blk_below (g := gb258) (o := .cells #[.int .u64 t254, .int .u64 t255] 24 (0, 0)) (by (with_reducible repeat first | apply bn_ | apply bd_ | apply ba_); exact BK258.out) hb); have n1_ := Aside0.mk (blk_below (g := gb259) (o := .cells #[.int .u64 t256, .int .u64 t257] 24 (0, 0)) (by (with_reducible repeat first | apply bn_ | apply bd_ | apply ba_); exact BK259.out) hb); have n2_ := Aside0.mk (blk_below (g := gb264) (o := .cells #[.int .u64 t260, .int .u64 t261, .bool t262, .int .i64 t263] 26 (0, 0)) (by (with_reducible repeat first | apply bn_ | apply bd_ | apply ba_); exact BK264.out) hb); have n3_ := Aside0.mk (blk_below (g := gb269) (o := .cells #[.int .u64 t265, .int .u64 t266, .bool t267, .int .i64 t268] 26 (0, 0)) (by (with_reducible repeat first | apply bn_ | apply bd_ | apply ba_); exact BK269.out) hb); have n4_ := Aside0.mk (blk_below (g := gb284) (o := .cells #[.int .u64 t281, .int .u64 t282] 24 (0, 0)) (by (with_reducible repeat first | apply bn_ | apply bd_ | apply ba_); exact BK284.out) hb); have n5_ := Aside0.mk (blk_below (g := gb293) (o := .cells #[.int .u64 t290, .int .u64 t291, .int .u64 t292] 38 (0, 0)) (by (with_reducible repeat first | apply bn_ | apply bd_ | apply ba_); exact BK293.out) hb); have n6_ := Aside0.mk (blk_below (g := gb296) (o := .cells #[.int .u64 t294, .int .u64 t295] 24 (0, 0)) (by (with_reducible repeat first | apply bn_ | apply bd_ | apply ba_); exact BK296.out) hb); have n7_ := Aside0.mk (blk_below (g := gb299) (o := .cells #[.int .u64 t297, .int .u64 t298] 24 (0, 0)) (by (with_reducible repeat first | apply bn_ | apply bd_ | apply ba_); exact BK299.out) hb); have n8_ := Aside0.mk (below_step (by repeat (first | (with_reducible first | exact HB.out | apply below_alloc | apply pw_below_drewN | apply below_drew1 | refine below_set ?_ GE258.out | refine below_set ?_ GE259.out | refine below_set ?_ GE264.out | refine below_set ?_ GE269.out | refine below_set ?_ GE284.out | refine below_set ?_ GE293.out | refine below_set ?_ GE296.out | refine below_set ?_ GE299.out) | exact HB.out)) hb); have n9_ := Aside0.mk (hbox); have n10_ := Aside0.mk ((by rw [hg]; exact (below_size (by repeat (first | (with_reducible first | exact HB.out | apply below_alloc | apply pw_below_drewN | apply below_drew1 | refine below_set ?_ GE258.out | refine below_set ?_ GE259.out | refine below_set ?_ GE264.out | refine below_set ?_ GE269.out | refine below_set ?_ GE284.out | refine below_set ?_ GE293.out | refine below_set ?_ GE296.out | refine below_set ?_ GE299.out) | exact HB.out))) : w.heap.size ≤ gb304)); have n11_ := Aside0.mk ((by rw [hg]; exact (below_size (by repeat (first | (with_reducible first | exact HB.out | apply below_alloc | apply pw_below_drewN | apply below_drew1 | refine below_set ?_ GE258.out | refine below_set ?_ GE259.out | refine below_set ?_ GE264.out | refine below_set ?_ GE269.out | refine below_set ?_ GE284.out | refine below_set ?_ GE293.out | refine below_set ?_ GE296.out | refine below_set ?_ GE299.out) | exact HB.out))) : w.heap.size ≤ gb304)); have n12_ := Aside0.mk ((by rw [hg]; exact Nat.ne_of_lt (blk_lt (g := gb258) (o := .cells #[.int .u64 t254, .int .u64 t255] 24 (0, 0)) (by (with_reducible repeat first | apply bn_ | apply bd_ | apply ba_); exact BK258.out)) : gb258 ≠ gb304)); have n13_ := Aside0.mk ((by rw [hg]; exact Nat.ne_of_gt (blk_lt (g := gb258) (o := .cells #[.int .u64 t254, .int .u64 t255] 24 (0, 0)) (by (with_reducible repeat first | apply bn_ | apply bd_ | apply ba_); exact BK258.out)) : gb304 ≠ gb258)); have n14_ := Aside0.mk ((by rw [hg]; exact Nat.ne_of_lt (blk_lt (g := gb259) (o := .cells #[.int .u64 t256, .int .u64 t257] 24 (0, 0)) (by (with_reducible repeat first | apply bn_ | apply bd_ | apply ba_); exact BK259.out)) : gb259 ≠ gb304)); have n15_ := Aside0.mk ((by rw [hg]; exact Nat.ne_of_gt (blk_lt (g := gb259) (o := .cells #[.int .u64 t256, .int .u64 t257] 24 (0, 0)) (by (with_reducible repeat first | apply bn_ | apply bd_ | apply ba_); exact BK259.out)) : gb304 ≠ gb259)); have n16_ := Aside0.mk ((by rw [hg]; exact Nat.ne_of_lt (blk_lt (g := gb264) (o := .cells #[.int .u64 t260, .int .u64 t261, .bool t262, .int .i64 t263] 26 (0, 0)) (by (with_reducible repeat first | apply bn_ | apply bd_ | apply ba_); exact BK264.out)) : gb264 ≠ gb304)); have n17_ := Aside0.mk ((by rw [hg]; exact Nat.ne_of_gt (blk_lt (g := gb264) (o := .cells #[.int .u64 t260, .int .u64 t261, .bool t262, .int .i64 t263] 26 (0, 0)) (by (with_reducible repeat first | apply bn_ | apply bd_ | apply ba_); exact BK264.out)) : gb304 ≠ gb264)); have n18_ := Aside0.mk ((by rw [hg]; exact Nat.ne_of_lt (blk_lt (g := gb269) (o := .cells #[.int .u64 t265, .int .u64 t266, .bool t267, .int .i64 t268] 26 (0, 0)) (by (with_reducible repeat first | apply bn_ | apply bd_ | apply ba_); exact BK269.out)) : gb269 ≠ gb304)); have n19_ := Aside0.mk ((by rw [hg]; exact Nat.ne_of_gt (blk_lt (g := gb269) (o := .cells #[.int .u64 t265, .int .u64 t266, .bool t267, .int .i64 t268] 26 (0, 0)) (by (with_reducible repeat first | apply bn_ | apply bd_ | apply ba_); exact BK269.out)) : gb304 ≠ gb269)); have n20_ := Aside0.mk ((by rw [hg]; exact Nat.ne_of_lt (blk_lt (g := gb284) (o := .cells #[.int .u64 t281, .int .u64 t282] 24 (0, 0)) (by (with_reducible repeat first | apply bn_ | apply bd_ | apply ba_); exact BK284.out)) : gb284 ≠ gb304)); have n21_ := Aside0.mk ((by rw [hg]; exact Nat.ne_of_gt (blk_lt (g := gb284) (o := .cells #[.int .u64 t281, .int .u64 t282] 24 (0, 0)) (by (with_reducible repeat first | apply bn_ | apply bd_ | apply ba_); exact BK284.out)) : gb304 ≠ gb284)); have n22_ := Aside0.mk ((by rw [hg]; exact Nat.ne_of_lt (blk_lt (g := gb293) (o := .cells #[.int .u64 t290, .int .u64 t291, .int .u64 t292] 38 (0, 0)) (by (with_reducible repeat first | apply bn_ | apply bd_ | apply ba_); exact BK293.out)) : gb293 ≠ gb304)); have n23_ := Aside0.mk ((by rw [hg]; exact Nat.ne_of_gt (blk_lt (g := gb293) (o := .cells #[.int .u64 t290, .int .u64 t291, .int .u64 t292] 38 (0, 0)) (by (with_reducible repeat first | apply bn_ | apply bd_ | apply ba_); exact BK293.out)) : gb304 ≠ gb293)); have n24_ := Aside0.mk ((by rw [hg]; exact Nat.ne_of_lt (blk_lt (g := gb296) (o := .cells #[.int .u64 t294, .int .u64 t295] 24 (0, 0)) (by (with_reducible repeat first | apply bn_ | apply bd_ | apply ba_); exact BK296.out)) : gb296 ≠ gb304)); have n25_ := Aside0.mk ((by rw [hg]; exact Nat.ne_of_gt (blk_lt (g := gb296) (o := .cells #[.int .u64 t294, .int .u64 t295] 24 (0, 0)) (by (with_reducible repeat first | apply bn_ | apply bd_ | apply ba_); exact BK296.out)) : gb304 ≠ gb296)); have n26_ := Aside0.mk ((by rw [hg]; exact Nat.ne_of_lt (blk_lt (g := gb299) (o := .cells #[.int .u64 t297, .int .u64 t298] 24 (0, 0)) (by (with_reducible repeat first | apply bn_ | apply bd_ | apply ba_); exact BK299.out)) : gb299 ≠ gb304)); have n27_ := Aside0.mk ((by rw [hg]; exact Nat.ne_of_gt (blk_lt (g := gb299) (o := .cells #[.int .u64 t297, .int .u64 t298] 24 (0, 0)) (by (with_reducible repeat first | apply bn_ | apply bd_ | apply ba_); exact BK299.out)) : gb304 ≠ gb299)); clear BK258; clear BK259; clear BK264; clear BK269; clear BK284; clear BK293; clear BK296; clear BK299; clear HB; have BK258 := n0_; have BK259 := n1_; have BK264 := n2_; have BK269 := n3_; have BK284 := n4_; have BK293 := n5_; have BK296 := n6_; have BK299 := n7_; have HB := n8_; have BK304 := n9_; have GW304 := n10_; have GE304 := n11_; have NB258_304 := n12_; have NB304_258 := n13_; have NB259_304 := n14_; have NB304_259 := n15_; have NB264_304 := n16_; have NB304_264 := n17_; have NB269_304 := n18_; have NB304_269 := n19_; have NB284_304 := n20_; have NB304_284 := n21_; have NB293_304 := n22_; have NB304_293 := n23_; have NB296_304 := n24_; have NB304_296 := n25_; have NB299_304 := n26_; have NB304_299 := n27_; clear n0_ n1_ n2_ n3_ n4_ n5_ n6_ n7_ n8_ n9_ n10_ n11_ n12_ n13_ n14_ n15_ n16_ n17_ n18_ n19_ n20_ n21_ n22_ n23_ n24_ n25_ n26_ n27_; clear hb hbox hg; have hnb112 := NB304_258.out; have hnc112 := NB258_304.out; have hnb113 := NB304_259.out; have hnc113 := NB259_304.out; have hnb114 := NB304_264.out; have hnc114 := NB264_304.out; have hnb115 := NB304_269.out; have hnc115 := NB269_304.out; have hnb116 := NB304_284.out; have hnc116 := NB284_304.out; have hnb117 := NB304_293.out; have hnc117 := NB293_304.out; have hnb118 := NB304_296.out; have hnc118 := NB296_304.out; have hnb119 := NB304_299.out; have hnc119 := NB299_304.out; have hcz120_0 : w111.cell? ⟨gb304, 0, none⟩ = some (.int .u64 0) := (blk_cell BK304.out 0).trans rfl; have hcz120_1 : w111.cell? ⟨gb304, 1, none⟩ = some (.int .u64 0) := (blk_cell BK304.out 1).trans rfl; have hcz120_2 : w111.cell? ⟨gb304, 2, none⟩ = some (.bool false) := (blk_cell BK304.out 2).trans rfl; have hcz120_3 : w111.cell? ⟨gb304, 3, none⟩ = some (.int .i64 0) := (blk_cell BK304.out 3).trans rfl; have hfz120_0 := blk_frozen BK304.out 0; have hfz120_1 := blk_frozen BK304.out 1; have hfz120_2 := blk_frozen BK304.out 2; have hfz120_3 := blk_frozen BK304.out 3))
                      (try simp only [Act.put, List.setIfInBounds_toArray, List.set_cons_zero, List.set_cons_succ])
                      go_cut [111] (fun v111 wc => ∃ (kq : Nat) (x111_72 : Bool), v111 = .bool x111_72 ∧ Aside0 (laws_FnWide.j3 kq x111_72 t281 t282 = some r) ∧ Aside0 (kq ≤ kj38) ∧ Aside0 (wc.heap[gb258]? = some (.cells #[.int .u64 t254, .int .u64 t255] 24 (0, 0))) ∧ Aside0 (wc.heap[gb259]? = some (.cells #[.int .u64 t256, .int .u64 t257] 24 (0, 0))) ∧ Aside0 (wc.heap[gb264]? = some (.cells #[.int .u64 t260, .int .u64 t261, .bool t262, .int .i64 t263] 26 (0, 0))) ∧ Aside0 (wc.heap[gb269]? = some (.cells #[.int .u64 t265, .int .u64 t266, .bool t267, .int .i64 t268] 26 (0, 0))) ∧ Aside0 (wc.heap[gb284]? = some (.cells #[.int .u64 t281, .int .u64 t282] 24 (0, 0))) ∧ Aside0 (wc.heap[gb293]? = some (.cells #[.int .u64 t290, .int .u64 t291, .int .u64 t292] 38 (0, 0))) ∧ Aside0 (wc.heap[gb296]? = some (.cells #[.int .u64 t294, .int .u64 t295] 24 (0, 0))) ∧ Aside0 (wc.heap[gb299]? = some (.cells #[.int .u64 t297, .int .u64 t298] 24 (0, 0))) ∧ Aside0 (wc.heap[gb304]? = some (.cells #[.int .u64 t300, .int .u64 t301, .bool t302, .int .i64 t303] 26 (0, 0))) ∧ Aside0 (Below w.heap.size w wc))
                      case first =>
                        have H := HC73.out
                        clear HC73
                        by_cases c121 : t292 ≥ t283
                        · rw [if_pos c121] at H
                          have c121b0 : decide (t283 ≤ t292) = true := decide_eq_true c121
                          clear c121
                          (first | rw [c121b0] | (simp only [i64_w, i32_w]; rw [c121b0]) | skip)
                          have H' := Aside0.mk H
                          clear H
                          try go_wp2
                          have n0_ : Aside0 (((((w111.setCell ⟨gb304, 0, none⟩ (.int .u64 t300)).setCell ⟨gb304, 1, none⟩ (.int .u64 t301)).setCell ⟨gb304, 2, none⟩ (.bool t302)).setCell ⟨gb304, 3, none⟩ (.int .i64 t303)).heap[gb258]? = some (.cells #[.int .u64 t254, .int .u64 t255] 24 (0, 0))) := ⟨by (with_reducible repeat first | apply bn_ | apply bd_ | apply ba_); refine blk_far ?_ NB258_304.out _; (with_reducible repeat first | apply bn_ | apply bd_ | apply ba_); refine blk_far ?_ NB258_304.out _; (with_reducible repeat first | apply bn_ | apply bd_ | apply ba_); refine blk_far ?_ NB258_304.out _; (with_reducible repeat first | apply bn_ | apply bd_ | apply ba_); refine blk_far ?_ NB258_304.out _; (with_reducible repeat first | apply bn_ | apply bd_ | apply ba_); exact BK258.out⟩
                          have n1_ : Aside0 (((((w111.setCell ⟨gb304, 0, none⟩ (.int .u64 t300)).setCell ⟨gb304, 1, none⟩ (.int .u64 t301)).setCell ⟨gb304, 2, none⟩ (.bool t302)).setCell ⟨gb304, 3, none⟩ (.int .i64 t303)).heap[gb259]? = some (.cells #[.int .u64 t256, .int .u64 t257] 24 (0, 0))) := ⟨by (with_reducible repeat first | apply bn_ | apply bd_ | apply ba_); refine blk_far ?_ NB259_304.out _; (with_reducible repeat first | apply bn_ | apply bd_ | apply ba_); refine blk_far ?_ NB259_304.out _; (with_reducible repeat first | apply bn_ | apply bd_ | apply ba_); refine blk_far ?_ NB259_304.out _; (with_reducible repeat first | apply bn_ | apply bd_ | apply ba_); refine blk_far ?_ NB259_304.out _; (with_reducible repeat first | apply bn_ | apply bd_ | apply ba_); exact BK259.out⟩
                          have n2_ : Aside0 (((((w111.setCell ⟨gb304, 0, none⟩ (.int .u64 t300)).setCell ⟨gb304, 1, none⟩ (.int .u64 t301)).setCell ⟨gb304, 2, none⟩ (.bool t302)).setCell ⟨gb304, 3, none⟩ (.int .i64 t303)).heap[gb264]? = some (.cells #[.int .u64 t260, .int .u64 t261, .bool t262, .int .i64 t263] 26 (0, 0))) := ⟨by (with_reducible repeat first | apply bn_ | apply bd_ | apply ba_); refine blk_far ?_ NB264_304.out _; (with_reducible repeat first | apply bn_ | apply bd_ | apply ba_); refine blk_far ?_ NB264_304.out _; (with_reducible repeat first | apply bn_ | apply bd_ | apply ba_); refine blk_far ?_ NB264_304.out _; (with_reducible repeat first | apply bn_ | apply bd_ | apply ba_); refine blk_far ?_ NB264_304.out _; (with_reducible repeat first | apply bn_ | apply bd_ | apply ba_); exact BK264.out⟩
                          have n3_ : Aside0 (((((w111.setCell ⟨gb304, 0, none⟩ (.int .u64 t300)).setCell ⟨gb304, 1, none⟩ (.int .u64 t301)).setCell ⟨gb304, 2, none⟩ (.bool t302)).setCell ⟨gb304, 3, none⟩ (.int .i64 t303)).heap[gb269]? = some (.cells #[.int .u64 t265, .int .u64 t266, .bool t267, .int .i64 t268] 26 (0, 0))) := ⟨by (with_reducible repeat first | apply bn_ | apply bd_ | apply ba_); refine blk_far ?_ NB269_304.out _; (with_reducible repeat first | apply bn_ | apply bd_ | apply ba_); refine blk_far ?_ NB269_304.out _; (with_reducible repeat first | apply bn_ | apply bd_ | apply ba_); refine blk_far ?_ NB269_304.out _; (with_reducible repeat first | apply bn_ | apply bd_ | apply ba_); refine blk_far ?_ NB269_304.out _; (with_reducible repeat first | apply bn_ | apply bd_ | apply ba_); exact BK269.out⟩
                          have n4_ : Aside0 (((((w111.setCell ⟨gb304, 0, none⟩ (.int .u64 t300)).setCell ⟨gb304, 1, none⟩ (.int .u64 t301)).setCell ⟨gb304, 2, none⟩ (.bool t302)).setCell ⟨gb304, 3, none⟩ (.int .i64 t303)).heap[gb284]? = some (.cells #[.int .u64 t281, .int .u64 t282] 24 (0, 0))) := ⟨by (with_reducible repeat first | apply bn_ | apply bd_ | apply ba_); refine blk_far ?_ NB284_304.out _; (with_reducible repeat first | apply bn_ | apply bd_ | apply ba_); refine blk_far ?_ NB284_304.out _; (with_reducible repeat first | apply bn_ | apply bd_ | apply ba_); refine blk_far ?_ NB284_304.out _; (with_reducible repeat first | apply bn_ | apply bd_ | apply ba_); refine blk_far ?_ NB284_304.out _; (with_reducible repeat first | apply bn_ | apply bd_ | apply ba_); exact BK284.out⟩
                          have n5_ : Aside0 (((((w111.setCell ⟨gb304, 0, none⟩ (.int .u64 t300)).setCell ⟨gb304, 1, none⟩ (.int .u64 t301)).setCell ⟨gb304, 2, none⟩ (.bool t302)).setCell ⟨gb304, 3, none⟩ (.int .i64 t303)).heap[gb293]? = some (.cells #[.int .u64 t290, .int .u64 t291, .int .u64 t292] 38 (0, 0))) := ⟨by (with_reducible repeat first | apply bn_ | apply bd_ | apply ba_); refine blk_far ?_ NB293_304.out _; (with_reducible repeat first | apply bn_ | apply bd_ | apply ba_); refine blk_far ?_ NB293_304.out _; (with_reducible repeat first | apply bn_ | apply bd_ | apply ba_); refine blk_far ?_ NB293_304.out _; (with_reducible repeat first | apply bn_ | apply bd_ | apply ba_); refine blk_far ?_ NB293_304.out _; (with_reducible repeat first | apply bn_ | apply bd_ | apply ba_); exact BK293.out⟩
                          have n6_ : Aside0 (((((w111.setCell ⟨gb304, 0, none⟩ (.int .u64 t300)).setCell ⟨gb304, 1, none⟩ (.int .u64 t301)).setCell ⟨gb304, 2, none⟩ (.bool t302)).setCell ⟨gb304, 3, none⟩ (.int .i64 t303)).heap[gb296]? = some (.cells #[.int .u64 t294, .int .u64 t295] 24 (0, 0))) := ⟨by (with_reducible repeat first | apply bn_ | apply bd_ | apply ba_); refine blk_far ?_ NB296_304.out _; (with_reducible repeat first | apply bn_ | apply bd_ | apply ba_); refine blk_far ?_ NB296_304.out _; (with_reducible repeat first | apply bn_ | apply bd_ | apply ba_); refine blk_far ?_ NB296_304.out _; (with_reducible repeat first | apply bn_ | apply bd_ | apply ba_); refine blk_far ?_ NB296_304.out _; (with_reducible repeat first | apply bn_ | apply bd_ | apply ba_); exact BK296.out⟩
                          have n7_ : Aside0 (((((w111.setCell ⟨gb304, 0, none⟩ (.int .u64 t300)).setCell ⟨gb304, 1, none⟩ (.int .u64 t301)).setCell ⟨gb304, 2, none⟩ (.bool t302)).setCell ⟨gb304, 3, none⟩ (.int .i64 t303)).heap[gb299]? = some (.cells #[.int .u64 t297, .int .u64 t298] 24 (0, 0))) := ⟨by (with_reducible repeat first | apply bn_ | apply bd_ | apply ba_); refine blk_far ?_ NB299_304.out _; (with_reducible repeat first | apply bn_ | apply bd_ | apply ba_); refine blk_far ?_ NB299_304.out _; (with_reducible repeat first | apply bn_ | apply bd_ | apply ba_); refine blk_far ?_ NB299_304.out _; (with_reducible repeat first | apply bn_ | apply bd_ | apply ba_); refine blk_far ?_ NB299_304.out _; (with_reducible repeat first | apply bn_ | apply bd_ | apply ba_); exact BK299.out⟩
                          have n8_ : Aside0 (((((w111.setCell ⟨gb304, 0, none⟩ (.int .u64 t300)).setCell ⟨gb304, 1, none⟩ (.int .u64 t301)).setCell ⟨gb304, 2, none⟩ (.bool t302)).setCell ⟨gb304, 3, none⟩ (.int .i64 t303)).heap[gb304]? = some (.cells #[.int .u64 t300, .int .u64 t301, .bool t302, .int .i64 t303] 26 (0, 0))) := ⟨by (with_reducible repeat first | apply bn_ | apply bd_ | apply ba_); refine blk_put (cs := #[.int .u64 t300, .int .u64 t301, .bool t302, .int .i64 0]) ?_ 3 _ rfl; (with_reducible repeat first | apply bn_ | apply bd_ | apply ba_); refine blk_put (cs := #[.int .u64 t300, .int .u64 t301, .bool false, .int .i64 0]) ?_ 2 _ rfl; (with_reducible repeat first | apply bn_ | apply bd_ | apply ba_); refine blk_put (cs := #[.int .u64 t300, .int .u64 0, .bool false, .int .i64 0]) ?_ 1 _ rfl; (with_reducible repeat first | apply bn_ | apply bd_ | apply ba_); refine blk_put (cs := #[.int .u64 0, .int .u64 0, .bool false, .int .i64 0]) ?_ 0 _ rfl; (with_reducible repeat first | apply bn_ | apply bd_ | apply ba_); exact BK304.out⟩
                          have n9_ : Aside0 (Below w.heap.size w ((((w111.setCell ⟨gb304, 0, none⟩ (.int .u64 t300)).setCell ⟨gb304, 1, none⟩ (.int .u64 t301)).setCell ⟨gb304, 2, none⟩ (.bool t302)).setCell ⟨gb304, 3, none⟩ (.int .i64 t303))) := ⟨by repeat (first | (with_reducible first | exact HB.out | apply below_alloc | apply pw_below_drewN | apply below_drew1 | refine below_set ?_ GE258.out | refine below_set ?_ GE259.out | refine below_set ?_ GE264.out | refine below_set ?_ GE269.out | refine below_set ?_ GE284.out | refine below_set ?_ GE293.out | refine below_set ?_ GE296.out | refine below_set ?_ GE299.out | refine below_set ?_ GE304.out) | exact HB.out)⟩
                          (try clear BK258)
                          (try clear BK259)
                          (try clear BK264)
                          (try clear BK269)
                          (try clear BK284)
                          (try clear BK293)
                          (try clear BK296)
                          (try clear BK299)
                          (try clear BK304)
                          (try clear HB)
                          generalize ((((w111.setCell ⟨gb304, 0, none⟩ (.int .u64 t300)).setCell ⟨gb304, 1, none⟩ (.int .u64 t301)).setCell ⟨gb304, 2, none⟩ (.bool t302)).setCell ⟨gb304, 3, none⟩ (.int .i64 t303)) = w122 at n0_ n1_ n2_ n3_ n4_ n5_ n6_ n7_ n8_ n9_ ⊢
                          have BK258 := n0_
                          have BK259 := n1_
                          have BK264 := n2_
                          have BK269 := n3_
                          have BK284 := n4_
                          have BK293 := n5_
                          have BK296 := n6_
                          have BK299 := n7_
                          have BK304 := n8_
                          have HB := n9_
                          clear n0_ n1_ n2_ n3_ n4_ n5_ n6_ n7_ n8_ n9_
                          have n0_ := Aside0.mk (blk_drew BK258.out)
                          have n1_ := Aside0.mk (blk_drew BK259.out)
                          have n2_ := Aside0.mk (blk_drew BK264.out)
                          have n3_ := Aside0.mk (blk_drew BK269.out)
                          have n4_ := Aside0.mk (blk_drew BK284.out)
                          have n5_ := Aside0.mk (blk_drew BK293.out)
                          have n6_ := Aside0.mk (blk_drew BK296.out)
                          have n7_ := Aside0.mk (blk_drew BK299.out)
                          have n8_ := Aside0.mk (blk_drew BK304.out)
                          have n9_ := Aside0.mk (below_drew1 HB.out)
                          clear BK258
                          clear BK259
                          clear BK264
                          clear BK269
                          clear BK284
                          clear BK293
                          clear BK296
                          clear BK299
                          clear BK304
                          clear HB
                          have BK258 := n0_
                          have BK259 := n1_
                          have BK264 := n2_
                          have BK269 := n3_
                          have BK284 := n4_
                          have BK293 := n5_
                          have BK296 := n6_
                          have BK299 := n7_
                          have BK304 := n8_
                          have HB := n9_
                          clear n0_ n1_ n2_ n3_ n4_ n5_ n6_ n7_ n8_ n9_
                          refine start_ (n := 15) (S := fun w' => w'.cell? ⟨gb293, 0, none⟩ = some (.int .u64 t290) ∧ w'.cell? ⟨gb293, 1, none⟩ = some (.int .u64 t291) ∧ w'.cell? ⟨gb293, 2, none⟩ = some (.int .u64 t292)) (ds := []) #[false, false, false, false, false, false, false, false, false, false, false, false, false, false, false] (by kernel_rfl) rfl rfl ⟨(blk_cell BK293.out 0).trans rfl, (blk_cell BK293.out 1).trans rfl, (blk_cell BK293.out 2).trans rfl⟩ (fun hHeld => ?_); refine with_tabW laws_FnWide.tab16 laws_FnWide.bits16 (fun HT_ HW_ => ?_)
                          generalize w122.drew = w123 at BK258 BK259 BK264 BK269 BK284 BK293 BK296 BK299 BK304 HB hHeld ⊢
                          refine pure_ (i := 0) (N := some 97) (v := ?_) (a' := ?_) #[true, false, false, false, false, false, false, false, false, false, false, false, false, false, false] rfl rfl (any_of HT_.out (by kernel_rfl)) (fun _ _ _ h => h) (Or.inl ⟨by rfl, ?_⟩) ?_ ?_; rotate_left; (intro w'; go_simp; with_reducible rfl); rotate_left; (simp only [Act.put, List.setIfInBounds_toArray, List.set_cons_zero, List.set_cons_succ, i64_w, i32_w]; rfl)
                          refine pure_ (i := 2) (N := some 99) (v := ?_) (a' := ?_) #[true, false, true, false, false, false, false, false, false, false, false, false, false, false, false] rfl rfl (any_of HT_.out (by kernel_rfl)) (fun _ _ _ h => h) (Or.inl ⟨by rfl, ?_⟩) ?_ ?_; rotate_left; (intro w'; go_simp; with_reducible rfl); rotate_left; (simp only [Act.put, List.setIfInBounds_toArray, List.set_cons_zero, List.set_cons_succ, i64_w, i32_w]; rfl)
                          refine take_ (i := 1) (N := some 98) (v := ?_) (a' := ?_) #[true, true, true, false, false, false, false, false, false, false, false, false, false, false, false] rfl rfl (take_ofW HT_.out HW_.out (by kernel_rfl)) (fun _ _ _ h => h) (Or.inl ⟨by rfl, ?_⟩) hHeld ?_ ?_; rotate_left; (rintro w' ⟨s0, s1, s2⟩; go_simp; with_reducible rfl); rotate_left; (simp only [Act.put, List.setIfInBounds_toArray, List.set_cons_zero, List.set_cons_succ, i64_w, i32_w]; rfl)
                          refine pure_ (i := 3) (N := some 100) (v := ?_) (a' := ?_) #[true, true, true, true, false, false, false, false, false, false, false, false, false, false, false] rfl rfl (any_of HT_.out (by kernel_rfl)) (fun _ _ _ h => h) (Or.inl ⟨by rfl, ?_⟩) ?_ ?_; rotate_left; (intro w'; go_simp; with_reducible rfl); rotate_left; (simp only [Act.put, List.setIfInBounds_toArray, List.set_cons_zero, List.set_cons_succ, i64_w, i32_w]; rfl)
                          refine pure_ (i := 4) (N := some 101) (v := ?_) (a' := ?_) #[true, true, true, true, true, false, false, false, false, false, false, false, false, false, false] rfl rfl (any_of HT_.out (by kernel_rfl)) (fun _ _ _ h => h) (Or.inl ⟨by rfl, ?_⟩) ?_ ?_; rotate_left; (intro w'; go_simp; with_reducible rfl); rotate_left; (simp only [Act.put, List.setIfInBounds_toArray, List.set_cons_zero, List.set_cons_succ, i64_w, i32_w]; rfl)
                          refine pure_ (i := 5) (N := some 102) (v := undef) (a' := ?_) #[true, true, true, true, true, true, false, false, false, false, false, false, false, false, false] rfl rfl (any_of HT_.out (by kernel_rfl)) (fun _ _ _ h => h) (Or.inr ⟨by rfl, rfl⟩) ?_ ?_
                          rotate_left
                          · simp only [Act.put, List.setIfInBounds_toArray, List.set_cons_zero, List.set_cons_succ, i64_w, i32_w]
                            rfl
                          refine pure_ (i := 6) (N := some 103) (v := undef) (a' := ?_) #[true, true, true, true, true, true, true, false, false, false, false, false, false, false, false] rfl rfl (any_of HT_.out (by kernel_rfl)) (fun _ _ _ h => h) (Or.inr ⟨by rfl, rfl⟩) ?_ ?_
                          rotate_left
                          · simp only [Act.put, List.setIfInBounds_toArray, List.set_cons_zero, List.set_cons_succ, i64_w, i32_w]
                            rfl
                          refine pure_ (i := 7) (N := some 104) (v := undef) (a' := ?_) #[true, true, true, true, true, true, true, true, false, false, false, false, false, false, false] rfl rfl (any_of HT_.out (by kernel_rfl)) (fun _ _ _ h => h) (Or.inr ⟨by rfl, rfl⟩) ?_ ?_
                          rotate_left
                          · simp only [Act.put, List.setIfInBounds_toArray, List.set_cons_zero, List.set_cons_succ, i64_w, i32_w]
                            rfl
                          refine pure_ (i := 8) (N := some 105) (v := undef) (a' := ?_) #[true, true, true, true, true, true, true, true, true, false, false, false, false, false, false] rfl rfl (any_of HT_.out (by kernel_rfl)) (fun _ _ _ h => h) (Or.inr ⟨by rfl, rfl⟩) ?_ ?_
                          rotate_left
                          · simp only [Act.put, List.setIfInBounds_toArray, List.set_cons_zero, List.set_cons_succ, i64_w, i32_w]
                            rfl
                          refine pure_ (i := 9) (N := some 106) (v := undef) (a' := ?_) #[true, true, true, true, true, true, true, true, true, true, false, false, false, false, false] rfl rfl (any_of HT_.out (by kernel_rfl)) (fun _ _ _ h => h) (Or.inr ⟨by rfl, rfl⟩) ?_ ?_
                          rotate_left
                          · simp only [Act.put, List.setIfInBounds_toArray, List.set_cons_zero, List.set_cons_succ, i64_w, i32_w]
                            rfl
                          refine pure_ (i := 10) (N := some 107) (v := undef) (a' := ?_) #[true, true, true, true, true, true, true, true, true, true, true, false, false, false, false] rfl rfl (any_of HT_.out (by kernel_rfl)) (fun _ _ _ h => h) (Or.inr ⟨by rfl, rfl⟩) ?_ ?_
                          rotate_left
                          · simp only [Act.put, List.setIfInBounds_toArray, List.set_cons_zero, List.set_cons_succ, i64_w, i32_w]
                            rfl
                          refine pure_ (i := 11) (N := some 108) (v := undef) (a' := ?_) #[true, true, true, true, true, true, true, true, true, true, true, true, false, false, false] rfl rfl (any_of HT_.out (by kernel_rfl)) (fun _ _ _ h => h) (Or.inr ⟨by rfl, rfl⟩) ?_ ?_
                          rotate_left
                          · simp only [Act.put, List.setIfInBounds_toArray, List.set_cons_zero, List.set_cons_succ, i64_w, i32_w]
                            rfl
                          refine pure_ (i := 12) (N := some 109) (v := undef) (a' := ?_) #[true, true, true, true, true, true, true, true, true, true, true, true, true, false, false] rfl rfl (any_of HT_.out (by kernel_rfl)) (fun _ _ _ h => h) (Or.inr ⟨by rfl, rfl⟩) ?_ ?_
                          rotate_left
                          · simp only [Act.put, List.setIfInBounds_toArray, List.set_cons_zero, List.set_cons_succ, i64_w, i32_w]
                            rfl
                          refine pure_ (i := 13) (N := some 110) (v := undef) (a' := ?_) #[true, true, true, true, true, true, true, true, true, true, true, true, true, true, false] rfl rfl (any_of HT_.out (by kernel_rfl)) (fun _ _ _ h => h) (Or.inr ⟨by rfl, rfl⟩) ?_ ?_
                          rotate_left
                          · simp only [Act.put, List.setIfInBounds_toArray, List.set_cons_zero, List.set_cons_succ, i64_w, i32_w]
                            rfl
                          refine pure_ (i := 14) (N := some 111) (v := ?_) (a' := ?_) #[true, true, true, true, true, true, true, true, true, true, true, true, true, true, true] rfl rfl (any_of HT_.out (by kernel_rfl)) (fun _ _ _ h => h) (Or.inl ⟨by rfl, ?_⟩) ?_ ?_; rotate_left; (intro w'; go_simp; with_reducible rfl); rotate_left; (simp only [Act.put, List.setIfInBounds_toArray, List.set_cons_zero, List.set_cons_succ, i64_w, i32_w]; rfl)
                          refine done_ (done_of HT_.out (by kernel_rfl)) ?_
                          try go_wp2
                          go_meet
                          case rel => exact ⟨_, (true), (by first | rfl | (simp; done) | (simp [*]; done)), H', ⟨by have := HJ2.out; have := HJ8.out; have := HJ38.out; first | omega | exact Nat.le_refl _⟩, ⟨by (with_reducible repeat first | apply bn_ | apply bd_ | apply ba_); exact BK258.out⟩, ⟨by (with_reducible repeat first | apply bn_ | apply bd_ | apply ba_); exact BK259.out⟩, ⟨by (with_reducible repeat first | apply bn_ | apply bd_ | apply ba_); exact BK264.out⟩, ⟨by (with_reducible repeat first | apply bn_ | apply bd_ | apply ba_); exact BK269.out⟩, ⟨by (with_reducible repeat first | apply bn_ | apply bd_ | apply ba_); exact BK284.out⟩, ⟨by (with_reducible repeat first | apply bn_ | apply bd_ | apply ba_); exact BK293.out⟩, ⟨by (with_reducible repeat first | apply bn_ | apply bd_ | apply ba_); exact BK296.out⟩, ⟨by (with_reducible repeat first | apply bn_ | apply bd_ | apply ba_); exact BK299.out⟩, ⟨by (with_reducible repeat first | apply bn_ | apply bd_ | apply ba_); exact BK304.out⟩, ⟨by repeat (first | (with_reducible first | exact HB.out | apply below_alloc | apply pw_below_drewN | apply below_drew1 | refine below_set ?_ GE258.out | refine below_set ?_ GE259.out | refine below_set ?_ GE264.out | refine below_set ?_ GE269.out | refine below_set ?_ GE284.out | refine below_set ?_ GE293.out | refine below_set ?_ GE296.out | refine below_set ?_ GE299.out | refine below_set ?_ GE304.out) | exact HB.out)⟩⟩
                        · rw [if_neg c121] at H
                          have c121b0 : decide (t283 ≤ t292) = false := decide_eq_false c121
                          clear c121
                          (first | rw [c121b0] | (simp only [i64_w, i32_w]; rw [c121b0]) | skip)
                          replace H := Option.bind_eq_some_iff.mp H
                          obtain ⟨⟨t305, t306, t307, t308⟩, A1240, H⟩ := H
                          replace H : (laws_FnWide.j3 kj38 (!(t305 == t281) || (!(t306 == t282))) t281 t282) = some r := H
                          have A124 := Aside0.mk A1240
                          clear A1240
                          have H' := Aside0.mk H
                          clear H
                          try go_wp2
                          have n0_ : Aside0 (((((w111.setCell ⟨gb304, 0, none⟩ (.int .u64 t300)).setCell ⟨gb304, 1, none⟩ (.int .u64 t301)).setCell ⟨gb304, 2, none⟩ (.bool t302)).setCell ⟨gb304, 3, none⟩ (.int .i64 t303)).heap[gb258]? = some (.cells #[.int .u64 t254, .int .u64 t255] 24 (0, 0))) := ⟨by (with_reducible repeat first | apply bn_ | apply bd_ | apply ba_); refine blk_far ?_ NB258_304.out _; (with_reducible repeat first | apply bn_ | apply bd_ | apply ba_); refine blk_far ?_ NB258_304.out _; (with_reducible repeat first | apply bn_ | apply bd_ | apply ba_); refine blk_far ?_ NB258_304.out _; (with_reducible repeat first | apply bn_ | apply bd_ | apply ba_); refine blk_far ?_ NB258_304.out _; (with_reducible repeat first | apply bn_ | apply bd_ | apply ba_); exact BK258.out⟩
                          have n1_ : Aside0 (((((w111.setCell ⟨gb304, 0, none⟩ (.int .u64 t300)).setCell ⟨gb304, 1, none⟩ (.int .u64 t301)).setCell ⟨gb304, 2, none⟩ (.bool t302)).setCell ⟨gb304, 3, none⟩ (.int .i64 t303)).heap[gb259]? = some (.cells #[.int .u64 t256, .int .u64 t257] 24 (0, 0))) := ⟨by (with_reducible repeat first | apply bn_ | apply bd_ | apply ba_); refine blk_far ?_ NB259_304.out _; (with_reducible repeat first | apply bn_ | apply bd_ | apply ba_); refine blk_far ?_ NB259_304.out _; (with_reducible repeat first | apply bn_ | apply bd_ | apply ba_); refine blk_far ?_ NB259_304.out _; (with_reducible repeat first | apply bn_ | apply bd_ | apply ba_); refine blk_far ?_ NB259_304.out _; (with_reducible repeat first | apply bn_ | apply bd_ | apply ba_); exact BK259.out⟩
                          have n2_ : Aside0 (((((w111.setCell ⟨gb304, 0, none⟩ (.int .u64 t300)).setCell ⟨gb304, 1, none⟩ (.int .u64 t301)).setCell ⟨gb304, 2, none⟩ (.bool t302)).setCell ⟨gb304, 3, none⟩ (.int .i64 t303)).heap[gb264]? = some (.cells #[.int .u64 t260, .int .u64 t261, .bool t262, .int .i64 t263] 26 (0, 0))) := ⟨by (with_reducible repeat first | apply bn_ | apply bd_ | apply ba_); refine blk_far ?_ NB264_304.out _; (with_reducible repeat first | apply bn_ | apply bd_ | apply ba_); refine blk_far ?_ NB264_304.out _; (with_reducible repeat first | apply bn_ | apply bd_ | apply ba_); refine blk_far ?_ NB264_304.out _; (with_reducible repeat first | apply bn_ | apply bd_ | apply ba_); refine blk_far ?_ NB264_304.out _; (with_reducible repeat first | apply bn_ | apply bd_ | apply ba_); exact BK264.out⟩
                          have n3_ : Aside0 (((((w111.setCell ⟨gb304, 0, none⟩ (.int .u64 t300)).setCell ⟨gb304, 1, none⟩ (.int .u64 t301)).setCell ⟨gb304, 2, none⟩ (.bool t302)).setCell ⟨gb304, 3, none⟩ (.int .i64 t303)).heap[gb269]? = some (.cells #[.int .u64 t265, .int .u64 t266, .bool t267, .int .i64 t268] 26 (0, 0))) := ⟨by (with_reducible repeat first | apply bn_ | apply bd_ | apply ba_); refine blk_far ?_ NB269_304.out _; (with_reducible repeat first | apply bn_ | apply bd_ | apply ba_); refine blk_far ?_ NB269_304.out _; (with_reducible repeat first | apply bn_ | apply bd_ | apply ba_); refine blk_far ?_ NB269_304.out _; (with_reducible repeat first | apply bn_ | apply bd_ | apply ba_); refine blk_far ?_ NB269_304.out _; (with_reducible repeat first | apply bn_ | apply bd_ | apply ba_); exact BK269.out⟩
                          have n4_ : Aside0 (((((w111.setCell ⟨gb304, 0, none⟩ (.int .u64 t300)).setCell ⟨gb304, 1, none⟩ (.int .u64 t301)).setCell ⟨gb304, 2, none⟩ (.bool t302)).setCell ⟨gb304, 3, none⟩ (.int .i64 t303)).heap[gb284]? = some (.cells #[.int .u64 t281, .int .u64 t282] 24 (0, 0))) := ⟨by (with_reducible repeat first | apply bn_ | apply bd_ | apply ba_); refine blk_far ?_ NB284_304.out _; (with_reducible repeat first | apply bn_ | apply bd_ | apply ba_); refine blk_far ?_ NB284_304.out _; (with_reducible repeat first | apply bn_ | apply bd_ | apply ba_); refine blk_far ?_ NB284_304.out _; (with_reducible repeat first | apply bn_ | apply bd_ | apply ba_); refine blk_far ?_ NB284_304.out _; (with_reducible repeat first | apply bn_ | apply bd_ | apply ba_); exact BK284.out⟩
                          have n5_ : Aside0 (((((w111.setCell ⟨gb304, 0, none⟩ (.int .u64 t300)).setCell ⟨gb304, 1, none⟩ (.int .u64 t301)).setCell ⟨gb304, 2, none⟩ (.bool t302)).setCell ⟨gb304, 3, none⟩ (.int .i64 t303)).heap[gb293]? = some (.cells #[.int .u64 t290, .int .u64 t291, .int .u64 t292] 38 (0, 0))) := ⟨by (with_reducible repeat first | apply bn_ | apply bd_ | apply ba_); refine blk_far ?_ NB293_304.out _; (with_reducible repeat first | apply bn_ | apply bd_ | apply ba_); refine blk_far ?_ NB293_304.out _; (with_reducible repeat first | apply bn_ | apply bd_ | apply ba_); refine blk_far ?_ NB293_304.out _; (with_reducible repeat first | apply bn_ | apply bd_ | apply ba_); refine blk_far ?_ NB293_304.out _; (with_reducible repeat first | apply bn_ | apply bd_ | apply ba_); exact BK293.out⟩
                          have n6_ : Aside0 (((((w111.setCell ⟨gb304, 0, none⟩ (.int .u64 t300)).setCell ⟨gb304, 1, none⟩ (.int .u64 t301)).setCell ⟨gb304, 2, none⟩ (.bool t302)).setCell ⟨gb304, 3, none⟩ (.int .i64 t303)).heap[gb296]? = some (.cells #[.int .u64 t294, .int .u64 t295] 24 (0, 0))) := ⟨by (with_reducible repeat first | apply bn_ | apply bd_ | apply ba_); refine blk_far ?_ NB296_304.out _; (with_reducible repeat first | apply bn_ | apply bd_ | apply ba_); refine blk_far ?_ NB296_304.out _; (with_reducible repeat first | apply bn_ | apply bd_ | apply ba_); refine blk_far ?_ NB296_304.out _; (with_reducible repeat first | apply bn_ | apply bd_ | apply ba_); refine blk_far ?_ NB296_304.out _; (with_reducible repeat first | apply bn_ | apply bd_ | apply ba_); exact BK296.out⟩
                          have n7_ : Aside0 (((((w111.setCell ⟨gb304, 0, none⟩ (.int .u64 t300)).setCell ⟨gb304, 1, none⟩ (.int .u64 t301)).setCell ⟨gb304, 2, none⟩ (.bool t302)).setCell ⟨gb304, 3, none⟩ (.int .i64 t303)).heap[gb299]? = some (.cells #[.int .u64 t297, .int .u64 t298] 24 (0, 0))) := ⟨by (with_reducible repeat first | apply bn_ | apply bd_ | apply ba_); refine blk_far ?_ NB299_304.out _; (with_reducible repeat first | apply bn_ | apply bd_ | apply ba_); refine blk_far ?_ NB299_304.out _; (with_reducible repeat first | apply bn_ | apply bd_ | apply ba_); refine blk_far ?_ NB299_304.out _; (with_reducible repeat first | apply bn_ | apply bd_ | apply ba_); refine blk_far ?_ NB299_304.out _; (with_reducible repeat first | apply bn_ | apply bd_ | apply ba_); exact BK299.out⟩
                          have n8_ : Aside0 (((((w111.setCell ⟨gb304, 0, none⟩ (.int .u64 t300)).setCell ⟨gb304, 1, none⟩ (.int .u64 t301)).setCell ⟨gb304, 2, none⟩ (.bool t302)).setCell ⟨gb304, 3, none⟩ (.int .i64 t303)).heap[gb304]? = some (.cells #[.int .u64 t300, .int .u64 t301, .bool t302, .int .i64 t303] 26 (0, 0))) := ⟨by (with_reducible repeat first | apply bn_ | apply bd_ | apply ba_); refine blk_put (cs := #[.int .u64 t300, .int .u64 t301, .bool t302, .int .i64 0]) ?_ 3 _ rfl; (with_reducible repeat first | apply bn_ | apply bd_ | apply ba_); refine blk_put (cs := #[.int .u64 t300, .int .u64 t301, .bool false, .int .i64 0]) ?_ 2 _ rfl; (with_reducible repeat first | apply bn_ | apply bd_ | apply ba_); refine blk_put (cs := #[.int .u64 t300, .int .u64 0, .bool false, .int .i64 0]) ?_ 1 _ rfl; (with_reducible repeat first | apply bn_ | apply bd_ | apply ba_); refine blk_put (cs := #[.int .u64 0, .int .u64 0, .bool false, .int .i64 0]) ?_ 0 _ rfl; (with_reducible repeat first | apply bn_ | apply bd_ | apply ba_); exact BK304.out⟩
                          have n9_ : Aside0 (Below w.heap.size w ((((w111.setCell ⟨gb304, 0, none⟩ (.int .u64 t300)).setCell ⟨gb304, 1, none⟩ (.int .u64 t301)).setCell ⟨gb304, 2, none⟩ (.bool t302)).setCell ⟨gb304, 3, none⟩ (.int .i64 t303))) := ⟨by repeat (first | (with_reducible first | exact HB.out | apply below_alloc | apply pw_below_drewN | apply below_drew1 | refine below_set ?_ GE258.out | refine below_set ?_ GE259.out | refine below_set ?_ GE264.out | refine below_set ?_ GE269.out | refine below_set ?_ GE284.out | refine below_set ?_ GE293.out | refine below_set ?_ GE296.out | refine below_set ?_ GE299.out | refine below_set ?_ GE304.out) | exact HB.out)⟩
                          (try clear BK258)
                          (try clear BK259)
                          (try clear BK264)
                          (try clear BK269)
                          (try clear BK284)
                          (try clear BK293)
                          (try clear BK296)
                          (try clear BK299)
                          (try clear BK304)
                          (try clear HB)
                          generalize ((((w111.setCell ⟨gb304, 0, none⟩ (.int .u64 t300)).setCell ⟨gb304, 1, none⟩ (.int .u64 t301)).setCell ⟨gb304, 2, none⟩ (.bool t302)).setCell ⟨gb304, 3, none⟩ (.int .i64 t303)) = w125 at n0_ n1_ n2_ n3_ n4_ n5_ n6_ n7_ n8_ n9_ ⊢
                          have BK258 := n0_
                          have BK259 := n1_
                          have BK264 := n2_
                          have BK269 := n3_
                          have BK284 := n4_
                          have BK293 := n5_
                          have BK296 := n6_
                          have BK299 := n7_
                          have BK304 := n8_
                          have HB := n9_
                          clear n0_ n1_ n2_ n3_ n4_ n5_ n6_ n7_ n8_ n9_
                          have n0_ := Aside0.mk (blk_drew BK258.out)
                          have n1_ := Aside0.mk (blk_drew BK259.out)
                          have n2_ := Aside0.mk (blk_drew BK264.out)
                          have n3_ := Aside0.mk (blk_drew BK269.out)
                          have n4_ := Aside0.mk (blk_drew BK284.out)
                          have n5_ := Aside0.mk (blk_drew BK293.out)
                          have n6_ := Aside0.mk (blk_drew BK296.out)
                          have n7_ := Aside0.mk (blk_drew BK299.out)
                          have n8_ := Aside0.mk (blk_drew BK304.out)
                          have n9_ := Aside0.mk (below_drew1 HB.out)
                          clear BK258
                          clear BK259
                          clear BK264
                          clear BK269
                          clear BK284
                          clear BK293
                          clear BK296
                          clear BK299
                          clear BK304
                          clear HB
                          have BK258 := n0_
                          have BK259 := n1_
                          have BK264 := n2_
                          have BK269 := n3_
                          have BK284 := n4_
                          have BK293 := n5_
                          have BK296 := n6_
                          have BK299 := n7_
                          have BK304 := n8_
                          have HB := n9_
                          clear n0_ n1_ n2_ n3_ n4_ n5_ n6_ n7_ n8_ n9_
                          refine start_ (n := 15) (S := fun w' => w'.cell? ⟨gb293, 0, none⟩ = some (.int .u64 t290) ∧ w'.cell? ⟨gb293, 1, none⟩ = some (.int .u64 t291) ∧ w'.cell? ⟨gb293, 2, none⟩ = some (.int .u64 t292) ∧ w'.cell? ⟨gb304, 0, none⟩ = some (.int .u64 t300) ∧ w'.cell? ⟨gb304, 1, none⟩ = some (.int .u64 t301) ∧ w'.cell? ⟨gb304, 2, none⟩ = some (.bool t302) ∧ w'.cell? ⟨gb304, 3, none⟩ = some (.int .i64 t303) ∧ w'.cell? ⟨gb284, 0, none⟩ = some (.int .u64 t281) ∧ w'.cell? ⟨gb284, 1, none⟩ = some (.int .u64 t282)) (ds := []) #[false, false, false, false, false, false, false, false, false, false, false, false, false, false, false] (by kernel_rfl) rfl rfl ⟨(blk_cell BK293.out 0).trans rfl, (blk_cell BK293.out 1).trans rfl, (blk_cell BK293.out 2).trans rfl, (blk_cell BK304.out 0).trans rfl, (blk_cell BK304.out 1).trans rfl, (blk_cell BK304.out 2).trans rfl, (blk_cell BK304.out 3).trans rfl, (blk_cell BK284.out 0).trans rfl, (blk_cell BK284.out 1).trans rfl⟩ (fun hHeld => ?_); refine with_tabW laws_FnWide.tab16 laws_FnWide.bits16 (fun HT_ HW_ => ?_)
                          generalize w125.drew = w126 at BK258 BK259 BK264 BK269 BK284 BK293 BK296 BK299 BK304 HB hHeld ⊢
                          refine pure_ (i := 0) (N := some 97) (v := ?_) (a' := ?_) #[true, false, false, false, false, false, false, false, false, false, false, false, false, false, false] rfl rfl (any_of HT_.out (by kernel_rfl)) (fun _ _ _ h => h) (Or.inl ⟨by rfl, ?_⟩) ?_ ?_; rotate_left; (intro w'; go_simp; with_reducible rfl); rotate_left; (simp only [Act.put, List.setIfInBounds_toArray, List.set_cons_zero, List.set_cons_succ, i64_w, i32_w]; rfl)
                          refine pure_ (i := 2) (N := some 99) (v := ?_) (a' := ?_) #[true, false, true, false, false, false, false, false, false, false, false, false, false, false, false] rfl rfl (any_of HT_.out (by kernel_rfl)) (fun _ _ _ h => h) (Or.inl ⟨by rfl, ?_⟩) ?_ ?_; rotate_left; (intro w'; go_simp; with_reducible rfl); rotate_left; (simp only [Act.put, List.setIfInBounds_toArray, List.set_cons_zero, List.set_cons_succ, i64_w, i32_w]; rfl)
                          refine take_ (i := 1) (N := some 98) (v := ?_) (a' := ?_) #[true, true, true, false, false, false, false, false, false, false, false, false, false, false, false] rfl rfl (take_ofW HT_.out HW_.out (by kernel_rfl)) (fun _ _ _ h => h) (Or.inl ⟨by rfl, ?_⟩) hHeld ?_ ?_; rotate_left; (rintro w' ⟨s0, s1, s2, s3, s4, s5, s6, s7, s8⟩; go_simp; with_reducible rfl); rotate_left; (simp only [Act.put, List.setIfInBounds_toArray, List.set_cons_zero, List.set_cons_succ, i64_w, i32_w]; rfl)
                          refine pure_ (i := 3) (N := some 100) (v := ?_) (a' := ?_) #[true, true, true, true, false, false, false, false, false, false, false, false, false, false, false] rfl rfl (any_of HT_.out (by kernel_rfl)) (fun _ _ _ h => h) (Or.inl ⟨by rfl, ?_⟩) ?_ ?_; rotate_left; (intro w'; go_simp; with_reducible rfl); rotate_left; (simp only [Act.put, List.setIfInBounds_toArray, List.set_cons_zero, List.set_cons_succ, i64_w, i32_w]; rfl)
                          refine pure_ (i := 4) (N := some 101) (v := ?_) (a' := ?_) #[true, true, true, true, true, false, false, false, false, false, false, false, false, false, false] rfl rfl (any_of HT_.out (by kernel_rfl)) (fun _ _ _ h => h) (Or.inl ⟨by rfl, ?_⟩) ?_ ?_; rotate_left; (intro w'; go_simp; with_reducible rfl); rotate_left; (simp only [Act.put, List.setIfInBounds_toArray, List.set_cons_zero, List.set_cons_succ, i64_w, i32_w]; rfl)
                          refine pure_ (i := 5) (N := some 102) (v := ?_) (a' := ?_) #[true, true, true, true, true, true, false, false, false, false, false, false, false, false, false] rfl rfl (any_of HT_.out (by kernel_rfl)) (fun _ _ _ h => h) (Or.inl ⟨by rfl, ?_⟩) ?_ ?_; rotate_left; (intro w'; go_simp; with_reducible rfl); rotate_left; (simp only [Act.put, List.setIfInBounds_toArray, List.set_cons_zero, List.set_cons_succ, i64_w, i32_w]; rfl)
                          refine pure_ (i := 7) (N := some 104) (v := ?_) (a' := ?_) #[true, true, true, true, true, true, false, true, false, false, false, false, false, false, false] rfl rfl (any_of HT_.out (by kernel_rfl)) (fun _ _ _ h => h) (Or.inl ⟨by rfl, ?_⟩) ?_ ?_; rotate_left; (intro w'; go_simp; with_reducible rfl); rotate_left; (simp only [Act.put, List.setIfInBounds_toArray, List.set_cons_zero, List.set_cons_succ, i64_w, i32_w]; rfl)
                          refine take_ (i := 6) (N := some 103) (v := ?_) (a' := ?_) #[true, true, true, true, true, true, true, true, false, false, false, false, false, false, false] rfl rfl (take_ofW HT_.out HW_.out (by kernel_rfl)) (fun _ _ _ h => h) (Or.inl ⟨by rfl, ?_⟩) hHeld ?_ ?_; rotate_left; (rintro w' ⟨s0, s1, s2, s3, s4, s5, s6, s7, s8⟩; go_simp; with_reducible rfl); rotate_left; (simp only [Act.put, List.setIfInBounds_toArray, List.set_cons_zero, List.set_cons_succ, i64_w, i32_w]; rfl)
                          refine take_ (i := 8) (N := some 105) (v := ?_) (a' := ?_) #[true, true, true, true, true, true, true, true, true, false, false, false, false, false, false] rfl rfl (take_ofW HT_.out HW_.out (by kernel_rfl)) (fun _ _ _ h => h) (Or.inl ⟨by rfl, ?_⟩) hHeld ?_ ?_; rotate_left; (rintro w' ⟨s0, s1, s2, s3, s4, s5, s6, s7, s8⟩; go_simp; with_reducible rfl); rotate_left; (simp only [Act.put, List.setIfInBounds_toArray, List.set_cons_zero, List.set_cons_succ, i64_w, i32_w]; rfl)
                          refine pure_ (i := 9) (N := some 106) (v := ?_) (a' := ?_) #[true, true, true, true, true, true, true, true, true, true, false, false, false, false, false] rfl rfl (any_of HT_.out (by kernel_rfl)) (fun _ _ _ h => h) (Or.inl ⟨by rfl, ?_⟩) ?_ ?_; rotate_left; (intro w'; go_simp; with_reducible rfl); rotate_left; (simp only [Act.put, List.setIfInBounds_toArray, List.set_cons_zero, List.set_cons_succ, i64_w, i32_w]; rfl)
                          refine take_ (i := 12) (N := some 109) (v := ?_) (a' := ?_) #[true, true, true, true, true, true, true, true, true, true, false, false, true, false, false] rfl rfl (take_ofW HT_.out HW_.out (by kernel_rfl)) (fun _ _ _ h => h) (Or.inl ⟨by rfl, ?_⟩) hHeld ?_ ?_; rotate_left; (rintro w' ⟨s0, s1, s2, s3, s4, s5, s6, s7, s8⟩; go_simp; with_reducible rfl); rotate_left; (simp only [Act.put, List.setIfInBounds_toArray, List.set_cons_zero, List.set_cons_succ, i64_w, i32_w]; rfl)
                          refine one_ (i := 10) (N := some 107) #[true, true, true, true, true, true, true, true, true, true, true, false, true, false, false] rfl rfl (one_of HT_.out (by kernel_rfl)) (by decide) (fun K hK => ?_)
                          refine goes_ Tryd.func9 (by kernel_rfl) rfl #[.agg #[.int .u64 t300, .int .u64 t301], .agg #[.int .u64 0, .int .u64 t292]] (by rfl) rfl rfl (by (try simp only [List.map_toArray, List.map_cons, List.map_nil]); first | done | rfl | (simp only [List.length_drop, List.length_take]; rfl)) ?_
                          with_reducible refine (impl_WideAdd.calls t300 t301 0 t292 t305 t306 t307 t308 _ A124.out).mono ?_
                          rintro e w127 ⟨rfl, hb⟩
                          refine ⟨_, rfl, ?_⟩
                          have n0_ := Aside0.mk (blk_below (g := gb258) (o := .cells #[.int .u64 t254, .int .u64 t255] 24 (0, 0)) (by (with_reducible repeat first | apply bn_ | apply bd_ | apply ba_); exact BK258.out) hb)
                          have n1_ := Aside0.mk (blk_below (g := gb259) (o := .cells #[.int .u64 t256, .int .u64 t257] 24 (0, 0)) (by (with_reducible repeat first | apply bn_ | apply bd_ | apply ba_); exact BK259.out) hb)
                          have n2_ := Aside0.mk (blk_below (g := gb264) (o := .cells #[.int .u64 t260, .int .u64 t261, .bool t262, .int .i64 t263] 26 (0, 0)) (by (with_reducible repeat first | apply bn_ | apply bd_ | apply ba_); exact BK264.out) hb)
                          have n3_ := Aside0.mk (blk_below (g := gb269) (o := .cells #[.int .u64 t265, .int .u64 t266, .bool t267, .int .i64 t268] 26 (0, 0)) (by (with_reducible repeat first | apply bn_ | apply bd_ | apply ba_); exact BK269.out) hb)
                          have n4_ := Aside0.mk (blk_below (g := gb284) (o := .cells #[.int .u64 t281, .int .u64 t282] 24 (0, 0)) (by (with_reducible repeat first | apply bn_ | apply bd_ | apply ba_); exact BK284.out) hb)
                          have n5_ := Aside0.mk (blk_below (g := gb293) (o := .cells #[.int .u64 t290, .int .u64 t291, .int .u64 t292] 38 (0, 0)) (by (with_reducible repeat first | apply bn_ | apply bd_ | apply ba_); exact BK293.out) hb)
                          have n6_ := Aside0.mk (blk_below (g := gb296) (o := .cells #[.int .u64 t294, .int .u64 t295] 24 (0, 0)) (by (with_reducible repeat first | apply bn_ | apply bd_ | apply ba_); exact BK296.out) hb)
                          have n7_ := Aside0.mk (blk_below (g := gb299) (o := .cells #[.int .u64 t297, .int .u64 t298] 24 (0, 0)) (by (with_reducible repeat first | apply bn_ | apply bd_ | apply ba_); exact BK299.out) hb)
                          have n8_ := Aside0.mk (blk_below (g := gb304) (o := .cells #[.int .u64 t300, .int .u64 t301, .bool t302, .int .i64 t303] 26 (0, 0)) (by (with_reducible repeat first | apply bn_ | apply bd_ | apply ba_); exact BK304.out) hb)
                          have n9_ := Aside0.mk (below_step (by repeat (first | (with_reducible first | exact HB.out | apply below_alloc | apply pw_below_drewN | apply below_drew1 | refine below_set ?_ GE258.out | refine below_set ?_ GE259.out | refine below_set ?_ GE264.out | refine below_set ?_ GE269.out | refine below_set ?_ GE284.out | refine below_set ?_ GE293.out | refine below_set ?_ GE296.out | refine below_set ?_ GE299.out | refine below_set ?_ GE304.out) | exact HB.out)) hb)
                          clear BK258
                          clear BK259
                          clear BK264
                          clear BK269
                          clear BK284
                          clear BK293
                          clear BK296
                          clear BK299
                          clear BK304
                          clear HB
                          have BK258 := n0_
                          have BK259 := n1_
                          have BK264 := n2_
                          have BK269 := n3_
                          have BK284 := n4_
                          have BK293 := n5_
                          have BK296 := n6_
                          have BK299 := n7_
                          have BK304 := n8_
                          have HB := n9_
                          clear n0_ n1_ n2_ n3_ n4_ n5_ n6_ n7_ n8_ n9_
                          (try clear hb)
                          (try clear hb2)
                          (try clear hk)
                          (try clear hi)
                          refine hK.out _ _ ⟨(blk_cell BK293.out 0).trans rfl, (blk_cell BK293.out 1).trans rfl, (blk_cell BK293.out 2).trans rfl, (blk_cell BK304.out 0).trans rfl, (blk_cell BK304.out 1).trans rfl, (blk_cell BK304.out 2).trans rfl, (blk_cell BK304.out 3).trans rfl, (blk_cell BK284.out 0).trans rfl, (blk_cell BK284.out 1).trans rfl⟩ (fun hHeld => ?_)
                          clear hK K
                          refine norm_ (a' := ?_) ?_ ?_
                          rotate_left
                          · show Act.put _ (some 107) _ = _
                            simp only [Act.put, List.setIfInBounds_toArray, List.set_cons_zero, List.set_cons_succ, i64_w, i32_w]
                            rfl
                          refine pure_ (i := 11) (N := some 108) (v := ?_) (a' := ?_) #[true, true, true, true, true, true, true, true, true, true, true, true, true, false, false] rfl rfl (any_of HT_.out (by kernel_rfl)) (fun _ _ _ h => h) (Or.inl ⟨by rfl, ?_⟩) ?_ ?_; rotate_left; (intro w'; go_simp; with_reducible rfl); rotate_left; (simp only [Act.put, List.setIfInBounds_toArray, List.set_cons_zero, List.set_cons_succ, i64_w, i32_w]; rfl)
                          refine pure_ (i := 13) (N := some 110) (v := ?_) (a' := ?_) #[true, true, true, true, true, true, true, true, true, true, true, true, true, true, false] rfl rfl (any_of HT_.out (by kernel_rfl)) (fun _ _ _ h => h) (Or.inl ⟨by rfl, ?_⟩) ?_ ?_; rotate_left; (intro w'; go_simp; with_reducible rfl); rotate_left; (simp only [Act.put, List.setIfInBounds_toArray, List.set_cons_zero, List.set_cons_succ, i64_w, i32_w]; rfl)
                          refine pure_ (i := 14) (N := some 111) (v := ?_) (a' := ?_) #[true, true, true, true, true, true, true, true, true, true, true, true, true, true, true] rfl rfl (any_of HT_.out (by kernel_rfl)) (fun _ _ _ h => h) (Or.inl ⟨by rfl, ?_⟩) ?_ ?_; rotate_left; (intro w'; go_simp; with_reducible rfl); rotate_left; (simp only [Act.put, List.setIfInBounds_toArray, List.set_cons_zero, List.set_cons_succ, i64_w, i32_w]; rfl)
                          refine done_ (done_of HT_.out (by kernel_rfl)) ?_
                          try go_wp2
                          go_meet
                          case rel => exact ⟨_, ((!(t305 == t281) || (!(t306 == t282)))), (by first | rfl | (simp; done) | (simp [*]; done)), H', ⟨by have := HJ2.out; have := HJ8.out; have := HJ38.out; first | omega | exact Nat.le_refl _⟩, ⟨by (with_reducible repeat first | apply bn_ | apply bd_ | apply ba_); exact BK258.out⟩, ⟨by (with_reducible repeat first | apply bn_ | apply bd_ | apply ba_); exact BK259.out⟩, ⟨by (with_reducible repeat first | apply bn_ | apply bd_ | apply ba_); exact BK264.out⟩, ⟨by (with_reducible repeat first | apply bn_ | apply bd_ | apply ba_); exact BK269.out⟩, ⟨by (with_reducible repeat first | apply bn_ | apply bd_ | apply ba_); exact BK284.out⟩, ⟨by (with_reducible repeat first | apply bn_ | apply bd_ | apply ba_); exact BK293.out⟩, ⟨by (with_reducible repeat first | apply bn_ | apply bd_ | apply ba_); exact BK296.out⟩, ⟨by (with_reducible repeat first | apply bn_ | apply bd_ | apply ba_); exact BK299.out⟩, ⟨by (with_reducible repeat first | apply bn_ | apply bd_ | apply ba_); exact BK304.out⟩, ⟨by repeat (first | (with_reducible first | exact HB.out | apply below_alloc | apply pw_below_drewN | apply below_drew1 | refine below_set ?_ GE258.out | refine below_set ?_ GE259.out | refine below_set ?_ GE264.out | refine below_set ?_ GE269.out | refine below_set ?_ GE284.out | refine below_set ?_ GE293.out | refine below_set ?_ GE296.out | refine below_set ?_ GE299.out | refine below_set ?_ GE304.out) | exact HB.out)⟩⟩
                      case rest =>
                        clear HC73
                        try clear c1
                        try clear p2
                        try clear c5
                        try clear c6
                        try clear c7
                        try clear c8
                        try clear c9
                        try clear c10
                        try clear c11
                        try clear c12
                        try clear c13
                        try clear c14
                        try clear c15
                        try clear c55
                        try clear c55b0
                        try clear c55b1
                        try clear c60
                        try clear c61
                        try clear c62
                        try clear c63
                        try clear c76
                        try clear c77
                        try clear c78
                        try clear c79
                        try clear c83
                        try clear c84
                        try clear c85
                        try clear c86
                        try clear c87
                        try clear c91
                        try clear c92
                        try clear c93
                        try clear c94
                        try clear c95
                        try clear c96
                        try clear c101
                        try clear c102
                        try clear c103
                        try clear c104
                        try clear c105
                        try clear c106
                        try clear c107
                        try clear c112
                        try clear c113
                        try clear c114
                        try clear c115
                        try clear c116
                        try clear c117
                        try clear c118
                        try clear c119
                        try clear c121
                        try clear c121b0
                        try clear hcz108_0
                        try clear hcz108_1
                        try clear hcz109_0
                        try clear hcz109_1
                        try clear hcz120_0
                        try clear hcz120_1
                        try clear hcz120_2
                        try clear hcz120_3
                        try clear hcz64_0
                        try clear hcz64_1
                        try clear hcz80_0
                        try clear hcz80_1
                        try clear hcz88_0
                        try clear hcz88_1
                        try clear hcz88_2
                        try clear hcz97_0
                        try clear hcz97_1
                        try clear hcz98_0
                        try clear hcz98_1
                        try clear hcz98_2
                        try clear hfz108_0
                        try clear hfz108_1
                        try clear hfz109_0
                        try clear hfz109_1
                        try clear hfz120_0
                        try clear hfz120_1
                        try clear hfz120_2
                        try clear hfz120_3
                        try clear hfz64_0
                        try clear hfz64_1
                        try clear hfz80_0
                        try clear hfz80_1
                        try clear hfz88_0
                        try clear hfz88_1
                        try clear hfz88_2
                        try clear hfz97_0
                        try clear hfz97_1
                        try clear hfz98_0
                        try clear hfz98_1
                        try clear hfz98_2
                        obtain ⟨kq, x111_72, rfl, HA, HJ72, BK258, BK259, BK264, BK269, BK284, BK293, BK296, BK299, BK304, HB⟩ := hcut
                        cases kq with
                        | zero => exact absurd HA.out (by simp [laws_FnWide.j3])
                        | succ kj72 =>
                          have H := HA.out
                          clear HA
                          simp only [laws_FnWide.j3] at H
                          by_cases c128 : x111_72 = true
                          · subst c128
                            have H1 : (some false) = some r := by rw [if_pos rfl] at H; exact H
                            clear H
                            have H := H1
                            clear H1
                            obtain rfl := Option.some.inj H
                            go_wp2
                            go_ret
                            exact ⟨by first | rfl | (simp [errW_none, errW_some] <;> rfl) | (simp [*, errW_none, errW_some] <;> rfl), by repeat (first | (with_reducible first | exact HB.out | apply below_alloc | apply pw_below_drewN | apply below_drew1 | refine below_set ?_ GE258.out | refine below_set ?_ GE259.out | refine below_set ?_ GE264.out | refine below_set ?_ GE269.out | refine below_set ?_ GE284.out | refine below_set ?_ GE293.out | refine below_set ?_ GE296.out | refine below_set ?_ GE299.out | refine below_set ?_ GE304.out) | exact HB.out)⟩
                          · replace c128 := Bool.eq_false_iff.mpr c128
                            subst c128
                            have H1 : ((impl_WideText.f kj72 t281 t282).bind fun t309 => ((impl_WideRead.f kj72 t309).bind fun bt310 => (some ((bt310.1 == t281 && (bt310.2.1 == t282)) && (!bt310.2.2.1 && (bt310.2.2.2 == 0)))))) = some r := by rw [if_neg (show ¬ (false = true) by decide)] at H; exact H
                            clear H
                            have H := H1
                            clear H1
                            replace H := Option.bind_eq_some_iff.mp H
                            obtain ⟨t309, A1290, H⟩ := H
                            replace H : ((impl_WideRead.f kj72 t309).bind fun bt310 => (some ((bt310.1 == t281 && (bt310.2.1 == t282)) && (!bt310.2.2.1 && (bt310.2.2.2 == 0))))) = some r := H
                            have A129 := Aside0.mk A1290
                            clear A1290
                            replace H := Option.bind_eq_some_iff.mp H
                            obtain ⟨⟨t310, t311, t312, t313⟩, A1300, H⟩ := H
                            replace H : (some ((t310 == t281 && (t311 == t282)) && (!t312 && (t313 == 0)))) = some r := H
                            have A130 := Aside0.mk A1300
                            clear A1300
                            obtain rfl := Option.some.inj H
                            try go_wp2
                            have n0_ := Aside0.mk (blk_drew BK258.out)
                            have n1_ := Aside0.mk (blk_drew BK259.out)
                            have n2_ := Aside0.mk (blk_drew BK264.out)
                            have n3_ := Aside0.mk (blk_drew BK269.out)
                            have n4_ := Aside0.mk (blk_drew BK284.out)
                            have n5_ := Aside0.mk (blk_drew BK293.out)
                            have n6_ := Aside0.mk (blk_drew BK296.out)
                            have n7_ := Aside0.mk (blk_drew BK299.out)
                            have n8_ := Aside0.mk (blk_drew BK304.out)
                            have n9_ := Aside0.mk (below_drew1 HB.out)
                            clear BK258
                            clear BK259
                            clear BK264
                            clear BK269
                            clear BK284
                            clear BK293
                            clear BK296
                            clear BK299
                            clear BK304
                            clear HB
                            have BK258 := n0_
                            have BK259 := n1_
                            have BK264 := n2_
                            have BK269 := n3_
                            have BK284 := n4_
                            have BK293 := n5_
                            have BK296 := n6_
                            have BK299 := n7_
                            have BK304 := n8_
                            have HB := n9_
                            clear n0_ n1_ n2_ n3_ n4_ n5_ n6_ n7_ n8_ n9_
                            refine start_ (n := 7) (S := fun w' => w'.cell? ⟨gb284, 0, none⟩ = some (.int .u64 t281) ∧ w'.cell? ⟨gb284, 1, none⟩ = some (.int .u64 t282)) (ds := []) #[false, false, false, false, false, false, false] (by kernel_rfl) rfl rfl ⟨(blk_cell BK284.out 0).trans rfl, (blk_cell BK284.out 1).trans rfl⟩ (fun hHeld => ?_)
                            generalize wc.drew = w131 at BK258 BK259 BK264 BK269 BK284 BK293 BK296 BK299 BK304 HB hHeld ⊢
                            refine take_ (i := 0) (N := some 112) (v := ?_) (a' := ?_) #[true, false, false, false, false, false, false] rfl rfl (by kernel_rfl) (fun _ _ _ h => h) (Or.inl ⟨by rfl, ?_⟩) hHeld ?_ ?_; rotate_left; (rintro w' ⟨s0, s1⟩; go_simp; with_reducible rfl); rotate_left; (simp only [Act.put, List.setIfInBounds_toArray, List.set_cons_zero, List.set_cons_succ, i64_w, i32_w]; rfl)
                            refine take_ (i := 3) (N := some 115) (v := ?_) (a' := ?_) #[true, false, false, true, false, false, false] rfl rfl (by kernel_rfl) (fun _ _ _ h => h) (Or.inl ⟨by rfl, ?_⟩) hHeld ?_ ?_; rotate_left; (rintro w' ⟨s0, s1⟩; go_simp; with_reducible rfl); rotate_left; (simp only [Act.put, List.setIfInBounds_toArray, List.set_cons_zero, List.set_cons_succ, i64_w, i32_w]; rfl)
                            refine pure_ (i := 4) (N := some 116) (v := ?_) (a' := ?_) #[true, false, false, true, true, false, false] rfl rfl (by kernel_rfl) (fun _ _ _ h => h) (Or.inl ⟨by rfl, ?_⟩) ?_ ?_; rotate_left; (intro w'; go_simp; with_reducible rfl); rotate_left; (simp only [Act.put, List.setIfInBounds_toArray, List.set_cons_zero, List.set_cons_succ, i64_w, i32_w]; rfl)
                            refine one_ (i := 1) (N := some 113) #[true, true, false, true, true, false, false] rfl rfl (by kernel_rfl) (by decide) (fun K hK => ?_)
                            refine goes_ Tryd.func15 (by kernel_rfl) rfl #[.agg #[.int .u64 t281, .int .u64 t282]] (by rfl) rfl rfl (by (try simp only [List.map_toArray, List.map_cons, List.map_nil]); first | done | rfl | (simp only [List.length_drop, List.length_take]; rfl)) ?_
                            with_reducible refine (impl_WideText.calls kj72 t281 t282 t309 _ A129.out).mono ?_
                            rintro e w132 ⟨rfl, hb⟩
                            refine ⟨_, rfl, ?_⟩
                            have n0_ := Aside0.mk (blk_below (g := gb258) (o := .cells #[.int .u64 t254, .int .u64 t255] 24 (0, 0)) (by (with_reducible repeat first | apply bn_ | apply bd_ | apply ba_); exact BK258.out) hb)
                            have n1_ := Aside0.mk (blk_below (g := gb259) (o := .cells #[.int .u64 t256, .int .u64 t257] 24 (0, 0)) (by (with_reducible repeat first | apply bn_ | apply bd_ | apply ba_); exact BK259.out) hb)
                            have n2_ := Aside0.mk (blk_below (g := gb264) (o := .cells #[.int .u64 t260, .int .u64 t261, .bool t262, .int .i64 t263] 26 (0, 0)) (by (with_reducible repeat first | apply bn_ | apply bd_ | apply ba_); exact BK264.out) hb)
                            have n3_ := Aside0.mk (blk_below (g := gb269) (o := .cells #[.int .u64 t265, .int .u64 t266, .bool t267, .int .i64 t268] 26 (0, 0)) (by (with_reducible repeat first | apply bn_ | apply bd_ | apply ba_); exact BK269.out) hb)
                            have n4_ := Aside0.mk (blk_below (g := gb284) (o := .cells #[.int .u64 t281, .int .u64 t282] 24 (0, 0)) (by (with_reducible repeat first | apply bn_ | apply bd_ | apply ba_); exact BK284.out) hb)
                            have n5_ := Aside0.mk (blk_below (g := gb293) (o := .cells #[.int .u64 t290, .int .u64 t291, .int .u64 t292] 38 (0, 0)) (by (with_reducible repeat first | apply bn_ | apply bd_ | apply ba_); exact BK293.out) hb)
                            have n6_ := Aside0.mk (blk_below (g := gb296) (o := .cells #[.int .u64 t294, .int .u64 t295] 24 (0, 0)) (by (with_reducible repeat first | apply bn_ | apply bd_ | apply ba_); exact BK296.out) hb)
                            have n7_ := Aside0.mk (blk_below (g := gb299) (o := .cells #[.int .u64 t297, .int .u64 t298] 24 (0, 0)) (by (with_reducible repeat first | apply bn_ | apply bd_ | apply ba_); exact BK299.out) hb)
                            have n8_ := Aside0.mk (blk_below (g := gb304) (o := .cells #[.int .u64 t300, .int .u64 t301, .bool t302, .int .i64 t303] 26 (0, 0)) (by (with_reducible repeat first | apply bn_ | apply bd_ | apply ba_); exact BK304.out) hb)
                            have n9_ := Aside0.mk (below_step (by repeat (first | (with_reducible first | exact HB.out | apply below_alloc | apply pw_below_drewN | apply below_drew1 | refine below_set ?_ GE258.out | refine below_set ?_ GE259.out | refine below_set ?_ GE264.out | refine below_set ?_ GE269.out | refine below_set ?_ GE284.out | refine below_set ?_ GE293.out | refine below_set ?_ GE296.out | refine below_set ?_ GE299.out | refine below_set ?_ GE304.out) | exact HB.out)) hb)
                            clear BK258
                            clear BK259
                            clear BK264
                            clear BK269
                            clear BK284
                            clear BK293
                            clear BK296
                            clear BK299
                            clear BK304
                            clear HB
                            have BK258 := n0_
                            have BK259 := n1_
                            have BK264 := n2_
                            have BK269 := n3_
                            have BK284 := n4_
                            have BK293 := n5_
                            have BK296 := n6_
                            have BK299 := n7_
                            have BK304 := n8_
                            have HB := n9_
                            clear n0_ n1_ n2_ n3_ n4_ n5_ n6_ n7_ n8_ n9_
                            (try clear hb)
                            (try clear hb2)
                            (try clear hk)
                            (try clear hi)
                            refine hK.out _ _ ⟨(blk_cell BK284.out 0).trans rfl, (blk_cell BK284.out 1).trans rfl⟩ (fun hHeld => ?_)
                            clear hK K
                            refine norm_ (a' := ?_) ?_ ?_
                            rotate_left
                            · show Act.put _ (some 113) _ = _
                              simp only [Act.put, List.setIfInBounds_toArray, List.set_cons_zero, List.set_cons_succ, i64_w, i32_w]
                              rfl
                            refine one_ (i := 2) (N := some 114) #[true, true, true, true, true, false, false] rfl rfl (by kernel_rfl) (by decide) (fun K hK => ?_)
                            refine goes_ Tryd.func6 (by kernel_rfl) rfl #[.string t309] (by rfl) rfl rfl (by (try simp only [List.map_toArray, List.map_cons, List.map_nil]); first | done | rfl | (simp only [List.length_drop, List.length_take]; rfl)) ?_
                            with_reducible refine (impl_WideRead.calls kj72 t309 t310 t311 t312 t313 _ A130.out).mono ?_
                            rintro e w133 ⟨rfl, hb⟩
                            refine ⟨_, rfl, ?_⟩
                            have n0_ := Aside0.mk (blk_below (g := gb258) (o := .cells #[.int .u64 t254, .int .u64 t255] 24 (0, 0)) (by (with_reducible repeat first | apply bn_ | apply bd_ | apply ba_); exact BK258.out) hb)
                            have n1_ := Aside0.mk (blk_below (g := gb259) (o := .cells #[.int .u64 t256, .int .u64 t257] 24 (0, 0)) (by (with_reducible repeat first | apply bn_ | apply bd_ | apply ba_); exact BK259.out) hb)
                            have n2_ := Aside0.mk (blk_below (g := gb264) (o := .cells #[.int .u64 t260, .int .u64 t261, .bool t262, .int .i64 t263] 26 (0, 0)) (by (with_reducible repeat first | apply bn_ | apply bd_ | apply ba_); exact BK264.out) hb)
                            have n3_ := Aside0.mk (blk_below (g := gb269) (o := .cells #[.int .u64 t265, .int .u64 t266, .bool t267, .int .i64 t268] 26 (0, 0)) (by (with_reducible repeat first | apply bn_ | apply bd_ | apply ba_); exact BK269.out) hb)
                            have n4_ := Aside0.mk (blk_below (g := gb284) (o := .cells #[.int .u64 t281, .int .u64 t282] 24 (0, 0)) (by (with_reducible repeat first | apply bn_ | apply bd_ | apply ba_); exact BK284.out) hb)
                            have n5_ := Aside0.mk (blk_below (g := gb293) (o := .cells #[.int .u64 t290, .int .u64 t291, .int .u64 t292] 38 (0, 0)) (by (with_reducible repeat first | apply bn_ | apply bd_ | apply ba_); exact BK293.out) hb)
                            have n6_ := Aside0.mk (blk_below (g := gb296) (o := .cells #[.int .u64 t294, .int .u64 t295] 24 (0, 0)) (by (with_reducible repeat first | apply bn_ | apply bd_ | apply ba_); exact BK296.out) hb)
                            have n7_ := Aside0.mk (blk_below (g := gb299) (o := .cells #[.int .u64 t297, .int .u64 t298] 24 (0, 0)) (by (with_reducible repeat first | apply bn_ | apply bd_ | apply ba_); exact BK299.out) hb)
                            have n8_ := Aside0.mk (blk_below (g := gb304) (o := .cells #[.int .u64 t300, .int .u64 t301, .bool t302, .int .i64 t303] 26 (0, 0)) (by (with_reducible repeat first | apply bn_ | apply bd_ | apply ba_); exact BK304.out) hb)
                            have n9_ := Aside0.mk (below_step (by repeat (first | (with_reducible first | exact HB.out | apply below_alloc | apply pw_below_drewN | apply below_drew1 | refine below_set ?_ GE258.out | refine below_set ?_ GE259.out | refine below_set ?_ GE264.out | refine below_set ?_ GE269.out | refine below_set ?_ GE284.out | refine below_set ?_ GE293.out | refine below_set ?_ GE296.out | refine below_set ?_ GE299.out | refine below_set ?_ GE304.out) | exact HB.out)) hb)
                            clear BK258
                            clear BK259
                            clear BK264
                            clear BK269
                            clear BK284
                            clear BK293
                            clear BK296
                            clear BK299
                            clear BK304
                            clear HB
                            have BK258 := n0_
                            have BK259 := n1_
                            have BK264 := n2_
                            have BK269 := n3_
                            have BK284 := n4_
                            have BK293 := n5_
                            have BK296 := n6_
                            have BK299 := n7_
                            have BK304 := n8_
                            have HB := n9_
                            clear n0_ n1_ n2_ n3_ n4_ n5_ n6_ n7_ n8_ n9_
                            (try clear hb)
                            (try clear hb2)
                            (try clear hk)
                            (try clear hi)
                            refine hK.out _ _ ⟨(blk_cell BK284.out 0).trans rfl, (blk_cell BK284.out 1).trans rfl⟩ (fun hHeld => ?_)
                            clear hK K
                            refine norm_ (a' := ?_) ?_ ?_
                            rotate_left
                            · show Act.put _ (some 114) _ = _
                              simp only [Act.put, List.setIfInBounds_toArray, List.set_cons_zero, List.set_cons_succ, i64_w, i32_w]
                              rfl
                            refine pure_ (i := 5) (N := some 117) (v := ?_) (a' := ?_) #[true, true, true, true, true, true, false] rfl rfl (by kernel_rfl) (fun _ _ _ h => h) (Or.inl ⟨by rfl, ?_⟩) ?_ ?_; rotate_left; (intro w'; go_simp; with_reducible rfl); rotate_left; (simp only [Act.put, List.setIfInBounds_toArray, List.set_cons_zero, List.set_cons_succ, i64_w, i32_w]; rfl)
                            refine pure_ (i := 6) (N := some 4) (v := ?_) (a' := ?_) #[true, true, true, true, true, true, true] rfl rfl (by kernel_rfl) (fun _ _ _ h => h) (Or.inl ⟨by rfl, ?_⟩) ?_ ?_; rotate_left; (intro w'; go_simp; with_reducible rfl); rotate_left; (simp only [Act.put, List.setIfInBounds_toArray, List.set_cons_zero, List.set_cons_succ, i64_w, i32_w]; rfl)
                            refine done_ (by kernel_rfl) ?_
                            try go_wp2
                            go_ret
                            exact ⟨by first | rfl | (simp [errW_none, errW_some] <;> rfl) | (simp [*, errW_none, errW_some] <;> rfl), by repeat (first | (with_reducible first | exact HB.out | apply below_alloc | apply pw_below_drewN | apply below_drew1 | refine below_set ?_ GE258.out | refine below_set ?_ GE259.out | refine below_set ?_ GE264.out | refine below_set ?_ GE269.out | refine below_set ?_ GE284.out | refine below_set ?_ GE293.out | refine below_set ?_ GE296.out | refine below_set ?_ GE299.out | refine below_set ?_ GE304.out) | exact HB.out)⟩

/-- THE ONE PURE STATEMENT of laws_FnWide: yours. -/
def laws_FnWide.Pure : Prop := ∀ (l0 : List Int) (l1 : List Int), l0.length ≤ maxLen → l0.length * 1 ≤ 140737488351232 → (∀ x ∈ l0, (Lit.int .u8 x).wf = true) → l1.length ≤ maxLen → l1.length * 1 ≤ 140737488351232 → (∀ x ∈ l1, (Lit.int .u8 x).wf = true) → ∃ k, laws_FnWide.f k l0 l1 = some true
theorem laws_FnWide.walk (P : laws_FnWide.Pure) (a0 : Option Addr) (len0 cap0 : Nat) (z0 : List Int) (a1 : Option Addr) (len1 cap1 : Nat) (z1 : List Int) (w : World) (w0 : (a0 = none ∧ len0 = 0 ∧ cap0 = 0 ∧ z0 = []) ∨ ∃ x, a0 = some x ∧ len0 ≤ cap0 ∧ cap0 ≤ maxLen ∧ z0.length = cap0 ∧ (∀ i, i < z0.length → w.cell? (x.add i) = some (.int .u8 (z0.getD i 0))) ∧ ∀ n ∈ z0, (Lit.int .u8 n).wf = true) (y0 : len0 * 1 ≤ 140737488351232) (w1 : (a1 = none ∧ len1 = 0 ∧ cap1 = 0 ∧ z1 = []) ∨ ∃ x, a1 = some x ∧ len1 ≤ cap1 ∧ cap1 ≤ maxLen ∧ z1.length = cap1 ∧ (∀ i, i < z1.length → w.cell? (x.add i) = some (.int .u8 (z1.getD i 0))) ∧ ∀ n ∈ z1, (Lit.int .u8 n).wf = true) (y1 : len1 * 1 ≤ 140737488351232) :
    Calls Tryd.prog 4 #[.slice a0 len0 cap0, .slice a1 len1 cap1] w fun e w' => e = .returned (.bool true) ∧ Below w.heap.size w w' := by
  obtain ⟨l0, rfl, hr0, hm0, hw0, hc0⟩ := ReadsInt.ofRowC w0
  obtain ⟨l1, rfl, hr1, hm1, hw1, hc1⟩ := ReadsInt.ofRowC w1
  obtain ⟨k, h⟩ := P l0 l1 hm0 y0 hw0 hm1 y1 hw1
  refine (laws_FnWide.calls k _ _ l0 _ _ l1 true w (Kd.C_of_reads (d := (0 : Int)) (h1 := fun _ => rfl) hr0) hc0 (Kd.C_of_reads (d := (0 : Int)) (h1 := fun _ => rfl) hr1) hc1 h).mono ?_
  rintro e w' ⟨rfl, hd⟩
  exact ⟨rfl, hd⟩

end Go.Proofs.YtpgaoihgohlmkaaDoor.XFnWide
