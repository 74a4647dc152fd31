/- Functions that FnExactWheelRight comes to, as Lean functions with their contracts: written by the prover's own program (wip/tpl/myprint.py) over the kit's printer, some contracts by hand. Conditions: none. -/
import Derived.Test.YtenlceojmjkbkaaXFnExactWheelRightx0
import Derived.Test.YtenlceojmjkbkaaXFnExactWheelRightx3
import Derived.Test.YtenlceojmjkbkaaXFnExactWheelRightx4
namespace Go.Proofs.Ytenlceojmjkbkaa.XFnExactWheelRight
open Go.RowKit Go.Proofs.YtenlceojmjkbkaaW.PrintWords Go.Proofs.YtenlceojmjkbkaaW.PrintLast Go.Proofs.YtenlceojmjkbkaaW.PrintMore
attribute [local go_sem] max2_int min2_int max_two min_two max_three min_three max_four min_four   -- for this text's walks alone
set_option linter.unusedVariables false
set_option linter.unusedSimpArgs false

class BB5 (w w' : World) : Prop where b : Below w.heap.size w w'
instance (w : World) : BB5 w w := ⟨Below.refl _ _⟩
instance (w w' : World) (n : Nat) [h : BB5 w w'] : BB5 w (w'.drewN n) := ⟨pw_below_drewN h.b n⟩
instance (w w' : World) [h : BB5 w w'] : BB5 w w'.drew := ⟨below_drew1 h.b⟩
instance (w w' : World) (o : Obj) [h : BB5 w w'] : BB5 w (w'.alloc o) := ⟨below_alloc h.b o⟩
theorem up_5 {w w' : World} {g : Nat} {o : Obj} [h : BB5 w w'] (k : w.heap[g]? = some o) : w'.heap[g]? = some o := blk_below k h.b
theorem rU_5 {α : Type} {d : Kd α} {e : TypeId} {w w' : World} {base : Nat} {ok : Nat → Prop} {v : Value} {xs : List α} [h : BB5 w w'] (k : d.R e w base ok v xs) : d.R e w' base ok v xs := Kd.R_below k h.b
theorem qU_5 {α : Type} {d : Kd α} {e : TypeId} {w w' : World} {base : Nat} {ok : Nat → Prop} {v : Value} {xs : List α} [h : BB5 w w'] (k : d.Q e w base ok v xs) : d.Q e w' base ok v xs := Kd.Q_below k h.b

abbrev o_5 : Bool := true
abbrev x_5 : Bool := false
section
variable {P : Program} {ops : Array Oper} {Q : Exit → Act → World → Prop} {md : Region.Mode} {S : World → Prop} {ds : List Nat} {T : Bool × List (List Nat × List Nat)} {B : List Nat} {oi : Oper} {fuel : Nat} {l : Array Bool} {a a' : Act} {w : World} {v : Value}
theorem pu_5 (i N : Nat) (l' : Array Bool) (hT : Aside0 (rtab md ops = T)) (hi : ops[i]? = some oi) (hN : oi.dst = some N) (hc : anyT T l.toList l'.toList i = true)
    (h : wpAnyLast P md ops Q S ds fuel l' a' w) (hQ : ∀ c a w, Q (.panic c) (a.put oi.dst v) w → Q (.panic c) a w := by exact fun _ _ _ h => h)
    (hw : Region.wanted oi (yielded ops a.tmps) = true := by rfl) (hy : ∀ w, (execOp a.eval oi).run P w = .ok (.value v) w := by intro w'; go_simp; with_reducible rfl)
    (ha : a.put (some N) v = a' := by (simp only [Act.put, List.setIfInBounds_toArray, List.set_cons_zero, List.set_cons_succ, i64_w, i32_w]; rfl)) : wpAnyLast P md ops Q S ds (fuel + 1) l a w :=
  pure_ l' hi hN (any_of hT.out hc) hQ (Or.inl ⟨hw, hy⟩) ha h
theorem pn_5 (i N : Nat) (l' : Array Bool) (hT : Aside0 (rtab md ops = T)) (hi : ops[i]? = some oi) (hN : oi.dst = some N) (hc : anyT T l.toList l'.toList i = true)
    (h : wpAnyLast P md ops Q S ds fuel l' a' w) (hQ : ∀ c a w, Q (.panic c) (a.put oi.dst undef) w → Q (.panic c) a w := by exact fun _ _ _ h => h)
    (hw : Region.wanted oi (yielded ops a.tmps) = false := by rfl)
    (ha : a.put (some N) undef = a' := by (simp only [Act.put, List.setIfInBounds_toArray, List.set_cons_zero, List.set_cons_succ, i64_w, i32_w]; rfl)) : wpAnyLast P md ops Q S ds (fuel + 1) l a w :=
  pure_ l' hi hN (any_of hT.out hc) hQ (Or.inr ⟨hw, rfl⟩) ha h
theorem tk_5 (i N : Nat) (l' : Array Bool) (hT : Aside0 (rtab md ops = T)) (hW : Aside0 (waitsOk T.2 B = true)) (hS : S w) (hi : ops[i]? = some oi) (hN : oi.dst = some N) (hc : takeW T B ds l.toList l'.toList i = true)
    (h : wpAnyLast P md ops Q S ds fuel l' a' w) (hy : ∀ w, S w → (execOp a.eval oi).run P w = .ok (.value v) w) (hQ : ∀ c a w, Q (.panic c) (a.put oi.dst v) w → Q (.panic c) a w := by exact fun _ _ _ h => h)
    (hw : Region.wanted oi (yielded ops a.tmps) = true := by rfl)
    (ha : a.put (some N) v = a' := by (simp only [Act.put, List.setIfInBounds_toArray, List.set_cons_zero, List.set_cons_succ, i64_w, i32_w]; rfl)) : wpAnyLast P md ops Q S ds (fuel + 1) l a w :=
  take_ l' hi hN (take_ofW hT.out hW.out hc) hQ (Or.inl ⟨hw, hy⟩) hS ha h
end

/-! ### impl_WheelRight: function 25 -/
mutual
def impl_WheelRight.j0 : Nat → Bool → Int → List (List (S91)) → List (S91) → Option (Bool)
 | 0, _, _, _, _ => none
 | k + 1, x22, x192000, x192001, x192002 => if x22 = true then (some false) else (impl_WheelRight.l0 k (x192002.length : Int) x192001 (x192001.length : Int) 0 x192000 x192001 x192002)
def impl_WheelRight.l0 : Nat → Int → List (List (S91)) → Int → Int → Int → List (List (S91)) → List (S91) → Option (Bool)
 | 0, _, _, _, _, _, _, _ => none
 | k + 1, x3, x27, x28, x29, x192000, x192001, x192002 => if x29 < x28 then (if 0 ≤ x29 then (if x29 < (x27.length : Int) then (impl_WheelRight.l1 k (wrap64 (x3 + ((rd_L4 x27 x29).length : Int))) x29 (rd_L4 x27 x29) x27 x28 x29 (rd_L4 x27 x29) ((rd_L4 x27 x29).length : Int) 0 x192000 x192001 x192002) else (none)) else (none)) else (impl_WheelRight.l2 k x3 x192002 (x192002.length : Int) 0 x192000 x192001 x192002)
def impl_WheelRight.l1 : Nat → Int → Int → List (S91) → List (List (S91)) → Int → Int → List (S91) → Int → Int → Int → List (List (S91)) → List (S91) → Option (Bool)
 | 0, _, _, _, _, _, _, _, _, _, _, _, _ => none
 | k + 1, x3, x4, x5, x27, x28, x29, x38, x39, x40, x192000, x192001, x192002 => if x40 < x39 then (if 0 ≤ x40 then (if x40 < (x38.length : Int) then ((impl_in.f ((rd_T91 x38 x40).f1) (wrap64 (x192000 + 1)) (wrap64 (x192000 + 16))).bind fun t196 => (if t196 = true then (if ((rd_T91 x38 x40).f1) > 1000000 then (some false) else (if (Int.tmod ((rd_T91 x38 x40).f1) 16) = x4 then (if x40 > 0 then (if 0 ≤ (wrap64 (x40 - 1)) then (if (wrap64 (x40 - 1)) < (x5.length : Int) then (if ((rd_T91 x5 (wrap64 (x40 - 1))).f0) ≥ ((rd_T91 x38 x40).f0) then (some false) else (impl_WheelRight.l1 k x3 x4 x5 x27 x28 x29 x38 x39 (wrap64 (x40 + 1)) x192000 x192001 x192002)) else (none)) else (none)) else (impl_WheelRight.l1 k x3 x4 x5 x27 x28 x29 x38 x39 (wrap64 (x40 + 1)) x192000 x192001 x192002)) else (some false))) else (some false))) else (none)) else (none)) else (impl_WheelRight.l0 k x3 x27 x28 (wrap64 (x29 + 1)) x192000 x192001 x192002)
def impl_WheelRight.l2 : Nat → Int → List (S91) → Int → Int → Int → List (List (S91)) → List (S91) → Option (Bool)
 | 0, _, _, _, _, _, _, _ => none
 | k + 1, x3, x85, x86, x87, x192000, x192001, x192002 => if x87 < x86 then (if 0 ≤ x87 then (if x87 < (x85.length : Int) then ((impl_in.f ((rd_T91 x85 x87).f1) (wrap64 ((wrap64 (x192000 + 16)) + 1)) 1000000).bind fun t200 => (if t200 = true then (if x87 > 0 then (if 0 ≤ (wrap64 (x87 - 1)) then (if (wrap64 (x87 - 1)) < (x192002.length : Int) then ((impl_byTime.f k ((rd_T91 x192002 (wrap64 (x87 - 1))).f0) ((rd_T91 x192002 (wrap64 (x87 - 1))).f1) ((rd_T91 x85 x87).f0) ((rd_T91 x85 x87).f1)).bind fun t202 => (if t202 ≥ 0 then (some false) else (impl_WheelRight.l2 k x3 x85 x86 (wrap64 (x87 + 1)) x192000 x192001 x192002))) else (none)) else (none)) else (impl_WheelRight.l2 k x3 x85 x86 (wrap64 (x87 + 1)) x192000 x192001 x192002)) else (some false))) else (none)) else (none)) else (if x3 > 100 then (some false) else ((impl_Wheel_all.f x192000 x192001 x192002).bind fun t203 => ((impl_Timer_71.f t203).bind fun t206 => (impl_WheelRight.l3 k t206 t206 (t206.length : Int) 0))))
def impl_WheelRight.l3 : Nat → List (S91) → List (S91) → Int → Int → Option (Bool)
 | 0, _, _, _, _ => none
 | k + 1, x10, x122, x123, x124 => if x124 < x123 then (if 0 ≤ x124 then (if x124 < (x122.length : Int) then ((impl_isId.f ((rd_T91 x122 x124).f0)).bind fun t211 => (if t211 = true then (if x124 > 0 then (if 0 ≤ (wrap64 (x124 - 1)) then (if (wrap64 (x124 - 1)) < (x10.length : Int) then (if ((rd_T91 x10 (wrap64 (x124 - 1))).f0) = ((rd_T91 x122 x124).f0) then (some false) else (impl_WheelRight.l3 k x10 x122 x123 (wrap64 (x124 + 1)))) else (none)) else (none)) else (impl_WheelRight.l3 k x10 x122 x123 (wrap64 (x124 + 1)))) else (some false))) else (none)) else (none)) else (some true)
end
def impl_WheelRight.f (k : Nat) (a0_0 : Int) (l0_1 : List (List (S91))) (l0_2 : List (S91)) : Option (Bool) := (impl_isTime.f a0_0).bind fun t192 => (if t192 = true then (impl_WheelRight.j0 k ((l0_1.length : Int) != 16) a0_0 l0_1 l0_2) else (impl_WheelRight.j0 k true a0_0 l0_1 l0_2))
theorem impl_WheelRight.mono_l : ∀ k, (∀ y0 y1 y2 y3, LeO (impl_WheelRight.j0 k y0 y1 y2 y3) (impl_WheelRight.j0 (k + 1) y0 y1 y2 y3)) ∧ (∀ y0 y1 y2 y3 y4 y5 y6, LeO (impl_WheelRight.l0 k y0 y1 y2 y3 y4 y5 y6) (impl_WheelRight.l0 (k + 1) y0 y1 y2 y3 y4 y5 y6)) ∧ (∀ y0 y1 y2 y3 y4 y5 y6 y7 y8 y9 y10 y11, LeO (impl_WheelRight.l1 k y0 y1 y2 y3 y4 y5 y6 y7 y8 y9 y10 y11) (impl_WheelRight.l1 (k + 1) y0 y1 y2 y3 y4 y5 y6 y7 y8 y9 y10 y11)) ∧ (∀ y0 y1 y2 y3 y4 y5 y6, LeO (impl_WheelRight.l2 k y0 y1 y2 y3 y4 y5 y6) (impl_WheelRight.l2 (k + 1) y0 y1 y2 y3 y4 y5 y6)) ∧ (∀ y0 y1 y2 y3, LeO (impl_WheelRight.l3 k y0 y1 y2 y3) (impl_WheelRight.l3 (k + 1) y0 y1 y2 y3))
 | 0 => ⟨fun _ _ _ _ r h => by simp [impl_WheelRight.j0] at h, fun _ _ _ _ _ _ _ r h => by simp [impl_WheelRight.l0] at h, fun _ _ _ _ _ _ _ _ _ _ _ _ r h => by simp [impl_WheelRight.l1] at h, fun _ _ _ _ _ _ _ r h => by simp [impl_WheelRight.l2] at h, fun _ _ _ _ r h => by simp [impl_WheelRight.l3] at h⟩
 | k + 1 => by
  obtain ⟨ih0, ih1, ih2, ih3, ih4⟩ := impl_WheelRight.mono_l k
  refine ⟨?_, ?_, ?_, ?_, ?_⟩
  ·
   intro y0 y1 y2 y3
   unfold impl_WheelRight.j0
   repeat' first
   | (with_reducible exact ih0 _ _ _ _)
   | (with_reducible exact ih1 _ _ _ _ _ _ _)
   | (with_reducible exact ih2 _ _ _ _ _ _ _ _ _ _ _ _)
   | (with_reducible exact ih3 _ _ _ _ _ _ _)
   | (with_reducible exact ih4 _ _ _ _)
   | (with_reducible exact impl_byTime.mono _ _ _ _ _)
   | (with_reducible exact LeO.refl _)
   | (with_reducible exact LeO.none _)
   | (with_reducible refine LeO.ite ?_ ?_)
   | (with_reducible refine LeO.bind ?_ (fun _ => ?_))
   | exact ih0 _ _ _ _
   | exact ih1 _ _ _ _ _ _ _
   | exact ih2 _ _ _ _ _ _ _ _ _ _ _ _
   | exact ih3 _ _ _ _ _ _ _
   | exact ih4 _ _ _ _
   | exact impl_byTime.mono _ _ _ _ _
   | exact LeO.none _
   | refine LeO.ite ?_ ?_
   | refine LeO.bind ?_ (fun _ => ?_)
  ·
   intro y0 y1 y2 y3 y4 y5 y6
   unfold impl_WheelRight.l0
   repeat' first
   | (with_reducible exact ih0 _ _ _ _)
   | (with_reducible exact ih1 _ _ _ _ _ _ _)
   | (with_reducible exact ih2 _ _ _ _ _ _ _ _ _ _ _ _)
   | (with_reducible exact ih3 _ _ _ _ _ _ _)
   | (with_reducible exact ih4 _ _ _ _)
   | (with_reducible exact impl_byTime.mono _ _ _ _ _)
   | (with_reducible exact LeO.refl _)
   | (with_reducible exact LeO.none _)
   | (with_reducible refine LeO.ite ?_ ?_)
   | (with_reducible refine LeO.bind ?_ (fun _ => ?_))
   | exact ih0 _ _ _ _
   | exact ih1 _ _ _ _ _ _ _
   | exact ih2 _ _ _ _ _ _ _ _ _ _ _ _
   | exact ih3 _ _ _ _ _ _ _
   | exact ih4 _ _ _ _
   | exact impl_byTime.mono _ _ _ _ _
   | exact LeO.none _
   | refine LeO.ite ?_ ?_
   | refine LeO.bind ?_ (fun _ => ?_)
  ·
   intro y0 y1 y2 y3 y4 y5 y6 y7 y8 y9 y10 y11
   unfold impl_WheelRight.l1
   repeat' first
   | (with_reducible exact ih0 _ _ _ _)
   | (with_reducible exact ih1 _ _ _ _ _ _ _)
   | (with_reducible exact ih2 _ _ _ _ _ _ _ _ _ _ _ _)
   | (with_reducible exact ih3 _ _ _ _ _ _ _)
   | (with_reducible exact ih4 _ _ _ _)
   | (with_reducible exact impl_byTime.mono _ _ _ _ _)
   | (with_reducible exact LeO.refl _)
   | (with_reducible exact LeO.none _)
   | (with_reducible refine LeO.ite ?_ ?_)
   | (with_reducible refine LeO.bind ?_ (fun _ => ?_))
   | exact ih0 _ _ _ _
   | exact ih1 _ _ _ _ _ _ _
   | exact ih2 _ _ _ _ _ _ _ _ _ _ _ _
   | exact ih3 _ _ _ _ _ _ _
   | exact ih4 _ _ _ _
   | exact impl_byTime.mono _ _ _ _ _
   | exact LeO.none _
   | refine LeO.ite ?_ ?_
   | refine LeO.bind ?_ (fun _ => ?_)
  ·
   intro y0 y1 y2 y3 y4 y5 y6
   unfold impl_WheelRight.l2
   repeat' first
   | (with_reducible exact ih0 _ _ _ _)
   | (with_reducible exact ih1 _ _ _ _ _ _ _)
   | (with_reducible exact ih2 _ _ _ _ _ _ _ _ _ _ _ _)
   | (with_reducible exact ih3 _ _ _ _ _ _ _)
   | (with_reducible exact ih4 _ _ _ _)
   | (with_reducible exact impl_byTime.mono _ _ _ _ _)
   | (with_reducible exact LeO.refl _)
   | (with_reducible exact LeO.none _)
   | (with_reducible refine LeO.ite ?_ ?_)
   | (with_reducible refine LeO.bind ?_ (fun _ => ?_))
   | exact ih0 _ _ _ _
   | exact ih1 _ _ _ _ _ _ _
   | exact ih2 _ _ _ _ _ _ _ _ _ _ _ _
   | exact ih3 _ _ _ _ _ _ _
   | exact ih4 _ _ _ _
   | exact impl_byTime.mono _ _ _ _ _
   | exact LeO.none _
   | refine LeO.ite ?_ ?_
   | refine LeO.bind ?_ (fun _ => ?_)
  ·
   intro y0 y1 y2 y3
   unfold impl_WheelRight.l3
   repeat' first
   | (with_reducible exact ih0 _ _ _ _)
   | (with_reducible exact ih1 _ _ _ _ _ _ _)
   | (with_reducible exact ih2 _ _ _ _ _ _ _ _ _ _ _ _)
   | (with_reducible exact ih3 _ _ _ _ _ _ _)
   | (with_reducible exact ih4 _ _ _ _)
   | (with_reducible exact impl_byTime.mono _ _ _ _ _)
   | (with_reducible exact LeO.refl _)
   | (with_reducible exact LeO.none _)
   | (with_reducible refine LeO.ite ?_ ?_)
   | (with_reducible refine LeO.bind ?_ (fun _ => ?_))
   | exact ih0 _ _ _ _
   | exact ih1 _ _ _ _ _ _ _
   | exact ih2 _ _ _ _ _ _ _ _ _ _ _ _
   | exact ih3 _ _ _ _ _ _ _
   | exact ih4 _ _ _ _
   | exact impl_byTime.mono _ _ _ _ _
   | exact LeO.none _
   | refine LeO.ite ?_ ?_
   | refine LeO.bind ?_ (fun _ => ?_)
theorem impl_WheelRight.mono : ∀ a0 a1 a2 k, LeO (impl_WheelRight.f k a0 a1 a2) (impl_WheelRight.f (k + 1) a0 a1 a2) := by
 intro a0 a1 a2 k
 obtain ⟨ih0, ih1, ih2, ih3, ih4⟩ := impl_WheelRight.mono_l k
 unfold impl_WheelRight.f
 repeat' first
   | (with_reducible exact ih0 _ _ _ _)
   | (with_reducible exact ih1 _ _ _ _ _ _ _)
   | (with_reducible exact ih2 _ _ _ _ _ _ _ _ _ _ _ _)
   | (with_reducible exact ih3 _ _ _ _ _ _ _)
   | (with_reducible exact ih4 _ _ _ _)
   | (with_reducible exact impl_byTime.mono _ _ _ _ _)
   | (with_reducible exact LeO.refl _)
   | (with_reducible exact LeO.none _)
   | (with_reducible refine LeO.ite ?_ ?_)
   | (with_reducible refine LeO.bind ?_ (fun _ => ?_))
   | exact ih0 _ _ _ _
   | exact ih1 _ _ _ _ _ _ _
   | exact ih2 _ _ _ _ _ _ _ _ _ _ _ _
   | exact ih3 _ _ _ _ _ _ _
   | exact ih4 _ _ _ _
   | exact impl_byTime.mono _ _ _ _ _
   | exact LeO.none _
   | refine LeO.ite ?_ ?_
   | refine LeO.bind ?_ (fun _ => ?_)
def impl_WheelRight.T11 : Bool × List (List Nat × List Nat) := (true, [([], []), ([0], [0]), ([], []), ([2], [2]), ([3], [3]), ([], []), ([5], [5]), ([6], [6]), ([1, 4, 7], [1, 4, 7]), ([8], [8]), ([9, 8], [9]), ([10], [10]), ([11, 10], [10, 11]), ([12, 10], [10, 12]), ([10, 13], [10, 13]), ([14, 10], [14]), ([15], [15]), ([16, 15], [15, 16]), ([17, 15], [15, 17]), ([15], [15]), ([18, 19, 15], [15, 18, 19]), ([15, 20], [15, 20]), ([21, 15], [21]), ([22], [22]), ([23, 22], [22, 23]), ([24, 22, 22], [22, 24]), ([25], [25]), ([25], [25]), ([27, 25], [25, 27]), ([26, 28, 25], [25, 26, 28]), ([29, 25], [25, 29]), ([30, 25], [25, 30]), ([25], [25]), ([32, 25], [25, 32]), ([31, 33, 25], [25, 31, 33]), ([25, 34, 22], [22, 25, 34]), ([22, 35], [22, 35])])
def impl_WheelRight.B11 : List Nat := [0, 1, 0, 4, 12, 0, 32, 96, 255, 511, 1023, 2047, 4095, 8191, 16383, 32767, 65535, 131071, 262143, 65535, 1048575, 2097151, 4194303, 8388607, 16777215, 33554431, 67108863, 67108863, 201326591, 536870911, 1073741823, 2147483647, 67108863, 4362076159, 17179869183, 34359738367, 68719476735]
theorem impl_WheelRight.tab11 : rtab .any (opsOf Try.f25 11) = impl_WheelRight.T11 := by kernel_rfl
theorem impl_WheelRight.bits11 : waitsOk impl_WheelRight.T11.2 impl_WheelRight.B11 = true := by kernel_rfl
def impl_WheelRight.T18 : Bool × List (List Nat × List Nat) := (true, [([], []), ([0], [0]), ([], []), ([2], [2]), ([3], [3]), ([4], [4]), ([1, 5], [1, 5]), ([6], [6]), ([7, 6], [7]), ([8], [8]), ([9, 8], [8, 9]), ([10, 8, 8], [8, 10]), ([11], [11]), ([12, 11], [11, 12]), ([11], [11]), ([14, 11], [11, 14]), ([13, 15, 11], [11, 13, 15]), ([16, 11], [11, 16]), ([11], [11]), ([17, 18, 11, 11], [11, 17, 18]), ([19, 11], [11, 19]), ([11, 20, 8], [8, 11, 20]), ([8, 21], [8, 21])])
def impl_WheelRight.B18 : List Nat := [0, 1, 0, 4, 12, 28, 63, 127, 255, 511, 1023, 2047, 4095, 8191, 4095, 20479, 65535, 131071, 4095, 524287, 1048575, 2097151, 4194303]
theorem impl_WheelRight.tab18 : rtab .any (opsOf Try.f25 18) = impl_WheelRight.T18 := by kernel_rfl
theorem impl_WheelRight.bits18 : waitsOk impl_WheelRight.T18.2 impl_WheelRight.B18 = true := by kernel_rfl
def impl_WheelRight.T27 : Bool × List (List Nat × List Nat) := (true, [([], []), ([0], [0]), ([1], [1]), ([2], [2]), ([3, 2], [3]), ([4], [4]), ([5, 4], [4, 5]), ([6, 4, 4], [4, 6]), ([7], [7]), ([7], [7]), ([9, 7], [7, 9]), ([8, 10, 7], [7, 8, 10]), ([11, 7], [7, 11]), ([12, 7], [7, 12]), ([7], [7]), ([14, 7], [7, 14]), ([13, 15, 7], [7, 13, 15]), ([7, 16, 4], [4, 7, 16]), ([4, 17], [4, 17])])
def impl_WheelRight.B27 : List Nat := [0, 1, 3, 7, 15, 31, 63, 127, 255, 255, 767, 2047, 4095, 8191, 255, 16639, 65535, 131071, 262143]
theorem impl_WheelRight.tab27 : rtab .any (opsOf Try.f25 27) = impl_WheelRight.T27 := by kernel_rfl
theorem impl_WheelRight.bits27 : waitsOk impl_WheelRight.T27.2 impl_WheelRight.B27 = true := by kernel_rfl
set_option maxHeartbeats 8000000 in
set_option maxRecDepth 100000 in
theorem impl_WheelRight.calls (k : Nat) (a0_0 : Int) (A0_1 : Option Addr) (c0_1 : Nat) (l0_1 : List (List (S91))) (A0_2 : Option Addr) (c0_2 : Nat) (l0_2 : List (S91)) (r : Bool) (w : World) (hr0_1 : Kd.C (Kd.slice 91 k91) w A0_1 l0_1.length l0_1) (hc0_1 : l0_1.length ≤ c0_1) (hr0_2 : Kd.C k91 w A0_2 l0_2.length l0_2) (hc0_2 : l0_2.length ≤ c0_2) (h : impl_WheelRight.f k a0_0 l0_1 l0_2 = some r) :
  Calls Try.prog 25 #[.agg #[.int .i64 a0_0, .slice A0_1 l0_1.length c0_1, .slice A0_2 l0_2.length c0_2]] w fun e w' => e = .returned (.bool r) ∧ Below w.heap.size w w' := by
 have hu45 := Try.underlying45
 have hu91 := Try.underlying91
 have HR0_1 := Aside0.mk hr0_1
 have HC0_1 := Aside0.mk hc0_1
 clear hr0_1 hc0_1
 have HR0_2 := Aside0.mk hr0_2
 have HC0_2 := Aside0.mk hc0_2
 clear hr0_2 hc0_2
 have HB := Aside0.mk (Below.refl w.heap.size w)
 have H : ((impl_isTime.f a0_0).bind fun t192 => (if t192 = true then (impl_WheelRight.j0 k ((l0_1.length : Int) != 16) a0_0 l0_1 l0_2) else (impl_WheelRight.j0 k true a0_0 l0_1 l0_2))) = some r := h
 clear h
 have HC2 := Aside0.mk H
 clear H
 go_enter Try.func25, Try.ntmps25
 go_upto_region 1 with (first | ((with_reducible refine gate_dst (N := 1) rfl ?_); (try (refine gate_guard (by rfl) ?_; dsimp only)); refine box_event ?hg (N := 1) ?hd (cs := #[.int .i64 a0_0, .slice A0_1 l0_1.length c0_1, .slice A0_2 l0_2.length c0_2]) (t := 45) ?hr ?_; (case hd => rfl); (case hg => rfl); (case hr => first | (go_simp; done) | (go_simp; rfl)); intro gb191 hg w3 hbox hb; have n0_ := Aside0.mk (below_step (by repeat (first | (with_reducible first | exact HB.out | apply below_alloc | apply pw_below_drewN | apply below_drew1) | exact HB.out)) hb); have n1_ := Aside0.mk (hbox); have n2_ := Aside0.mk ((by rw [hg]; exact (below_size (by repeat (first | (with_reducible first | exact HB.out | apply below_alloc | apply pw_below_drewN | apply below_drew1) | exact HB.out))) : w.heap.size ≤ gb191)); have n3_ := Aside0.mk ((by rw [hg]; exact (below_size (by repeat (first | (with_reducible first | exact HB.out | apply below_alloc | apply pw_below_drewN | apply below_drew1) | exact HB.out))) : w.heap.size ≤ gb191)); clear HB; have HB := n0_; have BK191 := n1_; have GW191 := n2_; have GE191 := n3_; clear n0_ n1_ n2_ n3_; clear hb hbox hg))
 (try simp only [Act.put, List.setIfInBounds_toArray, List.set_cons_zero, List.set_cons_succ])
 go_cut [22] (fun v22 wc => ∃ (kq : Nat) (x22_1 : Bool), v22 = .bool x22_1 ∧ Aside0 (impl_WheelRight.j0 kq x22_1 a0_0 l0_1 l0_2 = some r) ∧ Aside0 (kq ≤ k) ∧ Aside0 (wc.heap[gb191]? = some (.cells #[.int .i64 a0_0, (.slice A0_1 l0_1.length c0_1), (.slice A0_2 l0_2.length c0_2)] 45 (0, 0))) ∧ Aside0 (Below w.heap.size w wc))
 case first =>
  have H := HC2.out
  clear HC2
  replace H := Option.bind_eq_some_iff.mp H
  obtain ⟨t192, A40, H⟩ := H
  replace H : (if t192 = true then (impl_WheelRight.j0 k ((l0_1.length : Int) != 16) a0_0 l0_1 l0_2) else (impl_WheelRight.j0 k true a0_0 l0_1 l0_2)) = some r := H
  have A4 := Aside0.mk A40
  clear A40
  by_cases c5 : t192 = true
  ·
   subst c5
   have H1 : (impl_WheelRight.j0 k ((l0_1.length : Int) != 16) a0_0 l0_1 l0_2) = some r := by rw [if_pos rfl] at H; exact H
   clear H
   have H := H1
   clear H1
   have H' := Aside0.mk H
   clear H
   have hcz6_0 : w3.cell? ⟨gb191, 0, none⟩ = some (.int .i64 a0_0) := (blk_cell BK191.out 0).trans rfl
   have hcz6_1 : w3.cell? ⟨gb191, 1, none⟩ = some (.slice A0_1 l0_1.length c0_1) := (blk_cell BK191.out 1).trans rfl
   have hcz6_2 : w3.cell? ⟨gb191, 2, none⟩ = some (.slice A0_2 l0_2.length c0_2) := (blk_cell BK191.out 2).trans rfl
   have hfz6_0 := blk_frozen BK191.out 0
   have hfz6_1 := blk_frozen BK191.out 1
   have hfz6_2 := blk_frozen BK191.out 2
   go_wp2_with (first | ((with_reducible refine gate_callee (f := 68) rfl ?_); refine goesL_ (some 15) rfl rfl Try.func68 (by kernel_rfl) rfl #[.int .i64 a0_0] rfl (by (try simp only [List.map_toArray, List.map_cons, List.map_nil]); first | done | rfl | (simp only [List.length_drop, List.length_take]; rfl)) ?_; (with_reducible refine (impl_isTime.calls a0_0 true _ A4.out).mono ?_); rintro e w' ⟨rfl, ⟨nd, rfl⟩⟩; refine ⟨_, rfl, ?_⟩))
   go_meet
   case rel => exact ⟨_, (((l0_1.length : Int) != 16)), (by first | rfl | (simp; done) | (simp [*]; done)), H', ⟨by first | omega | exact Nat.le_refl _⟩, ⟨by (with_reducible repeat (first | refine blk_drewN ?_ _ | refine blk_drew ?_ | refine blk_alloc ?_ _)); exact BK191.out⟩, ⟨by repeat (first | (with_reducible first | exact HB.out | apply below_alloc | apply pw_below_drewN | apply below_drew1 | refine below_set ?_ GE191.out) | exact HB.out)⟩⟩
  ·
   replace c5 := Bool.eq_false_iff.mpr c5
   subst c5
   have H1 : (impl_WheelRight.j0 k true a0_0 l0_1 l0_2) = some r := by rw [if_neg (show ¬ (false = true) by decide)] at H; exact H
   clear H
   have H := H1
   clear H1
   have H' := Aside0.mk H
   clear H
   have hcz7_0 : w3.cell? ⟨gb191, 0, none⟩ = some (.int .i64 a0_0) := (blk_cell BK191.out 0).trans rfl
   have hcz7_1 : w3.cell? ⟨gb191, 1, none⟩ = some (.slice A0_1 l0_1.length c0_1) := (blk_cell BK191.out 1).trans rfl
   have hcz7_2 : w3.cell? ⟨gb191, 2, none⟩ = some (.slice A0_2 l0_2.length c0_2) := (blk_cell BK191.out 2).trans rfl
   have hfz7_0 := blk_frozen BK191.out 0
   have hfz7_1 := blk_frozen BK191.out 1
   have hfz7_2 := blk_frozen BK191.out 2
   go_wp2_with (first | ((with_reducible refine gate_callee (f := 68) rfl ?_); refine goesL_ (some 15) rfl rfl Try.func68 (by kernel_rfl) rfl #[.int .i64 a0_0] rfl (by (try simp only [List.map_toArray, List.map_cons, List.map_nil]); first | done | rfl | (simp only [List.length_drop, List.length_take]; rfl)) ?_; (with_reducible refine (impl_isTime.calls a0_0 false _ A4.out).mono ?_); rintro e w' ⟨rfl, ⟨nd, rfl⟩⟩; refine ⟨_, rfl, ?_⟩))
   go_meet
   case rel => exact ⟨_, (true), (by first | rfl | (simp; done) | (simp [*]; done)), H', ⟨by first | omega | exact Nat.le_refl _⟩, ⟨by (with_reducible repeat (first | refine blk_drewN ?_ _ | refine blk_drew ?_ | refine blk_alloc ?_ _)); exact BK191.out⟩, ⟨by repeat (first | (with_reducible first | exact HB.out | apply below_alloc | apply pw_below_drewN | apply below_drew1 | refine below_set ?_ GE191.out) | exact HB.out)⟩⟩
 case rest =>
  clear HC2
  try clear c2
  try clear p2
  try clear c5
  try clear c6
  try clear hcz6_0
  try clear hcz6_1
  try clear hcz6_2
  try clear hcz7_0
  try clear hcz7_1
  try clear hcz7_2
  try clear hfz6_0
  try clear hfz6_1
  try clear hfz6_2
  try clear hfz7_0
  try clear hfz7_1
  try clear hfz7_2
  obtain ⟨kq, x22_1, rfl, HA, HJ1, BK191, HB⟩ := hcut
  cases kq with
  | zero => exact absurd HA.out (by simp [impl_WheelRight.j0])
  | succ kj1 =>
   have H := HA.out
   clear HA
   simp only [impl_WheelRight.j0] at H
   by_cases c8 : x22_1 = true
   ·
    subst c8
    have H1 : (some false) = some r := by rw [if_pos rfl] at H; exact H
    clear H
    have H := H1
    clear H1
    obtain rfl := Option.some.inj H
    go_wp2
    go_ret
    exact ⟨by first | rfl | (simp [errW_none, errW_some] <;> rfl) | (simp [*, errW_none, errW_some] <;> rfl), by repeat (first | (with_reducible first | exact HB.out | apply below_alloc | apply pw_below_drewN | apply below_drew1 | refine below_set ?_ GE191.out) | exact HB.out)⟩
   ·
    replace c8 := Bool.eq_false_iff.mpr c8
    subst c8
    have H1 : (impl_WheelRight.l0 kj1 (l0_2.length : Int) l0_1 (l0_1.length : Int) 0 a0_0 l0_1 l0_2) = some r := by rw [if_neg (show ¬ (false = true) by decide)] at H; exact H
    clear H
    have H := H1
    clear H1
    have H' := Aside0.mk H
    clear H
    have hcz9_0 : wc.cell? ⟨gb191, 0, none⟩ = some (.int .i64 a0_0) := (blk_cell BK191.out 0).trans rfl
    have hcz9_1 : wc.cell? ⟨gb191, 1, none⟩ = some (.slice A0_1 l0_1.length c0_1) := (blk_cell BK191.out 1).trans rfl
    have hcz9_2 : wc.cell? ⟨gb191, 2, none⟩ = some (.slice A0_2 l0_2.length c0_2) := (blk_cell BK191.out 2).trans rfl
    have hfz9_0 := blk_frozen BK191.out 0
    have hfz9_1 := blk_frozen BK191.out 1
    have hfz9_2 := blk_frozen BK191.out 2
    go_wp2
    go_loopg [3, 29] kj1 (fun kq v3 v29 w' => ∃ (x3_2 : Int) (x29_2 : Int), v3 = .int .i64 x3_2 ∧ v29 = .int .i64 x29_2 ∧ Aside0 (impl_WheelRight.l0 kq x3_2 l0_1 (l0_1.length : Int) x29_2 a0_0 l0_1 l0_2 = some r) ∧ Aside0 (kq ≤ kj1) ∧ Aside0 (w'.heap[gb191]? = some (.cells #[.int .i64 a0_0, (.slice A0_1 l0_1.length c0_1), (.slice A0_2 l0_2.length c0_2)] 45 (0, 0))) ∧ Aside0 (Below w.heap.size w w'))
    case atStart => exact ⟨((l0_2.length : Int)), (0), (by first | rfl | (simp; done) | (simp [*]; done)), (by first | rfl | (simp; done) | (simp [*]; done)), H', ⟨Nat.le_refl _⟩, ⟨by (with_reducible repeat (first | refine blk_drewN ?_ _ | refine blk_drew ?_ | refine blk_alloc ?_ _)); exact BK191.out⟩, ⟨by repeat (first | (with_reducible first | exact HB.out | apply below_alloc | apply pw_below_drewN | apply below_drew1 | refine below_set ?_ GE191.out) | exact HB.out)⟩⟩
    case round =>
     as_aux_lemma =>
      clear H'
      try clear c2
      try clear p2
      try clear c5
      try clear c6
      try clear c8
      try clear hcz6_0
      try clear hcz6_1
      try clear hcz6_2
      try clear hcz7_0
      try clear hcz7_1
      try clear hcz7_2
      try clear hcz9_0
      try clear hcz9_1
      try clear hcz9_2
      try clear hfz6_0
      try clear hfz6_1
      try clear hfz6_2
      try clear hfz7_0
      try clear hfz7_1
      try clear hfz7_2
      try clear hfz9_0
      try clear hfz9_1
      try clear hfz9_2
      try clear p2
      obtain ⟨x3_2, x29_2, rfl, rfl, HA, HK2, BK191, HB⟩ := hrel
      cases gk with
      | zero => exact absurd HA.out (by simp [impl_WheelRight.l0])
      | succ k2 =>
       have H := HA.out
       clear HA
       simp only [impl_WheelRight.l0] at H
       by_cases c10 : x29_2 < (l0_1.length : Int)
       ·
        rw [if_pos c10] at H
        have c10b0 : decide (x29_2 < (l0_1.length : Int)) = true := decide_eq_true c10
        clear c10
        by_cases c11 : 0 ≤ x29_2
        ·
         rw [if_pos c11] at H
         have c11b0 : decide (0 ≤ x29_2) = true := decide_eq_true c11
         clear c11
         by_cases c12 : x29_2 < (l0_1.length : Int)
         ·
          rw [if_pos c12] at H
          have c12b0 : decide (x29_2 < (l0_1.length : Int)) = true := decide_eq_true c12
          clear c12
          have H' := Aside0.mk H
          clear H
          have p193 : 0 ≤ (x29_2 : Int) := of_decide_eq_true (by first | (with_reducible assumption) | assumption)
          have q193 : x29_2 < (l0_1.length : Int) := of_decide_eq_true (by first | (with_reducible assumption) | assumption)
          obtain ⟨ad193, A193_0, c193_0, e193, hx193_0, hl193_0, hi193_0⟩ := at_L4 HR0_1.out x29_2 p193 q193
          cases e193
          replace hx193_0 := (HB.out.cell (World.block_lt_of_cell? w _ hx193_0)).trans hx193_0
          have HR193_0 := Aside0.mk hi193_0
          have HC193_0 := Aside0.mk hl193_0
          clear hi193_0 hl193_0
          replace p193 := eq_true p193
          replace q193 := eq_true q193
          go_wp2
          go_loopg [40] k2 (fun kq v40 w' => ∃ (x40_3 : Int), v40 = .int .i64 x40_3 ∧ Aside0 (impl_WheelRight.l1 kq (wrap64 (x3_2 + ((rd_L4 l0_1 x29_2).length : Int))) x29_2 (rd_L4 l0_1 x29_2) l0_1 (l0_1.length : Int) x29_2 (rd_L4 l0_1 x29_2) ((rd_L4 l0_1 x29_2).length : Int) x40_3 a0_0 l0_1 l0_2 = some r) ∧ Aside0 (kq ≤ k2) ∧ Aside0 (w'.heap[gb191]? = some (.cells #[.int .i64 a0_0, (.slice (some ad193) l0_1.length c0_1), (.slice A0_2 l0_2.length c0_2)] 45 (0, 0))) ∧ Aside0 (Below w.heap.size w w'))
          case atStart => exact ⟨(0), (by first | rfl | (simp; done) | (simp [*]; done)), H', ⟨Nat.le_refl _⟩, ⟨by (with_reducible repeat (first | refine blk_drewN ?_ _ | refine blk_drew ?_ | refine blk_alloc ?_ _)); exact BK191.out⟩, ⟨by repeat (first | (with_reducible first | exact HB.out | apply below_alloc | apply pw_below_drewN | apply below_drew1 | refine below_set ?_ GE191.out) | exact HB.out)⟩⟩
          case round =>
           as_aux_lemma =>
            clear H'
            try clear c1
            try clear p1
            try clear q1
            try clear hx1
            try clear c2
            try clear p2
            try clear c5
            try clear c6
            try clear p6
            try clear c8
            try clear c10
            try clear c10b0
            try clear c11
            try clear c11b0
            try clear c12
            try clear c12b0
            try clear hcz6_0
            try clear hcz6_1
            try clear hcz6_2
            try clear hcz7_0
            try clear hcz7_1
            try clear hcz7_2
            try clear hcz9_0
            try clear hcz9_1
            try clear hcz9_2
            try clear hfz6_0
            try clear hfz6_1
            try clear hfz6_2
            try clear hfz7_0
            try clear hfz7_1
            try clear hfz7_2
            try clear hfz9_0
            try clear hfz9_1
            try clear hfz9_2
            try clear hx193_0
            try clear p193
            try clear p2
            try clear q193
            obtain ⟨x40_3, rfl, HA, HK3, BK191, HB⟩ := hrel
            cases gk with
            | zero => exact absurd HA.out (by simp [impl_WheelRight.l1])
            | succ k3 =>
             have H := HA.out
             clear HA
             simp only [impl_WheelRight.l1] at H
             by_cases c13 : x40_3 < ((rd_L4 l0_1 x29_2).length : Int)
             ·
              rw [if_pos c13] at H
              have c13b0 : decide (x40_3 < ((rd_L4 l0_1 x29_2).length : Int)) = true := decide_eq_true c13
              clear c13
              by_cases c14 : 0 ≤ x40_3
              ·
               rw [if_pos c14] at H
               have c14b0 : decide (0 ≤ x40_3) = true := decide_eq_true c14
               clear c14
               by_cases c15 : x40_3 < ((rd_L4 l0_1 x29_2).length : Int)
               ·
                rw [if_pos c15] at H
                have c15b0 : decide (x40_3 < ((rd_L4 l0_1 x29_2).length : Int)) = true := decide_eq_true c15
                clear c15
                replace H := Option.bind_eq_some_iff.mp H
                obtain ⟨t196, A160, H⟩ := H
                replace H : (if t196 = true then (if ((rd_T91 (rd_L4 l0_1 x29_2) x40_3).f1) > 1000000 then (some false) else (if (Int.tmod ((rd_T91 (rd_L4 l0_1 x29_2) x40_3).f1) 16) = x29_2 then (if x40_3 > 0 then (if 0 ≤ (wrap64 (x40_3 - 1)) then (if (wrap64 (x40_3 - 1)) < ((rd_L4 l0_1 x29_2).length : Int) then (if ((rd_T91 (rd_L4 l0_1 x29_2) (wrap64 (x40_3 - 1))).f0) ≥ ((rd_T91 (rd_L4 l0_1 x29_2) x40_3).f0) then (some false) else (impl_WheelRight.l1 k3 (wrap64 (x3_2 + ((rd_L4 l0_1 x29_2).length : Int))) x29_2 (rd_L4 l0_1 x29_2) l0_1 (l0_1.length : Int) x29_2 (rd_L4 l0_1 x29_2) ((rd_L4 l0_1 x29_2).length : Int) (wrap64 (x40_3 + 1)) a0_0 l0_1 l0_2)) else (none)) else (none)) else (impl_WheelRight.l1 k3 (wrap64 (x3_2 + ((rd_L4 l0_1 x29_2).length : Int))) x29_2 (rd_L4 l0_1 x29_2) l0_1 (l0_1.length : Int) x29_2 (rd_L4 l0_1 x29_2) ((rd_L4 l0_1 x29_2).length : Int) (wrap64 (x40_3 + 1)) a0_0 l0_1 l0_2)) else (some false))) else (some false)) = some r := H
                have A16 := Aside0.mk A160
                clear A160
                by_cases c17 : t196 = true
                ·
                 subst c17
                 have H1 : (if ((rd_T91 (rd_L4 l0_1 x29_2) x40_3).f1) > 1000000 then (some false) else (if (Int.tmod ((rd_T91 (rd_L4 l0_1 x29_2) x40_3).f1) 16) = x29_2 then (if x40_3 > 0 then (if 0 ≤ (wrap64 (x40_3 - 1)) then (if (wrap64 (x40_3 - 1)) < ((rd_L4 l0_1 x29_2).length : Int) then (if ((rd_T91 (rd_L4 l0_1 x29_2) (wrap64 (x40_3 - 1))).f0) ≥ ((rd_T91 (rd_L4 l0_1 x29_2) x40_3).f0) then (some false) else (impl_WheelRight.l1 k3 (wrap64 (x3_2 + ((rd_L4 l0_1 x29_2).length : Int))) x29_2 (rd_L4 l0_1 x29_2) l0_1 (l0_1.length : Int) x29_2 (rd_L4 l0_1 x29_2) ((rd_L4 l0_1 x29_2).length : Int) (wrap64 (x40_3 + 1)) a0_0 l0_1 l0_2)) else (none)) else (none)) else (impl_WheelRight.l1 k3 (wrap64 (x3_2 + ((rd_L4 l0_1 x29_2).length : Int))) x29_2 (rd_L4 l0_1 x29_2) l0_1 (l0_1.length : Int) x29_2 (rd_L4 l0_1 x29_2) ((rd_L4 l0_1 x29_2).length : Int) (wrap64 (x40_3 + 1)) a0_0 l0_1 l0_2)) else (some false))) = some r := by rw [if_pos rfl] at H; exact H
                 clear H
                 have H := H1
                 clear H1
                 by_cases c18 : ((rd_T91 (rd_L4 l0_1 x29_2) x40_3).f1) > 1000000
                 ·
                  rw [if_pos c18] at H
                  have c18b0 : decide (1000000 < ((rd_T91 (rd_L4 l0_1 x29_2) x40_3).f1)) = true := decide_eq_true c18
                  clear c18
                  obtain rfl := Option.some.inj H
                  have p194 : 0 ≤ (x40_3 : Int) := of_decide_eq_true (by first | (with_reducible assumption) | assumption)
                  have q194 : x40_3 < ((rd_L4 l0_1 x29_2).length : Int) := of_decide_eq_true (by first | (with_reducible assumption) | assumption)
                  obtain ⟨ad194, e194, hx194_0, hx194_1⟩ := at_T91 HR193_0.out x40_3 p194 q194
                  cases e194
                  replace hx194_0 := (HB.out.cell (World.block_lt_of_cell? w _ hx194_0)).trans hx194_0
                  replace hx194_1 := (HB.out.cell (World.block_lt_of_cell? w _ hx194_1)).trans hx194_1
                  replace p194 := eq_true p194
                  replace q194 := eq_true q194
                  try go_wp2_with (first | ((with_reducible refine gate_dst (N := 7) rfl ?_); (try (refine gate_guard (by rfl) ?_; dsimp only)); refine box_event ?hg (N := 7) ?hd (cs := #[.int .i64 0, .int .i64 0]) (t := 91) ?hr ?_; (case hd => rfl); (case hg => rfl); (case hr => first | (go_simp; done) | (go_simp; rfl)); intro gb195 hg w19 hbox hb; have n0_ := Aside0.mk (blk_below (up_5 BK191.out) hb); have n1_ := Aside0.mk (below_step (by repeat (first | (with_reducible first | exact HB.out | apply below_alloc | apply pw_below_drewN | apply below_drew1 | refine below_set ?_ GE191.out) | exact HB.out)) hb); have n2_ := Aside0.mk (hbox); have n3_ := Aside0.mk ((by rw [hg]; exact (below_size (by repeat (first | (with_reducible first | exact HB.out | apply below_alloc | apply pw_below_drewN | apply below_drew1 | refine below_set ?_ GE191.out) | exact HB.out))) : w.heap.size ≤ gb195)); have n4_ := Aside0.mk ((by rw [hg]; exact (below_size (by repeat (first | (with_reducible first | exact HB.out | apply below_alloc | apply pw_below_drewN | apply below_drew1 | refine below_set ?_ GE191.out) | exact HB.out))) : w.heap.size ≤ gb195)); have n5_ := Aside0.mk ((by rw [hg]; exact Nat.ne_of_lt (blk_lt (up_5 BK191.out)) : gb191 ≠ gb195)); have n6_ := Aside0.mk ((by rw [hg]; exact Nat.ne_of_gt (blk_lt (up_5 BK191.out)) : gb195 ≠ gb191)); clear BK191; clear HB; have BK191 := n0_; have HB := n1_; have BK195 := n2_; have GW195 := n3_; have GE195 := n4_; have NB191_195 := n5_; have NB195_191 := n6_; clear n0_ n1_ n2_ n3_ n4_ n5_ n6_; clear hb hbox hg; have hnb20 := NB195_191.out; have hnc20 := NB191_195.out; have hcz21_0 : w19.cell? ⟨gb195, 0, none⟩ = some (.int .i64 0) := (blk_cell BK195.out 0).trans rfl; have hcz21_1 : w19.cell? ⟨gb195, 1, none⟩ = some (.int .i64 0) := (blk_cell BK195.out 1).trans rfl; have hfz21_0 := blk_frozen BK195.out 0; have hfz21_1 := blk_frozen BK195.out 1))
                  have n0_ : Aside0 (((w19.setCell ⟨gb195, 0, none⟩ (.int .i64 ((rd_T91 (rd_L4 l0_1 x29_2) x40_3).f0))).setCell ⟨gb195, 1, none⟩ (.int .i64 ((rd_T91 (rd_L4 l0_1 x29_2) x40_3).f1))).heap[gb191]? = some (.cells #[.int .i64 a0_0, .slice (some ad193) l0_1.length c0_1, .slice A0_2 l0_2.length c0_2] 45 (0, 0))) := ⟨by (with_reducible repeat (first | refine blk_drewN ?_ _ | refine blk_drew ?_ | refine blk_alloc ?_ _)); refine blk_far ?_ NB191_195.out _; (with_reducible repeat (first | refine blk_drewN ?_ _ | refine blk_drew ?_ | refine blk_alloc ?_ _)); refine blk_far ?_ NB191_195.out _; (with_reducible repeat (first | refine blk_drewN ?_ _ | refine blk_drew ?_ | refine blk_alloc ?_ _)); exact BK191.out⟩
                  have n1_ : Aside0 (((w19.setCell ⟨gb195, 0, none⟩ (.int .i64 ((rd_T91 (rd_L4 l0_1 x29_2) x40_3).f0))).setCell ⟨gb195, 1, none⟩ (.int .i64 ((rd_T91 (rd_L4 l0_1 x29_2) x40_3).f1))).heap[gb195]? = some (.cells #[.int .i64 ((rd_T91 (rd_L4 l0_1 x29_2) x40_3).f0), .int .i64 ((rd_T91 (rd_L4 l0_1 x29_2) x40_3).f1)] 91 (0, 0))) := ⟨by (with_reducible repeat (first | refine blk_drewN ?_ _ | refine blk_drew ?_ | refine blk_alloc ?_ _)); refine blk_put (cs := #[.int .i64 ((rd_T91 (rd_L4 l0_1 x29_2) x40_3).f0), .int .i64 0]) ?_ 1 _ rfl; (with_reducible repeat (first | refine blk_drewN ?_ _ | refine blk_drew ?_ | refine blk_alloc ?_ _)); refine blk_put (cs := #[.int .i64 0, .int .i64 0]) ?_ 0 _ rfl; (with_reducible repeat (first | refine blk_drewN ?_ _ | refine blk_drew ?_ | refine blk_alloc ?_ _)); exact BK195.out⟩
                  have n2_ : Aside0 (Below w.heap.size w ((w19.setCell ⟨gb195, 0, none⟩ (.int .i64 ((rd_T91 (rd_L4 l0_1 x29_2) x40_3).f0))).setCell ⟨gb195, 1, none⟩ (.int .i64 ((rd_T91 (rd_L4 l0_1 x29_2) x40_3).f1)))) := ⟨by repeat (first | (with_reducible first | exact HB.out | apply below_alloc | apply pw_below_drewN | apply below_drew1 | refine below_set ?_ GE191.out | refine below_set ?_ GE195.out) | exact HB.out)⟩
                  (try clear BK191)
                  (try clear BK195)
                  (try clear HB)
                  generalize ((w19.setCell ⟨gb195, 0, none⟩ (.int .i64 ((rd_T91 (rd_L4 l0_1 x29_2) x40_3).f0))).setCell ⟨gb195, 1, none⟩ (.int .i64 ((rd_T91 (rd_L4 l0_1 x29_2) x40_3).f1))) = w22 at n0_ n1_ n2_ ⊢
                  have BK191 := n0_
                  have BK195 := n1_
                  have HB := n2_
                  clear n0_ n1_ n2_
                  have n0_ := Aside0.mk (blk_drew BK191.out)
                  have n1_ := Aside0.mk (blk_drew BK195.out)
                  have n2_ := Aside0.mk (below_drew1 HB.out)
                  clear BK191
                  clear BK195
                  clear HB
                  have BK191 := n0_
                  have BK195 := n1_
                  have HB := n2_
                  clear n0_ n1_ n2_
                  refine start_ (n := 37) (S := fun w' => w'.cell? ⟨gb195, 0, none⟩ = some (.int .i64 ((rd_T91 (rd_L4 l0_1 x29_2) x40_3).f0)) ∧ w'.cell? ⟨gb195, 1, none⟩ = some (.int .i64 ((rd_T91 (rd_L4 l0_1 x29_2) x40_3).f1)) ∧ w'.cell? ⟨gb191, 0, none⟩ = some (.int .i64 a0_0) ∧ w'.cell? ⟨gb191, 1, none⟩ = some (.slice (some ad193) l0_1.length c0_1) ∧ w'.cell? ⟨gb191, 2, none⟩ = some (.slice A0_2 l0_2.length c0_2)) (ds := []) #[false, false, false, false, false, false, false, false, false, false, false, false, false, false, false, false, false, false, false, false, false, false, false, false, false, false, false, false, false, false, false, false, false, false, false, false, false] (by kernel_rfl) rfl rfl ⟨(blk_cell BK195.out 0).trans rfl, (blk_cell BK195.out 1).trans rfl, (blk_cell BK191.out 0).trans rfl, (blk_cell BK191.out 1).trans rfl, (blk_cell BK191.out 2).trans rfl⟩ (fun hHeld => ?_); refine with_tabW impl_WheelRight.tab11 impl_WheelRight.bits11 (fun HT_ HW_ => ?_)
                  generalize w22.drew = w23 at BK191 BK195 HB hHeld ⊢
                  refine pu_5 0 45 #[o_5,x_5,x_5,x_5,x_5,x_5,x_5,x_5,x_5,x_5,x_5,x_5,x_5,x_5,x_5,x_5,x_5,x_5,x_5,x_5,x_5,x_5,x_5,x_5,x_5,x_5,x_5,x_5,x_5,x_5,x_5,x_5,x_5,x_5,x_5,x_5,x_5] HT_ rfl rfl (by kernel_rfl) ?_
                  refine pu_5 2 47 #[o_5,x_5,o_5,x_5,x_5,x_5,x_5,x_5,x_5,x_5,x_5,x_5,x_5,x_5,x_5,x_5,x_5,x_5,x_5,x_5,x_5,x_5,x_5,x_5,x_5,x_5,x_5,x_5,x_5,x_5,x_5,x_5,x_5,x_5,x_5,x_5,x_5] HT_ rfl rfl (by kernel_rfl) ?_
                  refine pu_5 5 50 #[o_5,x_5,o_5,x_5,x_5,o_5,x_5,x_5,x_5,x_5,x_5,x_5,x_5,x_5,x_5,x_5,x_5,x_5,x_5,x_5,x_5,x_5,x_5,x_5,x_5,x_5,x_5,x_5,x_5,x_5,x_5,x_5,x_5,x_5,x_5,x_5,x_5] HT_ rfl rfl (by kernel_rfl) ?_
                  refine tk_5 1 46 #[o_5,o_5,o_5,x_5,x_5,o_5,x_5,x_5,x_5,x_5,x_5,x_5,x_5,x_5,x_5,x_5,x_5,x_5,x_5,x_5,x_5,x_5,x_5,x_5,x_5,x_5,x_5,x_5,x_5,x_5,x_5,x_5,x_5,x_5,x_5,x_5,x_5] HT_ HW_ hHeld rfl rfl (by kernel_rfl) ?_ (by rintro w' ⟨s0, s1, s2, s3, s4⟩; go_simp; with_reducible rfl)
                  refine tk_5 3 48 #[o_5,o_5,o_5,o_5,x_5,o_5,x_5,x_5,x_5,x_5,x_5,x_5,x_5,x_5,x_5,x_5,x_5,x_5,x_5,x_5,x_5,x_5,x_5,x_5,x_5,x_5,x_5,x_5,x_5,x_5,x_5,x_5,x_5,x_5,x_5,x_5,x_5] HT_ HW_ hHeld rfl rfl (by kernel_rfl) ?_ (by rintro w' ⟨s0, s1, s2, s3, s4⟩; go_simp; with_reducible rfl)
                  refine pu_5 4 49 #[o_5,o_5,o_5,o_5,o_5,o_5,x_5,x_5,x_5,x_5,x_5,x_5,x_5,x_5,x_5,x_5,x_5,x_5,x_5,x_5,x_5,x_5,x_5,x_5,x_5,x_5,x_5,x_5,x_5,x_5,x_5,x_5,x_5,x_5,x_5,x_5,x_5] HT_ rfl rfl (by kernel_rfl) ?_
                  refine tk_5 6 51 #[o_5,o_5,o_5,o_5,o_5,o_5,o_5,x_5,x_5,x_5,x_5,x_5,x_5,x_5,x_5,x_5,x_5,x_5,x_5,x_5,x_5,x_5,x_5,x_5,x_5,x_5,x_5,x_5,x_5,x_5,x_5,x_5,x_5,x_5,x_5,x_5,x_5] HT_ HW_ hHeld rfl rfl (by kernel_rfl) ?_ (by rintro w' ⟨s0, s1, s2, s3, s4⟩; go_simp; with_reducible rfl)
                  refine pu_5 7 52 #[o_5,o_5,o_5,o_5,o_5,o_5,o_5,o_5,x_5,x_5,x_5,x_5,x_5,x_5,x_5,x_5,x_5,x_5,x_5,x_5,x_5,x_5,x_5,x_5,x_5,x_5,x_5,x_5,x_5,x_5,x_5,x_5,x_5,x_5,x_5,x_5,x_5] HT_ rfl rfl (by kernel_rfl) ?_
                  refine one_ (i := 8) (N := some 53) #[o_5,o_5,o_5,o_5,o_5,o_5,o_5,o_5,o_5,x_5,x_5,x_5,x_5,x_5,x_5,x_5,x_5,x_5,x_5,x_5,x_5,x_5,x_5,x_5,x_5,x_5,x_5,x_5,x_5,x_5,x_5,x_5,x_5,x_5,x_5,x_5,x_5] rfl rfl (one_of HT_.out (by kernel_rfl)) (by decide) (fun K hK => ?_)
                  refine goes_ Try.func69 (by kernel_rfl) rfl #[.int .i64 ((rd_T91 (rd_L4 l0_1 x29_2) x40_3).f1), .int .i64 (wrap64 (a0_0 + 1)), .int .i64 (wrap64 (a0_0 + 16))] (by rfl) rfl rfl (by (try simp only [List.map_toArray, List.map_cons, List.map_nil]); first | done | rfl | (simp only [List.length_drop, List.length_take]; rfl)) ?_
                  with_reducible refine (impl_in.calls ((rd_T91 (rd_L4 l0_1 x29_2) x40_3).f1) (wrap64 (a0_0 + 1)) (wrap64 (a0_0 + 16)) true _ A16.out).mono ?_
                  rintro e w' ⟨rfl, ⟨nd, rfl⟩⟩
                  refine ⟨_, rfl, ?_⟩
                  refine hK.out _ _ ⟨(blk_cell BK195.out 0).trans rfl, (blk_cell BK195.out 1).trans rfl, (blk_cell BK191.out 0).trans rfl, (blk_cell BK191.out 1).trans rfl, (blk_cell BK191.out 2).trans rfl⟩ (fun hHeld => ?_)
                  clear hK K
                  refine norm_ (a' := ?_) ?_ ?_
                  rotate_left
                  ·
                   show Act.put _ (some 53) _ = _
                   simp only [Act.put, List.setIfInBounds_toArray, List.set_cons_zero, List.set_cons_succ, i64_w, i32_w]
                   rfl
                  refine pu_5 9 54 #[o_5,o_5,o_5,o_5,o_5,o_5,o_5,o_5,o_5,o_5,x_5,x_5,x_5,x_5,x_5,x_5,x_5,x_5,x_5,x_5,x_5,x_5,x_5,x_5,x_5,x_5,x_5,x_5,x_5,x_5,x_5,x_5,x_5,x_5,x_5,x_5,x_5] HT_ rfl rfl (by kernel_rfl) ?_
                  refine pu_5 10 55 #[o_5,o_5,o_5,o_5,o_5,o_5,o_5,o_5,o_5,o_5,o_5,x_5,x_5,x_5,x_5,x_5,x_5,x_5,x_5,x_5,x_5,x_5,x_5,x_5,x_5,x_5,x_5,x_5,x_5,x_5,x_5,x_5,x_5,x_5,x_5,x_5,x_5] HT_ rfl rfl (by kernel_rfl) ?_
                  refine pu_5 11 56 #[o_5,o_5,o_5,o_5,o_5,o_5,o_5,o_5,o_5,o_5,o_5,o_5,x_5,x_5,x_5,x_5,x_5,x_5,x_5,x_5,x_5,x_5,x_5,x_5,x_5,x_5,x_5,x_5,x_5,x_5,x_5,x_5,x_5,x_5,x_5,x_5,x_5] HT_ rfl rfl (by kernel_rfl) ?_
                  refine tk_5 12 57 #[o_5,o_5,o_5,o_5,o_5,o_5,o_5,o_5,o_5,o_5,o_5,o_5,o_5,x_5,x_5,x_5,x_5,x_5,x_5,x_5,x_5,x_5,x_5,x_5,x_5,x_5,x_5,x_5,x_5,x_5,x_5,x_5,x_5,x_5,x_5,x_5,x_5] HT_ HW_ hHeld rfl rfl (by kernel_rfl) ?_ (by rintro w' ⟨s0, s1, s2, s3, s4⟩; go_simp; with_reducible rfl)
                  refine pu_5 13 58 #[o_5,o_5,o_5,o_5,o_5,o_5,o_5,o_5,o_5,o_5,o_5,o_5,o_5,o_5,x_5,x_5,x_5,x_5,x_5,x_5,x_5,x_5,x_5,x_5,x_5,x_5,x_5,x_5,x_5,x_5,x_5,x_5,x_5,x_5,x_5,x_5,x_5] HT_ rfl rfl (by kernel_rfl) ?_
                  refine pu_5 14 59 #[o_5,o_5,o_5,o_5,o_5,o_5,o_5,o_5,o_5,o_5,o_5,o_5,o_5,o_5,o_5,x_5,x_5,x_5,x_5,x_5,x_5,x_5,x_5,x_5,x_5,x_5,x_5,x_5,x_5,x_5,x_5,x_5,x_5,x_5,x_5,x_5,x_5] HT_ rfl rfl (by kernel_rfl) ?_
                  refine pu_5 15 60 #[o_5,o_5,o_5,o_5,o_5,o_5,o_5,o_5,o_5,o_5,o_5,o_5,o_5,o_5,o_5,o_5,x_5,x_5,x_5,x_5,x_5,x_5,x_5,x_5,x_5,x_5,x_5,x_5,x_5,x_5,x_5,x_5,x_5,x_5,x_5,x_5,x_5] HT_ rfl rfl (by kernel_rfl) ?_
                  refine pn_5 16 61 #[o_5,o_5,o_5,o_5,o_5,o_5,o_5,o_5,o_5,o_5,o_5,o_5,o_5,o_5,o_5,o_5,o_5,x_5,x_5,x_5,x_5,x_5,x_5,x_5,x_5,x_5,x_5,x_5,x_5,x_5,x_5,x_5,x_5,x_5,x_5,x_5,x_5] HT_ rfl rfl (by kernel_rfl) ?_
                  refine pn_5 17 62 #[o_5,o_5,o_5,o_5,o_5,o_5,o_5,o_5,o_5,o_5,o_5,o_5,o_5,o_5,o_5,o_5,o_5,o_5,x_5,x_5,x_5,x_5,x_5,x_5,x_5,x_5,x_5,x_5,x_5,x_5,x_5,x_5,x_5,x_5,x_5,x_5,x_5] HT_ rfl rfl (by kernel_rfl) ?_
                  refine pn_5 18 63 #[o_5,o_5,o_5,o_5,o_5,o_5,o_5,o_5,o_5,o_5,o_5,o_5,o_5,o_5,o_5,o_5,o_5,o_5,o_5,x_5,x_5,x_5,x_5,x_5,x_5,x_5,x_5,x_5,x_5,x_5,x_5,x_5,x_5,x_5,x_5,x_5,x_5] HT_ rfl rfl (by kernel_rfl) ?_
                  refine pn_5 19 64 #[o_5,o_5,o_5,o_5,o_5,o_5,o_5,o_5,o_5,o_5,o_5,o_5,o_5,o_5,o_5,o_5,o_5,o_5,o_5,o_5,x_5,x_5,x_5,x_5,x_5,x_5,x_5,x_5,x_5,x_5,x_5,x_5,x_5,x_5,x_5,x_5,x_5] HT_ rfl rfl (by kernel_rfl) ?_
                  refine pn_5 20 65 #[o_5,o_5,o_5,o_5,o_5,o_5,o_5,o_5,o_5,o_5,o_5,o_5,o_5,o_5,o_5,o_5,o_5,o_5,o_5,o_5,o_5,x_5,x_5,x_5,x_5,x_5,x_5,x_5,x_5,x_5,x_5,x_5,x_5,x_5,x_5,x_5,x_5] HT_ rfl rfl (by kernel_rfl) ?_
                  refine pu_5 21 66 #[o_5,o_5,o_5,o_5,o_5,o_5,o_5,o_5,o_5,o_5,o_5,o_5,o_5,o_5,o_5,o_5,o_5,o_5,o_5,o_5,o_5,o_5,x_5,x_5,x_5,x_5,x_5,x_5,x_5,x_5,x_5,x_5,x_5,x_5,x_5,x_5,x_5] HT_ rfl rfl (by kernel_rfl) ?_
                  refine pu_5 22 67 #[o_5,o_5,o_5,o_5,o_5,o_5,o_5,o_5,o_5,o_5,o_5,o_5,o_5,o_5,o_5,o_5,o_5,o_5,o_5,o_5,o_5,o_5,o_5,x_5,x_5,x_5,x_5,x_5,x_5,x_5,x_5,x_5,x_5,x_5,x_5,x_5,x_5] HT_ rfl rfl (by kernel_rfl) ?_
                  refine pn_5 23 68 #[o_5,o_5,o_5,o_5,o_5,o_5,o_5,o_5,o_5,o_5,o_5,o_5,o_5,o_5,o_5,o_5,o_5,o_5,o_5,o_5,o_5,o_5,o_5,o_5,x_5,x_5,x_5,x_5,x_5,x_5,x_5,x_5,x_5,x_5,x_5,x_5,x_5] HT_ rfl rfl (by kernel_rfl) ?_
                  refine pn_5 24 69 #[o_5,o_5,o_5,o_5,o_5,o_5,o_5,o_5,o_5,o_5,o_5,o_5,o_5,o_5,o_5,o_5,o_5,o_5,o_5,o_5,o_5,o_5,o_5,o_5,o_5,x_5,x_5,x_5,x_5,x_5,x_5,x_5,x_5,x_5,x_5,x_5,x_5] HT_ rfl rfl (by kernel_rfl) ?_
                  refine pn_5 25 70 #[o_5,o_5,o_5,o_5,o_5,o_5,o_5,o_5,o_5,o_5,o_5,o_5,o_5,o_5,o_5,o_5,o_5,o_5,o_5,o_5,o_5,o_5,o_5,o_5,o_5,o_5,x_5,x_5,x_5,x_5,x_5,x_5,x_5,x_5,x_5,x_5,x_5] HT_ rfl rfl (by kernel_rfl) ?_
                  refine pn_5 26 71 #[o_5,o_5,o_5,o_5,o_5,o_5,o_5,o_5,o_5,o_5,o_5,o_5,o_5,o_5,o_5,o_5,o_5,o_5,o_5,o_5,o_5,o_5,o_5,o_5,o_5,o_5,o_5,x_5,x_5,x_5,x_5,x_5,x_5,x_5,x_5,x_5,x_5] HT_ rfl rfl (by kernel_rfl) ?_
                  refine pn_5 27 72 #[o_5,o_5,o_5,o_5,o_5,o_5,o_5,o_5,o_5,o_5,o_5,o_5,o_5,o_5,o_5,o_5,o_5,o_5,o_5,o_5,o_5,o_5,o_5,o_5,o_5,o_5,o_5,o_5,x_5,x_5,x_5,x_5,x_5,x_5,x_5,x_5,x_5] HT_ rfl rfl (by kernel_rfl) ?_
                  refine pn_5 28 73 #[o_5,o_5,o_5,o_5,o_5,o_5,o_5,o_5,o_5,o_5,o_5,o_5,o_5,o_5,o_5,o_5,o_5,o_5,o_5,o_5,o_5,o_5,o_5,o_5,o_5,o_5,o_5,o_5,o_5,x_5,x_5,x_5,x_5,x_5,x_5,x_5,x_5] HT_ rfl rfl (by kernel_rfl) ?_
                  refine pn_5 29 74 #[o_5,o_5,o_5,o_5,o_5,o_5,o_5,o_5,o_5,o_5,o_5,o_5,o_5,o_5,o_5,o_5,o_5,o_5,o_5,o_5,o_5,o_5,o_5,o_5,o_5,o_5,o_5,o_5,o_5,o_5,x_5,x_5,x_5,x_5,x_5,x_5,x_5] HT_ rfl rfl (by kernel_rfl) ?_
                  refine pn_5 30 75 #[o_5,o_5,o_5,o_5,o_5,o_5,o_5,o_5,o_5,o_5,o_5,o_5,o_5,o_5,o_5,o_5,o_5,o_5,o_5,o_5,o_5,o_5,o_5,o_5,o_5,o_5,o_5,o_5,o_5,o_5,o_5,x_5,x_5,x_5,x_5,x_5,x_5] HT_ rfl rfl (by kernel_rfl) ?_
                  refine pn_5 31 76 #[o_5,o_5,o_5,o_5,o_5,o_5,o_5,o_5,o_5,o_5,o_5,o_5,o_5,o_5,o_5,o_5,o_5,o_5,o_5,o_5,o_5,o_5,o_5,o_5,o_5,o_5,o_5,o_5,o_5,o_5,o_5,o_5,x_5,x_5,x_5,x_5,x_5] HT_ rfl rfl (by kernel_rfl) ?_
                  refine pn_5 32 77 #[o_5,o_5,o_5,o_5,o_5,o_5,o_5,o_5,o_5,o_5,o_5,o_5,o_5,o_5,o_5,o_5,o_5,o_5,o_5,o_5,o_5,o_5,o_5,o_5,o_5,o_5,o_5,o_5,o_5,o_5,o_5,o_5,o_5,x_5,x_5,x_5,x_5] HT_ rfl rfl (by kernel_rfl) ?_
                  refine pn_5 33 78 #[o_5,o_5,o_5,o_5,o_5,o_5,o_5,o_5,o_5,o_5,o_5,o_5,o_5,o_5,o_5,o_5,o_5,o_5,o_5,o_5,o_5,o_5,o_5,o_5,o_5,o_5,o_5,o_5,o_5,o_5,o_5,o_5,o_5,o_5,x_5,x_5,x_5] HT_ rfl rfl (by kernel_rfl) ?_
                  refine pn_5 34 79 #[o_5,o_5,o_5,o_5,o_5,o_5,o_5,o_5,o_5,o_5,o_5,o_5,o_5,o_5,o_5,o_5,o_5,o_5,o_5,o_5,o_5,o_5,o_5,o_5,o_5,o_5,o_5,o_5,o_5,o_5,o_5,o_5,o_5,o_5,o_5,x_5,x_5] HT_ rfl rfl (by kernel_rfl) ?_
                  refine pn_5 35 80 #[o_5,o_5,o_5,o_5,o_5,o_5,o_5,o_5,o_5,o_5,o_5,o_5,o_5,o_5,o_5,o_5,o_5,o_5,o_5,o_5,o_5,o_5,o_5,o_5,o_5,o_5,o_5,o_5,o_5,o_5,o_5,o_5,o_5,o_5,o_5,o_5,x_5] HT_ rfl rfl (by kernel_rfl) ?_
                  refine pu_5 36 81 #[o_5,o_5,o_5,o_5,o_5,o_5,o_5,o_5,o_5,o_5,o_5,o_5,o_5,o_5,o_5,o_5,o_5,o_5,o_5,o_5,o_5,o_5,o_5,o_5,o_5,o_5,o_5,o_5,o_5,o_5,o_5,o_5,o_5,o_5,o_5,o_5,o_5] HT_ rfl rfl (by kernel_rfl) ?_
                  refine done_ (done_of HT_.out (by kernel_rfl)) ?_
                  try go_wp2
                  go_ret
                  exact ⟨by first | rfl | (simp [errW_none, errW_some] <;> rfl) | (simp [*, errW_none, errW_some] <;> rfl), by repeat (first | (with_reducible first | exact HB.out | apply below_alloc | apply pw_below_drewN | apply below_drew1 | refine below_set ?_ GE191.out | refine below_set ?_ GE195.out) | exact HB.out)⟩
                 ·
                  rw [if_neg c18] at H
                  have c18b0 : decide (1000000 < ((rd_T91 (rd_L4 l0_1 x29_2) x40_3).f1)) = false := decide_eq_false c18
                  clear c18
                  by_cases c24 : (Int.tmod ((rd_T91 (rd_L4 l0_1 x29_2) x40_3).f1) 16) = x29_2
                  ·
                   rw [if_pos c24] at H
                   have c24b0 : ((Int.tmod ((rd_T91 (rd_L4 l0_1 x29_2) x40_3).f1) 16) == x29_2) = true := beq_iff_eq.mpr c24
                   have c24b1 : ((Int.tmod ((rd_T91 (rd_L4 l0_1 x29_2) x40_3).f1) 16) != x29_2) = false := bne_eq_false_iff_eq.mpr c24
                   clear c24
                   by_cases c25 : x40_3 > 0
                   ·
                    rw [if_pos c25] at H
                    have c25b0 : decide (0 < x40_3) = true := decide_eq_true c25
                    clear c25
                    obtain ⟨ji26, hji26⟩ : ∃ j_ : Int, (wrap64 (x40_3 - 1)) = j_ := ⟨_, rfl⟩
                    replace H : (if 0 ≤ (ji26) then (if (ji26) < ((rd_L4 l0_1 x29_2).length : Int) then (if ((rd_T91 (rd_L4 l0_1 x29_2) (ji26)).f0) ≥ ((rd_T91 (rd_L4 l0_1 x29_2) x40_3).f0) then (some false) else (impl_WheelRight.l1 k3 (wrap64 (x3_2 + ((rd_L4 l0_1 x29_2).length : Int))) x29_2 (rd_L4 l0_1 x29_2) l0_1 (l0_1.length : Int) x29_2 (rd_L4 l0_1 x29_2) ((rd_L4 l0_1 x29_2).length : Int) (wrap64 (x40_3 + 1)) a0_0 l0_1 l0_2)) else (none)) else (none)) = some r := by first | (rw [hji26] at H; exact H) | (simp only [hji26] at H ⊢; exact H)
                    (try rw [hji26] at A16)
                    have hji26w : (IntKind.i64.wrap (x40_3 - 1)) = ji26 := (i64_w _).trans hji26
                    by_cases c27 : 0 ≤ (ji26)
                    ·
                     rw [if_pos c27] at H
                     have c27b0 : decide (0 ≤ (ji26)) = true := decide_eq_true c27
                     clear c27
                     by_cases c28 : (ji26) < ((rd_L4 l0_1 x29_2).length : Int)
                     ·
                      rw [if_pos c28] at H
                      have c28b0 : decide ((ji26) < ((rd_L4 l0_1 x29_2).length : Int)) = true := decide_eq_true c28
                      clear c28
                      by_cases c29 : ((rd_T91 (rd_L4 l0_1 x29_2) (ji26)).f0) ≥ ((rd_T91 (rd_L4 l0_1 x29_2) x40_3).f0)
                      ·
                       rw [if_pos c29] at H
                       have c29b0 : decide (((rd_T91 (rd_L4 l0_1 x29_2) x40_3).f0) ≤ ((rd_T91 (rd_L4 l0_1 x29_2) (ji26)).f0)) = true := decide_eq_true c29
                       clear c29
                       obtain rfl := Option.some.inj H
                       have p194 : 0 ≤ (x40_3 : Int) := of_decide_eq_true (by first | (with_reducible assumption) | assumption)
                       have q194 : x40_3 < ((rd_L4 l0_1 x29_2).length : Int) := of_decide_eq_true (by first | (with_reducible assumption) | assumption)
                       obtain ⟨ad194, e194, hx194_0, hx194_1⟩ := at_T91 HR193_0.out x40_3 p194 q194
                       cases e194
                       replace hx194_0 := (HB.out.cell (World.block_lt_of_cell? w _ hx194_0)).trans hx194_0
                       replace hx194_1 := (HB.out.cell (World.block_lt_of_cell? w _ hx194_1)).trans hx194_1
                       replace p194 := eq_true p194
                       replace q194 := eq_true q194
                       try go_wp2_with (first | ((with_reducible refine gate_dst (N := 7) rfl ?_); (try (refine gate_guard (by rfl) ?_; dsimp only)); refine box_event ?hg (N := 7) ?hd (cs := #[.int .i64 0, .int .i64 0]) (t := 91) ?hr ?_; (case hd => rfl); (case hg => rfl); (case hr => first | (go_simp; done) | (go_simp; rfl)); intro gb195 hg w30 hbox hb; have n0_ := Aside0.mk (blk_below (up_5 BK191.out) hb); have n1_ := Aside0.mk (below_step (by repeat (first | (with_reducible first | exact HB.out | apply below_alloc | apply pw_below_drewN | apply below_drew1 | refine below_set ?_ GE191.out) | exact HB.out)) hb); have n2_ := Aside0.mk (hbox); have n3_ := Aside0.mk ((by rw [hg]; exact (below_size (by repeat (first | (with_reducible first | exact HB.out | apply below_alloc | apply pw_below_drewN | apply below_drew1 | refine below_set ?_ GE191.out) | exact HB.out))) : w.heap.size ≤ gb195)); have n4_ := Aside0.mk ((by rw [hg]; exact (below_size (by repeat (first | (with_reducible first | exact HB.out | apply below_alloc | apply pw_below_drewN | apply below_drew1 | refine below_set ?_ GE191.out) | exact HB.out))) : w.heap.size ≤ gb195)); have n5_ := Aside0.mk ((by rw [hg]; exact Nat.ne_of_lt (blk_lt (up_5 BK191.out)) : gb191 ≠ gb195)); have n6_ := Aside0.mk ((by rw [hg]; exact Nat.ne_of_gt (blk_lt (up_5 BK191.out)) : gb195 ≠ gb191)); clear BK191; clear HB; have BK191 := n0_; have HB := n1_; have BK195 := n2_; have GW195 := n3_; have GE195 := n4_; have NB191_195 := n5_; have NB195_191 := n6_; clear n0_ n1_ n2_ n3_ n4_ n5_ n6_; clear hb hbox hg; have hnb31 := NB195_191.out; have hnc31 := NB191_195.out; have hcz32_0 : w30.cell? ⟨gb195, 0, none⟩ = some (.int .i64 0) := (blk_cell BK195.out 0).trans rfl; have hcz32_1 : w30.cell? ⟨gb195, 1, none⟩ = some (.int .i64 0) := (blk_cell BK195.out 1).trans rfl; have hfz32_0 := blk_frozen BK195.out 0; have hfz32_1 := blk_frozen BK195.out 1))
                       have n0_ : Aside0 (((w30.setCell ⟨gb195, 0, none⟩ (.int .i64 ((rd_T91 (rd_L4 l0_1 x29_2) x40_3).f0))).setCell ⟨gb195, 1, none⟩ (.int .i64 ((rd_T91 (rd_L4 l0_1 x29_2) x40_3).f1))).heap[gb191]? = some (.cells #[.int .i64 a0_0, .slice (some ad193) l0_1.length c0_1, .slice A0_2 l0_2.length c0_2] 45 (0, 0))) := ⟨by (with_reducible repeat (first | refine blk_drewN ?_ _ | refine blk_drew ?_ | refine blk_alloc ?_ _)); refine blk_far ?_ NB191_195.out _; (with_reducible repeat (first | refine blk_drewN ?_ _ | refine blk_drew ?_ | refine blk_alloc ?_ _)); refine blk_far ?_ NB191_195.out _; (with_reducible repeat (first | refine blk_drewN ?_ _ | refine blk_drew ?_ | refine blk_alloc ?_ _)); exact BK191.out⟩
                       have n1_ : Aside0 (((w30.setCell ⟨gb195, 0, none⟩ (.int .i64 ((rd_T91 (rd_L4 l0_1 x29_2) x40_3).f0))).setCell ⟨gb195, 1, none⟩ (.int .i64 ((rd_T91 (rd_L4 l0_1 x29_2) x40_3).f1))).heap[gb195]? = some (.cells #[.int .i64 ((rd_T91 (rd_L4 l0_1 x29_2) x40_3).f0), .int .i64 ((rd_T91 (rd_L4 l0_1 x29_2) x40_3).f1)] 91 (0, 0))) := ⟨by (with_reducible repeat (first | refine blk_drewN ?_ _ | refine blk_drew ?_ | refine blk_alloc ?_ _)); refine blk_put (cs := #[.int .i64 ((rd_T91 (rd_L4 l0_1 x29_2) x40_3).f0), .int .i64 0]) ?_ 1 _ rfl; (with_reducible repeat (first | refine blk_drewN ?_ _ | refine blk_drew ?_ | refine blk_alloc ?_ _)); refine blk_put (cs := #[.int .i64 0, .int .i64 0]) ?_ 0 _ rfl; (with_reducible repeat (first | refine blk_drewN ?_ _ | refine blk_drew ?_ | refine blk_alloc ?_ _)); exact BK195.out⟩
                       have n2_ : Aside0 (Below w.heap.size w ((w30.setCell ⟨gb195, 0, none⟩ (.int .i64 ((rd_T91 (rd_L4 l0_1 x29_2) x40_3).f0))).setCell ⟨gb195, 1, none⟩ (.int .i64 ((rd_T91 (rd_L4 l0_1 x29_2) x40_3).f1)))) := ⟨by repeat (first | (with_reducible first | exact HB.out | apply below_alloc | apply pw_below_drewN | apply below_drew1 | refine below_set ?_ GE191.out | refine below_set ?_ GE195.out) | exact HB.out)⟩
                       (try clear BK191)
                       (try clear BK195)
                       (try clear HB)
                       generalize ((w30.setCell ⟨gb195, 0, none⟩ (.int .i64 ((rd_T91 (rd_L4 l0_1 x29_2) x40_3).f0))).setCell ⟨gb195, 1, none⟩ (.int .i64 ((rd_T91 (rd_L4 l0_1 x29_2) x40_3).f1))) = w33 at n0_ n1_ n2_ ⊢
                       have BK191 := n0_
                       have BK195 := n1_
                       have HB := n2_
                       clear n0_ n1_ n2_
                       have n0_ := Aside0.mk (blk_drew BK191.out)
                       have n1_ := Aside0.mk (blk_drew BK195.out)
                       have n2_ := Aside0.mk (below_drew1 HB.out)
                       clear BK191
                       clear BK195
                       clear HB
                       have BK191 := n0_
                       have BK195 := n1_
                       have HB := n2_
                       clear n0_ n1_ n2_
                       have p197 : 0 ≤ ((ji26) : Int) := of_decide_eq_true (by first | (with_reducible assumption) | assumption)
                       have q197 : (ji26) < ((rd_L4 l0_1 x29_2).length : Int) := of_decide_eq_true (by first | (with_reducible assumption) | assumption)
                       obtain ⟨ad197, e197, hx197_0, hx197_1⟩ := at_T91 HR193_0.out (ji26) p197 q197
                       have hw197_1 := hx197_1
                       have hw197_0 := hx197_0
                       obtain rfl : ad194 = ad197 := (by injection e197)
                       replace hx197_0 := (HB.out.cell (World.block_lt_of_cell? w _ hx197_0)).trans hx197_0
                       replace hx197_1 := (HB.out.cell (World.block_lt_of_cell? w _ hx197_1)).trans hx197_1
                       replace p197 := eq_true p197
                       replace q197 := eq_true q197
                       refine start_ (n := 37) (S := fun w' => w'.cell? ⟨gb195, 0, none⟩ = some (.int .i64 ((rd_T91 (rd_L4 l0_1 x29_2) x40_3).f0)) ∧ w'.cell? ⟨gb195, 1, none⟩ = some (.int .i64 ((rd_T91 (rd_L4 l0_1 x29_2) x40_3).f1)) ∧ w'.cell? ⟨gb191, 0, none⟩ = some (.int .i64 a0_0) ∧ w'.cell? ⟨gb191, 1, none⟩ = some (.slice (some ad193) l0_1.length c0_1) ∧ w'.cell? ⟨gb191, 2, none⟩ = some (.slice A0_2 l0_2.length c0_2) ∧ w'.cell? (ad194.add (((ji26)).toNat * 2)) = some (.int .i64 ((rd_T91 (rd_L4 l0_1 x29_2) (ji26)).f0)) ∧ w'.cell? ⟨(ad194.add (((ji26)).toNat * 2)).block, (ad194.add (((ji26)).toNat * 2)).off + 1, none⟩ = some (.int .i64 ((rd_T91 (rd_L4 l0_1 x29_2) (ji26)).f1))) (ds := []) #[false, false, false, false, false, false, false, false, false, false, false, false, false, false, false, false, false, false, false, false, false, false, false, false, false, false, false, false, false, false, false, false, false, false, false, false, false] (by kernel_rfl) rfl rfl ⟨(blk_cell BK195.out 0).trans rfl, (blk_cell BK195.out 1).trans rfl, (blk_cell BK191.out 0).trans rfl, (blk_cell BK191.out 1).trans rfl, (blk_cell BK191.out 2).trans rfl, ((HB.out.cell (World.block_lt_of_cell? w _ hw197_0)).trans hw197_0), ((HB.out.cell (World.block_lt_of_cell? w _ hw197_1)).trans hw197_1)⟩ (fun hHeld => ?_); refine with_tabW impl_WheelRight.tab11 impl_WheelRight.bits11 (fun HT_ HW_ => ?_)
                       generalize w33.drew = w34 at BK191 BK195 HB hx197_0 hx197_1 hHeld ⊢
                       refine pu_5 0 45 #[o_5,x_5,x_5,x_5,x_5,x_5,x_5,x_5,x_5,x_5,x_5,x_5,x_5,x_5,x_5,x_5,x_5,x_5,x_5,x_5,x_5,x_5,x_5,x_5,x_5,x_5,x_5,x_5,x_5,x_5,x_5,x_5,x_5,x_5,x_5,x_5,x_5] HT_ rfl rfl (by kernel_rfl) ?_
                       refine pu_5 2 47 #[o_5,x_5,o_5,x_5,x_5,x_5,x_5,x_5,x_5,x_5,x_5,x_5,x_5,x_5,x_5,x_5,x_5,x_5,x_5,x_5,x_5,x_5,x_5,x_5,x_5,x_5,x_5,x_5,x_5,x_5,x_5,x_5,x_5,x_5,x_5,x_5,x_5] HT_ rfl rfl (by kernel_rfl) ?_
                       refine pu_5 5 50 #[o_5,x_5,o_5,x_5,x_5,o_5,x_5,x_5,x_5,x_5,x_5,x_5,x_5,x_5,x_5,x_5,x_5,x_5,x_5,x_5,x_5,x_5,x_5,x_5,x_5,x_5,x_5,x_5,x_5,x_5,x_5,x_5,x_5,x_5,x_5,x_5,x_5] HT_ rfl rfl (by kernel_rfl) ?_
                       refine tk_5 1 46 #[o_5,o_5,o_5,x_5,x_5,o_5,x_5,x_5,x_5,x_5,x_5,x_5,x_5,x_5,x_5,x_5,x_5,x_5,x_5,x_5,x_5,x_5,x_5,x_5,x_5,x_5,x_5,x_5,x_5,x_5,x_5,x_5,x_5,x_5,x_5,x_5,x_5] HT_ HW_ hHeld rfl rfl (by kernel_rfl) ?_ (by rintro w' ⟨s0, s1, s2, s3, s4, s5, s6⟩; go_simp; with_reducible rfl)
                       refine tk_5 3 48 #[o_5,o_5,o_5,o_5,x_5,o_5,x_5,x_5,x_5,x_5,x_5,x_5,x_5,x_5,x_5,x_5,x_5,x_5,x_5,x_5,x_5,x_5,x_5,x_5,x_5,x_5,x_5,x_5,x_5,x_5,x_5,x_5,x_5,x_5,x_5,x_5,x_5] HT_ HW_ hHeld rfl rfl (by kernel_rfl) ?_ (by rintro w' ⟨s0, s1, s2, s3, s4, s5, s6⟩; go_simp; with_reducible rfl)
                       refine pu_5 4 49 #[o_5,o_5,o_5,o_5,o_5,o_5,x_5,x_5,x_5,x_5,x_5,x_5,x_5,x_5,x_5,x_5,x_5,x_5,x_5,x_5,x_5,x_5,x_5,x_5,x_5,x_5,x_5,x_5,x_5,x_5,x_5,x_5,x_5,x_5,x_5,x_5,x_5] HT_ rfl rfl (by kernel_rfl) ?_
                       refine tk_5 6 51 #[o_5,o_5,o_5,o_5,o_5,o_5,o_5,x_5,x_5,x_5,x_5,x_5,x_5,x_5,x_5,x_5,x_5,x_5,x_5,x_5,x_5,x_5,x_5,x_5,x_5,x_5,x_5,x_5,x_5,x_5,x_5,x_5,x_5,x_5,x_5,x_5,x_5] HT_ HW_ hHeld rfl rfl (by kernel_rfl) ?_ (by rintro w' ⟨s0, s1, s2, s3, s4, s5, s6⟩; go_simp; with_reducible rfl)
                       refine pu_5 7 52 #[o_5,o_5,o_5,o_5,o_5,o_5,o_5,o_5,x_5,x_5,x_5,x_5,x_5,x_5,x_5,x_5,x_5,x_5,x_5,x_5,x_5,x_5,x_5,x_5,x_5,x_5,x_5,x_5,x_5,x_5,x_5,x_5,x_5,x_5,x_5,x_5,x_5] HT_ rfl rfl (by kernel_rfl) ?_
                       refine one_ (i := 8) (N := some 53) #[o_5,o_5,o_5,o_5,o_5,o_5,o_5,o_5,o_5,x_5,x_5,x_5,x_5,x_5,x_5,x_5,x_5,x_5,x_5,x_5,x_5,x_5,x_5,x_5,x_5,x_5,x_5,x_5,x_5,x_5,x_5,x_5,x_5,x_5,x_5,x_5,x_5] rfl rfl (one_of HT_.out (by kernel_rfl)) (by decide) (fun K hK => ?_)
                       refine goes_ Try.func69 (by kernel_rfl) rfl #[.int .i64 ((rd_T91 (rd_L4 l0_1 x29_2) x40_3).f1), .int .i64 (wrap64 (a0_0 + 1)), .int .i64 (wrap64 (a0_0 + 16))] (by rfl) rfl rfl (by (try simp only [List.map_toArray, List.map_cons, List.map_nil]); first | done | rfl | (simp only [List.length_drop, List.length_take]; rfl)) ?_
                       with_reducible refine (impl_in.calls ((rd_T91 (rd_L4 l0_1 x29_2) x40_3).f1) (wrap64 (a0_0 + 1)) (wrap64 (a0_0 + 16)) true _ A16.out).mono ?_
                       rintro e w' ⟨rfl, ⟨nd, rfl⟩⟩
                       refine ⟨_, rfl, ?_⟩
                       refine hK.out _ _ ⟨(blk_cell BK195.out 0).trans rfl, (blk_cell BK195.out 1).trans rfl, (blk_cell BK191.out 0).trans rfl, (blk_cell BK191.out 1).trans rfl, (blk_cell BK191.out 2).trans rfl, ((HB.out.cell (World.block_lt_of_cell? w _ hw197_0)).trans hw197_0), ((HB.out.cell (World.block_lt_of_cell? w _ hw197_1)).trans hw197_1)⟩ (fun hHeld => ?_)
                       clear hK K
                       refine norm_ (a' := ?_) ?_ ?_
                       rotate_left
                       ·
                        show Act.put _ (some 53) _ = _
                        simp only [Act.put, List.setIfInBounds_toArray, List.set_cons_zero, List.set_cons_succ, i64_w, i32_w]
                        rfl
                       refine pu_5 9 54 #[o_5,o_5,o_5,o_5,o_5,o_5,o_5,o_5,o_5,o_5,x_5,x_5,x_5,x_5,x_5,x_5,x_5,x_5,x_5,x_5,x_5,x_5,x_5,x_5,x_5,x_5,x_5,x_5,x_5,x_5,x_5,x_5,x_5,x_5,x_5,x_5,x_5] HT_ rfl rfl (by kernel_rfl) ?_
                       refine pu_5 10 55 #[o_5,o_5,o_5,o_5,o_5,o_5,o_5,o_5,o_5,o_5,o_5,x_5,x_5,x_5,x_5,x_5,x_5,x_5,x_5,x_5,x_5,x_5,x_5,x_5,x_5,x_5,x_5,x_5,x_5,x_5,x_5,x_5,x_5,x_5,x_5,x_5,x_5] HT_ rfl rfl (by kernel_rfl) ?_
                       refine pu_5 11 56 #[o_5,o_5,o_5,o_5,o_5,o_5,o_5,o_5,o_5,o_5,o_5,o_5,x_5,x_5,x_5,x_5,x_5,x_5,x_5,x_5,x_5,x_5,x_5,x_5,x_5,x_5,x_5,x_5,x_5,x_5,x_5,x_5,x_5,x_5,x_5,x_5,x_5] HT_ rfl rfl (by kernel_rfl) ?_
                       refine tk_5 12 57 #[o_5,o_5,o_5,o_5,o_5,o_5,o_5,o_5,o_5,o_5,o_5,o_5,o_5,x_5,x_5,x_5,x_5,x_5,x_5,x_5,x_5,x_5,x_5,x_5,x_5,x_5,x_5,x_5,x_5,x_5,x_5,x_5,x_5,x_5,x_5,x_5,x_5] HT_ HW_ hHeld rfl rfl (by kernel_rfl) ?_ (by rintro w' ⟨s0, s1, s2, s3, s4, s5, s6⟩; go_simp; with_reducible rfl)
                       refine pu_5 13 58 #[o_5,o_5,o_5,o_5,o_5,o_5,o_5,o_5,o_5,o_5,o_5,o_5,o_5,o_5,x_5,x_5,x_5,x_5,x_5,x_5,x_5,x_5,x_5,x_5,x_5,x_5,x_5,x_5,x_5,x_5,x_5,x_5,x_5,x_5,x_5,x_5,x_5] HT_ rfl rfl (by kernel_rfl) ?_
                       refine pu_5 14 59 #[o_5,o_5,o_5,o_5,o_5,o_5,o_5,o_5,o_5,o_5,o_5,o_5,o_5,o_5,o_5,x_5,x_5,x_5,x_5,x_5,x_5,x_5,x_5,x_5,x_5,x_5,x_5,x_5,x_5,x_5,x_5,x_5,x_5,x_5,x_5,x_5,x_5] HT_ rfl rfl (by kernel_rfl) ?_
                       refine pu_5 15 60 #[o_5,o_5,o_5,o_5,o_5,o_5,o_5,o_5,o_5,o_5,o_5,o_5,o_5,o_5,o_5,o_5,x_5,x_5,x_5,x_5,x_5,x_5,x_5,x_5,x_5,x_5,x_5,x_5,x_5,x_5,x_5,x_5,x_5,x_5,x_5,x_5,x_5] HT_ rfl rfl (by kernel_rfl) ?_
                       refine pu_5 16 61 #[o_5,o_5,o_5,o_5,o_5,o_5,o_5,o_5,o_5,o_5,o_5,o_5,o_5,o_5,o_5,o_5,o_5,x_5,x_5,x_5,x_5,x_5,x_5,x_5,x_5,x_5,x_5,x_5,x_5,x_5,x_5,x_5,x_5,x_5,x_5,x_5,x_5] HT_ rfl rfl (by kernel_rfl) ?_
                       refine pu_5 19 64 #[o_5,o_5,o_5,o_5,o_5,o_5,o_5,o_5,o_5,o_5,o_5,o_5,o_5,o_5,o_5,o_5,o_5,x_5,x_5,o_5,x_5,x_5,x_5,x_5,x_5,x_5,x_5,x_5,x_5,x_5,x_5,x_5,x_5,x_5,x_5,x_5,x_5] HT_ rfl rfl (by kernel_rfl) ?_
                       refine tk_5 17 62 #[o_5,o_5,o_5,o_5,o_5,o_5,o_5,o_5,o_5,o_5,o_5,o_5,o_5,o_5,o_5,o_5,o_5,o_5,x_5,o_5,x_5,x_5,x_5,x_5,x_5,x_5,x_5,x_5,x_5,x_5,x_5,x_5,x_5,x_5,x_5,x_5,x_5] HT_ HW_ hHeld rfl rfl (by kernel_rfl) ?_ (by rintro w' ⟨s0, s1, s2, s3, s4, s5, s6⟩; go_simp; with_reducible rfl)
                       refine pu_5 18 63 #[o_5,o_5,o_5,o_5,o_5,o_5,o_5,o_5,o_5,o_5,o_5,o_5,o_5,o_5,o_5,o_5,o_5,o_5,o_5,o_5,x_5,x_5,x_5,x_5,x_5,x_5,x_5,x_5,x_5,x_5,x_5,x_5,x_5,x_5,x_5,x_5,x_5] HT_ rfl rfl (by kernel_rfl) ?_
                       refine pu_5 20 65 #[o_5,o_5,o_5,o_5,o_5,o_5,o_5,o_5,o_5,o_5,o_5,o_5,o_5,o_5,o_5,o_5,o_5,o_5,o_5,o_5,o_5,x_5,x_5,x_5,x_5,x_5,x_5,x_5,x_5,x_5,x_5,x_5,x_5,x_5,x_5,x_5,x_5] HT_ rfl rfl (by kernel_rfl) ?_
                       refine pu_5 21 66 #[o_5,o_5,o_5,o_5,o_5,o_5,o_5,o_5,o_5,o_5,o_5,o_5,o_5,o_5,o_5,o_5,o_5,o_5,o_5,o_5,o_5,o_5,x_5,x_5,x_5,x_5,x_5,x_5,x_5,x_5,x_5,x_5,x_5,x_5,x_5,x_5,x_5] HT_ rfl rfl (by kernel_rfl) ?_
                       refine pu_5 22 67 #[o_5,o_5,o_5,o_5,o_5,o_5,o_5,o_5,o_5,o_5,o_5,o_5,o_5,o_5,o_5,o_5,o_5,o_5,o_5,o_5,o_5,o_5,o_5,x_5,x_5,x_5,x_5,x_5,x_5,x_5,x_5,x_5,x_5,x_5,x_5,x_5,x_5] HT_ rfl rfl (by kernel_rfl) ?_
                       refine pu_5 23 68 #[o_5,o_5,o_5,o_5,o_5,o_5,o_5,o_5,o_5,o_5,o_5,o_5,o_5,o_5,o_5,o_5,o_5,o_5,o_5,o_5,o_5,o_5,o_5,o_5,x_5,x_5,x_5,x_5,x_5,x_5,x_5,x_5,x_5,x_5,x_5,x_5,x_5] HT_ rfl rfl (by kernel_rfl) ?_
                       refine pu_5 24 69 #[o_5,o_5,o_5,o_5,o_5,o_5,o_5,o_5,o_5,o_5,o_5,o_5,o_5,o_5,o_5,o_5,o_5,o_5,o_5,o_5,o_5,o_5,o_5,o_5,o_5,x_5,x_5,x_5,x_5,x_5,x_5,x_5,x_5,x_5,x_5,x_5,x_5] HT_ rfl rfl (by kernel_rfl) ?_
                       refine pu_5 25 70 #[o_5,o_5,o_5,o_5,o_5,o_5,o_5,o_5,o_5,o_5,o_5,o_5,o_5,o_5,o_5,o_5,o_5,o_5,o_5,o_5,o_5,o_5,o_5,o_5,o_5,o_5,x_5,x_5,x_5,x_5,x_5,x_5,x_5,x_5,x_5,x_5,x_5] HT_ rfl rfl (by kernel_rfl) ?_
                       refine pu_5 26 71 #[o_5,o_5,o_5,o_5,o_5,o_5,o_5,o_5,o_5,o_5,o_5,o_5,o_5,o_5,o_5,o_5,o_5,o_5,o_5,o_5,o_5,o_5,o_5,o_5,o_5,o_5,o_5,x_5,x_5,x_5,x_5,x_5,x_5,x_5,x_5,x_5,x_5] HT_ rfl rfl (by kernel_rfl) ?_
                       refine pu_5 27 72 #[o_5,o_5,o_5,o_5,o_5,o_5,o_5,o_5,o_5,o_5,o_5,o_5,o_5,o_5,o_5,o_5,o_5,o_5,o_5,o_5,o_5,o_5,o_5,o_5,o_5,o_5,o_5,o_5,x_5,x_5,x_5,x_5,x_5,x_5,x_5,x_5,x_5] HT_ rfl rfl (by kernel_rfl) ?_
                       refine pu_5 28 73 #[o_5,o_5,o_5,o_5,o_5,o_5,o_5,o_5,o_5,o_5,o_5,o_5,o_5,o_5,o_5,o_5,o_5,o_5,o_5,o_5,o_5,o_5,o_5,o_5,o_5,o_5,o_5,o_5,o_5,x_5,x_5,x_5,x_5,x_5,x_5,x_5,x_5] HT_ rfl rfl (by kernel_rfl) ?_
                       refine pu_5 29 74 #[o_5,o_5,o_5,o_5,o_5,o_5,o_5,o_5,o_5,o_5,o_5,o_5,o_5,o_5,o_5,o_5,o_5,o_5,o_5,o_5,o_5,o_5,o_5,o_5,o_5,o_5,o_5,o_5,o_5,o_5,x_5,x_5,x_5,x_5,x_5,x_5,x_5] HT_ rfl rfl (by kernel_rfl) ?_
                       refine pu_5 30 75 #[o_5,o_5,o_5,o_5,o_5,o_5,o_5,o_5,o_5,o_5,o_5,o_5,o_5,o_5,o_5,o_5,o_5,o_5,o_5,o_5,o_5,o_5,o_5,o_5,o_5,o_5,o_5,o_5,o_5,o_5,o_5,x_5,x_5,x_5,x_5,x_5,x_5] HT_ rfl rfl (by kernel_rfl) ?_
                       refine pu_5 32 77 #[o_5,o_5,o_5,o_5,o_5,o_5,o_5,o_5,o_5,o_5,o_5,o_5,o_5,o_5,o_5,o_5,o_5,o_5,o_5,o_5,o_5,o_5,o_5,o_5,o_5,o_5,o_5,o_5,o_5,o_5,o_5,x_5,o_5,x_5,x_5,x_5,x_5] HT_ rfl rfl (by kernel_rfl) ?_
                       refine tk_5 31 76 #[o_5,o_5,o_5,o_5,o_5,o_5,o_5,o_5,o_5,o_5,o_5,o_5,o_5,o_5,o_5,o_5,o_5,o_5,o_5,o_5,o_5,o_5,o_5,o_5,o_5,o_5,o_5,o_5,o_5,o_5,o_5,o_5,o_5,x_5,x_5,x_5,x_5] HT_ HW_ hHeld rfl rfl (by kernel_rfl) ?_ (by rintro w' ⟨s0, s1, s2, s3, s4, s5, s6⟩; go_simp; with_reducible rfl)
                       refine tk_5 33 78 #[o_5,o_5,o_5,o_5,o_5,o_5,o_5,o_5,o_5,o_5,o_5,o_5,o_5,o_5,o_5,o_5,o_5,o_5,o_5,o_5,o_5,o_5,o_5,o_5,o_5,o_5,o_5,o_5,o_5,o_5,o_5,o_5,o_5,o_5,x_5,x_5,x_5] HT_ HW_ hHeld rfl rfl (by kernel_rfl) ?_ (by rintro w' ⟨s0, s1, s2, s3, s4, s5, s6⟩; go_simp; with_reducible rfl)
                       refine pu_5 34 79 #[o_5,o_5,o_5,o_5,o_5,o_5,o_5,o_5,o_5,o_5,o_5,o_5,o_5,o_5,o_5,o_5,o_5,o_5,o_5,o_5,o_5,o_5,o_5,o_5,o_5,o_5,o_5,o_5,o_5,o_5,o_5,o_5,o_5,o_5,o_5,x_5,x_5] HT_ rfl rfl (by kernel_rfl) ?_
                       refine pu_5 35 80 #[o_5,o_5,o_5,o_5,o_5,o_5,o_5,o_5,o_5,o_5,o_5,o_5,o_5,o_5,o_5,o_5,o_5,o_5,o_5,o_5,o_5,o_5,o_5,o_5,o_5,o_5,o_5,o_5,o_5,o_5,o_5,o_5,o_5,o_5,o_5,o_5,x_5] HT_ rfl rfl (by kernel_rfl) ?_
                       refine pu_5 36 81 #[o_5,o_5,o_5,o_5,o_5,o_5,o_5,o_5,o_5,o_5,o_5,o_5,o_5,o_5,o_5,o_5,o_5,o_5,o_5,o_5,o_5,o_5,o_5,o_5,o_5,o_5,o_5,o_5,o_5,o_5,o_5,o_5,o_5,o_5,o_5,o_5,o_5] HT_ rfl rfl (by kernel_rfl) ?_
                       refine done_ (done_of HT_.out (by kernel_rfl)) ?_
                       try go_wp2
                       go_ret
                       exact ⟨by first | rfl | (simp [errW_none, errW_some] <;> rfl) | (simp only [← hji26]; first | rfl | (simp [errW_none, errW_some] <;> rfl)) | (simp [*, errW_none, errW_some] <;> rfl), by repeat (first | (with_reducible first | exact HB.out | apply below_alloc | apply pw_below_drewN | apply below_drew1 | refine below_set ?_ GE191.out | refine below_set ?_ GE195.out) | exact HB.out)⟩
                      ·
                       rw [if_neg c29] at H
                       have c29b0 : decide (((rd_T91 (rd_L4 l0_1 x29_2) x40_3).f0) ≤ ((rd_T91 (rd_L4 l0_1 x29_2) (ji26)).f0)) = false := decide_eq_false c29
                       clear c29
                       have H' := Aside0.mk H
                       clear H
                       have p194 : 0 ≤ (x40_3 : Int) := of_decide_eq_true (by first | (with_reducible assumption) | assumption)
                       have q194 : x40_3 < ((rd_L4 l0_1 x29_2).length : Int) := of_decide_eq_true (by first | (with_reducible assumption) | assumption)
                       obtain ⟨ad194, e194, hx194_0, hx194_1⟩ := at_T91 HR193_0.out x40_3 p194 q194
                       cases e194
                       replace hx194_0 := (HB.out.cell (World.block_lt_of_cell? w _ hx194_0)).trans hx194_0
                       replace hx194_1 := (HB.out.cell (World.block_lt_of_cell? w _ hx194_1)).trans hx194_1
                       replace p194 := eq_true p194
                       replace q194 := eq_true q194
                       try go_wp2_with (first | ((with_reducible refine gate_dst (N := 7) rfl ?_); (try (refine gate_guard (by rfl) ?_; dsimp only)); refine box_event ?hg (N := 7) ?hd (cs := #[.int .i64 0, .int .i64 0]) (t := 91) ?hr ?_; (case hd => rfl); (case hg => rfl); (case hr => first | (go_simp; done) | (go_simp; rfl)); intro gb195 hg w35 hbox hb; have n0_ := Aside0.mk (blk_below (up_5 BK191.out) hb); have n1_ := Aside0.mk (below_step (by repeat (first | (with_reducible first | exact HB.out | apply below_alloc | apply pw_below_drewN | apply below_drew1 | refine below_set ?_ GE191.out) | exact HB.out)) hb); have n2_ := Aside0.mk (hbox); have n3_ := Aside0.mk ((by rw [hg]; exact (below_size (by repeat (first | (with_reducible first | exact HB.out | apply below_alloc | apply pw_below_drewN | apply below_drew1 | refine below_set ?_ GE191.out) | exact HB.out))) : w.heap.size ≤ gb195)); have n4_ := Aside0.mk ((by rw [hg]; exact (below_size (by repeat (first | (with_reducible first | exact HB.out | apply below_alloc | apply pw_below_drewN | apply below_drew1 | refine below_set ?_ GE191.out) | exact HB.out))) : w.heap.size ≤ gb195)); have n5_ := Aside0.mk ((by rw [hg]; exact Nat.ne_of_lt (blk_lt (up_5 BK191.out)) : gb191 ≠ gb195)); have n6_ := Aside0.mk ((by rw [hg]; exact Nat.ne_of_gt (blk_lt (up_5 BK191.out)) : gb195 ≠ gb191)); clear BK191; clear HB; have BK191 := n0_; have HB := n1_; have BK195 := n2_; have GW195 := n3_; have GE195 := n4_; have NB191_195 := n5_; have NB195_191 := n6_; clear n0_ n1_ n2_ n3_ n4_ n5_ n6_; clear hb hbox hg; have hnb36 := NB195_191.out; have hnc36 := NB191_195.out; have hcz37_0 : w35.cell? ⟨gb195, 0, none⟩ = some (.int .i64 0) := (blk_cell BK195.out 0).trans rfl; have hcz37_1 : w35.cell? ⟨gb195, 1, none⟩ = some (.int .i64 0) := (blk_cell BK195.out 1).trans rfl; have hfz37_0 := blk_frozen BK195.out 0; have hfz37_1 := blk_frozen BK195.out 1))
                       have n0_ : Aside0 (((w35.setCell ⟨gb195, 0, none⟩ (.int .i64 ((rd_T91 (rd_L4 l0_1 x29_2) x40_3).f0))).setCell ⟨gb195, 1, none⟩ (.int .i64 ((rd_T91 (rd_L4 l0_1 x29_2) x40_3).f1))).heap[gb191]? = some (.cells #[.int .i64 a0_0, .slice (some ad193) l0_1.length c0_1, .slice A0_2 l0_2.length c0_2] 45 (0, 0))) := ⟨by (with_reducible repeat (first | refine blk_drewN ?_ _ | refine blk_drew ?_ | refine blk_alloc ?_ _)); refine blk_far ?_ NB191_195.out _; (with_reducible repeat (first | refine blk_drewN ?_ _ | refine blk_drew ?_ | refine blk_alloc ?_ _)); refine blk_far ?_ NB191_195.out _; (with_reducible repeat (first | refine blk_drewN ?_ _ | refine blk_drew ?_ | refine blk_alloc ?_ _)); exact BK191.out⟩
                       have n1_ : Aside0 (((w35.setCell ⟨gb195, 0, none⟩ (.int .i64 ((rd_T91 (rd_L4 l0_1 x29_2) x40_3).f0))).setCell ⟨gb195, 1, none⟩ (.int .i64 ((rd_T91 (rd_L4 l0_1 x29_2) x40_3).f1))).heap[gb195]? = some (.cells #[.int .i64 ((rd_T91 (rd_L4 l0_1 x29_2) x40_3).f0), .int .i64 ((rd_T91 (rd_L4 l0_1 x29_2) x40_3).f1)] 91 (0, 0))) := ⟨by (with_reducible repeat (first | refine blk_drewN ?_ _ | refine blk_drew ?_ | refine blk_alloc ?_ _)); refine blk_put (cs := #[.int .i64 ((rd_T91 (rd_L4 l0_1 x29_2) x40_3).f0), .int .i64 0]) ?_ 1 _ rfl; (with_reducible repeat (first | refine blk_drewN ?_ _ | refine blk_drew ?_ | refine blk_alloc ?_ _)); refine blk_put (cs := #[.int .i64 0, .int .i64 0]) ?_ 0 _ rfl; (with_reducible repeat (first | refine blk_drewN ?_ _ | refine blk_drew ?_ | refine blk_alloc ?_ _)); exact BK195.out⟩
                       have n2_ : Aside0 (Below w.heap.size w ((w35.setCell ⟨gb195, 0, none⟩ (.int .i64 ((rd_T91 (rd_L4 l0_1 x29_2) x40_3).f0))).setCell ⟨gb195, 1, none⟩ (.int .i64 ((rd_T91 (rd_L4 l0_1 x29_2) x40_3).f1)))) := ⟨by repeat (first | (with_reducible first | exact HB.out | apply below_alloc | apply pw_below_drewN | apply below_drew1 | refine below_set ?_ GE191.out | refine below_set ?_ GE195.out) | exact HB.out)⟩
                       (try clear BK191)
                       (try clear BK195)
                       (try clear HB)
                       generalize ((w35.setCell ⟨gb195, 0, none⟩ (.int .i64 ((rd_T91 (rd_L4 l0_1 x29_2) x40_3).f0))).setCell ⟨gb195, 1, none⟩ (.int .i64 ((rd_T91 (rd_L4 l0_1 x29_2) x40_3).f1))) = w38 at n0_ n1_ n2_ ⊢
                       have BK191 := n0_
                       have BK195 := n1_
                       have HB := n2_
                       clear n0_ n1_ n2_
                       have n0_ := Aside0.mk (blk_drew BK191.out)
                       have n1_ := Aside0.mk (blk_drew BK195.out)
                       have n2_ := Aside0.mk (below_drew1 HB.out)
                       clear BK191
                       clear BK195
                       clear HB
                       have BK191 := n0_
                       have BK195 := n1_
                       have HB := n2_
                       clear n0_ n1_ n2_
                       have p197 : 0 ≤ ((ji26) : Int) := of_decide_eq_true (by first | (with_reducible assumption) | assumption)
                       have q197 : (ji26) < ((rd_L4 l0_1 x29_2).length : Int) := of_decide_eq_true (by first | (with_reducible assumption) | assumption)
                       obtain ⟨ad197, e197, hx197_0, hx197_1⟩ := at_T91 HR193_0.out (ji26) p197 q197
                       have hw197_1 := hx197_1
                       have hw197_0 := hx197_0
                       obtain rfl : ad194 = ad197 := (by injection e197)
                       replace hx197_0 := (HB.out.cell (World.block_lt_of_cell? w _ hx197_0)).trans hx197_0
                       replace hx197_1 := (HB.out.cell (World.block_lt_of_cell? w _ hx197_1)).trans hx197_1
                       replace p197 := eq_true p197
                       replace q197 := eq_true q197
                       refine start_ (n := 37) (S := fun w' => w'.cell? ⟨gb195, 0, none⟩ = some (.int .i64 ((rd_T91 (rd_L4 l0_1 x29_2) x40_3).f0)) ∧ w'.cell? ⟨gb195, 1, none⟩ = some (.int .i64 ((rd_T91 (rd_L4 l0_1 x29_2) x40_3).f1)) ∧ w'.cell? ⟨gb191, 0, none⟩ = some (.int .i64 a0_0) ∧ w'.cell? ⟨gb191, 1, none⟩ = some (.slice (some ad193) l0_1.length c0_1) ∧ w'.cell? ⟨gb191, 2, none⟩ = some (.slice A0_2 l0_2.length c0_2) ∧ w'.cell? (ad194.add (((ji26)).toNat * 2)) = some (.int .i64 ((rd_T91 (rd_L4 l0_1 x29_2) (ji26)).f0)) ∧ w'.cell? ⟨(ad194.add (((ji26)).toNat * 2)).block, (ad194.add (((ji26)).toNat * 2)).off + 1, none⟩ = some (.int .i64 ((rd_T91 (rd_L4 l0_1 x29_2) (ji26)).f1))) (ds := []) #[false, false, false, false, false, false, false, false, false, false, false, false, false, false, false, false, false, false, false, false, false, false, false, false, false, false, false, false, false, false, false, false, false, false, false, false, false] (by kernel_rfl) rfl rfl ⟨(blk_cell BK195.out 0).trans rfl, (blk_cell BK195.out 1).trans rfl, (blk_cell BK191.out 0).trans rfl, (blk_cell BK191.out 1).trans rfl, (blk_cell BK191.out 2).trans rfl, ((HB.out.cell (World.block_lt_of_cell? w _ hw197_0)).trans hw197_0), ((HB.out.cell (World.block_lt_of_cell? w _ hw197_1)).trans hw197_1)⟩ (fun hHeld => ?_); refine with_tabW impl_WheelRight.tab11 impl_WheelRight.bits11 (fun HT_ HW_ => ?_)
                       generalize w38.drew = w39 at BK191 BK195 HB hx197_0 hx197_1 hHeld ⊢
                       refine pu_5 0 45 #[o_5,x_5,x_5,x_5,x_5,x_5,x_5,x_5,x_5,x_5,x_5,x_5,x_5,x_5,x_5,x_5,x_5,x_5,x_5,x_5,x_5,x_5,x_5,x_5,x_5,x_5,x_5,x_5,x_5,x_5,x_5,x_5,x_5,x_5,x_5,x_5,x_5] HT_ rfl rfl (by kernel_rfl) ?_
                       refine pu_5 2 47 #[o_5,x_5,o_5,x_5,x_5,x_5,x_5,x_5,x_5,x_5,x_5,x_5,x_5,x_5,x_5,x_5,x_5,x_5,x_5,x_5,x_5,x_5,x_5,x_5,x_5,x_5,x_5,x_5,x_5,x_5,x_5,x_5,x_5,x_5,x_5,x_5,x_5] HT_ rfl rfl (by kernel_rfl) ?_
                       refine pu_5 5 50 #[o_5,x_5,o_5,x_5,x_5,o_5,x_5,x_5,x_5,x_5,x_5,x_5,x_5,x_5,x_5,x_5,x_5,x_5,x_5,x_5,x_5,x_5,x_5,x_5,x_5,x_5,x_5,x_5,x_5,x_5,x_5,x_5,x_5,x_5,x_5,x_5,x_5] HT_ rfl rfl (by kernel_rfl) ?_
                       refine tk_5 1 46 #[o_5,o_5,o_5,x_5,x_5,o_5,x_5,x_5,x_5,x_5,x_5,x_5,x_5,x_5,x_5,x_5,x_5,x_5,x_5,x_5,x_5,x_5,x_5,x_5,x_5,x_5,x_5,x_5,x_5,x_5,x_5,x_5,x_5,x_5,x_5,x_5,x_5] HT_ HW_ hHeld rfl rfl (by kernel_rfl) ?_ (by rintro w' ⟨s0, s1, s2, s3, s4, s5, s6⟩; go_simp; with_reducible rfl)
                       refine tk_5 3 48 #[o_5,o_5,o_5,o_5,x_5,o_5,x_5,x_5,x_5,x_5,x_5,x_5,x_5,x_5,x_5,x_5,x_5,x_5,x_5,x_5,x_5,x_5,x_5,x_5,x_5,x_5,x_5,x_5,x_5,x_5,x_5,x_5,x_5,x_5,x_5,x_5,x_5] HT_ HW_ hHeld rfl rfl (by kernel_rfl) ?_ (by rintro w' ⟨s0, s1, s2, s3, s4, s5, s6⟩; go_simp; with_reducible rfl)
                       refine pu_5 4 49 #[o_5,o_5,o_5,o_5,o_5,o_5,x_5,x_5,x_5,x_5,x_5,x_5,x_5,x_5,x_5,x_5,x_5,x_5,x_5,x_5,x_5,x_5,x_5,x_5,x_5,x_5,x_5,x_5,x_5,x_5,x_5,x_5,x_5,x_5,x_5,x_5,x_5] HT_ rfl rfl (by kernel_rfl) ?_
                       refine tk_5 6 51 #[o_5,o_5,o_5,o_5,o_5,o_5,o_5,x_5,x_5,x_5,x_5,x_5,x_5,x_5,x_5,x_5,x_5,x_5,x_5,x_5,x_5,x_5,x_5,x_5,x_5,x_5,x_5,x_5,x_5,x_5,x_5,x_5,x_5,x_5,x_5,x_5,x_5] HT_ HW_ hHeld rfl rfl (by kernel_rfl) ?_ (by rintro w' ⟨s0, s1, s2, s3, s4, s5, s6⟩; go_simp; with_reducible rfl)
                       refine pu_5 7 52 #[o_5,o_5,o_5,o_5,o_5,o_5,o_5,o_5,x_5,x_5,x_5,x_5,x_5,x_5,x_5,x_5,x_5,x_5,x_5,x_5,x_5,x_5,x_5,x_5,x_5,x_5,x_5,x_5,x_5,x_5,x_5,x_5,x_5,x_5,x_5,x_5,x_5] HT_ rfl rfl (by kernel_rfl) ?_
                       refine one_ (i := 8) (N := some 53) #[o_5,o_5,o_5,o_5,o_5,o_5,o_5,o_5,o_5,x_5,x_5,x_5,x_5,x_5,x_5,x_5,x_5,x_5,x_5,x_5,x_5,x_5,x_5,x_5,x_5,x_5,x_5,x_5,x_5,x_5,x_5,x_5,x_5,x_5,x_5,x_5,x_5] rfl rfl (one_of HT_.out (by kernel_rfl)) (by decide) (fun K hK => ?_)
                       refine goes_ Try.func69 (by kernel_rfl) rfl #[.int .i64 ((rd_T91 (rd_L4 l0_1 x29_2) x40_3).f1), .int .i64 (wrap64 (a0_0 + 1)), .int .i64 (wrap64 (a0_0 + 16))] (by rfl) rfl rfl (by (try simp only [List.map_toArray, List.map_cons, List.map_nil]); first | done | rfl | (simp only [List.length_drop, List.length_take]; rfl)) ?_
                       with_reducible refine (impl_in.calls ((rd_T91 (rd_L4 l0_1 x29_2) x40_3).f1) (wrap64 (a0_0 + 1)) (wrap64 (a0_0 + 16)) true _ A16.out).mono ?_
                       rintro e w' ⟨rfl, ⟨nd, rfl⟩⟩
                       refine ⟨_, rfl, ?_⟩
                       refine hK.out _ _ ⟨(blk_cell BK195.out 0).trans rfl, (blk_cell BK195.out 1).trans rfl, (blk_cell BK191.out 0).trans rfl, (blk_cell BK191.out 1).trans rfl, (blk_cell BK191.out 2).trans rfl, ((HB.out.cell (World.block_lt_of_cell? w _ hw197_0)).trans hw197_0), ((HB.out.cell (World.block_lt_of_cell? w _ hw197_1)).trans hw197_1)⟩ (fun hHeld => ?_)
                       clear hK K
                       refine norm_ (a' := ?_) ?_ ?_
                       rotate_left
                       ·
                        show Act.put _ (some 53) _ = _
                        simp only [Act.put, List.setIfInBounds_toArray, List.set_cons_zero, List.set_cons_succ, i64_w, i32_w]
                        rfl
                       refine pu_5 9 54 #[o_5,o_5,o_5,o_5,o_5,o_5,o_5,o_5,o_5,o_5,x_5,x_5,x_5,x_5,x_5,x_5,x_5,x_5,x_5,x_5,x_5,x_5,x_5,x_5,x_5,x_5,x_5,x_5,x_5,x_5,x_5,x_5,x_5,x_5,x_5,x_5,x_5] HT_ rfl rfl (by kernel_rfl) ?_
                       refine pu_5 10 55 #[o_5,o_5,o_5,o_5,o_5,o_5,o_5,o_5,o_5,o_5,o_5,x_5,x_5,x_5,x_5,x_5,x_5,x_5,x_5,x_5,x_5,x_5,x_5,x_5,x_5,x_5,x_5,x_5,x_5,x_5,x_5,x_5,x_5,x_5,x_5,x_5,x_5] HT_ rfl rfl (by kernel_rfl) ?_
                       refine pu_5 11 56 #[o_5,o_5,o_5,o_5,o_5,o_5,o_5,o_5,o_5,o_5,o_5,o_5,x_5,x_5,x_5,x_5,x_5,x_5,x_5,x_5,x_5,x_5,x_5,x_5,x_5,x_5,x_5,x_5,x_5,x_5,x_5,x_5,x_5,x_5,x_5,x_5,x_5] HT_ rfl rfl (by kernel_rfl) ?_
                       refine tk_5 12 57 #[o_5,o_5,o_5,o_5,o_5,o_5,o_5,o_5,o_5,o_5,o_5,o_5,o_5,x_5,x_5,x_5,x_5,x_5,x_5,x_5,x_5,x_5,x_5,x_5,x_5,x_5,x_5,x_5,x_5,x_5,x_5,x_5,x_5,x_5,x_5,x_5,x_5] HT_ HW_ hHeld rfl rfl (by kernel_rfl) ?_ (by rintro w' ⟨s0, s1, s2, s3, s4, s5, s6⟩; go_simp; with_reducible rfl)
                       refine pu_5 13 58 #[o_5,o_5,o_5,o_5,o_5,o_5,o_5,o_5,o_5,o_5,o_5,o_5,o_5,o_5,x_5,x_5,x_5,x_5,x_5,x_5,x_5,x_5,x_5,x_5,x_5,x_5,x_5,x_5,x_5,x_5,x_5,x_5,x_5,x_5,x_5,x_5,x_5] HT_ rfl rfl (by kernel_rfl) ?_
                       refine pu_5 14 59 #[o_5,o_5,o_5,o_5,o_5,o_5,o_5,o_5,o_5,o_5,o_5,o_5,o_5,o_5,o_5,x_5,x_5,x_5,x_5,x_5,x_5,x_5,x_5,x_5,x_5,x_5,x_5,x_5,x_5,x_5,x_5,x_5,x_5,x_5,x_5,x_5,x_5] HT_ rfl rfl (by kernel_rfl) ?_
                       refine pu_5 15 60 #[o_5,o_5,o_5,o_5,o_5,o_5,o_5,o_5,o_5,o_5,o_5,o_5,o_5,o_5,o_5,o_5,x_5,x_5,x_5,x_5,x_5,x_5,x_5,x_5,x_5,x_5,x_5,x_5,x_5,x_5,x_5,x_5,x_5,x_5,x_5,x_5,x_5] HT_ rfl rfl (by kernel_rfl) ?_
                       refine pu_5 16 61 #[o_5,o_5,o_5,o_5,o_5,o_5,o_5,o_5,o_5,o_5,o_5,o_5,o_5,o_5,o_5,o_5,o_5,x_5,x_5,x_5,x_5,x_5,x_5,x_5,x_5,x_5,x_5,x_5,x_5,x_5,x_5,x_5,x_5,x_5,x_5,x_5,x_5] HT_ rfl rfl (by kernel_rfl) ?_
                       refine pu_5 19 64 #[o_5,o_5,o_5,o_5,o_5,o_5,o_5,o_5,o_5,o_5,o_5,o_5,o_5,o_5,o_5,o_5,o_5,x_5,x_5,o_5,x_5,x_5,x_5,x_5,x_5,x_5,x_5,x_5,x_5,x_5,x_5,x_5,x_5,x_5,x_5,x_5,x_5] HT_ rfl rfl (by kernel_rfl) ?_
                       refine tk_5 17 62 #[o_5,o_5,o_5,o_5,o_5,o_5,o_5,o_5,o_5,o_5,o_5,o_5,o_5,o_5,o_5,o_5,o_5,o_5,x_5,o_5,x_5,x_5,x_5,x_5,x_5,x_5,x_5,x_5,x_5,x_5,x_5,x_5,x_5,x_5,x_5,x_5,x_5] HT_ HW_ hHeld rfl rfl (by kernel_rfl) ?_ (by rintro w' ⟨s0, s1, s2, s3, s4, s5, s6⟩; go_simp; with_reducible rfl)
                       refine pu_5 18 63 #[o_5,o_5,o_5,o_5,o_5,o_5,o_5,o_5,o_5,o_5,o_5,o_5,o_5,o_5,o_5,o_5,o_5,o_5,o_5,o_5,x_5,x_5,x_5,x_5,x_5,x_5,x_5,x_5,x_5,x_5,x_5,x_5,x_5,x_5,x_5,x_5,x_5] HT_ rfl rfl (by kernel_rfl) ?_
                       refine pu_5 20 65 #[o_5,o_5,o_5,o_5,o_5,o_5,o_5,o_5,o_5,o_5,o_5,o_5,o_5,o_5,o_5,o_5,o_5,o_5,o_5,o_5,o_5,x_5,x_5,x_5,x_5,x_5,x_5,x_5,x_5,x_5,x_5,x_5,x_5,x_5,x_5,x_5,x_5] HT_ rfl rfl (by kernel_rfl) ?_
                       refine pu_5 21 66 #[o_5,o_5,o_5,o_5,o_5,o_5,o_5,o_5,o_5,o_5,o_5,o_5,o_5,o_5,o_5,o_5,o_5,o_5,o_5,o_5,o_5,o_5,x_5,x_5,x_5,x_5,x_5,x_5,x_5,x_5,x_5,x_5,x_5,x_5,x_5,x_5,x_5] HT_ rfl rfl (by kernel_rfl) ?_
                       refine pu_5 22 67 #[o_5,o_5,o_5,o_5,o_5,o_5,o_5,o_5,o_5,o_5,o_5,o_5,o_5,o_5,o_5,o_5,o_5,o_5,o_5,o_5,o_5,o_5,o_5,x_5,x_5,x_5,x_5,x_5,x_5,x_5,x_5,x_5,x_5,x_5,x_5,x_5,x_5] HT_ rfl rfl (by kernel_rfl) ?_
                       refine pu_5 23 68 #[o_5,o_5,o_5,o_5,o_5,o_5,o_5,o_5,o_5,o_5,o_5,o_5,o_5,o_5,o_5,o_5,o_5,o_5,o_5,o_5,o_5,o_5,o_5,o_5,x_5,x_5,x_5,x_5,x_5,x_5,x_5,x_5,x_5,x_5,x_5,x_5,x_5] HT_ rfl rfl (by kernel_rfl) ?_
                       refine pu_5 24 69 #[o_5,o_5,o_5,o_5,o_5,o_5,o_5,o_5,o_5,o_5,o_5,o_5,o_5,o_5,o_5,o_5,o_5,o_5,o_5,o_5,o_5,o_5,o_5,o_5,o_5,x_5,x_5,x_5,x_5,x_5,x_5,x_5,x_5,x_5,x_5,x_5,x_5] HT_ rfl rfl (by kernel_rfl) ?_
                       refine pu_5 25 70 #[o_5,o_5,o_5,o_5,o_5,o_5,o_5,o_5,o_5,o_5,o_5,o_5,o_5,o_5,o_5,o_5,o_5,o_5,o_5,o_5,o_5,o_5,o_5,o_5,o_5,o_5,x_5,x_5,x_5,x_5,x_5,x_5,x_5,x_5,x_5,x_5,x_5] HT_ rfl rfl (by kernel_rfl) ?_
                       refine pu_5 26 71 #[o_5,o_5,o_5,o_5,o_5,o_5,o_5,o_5,o_5,o_5,o_5,o_5,o_5,o_5,o_5,o_5,o_5,o_5,o_5,o_5,o_5,o_5,o_5,o_5,o_5,o_5,o_5,x_5,x_5,x_5,x_5,x_5,x_5,x_5,x_5,x_5,x_5] HT_ rfl rfl (by kernel_rfl) ?_
                       refine pu_5 27 72 #[o_5,o_5,o_5,o_5,o_5,o_5,o_5,o_5,o_5,o_5,o_5,o_5,o_5,o_5,o_5,o_5,o_5,o_5,o_5,o_5,o_5,o_5,o_5,o_5,o_5,o_5,o_5,o_5,x_5,x_5,x_5,x_5,x_5,x_5,x_5,x_5,x_5] HT_ rfl rfl (by kernel_rfl) ?_
                       refine pu_5 28 73 #[o_5,o_5,o_5,o_5,o_5,o_5,o_5,o_5,o_5,o_5,o_5,o_5,o_5,o_5,o_5,o_5,o_5,o_5,o_5,o_5,o_5,o_5,o_5,o_5,o_5,o_5,o_5,o_5,o_5,x_5,x_5,x_5,x_5,x_5,x_5,x_5,x_5] HT_ rfl rfl (by kernel_rfl) ?_
                       refine pu_5 29 74 #[o_5,o_5,o_5,o_5,o_5,o_5,o_5,o_5,o_5,o_5,o_5,o_5,o_5,o_5,o_5,o_5,o_5,o_5,o_5,o_5,o_5,o_5,o_5,o_5,o_5,o_5,o_5,o_5,o_5,o_5,x_5,x_5,x_5,x_5,x_5,x_5,x_5] HT_ rfl rfl (by kernel_rfl) ?_
                       refine pu_5 30 75 #[o_5,o_5,o_5,o_5,o_5,o_5,o_5,o_5,o_5,o_5,o_5,o_5,o_5,o_5,o_5,o_5,o_5,o_5,o_5,o_5,o_5,o_5,o_5,o_5,o_5,o_5,o_5,o_5,o_5,o_5,o_5,x_5,x_5,x_5,x_5,x_5,x_5] HT_ rfl rfl (by kernel_rfl) ?_
                       refine pu_5 32 77 #[o_5,o_5,o_5,o_5,o_5,o_5,o_5,o_5,o_5,o_5,o_5,o_5,o_5,o_5,o_5,o_5,o_5,o_5,o_5,o_5,o_5,o_5,o_5,o_5,o_5,o_5,o_5,o_5,o_5,o_5,o_5,x_5,o_5,x_5,x_5,x_5,x_5] HT_ rfl rfl (by kernel_rfl) ?_
                       refine tk_5 31 76 #[o_5,o_5,o_5,o_5,o_5,o_5,o_5,o_5,o_5,o_5,o_5,o_5,o_5,o_5,o_5,o_5,o_5,o_5,o_5,o_5,o_5,o_5,o_5,o_5,o_5,o_5,o_5,o_5,o_5,o_5,o_5,o_5,o_5,x_5,x_5,x_5,x_5] HT_ HW_ hHeld rfl rfl (by kernel_rfl) ?_ (by rintro w' ⟨s0, s1, s2, s3, s4, s5, s6⟩; go_simp; with_reducible rfl)
                       refine tk_5 33 78 #[o_5,o_5,o_5,o_5,o_5,o_5,o_5,o_5,o_5,o_5,o_5,o_5,o_5,o_5,o_5,o_5,o_5,o_5,o_5,o_5,o_5,o_5,o_5,o_5,o_5,o_5,o_5,o_5,o_5,o_5,o_5,o_5,o_5,o_5,x_5,x_5,x_5] HT_ HW_ hHeld rfl rfl (by kernel_rfl) ?_ (by rintro w' ⟨s0, s1, s2, s3, s4, s5, s6⟩; go_simp; with_reducible rfl)
                       refine pu_5 34 79 #[o_5,o_5,o_5,o_5,o_5,o_5,o_5,o_5,o_5,o_5,o_5,o_5,o_5,o_5,o_5,o_5,o_5,o_5,o_5,o_5,o_5,o_5,o_5,o_5,o_5,o_5,o_5,o_5,o_5,o_5,o_5,o_5,o_5,o_5,o_5,x_5,x_5] HT_ rfl rfl (by kernel_rfl) ?_
                       refine pu_5 35 80 #[o_5,o_5,o_5,o_5,o_5,o_5,o_5,o_5,o_5,o_5,o_5,o_5,o_5,o_5,o_5,o_5,o_5,o_5,o_5,o_5,o_5,o_5,o_5,o_5,o_5,o_5,o_5,o_5,o_5,o_5,o_5,o_5,o_5,o_5,o_5,o_5,x_5] HT_ rfl rfl (by kernel_rfl) ?_
                       refine pu_5 36 81 #[o_5,o_5,o_5,o_5,o_5,o_5,o_5,o_5,o_5,o_5,o_5,o_5,o_5,o_5,o_5,o_5,o_5,o_5,o_5,o_5,o_5,o_5,o_5,o_5,o_5,o_5,o_5,o_5,o_5,o_5,o_5,o_5,o_5,o_5,o_5,o_5,o_5] HT_ rfl rfl (by kernel_rfl) ?_
                       refine done_ (done_of HT_.out (by kernel_rfl)) ?_
                       try go_wp2
                       go_roundg k3
                       case measure => have := HJ1.out; have := HK2.out; have := HK3.out; omega
                       case rel => exact ⟨(wrap64 (x40_3 + 1)), (by first | rfl | (simp; done) | (simp [*]; done)), H', ⟨by have := HJ1.out; have := HK2.out; have := HK3.out; omega⟩, ⟨by (with_reducible repeat (first | refine blk_drewN ?_ _ | refine blk_drew ?_ | refine blk_alloc ?_ _)); exact BK191.out⟩, ⟨by repeat (first | (with_reducible first | exact HB.out | apply below_alloc | apply pw_below_drewN | apply below_drew1 | refine below_set ?_ GE191.out | refine below_set ?_ GE195.out) | exact HB.out)⟩⟩
                     ·
                      rw [if_neg c28] at H
                      exact absurd H (by simp)
                    ·
                     rw [if_neg c27] at H
                     exact absurd H (by simp)
                   ·
                    rw [if_neg c25] at H
                    have c25b0 : decide (0 < x40_3) = false := decide_eq_false c25
                    clear c25
                    have H' := Aside0.mk H
                    clear H
                    have p194 : 0 ≤ (x40_3 : Int) := of_decide_eq_true (by first | (with_reducible assumption) | assumption)
                    have q194 : x40_3 < ((rd_L4 l0_1 x29_2).length : Int) := of_decide_eq_true (by first | (with_reducible assumption) | assumption)
                    obtain ⟨ad194, e194, hx194_0, hx194_1⟩ := at_T91 HR193_0.out x40_3 p194 q194
                    cases e194
                    replace hx194_0 := (HB.out.cell (World.block_lt_of_cell? w _ hx194_0)).trans hx194_0
                    replace hx194_1 := (HB.out.cell (World.block_lt_of_cell? w _ hx194_1)).trans hx194_1
                    replace p194 := eq_true p194
                    replace q194 := eq_true q194
                    try go_wp2_with (first | ((with_reducible refine gate_dst (N := 7) rfl ?_); (try (refine gate_guard (by rfl) ?_; dsimp only)); refine box_event ?hg (N := 7) ?hd (cs := #[.int .i64 0, .int .i64 0]) (t := 91) ?hr ?_; (case hd => rfl); (case hg => rfl); (case hr => first | (go_simp; done) | (go_simp; rfl)); intro gb195 hg w40 hbox hb; have n0_ := Aside0.mk (blk_below (up_5 BK191.out) hb); have n1_ := Aside0.mk (below_step (by repeat (first | (with_reducible first | exact HB.out | apply below_alloc | apply pw_below_drewN | apply below_drew1 | refine below_set ?_ GE191.out) | exact HB.out)) hb); have n2_ := Aside0.mk (hbox); have n3_ := Aside0.mk ((by rw [hg]; exact (below_size (by repeat (first | (with_reducible first | exact HB.out | apply below_alloc | apply pw_below_drewN | apply below_drew1 | refine below_set ?_ GE191.out) | exact HB.out))) : w.heap.size ≤ gb195)); have n4_ := Aside0.mk ((by rw [hg]; exact (below_size (by repeat (first | (with_reducible first | exact HB.out | apply below_alloc | apply pw_below_drewN | apply below_drew1 | refine below_set ?_ GE191.out) | exact HB.out))) : w.heap.size ≤ gb195)); have n5_ := Aside0.mk ((by rw [hg]; exact Nat.ne_of_lt (blk_lt (up_5 BK191.out)) : gb191 ≠ gb195)); have n6_ := Aside0.mk ((by rw [hg]; exact Nat.ne_of_gt (blk_lt (up_5 BK191.out)) : gb195 ≠ gb191)); clear BK191; clear HB; have BK191 := n0_; have HB := n1_; have BK195 := n2_; have GW195 := n3_; have GE195 := n4_; have NB191_195 := n5_; have NB195_191 := n6_; clear n0_ n1_ n2_ n3_ n4_ n5_ n6_; clear hb hbox hg; have hnb41 := NB195_191.out; have hnc41 := NB191_195.out; have hcz42_0 : w40.cell? ⟨gb195, 0, none⟩ = some (.int .i64 0) := (blk_cell BK195.out 0).trans rfl; have hcz42_1 : w40.cell? ⟨gb195, 1, none⟩ = some (.int .i64 0) := (blk_cell BK195.out 1).trans rfl; have hfz42_0 := blk_frozen BK195.out 0; have hfz42_1 := blk_frozen BK195.out 1))
                    have n0_ : Aside0 (((w40.setCell ⟨gb195, 0, none⟩ (.int .i64 ((rd_T91 (rd_L4 l0_1 x29_2) x40_3).f0))).setCell ⟨gb195, 1, none⟩ (.int .i64 ((rd_T91 (rd_L4 l0_1 x29_2) x40_3).f1))).heap[gb191]? = some (.cells #[.int .i64 a0_0, .slice (some ad193) l0_1.length c0_1, .slice A0_2 l0_2.length c0_2] 45 (0, 0))) := ⟨by (with_reducible repeat (first | refine blk_drewN ?_ _ | refine blk_drew ?_ | refine blk_alloc ?_ _)); refine blk_far ?_ NB191_195.out _; (with_reducible repeat (first | refine blk_drewN ?_ _ | refine blk_drew ?_ | refine blk_alloc ?_ _)); refine blk_far ?_ NB191_195.out _; (with_reducible repeat (first | refine blk_drewN ?_ _ | refine blk_drew ?_ | refine blk_alloc ?_ _)); exact BK191.out⟩
                    have n1_ : Aside0 (((w40.setCell ⟨gb195, 0, none⟩ (.int .i64 ((rd_T91 (rd_L4 l0_1 x29_2) x40_3).f0))).setCell ⟨gb195, 1, none⟩ (.int .i64 ((rd_T91 (rd_L4 l0_1 x29_2) x40_3).f1))).heap[gb195]? = some (.cells #[.int .i64 ((rd_T91 (rd_L4 l0_1 x29_2) x40_3).f0), .int .i64 ((rd_T91 (rd_L4 l0_1 x29_2) x40_3).f1)] 91 (0, 0))) := ⟨by (with_reducible repeat (first | refine blk_drewN ?_ _ | refine blk_drew ?_ | refine blk_alloc ?_ _)); refine blk_put (cs := #[.int .i64 ((rd_T91 (rd_L4 l0_1 x29_2) x40_3).f0), .int .i64 0]) ?_ 1 _ rfl; (with_reducible repeat (first | refine blk_drewN ?_ _ | refine blk_drew ?_ | refine blk_alloc ?_ _)); refine blk_put (cs := #[.int .i64 0, .int .i64 0]) ?_ 0 _ rfl; (with_reducible repeat (first | refine blk_drewN ?_ _ | refine blk_drew ?_ | refine blk_alloc ?_ _)); exact BK195.out⟩
                    have n2_ : Aside0 (Below w.heap.size w ((w40.setCell ⟨gb195, 0, none⟩ (.int .i64 ((rd_T91 (rd_L4 l0_1 x29_2) x40_3).f0))).setCell ⟨gb195, 1, none⟩ (.int .i64 ((rd_T91 (rd_L4 l0_1 x29_2) x40_3).f1)))) := ⟨by repeat (first | (with_reducible first | exact HB.out | apply below_alloc | apply pw_below_drewN | apply below_drew1 | refine below_set ?_ GE191.out | refine below_set ?_ GE195.out) | exact HB.out)⟩
                    (try clear BK191)
                    (try clear BK195)
                    (try clear HB)
                    generalize ((w40.setCell ⟨gb195, 0, none⟩ (.int .i64 ((rd_T91 (rd_L4 l0_1 x29_2) x40_3).f0))).setCell ⟨gb195, 1, none⟩ (.int .i64 ((rd_T91 (rd_L4 l0_1 x29_2) x40_3).f1))) = w43 at n0_ n1_ n2_ ⊢
                    have BK191 := n0_
                    have BK195 := n1_
                    have HB := n2_
                    clear n0_ n1_ n2_
                    have n0_ := Aside0.mk (blk_drew BK191.out)
                    have n1_ := Aside0.mk (blk_drew BK195.out)
                    have n2_ := Aside0.mk (below_drew1 HB.out)
                    clear BK191
                    clear BK195
                    clear HB
                    have BK191 := n0_
                    have BK195 := n1_
                    have HB := n2_
                    clear n0_ n1_ n2_
                    refine start_ (n := 37) (S := fun w' => w'.cell? ⟨gb195, 0, none⟩ = some (.int .i64 ((rd_T91 (rd_L4 l0_1 x29_2) x40_3).f0)) ∧ w'.cell? ⟨gb195, 1, none⟩ = some (.int .i64 ((rd_T91 (rd_L4 l0_1 x29_2) x40_3).f1)) ∧ w'.cell? ⟨gb191, 0, none⟩ = some (.int .i64 a0_0) ∧ w'.cell? ⟨gb191, 1, none⟩ = some (.slice (some ad193) l0_1.length c0_1) ∧ w'.cell? ⟨gb191, 2, none⟩ = some (.slice A0_2 l0_2.length c0_2)) (ds := []) #[false, false, false, false, false, false, false, false, false, false, false, false, false, false, false, false, false, false, false, false, false, false, false, false, false, false, false, false, false, false, false, false, false, false, false, false, false] (by kernel_rfl) rfl rfl ⟨(blk_cell BK195.out 0).trans rfl, (blk_cell BK195.out 1).trans rfl, (blk_cell BK191.out 0).trans rfl, (blk_cell BK191.out 1).trans rfl, (blk_cell BK191.out 2).trans rfl⟩ (fun hHeld => ?_); refine with_tabW impl_WheelRight.tab11 impl_WheelRight.bits11 (fun HT_ HW_ => ?_)
                    generalize w43.drew = w44 at BK191 BK195 HB hHeld ⊢
                    refine pu_5 0 45 #[o_5,x_5,x_5,x_5,x_5,x_5,x_5,x_5,x_5,x_5,x_5,x_5,x_5,x_5,x_5,x_5,x_5,x_5,x_5,x_5,x_5,x_5,x_5,x_5,x_5,x_5,x_5,x_5,x_5,x_5,x_5,x_5,x_5,x_5,x_5,x_5,x_5] HT_ rfl rfl (by kernel_rfl) ?_
                    refine pu_5 2 47 #[o_5,x_5,o_5,x_5,x_5,x_5,x_5,x_5,x_5,x_5,x_5,x_5,x_5,x_5,x_5,x_5,x_5,x_5,x_5,x_5,x_5,x_5,x_5,x_5,x_5,x_5,x_5,x_5,x_5,x_5,x_5,x_5,x_5,x_5,x_5,x_5,x_5] HT_ rfl rfl (by kernel_rfl) ?_
                    refine pu_5 5 50 #[o_5,x_5,o_5,x_5,x_5,o_5,x_5,x_5,x_5,x_5,x_5,x_5,x_5,x_5,x_5,x_5,x_5,x_5,x_5,x_5,x_5,x_5,x_5,x_5,x_5,x_5,x_5,x_5,x_5,x_5,x_5,x_5,x_5,x_5,x_5,x_5,x_5] HT_ rfl rfl (by kernel_rfl) ?_
                    refine tk_5 1 46 #[o_5,o_5,o_5,x_5,x_5,o_5,x_5,x_5,x_5,x_5,x_5,x_5,x_5,x_5,x_5,x_5,x_5,x_5,x_5,x_5,x_5,x_5,x_5,x_5,x_5,x_5,x_5,x_5,x_5,x_5,x_5,x_5,x_5,x_5,x_5,x_5,x_5] HT_ HW_ hHeld rfl rfl (by kernel_rfl) ?_ (by rintro w' ⟨s0, s1, s2, s3, s4⟩; go_simp; with_reducible rfl)
                    refine tk_5 3 48 #[o_5,o_5,o_5,o_5,x_5,o_5,x_5,x_5,x_5,x_5,x_5,x_5,x_5,x_5,x_5,x_5,x_5,x_5,x_5,x_5,x_5,x_5,x_5,x_5,x_5,x_5,x_5,x_5,x_5,x_5,x_5,x_5,x_5,x_5,x_5,x_5,x_5] HT_ HW_ hHeld rfl rfl (by kernel_rfl) ?_ (by rintro w' ⟨s0, s1, s2, s3, s4⟩; go_simp; with_reducible rfl)
                    refine pu_5 4 49 #[o_5,o_5,o_5,o_5,o_5,o_5,x_5,x_5,x_5,x_5,x_5,x_5,x_5,x_5,x_5,x_5,x_5,x_5,x_5,x_5,x_5,x_5,x_5,x_5,x_5,x_5,x_5,x_5,x_5,x_5,x_5,x_5,x_5,x_5,x_5,x_5,x_5] HT_ rfl rfl (by kernel_rfl) ?_
                    refine tk_5 6 51 #[o_5,o_5,o_5,o_5,o_5,o_5,o_5,x_5,x_5,x_5,x_5,x_5,x_5,x_5,x_5,x_5,x_5,x_5,x_5,x_5,x_5,x_5,x_5,x_5,x_5,x_5,x_5,x_5,x_5,x_5,x_5,x_5,x_5,x_5,x_5,x_5,x_5] HT_ HW_ hHeld rfl rfl (by kernel_rfl) ?_ (by rintro w' ⟨s0, s1, s2, s3, s4⟩; go_simp; with_reducible rfl)
                    refine pu_5 7 52 #[o_5,o_5,o_5,o_5,o_5,o_5,o_5,o_5,x_5,x_5,x_5,x_5,x_5,x_5,x_5,x_5,x_5,x_5,x_5,x_5,x_5,x_5,x_5,x_5,x_5,x_5,x_5,x_5,x_5,x_5,x_5,x_5,x_5,x_5,x_5,x_5,x_5] HT_ rfl rfl (by kernel_rfl) ?_
                    refine one_ (i := 8) (N := some 53) #[o_5,o_5,o_5,o_5,o_5,o_5,o_5,o_5,o_5,x_5,x_5,x_5,x_5,x_5,x_5,x_5,x_5,x_5,x_5,x_5,x_5,x_5,x_5,x_5,x_5,x_5,x_5,x_5,x_5,x_5,x_5,x_5,x_5,x_5,x_5,x_5,x_5] rfl rfl (one_of HT_.out (by kernel_rfl)) (by decide) (fun K hK => ?_)
                    refine goes_ Try.func69 (by kernel_rfl) rfl #[.int .i64 ((rd_T91 (rd_L4 l0_1 x29_2) x40_3).f1), .int .i64 (wrap64 (a0_0 + 1)), .int .i64 (wrap64 (a0_0 + 16))] (by rfl) rfl rfl (by (try simp only [List.map_toArray, List.map_cons, List.map_nil]); first | done | rfl | (simp only [List.length_drop, List.length_take]; rfl)) ?_
                    with_reducible refine (impl_in.calls ((rd_T91 (rd_L4 l0_1 x29_2) x40_3).f1) (wrap64 (a0_0 + 1)) (wrap64 (a0_0 + 16)) true _ A16.out).mono ?_
                    rintro e w' ⟨rfl, ⟨nd, rfl⟩⟩
                    refine ⟨_, rfl, ?_⟩
                    refine hK.out _ _ ⟨(blk_cell BK195.out 0).trans rfl, (blk_cell BK195.out 1).trans rfl, (blk_cell BK191.out 0).trans rfl, (blk_cell BK191.out 1).trans rfl, (blk_cell BK191.out 2).trans rfl⟩ (fun hHeld => ?_)
                    clear hK K
                    refine norm_ (a' := ?_) ?_ ?_
                    rotate_left
                    ·
                     show Act.put _ (some 53) _ = _
                     simp only [Act.put, List.setIfInBounds_toArray, List.set_cons_zero, List.set_cons_succ, i64_w, i32_w]
                     rfl
                    refine pu_5 9 54 #[o_5,o_5,o_5,o_5,o_5,o_5,o_5,o_5,o_5,o_5,x_5,x_5,x_5,x_5,x_5,x_5,x_5,x_5,x_5,x_5,x_5,x_5,x_5,x_5,x_5,x_5,x_5,x_5,x_5,x_5,x_5,x_5,x_5,x_5,x_5,x_5,x_5] HT_ rfl rfl (by kernel_rfl) ?_
                    refine pu_5 10 55 #[o_5,o_5,o_5,o_5,o_5,o_5,o_5,o_5,o_5,o_5,o_5,x_5,x_5,x_5,x_5,x_5,x_5,x_5,x_5,x_5,x_5,x_5,x_5,x_5,x_5,x_5,x_5,x_5,x_5,x_5,x_5,x_5,x_5,x_5,x_5,x_5,x_5] HT_ rfl rfl (by kernel_rfl) ?_
                    refine pu_5 11 56 #[o_5,o_5,o_5,o_5,o_5,o_5,o_5,o_5,o_5,o_5,o_5,o_5,x_5,x_5,x_5,x_5,x_5,x_5,x_5,x_5,x_5,x_5,x_5,x_5,x_5,x_5,x_5,x_5,x_5,x_5,x_5,x_5,x_5,x_5,x_5,x_5,x_5] HT_ rfl rfl (by kernel_rfl) ?_
                    refine tk_5 12 57 #[o_5,o_5,o_5,o_5,o_5,o_5,o_5,o_5,o_5,o_5,o_5,o_5,o_5,x_5,x_5,x_5,x_5,x_5,x_5,x_5,x_5,x_5,x_5,x_5,x_5,x_5,x_5,x_5,x_5,x_5,x_5,x_5,x_5,x_5,x_5,x_5,x_5] HT_ HW_ hHeld rfl rfl (by kernel_rfl) ?_ (by rintro w' ⟨s0, s1, s2, s3, s4⟩; go_simp; with_reducible rfl)
                    refine pu_5 13 58 #[o_5,o_5,o_5,o_5,o_5,o_5,o_5,o_5,o_5,o_5,o_5,o_5,o_5,o_5,x_5,x_5,x_5,x_5,x_5,x_5,x_5,x_5,x_5,x_5,x_5,x_5,x_5,x_5,x_5,x_5,x_5,x_5,x_5,x_5,x_5,x_5,x_5] HT_ rfl rfl (by kernel_rfl) ?_
                    refine pu_5 14 59 #[o_5,o_5,o_5,o_5,o_5,o_5,o_5,o_5,o_5,o_5,o_5,o_5,o_5,o_5,o_5,x_5,x_5,x_5,x_5,x_5,x_5,x_5,x_5,x_5,x_5,x_5,x_5,x_5,x_5,x_5,x_5,x_5,x_5,x_5,x_5,x_5,x_5] HT_ rfl rfl (by kernel_rfl) ?_
                    refine pu_5 15 60 #[o_5,o_5,o_5,o_5,o_5,o_5,o_5,o_5,o_5,o_5,o_5,o_5,o_5,o_5,o_5,o_5,x_5,x_5,x_5,x_5,x_5,x_5,x_5,x_5,x_5,x_5,x_5,x_5,x_5,x_5,x_5,x_5,x_5,x_5,x_5,x_5,x_5] HT_ rfl rfl (by kernel_rfl) ?_
                    refine pu_5 16 61 #[o_5,o_5,o_5,o_5,o_5,o_5,o_5,o_5,o_5,o_5,o_5,o_5,o_5,o_5,o_5,o_5,o_5,x_5,x_5,x_5,x_5,x_5,x_5,x_5,x_5,x_5,x_5,x_5,x_5,x_5,x_5,x_5,x_5,x_5,x_5,x_5,x_5] HT_ rfl rfl (by kernel_rfl) ?_
                    refine pu_5 19 64 #[o_5,o_5,o_5,o_5,o_5,o_5,o_5,o_5,o_5,o_5,o_5,o_5,o_5,o_5,o_5,o_5,o_5,x_5,x_5,o_5,x_5,x_5,x_5,x_5,x_5,x_5,x_5,x_5,x_5,x_5,x_5,x_5,x_5,x_5,x_5,x_5,x_5] HT_ rfl rfl (by kernel_rfl) ?_
                    refine tk_5 17 62 #[o_5,o_5,o_5,o_5,o_5,o_5,o_5,o_5,o_5,o_5,o_5,o_5,o_5,o_5,o_5,o_5,o_5,o_5,x_5,o_5,x_5,x_5,x_5,x_5,x_5,x_5,x_5,x_5,x_5,x_5,x_5,x_5,x_5,x_5,x_5,x_5,x_5] HT_ HW_ hHeld rfl rfl (by kernel_rfl) ?_ (by rintro w' ⟨s0, s1, s2, s3, s4⟩; go_simp; with_reducible rfl)
                    refine pu_5 18 63 #[o_5,o_5,o_5,o_5,o_5,o_5,o_5,o_5,o_5,o_5,o_5,o_5,o_5,o_5,o_5,o_5,o_5,o_5,o_5,o_5,x_5,x_5,x_5,x_5,x_5,x_5,x_5,x_5,x_5,x_5,x_5,x_5,x_5,x_5,x_5,x_5,x_5] HT_ rfl rfl (by kernel_rfl) ?_
                    refine pu_5 20 65 #[o_5,o_5,o_5,o_5,o_5,o_5,o_5,o_5,o_5,o_5,o_5,o_5,o_5,o_5,o_5,o_5,o_5,o_5,o_5,o_5,o_5,x_5,x_5,x_5,x_5,x_5,x_5,x_5,x_5,x_5,x_5,x_5,x_5,x_5,x_5,x_5,x_5] HT_ rfl rfl (by kernel_rfl) ?_
                    refine pu_5 21 66 #[o_5,o_5,o_5,o_5,o_5,o_5,o_5,o_5,o_5,o_5,o_5,o_5,o_5,o_5,o_5,o_5,o_5,o_5,o_5,o_5,o_5,o_5,x_5,x_5,x_5,x_5,x_5,x_5,x_5,x_5,x_5,x_5,x_5,x_5,x_5,x_5,x_5] HT_ rfl rfl (by kernel_rfl) ?_
                    refine pu_5 22 67 #[o_5,o_5,o_5,o_5,o_5,o_5,o_5,o_5,o_5,o_5,o_5,o_5,o_5,o_5,o_5,o_5,o_5,o_5,o_5,o_5,o_5,o_5,o_5,x_5,x_5,x_5,x_5,x_5,x_5,x_5,x_5,x_5,x_5,x_5,x_5,x_5,x_5] HT_ rfl rfl (by kernel_rfl) ?_
                    refine pu_5 23 68 #[o_5,o_5,o_5,o_5,o_5,o_5,o_5,o_5,o_5,o_5,o_5,o_5,o_5,o_5,o_5,o_5,o_5,o_5,o_5,o_5,o_5,o_5,o_5,o_5,x_5,x_5,x_5,x_5,x_5,x_5,x_5,x_5,x_5,x_5,x_5,x_5,x_5] HT_ rfl rfl (by kernel_rfl) ?_
                    refine pu_5 24 69 #[o_5,o_5,o_5,o_5,o_5,o_5,o_5,o_5,o_5,o_5,o_5,o_5,o_5,o_5,o_5,o_5,o_5,o_5,o_5,o_5,o_5,o_5,o_5,o_5,o_5,x_5,x_5,x_5,x_5,x_5,x_5,x_5,x_5,x_5,x_5,x_5,x_5] HT_ rfl rfl (by kernel_rfl) ?_
                    refine pu_5 25 70 #[o_5,o_5,o_5,o_5,o_5,o_5,o_5,o_5,o_5,o_5,o_5,o_5,o_5,o_5,o_5,o_5,o_5,o_5,o_5,o_5,o_5,o_5,o_5,o_5,o_5,o_5,x_5,x_5,x_5,x_5,x_5,x_5,x_5,x_5,x_5,x_5,x_5] HT_ rfl rfl (by kernel_rfl) ?_
                    refine pn_5 26 71 #[o_5,o_5,o_5,o_5,o_5,o_5,o_5,o_5,o_5,o_5,o_5,o_5,o_5,o_5,o_5,o_5,o_5,o_5,o_5,o_5,o_5,o_5,o_5,o_5,o_5,o_5,o_5,x_5,x_5,x_5,x_5,x_5,x_5,x_5,x_5,x_5,x_5] HT_ rfl rfl (by kernel_rfl) ?_
                    refine pn_5 27 72 #[o_5,o_5,o_5,o_5,o_5,o_5,o_5,o_5,o_5,o_5,o_5,o_5,o_5,o_5,o_5,o_5,o_5,o_5,o_5,o_5,o_5,o_5,o_5,o_5,o_5,o_5,o_5,o_5,x_5,x_5,x_5,x_5,x_5,x_5,x_5,x_5,x_5] HT_ rfl rfl (by kernel_rfl) ?_
                    refine pn_5 28 73 #[o_5,o_5,o_5,o_5,o_5,o_5,o_5,o_5,o_5,o_5,o_5,o_5,o_5,o_5,o_5,o_5,o_5,o_5,o_5,o_5,o_5,o_5,o_5,o_5,o_5,o_5,o_5,o_5,o_5,x_5,x_5,x_5,x_5,x_5,x_5,x_5,x_5] HT_ rfl rfl (by kernel_rfl) ?_
                    refine pn_5 29 74 #[o_5,o_5,o_5,o_5,o_5,o_5,o_5,o_5,o_5,o_5,o_5,o_5,o_5,o_5,o_5,o_5,o_5,o_5,o_5,o_5,o_5,o_5,o_5,o_5,o_5,o_5,o_5,o_5,o_5,o_5,x_5,x_5,x_5,x_5,x_5,x_5,x_5] HT_ rfl rfl (by kernel_rfl) ?_
                    refine pn_5 30 75 #[o_5,o_5,o_5,o_5,o_5,o_5,o_5,o_5,o_5,o_5,o_5,o_5,o_5,o_5,o_5,o_5,o_5,o_5,o_5,o_5,o_5,o_5,o_5,o_5,o_5,o_5,o_5,o_5,o_5,o_5,o_5,x_5,x_5,x_5,x_5,x_5,x_5] HT_ rfl rfl (by kernel_rfl) ?_
                    refine pn_5 31 76 #[o_5,o_5,o_5,o_5,o_5,o_5,o_5,o_5,o_5,o_5,o_5,o_5,o_5,o_5,o_5,o_5,o_5,o_5,o_5,o_5,o_5,o_5,o_5,o_5,o_5,o_5,o_5,o_5,o_5,o_5,o_5,o_5,x_5,x_5,x_5,x_5,x_5] HT_ rfl rfl (by kernel_rfl) ?_
                    refine pn_5 32 77 #[o_5,o_5,o_5,o_5,o_5,o_5,o_5,o_5,o_5,o_5,o_5,o_5,o_5,o_5,o_5,o_5,o_5,o_5,o_5,o_5,o_5,o_5,o_5,o_5,o_5,o_5,o_5,o_5,o_5,o_5,o_5,o_5,o_5,x_5,x_5,x_5,x_5] HT_ rfl rfl (by kernel_rfl) ?_
                    refine pn_5 33 78 #[o_5,o_5,o_5,o_5,o_5,o_5,o_5,o_5,o_5,o_5,o_5,o_5,o_5,o_5,o_5,o_5,o_5,o_5,o_5,o_5,o_5,o_5,o_5,o_5,o_5,o_5,o_5,o_5,o_5,o_5,o_5,o_5,o_5,o_5,x_5,x_5,x_5] HT_ rfl rfl (by kernel_rfl) ?_
                    refine pn_5 34 79 #[o_5,o_5,o_5,o_5,o_5,o_5,o_5,o_5,o_5,o_5,o_5,o_5,o_5,o_5,o_5,o_5,o_5,o_5,o_5,o_5,o_5,o_5,o_5,o_5,o_5,o_5,o_5,o_5,o_5,o_5,o_5,o_5,o_5,o_5,o_5,x_5,x_5] HT_ rfl rfl (by kernel_rfl) ?_
                    refine pu_5 35 80 #[o_5,o_5,o_5,o_5,o_5,o_5,o_5,o_5,o_5,o_5,o_5,o_5,o_5,o_5,o_5,o_5,o_5,o_5,o_5,o_5,o_5,o_5,o_5,o_5,o_5,o_5,o_5,o_5,o_5,o_5,o_5,o_5,o_5,o_5,o_5,o_5,x_5] HT_ rfl rfl (by kernel_rfl) ?_
                    refine pu_5 36 81 #[o_5,o_5,o_5,o_5,o_5,o_5,o_5,o_5,o_5,o_5,o_5,o_5,o_5,o_5,o_5,o_5,o_5,o_5,o_5,o_5,o_5,o_5,o_5,o_5,o_5,o_5,o_5,o_5,o_5,o_5,o_5,o_5,o_5,o_5,o_5,o_5,o_5] HT_ rfl rfl (by kernel_rfl) ?_
                    refine done_ (done_of HT_.out (by kernel_rfl)) ?_
                    try go_wp2
                    go_roundg k3
                    case measure => have := HJ1.out; have := HK2.out; have := HK3.out; omega
                    case rel => exact ⟨(wrap64 (x40_3 + 1)), (by first | rfl | (simp; done) | (simp [*]; done)), H', ⟨by have := HJ1.out; have := HK2.out; have := HK3.out; omega⟩, ⟨by (with_reducible repeat (first | refine blk_drewN ?_ _ | refine blk_drew ?_ | refine blk_alloc ?_ _)); exact BK191.out⟩, ⟨by repeat (first | (with_reducible first | exact HB.out | apply below_alloc | apply pw_below_drewN | apply below_drew1 | refine below_set ?_ GE191.out | refine below_set ?_ GE195.out) | exact HB.out)⟩⟩
                  ·
                   rw [if_neg c24] at H
                   have c24b0 : ((Int.tmod ((rd_T91 (rd_L4 l0_1 x29_2) x40_3).f1) 16) == x29_2) = false := beq_eq_false_iff_ne.mpr c24
                   have c24b1 : ((Int.tmod ((rd_T91 (rd_L4 l0_1 x29_2) x40_3).f1) 16) != x29_2) = true := bne_iff_ne.mpr c24
                   obtain rfl := Option.some.inj H
                   have p194 : 0 ≤ (x40_3 : Int) := of_decide_eq_true (by first | (with_reducible assumption) | assumption)
                   have q194 : x40_3 < ((rd_L4 l0_1 x29_2).length : Int) := of_decide_eq_true (by first | (with_reducible assumption) | assumption)
                   obtain ⟨ad194, e194, hx194_0, hx194_1⟩ := at_T91 HR193_0.out x40_3 p194 q194
                   cases e194
                   replace hx194_0 := (HB.out.cell (World.block_lt_of_cell? w _ hx194_0)).trans hx194_0
                   replace hx194_1 := (HB.out.cell (World.block_lt_of_cell? w _ hx194_1)).trans hx194_1
                   replace p194 := eq_true p194
                   replace q194 := eq_true q194
                   try go_wp2_with (first | ((with_reducible refine gate_dst (N := 7) rfl ?_); (try (refine gate_guard (by rfl) ?_; dsimp only)); refine box_event ?hg (N := 7) ?hd (cs := #[.int .i64 0, .int .i64 0]) (t := 91) ?hr ?_; (case hd => rfl); (case hg => rfl); (case hr => first | (go_simp; done) | (go_simp; rfl)); intro gb195 hg w45 hbox hb; have n0_ := Aside0.mk (blk_below (up_5 BK191.out) hb); have n1_ := Aside0.mk (below_step (by repeat (first | (with_reducible first | exact HB.out | apply below_alloc | apply pw_below_drewN | apply below_drew1 | refine below_set ?_ GE191.out) | exact HB.out)) hb); have n2_ := Aside0.mk (hbox); have n3_ := Aside0.mk ((by rw [hg]; exact (below_size (by repeat (first | (with_reducible first | exact HB.out | apply below_alloc | apply pw_below_drewN | apply below_drew1 | refine below_set ?_ GE191.out) | exact HB.out))) : w.heap.size ≤ gb195)); have n4_ := Aside0.mk ((by rw [hg]; exact (below_size (by repeat (first | (with_reducible first | exact HB.out | apply below_alloc | apply pw_below_drewN | apply below_drew1 | refine below_set ?_ GE191.out) | exact HB.out))) : w.heap.size ≤ gb195)); have n5_ := Aside0.mk ((by rw [hg]; exact Nat.ne_of_lt (blk_lt (up_5 BK191.out)) : gb191 ≠ gb195)); have n6_ := Aside0.mk ((by rw [hg]; exact Nat.ne_of_gt (blk_lt (up_5 BK191.out)) : gb195 ≠ gb191)); clear BK191; clear HB; have BK191 := n0_; have HB := n1_; have BK195 := n2_; have GW195 := n3_; have GE195 := n4_; have NB191_195 := n5_; have NB195_191 := n6_; clear n0_ n1_ n2_ n3_ n4_ n5_ n6_; clear hb hbox hg; have hnb46 := NB195_191.out; have hnc46 := NB191_195.out; have hcz47_0 : w45.cell? ⟨gb195, 0, none⟩ = some (.int .i64 0) := (blk_cell BK195.out 0).trans rfl; have hcz47_1 : w45.cell? ⟨gb195, 1, none⟩ = some (.int .i64 0) := (blk_cell BK195.out 1).trans rfl; have hfz47_0 := blk_frozen BK195.out 0; have hfz47_1 := blk_frozen BK195.out 1))
                   have n0_ : Aside0 (((w45.setCell ⟨gb195, 0, none⟩ (.int .i64 ((rd_T91 (rd_L4 l0_1 x29_2) x40_3).f0))).setCell ⟨gb195, 1, none⟩ (.int .i64 ((rd_T91 (rd_L4 l0_1 x29_2) x40_3).f1))).heap[gb191]? = some (.cells #[.int .i64 a0_0, .slice (some ad193) l0_1.length c0_1, .slice A0_2 l0_2.length c0_2] 45 (0, 0))) := ⟨by (with_reducible repeat (first | refine blk_drewN ?_ _ | refine blk_drew ?_ | refine blk_alloc ?_ _)); refine blk_far ?_ NB191_195.out _; (with_reducible repeat (first | refine blk_drewN ?_ _ | refine blk_drew ?_ | refine blk_alloc ?_ _)); refine blk_far ?_ NB191_195.out _; (with_reducible repeat (first | refine blk_drewN ?_ _ | refine blk_drew ?_ | refine blk_alloc ?_ _)); exact BK191.out⟩
                   have n1_ : Aside0 (((w45.setCell ⟨gb195, 0, none⟩ (.int .i64 ((rd_T91 (rd_L4 l0_1 x29_2) x40_3).f0))).setCell ⟨gb195, 1, none⟩ (.int .i64 ((rd_T91 (rd_L4 l0_1 x29_2) x40_3).f1))).heap[gb195]? = some (.cells #[.int .i64 ((rd_T91 (rd_L4 l0_1 x29_2) x40_3).f0), .int .i64 ((rd_T91 (rd_L4 l0_1 x29_2) x40_3).f1)] 91 (0, 0))) := ⟨by (with_reducible repeat (first | refine blk_drewN ?_ _ | refine blk_drew ?_ | refine blk_alloc ?_ _)); refine blk_put (cs := #[.int .i64 ((rd_T91 (rd_L4 l0_1 x29_2) x40_3).f0), .int .i64 0]) ?_ 1 _ rfl; (with_reducible repeat (first | refine blk_drewN ?_ _ | refine blk_drew ?_ | refine blk_alloc ?_ _)); refine blk_put (cs := #[.int .i64 0, .int .i64 0]) ?_ 0 _ rfl; (with_reducible repeat (first | refine blk_drewN ?_ _ | refine blk_drew ?_ | refine blk_alloc ?_ _)); exact BK195.out⟩
                   have n2_ : Aside0 (Below w.heap.size w ((w45.setCell ⟨gb195, 0, none⟩ (.int .i64 ((rd_T91 (rd_L4 l0_1 x29_2) x40_3).f0))).setCell ⟨gb195, 1, none⟩ (.int .i64 ((rd_T91 (rd_L4 l0_1 x29_2) x40_3).f1)))) := ⟨by repeat (first | (with_reducible first | exact HB.out | apply below_alloc | apply pw_below_drewN | apply below_drew1 | refine below_set ?_ GE191.out | refine below_set ?_ GE195.out) | exact HB.out)⟩
                   (try clear BK191)
                   (try clear BK195)
                   (try clear HB)
                   generalize ((w45.setCell ⟨gb195, 0, none⟩ (.int .i64 ((rd_T91 (rd_L4 l0_1 x29_2) x40_3).f0))).setCell ⟨gb195, 1, none⟩ (.int .i64 ((rd_T91 (rd_L4 l0_1 x29_2) x40_3).f1))) = w48 at n0_ n1_ n2_ ⊢
                   have BK191 := n0_
                   have BK195 := n1_
                   have HB := n2_
                   clear n0_ n1_ n2_
                   have n0_ := Aside0.mk (blk_drew BK191.out)
                   have n1_ := Aside0.mk (blk_drew BK195.out)
                   have n2_ := Aside0.mk (below_drew1 HB.out)
                   clear BK191
                   clear BK195
                   clear HB
                   have BK191 := n0_
                   have BK195 := n1_
                   have HB := n2_
                   clear n0_ n1_ n2_
                   refine start_ (n := 37) (S := fun w' => w'.cell? ⟨gb195, 0, none⟩ = some (.int .i64 ((rd_T91 (rd_L4 l0_1 x29_2) x40_3).f0)) ∧ w'.cell? ⟨gb195, 1, none⟩ = some (.int .i64 ((rd_T91 (rd_L4 l0_1 x29_2) x40_3).f1)) ∧ w'.cell? ⟨gb191, 0, none⟩ = some (.int .i64 a0_0) ∧ w'.cell? ⟨gb191, 1, none⟩ = some (.slice (some ad193) l0_1.length c0_1) ∧ w'.cell? ⟨gb191, 2, none⟩ = some (.slice A0_2 l0_2.length c0_2)) (ds := []) #[false, false, false, false, false, false, false, false, false, false, false, false, false, false, false, false, false, false, false, false, false, false, false, false, false, false, false, false, false, false, false, false, false, false, false, false, false] (by kernel_rfl) rfl rfl ⟨(blk_cell BK195.out 0).trans rfl, (blk_cell BK195.out 1).trans rfl, (blk_cell BK191.out 0).trans rfl, (blk_cell BK191.out 1).trans rfl, (blk_cell BK191.out 2).trans rfl⟩ (fun hHeld => ?_); refine with_tabW impl_WheelRight.tab11 impl_WheelRight.bits11 (fun HT_ HW_ => ?_)
                   generalize w48.drew = w49 at BK191 BK195 HB hHeld ⊢
                   refine pu_5 0 45 #[o_5,x_5,x_5,x_5,x_5,x_5,x_5,x_5,x_5,x_5,x_5,x_5,x_5,x_5,x_5,x_5,x_5,x_5,x_5,x_5,x_5,x_5,x_5,x_5,x_5,x_5,x_5,x_5,x_5,x_5,x_5,x_5,x_5,x_5,x_5,x_5,x_5] HT_ rfl rfl (by kernel_rfl) ?_
                   refine pu_5 2 47 #[o_5,x_5,o_5,x_5,x_5,x_5,x_5,x_5,x_5,x_5,x_5,x_5,x_5,x_5,x_5,x_5,x_5,x_5,x_5,x_5,x_5,x_5,x_5,x_5,x_5,x_5,x_5,x_5,x_5,x_5,x_5,x_5,x_5,x_5,x_5,x_5,x_5] HT_ rfl rfl (by kernel_rfl) ?_
                   refine pu_5 5 50 #[o_5,x_5,o_5,x_5,x_5,o_5,x_5,x_5,x_5,x_5,x_5,x_5,x_5,x_5,x_5,x_5,x_5,x_5,x_5,x_5,x_5,x_5,x_5,x_5,x_5,x_5,x_5,x_5,x_5,x_5,x_5,x_5,x_5,x_5,x_5,x_5,x_5] HT_ rfl rfl (by kernel_rfl) ?_
                   refine tk_5 1 46 #[o_5,o_5,o_5,x_5,x_5,o_5,x_5,x_5,x_5,x_5,x_5,x_5,x_5,x_5,x_5,x_5,x_5,x_5,x_5,x_5,x_5,x_5,x_5,x_5,x_5,x_5,x_5,x_5,x_5,x_5,x_5,x_5,x_5,x_5,x_5,x_5,x_5] HT_ HW_ hHeld rfl rfl (by kernel_rfl) ?_ (by rintro w' ⟨s0, s1, s2, s3, s4⟩; go_simp; with_reducible rfl)
                   refine tk_5 3 48 #[o_5,o_5,o_5,o_5,x_5,o_5,x_5,x_5,x_5,x_5,x_5,x_5,x_5,x_5,x_5,x_5,x_5,x_5,x_5,x_5,x_5,x_5,x_5,x_5,x_5,x_5,x_5,x_5,x_5,x_5,x_5,x_5,x_5,x_5,x_5,x_5,x_5] HT_ HW_ hHeld rfl rfl (by kernel_rfl) ?_ (by rintro w' ⟨s0, s1, s2, s3, s4⟩; go_simp; with_reducible rfl)
                   refine pu_5 4 49 #[o_5,o_5,o_5,o_5,o_5,o_5,x_5,x_5,x_5,x_5,x_5,x_5,x_5,x_5,x_5,x_5,x_5,x_5,x_5,x_5,x_5,x_5,x_5,x_5,x_5,x_5,x_5,x_5,x_5,x_5,x_5,x_5,x_5,x_5,x_5,x_5,x_5] HT_ rfl rfl (by kernel_rfl) ?_
                   refine tk_5 6 51 #[o_5,o_5,o_5,o_5,o_5,o_5,o_5,x_5,x_5,x_5,x_5,x_5,x_5,x_5,x_5,x_5,x_5,x_5,x_5,x_5,x_5,x_5,x_5,x_5,x_5,x_5,x_5,x_5,x_5,x_5,x_5,x_5,x_5,x_5,x_5,x_5,x_5] HT_ HW_ hHeld rfl rfl (by kernel_rfl) ?_ (by rintro w' ⟨s0, s1, s2, s3, s4⟩; go_simp; with_reducible rfl)
                   refine pu_5 7 52 #[o_5,o_5,o_5,o_5,o_5,o_5,o_5,o_5,x_5,x_5,x_5,x_5,x_5,x_5,x_5,x_5,x_5,x_5,x_5,x_5,x_5,x_5,x_5,x_5,x_5,x_5,x_5,x_5,x_5,x_5,x_5,x_5,x_5,x_5,x_5,x_5,x_5] HT_ rfl rfl (by kernel_rfl) ?_
                   refine one_ (i := 8) (N := some 53) #[o_5,o_5,o_5,o_5,o_5,o_5,o_5,o_5,o_5,x_5,x_5,x_5,x_5,x_5,x_5,x_5,x_5,x_5,x_5,x_5,x_5,x_5,x_5,x_5,x_5,x_5,x_5,x_5,x_5,x_5,x_5,x_5,x_5,x_5,x_5,x_5,x_5] rfl rfl (one_of HT_.out (by kernel_rfl)) (by decide) (fun K hK => ?_)
                   refine goes_ Try.func69 (by kernel_rfl) rfl #[.int .i64 ((rd_T91 (rd_L4 l0_1 x29_2) x40_3).f1), .int .i64 (wrap64 (a0_0 + 1)), .int .i64 (wrap64 (a0_0 + 16))] (by rfl) rfl rfl (by (try simp only [List.map_toArray, List.map_cons, List.map_nil]); first | done | rfl | (simp only [List.length_drop, List.length_take]; rfl)) ?_
                   with_reducible refine (impl_in.calls ((rd_T91 (rd_L4 l0_1 x29_2) x40_3).f1) (wrap64 (a0_0 + 1)) (wrap64 (a0_0 + 16)) true _ A16.out).mono ?_
                   rintro e w' ⟨rfl, ⟨nd, rfl⟩⟩
                   refine ⟨_, rfl, ?_⟩
                   refine hK.out _ _ ⟨(blk_cell BK195.out 0).trans rfl, (blk_cell BK195.out 1).trans rfl, (blk_cell BK191.out 0).trans rfl, (blk_cell BK191.out 1).trans rfl, (blk_cell BK191.out 2).trans rfl⟩ (fun hHeld => ?_)
                   clear hK K
                   refine norm_ (a' := ?_) ?_ ?_
                   rotate_left
                   ·
                    show Act.put _ (some 53) _ = _
                    simp only [Act.put, List.setIfInBounds_toArray, List.set_cons_zero, List.set_cons_succ, i64_w, i32_w]
                    rfl
                   refine pu_5 9 54 #[o_5,o_5,o_5,o_5,o_5,o_5,o_5,o_5,o_5,o_5,x_5,x_5,x_5,x_5,x_5,x_5,x_5,x_5,x_5,x_5,x_5,x_5,x_5,x_5,x_5,x_5,x_5,x_5,x_5,x_5,x_5,x_5,x_5,x_5,x_5,x_5,x_5] HT_ rfl rfl (by kernel_rfl) ?_
                   refine pu_5 10 55 #[o_5,o_5,o_5,o_5,o_5,o_5,o_5,o_5,o_5,o_5,o_5,x_5,x_5,x_5,x_5,x_5,x_5,x_5,x_5,x_5,x_5,x_5,x_5,x_5,x_5,x_5,x_5,x_5,x_5,x_5,x_5,x_5,x_5,x_5,x_5,x_5,x_5] HT_ rfl rfl (by kernel_rfl) ?_
                   refine pu_5 11 56 #[o_5,o_5,o_5,o_5,o_5,o_5,o_5,o_5,o_5,o_5,o_5,o_5,x_5,x_5,x_5,x_5,x_5,x_5,x_5,x_5,x_5,x_5,x_5,x_5,x_5,x_5,x_5,x_5,x_5,x_5,x_5,x_5,x_5,x_5,x_5,x_5,x_5] HT_ rfl rfl (by kernel_rfl) ?_
                   refine tk_5 12 57 #[o_5,o_5,o_5,o_5,o_5,o_5,o_5,o_5,o_5,o_5,o_5,o_5,o_5,x_5,x_5,x_5,x_5,x_5,x_5,x_5,x_5,x_5,x_5,x_5,x_5,x_5,x_5,x_5,x_5,x_5,x_5,x_5,x_5,x_5,x_5,x_5,x_5] HT_ HW_ hHeld rfl rfl (by kernel_rfl) ?_ (by rintro w' ⟨s0, s1, s2, s3, s4⟩; go_simp; with_reducible rfl)
                   refine pu_5 13 58 #[o_5,o_5,o_5,o_5,o_5,o_5,o_5,o_5,o_5,o_5,o_5,o_5,o_5,o_5,x_5,x_5,x_5,x_5,x_5,x_5,x_5,x_5,x_5,x_5,x_5,x_5,x_5,x_5,x_5,x_5,x_5,x_5,x_5,x_5,x_5,x_5,x_5] HT_ rfl rfl (by kernel_rfl) ?_
                   refine pu_5 14 59 #[o_5,o_5,o_5,o_5,o_5,o_5,o_5,o_5,o_5,o_5,o_5,o_5,o_5,o_5,o_5,x_5,x_5,x_5,x_5,x_5,x_5,x_5,x_5,x_5,x_5,x_5,x_5,x_5,x_5,x_5,x_5,x_5,x_5,x_5,x_5,x_5,x_5] HT_ rfl rfl (by kernel_rfl) ?_
                   refine pu_5 15 60 #[o_5,o_5,o_5,o_5,o_5,o_5,o_5,o_5,o_5,o_5,o_5,o_5,o_5,o_5,o_5,o_5,x_5,x_5,x_5,x_5,x_5,x_5,x_5,x_5,x_5,x_5,x_5,x_5,x_5,x_5,x_5,x_5,x_5,x_5,x_5,x_5,x_5] HT_ rfl rfl (by kernel_rfl) ?_
                   refine pu_5 16 61 #[o_5,o_5,o_5,o_5,o_5,o_5,o_5,o_5,o_5,o_5,o_5,o_5,o_5,o_5,o_5,o_5,o_5,x_5,x_5,x_5,x_5,x_5,x_5,x_5,x_5,x_5,x_5,x_5,x_5,x_5,x_5,x_5,x_5,x_5,x_5,x_5,x_5] HT_ rfl rfl (by kernel_rfl) ?_
                   refine pu_5 19 64 #[o_5,o_5,o_5,o_5,o_5,o_5,o_5,o_5,o_5,o_5,o_5,o_5,o_5,o_5,o_5,o_5,o_5,x_5,x_5,o_5,x_5,x_5,x_5,x_5,x_5,x_5,x_5,x_5,x_5,x_5,x_5,x_5,x_5,x_5,x_5,x_5,x_5] HT_ rfl rfl (by kernel_rfl) ?_
                   refine tk_5 17 62 #[o_5,o_5,o_5,o_5,o_5,o_5,o_5,o_5,o_5,o_5,o_5,o_5,o_5,o_5,o_5,o_5,o_5,o_5,x_5,o_5,x_5,x_5,x_5,x_5,x_5,x_5,x_5,x_5,x_5,x_5,x_5,x_5,x_5,x_5,x_5,x_5,x_5] HT_ HW_ hHeld rfl rfl (by kernel_rfl) ?_ (by rintro w' ⟨s0, s1, s2, s3, s4⟩; go_simp; with_reducible rfl)
                   refine pu_5 18 63 #[o_5,o_5,o_5,o_5,o_5,o_5,o_5,o_5,o_5,o_5,o_5,o_5,o_5,o_5,o_5,o_5,o_5,o_5,o_5,o_5,x_5,x_5,x_5,x_5,x_5,x_5,x_5,x_5,x_5,x_5,x_5,x_5,x_5,x_5,x_5,x_5,x_5] HT_ rfl rfl (by kernel_rfl) ?_
                   refine pu_5 20 65 #[o_5,o_5,o_5,o_5,o_5,o_5,o_5,o_5,o_5,o_5,o_5,o_5,o_5,o_5,o_5,o_5,o_5,o_5,o_5,o_5,o_5,x_5,x_5,x_5,x_5,x_5,x_5,x_5,x_5,x_5,x_5,x_5,x_5,x_5,x_5,x_5,x_5] HT_ rfl rfl (by kernel_rfl) ?_
                   refine pu_5 21 66 #[o_5,o_5,o_5,o_5,o_5,o_5,o_5,o_5,o_5,o_5,o_5,o_5,o_5,o_5,o_5,o_5,o_5,o_5,o_5,o_5,o_5,o_5,x_5,x_5,x_5,x_5,x_5,x_5,x_5,x_5,x_5,x_5,x_5,x_5,x_5,x_5,x_5] HT_ rfl rfl (by kernel_rfl) ?_
                   refine pu_5 22 67 #[o_5,o_5,o_5,o_5,o_5,o_5,o_5,o_5,o_5,o_5,o_5,o_5,o_5,o_5,o_5,o_5,o_5,o_5,o_5,o_5,o_5,o_5,o_5,x_5,x_5,x_5,x_5,x_5,x_5,x_5,x_5,x_5,x_5,x_5,x_5,x_5,x_5] HT_ rfl rfl (by kernel_rfl) ?_
                   refine pn_5 23 68 #[o_5,o_5,o_5,o_5,o_5,o_5,o_5,o_5,o_5,o_5,o_5,o_5,o_5,o_5,o_5,o_5,o_5,o_5,o_5,o_5,o_5,o_5,o_5,o_5,x_5,x_5,x_5,x_5,x_5,x_5,x_5,x_5,x_5,x_5,x_5,x_5,x_5] HT_ rfl rfl (by kernel_rfl) ?_
                   refine pn_5 24 69 #[o_5,o_5,o_5,o_5,o_5,o_5,o_5,o_5,o_5,o_5,o_5,o_5,o_5,o_5,o_5,o_5,o_5,o_5,o_5,o_5,o_5,o_5,o_5,o_5,o_5,x_5,x_5,x_5,x_5,x_5,x_5,x_5,x_5,x_5,x_5,x_5,x_5] HT_ rfl rfl (by kernel_rfl) ?_
                   refine pn_5 25 70 #[o_5,o_5,o_5,o_5,o_5,o_5,o_5,o_5,o_5,o_5,o_5,o_5,o_5,o_5,o_5,o_5,o_5,o_5,o_5,o_5,o_5,o_5,o_5,o_5,o_5,o_5,x_5,x_5,x_5,x_5,x_5,x_5,x_5,x_5,x_5,x_5,x_5] HT_ rfl rfl (by kernel_rfl) ?_
                   refine pn_5 26 71 #[o_5,o_5,o_5,o_5,o_5,o_5,o_5,o_5,o_5,o_5,o_5,o_5,o_5,o_5,o_5,o_5,o_5,o_5,o_5,o_5,o_5,o_5,o_5,o_5,o_5,o_5,o_5,x_5,x_5,x_5,x_5,x_5,x_5,x_5,x_5,x_5,x_5] HT_ rfl rfl (by kernel_rfl) ?_
                   refine pn_5 27 72 #[o_5,o_5,o_5,o_5,o_5,o_5,o_5,o_5,o_5,o_5,o_5,o_5,o_5,o_5,o_5,o_5,o_5,o_5,o_5,o_5,o_5,o_5,o_5,o_5,o_5,o_5,o_5,o_5,x_5,x_5,x_5,x_5,x_5,x_5,x_5,x_5,x_5] HT_ rfl rfl (by kernel_rfl) ?_
                   refine pn_5 28 73 #[o_5,o_5,o_5,o_5,o_5,o_5,o_5,o_5,o_5,o_5,o_5,o_5,o_5,o_5,o_5,o_5,o_5,o_5,o_5,o_5,o_5,o_5,o_5,o_5,o_5,o_5,o_5,o_5,o_5,x_5,x_5,x_5,x_5,x_5,x_5,x_5,x_5] HT_ rfl rfl (by kernel_rfl) ?_
                   refine pn_5 29 74 #[o_5,o_5,o_5,o_5,o_5,o_5,o_5,o_5,o_5,o_5,o_5,o_5,o_5,o_5,o_5,o_5,o_5,o_5,o_5,o_5,o_5,o_5,o_5,o_5,o_5,o_5,o_5,o_5,o_5,o_5,x_5,x_5,x_5,x_5,x_5,x_5,x_5] HT_ rfl rfl (by kernel_rfl) ?_
                   refine pn_5 30 75 #[o_5,o_5,o_5,o_5,o_5,o_5,o_5,o_5,o_5,o_5,o_5,o_5,o_5,o_5,o_5,o_5,o_5,o_5,o_5,o_5,o_5,o_5,o_5,o_5,o_5,o_5,o_5,o_5,o_5,o_5,o_5,x_5,x_5,x_5,x_5,x_5,x_5] HT_ rfl rfl (by kernel_rfl) ?_
                   refine pn_5 31 76 #[o_5,o_5,o_5,o_5,o_5,o_5,o_5,o_5,o_5,o_5,o_5,o_5,o_5,o_5,o_5,o_5,o_5,o_5,o_5,o_5,o_5,o_5,o_5,o_5,o_5,o_5,o_5,o_5,o_5,o_5,o_5,o_5,x_5,x_5,x_5,x_5,x_5] HT_ rfl rfl (by kernel_rfl) ?_
                   refine pn_5 32 77 #[o_5,o_5,o_5,o_5,o_5,o_5,o_5,o_5,o_5,o_5,o_5,o_5,o_5,o_5,o_5,o_5,o_5,o_5,o_5,o_5,o_5,o_5,o_5,o_5,o_5,o_5,o_5,o_5,o_5,o_5,o_5,o_5,o_5,x_5,x_5,x_5,x_5] HT_ rfl rfl (by kernel_rfl) ?_
                   refine pn_5 33 78 #[o_5,o_5,o_5,o_5,o_5,o_5,o_5,o_5,o_5,o_5,o_5,o_5,o_5,o_5,o_5,o_5,o_5,o_5,o_5,o_5,o_5,o_5,o_5,o_5,o_5,o_5,o_5,o_5,o_5,o_5,o_5,o_5,o_5,o_5,x_5,x_5,x_5] HT_ rfl rfl (by kernel_rfl) ?_
                   refine pn_5 34 79 #[o_5,o_5,o_5,o_5,o_5,o_5,o_5,o_5,o_5,o_5,o_5,o_5,o_5,o_5,o_5,o_5,o_5,o_5,o_5,o_5,o_5,o_5,o_5,o_5,o_5,o_5,o_5,o_5,o_5,o_5,o_5,o_5,o_5,o_5,o_5,x_5,x_5] HT_ rfl rfl (by kernel_rfl) ?_
                   refine pn_5 35 80 #[o_5,o_5,o_5,o_5,o_5,o_5,o_5,o_5,o_5,o_5,o_5,o_5,o_5,o_5,o_5,o_5,o_5,o_5,o_5,o_5,o_5,o_5,o_5,o_5,o_5,o_5,o_5,o_5,o_5,o_5,o_5,o_5,o_5,o_5,o_5,o_5,x_5] HT_ rfl rfl (by kernel_rfl) ?_
                   refine pu_5 36 81 #[o_5,o_5,o_5,o_5,o_5,o_5,o_5,o_5,o_5,o_5,o_5,o_5,o_5,o_5,o_5,o_5,o_5,o_5,o_5,o_5,o_5,o_5,o_5,o_5,o_5,o_5,o_5,o_5,o_5,o_5,o_5,o_5,o_5,o_5,o_5,o_5,o_5] HT_ rfl rfl (by kernel_rfl) ?_
                   refine done_ (done_of HT_.out (by kernel_rfl)) ?_
                   try go_wp2
                   go_ret
                   exact ⟨by first | rfl | (simp [errW_none, errW_some] <;> rfl) | (simp [*, errW_none, errW_some] <;> rfl), by repeat (first | (with_reducible first | exact HB.out | apply below_alloc | apply pw_below_drewN | apply below_drew1 | refine below_set ?_ GE191.out | refine below_set ?_ GE195.out) | exact HB.out)⟩
                ·
                 replace c17 := Bool.eq_false_iff.mpr c17
                 subst c17
                 have H1 : (some false) = some r := by rw [if_neg (show ¬ (false = true) by decide)] at H; exact H
                 clear H
                 have H := H1
                 clear H1
                 obtain rfl := Option.some.inj H
                 have p194 : 0 ≤ (x40_3 : Int) := of_decide_eq_true (by first | (with_reducible assumption) | assumption)
                 have q194 : x40_3 < ((rd_L4 l0_1 x29_2).length : Int) := of_decide_eq_true (by first | (with_reducible assumption) | assumption)
                 obtain ⟨ad194, e194, hx194_0, hx194_1⟩ := at_T91 HR193_0.out x40_3 p194 q194
                 cases e194
                 replace hx194_0 := (HB.out.cell (World.block_lt_of_cell? w _ hx194_0)).trans hx194_0
                 replace hx194_1 := (HB.out.cell (World.block_lt_of_cell? w _ hx194_1)).trans hx194_1
                 replace p194 := eq_true p194
                 replace q194 := eq_true q194
                 try go_wp2_with (first | ((with_reducible refine gate_dst (N := 7) rfl ?_); (try (refine gate_guard (by rfl) ?_; dsimp only)); refine box_event ?hg (N := 7) ?hd (cs := #[.int .i64 0, .int .i64 0]) (t := 91) ?hr ?_; (case hd => rfl); (case hg => rfl); (case hr => first | (go_simp; done) | (go_simp; rfl)); intro gb195 hg w50 hbox hb; have n0_ := Aside0.mk (blk_below (up_5 BK191.out) hb); have n1_ := Aside0.mk (below_step (by repeat (first | (with_reducible first | exact HB.out | apply below_alloc | apply pw_below_drewN | apply below_drew1 | refine below_set ?_ GE191.out) | exact HB.out)) hb); have n2_ := Aside0.mk (hbox); have n3_ := Aside0.mk ((by rw [hg]; exact (below_size (by repeat (first | (with_reducible first | exact HB.out | apply below_alloc | apply pw_below_drewN | apply below_drew1 | refine below_set ?_ GE191.out) | exact HB.out))) : w.heap.size ≤ gb195)); have n4_ := Aside0.mk ((by rw [hg]; exact (below_size (by repeat (first | (with_reducible first | exact HB.out | apply below_alloc | apply pw_below_drewN | apply below_drew1 | refine below_set ?_ GE191.out) | exact HB.out))) : w.heap.size ≤ gb195)); have n5_ := Aside0.mk ((by rw [hg]; exact Nat.ne_of_lt (blk_lt (up_5 BK191.out)) : gb191 ≠ gb195)); have n6_ := Aside0.mk ((by rw [hg]; exact Nat.ne_of_gt (blk_lt (up_5 BK191.out)) : gb195 ≠ gb191)); clear BK191; clear HB; have BK191 := n0_; have HB := n1_; have BK195 := n2_; have GW195 := n3_; have GE195 := n4_; have NB191_195 := n5_; have NB195_191 := n6_; clear n0_ n1_ n2_ n3_ n4_ n5_ n6_; clear hb hbox hg; have hnb51 := NB195_191.out; have hnc51 := NB191_195.out; have hcz52_0 : w50.cell? ⟨gb195, 0, none⟩ = some (.int .i64 0) := (blk_cell BK195.out 0).trans rfl; have hcz52_1 : w50.cell? ⟨gb195, 1, none⟩ = some (.int .i64 0) := (blk_cell BK195.out 1).trans rfl; have hfz52_0 := blk_frozen BK195.out 0; have hfz52_1 := blk_frozen BK195.out 1))
                 have n0_ : Aside0 (((w50.setCell ⟨gb195, 0, none⟩ (.int .i64 ((rd_T91 (rd_L4 l0_1 x29_2) x40_3).f0))).setCell ⟨gb195, 1, none⟩ (.int .i64 ((rd_T91 (rd_L4 l0_1 x29_2) x40_3).f1))).heap[gb191]? = some (.cells #[.int .i64 a0_0, .slice (some ad193) l0_1.length c0_1, .slice A0_2 l0_2.length c0_2] 45 (0, 0))) := ⟨by (with_reducible repeat (first | refine blk_drewN ?_ _ | refine blk_drew ?_ | refine blk_alloc ?_ _)); refine blk_far ?_ NB191_195.out _; (with_reducible repeat (first | refine blk_drewN ?_ _ | refine blk_drew ?_ | refine blk_alloc ?_ _)); refine blk_far ?_ NB191_195.out _; (with_reducible repeat (first | refine blk_drewN ?_ _ | refine blk_drew ?_ | refine blk_alloc ?_ _)); exact BK191.out⟩
                 have n1_ : Aside0 (((w50.setCell ⟨gb195, 0, none⟩ (.int .i64 ((rd_T91 (rd_L4 l0_1 x29_2) x40_3).f0))).setCell ⟨gb195, 1, none⟩ (.int .i64 ((rd_T91 (rd_L4 l0_1 x29_2) x40_3).f1))).heap[gb195]? = some (.cells #[.int .i64 ((rd_T91 (rd_L4 l0_1 x29_2) x40_3).f0), .int .i64 ((rd_T91 (rd_L4 l0_1 x29_2) x40_3).f1)] 91 (0, 0))) := ⟨by (with_reducible repeat (first | refine blk_drewN ?_ _ | refine blk_drew ?_ | refine blk_alloc ?_ _)); refine blk_put (cs := #[.int .i64 ((rd_T91 (rd_L4 l0_1 x29_2) x40_3).f0), .int .i64 0]) ?_ 1 _ rfl; (with_reducible repeat (first | refine blk_drewN ?_ _ | refine blk_drew ?_ | refine blk_alloc ?_ _)); refine blk_put (cs := #[.int .i64 0, .int .i64 0]) ?_ 0 _ rfl; (with_reducible repeat (first | refine blk_drewN ?_ _ | refine blk_drew ?_ | refine blk_alloc ?_ _)); exact BK195.out⟩
                 have n2_ : Aside0 (Below w.heap.size w ((w50.setCell ⟨gb195, 0, none⟩ (.int .i64 ((rd_T91 (rd_L4 l0_1 x29_2) x40_3).f0))).setCell ⟨gb195, 1, none⟩ (.int .i64 ((rd_T91 (rd_L4 l0_1 x29_2) x40_3).f1)))) := ⟨by repeat (first | (with_reducible first | exact HB.out | apply below_alloc | apply pw_below_drewN | apply below_drew1 | refine below_set ?_ GE191.out | refine below_set ?_ GE195.out) | exact HB.out)⟩
                 (try clear BK191)
                 (try clear BK195)
                 (try clear HB)
                 generalize ((w50.setCell ⟨gb195, 0, none⟩ (.int .i64 ((rd_T91 (rd_L4 l0_1 x29_2) x40_3).f0))).setCell ⟨gb195, 1, none⟩ (.int .i64 ((rd_T91 (rd_L4 l0_1 x29_2) x40_3).f1))) = w53 at n0_ n1_ n2_ ⊢
                 have BK191 := n0_
                 have BK195 := n1_
                 have HB := n2_
                 clear n0_ n1_ n2_
                 have n0_ := Aside0.mk (blk_drew BK191.out)
                 have n1_ := Aside0.mk (blk_drew BK195.out)
                 have n2_ := Aside0.mk (below_drew1 HB.out)
                 clear BK191
                 clear BK195
                 clear HB
                 have BK191 := n0_
                 have BK195 := n1_
                 have HB := n2_
                 clear n0_ n1_ n2_
                 refine start_ (n := 37) (S := fun w' => w'.cell? ⟨gb195, 0, none⟩ = some (.int .i64 ((rd_T91 (rd_L4 l0_1 x29_2) x40_3).f0)) ∧ w'.cell? ⟨gb195, 1, none⟩ = some (.int .i64 ((rd_T91 (rd_L4 l0_1 x29_2) x40_3).f1)) ∧ w'.cell? ⟨gb191, 0, none⟩ = some (.int .i64 a0_0) ∧ w'.cell? ⟨gb191, 1, none⟩ = some (.slice (some ad193) l0_1.length c0_1) ∧ w'.cell? ⟨gb191, 2, none⟩ = some (.slice A0_2 l0_2.length c0_2)) (ds := []) #[false, false, false, false, false, false, false, false, false, false, false, false, false, false, false, false, false, false, false, false, false, false, false, false, false, false, false, false, false, false, false, false, false, false, false, false, false] (by kernel_rfl) rfl rfl ⟨(blk_cell BK195.out 0).trans rfl, (blk_cell BK195.out 1).trans rfl, (blk_cell BK191.out 0).trans rfl, (blk_cell BK191.out 1).trans rfl, (blk_cell BK191.out 2).trans rfl⟩ (fun hHeld => ?_); refine with_tabW impl_WheelRight.tab11 impl_WheelRight.bits11 (fun HT_ HW_ => ?_)
                 generalize w53.drew = w54 at BK191 BK195 HB hHeld ⊢
                 refine pu_5 0 45 #[o_5,x_5,x_5,x_5,x_5,x_5,x_5,x_5,x_5,x_5,x_5,x_5,x_5,x_5,x_5,x_5,x_5,x_5,x_5,x_5,x_5,x_5,x_5,x_5,x_5,x_5,x_5,x_5,x_5,x_5,x_5,x_5,x_5,x_5,x_5,x_5,x_5] HT_ rfl rfl (by kernel_rfl) ?_
                 refine pu_5 2 47 #[o_5,x_5,o_5,x_5,x_5,x_5,x_5,x_5,x_5,x_5,x_5,x_5,x_5,x_5,x_5,x_5,x_5,x_5,x_5,x_5,x_5,x_5,x_5,x_5,x_5,x_5,x_5,x_5,x_5,x_5,x_5,x_5,x_5,x_5,x_5,x_5,x_5] HT_ rfl rfl (by kernel_rfl) ?_
                 refine pu_5 5 50 #[o_5,x_5,o_5,x_5,x_5,o_5,x_5,x_5,x_5,x_5,x_5,x_5,x_5,x_5,x_5,x_5,x_5,x_5,x_5,x_5,x_5,x_5,x_5,x_5,x_5,x_5,x_5,x_5,x_5,x_5,x_5,x_5,x_5,x_5,x_5,x_5,x_5] HT_ rfl rfl (by kernel_rfl) ?_
                 refine tk_5 1 46 #[o_5,o_5,o_5,x_5,x_5,o_5,x_5,x_5,x_5,x_5,x_5,x_5,x_5,x_5,x_5,x_5,x_5,x_5,x_5,x_5,x_5,x_5,x_5,x_5,x_5,x_5,x_5,x_5,x_5,x_5,x_5,x_5,x_5,x_5,x_5,x_5,x_5] HT_ HW_ hHeld rfl rfl (by kernel_rfl) ?_ (by rintro w' ⟨s0, s1, s2, s3, s4⟩; go_simp; with_reducible rfl)
                 refine tk_5 3 48 #[o_5,o_5,o_5,o_5,x_5,o_5,x_5,x_5,x_5,x_5,x_5,x_5,x_5,x_5,x_5,x_5,x_5,x_5,x_5,x_5,x_5,x_5,x_5,x_5,x_5,x_5,x_5,x_5,x_5,x_5,x_5,x_5,x_5,x_5,x_5,x_5,x_5] HT_ HW_ hHeld rfl rfl (by kernel_rfl) ?_ (by rintro w' ⟨s0, s1, s2, s3, s4⟩; go_simp; with_reducible rfl)
                 refine pu_5 4 49 #[o_5,o_5,o_5,o_5,o_5,o_5,x_5,x_5,x_5,x_5,x_5,x_5,x_5,x_5,x_5,x_5,x_5,x_5,x_5,x_5,x_5,x_5,x_5,x_5,x_5,x_5,x_5,x_5,x_5,x_5,x_5,x_5,x_5,x_5,x_5,x_5,x_5] HT_ rfl rfl (by kernel_rfl) ?_
                 refine tk_5 6 51 #[o_5,o_5,o_5,o_5,o_5,o_5,o_5,x_5,x_5,x_5,x_5,x_5,x_5,x_5,x_5,x_5,x_5,x_5,x_5,x_5,x_5,x_5,x_5,x_5,x_5,x_5,x_5,x_5,x_5,x_5,x_5,x_5,x_5,x_5,x_5,x_5,x_5] HT_ HW_ hHeld rfl rfl (by kernel_rfl) ?_ (by rintro w' ⟨s0, s1, s2, s3, s4⟩; go_simp; with_reducible rfl)
                 refine pu_5 7 52 #[o_5,o_5,o_5,o_5,o_5,o_5,o_5,o_5,x_5,x_5,x_5,x_5,x_5,x_5,x_5,x_5,x_5,x_5,x_5,x_5,x_5,x_5,x_5,x_5,x_5,x_5,x_5,x_5,x_5,x_5,x_5,x_5,x_5,x_5,x_5,x_5,x_5] HT_ rfl rfl (by kernel_rfl) ?_
                 refine one_ (i := 8) (N := some 53) #[o_5,o_5,o_5,o_5,o_5,o_5,o_5,o_5,o_5,x_5,x_5,x_5,x_5,x_5,x_5,x_5,x_5,x_5,x_5,x_5,x_5,x_5,x_5,x_5,x_5,x_5,x_5,x_5,x_5,x_5,x_5,x_5,x_5,x_5,x_5,x_5,x_5] rfl rfl (one_of HT_.out (by kernel_rfl)) (by decide) (fun K hK => ?_)
                 refine goes_ Try.func69 (by kernel_rfl) rfl #[.int .i64 ((rd_T91 (rd_L4 l0_1 x29_2) x40_3).f1), .int .i64 (wrap64 (a0_0 + 1)), .int .i64 (wrap64 (a0_0 + 16))] (by rfl) rfl rfl (by (try simp only [List.map_toArray, List.map_cons, List.map_nil]); first | done | rfl | (simp only [List.length_drop, List.length_take]; rfl)) ?_
                 with_reducible refine (impl_in.calls ((rd_T91 (rd_L4 l0_1 x29_2) x40_3).f1) (wrap64 (a0_0 + 1)) (wrap64 (a0_0 + 16)) false _ A16.out).mono ?_
                 rintro e w' ⟨rfl, ⟨nd, rfl⟩⟩
                 refine ⟨_, rfl, ?_⟩
                 refine hK.out _ _ ⟨(blk_cell BK195.out 0).trans rfl, (blk_cell BK195.out 1).trans rfl, (blk_cell BK191.out 0).trans rfl, (blk_cell BK191.out 1).trans rfl, (blk_cell BK191.out 2).trans rfl⟩ (fun hHeld => ?_)
                 clear hK K
                 refine norm_ (a' := ?_) ?_ ?_
                 rotate_left
                 ·
                  show Act.put _ (some 53) _ = _
                  simp only [Act.put, List.setIfInBounds_toArray, List.set_cons_zero, List.set_cons_succ, i64_w, i32_w]
                  rfl
                 refine pu_5 9 54 #[o_5,o_5,o_5,o_5,o_5,o_5,o_5,o_5,o_5,o_5,x_5,x_5,x_5,x_5,x_5,x_5,x_5,x_5,x_5,x_5,x_5,x_5,x_5,x_5,x_5,x_5,x_5,x_5,x_5,x_5,x_5,x_5,x_5,x_5,x_5,x_5,x_5] HT_ rfl rfl (by kernel_rfl) ?_
                 refine pu_5 10 55 #[o_5,o_5,o_5,o_5,o_5,o_5,o_5,o_5,o_5,o_5,o_5,x_5,x_5,x_5,x_5,x_5,x_5,x_5,x_5,x_5,x_5,x_5,x_5,x_5,x_5,x_5,x_5,x_5,x_5,x_5,x_5,x_5,x_5,x_5,x_5,x_5,x_5] HT_ rfl rfl (by kernel_rfl) ?_
                 refine pn_5 11 56 #[o_5,o_5,o_5,o_5,o_5,o_5,o_5,o_5,o_5,o_5,o_5,o_5,x_5,x_5,x_5,x_5,x_5,x_5,x_5,x_5,x_5,x_5,x_5,x_5,x_5,x_5,x_5,x_5,x_5,x_5,x_5,x_5,x_5,x_5,x_5,x_5,x_5] HT_ rfl rfl (by kernel_rfl) ?_
                 refine pn_5 12 57 #[o_5,o_5,o_5,o_5,o_5,o_5,o_5,o_5,o_5,o_5,o_5,o_5,o_5,x_5,x_5,x_5,x_5,x_5,x_5,x_5,x_5,x_5,x_5,x_5,x_5,x_5,x_5,x_5,x_5,x_5,x_5,x_5,x_5,x_5,x_5,x_5,x_5] HT_ rfl rfl (by kernel_rfl) ?_
                 refine pn_5 13 58 #[o_5,o_5,o_5,o_5,o_5,o_5,o_5,o_5,o_5,o_5,o_5,o_5,o_5,o_5,x_5,x_5,x_5,x_5,x_5,x_5,x_5,x_5,x_5,x_5,x_5,x_5,x_5,x_5,x_5,x_5,x_5,x_5,x_5,x_5,x_5,x_5,x_5] HT_ rfl rfl (by kernel_rfl) ?_
                 refine pu_5 14 59 #[o_5,o_5,o_5,o_5,o_5,o_5,o_5,o_5,o_5,o_5,o_5,o_5,o_5,o_5,o_5,x_5,x_5,x_5,x_5,x_5,x_5,x_5,x_5,x_5,x_5,x_5,x_5,x_5,x_5,x_5,x_5,x_5,x_5,x_5,x_5,x_5,x_5] HT_ rfl rfl (by kernel_rfl) ?_
                 refine pu_5 15 60 #[o_5,o_5,o_5,o_5,o_5,o_5,o_5,o_5,o_5,o_5,o_5,o_5,o_5,o_5,o_5,o_5,x_5,x_5,x_5,x_5,x_5,x_5,x_5,x_5,x_5,x_5,x_5,x_5,x_5,x_5,x_5,x_5,x_5,x_5,x_5,x_5,x_5] HT_ rfl rfl (by kernel_rfl) ?_
                 refine pn_5 16 61 #[o_5,o_5,o_5,o_5,o_5,o_5,o_5,o_5,o_5,o_5,o_5,o_5,o_5,o_5,o_5,o_5,o_5,x_5,x_5,x_5,x_5,x_5,x_5,x_5,x_5,x_5,x_5,x_5,x_5,x_5,x_5,x_5,x_5,x_5,x_5,x_5,x_5] HT_ rfl rfl (by kernel_rfl) ?_
                 refine pn_5 17 62 #[o_5,o_5,o_5,o_5,o_5,o_5,o_5,o_5,o_5,o_5,o_5,o_5,o_5,o_5,o_5,o_5,o_5,o_5,x_5,x_5,x_5,x_5,x_5,x_5,x_5,x_5,x_5,x_5,x_5,x_5,x_5,x_5,x_5,x_5,x_5,x_5,x_5] HT_ rfl rfl (by kernel_rfl) ?_
                 refine pn_5 18 63 #[o_5,o_5,o_5,o_5,o_5,o_5,o_5,o_5,o_5,o_5,o_5,o_5,o_5,o_5,o_5,o_5,o_5,o_5,o_5,x_5,x_5,x_5,x_5,x_5,x_5,x_5,x_5,x_5,x_5,x_5,x_5,x_5,x_5,x_5,x_5,x_5,x_5] HT_ rfl rfl (by kernel_rfl) ?_
                 refine pn_5 19 64 #[o_5,o_5,o_5,o_5,o_5,o_5,o_5,o_5,o_5,o_5,o_5,o_5,o_5,o_5,o_5,o_5,o_5,o_5,o_5,o_5,x_5,x_5,x_5,x_5,x_5,x_5,x_5,x_5,x_5,x_5,x_5,x_5,x_5,x_5,x_5,x_5,x_5] HT_ rfl rfl (by kernel_rfl) ?_
                 refine pn_5 20 65 #[o_5,o_5,o_5,o_5,o_5,o_5,o_5,o_5,o_5,o_5,o_5,o_5,o_5,o_5,o_5,o_5,o_5,o_5,o_5,o_5,o_5,x_5,x_5,x_5,x_5,x_5,x_5,x_5,x_5,x_5,x_5,x_5,x_5,x_5,x_5,x_5,x_5] HT_ rfl rfl (by kernel_rfl) ?_
                 refine pu_5 21 66 #[o_5,o_5,o_5,o_5,o_5,o_5,o_5,o_5,o_5,o_5,o_5,o_5,o_5,o_5,o_5,o_5,o_5,o_5,o_5,o_5,o_5,o_5,x_5,x_5,x_5,x_5,x_5,x_5,x_5,x_5,x_5,x_5,x_5,x_5,x_5,x_5,x_5] HT_ rfl rfl (by kernel_rfl) ?_
                 refine pu_5 22 67 #[o_5,o_5,o_5,o_5,o_5,o_5,o_5,o_5,o_5,o_5,o_5,o_5,o_5,o_5,o_5,o_5,o_5,o_5,o_5,o_5,o_5,o_5,o_5,x_5,x_5,x_5,x_5,x_5,x_5,x_5,x_5,x_5,x_5,x_5,x_5,x_5,x_5] HT_ rfl rfl (by kernel_rfl) ?_
                 refine pn_5 23 68 #[o_5,o_5,o_5,o_5,o_5,o_5,o_5,o_5,o_5,o_5,o_5,o_5,o_5,o_5,o_5,o_5,o_5,o_5,o_5,o_5,o_5,o_5,o_5,o_5,x_5,x_5,x_5,x_5,x_5,x_5,x_5,x_5,x_5,x_5,x_5,x_5,x_5] HT_ rfl rfl (by kernel_rfl) ?_
                 refine pn_5 24 69 #[o_5,o_5,o_5,o_5,o_5,o_5,o_5,o_5,o_5,o_5,o_5,o_5,o_5,o_5,o_5,o_5,o_5,o_5,o_5,o_5,o_5,o_5,o_5,o_5,o_5,x_5,x_5,x_5,x_5,x_5,x_5,x_5,x_5,x_5,x_5,x_5,x_5] HT_ rfl rfl (by kernel_rfl) ?_
                 refine pn_5 25 70 #[o_5,o_5,o_5,o_5,o_5,o_5,o_5,o_5,o_5,o_5,o_5,o_5,o_5,o_5,o_5,o_5,o_5,o_5,o_5,o_5,o_5,o_5,o_5,o_5,o_5,o_5,x_5,x_5,x_5,x_5,x_5,x_5,x_5,x_5,x_5,x_5,x_5] HT_ rfl rfl (by kernel_rfl) ?_
                 refine pn_5 26 71 #[o_5,o_5,o_5,o_5,o_5,o_5,o_5,o_5,o_5,o_5,o_5,o_5,o_5,o_5,o_5,o_5,o_5,o_5,o_5,o_5,o_5,o_5,o_5,o_5,o_5,o_5,o_5,x_5,x_5,x_5,x_5,x_5,x_5,x_5,x_5,x_5,x_5] HT_ rfl rfl (by kernel_rfl) ?_
                 refine pn_5 27 72 #[o_5,o_5,o_5,o_5,o_5,o_5,o_5,o_5,o_5,o_5,o_5,o_5,o_5,o_5,o_5,o_5,o_5,o_5,o_5,o_5,o_5,o_5,o_5,o_5,o_5,o_5,o_5,o_5,x_5,x_5,x_5,x_5,x_5,x_5,x_5,x_5,x_5] HT_ rfl rfl (by kernel_rfl) ?_
                 refine pn_5 28 73 #[o_5,o_5,o_5,o_5,o_5,o_5,o_5,o_5,o_5,o_5,o_5,o_5,o_5,o_5,o_5,o_5,o_5,o_5,o_5,o_5,o_5,o_5,o_5,o_5,o_5,o_5,o_5,o_5,o_5,x_5,x_5,x_5,x_5,x_5,x_5,x_5,x_5] HT_ rfl rfl (by kernel_rfl) ?_
                 refine pn_5 29 74 #[o_5,o_5,o_5,o_5,o_5,o_5,o_5,o_5,o_5,o_5,o_5,o_5,o_5,o_5,o_5,o_5,o_5,o_5,o_5,o_5,o_5,o_5,o_5,o_5,o_5,o_5,o_5,o_5,o_5,o_5,x_5,x_5,x_5,x_5,x_5,x_5,x_5] HT_ rfl rfl (by kernel_rfl) ?_
                 refine pn_5 30 75 #[o_5,o_5,o_5,o_5,o_5,o_5,o_5,o_5,o_5,o_5,o_5,o_5,o_5,o_5,o_5,o_5,o_5,o_5,o_5,o_5,o_5,o_5,o_5,o_5,o_5,o_5,o_5,o_5,o_5,o_5,o_5,x_5,x_5,x_5,x_5,x_5,x_5] HT_ rfl rfl (by kernel_rfl) ?_
                 refine pn_5 31 76 #[o_5,o_5,o_5,o_5,o_5,o_5,o_5,o_5,o_5,o_5,o_5,o_5,o_5,o_5,o_5,o_5,o_5,o_5,o_5,o_5,o_5,o_5,o_5,o_5,o_5,o_5,o_5,o_5,o_5,o_5,o_5,o_5,x_5,x_5,x_5,x_5,x_5] HT_ rfl rfl (by kernel_rfl) ?_
                 refine pn_5 32 77 #[o_5,o_5,o_5,o_5,o_5,o_5,o_5,o_5,o_5,o_5,o_5,o_5,o_5,o_5,o_5,o_5,o_5,o_5,o_5,o_5,o_5,o_5,o_5,o_5,o_5,o_5,o_5,o_5,o_5,o_5,o_5,o_5,o_5,x_5,x_5,x_5,x_5] HT_ rfl rfl (by kernel_rfl) ?_
                 refine pn_5 33 78 #[o_5,o_5,o_5,o_5,o_5,o_5,o_5,o_5,o_5,o_5,o_5,o_5,o_5,o_5,o_5,o_5,o_5,o_5,o_5,o_5,o_5,o_5,o_5,o_5,o_5,o_5,o_5,o_5,o_5,o_5,o_5,o_5,o_5,o_5,x_5,x_5,x_5] HT_ rfl rfl (by kernel_rfl) ?_
                 refine pn_5 34 79 #[o_5,o_5,o_5,o_5,o_5,o_5,o_5,o_5,o_5,o_5,o_5,o_5,o_5,o_5,o_5,o_5,o_5,o_5,o_5,o_5,o_5,o_5,o_5,o_5,o_5,o_5,o_5,o_5,o_5,o_5,o_5,o_5,o_5,o_5,o_5,x_5,x_5] HT_ rfl rfl (by kernel_rfl) ?_
                 refine pn_5 35 80 #[o_5,o_5,o_5,o_5,o_5,o_5,o_5,o_5,o_5,o_5,o_5,o_5,o_5,o_5,o_5,o_5,o_5,o_5,o_5,o_5,o_5,o_5,o_5,o_5,o_5,o_5,o_5,o_5,o_5,o_5,o_5,o_5,o_5,o_5,o_5,o_5,x_5] HT_ rfl rfl (by kernel_rfl) ?_
                 refine pu_5 36 81 #[o_5,o_5,o_5,o_5,o_5,o_5,o_5,o_5,o_5,o_5,o_5,o_5,o_5,o_5,o_5,o_5,o_5,o_5,o_5,o_5,o_5,o_5,o_5,o_5,o_5,o_5,o_5,o_5,o_5,o_5,o_5,o_5,o_5,o_5,o_5,o_5,o_5] HT_ rfl rfl (by kernel_rfl) ?_
                 refine done_ (done_of HT_.out (by kernel_rfl)) ?_
                 try go_wp2
                 go_ret
                 exact ⟨by first | rfl | (simp [errW_none, errW_some] <;> rfl) | (simp [*, errW_none, errW_some] <;> rfl), by repeat (first | (with_reducible first | exact HB.out | apply below_alloc | apply pw_below_drewN | apply below_drew1 | refine below_set ?_ GE191.out | refine below_set ?_ GE195.out) | exact HB.out)⟩
               ·
                rw [if_neg c15] at H
                exact absurd H (by simp)
              ·
               rw [if_neg c14] at H
               exact absurd H (by simp)
             ·
              rw [if_neg c13] at H
              have c13b0 : decide (x40_3 < ((rd_L4 l0_1 x29_2).length : Int)) = false := decide_eq_false c13
              clear c13
              have H' := Aside0.mk H
              clear H
              go_wp2
              go_roundg k3
              case measure => have := HJ1.out; have := HK2.out; have := HK3.out; omega
              case rel => exact ⟨((wrap64 (x3_2 + ((rd_L4 l0_1 x29_2).length : Int)))), (wrap64 (x29_2 + 1)), (by first | rfl | (simp; done) | (simp [*]; done)), (by first | rfl | (simp; done) | (simp [*]; done)), H', ⟨by have := HJ1.out; have := HK2.out; have := HK3.out; omega⟩, ⟨by (with_reducible repeat (first | refine blk_drewN ?_ _ | refine blk_drew ?_ | refine blk_alloc ?_ _)); exact BK191.out⟩, ⟨by repeat (first | (with_reducible first | exact HB.out | apply below_alloc | apply pw_below_drewN | apply below_drew1 | refine below_set ?_ GE191.out) | exact HB.out)⟩⟩
         ·
          rw [if_neg c12] at H
          exact absurd H (by simp)
        ·
         rw [if_neg c11] at H
         exact absurd H (by simp)
       ·
        rw [if_neg c10] at H
        have c10b0 : decide (x29_2 < (l0_1.length : Int)) = false := decide_eq_false c10
        clear c10
        have H' := Aside0.mk H
        clear H
        have hcz55_0 : wr.cell? ⟨gb191, 0, none⟩ = some (.int .i64 a0_0) := (blk_cell BK191.out 0).trans rfl
        have hcz55_1 : wr.cell? ⟨gb191, 1, none⟩ = some (.slice A0_1 l0_1.length c0_1) := (blk_cell BK191.out 1).trans rfl
        have hcz55_2 : wr.cell? ⟨gb191, 2, none⟩ = some (.slice A0_2 l0_2.length c0_2) := (blk_cell BK191.out 2).trans rfl
        have hfz55_0 := blk_frozen BK191.out 0
        have hfz55_1 := blk_frozen BK191.out 1
        have hfz55_2 := blk_frozen BK191.out 2
        go_wp2
        go_loopg [87] k2 (fun kq v87 w' => ∃ (x87_3 : Int), v87 = .int .i64 x87_3 ∧ Aside0 (impl_WheelRight.l2 kq x3_2 l0_2 (l0_2.length : Int) x87_3 a0_0 l0_1 l0_2 = some r) ∧ Aside0 (kq ≤ k2) ∧ Aside0 (w'.heap[gb191]? = some (.cells #[.int .i64 a0_0, (.slice A0_1 l0_1.length c0_1), (.slice A0_2 l0_2.length c0_2)] 45 (0, 0))) ∧ Aside0 (Below w.heap.size w w'))
        case atStart => exact ⟨(0), (by first | rfl | (simp; done) | (simp [*]; done)), H', ⟨Nat.le_refl _⟩, ⟨by (with_reducible repeat (first | refine blk_drewN ?_ _ | refine blk_drew ?_ | refine blk_alloc ?_ _)); exact BK191.out⟩, ⟨by repeat (first | (with_reducible first | exact HB.out | apply below_alloc | apply pw_below_drewN | apply below_drew1 | refine below_set ?_ GE191.out) | exact HB.out)⟩⟩
        case round =>
         as_aux_lemma =>
          clear H'
          try clear c1
          try clear p1
          try clear q1
          try clear hx1
          try clear c2
          try clear p2
          try clear c4
          try clear c5
          try clear c6
          try clear p6
          try clear c10
          try clear c10b0
          try clear c11
          try clear c12
          try clear c13
          try clear c13b0
          try clear c14
          try clear c15
          try clear c17
          try clear p19
          try clear q19
          try clear hx19
          try clear c24
          try clear c24b0
          try clear c24b1
          try clear c46
          try clear c51
          try clear hcz47_0
          try clear hcz47_1
          try clear hcz52_0
          try clear hcz52_1
          try clear hcz55_0
          try clear hcz55_1
          try clear hcz55_2
          try clear hfz47_0
          try clear hfz47_1
          try clear hfz52_0
          try clear hfz52_1
          try clear hfz55_0
          try clear hfz55_1
          try clear hfz55_2
          try clear hx194_0
          try clear hx194_1
          try clear p194
          try clear q194
          obtain ⟨x87_3, rfl, HA, HK3, BK191, HB⟩ := hrel
          cases gk with
          | zero => exact absurd HA.out (by simp [impl_WheelRight.l2])
          | succ k3 =>
           have H := HA.out
           clear HA
           simp only [impl_WheelRight.l2] at H
           by_cases c56 : x87_3 < (l0_2.length : Int)
           ·
            rw [if_pos c56] at H
            have c56b0 : decide (x87_3 < (l0_2.length : Int)) = true := decide_eq_true c56
            clear c56
            by_cases c57 : 0 ≤ x87_3
            ·
             rw [if_pos c57] at H
             have c57b0 : decide (0 ≤ x87_3) = true := decide_eq_true c57
             clear c57
             by_cases c58 : x87_3 < (l0_2.length : Int)
             ·
              rw [if_pos c58] at H
              have c58b0 : decide (x87_3 < (l0_2.length : Int)) = true := decide_eq_true c58
              clear c58
              replace H := Option.bind_eq_some_iff.mp H
              obtain ⟨t200, A590, H⟩ := H
              replace H : (if t200 = true then (if x87_3 > 0 then (if 0 ≤ (wrap64 (x87_3 - 1)) then (if (wrap64 (x87_3 - 1)) < (l0_2.length : Int) then ((impl_byTime.f k3 ((rd_T91 l0_2 (wrap64 (x87_3 - 1))).f0) ((rd_T91 l0_2 (wrap64 (x87_3 - 1))).f1) ((rd_T91 l0_2 x87_3).f0) ((rd_T91 l0_2 x87_3).f1)).bind fun t202 => (if t202 ≥ 0 then (some false) else (impl_WheelRight.l2 k3 x3_2 l0_2 (l0_2.length : Int) (wrap64 (x87_3 + 1)) a0_0 l0_1 l0_2))) else (none)) else (none)) else (impl_WheelRight.l2 k3 x3_2 l0_2 (l0_2.length : Int) (wrap64 (x87_3 + 1)) a0_0 l0_1 l0_2)) else (some false)) = some r := H
              have A59 := Aside0.mk A590
              clear A590
              by_cases c60 : t200 = true
              ·
               subst c60
               have H1 : (if x87_3 > 0 then (if 0 ≤ (wrap64 (x87_3 - 1)) then (if (wrap64 (x87_3 - 1)) < (l0_2.length : Int) then ((impl_byTime.f k3 ((rd_T91 l0_2 (wrap64 (x87_3 - 1))).f0) ((rd_T91 l0_2 (wrap64 (x87_3 - 1))).f1) ((rd_T91 l0_2 x87_3).f0) ((rd_T91 l0_2 x87_3).f1)).bind fun t202 => (if t202 ≥ 0 then (some false) else (impl_WheelRight.l2 k3 x3_2 l0_2 (l0_2.length : Int) (wrap64 (x87_3 + 1)) a0_0 l0_1 l0_2))) else (none)) else (none)) else (impl_WheelRight.l2 k3 x3_2 l0_2 (l0_2.length : Int) (wrap64 (x87_3 + 1)) a0_0 l0_1 l0_2)) = some r := by rw [if_pos rfl] at H; exact H
               clear H
               have H := H1
               clear H1
               by_cases c61 : x87_3 > 0
               ·
                rw [if_pos c61] at H
                have c61b0 : decide (0 < x87_3) = true := decide_eq_true c61
                clear c61
                obtain ⟨ji62, hji62⟩ : ∃ j_ : Int, (wrap64 (x87_3 - 1)) = j_ := ⟨_, rfl⟩
                replace H : (if 0 ≤ (ji62) then (if (ji62) < (l0_2.length : Int) then ((impl_byTime.f k3 ((rd_T91 l0_2 (ji62)).f0) ((rd_T91 l0_2 (ji62)).f1) ((rd_T91 l0_2 x87_3).f0) ((rd_T91 l0_2 x87_3).f1)).bind fun t202 => (if t202 ≥ 0 then (some false) else (impl_WheelRight.l2 k3 x3_2 l0_2 (l0_2.length : Int) (wrap64 (x87_3 + 1)) a0_0 l0_1 l0_2))) else (none)) else (none)) = some r := by first | (rw [hji62] at H; exact H) | (simp only [hji62] at H ⊢; exact H)
                (try rw [hji62] at A59)
                have hji62w : (IntKind.i64.wrap (x87_3 - 1)) = ji62 := (i64_w _).trans hji62
                by_cases c63 : 0 ≤ (ji62)
                ·
                 rw [if_pos c63] at H
                 have c63b0 : decide (0 ≤ (ji62)) = true := decide_eq_true c63
                 clear c63
                 by_cases c64 : (ji62) < (l0_2.length : Int)
                 ·
                  rw [if_pos c64] at H
                  have c64b0 : decide ((ji62) < (l0_2.length : Int)) = true := decide_eq_true c64
                  clear c64
                  replace H := Option.bind_eq_some_iff.mp H
                  obtain ⟨t202, A650, H⟩ := H
                  replace H : (if t202 ≥ 0 then (some false) else (impl_WheelRight.l2 k3 x3_2 l0_2 (l0_2.length : Int) (wrap64 (x87_3 + 1)) a0_0 l0_1 l0_2)) = some r := H
                  have A65 := Aside0.mk A650
                  clear A650
                  by_cases c66 : t202 ≥ 0
                  ·
                   rw [if_pos c66] at H
                   have c66b0 : decide (0 ≤ t202) = true := decide_eq_true c66
                   clear c66
                   obtain rfl := Option.some.inj H
                   have p198 : 0 ≤ (x87_3 : Int) := of_decide_eq_true (by first | (with_reducible assumption) | assumption)
                   have q198 : x87_3 < (l0_2.length : Int) := of_decide_eq_true (by first | (with_reducible assumption) | assumption)
                   obtain ⟨ad198, e198, hx198_0, hx198_1⟩ := at_T91 HR0_2.out x87_3 p198 q198
                   cases e198
                   replace hx198_0 := (HB.out.cell (World.block_lt_of_cell? w _ hx198_0)).trans hx198_0
                   replace hx198_1 := (HB.out.cell (World.block_lt_of_cell? w _ hx198_1)).trans hx198_1
                   replace p198 := eq_true p198
                   replace q198 := eq_true q198
                   try go_wp2_with (first | ((with_reducible refine gate_dst (N := 9) rfl ?_); (try (refine gate_guard (by rfl) ?_; dsimp only)); refine box_event ?hg (N := 9) ?hd (cs := #[.int .i64 0, .int .i64 0]) (t := 91) ?hr ?_; (case hd => rfl); (case hg => rfl); (case hr => first | (go_simp; done) | (go_simp; rfl)); intro gb199 hg w67 hbox hb; have n0_ := Aside0.mk (blk_below (up_5 BK191.out) hb); have n1_ := Aside0.mk (below_step (by repeat (first | (with_reducible first | exact HB.out | apply below_alloc | apply pw_below_drewN | apply below_drew1 | refine below_set ?_ GE191.out) | exact HB.out)) hb); have n2_ := Aside0.mk (hbox); have n3_ := Aside0.mk ((by rw [hg]; exact (below_size (by repeat (first | (with_reducible first | exact HB.out | apply below_alloc | apply pw_below_drewN | apply below_drew1 | refine below_set ?_ GE191.out) | exact HB.out))) : w.heap.size ≤ gb199)); have n4_ := Aside0.mk ((by rw [hg]; exact (below_size (by repeat (first | (with_reducible first | exact HB.out | apply below_alloc | apply pw_below_drewN | apply below_drew1 | refine below_set ?_ GE191.out) | exact HB.out))) : w.heap.size ≤ gb199)); have n5_ := Aside0.mk ((by rw [hg]; exact Nat.ne_of_lt (blk_lt (up_5 BK191.out)) : gb191 ≠ gb199)); have n6_ := Aside0.mk ((by rw [hg]; exact Nat.ne_of_gt (blk_lt (up_5 BK191.out)) : gb199 ≠ gb191)); clear BK191; clear HB; have BK191 := n0_; have HB := n1_; have BK199 := n2_; have GW199 := n3_; have GE199 := n4_; have NB191_199 := n5_; have NB199_191 := n6_; clear n0_ n1_ n2_ n3_ n4_ n5_ n6_; clear hb hbox hg; have hnb68 := NB199_191.out; have hnc68 := NB191_199.out; have hcz69_0 : w67.cell? ⟨gb199, 0, none⟩ = some (.int .i64 0) := (blk_cell BK199.out 0).trans rfl; have hcz69_1 : w67.cell? ⟨gb199, 1, none⟩ = some (.int .i64 0) := (blk_cell BK199.out 1).trans rfl; have hfz69_0 := blk_frozen BK199.out 0; have hfz69_1 := blk_frozen BK199.out 1))
                   have n0_ : Aside0 (((w67.setCell ⟨gb199, 0, none⟩ (.int .i64 ((rd_T91 l0_2 x87_3).f0))).setCell ⟨gb199, 1, none⟩ (.int .i64 ((rd_T91 l0_2 x87_3).f1))).heap[gb191]? = some (.cells #[.int .i64 a0_0, .slice A0_1 l0_1.length c0_1, .slice (some ad198) l0_2.length c0_2] 45 (0, 0))) := ⟨by (with_reducible repeat (first | refine blk_drewN ?_ _ | refine blk_drew ?_ | refine blk_alloc ?_ _)); refine blk_far ?_ NB191_199.out _; (with_reducible repeat (first | refine blk_drewN ?_ _ | refine blk_drew ?_ | refine blk_alloc ?_ _)); refine blk_far ?_ NB191_199.out _; (with_reducible repeat (first | refine blk_drewN ?_ _ | refine blk_drew ?_ | refine blk_alloc ?_ _)); exact BK191.out⟩
                   have n1_ : Aside0 (((w67.setCell ⟨gb199, 0, none⟩ (.int .i64 ((rd_T91 l0_2 x87_3).f0))).setCell ⟨gb199, 1, none⟩ (.int .i64 ((rd_T91 l0_2 x87_3).f1))).heap[gb199]? = some (.cells #[.int .i64 ((rd_T91 l0_2 x87_3).f0), .int .i64 ((rd_T91 l0_2 x87_3).f1)] 91 (0, 0))) := ⟨by (with_reducible repeat (first | refine blk_drewN ?_ _ | refine blk_drew ?_ | refine blk_alloc ?_ _)); refine blk_put (cs := #[.int .i64 ((rd_T91 l0_2 x87_3).f0), .int .i64 0]) ?_ 1 _ rfl; (with_reducible repeat (first | refine blk_drewN ?_ _ | refine blk_drew ?_ | refine blk_alloc ?_ _)); refine blk_put (cs := #[.int .i64 0, .int .i64 0]) ?_ 0 _ rfl; (with_reducible repeat (first | refine blk_drewN ?_ _ | refine blk_drew ?_ | refine blk_alloc ?_ _)); exact BK199.out⟩
                   have n2_ : Aside0 (Below w.heap.size w ((w67.setCell ⟨gb199, 0, none⟩ (.int .i64 ((rd_T91 l0_2 x87_3).f0))).setCell ⟨gb199, 1, none⟩ (.int .i64 ((rd_T91 l0_2 x87_3).f1)))) := ⟨by repeat (first | (with_reducible first | exact HB.out | apply below_alloc | apply pw_below_drewN | apply below_drew1 | refine below_set ?_ GE191.out | refine below_set ?_ GE199.out) | exact HB.out)⟩
                   (try clear BK191)
                   (try clear BK199)
                   (try clear HB)
                   generalize ((w67.setCell ⟨gb199, 0, none⟩ (.int .i64 ((rd_T91 l0_2 x87_3).f0))).setCell ⟨gb199, 1, none⟩ (.int .i64 ((rd_T91 l0_2 x87_3).f1))) = w70 at n0_ n1_ n2_ ⊢
                   have BK191 := n0_
                   have BK199 := n1_
                   have HB := n2_
                   clear n0_ n1_ n2_
                   have n0_ := Aside0.mk (blk_drew BK191.out)
                   have n1_ := Aside0.mk (blk_drew BK199.out)
                   have n2_ := Aside0.mk (below_drew1 HB.out)
                   clear BK191
                   clear BK199
                   clear HB
                   have BK191 := n0_
                   have BK199 := n1_
                   have HB := n2_
                   clear n0_ n1_ n2_
                   have p201 : 0 ≤ ((ji62) : Int) := of_decide_eq_true (by first | (with_reducible assumption) | assumption)
                   have q201 : (ji62) < (l0_2.length : Int) := of_decide_eq_true (by first | (with_reducible assumption) | assumption)
                   obtain ⟨ad201, e201, hx201_0, hx201_1⟩ := at_T91 HR0_2.out (ji62) p201 q201
                   have hw201_1 := hx201_1
                   have hw201_0 := hx201_0
                   obtain rfl : ad198 = ad201 := (by injection e201)
                   replace hx201_0 := (HB.out.cell (World.block_lt_of_cell? w _ hx201_0)).trans hx201_0
                   replace hx201_1 := (HB.out.cell (World.block_lt_of_cell? w _ hx201_1)).trans hx201_1
                   replace p201 := eq_true p201
                   replace q201 := eq_true q201
                   refine start_ (n := 23) (S := fun w' => w'.cell? ⟨gb199, 0, none⟩ = some (.int .i64 ((rd_T91 l0_2 x87_3).f0)) ∧ w'.cell? ⟨gb199, 1, none⟩ = some (.int .i64 ((rd_T91 l0_2 x87_3).f1)) ∧ w'.cell? ⟨gb191, 0, none⟩ = some (.int .i64 a0_0) ∧ w'.cell? ⟨gb191, 1, none⟩ = some (.slice A0_1 l0_1.length c0_1) ∧ w'.cell? ⟨gb191, 2, none⟩ = some (.slice (some ad198) l0_2.length c0_2) ∧ w'.cell? (ad198.add (((ji62)).toNat * 2)) = some (.int .i64 ((rd_T91 l0_2 (ji62)).f0)) ∧ w'.cell? ⟨(ad198.add (((ji62)).toNat * 2)).block, (ad198.add (((ji62)).toNat * 2)).off + 1, none⟩ = some (.int .i64 ((rd_T91 l0_2 (ji62)).f1))) (ds := []) #[false, false, false, false, false, false, false, false, false, false, false, false, false, false, false, false, false, false, false, false, false, false, false] (by kernel_rfl) rfl rfl ⟨(blk_cell BK199.out 0).trans rfl, (blk_cell BK199.out 1).trans rfl, (blk_cell BK191.out 0).trans rfl, (blk_cell BK191.out 1).trans rfl, (blk_cell BK191.out 2).trans rfl, ((HB.out.cell (World.block_lt_of_cell? w _ hw201_0)).trans hw201_0), ((HB.out.cell (World.block_lt_of_cell? w _ hw201_1)).trans hw201_1)⟩ (fun hHeld => ?_); refine with_tabW impl_WheelRight.tab18 impl_WheelRight.bits18 (fun HT_ HW_ => ?_)
                   generalize w70.drew = w71 at BK191 BK199 HB hx201_0 hx201_1 hHeld ⊢
                   refine pu_5 0 92 #[o_5,x_5,x_5,x_5,x_5,x_5,x_5,x_5,x_5,x_5,x_5,x_5,x_5,x_5,x_5,x_5,x_5,x_5,x_5,x_5,x_5,x_5,x_5] HT_ rfl rfl (by kernel_rfl) ?_
                   refine pu_5 2 94 #[o_5,x_5,o_5,x_5,x_5,x_5,x_5,x_5,x_5,x_5,x_5,x_5,x_5,x_5,x_5,x_5,x_5,x_5,x_5,x_5,x_5,x_5,x_5] HT_ rfl rfl (by kernel_rfl) ?_
                   refine tk_5 1 93 #[o_5,o_5,o_5,x_5,x_5,x_5,x_5,x_5,x_5,x_5,x_5,x_5,x_5,x_5,x_5,x_5,x_5,x_5,x_5,x_5,x_5,x_5,x_5] HT_ HW_ hHeld rfl rfl (by kernel_rfl) ?_ (by rintro w' ⟨s0, s1, s2, s3, s4, s5, s6⟩; go_simp; with_reducible rfl)
                   refine tk_5 3 95 #[o_5,o_5,o_5,o_5,x_5,x_5,x_5,x_5,x_5,x_5,x_5,x_5,x_5,x_5,x_5,x_5,x_5,x_5,x_5,x_5,x_5,x_5,x_5] HT_ HW_ hHeld rfl rfl (by kernel_rfl) ?_ (by rintro w' ⟨s0, s1, s2, s3, s4, s5, s6⟩; go_simp; with_reducible rfl)
                   refine pu_5 4 96 #[o_5,o_5,o_5,o_5,o_5,x_5,x_5,x_5,x_5,x_5,x_5,x_5,x_5,x_5,x_5,x_5,x_5,x_5,x_5,x_5,x_5,x_5,x_5] HT_ rfl rfl (by kernel_rfl) ?_
                   refine pu_5 5 97 #[o_5,o_5,o_5,o_5,o_5,o_5,x_5,x_5,x_5,x_5,x_5,x_5,x_5,x_5,x_5,x_5,x_5,x_5,x_5,x_5,x_5,x_5,x_5] HT_ rfl rfl (by kernel_rfl) ?_
                   refine one_ (i := 6) (N := some 98) #[o_5,o_5,o_5,o_5,o_5,o_5,o_5,x_5,x_5,x_5,x_5,x_5,x_5,x_5,x_5,x_5,x_5,x_5,x_5,x_5,x_5,x_5,x_5] rfl rfl (one_of HT_.out (by kernel_rfl)) (by decide) (fun K hK => ?_)
                   refine goes_ Try.func69 (by kernel_rfl) rfl #[.int .i64 ((rd_T91 l0_2 x87_3).f1), .int .i64 (wrap64 ((wrap64 (a0_0 + 16)) + 1)), .int .i64 1000000] (by rfl) rfl rfl (by (try simp only [List.map_toArray, List.map_cons, List.map_nil]); first | done | rfl | (simp only [List.length_drop, List.length_take]; rfl)) ?_
                   with_reducible refine (impl_in.calls ((rd_T91 l0_2 x87_3).f1) (wrap64 ((wrap64 (a0_0 + 16)) + 1)) 1000000 true _ A59.out).mono ?_
                   rintro e w' ⟨rfl, ⟨nd, rfl⟩⟩
                   refine ⟨_, rfl, ?_⟩
                   refine hK.out _ _ ⟨(blk_cell BK199.out 0).trans rfl, (blk_cell BK199.out 1).trans rfl, (blk_cell BK191.out 0).trans rfl, (blk_cell BK191.out 1).trans rfl, (blk_cell BK191.out 2).trans rfl, ((HB.out.cell (World.block_lt_of_cell? w _ hw201_0)).trans hw201_0), ((HB.out.cell (World.block_lt_of_cell? w _ hw201_1)).trans hw201_1)⟩ (fun hHeld => ?_)
                   clear hK K
                   refine norm_ (a' := ?_) ?_ ?_
                   rotate_left
                   ·
                    show Act.put _ (some 98) _ = _
                    simp only [Act.put, List.setIfInBounds_toArray, List.set_cons_zero, List.set_cons_succ, i64_w, i32_w]
                    rfl
                   refine pu_5 7 99 #[o_5,o_5,o_5,o_5,o_5,o_5,o_5,o_5,x_5,x_5,x_5,x_5,x_5,x_5,x_5,x_5,x_5,x_5,x_5,x_5,x_5,x_5,x_5] HT_ rfl rfl (by kernel_rfl) ?_
                   refine pu_5 8 100 #[o_5,o_5,o_5,o_5,o_5,o_5,o_5,o_5,o_5,x_5,x_5,x_5,x_5,x_5,x_5,x_5,x_5,x_5,x_5,x_5,x_5,x_5,x_5] HT_ rfl rfl (by kernel_rfl) ?_
                   refine pu_5 9 101 #[o_5,o_5,o_5,o_5,o_5,o_5,o_5,o_5,o_5,o_5,x_5,x_5,x_5,x_5,x_5,x_5,x_5,x_5,x_5,x_5,x_5,x_5,x_5] HT_ rfl rfl (by kernel_rfl) ?_
                   refine pu_5 10 102 #[o_5,o_5,o_5,o_5,o_5,o_5,o_5,o_5,o_5,o_5,o_5,x_5,x_5,x_5,x_5,x_5,x_5,x_5,x_5,x_5,x_5,x_5,x_5] HT_ rfl rfl (by kernel_rfl) ?_
                   refine pu_5 11 103 #[o_5,o_5,o_5,o_5,o_5,o_5,o_5,o_5,o_5,o_5,o_5,o_5,x_5,x_5,x_5,x_5,x_5,x_5,x_5,x_5,x_5,x_5,x_5] HT_ rfl rfl (by kernel_rfl) ?_
                   refine pu_5 12 104 #[o_5,o_5,o_5,o_5,o_5,o_5,o_5,o_5,o_5,o_5,o_5,o_5,o_5,x_5,x_5,x_5,x_5,x_5,x_5,x_5,x_5,x_5,x_5] HT_ rfl rfl (by kernel_rfl) ?_
                   refine pu_5 14 106 #[o_5,o_5,o_5,o_5,o_5,o_5,o_5,o_5,o_5,o_5,o_5,o_5,o_5,x_5,o_5,x_5,x_5,x_5,x_5,x_5,x_5,x_5,x_5] HT_ rfl rfl (by kernel_rfl) ?_
                   refine pu_5 15 107 #[o_5,o_5,o_5,o_5,o_5,o_5,o_5,o_5,o_5,o_5,o_5,o_5,o_5,x_5,o_5,o_5,x_5,x_5,x_5,x_5,x_5,x_5,x_5] HT_ rfl rfl (by kernel_rfl) ?_
                   refine tk_5 13 105 #[o_5,o_5,o_5,o_5,o_5,o_5,o_5,o_5,o_5,o_5,o_5,o_5,o_5,o_5,o_5,o_5,x_5,x_5,x_5,x_5,x_5,x_5,x_5] HT_ HW_ hHeld rfl rfl (by kernel_rfl) ?_ (by rintro w' ⟨s0, s1, s2, s3, s4, s5, s6⟩; go_simp; with_reducible rfl)
                   refine pu_5 16 108 #[o_5,o_5,o_5,o_5,o_5,o_5,o_5,o_5,o_5,o_5,o_5,o_5,o_5,o_5,o_5,o_5,o_5,x_5,x_5,x_5,x_5,x_5,x_5] HT_ rfl rfl (by kernel_rfl) ?_
                   refine tk_5 17 109 #[o_5,o_5,o_5,o_5,o_5,o_5,o_5,o_5,o_5,o_5,o_5,o_5,o_5,o_5,o_5,o_5,o_5,o_5,x_5,x_5,x_5,x_5,x_5] HT_ HW_ hHeld rfl rfl (by kernel_rfl) ?_ (by rintro w' ⟨s0, s1, s2, s3, s4, s5, s6⟩; go_simp; with_reducible rfl)
                   refine tk_5 18 110 #[o_5,o_5,o_5,o_5,o_5,o_5,o_5,o_5,o_5,o_5,o_5,o_5,o_5,o_5,o_5,o_5,o_5,o_5,o_5,x_5,x_5,x_5,x_5] HT_ HW_ hHeld rfl rfl (by kernel_rfl) ?_ (by rintro w' ⟨s0, s1, s2, s3, s4, s5, s6⟩; go_simp; with_reducible rfl)
                   refine one_ (i := 19) (N := some 111) #[o_5,o_5,o_5,o_5,o_5,o_5,o_5,o_5,o_5,o_5,o_5,o_5,o_5,o_5,o_5,o_5,o_5,o_5,o_5,o_5,x_5,x_5,x_5] rfl rfl (one_of HT_.out (by kernel_rfl)) (by decide) (fun K hK => ?_)
                   refine goes_ Try.func70 (by kernel_rfl) rfl #[.agg #[.int .i64 ((rd_T91 l0_2 (ji62)).f0), .int .i64 ((rd_T91 l0_2 (ji62)).f1)], .agg #[.int .i64 ((rd_T91 l0_2 x87_3).f0), .int .i64 ((rd_T91 l0_2 x87_3).f1)]] (by rfl) rfl rfl (by (try simp only [List.map_toArray, List.map_cons, List.map_nil]); first | done | (simp only [hji62]; rfl) | rfl | (simp only [List.length_drop, List.length_take]; rfl)) ?_
                   with_reducible refine (impl_byTime.calls k3 ((rd_T91 l0_2 (ji62)).f0) ((rd_T91 l0_2 (ji62)).f1) ((rd_T91 l0_2 x87_3).f0) ((rd_T91 l0_2 x87_3).f1) t202 _ A65.out).mono ?_
                   rintro e w72 ⟨rfl, hb⟩
                   refine ⟨_, rfl, ?_⟩
                   have n0_ := Aside0.mk (blk_below (up_5 BK191.out) hb)
                   have n1_ := Aside0.mk (blk_below (up_5 BK199.out) hb)
                   have n2_ := Aside0.mk (below_step (by repeat (first | (with_reducible first | exact HB.out | apply below_alloc | apply pw_below_drewN | apply below_drew1 | refine below_set ?_ GE191.out | refine below_set ?_ GE199.out) | exact HB.out)) hb)
                   clear BK191
                   clear BK199
                   clear HB
                   have BK191 := n0_
                   have BK199 := n1_
                   have HB := n2_
                   clear n0_ n1_ n2_
                   (try clear hb)
                   (try clear hb2)
                   (try clear hk)
                   (try clear hi)
                   refine hK.out _ _ ⟨(blk_cell BK199.out 0).trans rfl, (blk_cell BK199.out 1).trans rfl, (blk_cell BK191.out 0).trans rfl, (blk_cell BK191.out 1).trans rfl, (blk_cell BK191.out 2).trans rfl, ((HB.out.cell (World.block_lt_of_cell? w _ hw201_0)).trans hw201_0), ((HB.out.cell (World.block_lt_of_cell? w _ hw201_1)).trans hw201_1)⟩ (fun hHeld => ?_)
                   clear hK K
                   refine norm_ (a' := ?_) ?_ ?_
                   rotate_left
                   ·
                    show Act.put _ (some 111) _ = _
                    simp only [Act.put, List.setIfInBounds_toArray, List.set_cons_zero, List.set_cons_succ, i64_w, i32_w]
                    rfl
                   refine pu_5 20 112 #[o_5,o_5,o_5,o_5,o_5,o_5,o_5,o_5,o_5,o_5,o_5,o_5,o_5,o_5,o_5,o_5,o_5,o_5,o_5,o_5,o_5,x_5,x_5] HT_ rfl rfl (by kernel_rfl) ?_
                   refine pu_5 21 113 #[o_5,o_5,o_5,o_5,o_5,o_5,o_5,o_5,o_5,o_5,o_5,o_5,o_5,o_5,o_5,o_5,o_5,o_5,o_5,o_5,o_5,o_5,x_5] HT_ rfl rfl (by kernel_rfl) ?_
                   refine pu_5 22 114 #[o_5,o_5,o_5,o_5,o_5,o_5,o_5,o_5,o_5,o_5,o_5,o_5,o_5,o_5,o_5,o_5,o_5,o_5,o_5,o_5,o_5,o_5,o_5] HT_ rfl rfl (by kernel_rfl) ?_
                   refine done_ (done_of HT_.out (by kernel_rfl)) ?_
                   try go_wp2
                   go_ret
                   exact ⟨by first | rfl | (simp [errW_none, errW_some] <;> rfl) | (simp only [← hji62]; first | rfl | (simp [errW_none, errW_some] <;> rfl)) | (simp [*, errW_none, errW_some] <;> rfl), by repeat (first | (with_reducible first | exact HB.out | apply below_alloc | apply pw_below_drewN | apply below_drew1 | refine below_set ?_ GE191.out | refine below_set ?_ GE199.out) | exact HB.out)⟩
                  ·
                   rw [if_neg c66] at H
                   have c66b0 : decide (0 ≤ t202) = false := decide_eq_false c66
                   clear c66
                   have H' := Aside0.mk H
                   clear H
                   have p198 : 0 ≤ (x87_3 : Int) := of_decide_eq_true (by first | (with_reducible assumption) | assumption)
                   have q198 : x87_3 < (l0_2.length : Int) := of_decide_eq_true (by first | (with_reducible assumption) | assumption)
                   obtain ⟨ad198, e198, hx198_0, hx198_1⟩ := at_T91 HR0_2.out x87_3 p198 q198
                   cases e198
                   replace hx198_0 := (HB.out.cell (World.block_lt_of_cell? w _ hx198_0)).trans hx198_0
                   replace hx198_1 := (HB.out.cell (World.block_lt_of_cell? w _ hx198_1)).trans hx198_1
                   replace p198 := eq_true p198
                   replace q198 := eq_true q198
                   try go_wp2_with (first | ((with_reducible refine gate_dst (N := 9) rfl ?_); (try (refine gate_guard (by rfl) ?_; dsimp only)); refine box_event ?hg (N := 9) ?hd (cs := #[.int .i64 0, .int .i64 0]) (t := 91) ?hr ?_; (case hd => rfl); (case hg => rfl); (case hr => first | (go_simp; done) | (go_simp; rfl)); intro gb199 hg w73 hbox hb; have n0_ := Aside0.mk (blk_below (up_5 BK191.out) hb); have n1_ := Aside0.mk (below_step (by repeat (first | (with_reducible first | exact HB.out | apply below_alloc | apply pw_below_drewN | apply below_drew1 | refine below_set ?_ GE191.out) | exact HB.out)) hb); have n2_ := Aside0.mk (hbox); have n3_ := Aside0.mk ((by rw [hg]; exact (below_size (by repeat (first | (with_reducible first | exact HB.out | apply below_alloc | apply pw_below_drewN | apply below_drew1 | refine below_set ?_ GE191.out) | exact HB.out))) : w.heap.size ≤ gb199)); have n4_ := Aside0.mk ((by rw [hg]; exact (below_size (by repeat (first | (with_reducible first | exact HB.out | apply below_alloc | apply pw_below_drewN | apply below_drew1 | refine below_set ?_ GE191.out) | exact HB.out))) : w.heap.size ≤ gb199)); have n5_ := Aside0.mk ((by rw [hg]; exact Nat.ne_of_lt (blk_lt (up_5 BK191.out)) : gb191 ≠ gb199)); have n6_ := Aside0.mk ((by rw [hg]; exact Nat.ne_of_gt (blk_lt (up_5 BK191.out)) : gb199 ≠ gb191)); clear BK191; clear HB; have BK191 := n0_; have HB := n1_; have BK199 := n2_; have GW199 := n3_; have GE199 := n4_; have NB191_199 := n5_; have NB199_191 := n6_; clear n0_ n1_ n2_ n3_ n4_ n5_ n6_; clear hb hbox hg; have hnb74 := NB199_191.out; have hnc74 := NB191_199.out; have hcz75_0 : w73.cell? ⟨gb199, 0, none⟩ = some (.int .i64 0) := (blk_cell BK199.out 0).trans rfl; have hcz75_1 : w73.cell? ⟨gb199, 1, none⟩ = some (.int .i64 0) := (blk_cell BK199.out 1).trans rfl; have hfz75_0 := blk_frozen BK199.out 0; have hfz75_1 := blk_frozen BK199.out 1))
                   have n0_ : Aside0 (((w73.setCell ⟨gb199, 0, none⟩ (.int .i64 ((rd_T91 l0_2 x87_3).f0))).setCell ⟨gb199, 1, none⟩ (.int .i64 ((rd_T91 l0_2 x87_3).f1))).heap[gb191]? = some (.cells #[.int .i64 a0_0, .slice A0_1 l0_1.length c0_1, .slice (some ad198) l0_2.length c0_2] 45 (0, 0))) := ⟨by (with_reducible repeat (first | refine blk_drewN ?_ _ | refine blk_drew ?_ | refine blk_alloc ?_ _)); refine blk_far ?_ NB191_199.out _; (with_reducible repeat (first | refine blk_drewN ?_ _ | refine blk_drew ?_ | refine blk_alloc ?_ _)); refine blk_far ?_ NB191_199.out _; (with_reducible repeat (first | refine blk_drewN ?_ _ | refine blk_drew ?_ | refine blk_alloc ?_ _)); exact BK191.out⟩
                   have n1_ : Aside0 (((w73.setCell ⟨gb199, 0, none⟩ (.int .i64 ((rd_T91 l0_2 x87_3).f0))).setCell ⟨gb199, 1, none⟩ (.int .i64 ((rd_T91 l0_2 x87_3).f1))).heap[gb199]? = some (.cells #[.int .i64 ((rd_T91 l0_2 x87_3).f0), .int .i64 ((rd_T91 l0_2 x87_3).f1)] 91 (0, 0))) := ⟨by (with_reducible repeat (first | refine blk_drewN ?_ _ | refine blk_drew ?_ | refine blk_alloc ?_ _)); refine blk_put (cs := #[.int .i64 ((rd_T91 l0_2 x87_3).f0), .int .i64 0]) ?_ 1 _ rfl; (with_reducible repeat (first | refine blk_drewN ?_ _ | refine blk_drew ?_ | refine blk_alloc ?_ _)); refine blk_put (cs := #[.int .i64 0, .int .i64 0]) ?_ 0 _ rfl; (with_reducible repeat (first | refine blk_drewN ?_ _ | refine blk_drew ?_ | refine blk_alloc ?_ _)); exact BK199.out⟩
                   have n2_ : Aside0 (Below w.heap.size w ((w73.setCell ⟨gb199, 0, none⟩ (.int .i64 ((rd_T91 l0_2 x87_3).f0))).setCell ⟨gb199, 1, none⟩ (.int .i64 ((rd_T91 l0_2 x87_3).f1)))) := ⟨by repeat (first | (with_reducible first | exact HB.out | apply below_alloc | apply pw_below_drewN | apply below_drew1 | refine below_set ?_ GE191.out | refine below_set ?_ GE199.out) | exact HB.out)⟩
                   (try clear BK191)
                   (try clear BK199)
                   (try clear HB)
                   generalize ((w73.setCell ⟨gb199, 0, none⟩ (.int .i64 ((rd_T91 l0_2 x87_3).f0))).setCell ⟨gb199, 1, none⟩ (.int .i64 ((rd_T91 l0_2 x87_3).f1))) = w76 at n0_ n1_ n2_ ⊢
                   have BK191 := n0_
                   have BK199 := n1_
                   have HB := n2_
                   clear n0_ n1_ n2_
                   have n0_ := Aside0.mk (blk_drew BK191.out)
                   have n1_ := Aside0.mk (blk_drew BK199.out)
                   have n2_ := Aside0.mk (below_drew1 HB.out)
                   clear BK191
                   clear BK199
                   clear HB
                   have BK191 := n0_
                   have BK199 := n1_
                   have HB := n2_
                   clear n0_ n1_ n2_
                   have p201 : 0 ≤ ((ji62) : Int) := of_decide_eq_true (by first | (with_reducible assumption) | assumption)
                   have q201 : (ji62) < (l0_2.length : Int) := of_decide_eq_true (by first | (with_reducible assumption) | assumption)
                   obtain ⟨ad201, e201, hx201_0, hx201_1⟩ := at_T91 HR0_2.out (ji62) p201 q201
                   have hw201_1 := hx201_1
                   have hw201_0 := hx201_0
                   obtain rfl : ad198 = ad201 := (by injection e201)
                   replace hx201_0 := (HB.out.cell (World.block_lt_of_cell? w _ hx201_0)).trans hx201_0
                   replace hx201_1 := (HB.out.cell (World.block_lt_of_cell? w _ hx201_1)).trans hx201_1
                   replace p201 := eq_true p201
                   replace q201 := eq_true q201
                   refine start_ (n := 23) (S := fun w' => w'.cell? ⟨gb199, 0, none⟩ = some (.int .i64 ((rd_T91 l0_2 x87_3).f0)) ∧ w'.cell? ⟨gb199, 1, none⟩ = some (.int .i64 ((rd_T91 l0_2 x87_3).f1)) ∧ w'.cell? ⟨gb191, 0, none⟩ = some (.int .i64 a0_0) ∧ w'.cell? ⟨gb191, 1, none⟩ = some (.slice A0_1 l0_1.length c0_1) ∧ w'.cell? ⟨gb191, 2, none⟩ = some (.slice (some ad198) l0_2.length c0_2) ∧ w'.cell? (ad198.add (((ji62)).toNat * 2)) = some (.int .i64 ((rd_T91 l0_2 (ji62)).f0)) ∧ w'.cell? ⟨(ad198.add (((ji62)).toNat * 2)).block, (ad198.add (((ji62)).toNat * 2)).off + 1, none⟩ = some (.int .i64 ((rd_T91 l0_2 (ji62)).f1))) (ds := []) #[false, false, false, false, false, false, false, false, false, false, false, false, false, false, false, false, false, false, false, false, false, false, false] (by kernel_rfl) rfl rfl ⟨(blk_cell BK199.out 0).trans rfl, (blk_cell BK199.out 1).trans rfl, (blk_cell BK191.out 0).trans rfl, (blk_cell BK191.out 1).trans rfl, (blk_cell BK191.out 2).trans rfl, ((HB.out.cell (World.block_lt_of_cell? w _ hw201_0)).trans hw201_0), ((HB.out.cell (World.block_lt_of_cell? w _ hw201_1)).trans hw201_1)⟩ (fun hHeld => ?_); refine with_tabW impl_WheelRight.tab18 impl_WheelRight.bits18 (fun HT_ HW_ => ?_)
                   generalize w76.drew = w77 at BK191 BK199 HB hx201_0 hx201_1 hHeld ⊢
                   refine pu_5 0 92 #[o_5,x_5,x_5,x_5,x_5,x_5,x_5,x_5,x_5,x_5,x_5,x_5,x_5,x_5,x_5,x_5,x_5,x_5,x_5,x_5,x_5,x_5,x_5] HT_ rfl rfl (by kernel_rfl) ?_
                   refine pu_5 2 94 #[o_5,x_5,o_5,x_5,x_5,x_5,x_5,x_5,x_5,x_5,x_5,x_5,x_5,x_5,x_5,x_5,x_5,x_5,x_5,x_5,x_5,x_5,x_5] HT_ rfl rfl (by kernel_rfl) ?_
                   refine tk_5 1 93 #[o_5,o_5,o_5,x_5,x_5,x_5,x_5,x_5,x_5,x_5,x_5,x_5,x_5,x_5,x_5,x_5,x_5,x_5,x_5,x_5,x_5,x_5,x_5] HT_ HW_ hHeld rfl rfl (by kernel_rfl) ?_ (by rintro w' ⟨s0, s1, s2, s3, s4, s5, s6⟩; go_simp; with_reducible rfl)
                   refine tk_5 3 95 #[o_5,o_5,o_5,o_5,x_5,x_5,x_5,x_5,x_5,x_5,x_5,x_5,x_5,x_5,x_5,x_5,x_5,x_5,x_5,x_5,x_5,x_5,x_5] HT_ HW_ hHeld rfl rfl (by kernel_rfl) ?_ (by rintro w' ⟨s0, s1, s2, s3, s4, s5, s6⟩; go_simp; with_reducible rfl)
                   refine pu_5 4 96 #[o_5,o_5,o_5,o_5,o_5,x_5,x_5,x_5,x_5,x_5,x_5,x_5,x_5,x_5,x_5,x_5,x_5,x_5,x_5,x_5,x_5,x_5,x_5] HT_ rfl rfl (by kernel_rfl) ?_
                   refine pu_5 5 97 #[o_5,o_5,o_5,o_5,o_5,o_5,x_5,x_5,x_5,x_5,x_5,x_5,x_5,x_5,x_5,x_5,x_5,x_5,x_5,x_5,x_5,x_5,x_5] HT_ rfl rfl (by kernel_rfl) ?_
                   refine one_ (i := 6) (N := some 98) #[o_5,o_5,o_5,o_5,o_5,o_5,o_5,x_5,x_5,x_5,x_5,x_5,x_5,x_5,x_5,x_5,x_5,x_5,x_5,x_5,x_5,x_5,x_5] rfl rfl (one_of HT_.out (by kernel_rfl)) (by decide) (fun K hK => ?_)
                   refine goes_ Try.func69 (by kernel_rfl) rfl #[.int .i64 ((rd_T91 l0_2 x87_3).f1), .int .i64 (wrap64 ((wrap64 (a0_0 + 16)) + 1)), .int .i64 1000000] (by rfl) rfl rfl (by (try simp only [List.map_toArray, List.map_cons, List.map_nil]); first | done | rfl | (simp only [List.length_drop, List.length_take]; rfl)) ?_
                   with_reducible refine (impl_in.calls ((rd_T91 l0_2 x87_3).f1) (wrap64 ((wrap64 (a0_0 + 16)) + 1)) 1000000 true _ A59.out).mono ?_
                   rintro e w' ⟨rfl, ⟨nd, rfl⟩⟩
                   refine ⟨_, rfl, ?_⟩
                   refine hK.out _ _ ⟨(blk_cell BK199.out 0).trans rfl, (blk_cell BK199.out 1).trans rfl, (blk_cell BK191.out 0).trans rfl, (blk_cell BK191.out 1).trans rfl, (blk_cell BK191.out 2).trans rfl, ((HB.out.cell (World.block_lt_of_cell? w _ hw201_0)).trans hw201_0), ((HB.out.cell (World.block_lt_of_cell? w _ hw201_1)).trans hw201_1)⟩ (fun hHeld => ?_)
                   clear hK K
                   refine norm_ (a' := ?_) ?_ ?_
                   rotate_left
                   ·
                    show Act.put _ (some 98) _ = _
                    simp only [Act.put, List.setIfInBounds_toArray, List.set_cons_zero, List.set_cons_succ, i64_w, i32_w]
                    rfl
                   refine pu_5 7 99 #[o_5,o_5,o_5,o_5,o_5,o_5,o_5,o_5,x_5,x_5,x_5,x_5,x_5,x_5,x_5,x_5,x_5,x_5,x_5,x_5,x_5,x_5,x_5] HT_ rfl rfl (by kernel_rfl) ?_
                   refine pu_5 8 100 #[o_5,o_5,o_5,o_5,o_5,o_5,o_5,o_5,o_5,x_5,x_5,x_5,x_5,x_5,x_5,x_5,x_5,x_5,x_5,x_5,x_5,x_5,x_5] HT_ rfl rfl (by kernel_rfl) ?_
                   refine pu_5 9 101 #[o_5,o_5,o_5,o_5,o_5,o_5,o_5,o_5,o_5,o_5,x_5,x_5,x_5,x_5,x_5,x_5,x_5,x_5,x_5,x_5,x_5,x_5,x_5] HT_ rfl rfl (by kernel_rfl) ?_
                   refine pu_5 10 102 #[o_5,o_5,o_5,o_5,o_5,o_5,o_5,o_5,o_5,o_5,o_5,x_5,x_5,x_5,x_5,x_5,x_5,x_5,x_5,x_5,x_5,x_5,x_5] HT_ rfl rfl (by kernel_rfl) ?_
                   refine pu_5 11 103 #[o_5,o_5,o_5,o_5,o_5,o_5,o_5,o_5,o_5,o_5,o_5,o_5,x_5,x_5,x_5,x_5,x_5,x_5,x_5,x_5,x_5,x_5,x_5] HT_ rfl rfl (by kernel_rfl) ?_
                   refine pu_5 12 104 #[o_5,o_5,o_5,o_5,o_5,o_5,o_5,o_5,o_5,o_5,o_5,o_5,o_5,x_5,x_5,x_5,x_5,x_5,x_5,x_5,x_5,x_5,x_5] HT_ rfl rfl (by kernel_rfl) ?_
                   refine pu_5 14 106 #[o_5,o_5,o_5,o_5,o_5,o_5,o_5,o_5,o_5,o_5,o_5,o_5,o_5,x_5,o_5,x_5,x_5,x_5,x_5,x_5,x_5,x_5,x_5] HT_ rfl rfl (by kernel_rfl) ?_
                   refine pu_5 15 107 #[o_5,o_5,o_5,o_5,o_5,o_5,o_5,o_5,o_5,o_5,o_5,o_5,o_5,x_5,o_5,o_5,x_5,x_5,x_5,x_5,x_5,x_5,x_5] HT_ rfl rfl (by kernel_rfl) ?_
                   refine tk_5 13 105 #[o_5,o_5,o_5,o_5,o_5,o_5,o_5,o_5,o_5,o_5,o_5,o_5,o_5,o_5,o_5,o_5,x_5,x_5,x_5,x_5,x_5,x_5,x_5] HT_ HW_ hHeld rfl rfl (by kernel_rfl) ?_ (by rintro w' ⟨s0, s1, s2, s3, s4, s5, s6⟩; go_simp; with_reducible rfl)
                   refine pu_5 16 108 #[o_5,o_5,o_5,o_5,o_5,o_5,o_5,o_5,o_5,o_5,o_5,o_5,o_5,o_5,o_5,o_5,o_5,x_5,x_5,x_5,x_5,x_5,x_5] HT_ rfl rfl (by kernel_rfl) ?_
                   refine tk_5 17 109 #[o_5,o_5,o_5,o_5,o_5,o_5,o_5,o_5,o_5,o_5,o_5,o_5,o_5,o_5,o_5,o_5,o_5,o_5,x_5,x_5,x_5,x_5,x_5] HT_ HW_ hHeld rfl rfl (by kernel_rfl) ?_ (by rintro w' ⟨s0, s1, s2, s3, s4, s5, s6⟩; go_simp; with_reducible rfl)
                   refine tk_5 18 110 #[o_5,o_5,o_5,o_5,o_5,o_5,o_5,o_5,o_5,o_5,o_5,o_5,o_5,o_5,o_5,o_5,o_5,o_5,o_5,x_5,x_5,x_5,x_5] HT_ HW_ hHeld rfl rfl (by kernel_rfl) ?_ (by rintro w' ⟨s0, s1, s2, s3, s4, s5, s6⟩; go_simp; with_reducible rfl)
                   refine one_ (i := 19) (N := some 111) #[o_5,o_5,o_5,o_5,o_5,o_5,o_5,o_5,o_5,o_5,o_5,o_5,o_5,o_5,o_5,o_5,o_5,o_5,o_5,o_5,x_5,x_5,x_5] rfl rfl (one_of HT_.out (by kernel_rfl)) (by decide) (fun K hK => ?_)
                   refine goes_ Try.func70 (by kernel_rfl) rfl #[.agg #[.int .i64 ((rd_T91 l0_2 (ji62)).f0), .int .i64 ((rd_T91 l0_2 (ji62)).f1)], .agg #[.int .i64 ((rd_T91 l0_2 x87_3).f0), .int .i64 ((rd_T91 l0_2 x87_3).f1)]] (by rfl) rfl rfl (by (try simp only [List.map_toArray, List.map_cons, List.map_nil]); first | done | (simp only [hji62]; rfl) | rfl | (simp only [List.length_drop, List.length_take]; rfl)) ?_
                   with_reducible refine (impl_byTime.calls k3 ((rd_T91 l0_2 (ji62)).f0) ((rd_T91 l0_2 (ji62)).f1) ((rd_T91 l0_2 x87_3).f0) ((rd_T91 l0_2 x87_3).f1) t202 _ A65.out).mono ?_
                   rintro e w78 ⟨rfl, hb⟩
                   refine ⟨_, rfl, ?_⟩
                   have n0_ := Aside0.mk (blk_below (up_5 BK191.out) hb)
                   have n1_ := Aside0.mk (blk_below (up_5 BK199.out) hb)
                   have n2_ := Aside0.mk (below_step (by repeat (first | (with_reducible first | exact HB.out | apply below_alloc | apply pw_below_drewN | apply below_drew1 | refine below_set ?_ GE191.out | refine below_set ?_ GE199.out) | exact HB.out)) hb)
                   clear BK191
                   clear BK199
                   clear HB
                   have BK191 := n0_
                   have BK199 := n1_
                   have HB := n2_
                   clear n0_ n1_ n2_
                   (try clear hb)
                   (try clear hb2)
                   (try clear hk)
                   (try clear hi)
                   refine hK.out _ _ ⟨(blk_cell BK199.out 0).trans rfl, (blk_cell BK199.out 1).trans rfl, (blk_cell BK191.out 0).trans rfl, (blk_cell BK191.out 1).trans rfl, (blk_cell BK191.out 2).trans rfl, ((HB.out.cell (World.block_lt_of_cell? w _ hw201_0)).trans hw201_0), ((HB.out.cell (World.block_lt_of_cell? w _ hw201_1)).trans hw201_1)⟩ (fun hHeld => ?_)
                   clear hK K
                   refine norm_ (a' := ?_) ?_ ?_
                   rotate_left
                   ·
                    show Act.put _ (some 111) _ = _
                    simp only [Act.put, List.setIfInBounds_toArray, List.set_cons_zero, List.set_cons_succ, i64_w, i32_w]
                    rfl
                   refine pu_5 20 112 #[o_5,o_5,o_5,o_5,o_5,o_5,o_5,o_5,o_5,o_5,o_5,o_5,o_5,o_5,o_5,o_5,o_5,o_5,o_5,o_5,o_5,x_5,x_5] HT_ rfl rfl (by kernel_rfl) ?_
                   refine pu_5 21 113 #[o_5,o_5,o_5,o_5,o_5,o_5,o_5,o_5,o_5,o_5,o_5,o_5,o_5,o_5,o_5,o_5,o_5,o_5,o_5,o_5,o_5,o_5,x_5] HT_ rfl rfl (by kernel_rfl) ?_
                   refine pu_5 22 114 #[o_5,o_5,o_5,o_5,o_5,o_5,o_5,o_5,o_5,o_5,o_5,o_5,o_5,o_5,o_5,o_5,o_5,o_5,o_5,o_5,o_5,o_5,o_5] HT_ rfl rfl (by kernel_rfl) ?_
                   refine done_ (done_of HT_.out (by kernel_rfl)) ?_
                   try go_wp2
                   go_roundg k3
                   case measure => have := HJ1.out; have := HK2.out; have := HK3.out; omega
                   case rel => exact ⟨(wrap64 (x87_3 + 1)), (by first | rfl | (simp; done) | (simp [*]; done)), H', ⟨by have := HJ1.out; have := HK2.out; have := HK3.out; omega⟩, ⟨by (with_reducible repeat (first | refine blk_drewN ?_ _ | refine blk_drew ?_ | refine blk_alloc ?_ _)); exact BK191.out⟩, ⟨by repeat (first | (with_reducible first | exact HB.out | apply below_alloc | apply pw_below_drewN | apply below_drew1 | refine below_set ?_ GE191.out | refine below_set ?_ GE199.out) | exact HB.out)⟩⟩
                 ·
                  rw [if_neg c64] at H
                  exact absurd H (by simp)
                ·
                 rw [if_neg c63] at H
                 exact absurd H (by simp)
               ·
                rw [if_neg c61] at H
                have c61b0 : decide (0 < x87_3) = false := decide_eq_false c61
                clear c61
                have H' := Aside0.mk H
                clear H
                have p198 : 0 ≤ (x87_3 : Int) := of_decide_eq_true (by first | (with_reducible assumption) | assumption)
                have q198 : x87_3 < (l0_2.length : Int) := of_decide_eq_true (by first | (with_reducible assumption) | assumption)
                obtain ⟨ad198, e198, hx198_0, hx198_1⟩ := at_T91 HR0_2.out x87_3 p198 q198
                cases e198
                replace hx198_0 := (HB.out.cell (World.block_lt_of_cell? w _ hx198_0)).trans hx198_0
                replace hx198_1 := (HB.out.cell (World.block_lt_of_cell? w _ hx198_1)).trans hx198_1
                replace p198 := eq_true p198
                replace q198 := eq_true q198
                try go_wp2_with (first | ((with_reducible refine gate_dst (N := 9) rfl ?_); (try (refine gate_guard (by rfl) ?_; dsimp only)); refine box_event ?hg (N := 9) ?hd (cs := #[.int .i64 0, .int .i64 0]) (t := 91) ?hr ?_; (case hd => rfl); (case hg => rfl); (case hr => first | (go_simp; done) | (go_simp; rfl)); intro gb199 hg w79 hbox hb; have n0_ := Aside0.mk (blk_below (up_5 BK191.out) hb); have n1_ := Aside0.mk (below_step (by repeat (first | (with_reducible first | exact HB.out | apply below_alloc | apply pw_below_drewN | apply below_drew1 | refine below_set ?_ GE191.out) | exact HB.out)) hb); have n2_ := Aside0.mk (hbox); have n3_ := Aside0.mk ((by rw [hg]; exact (below_size (by repeat (first | (with_reducible first | exact HB.out | apply below_alloc | apply pw_below_drewN | apply below_drew1 | refine below_set ?_ GE191.out) | exact HB.out))) : w.heap.size ≤ gb199)); have n4_ := Aside0.mk ((by rw [hg]; exact (below_size (by repeat (first | (with_reducible first | exact HB.out | apply below_alloc | apply pw_below_drewN | apply below_drew1 | refine below_set ?_ GE191.out) | exact HB.out))) : w.heap.size ≤ gb199)); have n5_ := Aside0.mk ((by rw [hg]; exact Nat.ne_of_lt (blk_lt (up_5 BK191.out)) : gb191 ≠ gb199)); have n6_ := Aside0.mk ((by rw [hg]; exact Nat.ne_of_gt (blk_lt (up_5 BK191.out)) : gb199 ≠ gb191)); clear BK191; clear HB; have BK191 := n0_; have HB := n1_; have BK199 := n2_; have GW199 := n3_; have GE199 := n4_; have NB191_199 := n5_; have NB199_191 := n6_; clear n0_ n1_ n2_ n3_ n4_ n5_ n6_; clear hb hbox hg; have hnb80 := NB199_191.out; have hnc80 := NB191_199.out; have hcz81_0 : w79.cell? ⟨gb199, 0, none⟩ = some (.int .i64 0) := (blk_cell BK199.out 0).trans rfl; have hcz81_1 : w79.cell? ⟨gb199, 1, none⟩ = some (.int .i64 0) := (blk_cell BK199.out 1).trans rfl; have hfz81_0 := blk_frozen BK199.out 0; have hfz81_1 := blk_frozen BK199.out 1))
                have n0_ : Aside0 (((w79.setCell ⟨gb199, 0, none⟩ (.int .i64 ((rd_T91 l0_2 x87_3).f0))).setCell ⟨gb199, 1, none⟩ (.int .i64 ((rd_T91 l0_2 x87_3).f1))).heap[gb191]? = some (.cells #[.int .i64 a0_0, .slice A0_1 l0_1.length c0_1, .slice (some ad198) l0_2.length c0_2] 45 (0, 0))) := ⟨by (with_reducible repeat (first | refine blk_drewN ?_ _ | refine blk_drew ?_ | refine blk_alloc ?_ _)); refine blk_far ?_ NB191_199.out _; (with_reducible repeat (first | refine blk_drewN ?_ _ | refine blk_drew ?_ | refine blk_alloc ?_ _)); refine blk_far ?_ NB191_199.out _; (with_reducible repeat (first | refine blk_drewN ?_ _ | refine blk_drew ?_ | refine blk_alloc ?_ _)); exact BK191.out⟩
                have n1_ : Aside0 (((w79.setCell ⟨gb199, 0, none⟩ (.int .i64 ((rd_T91 l0_2 x87_3).f0))).setCell ⟨gb199, 1, none⟩ (.int .i64 ((rd_T91 l0_2 x87_3).f1))).heap[gb199]? = some (.cells #[.int .i64 ((rd_T91 l0_2 x87_3).f0), .int .i64 ((rd_T91 l0_2 x87_3).f1)] 91 (0, 0))) := ⟨by (with_reducible repeat (first | refine blk_drewN ?_ _ | refine blk_drew ?_ | refine blk_alloc ?_ _)); refine blk_put (cs := #[.int .i64 ((rd_T91 l0_2 x87_3).f0), .int .i64 0]) ?_ 1 _ rfl; (with_reducible repeat (first | refine blk_drewN ?_ _ | refine blk_drew ?_ | refine blk_alloc ?_ _)); refine blk_put (cs := #[.int .i64 0, .int .i64 0]) ?_ 0 _ rfl; (with_reducible repeat (first | refine blk_drewN ?_ _ | refine blk_drew ?_ | refine blk_alloc ?_ _)); exact BK199.out⟩
                have n2_ : Aside0 (Below w.heap.size w ((w79.setCell ⟨gb199, 0, none⟩ (.int .i64 ((rd_T91 l0_2 x87_3).f0))).setCell ⟨gb199, 1, none⟩ (.int .i64 ((rd_T91 l0_2 x87_3).f1)))) := ⟨by repeat (first | (with_reducible first | exact HB.out | apply below_alloc | apply pw_below_drewN | apply below_drew1 | refine below_set ?_ GE191.out | refine below_set ?_ GE199.out) | exact HB.out)⟩
                (try clear BK191)
                (try clear BK199)
                (try clear HB)
                generalize ((w79.setCell ⟨gb199, 0, none⟩ (.int .i64 ((rd_T91 l0_2 x87_3).f0))).setCell ⟨gb199, 1, none⟩ (.int .i64 ((rd_T91 l0_2 x87_3).f1))) = w82 at n0_ n1_ n2_ ⊢
                have BK191 := n0_
                have BK199 := n1_
                have HB := n2_
                clear n0_ n1_ n2_
                have n0_ := Aside0.mk (blk_drew BK191.out)
                have n1_ := Aside0.mk (blk_drew BK199.out)
                have n2_ := Aside0.mk (below_drew1 HB.out)
                clear BK191
                clear BK199
                clear HB
                have BK191 := n0_
                have BK199 := n1_
                have HB := n2_
                clear n0_ n1_ n2_
                refine start_ (n := 23) (S := fun w' => w'.cell? ⟨gb199, 0, none⟩ = some (.int .i64 ((rd_T91 l0_2 x87_3).f0)) ∧ w'.cell? ⟨gb199, 1, none⟩ = some (.int .i64 ((rd_T91 l0_2 x87_3).f1)) ∧ w'.cell? ⟨gb191, 0, none⟩ = some (.int .i64 a0_0) ∧ w'.cell? ⟨gb191, 1, none⟩ = some (.slice A0_1 l0_1.length c0_1) ∧ w'.cell? ⟨gb191, 2, none⟩ = some (.slice (some ad198) l0_2.length c0_2)) (ds := []) #[false, false, false, false, false, false, false, false, false, false, false, false, false, false, false, false, false, false, false, false, false, false, false] (by kernel_rfl) rfl rfl ⟨(blk_cell BK199.out 0).trans rfl, (blk_cell BK199.out 1).trans rfl, (blk_cell BK191.out 0).trans rfl, (blk_cell BK191.out 1).trans rfl, (blk_cell BK191.out 2).trans rfl⟩ (fun hHeld => ?_); refine with_tabW impl_WheelRight.tab18 impl_WheelRight.bits18 (fun HT_ HW_ => ?_)
                generalize w82.drew = w83 at BK191 BK199 HB hHeld ⊢
                refine pu_5 0 92 #[o_5,x_5,x_5,x_5,x_5,x_5,x_5,x_5,x_5,x_5,x_5,x_5,x_5,x_5,x_5,x_5,x_5,x_5,x_5,x_5,x_5,x_5,x_5] HT_ rfl rfl (by kernel_rfl) ?_
                refine pu_5 2 94 #[o_5,x_5,o_5,x_5,x_5,x_5,x_5,x_5,x_5,x_5,x_5,x_5,x_5,x_5,x_5,x_5,x_5,x_5,x_5,x_5,x_5,x_5,x_5] HT_ rfl rfl (by kernel_rfl) ?_
                refine tk_5 1 93 #[o_5,o_5,o_5,x_5,x_5,x_5,x_5,x_5,x_5,x_5,x_5,x_5,x_5,x_5,x_5,x_5,x_5,x_5,x_5,x_5,x_5,x_5,x_5] HT_ HW_ hHeld rfl rfl (by kernel_rfl) ?_ (by rintro w' ⟨s0, s1, s2, s3, s4⟩; go_simp; with_reducible rfl)
                refine tk_5 3 95 #[o_5,o_5,o_5,o_5,x_5,x_5,x_5,x_5,x_5,x_5,x_5,x_5,x_5,x_5,x_5,x_5,x_5,x_5,x_5,x_5,x_5,x_5,x_5] HT_ HW_ hHeld rfl rfl (by kernel_rfl) ?_ (by rintro w' ⟨s0, s1, s2, s3, s4⟩; go_simp; with_reducible rfl)
                refine pu_5 4 96 #[o_5,o_5,o_5,o_5,o_5,x_5,x_5,x_5,x_5,x_5,x_5,x_5,x_5,x_5,x_5,x_5,x_5,x_5,x_5,x_5,x_5,x_5,x_5] HT_ rfl rfl (by kernel_rfl) ?_
                refine pu_5 5 97 #[o_5,o_5,o_5,o_5,o_5,o_5,x_5,x_5,x_5,x_5,x_5,x_5,x_5,x_5,x_5,x_5,x_5,x_5,x_5,x_5,x_5,x_5,x_5] HT_ rfl rfl (by kernel_rfl) ?_
                refine one_ (i := 6) (N := some 98) #[o_5,o_5,o_5,o_5,o_5,o_5,o_5,x_5,x_5,x_5,x_5,x_5,x_5,x_5,x_5,x_5,x_5,x_5,x_5,x_5,x_5,x_5,x_5] rfl rfl (one_of HT_.out (by kernel_rfl)) (by decide) (fun K hK => ?_)
                refine goes_ Try.func69 (by kernel_rfl) rfl #[.int .i64 ((rd_T91 l0_2 x87_3).f1), .int .i64 (wrap64 ((wrap64 (a0_0 + 16)) + 1)), .int .i64 1000000] (by rfl) rfl rfl (by (try simp only [List.map_toArray, List.map_cons, List.map_nil]); first | done | rfl | (simp only [List.length_drop, List.length_take]; rfl)) ?_
                with_reducible refine (impl_in.calls ((rd_T91 l0_2 x87_3).f1) (wrap64 ((wrap64 (a0_0 + 16)) + 1)) 1000000 true _ A59.out).mono ?_
                rintro e w' ⟨rfl, ⟨nd, rfl⟩⟩
                refine ⟨_, rfl, ?_⟩
                refine hK.out _ _ ⟨(blk_cell BK199.out 0).trans rfl, (blk_cell BK199.out 1).trans rfl, (blk_cell BK191.out 0).trans rfl, (blk_cell BK191.out 1).trans rfl, (blk_cell BK191.out 2).trans rfl⟩ (fun hHeld => ?_)
                clear hK K
                refine norm_ (a' := ?_) ?_ ?_
                rotate_left
                ·
                 show Act.put _ (some 98) _ = _
                 simp only [Act.put, List.setIfInBounds_toArray, List.set_cons_zero, List.set_cons_succ, i64_w, i32_w]
                 rfl
                refine pu_5 7 99 #[o_5,o_5,o_5,o_5,o_5,o_5,o_5,o_5,x_5,x_5,x_5,x_5,x_5,x_5,x_5,x_5,x_5,x_5,x_5,x_5,x_5,x_5,x_5] HT_ rfl rfl (by kernel_rfl) ?_
                refine pu_5 8 100 #[o_5,o_5,o_5,o_5,o_5,o_5,o_5,o_5,o_5,x_5,x_5,x_5,x_5,x_5,x_5,x_5,x_5,x_5,x_5,x_5,x_5,x_5,x_5] HT_ rfl rfl (by kernel_rfl) ?_
                refine pu_5 9 101 #[o_5,o_5,o_5,o_5,o_5,o_5,o_5,o_5,o_5,o_5,x_5,x_5,x_5,x_5,x_5,x_5,x_5,x_5,x_5,x_5,x_5,x_5,x_5] HT_ rfl rfl (by kernel_rfl) ?_
                refine pu_5 10 102 #[o_5,o_5,o_5,o_5,o_5,o_5,o_5,o_5,o_5,o_5,o_5,x_5,x_5,x_5,x_5,x_5,x_5,x_5,x_5,x_5,x_5,x_5,x_5] HT_ rfl rfl (by kernel_rfl) ?_
                refine pu_5 11 103 #[o_5,o_5,o_5,o_5,o_5,o_5,o_5,o_5,o_5,o_5,o_5,o_5,x_5,x_5,x_5,x_5,x_5,x_5,x_5,x_5,x_5,x_5,x_5] HT_ rfl rfl (by kernel_rfl) ?_
                refine pn_5 12 104 #[o_5,o_5,o_5,o_5,o_5,o_5,o_5,o_5,o_5,o_5,o_5,o_5,o_5,x_5,x_5,x_5,x_5,x_5,x_5,x_5,x_5,x_5,x_5] HT_ rfl rfl (by kernel_rfl) ?_
                refine pn_5 13 105 #[o_5,o_5,o_5,o_5,o_5,o_5,o_5,o_5,o_5,o_5,o_5,o_5,o_5,o_5,x_5,x_5,x_5,x_5,x_5,x_5,x_5,x_5,x_5] HT_ rfl rfl (by kernel_rfl) ?_
                refine pn_5 14 106 #[o_5,o_5,o_5,o_5,o_5,o_5,o_5,o_5,o_5,o_5,o_5,o_5,o_5,o_5,o_5,x_5,x_5,x_5,x_5,x_5,x_5,x_5,x_5] HT_ rfl rfl (by kernel_rfl) ?_
                refine pn_5 15 107 #[o_5,o_5,o_5,o_5,o_5,o_5,o_5,o_5,o_5,o_5,o_5,o_5,o_5,o_5,o_5,o_5,x_5,x_5,x_5,x_5,x_5,x_5,x_5] HT_ rfl rfl (by kernel_rfl) ?_
                refine pn_5 16 108 #[o_5,o_5,o_5,o_5,o_5,o_5,o_5,o_5,o_5,o_5,o_5,o_5,o_5,o_5,o_5,o_5,o_5,x_5,x_5,x_5,x_5,x_5,x_5] HT_ rfl rfl (by kernel_rfl) ?_
                refine pn_5 17 109 #[o_5,o_5,o_5,o_5,o_5,o_5,o_5,o_5,o_5,o_5,o_5,o_5,o_5,o_5,o_5,o_5,o_5,o_5,x_5,x_5,x_5,x_5,x_5] HT_ rfl rfl (by kernel_rfl) ?_
                refine pn_5 18 110 #[o_5,o_5,o_5,o_5,o_5,o_5,o_5,o_5,o_5,o_5,o_5,o_5,o_5,o_5,o_5,o_5,o_5,o_5,o_5,x_5,x_5,x_5,x_5] HT_ rfl rfl (by kernel_rfl) ?_
                refine pn_5 19 111 #[o_5,o_5,o_5,o_5,o_5,o_5,o_5,o_5,o_5,o_5,o_5,o_5,o_5,o_5,o_5,o_5,o_5,o_5,o_5,o_5,x_5,x_5,x_5] HT_ rfl rfl (by kernel_rfl) ?_
                refine pn_5 20 112 #[o_5,o_5,o_5,o_5,o_5,o_5,o_5,o_5,o_5,o_5,o_5,o_5,o_5,o_5,o_5,o_5,o_5,o_5,o_5,o_5,o_5,x_5,x_5] HT_ rfl rfl (by kernel_rfl) ?_
                refine pu_5 21 113 #[o_5,o_5,o_5,o_5,o_5,o_5,o_5,o_5,o_5,o_5,o_5,o_5,o_5,o_5,o_5,o_5,o_5,o_5,o_5,o_5,o_5,o_5,x_5] HT_ rfl rfl (by kernel_rfl) ?_
                refine pu_5 22 114 #[o_5,o_5,o_5,o_5,o_5,o_5,o_5,o_5,o_5,o_5,o_5,o_5,o_5,o_5,o_5,o_5,o_5,o_5,o_5,o_5,o_5,o_5,o_5] HT_ rfl rfl (by kernel_rfl) ?_
                refine done_ (done_of HT_.out (by kernel_rfl)) ?_
                try go_wp2
                go_roundg k3
                case measure => have := HJ1.out; have := HK2.out; have := HK3.out; omega
                case rel => exact ⟨(wrap64 (x87_3 + 1)), (by first | rfl | (simp; done) | (simp [*]; done)), H', ⟨by have := HJ1.out; have := HK2.out; have := HK3.out; omega⟩, ⟨by (with_reducible repeat (first | refine blk_drewN ?_ _ | refine blk_drew ?_ | refine blk_alloc ?_ _)); exact BK191.out⟩, ⟨by repeat (first | (with_reducible first | exact HB.out | apply below_alloc | apply pw_below_drewN | apply below_drew1 | refine below_set ?_ GE191.out | refine below_set ?_ GE199.out) | exact HB.out)⟩⟩
              ·
               replace c60 := Bool.eq_false_iff.mpr c60
               subst c60
               have H1 : (some false) = some r := by rw [if_neg (show ¬ (false = true) by decide)] at H; exact H
               clear H
               have H := H1
               clear H1
               obtain rfl := Option.some.inj H
               have p198 : 0 ≤ (x87_3 : Int) := of_decide_eq_true (by first | (with_reducible assumption) | assumption)
               have q198 : x87_3 < (l0_2.length : Int) := of_decide_eq_true (by first | (with_reducible assumption) | assumption)
               obtain ⟨ad198, e198, hx198_0, hx198_1⟩ := at_T91 HR0_2.out x87_3 p198 q198
               cases e198
               replace hx198_0 := (HB.out.cell (World.block_lt_of_cell? w _ hx198_0)).trans hx198_0
               replace hx198_1 := (HB.out.cell (World.block_lt_of_cell? w _ hx198_1)).trans hx198_1
               replace p198 := eq_true p198
               replace q198 := eq_true q198
               try go_wp2_with (first | ((with_reducible refine gate_dst (N := 9) rfl ?_); (try (refine gate_guard (by rfl) ?_; dsimp only)); refine box_event ?hg (N := 9) ?hd (cs := #[.int .i64 0, .int .i64 0]) (t := 91) ?hr ?_; (case hd => rfl); (case hg => rfl); (case hr => first | (go_simp; done) | (go_simp; rfl)); intro gb199 hg w84 hbox hb; have n0_ := Aside0.mk (blk_below (up_5 BK191.out) hb); have n1_ := Aside0.mk (below_step (by repeat (first | (with_reducible first | exact HB.out | apply below_alloc | apply pw_below_drewN | apply below_drew1 | refine below_set ?_ GE191.out) | exact HB.out)) hb); have n2_ := Aside0.mk (hbox); have n3_ := Aside0.mk ((by rw [hg]; exact (below_size (by repeat (first | (with_reducible first | exact HB.out | apply below_alloc | apply pw_below_drewN | apply below_drew1 | refine below_set ?_ GE191.out) | exact HB.out))) : w.heap.size ≤ gb199)); have n4_ := Aside0.mk ((by rw [hg]; exact (below_size (by repeat (first | (with_reducible first | exact HB.out | apply below_alloc | apply pw_below_drewN | apply below_drew1 | refine below_set ?_ GE191.out) | exact HB.out))) : w.heap.size ≤ gb199)); have n5_ := Aside0.mk ((by rw [hg]; exact Nat.ne_of_lt (blk_lt (up_5 BK191.out)) : gb191 ≠ gb199)); have n6_ := Aside0.mk ((by rw [hg]; exact Nat.ne_of_gt (blk_lt (up_5 BK191.out)) : gb199 ≠ gb191)); clear BK191; clear HB; have BK191 := n0_; have HB := n1_; have BK199 := n2_; have GW199 := n3_; have GE199 := n4_; have NB191_199 := n5_; have NB199_191 := n6_; clear n0_ n1_ n2_ n3_ n4_ n5_ n6_; clear hb hbox hg; have hnb85 := NB199_191.out; have hnc85 := NB191_199.out; have hcz86_0 : w84.cell? ⟨gb199, 0, none⟩ = some (.int .i64 0) := (blk_cell BK199.out 0).trans rfl; have hcz86_1 : w84.cell? ⟨gb199, 1, none⟩ = some (.int .i64 0) := (blk_cell BK199.out 1).trans rfl; have hfz86_0 := blk_frozen BK199.out 0; have hfz86_1 := blk_frozen BK199.out 1))
               have n0_ : Aside0 (((w84.setCell ⟨gb199, 0, none⟩ (.int .i64 ((rd_T91 l0_2 x87_3).f0))).setCell ⟨gb199, 1, none⟩ (.int .i64 ((rd_T91 l0_2 x87_3).f1))).heap[gb191]? = some (.cells #[.int .i64 a0_0, .slice A0_1 l0_1.length c0_1, .slice (some ad198) l0_2.length c0_2] 45 (0, 0))) := ⟨by (with_reducible repeat (first | refine blk_drewN ?_ _ | refine blk_drew ?_ | refine blk_alloc ?_ _)); refine blk_far ?_ NB191_199.out _; (with_reducible repeat (first | refine blk_drewN ?_ _ | refine blk_drew ?_ | refine blk_alloc ?_ _)); refine blk_far ?_ NB191_199.out _; (with_reducible repeat (first | refine blk_drewN ?_ _ | refine blk_drew ?_ | refine blk_alloc ?_ _)); exact BK191.out⟩
               have n1_ : Aside0 (((w84.setCell ⟨gb199, 0, none⟩ (.int .i64 ((rd_T91 l0_2 x87_3).f0))).setCell ⟨gb199, 1, none⟩ (.int .i64 ((rd_T91 l0_2 x87_3).f1))).heap[gb199]? = some (.cells #[.int .i64 ((rd_T91 l0_2 x87_3).f0), .int .i64 ((rd_T91 l0_2 x87_3).f1)] 91 (0, 0))) := ⟨by (with_reducible repeat (first | refine blk_drewN ?_ _ | refine blk_drew ?_ | refine blk_alloc ?_ _)); refine blk_put (cs := #[.int .i64 ((rd_T91 l0_2 x87_3).f0), .int .i64 0]) ?_ 1 _ rfl; (with_reducible repeat (first | refine blk_drewN ?_ _ | refine blk_drew ?_ | refine blk_alloc ?_ _)); refine blk_put (cs := #[.int .i64 0, .int .i64 0]) ?_ 0 _ rfl; (with_reducible repeat (first | refine blk_drewN ?_ _ | refine blk_drew ?_ | refine blk_alloc ?_ _)); exact BK199.out⟩
               have n2_ : Aside0 (Below w.heap.size w ((w84.setCell ⟨gb199, 0, none⟩ (.int .i64 ((rd_T91 l0_2 x87_3).f0))).setCell ⟨gb199, 1, none⟩ (.int .i64 ((rd_T91 l0_2 x87_3).f1)))) := ⟨by repeat (first | (with_reducible first | exact HB.out | apply below_alloc | apply pw_below_drewN | apply below_drew1 | refine below_set ?_ GE191.out | refine below_set ?_ GE199.out) | exact HB.out)⟩
               (try clear BK191)
               (try clear BK199)
               (try clear HB)
               generalize ((w84.setCell ⟨gb199, 0, none⟩ (.int .i64 ((rd_T91 l0_2 x87_3).f0))).setCell ⟨gb199, 1, none⟩ (.int .i64 ((rd_T91 l0_2 x87_3).f1))) = w87 at n0_ n1_ n2_ ⊢
               have BK191 := n0_
               have BK199 := n1_
               have HB := n2_
               clear n0_ n1_ n2_
               have n0_ := Aside0.mk (blk_drew BK191.out)
               have n1_ := Aside0.mk (blk_drew BK199.out)
               have n2_ := Aside0.mk (below_drew1 HB.out)
               clear BK191
               clear BK199
               clear HB
               have BK191 := n0_
               have BK199 := n1_
               have HB := n2_
               clear n0_ n1_ n2_
               refine start_ (n := 23) (S := fun w' => w'.cell? ⟨gb199, 0, none⟩ = some (.int .i64 ((rd_T91 l0_2 x87_3).f0)) ∧ w'.cell? ⟨gb199, 1, none⟩ = some (.int .i64 ((rd_T91 l0_2 x87_3).f1)) ∧ w'.cell? ⟨gb191, 0, none⟩ = some (.int .i64 a0_0) ∧ w'.cell? ⟨gb191, 1, none⟩ = some (.slice A0_1 l0_1.length c0_1) ∧ w'.cell? ⟨gb191, 2, none⟩ = some (.slice (some ad198) l0_2.length c0_2)) (ds := []) #[false, false, false, false, false, false, false, false, false, false, false, false, false, false, false, false, false, false, false, false, false, false, false] (by kernel_rfl) rfl rfl ⟨(blk_cell BK199.out 0).trans rfl, (blk_cell BK199.out 1).trans rfl, (blk_cell BK191.out 0).trans rfl, (blk_cell BK191.out 1).trans rfl, (blk_cell BK191.out 2).trans rfl⟩ (fun hHeld => ?_); refine with_tabW impl_WheelRight.tab18 impl_WheelRight.bits18 (fun HT_ HW_ => ?_)
               generalize w87.drew = w88 at BK191 BK199 HB hHeld ⊢
               refine pu_5 0 92 #[o_5,x_5,x_5,x_5,x_5,x_5,x_5,x_5,x_5,x_5,x_5,x_5,x_5,x_5,x_5,x_5,x_5,x_5,x_5,x_5,x_5,x_5,x_5] HT_ rfl rfl (by kernel_rfl) ?_
               refine pu_5 2 94 #[o_5,x_5,o_5,x_5,x_5,x_5,x_5,x_5,x_5,x_5,x_5,x_5,x_5,x_5,x_5,x_5,x_5,x_5,x_5,x_5,x_5,x_5,x_5] HT_ rfl rfl (by kernel_rfl) ?_
               refine tk_5 1 93 #[o_5,o_5,o_5,x_5,x_5,x_5,x_5,x_5,x_5,x_5,x_5,x_5,x_5,x_5,x_5,x_5,x_5,x_5,x_5,x_5,x_5,x_5,x_5] HT_ HW_ hHeld rfl rfl (by kernel_rfl) ?_ (by rintro w' ⟨s0, s1, s2, s3, s4⟩; go_simp; with_reducible rfl)
               refine tk_5 3 95 #[o_5,o_5,o_5,o_5,x_5,x_5,x_5,x_5,x_5,x_5,x_5,x_5,x_5,x_5,x_5,x_5,x_5,x_5,x_5,x_5,x_5,x_5,x_5] HT_ HW_ hHeld rfl rfl (by kernel_rfl) ?_ (by rintro w' ⟨s0, s1, s2, s3, s4⟩; go_simp; with_reducible rfl)
               refine pu_5 4 96 #[o_5,o_5,o_5,o_5,o_5,x_5,x_5,x_5,x_5,x_5,x_5,x_5,x_5,x_5,x_5,x_5,x_5,x_5,x_5,x_5,x_5,x_5,x_5] HT_ rfl rfl (by kernel_rfl) ?_
               refine pu_5 5 97 #[o_5,o_5,o_5,o_5,o_5,o_5,x_5,x_5,x_5,x_5,x_5,x_5,x_5,x_5,x_5,x_5,x_5,x_5,x_5,x_5,x_5,x_5,x_5] HT_ rfl rfl (by kernel_rfl) ?_
               refine one_ (i := 6) (N := some 98) #[o_5,o_5,o_5,o_5,o_5,o_5,o_5,x_5,x_5,x_5,x_5,x_5,x_5,x_5,x_5,x_5,x_5,x_5,x_5,x_5,x_5,x_5,x_5] rfl rfl (one_of HT_.out (by kernel_rfl)) (by decide) (fun K hK => ?_)
               refine goes_ Try.func69 (by kernel_rfl) rfl #[.int .i64 ((rd_T91 l0_2 x87_3).f1), .int .i64 (wrap64 ((wrap64 (a0_0 + 16)) + 1)), .int .i64 1000000] (by rfl) rfl rfl (by (try simp only [List.map_toArray, List.map_cons, List.map_nil]); first | done | rfl | (simp only [List.length_drop, List.length_take]; rfl)) ?_
               with_reducible refine (impl_in.calls ((rd_T91 l0_2 x87_3).f1) (wrap64 ((wrap64 (a0_0 + 16)) + 1)) 1000000 false _ A59.out).mono ?_
               rintro e w' ⟨rfl, ⟨nd, rfl⟩⟩
               refine ⟨_, rfl, ?_⟩
               refine hK.out _ _ ⟨(blk_cell BK199.out 0).trans rfl, (blk_cell BK199.out 1).trans rfl, (blk_cell BK191.out 0).trans rfl, (blk_cell BK191.out 1).trans rfl, (blk_cell BK191.out 2).trans rfl⟩ (fun hHeld => ?_)
               clear hK K
               refine norm_ (a' := ?_) ?_ ?_
               rotate_left
               ·
                show Act.put _ (some 98) _ = _
                simp only [Act.put, List.setIfInBounds_toArray, List.set_cons_zero, List.set_cons_succ, i64_w, i32_w]
                rfl
               refine pu_5 7 99 #[o_5,o_5,o_5,o_5,o_5,o_5,o_5,o_5,x_5,x_5,x_5,x_5,x_5,x_5,x_5,x_5,x_5,x_5,x_5,x_5,x_5,x_5,x_5] HT_ rfl rfl (by kernel_rfl) ?_
               refine pu_5 8 100 #[o_5,o_5,o_5,o_5,o_5,o_5,o_5,o_5,o_5,x_5,x_5,x_5,x_5,x_5,x_5,x_5,x_5,x_5,x_5,x_5,x_5,x_5,x_5] HT_ rfl rfl (by kernel_rfl) ?_
               refine pn_5 9 101 #[o_5,o_5,o_5,o_5,o_5,o_5,o_5,o_5,o_5,o_5,x_5,x_5,x_5,x_5,x_5,x_5,x_5,x_5,x_5,x_5,x_5,x_5,x_5] HT_ rfl rfl (by kernel_rfl) ?_
               refine pn_5 10 102 #[o_5,o_5,o_5,o_5,o_5,o_5,o_5,o_5,o_5,o_5,o_5,x_5,x_5,x_5,x_5,x_5,x_5,x_5,x_5,x_5,x_5,x_5,x_5] HT_ rfl rfl (by kernel_rfl) ?_
               refine pn_5 11 103 #[o_5,o_5,o_5,o_5,o_5,o_5,o_5,o_5,o_5,o_5,o_5,o_5,x_5,x_5,x_5,x_5,x_5,x_5,x_5,x_5,x_5,x_5,x_5] HT_ rfl rfl (by kernel_rfl) ?_
               refine pn_5 12 104 #[o_5,o_5,o_5,o_5,o_5,o_5,o_5,o_5,o_5,o_5,o_5,o_5,o_5,x_5,x_5,x_5,x_5,x_5,x_5,x_5,x_5,x_5,x_5] HT_ rfl rfl (by kernel_rfl) ?_
               refine pn_5 13 105 #[o_5,o_5,o_5,o_5,o_5,o_5,o_5,o_5,o_5,o_5,o_5,o_5,o_5,o_5,x_5,x_5,x_5,x_5,x_5,x_5,x_5,x_5,x_5] HT_ rfl rfl (by kernel_rfl) ?_
               refine pn_5 14 106 #[o_5,o_5,o_5,o_5,o_5,o_5,o_5,o_5,o_5,o_5,o_5,o_5,o_5,o_5,o_5,x_5,x_5,x_5,x_5,x_5,x_5,x_5,x_5] HT_ rfl rfl (by kernel_rfl) ?_
               refine pn_5 15 107 #[o_5,o_5,o_5,o_5,o_5,o_5,o_5,o_5,o_5,o_5,o_5,o_5,o_5,o_5,o_5,o_5,x_5,x_5,x_5,x_5,x_5,x_5,x_5] HT_ rfl rfl (by kernel_rfl) ?_
               refine pn_5 16 108 #[o_5,o_5,o_5,o_5,o_5,o_5,o_5,o_5,o_5,o_5,o_5,o_5,o_5,o_5,o_5,o_5,o_5,x_5,x_5,x_5,x_5,x_5,x_5] HT_ rfl rfl (by kernel_rfl) ?_
               refine pn_5 17 109 #[o_5,o_5,o_5,o_5,o_5,o_5,o_5,o_5,o_5,o_5,o_5,o_5,o_5,o_5,o_5,o_5,o_5,o_5,x_5,x_5,x_5,x_5,x_5] HT_ rfl rfl (by kernel_rfl) ?_
               refine pn_5 18 110 #[o_5,o_5,o_5,o_5,o_5,o_5,o_5,o_5,o_5,o_5,o_5,o_5,o_5,o_5,o_5,o_5,o_5,o_5,o_5,x_5,x_5,x_5,x_5] HT_ rfl rfl (by kernel_rfl) ?_
               refine pn_5 19 111 #[o_5,o_5,o_5,o_5,o_5,o_5,o_5,o_5,o_5,o_5,o_5,o_5,o_5,o_5,o_5,o_5,o_5,o_5,o_5,o_5,x_5,x_5,x_5] HT_ rfl rfl (by kernel_rfl) ?_
               refine pn_5 20 112 #[o_5,o_5,o_5,o_5,o_5,o_5,o_5,o_5,o_5,o_5,o_5,o_5,o_5,o_5,o_5,o_5,o_5,o_5,o_5,o_5,o_5,x_5,x_5] HT_ rfl rfl (by kernel_rfl) ?_
               refine pn_5 21 113 #[o_5,o_5,o_5,o_5,o_5,o_5,o_5,o_5,o_5,o_5,o_5,o_5,o_5,o_5,o_5,o_5,o_5,o_5,o_5,o_5,o_5,o_5,x_5] HT_ rfl rfl (by kernel_rfl) ?_
               refine pu_5 22 114 #[o_5,o_5,o_5,o_5,o_5,o_5,o_5,o_5,o_5,o_5,o_5,o_5,o_5,o_5,o_5,o_5,o_5,o_5,o_5,o_5,o_5,o_5,o_5] HT_ rfl rfl (by kernel_rfl) ?_
               refine done_ (done_of HT_.out (by kernel_rfl)) ?_
               try go_wp2
               go_ret
               exact ⟨by first | rfl | (simp [errW_none, errW_some] <;> rfl) | (simp [*, errW_none, errW_some] <;> rfl), by repeat (first | (with_reducible first | exact HB.out | apply below_alloc | apply pw_below_drewN | apply below_drew1 | refine below_set ?_ GE191.out | refine below_set ?_ GE199.out) | exact HB.out)⟩
             ·
              rw [if_neg c58] at H
              exact absurd H (by simp)
            ·
             rw [if_neg c57] at H
             exact absurd H (by simp)
           ·
            rw [if_neg c56] at H
            have c56b0 : decide (x87_3 < (l0_2.length : Int)) = false := decide_eq_false c56
            clear c56
            by_cases c89 : x3_2 > 100
            ·
             rw [if_pos c89] at H
             have c89b0 : decide (100 < x3_2) = true := decide_eq_true c89
             clear c89
             obtain rfl := Option.some.inj H
             go_wp2
             go_ret
             exact ⟨by first | rfl | (simp [errW_none, errW_some] <;> rfl) | (simp [*, errW_none, errW_some] <;> rfl), by repeat (first | (with_reducible first | exact HB.out | apply below_alloc | apply pw_below_drewN | apply below_drew1 | refine below_set ?_ GE191.out) | exact HB.out)⟩
            ·
             rw [if_neg c89] at H
             have c89b0 : decide (100 < x3_2) = false := decide_eq_false c89
             clear c89
             replace H := Option.bind_eq_some_iff.mp H
             obtain ⟨t203, A900, H⟩ := H
             replace H : ((impl_Timer_71.f t203).bind fun t206 => (impl_WheelRight.l3 k3 t206 t206 (t206.length : Int) 0)) = some r := H
             have A90 := Aside0.mk A900
             clear A900
             replace H := Option.bind_eq_some_iff.mp H
             obtain ⟨t206, A910, H⟩ := H
             replace H : (impl_WheelRight.l3 k3 t206 t206 (t206.length : Int) 0) = some r := H
             have A91 := Aside0.mk A910
             clear A910
             have H' := Aside0.mk H
             clear H
             have hcz92_0 : wr.cell? ⟨gb191, 0, none⟩ = some (.int .i64 a0_0) := (blk_cell BK191.out 0).trans rfl
             have hcz92_1 : wr.cell? ⟨gb191, 1, none⟩ = some (.slice A0_1 l0_1.length c0_1) := (blk_cell BK191.out 1).trans rfl
             have hcz92_2 : wr.cell? ⟨gb191, 2, none⟩ = some (.slice A0_2 l0_2.length c0_2) := (blk_cell BK191.out 2).trans rfl
             have hfz92_0 := blk_frozen BK191.out 0
             have hfz92_1 := blk_frozen BK191.out 1
             have hfz92_2 := blk_frozen BK191.out 2
             go_wp2_with (first | ((with_reducible refine gate_callee (f := 73) rfl ?_); refine goesL_ (some 119) rfl rfl Try.func73 (by kernel_rfl) rfl #[.agg #[.int .i64 a0_0, .slice A0_1 l0_1.length c0_1, .slice A0_2 l0_2.length c0_2]] rfl (by (try simp only [List.map_toArray, List.map_cons, List.map_nil]); first | done | rfl | (simp only [List.length_drop, List.length_take]; rfl)) ?_; (with_reducible refine (impl_Wheel_all.calls a0_0 _ _ l0_1 _ _ l0_2 t203 _ ?side1 ?side2 ?side3 ?side4 A90.out).mono ?_); (case side1 => repeat (first | exact (Kd.C_below HR0_1.out HB.out) | (with_reducible refine Kd.C_alloc ?_ _) | (with_reducible refine Kd.C_drewN ?_ _) | (with_reducible refine Kd.C_drew ?_))); (case side2 => exact HC0_1.out); (case side3 => repeat (first | exact (Kd.C_below HR0_2.out HB.out) | (with_reducible refine Kd.C_alloc ?_ _) | (with_reducible refine Kd.C_drewN ?_ _) | (with_reducible refine Kd.C_drew ?_))); (case side4 => exact HC0_2.out); rintro e w93 ⟨v204, rfl, ho0, hb⟩; refine ⟨_, rfl, ?_⟩; have n0_ := Aside0.mk (Kd.R_lower ho0 (below_size (by repeat (first | (with_reducible first | exact HB.out | apply below_alloc | apply pw_below_drewN | apply below_drew1 | refine below_set ?_ GE191.out) | exact HB.out)))); have n1_ := Aside0.mk (blk_below (up_5 BK191.out) hb); have n2_ := Aside0.mk (below_step (by repeat (first | (with_reducible first | exact HB.out | apply below_alloc | apply pw_below_drewN | apply below_drew1 | refine below_set ?_ GE191.out) | exact HB.out)) hb); clear BK191; clear HB; have HO205 := n0_; have BK191 := n1_; have HB := n2_; clear n0_ n1_ n2_; (try clear hb); (try clear hb2); (try clear hk); (try clear hi); (try clear ho0); obtain ⟨Ao94, co94, eo94⟩ := Kd.R_slice HO205.out; subst eo94) | ((with_reducible refine gate_callee (f := 72) rfl ?_); refine goesL_ (some 120) rfl rfl Try.func72 (by kernel_rfl) rfl #[.slice Ao94 t203.length co94] rfl (by (try simp only [List.map_toArray, List.map_cons, List.map_nil]); first | done | rfl | (simp only [List.length_drop, List.length_take]; rfl)) ?_; refine (values_calls _ _ _ _).mono ?_; rintro e w_ ⟨rfl, rfl⟩; refine ⟨_, rfl, ?_⟩) | ((with_reducible refine gate_callee (f := 71) rfl ?_); refine goesL_ (some 121) rfl rfl Try.func71 (by kernel_rfl) rfl #[.func (.func 119) #[] #[.pointer (some ⟨_, 0, none⟩)], .func (.func 74) #[] #[]] rfl (by (try simp only [List.map_toArray, List.map_cons, List.map_nil]); first | done | rfl | (simp only [List.length_drop, List.length_take]; rfl)) ?_; (with_reducible refine (impl_Timer_71.calls _ _ t203 t206 _ ?side1 ?side2 A91.out).mono ?_); (case side1 => repeat (first | exact (Kd.R_reads' HO205.out).2.2 | (with_reducible refine Kd.C_alloc ?_ _) | (with_reducible refine Kd.C_drewN ?_ _) | (with_reducible refine Kd.C_drew ?_))); (case side2 => exact (Kd.R_reads' HO205.out).2.1); rintro e w95 ⟨v207, rfl, ho0, hb⟩; refine ⟨_, rfl, ?_⟩; have n0_ := Aside0.mk (Kd.R_elder' (by exact rU_5 HO205.out) (Kd.R_base ho0) hb); have n1_ := Aside0.mk (Kd.R_lower (Kd.R_new' ho0 (Kd.R_lt (by exact rU_5 HO205.out))) (below_size (by repeat (first | (with_reducible first | exact HB.out | apply below_alloc | apply pw_below_drewN | apply below_drew1 | refine below_set ?_ GE191.out) | exact HB.out)))); have n2_ := Aside0.mk (blk_below (up_5 BK191.out) hb); have n3_ := Aside0.mk (below_step (by repeat (first | (with_reducible first | exact HB.out | apply below_alloc | apply pw_below_drewN | apply below_drew1 | refine below_set ?_ GE191.out) | exact HB.out)) hb); clear HO205; clear BK191; clear HB; have HO205 := n0_; have HO208 := n1_; have BK191 := n2_; have HB := n3_; clear n0_ n1_ n2_ n3_; (try clear hb); (try clear hb2); (try clear hk); (try clear hi); (try clear ho0); obtain ⟨Ao96, co96, eo96⟩ := Kd.R_slice HO208.out; subst eo96))
             go_loopg [124] k3 (fun kq v124 w' => ∃ (x124_4 : Int), v124 = .int .i64 x124_4 ∧ Aside0 (impl_WheelRight.l3 kq t206 t206 (t206.length : Int) x124_4 = some r) ∧ Aside0 (kq ≤ k3) ∧ Aside0 (Kd.R k91 91 w' w.heap.size (fun _ => True) (.slice Ao96 t206.length co96) t206) ∧ Aside0 (Kd.R k91 91 w' w.heap.size (fun _ => True) (.slice Ao96 t206.length co96) t206) ∧ Aside0 (w'.heap[gb191]? = some (.cells #[.int .i64 a0_0, (.slice A0_1 l0_1.length c0_1), (.slice A0_2 l0_2.length c0_2)] 45 (0, 0))) ∧ Aside0 (Below w.heap.size w w'))
             case atStart => exact ⟨(0), (by first | rfl | (simp; done) | (simp [*]; done)), H', ⟨Nat.le_refl _⟩, ⟨by (with_reducible repeat (first | apply Kd.R_alloc | apply Kd.R_drewN | apply Kd.R_drew)); exact Kd.R_mono HO208.out (fun _ hk => trivial)⟩, ⟨by (with_reducible repeat (first | apply Kd.R_alloc | apply Kd.R_drewN | apply Kd.R_drew)); exact Kd.R_mono HO208.out (fun _ hk => trivial)⟩, ⟨by (with_reducible repeat (first | refine blk_drewN ?_ _ | refine blk_drew ?_ | refine blk_alloc ?_ _)); exact BK191.out⟩, ⟨by repeat (first | (with_reducible first | exact HB.out | apply below_alloc | apply pw_below_drewN | apply below_drew1 | refine below_set ?_ GE191.out) | exact HB.out)⟩⟩
             case round =>
              as_aux_lemma =>
               clear H'
               try clear p1
               try clear q1
               try clear hx1
               try clear p2
               try clear c5
               try clear c6
               try clear p6
               try clear c7
               try clear c8
               try clear p19
               try clear q19
               try clear hx19
               try clear c56
               try clear c56b0
               try clear c57
               try clear c58
               try clear c60
               try clear c61
               try clear c61b0
               try clear c63
               try clear c64
               try clear p64
               try clear c69
               try clear c70
               try clear c71
               try clear c73
               try clear c80
               try clear c85
               try clear c89
               try clear c89b0
               try clear hcz81_0
               try clear hcz81_1
               try clear hcz86_0
               try clear hcz86_1
               try clear hcz92_0
               try clear hcz92_1
               try clear hcz92_2
               try clear hfz81_0
               try clear hfz81_1
               try clear hfz86_0
               try clear hfz86_1
               try clear hfz92_0
               try clear hfz92_1
               try clear hfz92_2
               try clear hx198_0
               try clear hx198_1
               try clear p198
               try clear q198
               obtain ⟨x124_4, rfl, HA, HK4, HO_10, HO_122, BK191, HB⟩ := hrel
               cases gk with
               | zero => exact absurd HA.out (by simp [impl_WheelRight.l3])
               | succ k4 =>
                have H := HA.out
                clear HA
                simp only [impl_WheelRight.l3] at H
                by_cases c97 : x124_4 < (t206.length : Int)
                ·
                 rw [if_pos c97] at H
                 have c97b0 : decide (x124_4 < (t206.length : Int)) = true := decide_eq_true c97
                 clear c97
                 by_cases c98 : 0 ≤ x124_4
                 ·
                  rw [if_pos c98] at H
                  have c98b0 : decide (0 ≤ x124_4) = true := decide_eq_true c98
                  clear c98
                  by_cases c99 : x124_4 < (t206.length : Int)
                  ·
                   rw [if_pos c99] at H
                   have c99b0 : decide (x124_4 < (t206.length : Int)) = true := decide_eq_true c99
                   clear c99
                   replace H := Option.bind_eq_some_iff.mp H
                   obtain ⟨t211, A1000, H⟩ := H
                   replace H : (if t211 = true then (if x124_4 > 0 then (if 0 ≤ (wrap64 (x124_4 - 1)) then (if (wrap64 (x124_4 - 1)) < (t206.length : Int) then (if ((rd_T91 t206 (wrap64 (x124_4 - 1))).f0) = ((rd_T91 t206 x124_4).f0) then (some false) else (impl_WheelRight.l3 k4 t206 t206 (t206.length : Int) (wrap64 (x124_4 + 1)))) else (none)) else (none)) else (impl_WheelRight.l3 k4 t206 t206 (t206.length : Int) (wrap64 (x124_4 + 1)))) else (some false)) = some r := H
                   have A100 := Aside0.mk A1000
                   clear A1000
                   by_cases c101 : t211 = true
                   ·
                    subst c101
                    have H1 : (if x124_4 > 0 then (if 0 ≤ (wrap64 (x124_4 - 1)) then (if (wrap64 (x124_4 - 1)) < (t206.length : Int) then (if ((rd_T91 t206 (wrap64 (x124_4 - 1))).f0) = ((rd_T91 t206 x124_4).f0) then (some false) else (impl_WheelRight.l3 k4 t206 t206 (t206.length : Int) (wrap64 (x124_4 + 1)))) else (none)) else (none)) else (impl_WheelRight.l3 k4 t206 t206 (t206.length : Int) (wrap64 (x124_4 + 1)))) = some r := by rw [if_pos rfl] at H; exact H
                    clear H
                    have H := H1
                    clear H1
                    by_cases c102 : x124_4 > 0
                    ·
                     rw [if_pos c102] at H
                     have c102b0 : decide (0 < x124_4) = true := decide_eq_true c102
                     clear c102
                     obtain ⟨ji103, hji103⟩ : ∃ j_ : Int, (wrap64 (x124_4 - 1)) = j_ := ⟨_, rfl⟩
                     replace H : (if 0 ≤ (ji103) then (if (ji103) < (t206.length : Int) then (if ((rd_T91 t206 (ji103)).f0) = ((rd_T91 t206 x124_4).f0) then (some false) else (impl_WheelRight.l3 k4 t206 t206 (t206.length : Int) (wrap64 (x124_4 + 1)))) else (none)) else (none)) = some r := by first | (rw [hji103] at H; exact H) | (simp only [hji103] at H ⊢; exact H)
                     (try rw [hji103] at A100)
                     have hji103w : (IntKind.i64.wrap (x124_4 - 1)) = ji103 := (i64_w _).trans hji103
                     by_cases c104 : 0 ≤ (ji103)
                     ·
                      rw [if_pos c104] at H
                      have c104b0 : decide (0 ≤ (ji103)) = true := decide_eq_true c104
                      clear c104
                      by_cases c105 : (ji103) < (t206.length : Int)
                      ·
                       rw [if_pos c105] at H
                       have c105b0 : decide ((ji103) < (t206.length : Int)) = true := decide_eq_true c105
                       clear c105
                       by_cases c106 : ((rd_T91 t206 (ji103)).f0) = ((rd_T91 t206 x124_4).f0)
                       ·
                        rw [if_pos c106] at H
                        have c106b0 : (((rd_T91 t206 (ji103)).f0) == ((rd_T91 t206 x124_4).f0)) = true := beq_iff_eq.mpr c106
                        have c106b1 : (((rd_T91 t206 (ji103)).f0) != ((rd_T91 t206 x124_4).f0)) = false := bne_eq_false_iff_eq.mpr c106
                        clear c106
                        obtain rfl := Option.some.inj H
                        have p209 : 0 ≤ (x124_4 : Int) := of_decide_eq_true (by first | (with_reducible assumption) | assumption)
                        have q209 : x124_4 < (t206.length : Int) := of_decide_eq_true (by first | (with_reducible assumption) | assumption)
                        obtain ⟨ad209, e209, hx209_0, hx209_1⟩ := at_T91 (Kd.R_reads' HO_122.out).2.2 x124_4 p209 q209
                        cases e209
                        replace p209 := eq_true p209
                        replace q209 := eq_true q209
                        try go_wp2_with (first | ((with_reducible refine gate_dst (N := 12) rfl ?_); (try (refine gate_guard (by rfl) ?_; dsimp only)); refine box_event ?hg (N := 12) ?hd (cs := #[.int .i64 0, .int .i64 0]) (t := 91) ?hr ?_; (case hd => rfl); (case hg => rfl); (case hr => first | (go_simp; done) | (go_simp; rfl)); intro gb210 hg w107 hbox hb; have n0_ := Aside0.mk (Kd.R_below (Kd.R_elderB (by exact rU_5 HO_10.out) gb210 (Nat.le_of_eq hg.symm)) hb); have n1_ := Aside0.mk (Kd.R_below (Kd.R_elderB (by exact rU_5 HO_122.out) gb210 (Nat.le_of_eq hg.symm)) hb); have n2_ := Aside0.mk (blk_below (up_5 BK191.out) hb); have n3_ := Aside0.mk (below_step (by repeat (first | (with_reducible first | exact HB.out | apply below_alloc | apply pw_below_drewN | apply below_drew1 | refine below_set ?_ GE191.out) | exact HB.out)) hb); have n4_ := Aside0.mk (hbox); have n5_ := Aside0.mk ((by rw [hg]; exact (below_size (by repeat (first | (with_reducible first | exact HB.out | apply below_alloc | apply pw_below_drewN | apply below_drew1 | refine below_set ?_ GE191.out) | exact HB.out))) : w.heap.size ≤ gb210)); have n6_ := Aside0.mk ((by rw [hg]; exact (below_size (by repeat (first | (with_reducible first | exact HB.out | apply below_alloc | apply pw_below_drewN | apply below_drew1 | refine below_set ?_ GE191.out) | exact HB.out))) : w.heap.size ≤ gb210)); have n7_ := Aside0.mk ((by rw [hg]; exact Nat.ne_of_lt (blk_lt (up_5 BK191.out)) : gb191 ≠ gb210)); have n8_ := Aside0.mk ((by rw [hg]; exact Nat.ne_of_gt (blk_lt (up_5 BK191.out)) : gb210 ≠ gb191)); clear HO_10; clear HO_122; clear BK191; clear HB; have HO_10 := n0_; have HO_122 := n1_; have BK191 := n2_; have HB := n3_; have BK210 := n4_; have GW210 := n5_; have GE210 := n6_; have NB191_210 := n7_; have NB210_191 := n8_; clear n0_ n1_ n2_ n3_ n4_ n5_ n6_ n7_ n8_; clear hb hbox hg; have hnb108 := NB210_191.out; have hnc108 := NB191_210.out; have hcz109_0 : w107.cell? ⟨gb210, 0, none⟩ = some (.int .i64 0) := (blk_cell BK210.out 0).trans rfl; have hcz109_1 : w107.cell? ⟨gb210, 1, none⟩ = some (.int .i64 0) := (blk_cell BK210.out 1).trans rfl; have hfz109_0 := blk_frozen BK210.out 0; have hfz109_1 := blk_frozen BK210.out 1))
                        have n0_ : Aside0 (Kd.R k91 91 ((w107.setCell ⟨gb210, 0, none⟩ (.int .i64 ((rd_T91 t206 x124_4).f0))).setCell ⟨gb210, 1, none⟩ (.int .i64 ((rd_T91 t206 x124_4).f1))) w.heap.size (fun k_ => k_ ≠ gb210) (.slice (some ad209) t206.length co96) t206) := ⟨by (with_reducible repeat (first | apply Kd.R_alloc | apply Kd.R_drewN | apply Kd.R_drew)); exact Kd.R_mono (Kd.R_far (p := ⟨gb210, 1, none⟩) (Kd.R_far (p := ⟨gb210, 0, none⟩) (Kd.R_mono HO_10.out (fun k_ hk => (⟨hk, hk.2⟩ : _ ∧ k_ ≠ gb210))) (fun _ hk => hk.2) (.int .i64 ((rd_T91 t206 x124_4).f0))) (fun _ hk => hk.2) (.int .i64 ((rd_T91 t206 x124_4).f1))) (fun _ hk => hk.1.2)⟩
                        have n1_ : Aside0 (Kd.R k91 91 ((w107.setCell ⟨gb210, 0, none⟩ (.int .i64 ((rd_T91 t206 x124_4).f0))).setCell ⟨gb210, 1, none⟩ (.int .i64 ((rd_T91 t206 x124_4).f1))) w.heap.size (fun k_ => k_ ≠ gb210) (.slice (some ad209) t206.length co96) t206) := ⟨by (with_reducible repeat (first | apply Kd.R_alloc | apply Kd.R_drewN | apply Kd.R_drew)); exact Kd.R_mono (Kd.R_far (p := ⟨gb210, 1, none⟩) (Kd.R_far (p := ⟨gb210, 0, none⟩) (Kd.R_mono HO_122.out (fun k_ hk => (⟨hk, hk.2⟩ : _ ∧ k_ ≠ gb210))) (fun _ hk => hk.2) (.int .i64 ((rd_T91 t206 x124_4).f0))) (fun _ hk => hk.2) (.int .i64 ((rd_T91 t206 x124_4).f1))) (fun _ hk => hk.1.2)⟩
                        have n2_ : Aside0 (((w107.setCell ⟨gb210, 0, none⟩ (.int .i64 ((rd_T91 t206 x124_4).f0))).setCell ⟨gb210, 1, none⟩ (.int .i64 ((rd_T91 t206 x124_4).f1))).heap[gb191]? = some (.cells #[.int .i64 a0_0, .slice A0_1 l0_1.length c0_1, .slice A0_2 l0_2.length c0_2] 45 (0, 0))) := ⟨by (with_reducible repeat (first | refine blk_drewN ?_ _ | refine blk_drew ?_ | refine blk_alloc ?_ _)); refine blk_far ?_ NB191_210.out _; (with_reducible repeat (first | refine blk_drewN ?_ _ | refine blk_drew ?_ | refine blk_alloc ?_ _)); refine blk_far ?_ NB191_210.out _; (with_reducible repeat (first | refine blk_drewN ?_ _ | refine blk_drew ?_ | refine blk_alloc ?_ _)); exact BK191.out⟩
                        have n3_ : Aside0 (((w107.setCell ⟨gb210, 0, none⟩ (.int .i64 ((rd_T91 t206 x124_4).f0))).setCell ⟨gb210, 1, none⟩ (.int .i64 ((rd_T91 t206 x124_4).f1))).heap[gb210]? = some (.cells #[.int .i64 ((rd_T91 t206 x124_4).f0), .int .i64 ((rd_T91 t206 x124_4).f1)] 91 (0, 0))) := ⟨by (with_reducible repeat (first | refine blk_drewN ?_ _ | refine blk_drew ?_ | refine blk_alloc ?_ _)); refine blk_put (cs := #[.int .i64 ((rd_T91 t206 x124_4).f0), .int .i64 0]) ?_ 1 _ rfl; (with_reducible repeat (first | refine blk_drewN ?_ _ | refine blk_drew ?_ | refine blk_alloc ?_ _)); refine blk_put (cs := #[.int .i64 0, .int .i64 0]) ?_ 0 _ rfl; (with_reducible repeat (first | refine blk_drewN ?_ _ | refine blk_drew ?_ | refine blk_alloc ?_ _)); exact BK210.out⟩
                        have n4_ : Aside0 (Below w.heap.size w ((w107.setCell ⟨gb210, 0, none⟩ (.int .i64 ((rd_T91 t206 x124_4).f0))).setCell ⟨gb210, 1, none⟩ (.int .i64 ((rd_T91 t206 x124_4).f1)))) := ⟨by repeat (first | (with_reducible first | exact HB.out | apply below_alloc | apply pw_below_drewN | apply below_drew1 | refine below_set ?_ GE191.out | refine below_set ?_ GE210.out) | exact HB.out)⟩
                        (try clear HO_10)
                        (try clear HO_122)
                        (try clear BK191)
                        (try clear BK210)
                        (try clear HB)
                        generalize ((w107.setCell ⟨gb210, 0, none⟩ (.int .i64 ((rd_T91 t206 x124_4).f0))).setCell ⟨gb210, 1, none⟩ (.int .i64 ((rd_T91 t206 x124_4).f1))) = w110 at n0_ n1_ n2_ n3_ n4_ ⊢
                        have HO_10 := n0_
                        have HO_122 := n1_
                        have BK191 := n2_
                        have BK210 := n3_
                        have HB := n4_
                        clear n0_ n1_ n2_ n3_ n4_
                        have n0_ := Aside0.mk (Kd.R_drew HO_10.out)
                        have n1_ := Aside0.mk (Kd.R_drew HO_122.out)
                        have n2_ := Aside0.mk (blk_drew BK191.out)
                        have n3_ := Aside0.mk (blk_drew BK210.out)
                        have n4_ := Aside0.mk (below_drew1 HB.out)
                        clear HO_10
                        clear HO_122
                        clear BK191
                        clear BK210
                        clear HB
                        have HO_10 := n0_
                        have HO_122 := n1_
                        have BK191 := n2_
                        have BK210 := n3_
                        have HB := n4_
                        clear n0_ n1_ n2_ n3_ n4_
                        have p212 : 0 ≤ ((ji103) : Int) := of_decide_eq_true (by first | (with_reducible assumption) | assumption)
                        have q212 : (ji103) < (t206.length : Int) := of_decide_eq_true (by first | (with_reducible assumption) | assumption)
                        obtain ⟨ad212, e212, hx212_0, hx212_1⟩ := at_T91 (Kd.R_reads' HO_10.out).2.2 (ji103) p212 q212
                        obtain rfl : ad209 = ad212 := (by injection e212)
                        replace p212 := eq_true p212
                        replace q212 := eq_true q212
                        refine start_ (n := 19) (S := fun w' => w'.cell? ⟨gb210, 0, none⟩ = some (.int .i64 ((rd_T91 t206 x124_4).f0)) ∧ w'.cell? ⟨gb210, 1, none⟩ = some (.int .i64 ((rd_T91 t206 x124_4).f1)) ∧ w'.cell? (ad209.add (((ji103)).toNat * 2)) = some (.int .i64 ((rd_T91 t206 (ji103)).f0)) ∧ w'.cell? ⟨(ad209.add (((ji103)).toNat * 2)).block, (ad209.add (((ji103)).toNat * 2)).off + 1, none⟩ = some (.int .i64 ((rd_T91 t206 (ji103)).f1))) (ds := []) #[false, false, false, false, false, false, false, false, false, false, false, false, false, false, false, false, false, false, false] (by kernel_rfl) rfl rfl ⟨(blk_cell BK210.out 0).trans rfl, (blk_cell BK210.out 1).trans rfl, hx212_0, hx212_1⟩ (fun hHeld => ?_); refine with_tabW impl_WheelRight.tab27 impl_WheelRight.bits27 (fun HT_ HW_ => ?_)
                        generalize w110.drew = w111 at HO_10 HO_122 BK191 BK210 HB hx212_0 hx212_1 hHeld ⊢
                        refine pu_5 0 129 #[o_5,x_5,x_5,x_5,x_5,x_5,x_5,x_5,x_5,x_5,x_5,x_5,x_5,x_5,x_5,x_5,x_5,x_5,x_5] HT_ rfl rfl (by kernel_rfl) ?_
                        refine tk_5 1 130 #[o_5,o_5,x_5,x_5,x_5,x_5,x_5,x_5,x_5,x_5,x_5,x_5,x_5,x_5,x_5,x_5,x_5,x_5,x_5] HT_ HW_ hHeld rfl rfl (by kernel_rfl) ?_ (by rintro w' ⟨s0, s1, s2, s3⟩; go_simp; with_reducible rfl)
                        refine one_ (i := 2) (N := some 131) #[o_5,o_5,o_5,x_5,x_5,x_5,x_5,x_5,x_5,x_5,x_5,x_5,x_5,x_5,x_5,x_5,x_5,x_5,x_5] rfl rfl (one_of HT_.out (by kernel_rfl)) (by decide) (fun K hK => ?_)
                        refine goes_ Try.func75 (by kernel_rfl) rfl #[.int .i64 ((rd_T91 t206 x124_4).f0)] (by rfl) rfl rfl (by (try simp only [List.map_toArray, List.map_cons, List.map_nil]); first | done | rfl | (simp only [List.length_drop, List.length_take]; rfl)) ?_
                        with_reducible refine (impl_isId.calls ((rd_T91 t206 x124_4).f0) true _ A100.out).mono ?_
                        rintro e w' ⟨rfl, ⟨nd, rfl⟩⟩
                        refine ⟨_, rfl, ?_⟩
                        refine hK.out _ _ ⟨(blk_cell BK210.out 0).trans rfl, (blk_cell BK210.out 1).trans rfl, hHeld.2.2.1, hHeld.2.2.2⟩ (fun hHeld => ?_)
                        clear hK K
                        refine norm_ (a' := ?_) ?_ ?_
                        rotate_left
                        ·
                         show Act.put _ (some 131) _ = _
                         simp only [Act.put, List.setIfInBounds_toArray, List.set_cons_zero, List.set_cons_succ, i64_w, i32_w]
                         rfl
                        refine pu_5 3 132 #[o_5,o_5,o_5,o_5,x_5,x_5,x_5,x_5,x_5,x_5,x_5,x_5,x_5,x_5,x_5,x_5,x_5,x_5,x_5] HT_ rfl rfl (by kernel_rfl) ?_
                        refine pu_5 4 133 #[o_5,o_5,o_5,o_5,o_5,x_5,x_5,x_5,x_5,x_5,x_5,x_5,x_5,x_5,x_5,x_5,x_5,x_5,x_5] HT_ rfl rfl (by kernel_rfl) ?_
                        refine pu_5 5 134 #[o_5,o_5,o_5,o_5,o_5,o_5,x_5,x_5,x_5,x_5,x_5,x_5,x_5,x_5,x_5,x_5,x_5,x_5,x_5] HT_ rfl rfl (by kernel_rfl) ?_
                        refine pu_5 6 135 #[o_5,o_5,o_5,o_5,o_5,o_5,o_5,x_5,x_5,x_5,x_5,x_5,x_5,x_5,x_5,x_5,x_5,x_5,x_5] HT_ rfl rfl (by kernel_rfl) ?_
                        refine pu_5 7 136 #[o_5,o_5,o_5,o_5,o_5,o_5,o_5,o_5,x_5,x_5,x_5,x_5,x_5,x_5,x_5,x_5,x_5,x_5,x_5] HT_ rfl rfl (by kernel_rfl) ?_
                        refine pu_5 8 137 #[o_5,o_5,o_5,o_5,o_5,o_5,o_5,o_5,o_5,x_5,x_5,x_5,x_5,x_5,x_5,x_5,x_5,x_5,x_5] HT_ rfl rfl (by kernel_rfl) ?_
                        refine pu_5 9 138 #[o_5,o_5,o_5,o_5,o_5,o_5,o_5,o_5,o_5,o_5,x_5,x_5,x_5,x_5,x_5,x_5,x_5,x_5,x_5] HT_ rfl rfl (by kernel_rfl) ?_
                        refine pu_5 10 139 #[o_5,o_5,o_5,o_5,o_5,o_5,o_5,o_5,o_5,o_5,o_5,x_5,x_5,x_5,x_5,x_5,x_5,x_5,x_5] HT_ rfl rfl (by kernel_rfl) ?_
                        refine pu_5 11 140 #[o_5,o_5,o_5,o_5,o_5,o_5,o_5,o_5,o_5,o_5,o_5,o_5,x_5,x_5,x_5,x_5,x_5,x_5,x_5] HT_ rfl rfl (by kernel_rfl) ?_
                        refine pu_5 12 141 #[o_5,o_5,o_5,o_5,o_5,o_5,o_5,o_5,o_5,o_5,o_5,o_5,o_5,x_5,x_5,x_5,x_5,x_5,x_5] HT_ rfl rfl (by kernel_rfl) ?_
                        refine pu_5 14 143 #[o_5,o_5,o_5,o_5,o_5,o_5,o_5,o_5,o_5,o_5,o_5,o_5,o_5,x_5,o_5,x_5,x_5,x_5,x_5] HT_ rfl rfl (by kernel_rfl) ?_
                        refine tk_5 13 142 #[o_5,o_5,o_5,o_5,o_5,o_5,o_5,o_5,o_5,o_5,o_5,o_5,o_5,o_5,o_5,x_5,x_5,x_5,x_5] HT_ HW_ hHeld rfl rfl (by kernel_rfl) ?_ (by rintro w' ⟨s0, s1, s2, s3⟩; go_simp; with_reducible rfl)
                        refine tk_5 15 144 #[o_5,o_5,o_5,o_5,o_5,o_5,o_5,o_5,o_5,o_5,o_5,o_5,o_5,o_5,o_5,o_5,x_5,x_5,x_5] HT_ HW_ hHeld rfl rfl (by kernel_rfl) ?_ (by rintro w' ⟨s0, s1, s2, s3⟩; go_simp; with_reducible rfl)
                        refine pu_5 16 145 #[o_5,o_5,o_5,o_5,o_5,o_5,o_5,o_5,o_5,o_5,o_5,o_5,o_5,o_5,o_5,o_5,o_5,x_5,x_5] HT_ rfl rfl (by kernel_rfl) ?_
                        refine pu_5 17 146 #[o_5,o_5,o_5,o_5,o_5,o_5,o_5,o_5,o_5,o_5,o_5,o_5,o_5,o_5,o_5,o_5,o_5,o_5,x_5] HT_ rfl rfl (by kernel_rfl) ?_
                        refine pu_5 18 147 #[o_5,o_5,o_5,o_5,o_5,o_5,o_5,o_5,o_5,o_5,o_5,o_5,o_5,o_5,o_5,o_5,o_5,o_5,o_5] HT_ rfl rfl (by kernel_rfl) ?_
                        refine done_ (done_of HT_.out (by kernel_rfl)) ?_
                        try go_wp2
                        go_ret
                        exact ⟨by first | rfl | (simp [errW_none, errW_some] <;> rfl) | (simp only [← hji103]; first | rfl | (simp [errW_none, errW_some] <;> rfl)) | (simp [*, errW_none, errW_some] <;> rfl), by repeat (first | (with_reducible first | exact HB.out | apply below_alloc | apply pw_below_drewN | apply below_drew1 | refine below_set ?_ GE191.out | refine below_set ?_ GE210.out) | exact HB.out)⟩
                       ·
                        rw [if_neg c106] at H
                        have c106b0 : (((rd_T91 t206 (ji103)).f0) == ((rd_T91 t206 x124_4).f0)) = false := beq_eq_false_iff_ne.mpr c106
                        have c106b1 : (((rd_T91 t206 (ji103)).f0) != ((rd_T91 t206 x124_4).f0)) = true := bne_iff_ne.mpr c106
                        have H' := Aside0.mk H
                        clear H
                        have p209 : 0 ≤ (x124_4 : Int) := of_decide_eq_true (by first | (with_reducible assumption) | assumption)
                        have q209 : x124_4 < (t206.length : Int) := of_decide_eq_true (by first | (with_reducible assumption) | assumption)
                        obtain ⟨ad209, e209, hx209_0, hx209_1⟩ := at_T91 (Kd.R_reads' HO_122.out).2.2 x124_4 p209 q209
                        cases e209
                        replace p209 := eq_true p209
                        replace q209 := eq_true q209
                        try go_wp2_with (first | ((with_reducible refine gate_dst (N := 12) rfl ?_); (try (refine gate_guard (by rfl) ?_; dsimp only)); refine box_event ?hg (N := 12) ?hd (cs := #[.int .i64 0, .int .i64 0]) (t := 91) ?hr ?_; (case hd => rfl); (case hg => rfl); (case hr => first | (go_simp; done) | (go_simp; rfl)); intro gb210 hg w112 hbox hb; have n0_ := Aside0.mk (Kd.R_below (Kd.R_elderB (by exact rU_5 HO_10.out) gb210 (Nat.le_of_eq hg.symm)) hb); have n1_ := Aside0.mk (Kd.R_below (Kd.R_elderB (by exact rU_5 HO_122.out) gb210 (Nat.le_of_eq hg.symm)) hb); have n2_ := Aside0.mk (blk_below (up_5 BK191.out) hb); have n3_ := Aside0.mk (below_step (by repeat (first | (with_reducible first | exact HB.out | apply below_alloc | apply pw_below_drewN | apply below_drew1 | refine below_set ?_ GE191.out) | exact HB.out)) hb); have n4_ := Aside0.mk (hbox); have n5_ := Aside0.mk ((by rw [hg]; exact (below_size (by repeat (first | (with_reducible first | exact HB.out | apply below_alloc | apply pw_below_drewN | apply below_drew1 | refine below_set ?_ GE191.out) | exact HB.out))) : w.heap.size ≤ gb210)); have n6_ := Aside0.mk ((by rw [hg]; exact (below_size (by repeat (first | (with_reducible first | exact HB.out | apply below_alloc | apply pw_below_drewN | apply below_drew1 | refine below_set ?_ GE191.out) | exact HB.out))) : w.heap.size ≤ gb210)); have n7_ := Aside0.mk ((by rw [hg]; exact Nat.ne_of_lt (blk_lt (up_5 BK191.out)) : gb191 ≠ gb210)); have n8_ := Aside0.mk ((by rw [hg]; exact Nat.ne_of_gt (blk_lt (up_5 BK191.out)) : gb210 ≠ gb191)); clear HO_10; clear HO_122; clear BK191; clear HB; have HO_10 := n0_; have HO_122 := n1_; have BK191 := n2_; have HB := n3_; have BK210 := n4_; have GW210 := n5_; have GE210 := n6_; have NB191_210 := n7_; have NB210_191 := n8_; clear n0_ n1_ n2_ n3_ n4_ n5_ n6_ n7_ n8_; clear hb hbox hg; have hnb113 := NB210_191.out; have hnc113 := NB191_210.out; have hcz114_0 : w112.cell? ⟨gb210, 0, none⟩ = some (.int .i64 0) := (blk_cell BK210.out 0).trans rfl; have hcz114_1 : w112.cell? ⟨gb210, 1, none⟩ = some (.int .i64 0) := (blk_cell BK210.out 1).trans rfl; have hfz114_0 := blk_frozen BK210.out 0; have hfz114_1 := blk_frozen BK210.out 1))
                        have n0_ : Aside0 (Kd.R k91 91 ((w112.setCell ⟨gb210, 0, none⟩ (.int .i64 ((rd_T91 t206 x124_4).f0))).setCell ⟨gb210, 1, none⟩ (.int .i64 ((rd_T91 t206 x124_4).f1))) w.heap.size (fun k_ => k_ ≠ gb210) (.slice (some ad209) t206.length co96) t206) := ⟨by (with_reducible repeat (first | apply Kd.R_alloc | apply Kd.R_drewN | apply Kd.R_drew)); exact Kd.R_mono (Kd.R_far (p := ⟨gb210, 1, none⟩) (Kd.R_far (p := ⟨gb210, 0, none⟩) (Kd.R_mono HO_10.out (fun k_ hk => (⟨hk, hk.2⟩ : _ ∧ k_ ≠ gb210))) (fun _ hk => hk.2) (.int .i64 ((rd_T91 t206 x124_4).f0))) (fun _ hk => hk.2) (.int .i64 ((rd_T91 t206 x124_4).f1))) (fun _ hk => hk.1.2)⟩
                        have n1_ : Aside0 (Kd.R k91 91 ((w112.setCell ⟨gb210, 0, none⟩ (.int .i64 ((rd_T91 t206 x124_4).f0))).setCell ⟨gb210, 1, none⟩ (.int .i64 ((rd_T91 t206 x124_4).f1))) w.heap.size (fun k_ => k_ ≠ gb210) (.slice (some ad209) t206.length co96) t206) := ⟨by (with_reducible repeat (first | apply Kd.R_alloc | apply Kd.R_drewN | apply Kd.R_drew)); exact Kd.R_mono (Kd.R_far (p := ⟨gb210, 1, none⟩) (Kd.R_far (p := ⟨gb210, 0, none⟩) (Kd.R_mono HO_122.out (fun k_ hk => (⟨hk, hk.2⟩ : _ ∧ k_ ≠ gb210))) (fun _ hk => hk.2) (.int .i64 ((rd_T91 t206 x124_4).f0))) (fun _ hk => hk.2) (.int .i64 ((rd_T91 t206 x124_4).f1))) (fun _ hk => hk.1.2)⟩
                        have n2_ : Aside0 (((w112.setCell ⟨gb210, 0, none⟩ (.int .i64 ((rd_T91 t206 x124_4).f0))).setCell ⟨gb210, 1, none⟩ (.int .i64 ((rd_T91 t206 x124_4).f1))).heap[gb191]? = some (.cells #[.int .i64 a0_0, .slice A0_1 l0_1.length c0_1, .slice A0_2 l0_2.length c0_2] 45 (0, 0))) := ⟨by (with_reducible repeat (first | refine blk_drewN ?_ _ | refine blk_drew ?_ | refine blk_alloc ?_ _)); refine blk_far ?_ NB191_210.out _; (with_reducible repeat (first | refine blk_drewN ?_ _ | refine blk_drew ?_ | refine blk_alloc ?_ _)); refine blk_far ?_ NB191_210.out _; (with_reducible repeat (first | refine blk_drewN ?_ _ | refine blk_drew ?_ | refine blk_alloc ?_ _)); exact BK191.out⟩
                        have n3_ : Aside0 (((w112.setCell ⟨gb210, 0, none⟩ (.int .i64 ((rd_T91 t206 x124_4).f0))).setCell ⟨gb210, 1, none⟩ (.int .i64 ((rd_T91 t206 x124_4).f1))).heap[gb210]? = some (.cells #[.int .i64 ((rd_T91 t206 x124_4).f0), .int .i64 ((rd_T91 t206 x124_4).f1)] 91 (0, 0))) := ⟨by (with_reducible repeat (first | refine blk_drewN ?_ _ | refine blk_drew ?_ | refine blk_alloc ?_ _)); refine blk_put (cs := #[.int .i64 ((rd_T91 t206 x124_4).f0), .int .i64 0]) ?_ 1 _ rfl; (with_reducible repeat (first | refine blk_drewN ?_ _ | refine blk_drew ?_ | refine blk_alloc ?_ _)); refine blk_put (cs := #[.int .i64 0, .int .i64 0]) ?_ 0 _ rfl; (with_reducible repeat (first | refine blk_drewN ?_ _ | refine blk_drew ?_ | refine blk_alloc ?_ _)); exact BK210.out⟩
                        have n4_ : Aside0 (Below w.heap.size w ((w112.setCell ⟨gb210, 0, none⟩ (.int .i64 ((rd_T91 t206 x124_4).f0))).setCell ⟨gb210, 1, none⟩ (.int .i64 ((rd_T91 t206 x124_4).f1)))) := ⟨by repeat (first | (with_reducible first | exact HB.out | apply below_alloc | apply pw_below_drewN | apply below_drew1 | refine below_set ?_ GE191.out | refine below_set ?_ GE210.out) | exact HB.out)⟩
                        (try clear HO_10)
                        (try clear HO_122)
                        (try clear BK191)
                        (try clear BK210)
                        (try clear HB)
                        generalize ((w112.setCell ⟨gb210, 0, none⟩ (.int .i64 ((rd_T91 t206 x124_4).f0))).setCell ⟨gb210, 1, none⟩ (.int .i64 ((rd_T91 t206 x124_4).f1))) = w115 at n0_ n1_ n2_ n3_ n4_ ⊢
                        have HO_10 := n0_
                        have HO_122 := n1_
                        have BK191 := n2_
                        have BK210 := n3_
                        have HB := n4_
                        clear n0_ n1_ n2_ n3_ n4_
                        have n0_ := Aside0.mk (Kd.R_drew HO_10.out)
                        have n1_ := Aside0.mk (Kd.R_drew HO_122.out)
                        have n2_ := Aside0.mk (blk_drew BK191.out)
                        have n3_ := Aside0.mk (blk_drew BK210.out)
                        have n4_ := Aside0.mk (below_drew1 HB.out)
                        clear HO_10
                        clear HO_122
                        clear BK191
                        clear BK210
                        clear HB
                        have HO_10 := n0_
                        have HO_122 := n1_
                        have BK191 := n2_
                        have BK210 := n3_
                        have HB := n4_
                        clear n0_ n1_ n2_ n3_ n4_
                        have p212 : 0 ≤ ((ji103) : Int) := of_decide_eq_true (by first | (with_reducible assumption) | assumption)
                        have q212 : (ji103) < (t206.length : Int) := of_decide_eq_true (by first | (with_reducible assumption) | assumption)
                        obtain ⟨ad212, e212, hx212_0, hx212_1⟩ := at_T91 (Kd.R_reads' HO_10.out).2.2 (ji103) p212 q212
                        obtain rfl : ad209 = ad212 := (by injection e212)
                        replace p212 := eq_true p212
                        replace q212 := eq_true q212
                        refine start_ (n := 19) (S := fun w' => w'.cell? ⟨gb210, 0, none⟩ = some (.int .i64 ((rd_T91 t206 x124_4).f0)) ∧ w'.cell? ⟨gb210, 1, none⟩ = some (.int .i64 ((rd_T91 t206 x124_4).f1)) ∧ w'.cell? (ad209.add (((ji103)).toNat * 2)) = some (.int .i64 ((rd_T91 t206 (ji103)).f0)) ∧ w'.cell? ⟨(ad209.add (((ji103)).toNat * 2)).block, (ad209.add (((ji103)).toNat * 2)).off + 1, none⟩ = some (.int .i64 ((rd_T91 t206 (ji103)).f1))) (ds := []) #[false, false, false, false, false, false, false, false, false, false, false, false, false, false, false, false, false, false, false] (by kernel_rfl) rfl rfl ⟨(blk_cell BK210.out 0).trans rfl, (blk_cell BK210.out 1).trans rfl, hx212_0, hx212_1⟩ (fun hHeld => ?_); refine with_tabW impl_WheelRight.tab27 impl_WheelRight.bits27 (fun HT_ HW_ => ?_)
                        generalize w115.drew = w116 at HO_10 HO_122 BK191 BK210 HB hx212_0 hx212_1 hHeld ⊢
                        refine pu_5 0 129 #[o_5,x_5,x_5,x_5,x_5,x_5,x_5,x_5,x_5,x_5,x_5,x_5,x_5,x_5,x_5,x_5,x_5,x_5,x_5] HT_ rfl rfl (by kernel_rfl) ?_
                        refine tk_5 1 130 #[o_5,o_5,x_5,x_5,x_5,x_5,x_5,x_5,x_5,x_5,x_5,x_5,x_5,x_5,x_5,x_5,x_5,x_5,x_5] HT_ HW_ hHeld rfl rfl (by kernel_rfl) ?_ (by rintro w' ⟨s0, s1, s2, s3⟩; go_simp; with_reducible rfl)
                        refine one_ (i := 2) (N := some 131) #[o_5,o_5,o_5,x_5,x_5,x_5,x_5,x_5,x_5,x_5,x_5,x_5,x_5,x_5,x_5,x_5,x_5,x_5,x_5] rfl rfl (one_of HT_.out (by kernel_rfl)) (by decide) (fun K hK => ?_)
                        refine goes_ Try.func75 (by kernel_rfl) rfl #[.int .i64 ((rd_T91 t206 x124_4).f0)] (by rfl) rfl rfl (by (try simp only [List.map_toArray, List.map_cons, List.map_nil]); first | done | rfl | (simp only [List.length_drop, List.length_take]; rfl)) ?_
                        with_reducible refine (impl_isId.calls ((rd_T91 t206 x124_4).f0) true _ A100.out).mono ?_
                        rintro e w' ⟨rfl, ⟨nd, rfl⟩⟩
                        refine ⟨_, rfl, ?_⟩
                        refine hK.out _ _ ⟨(blk_cell BK210.out 0).trans rfl, (blk_cell BK210.out 1).trans rfl, hHeld.2.2.1, hHeld.2.2.2⟩ (fun hHeld => ?_)
                        clear hK K
                        refine norm_ (a' := ?_) ?_ ?_
                        rotate_left
                        ·
                         show Act.put _ (some 131) _ = _
                         simp only [Act.put, List.setIfInBounds_toArray, List.set_cons_zero, List.set_cons_succ, i64_w, i32_w]
                         rfl
                        refine pu_5 3 132 #[o_5,o_5,o_5,o_5,x_5,x_5,x_5,x_5,x_5,x_5,x_5,x_5,x_5,x_5,x_5,x_5,x_5,x_5,x_5] HT_ rfl rfl (by kernel_rfl) ?_
                        refine pu_5 4 133 #[o_5,o_5,o_5,o_5,o_5,x_5,x_5,x_5,x_5,x_5,x_5,x_5,x_5,x_5,x_5,x_5,x_5,x_5,x_5] HT_ rfl rfl (by kernel_rfl) ?_
                        refine pu_5 5 134 #[o_5,o_5,o_5,o_5,o_5,o_5,x_5,x_5,x_5,x_5,x_5,x_5,x_5,x_5,x_5,x_5,x_5,x_5,x_5] HT_ rfl rfl (by kernel_rfl) ?_
                        refine pu_5 6 135 #[o_5,o_5,o_5,o_5,o_5,o_5,o_5,x_5,x_5,x_5,x_5,x_5,x_5,x_5,x_5,x_5,x_5,x_5,x_5] HT_ rfl rfl (by kernel_rfl) ?_
                        refine pu_5 7 136 #[o_5,o_5,o_5,o_5,o_5,o_5,o_5,o_5,x_5,x_5,x_5,x_5,x_5,x_5,x_5,x_5,x_5,x_5,x_5] HT_ rfl rfl (by kernel_rfl) ?_
                        refine pu_5 8 137 #[o_5,o_5,o_5,o_5,o_5,o_5,o_5,o_5,o_5,x_5,x_5,x_5,x_5,x_5,x_5,x_5,x_5,x_5,x_5] HT_ rfl rfl (by kernel_rfl) ?_
                        refine pu_5 9 138 #[o_5,o_5,o_5,o_5,o_5,o_5,o_5,o_5,o_5,o_5,x_5,x_5,x_5,x_5,x_5,x_5,x_5,x_5,x_5] HT_ rfl rfl (by kernel_rfl) ?_
                        refine pu_5 10 139 #[o_5,o_5,o_5,o_5,o_5,o_5,o_5,o_5,o_5,o_5,o_5,x_5,x_5,x_5,x_5,x_5,x_5,x_5,x_5] HT_ rfl rfl (by kernel_rfl) ?_
                        refine pu_5 11 140 #[o_5,o_5,o_5,o_5,o_5,o_5,o_5,o_5,o_5,o_5,o_5,o_5,x_5,x_5,x_5,x_5,x_5,x_5,x_5] HT_ rfl rfl (by kernel_rfl) ?_
                        refine pu_5 12 141 #[o_5,o_5,o_5,o_5,o_5,o_5,o_5,o_5,o_5,o_5,o_5,o_5,o_5,x_5,x_5,x_5,x_5,x_5,x_5] HT_ rfl rfl (by kernel_rfl) ?_
                        refine pu_5 14 143 #[o_5,o_5,o_5,o_5,o_5,o_5,o_5,o_5,o_5,o_5,o_5,o_5,o_5,x_5,o_5,x_5,x_5,x_5,x_5] HT_ rfl rfl (by kernel_rfl) ?_
                        refine tk_5 13 142 #[o_5,o_5,o_5,o_5,o_5,o_5,o_5,o_5,o_5,o_5,o_5,o_5,o_5,o_5,o_5,x_5,x_5,x_5,x_5] HT_ HW_ hHeld rfl rfl (by kernel_rfl) ?_ (by rintro w' ⟨s0, s1, s2, s3⟩; go_simp; with_reducible rfl)
                        refine tk_5 15 144 #[o_5,o_5,o_5,o_5,o_5,o_5,o_5,o_5,o_5,o_5,o_5,o_5,o_5,o_5,o_5,o_5,x_5,x_5,x_5] HT_ HW_ hHeld rfl rfl (by kernel_rfl) ?_ (by rintro w' ⟨s0, s1, s2, s3⟩; go_simp; with_reducible rfl)
                        refine pu_5 16 145 #[o_5,o_5,o_5,o_5,o_5,o_5,o_5,o_5,o_5,o_5,o_5,o_5,o_5,o_5,o_5,o_5,o_5,x_5,x_5] HT_ rfl rfl (by kernel_rfl) ?_
                        refine pu_5 17 146 #[o_5,o_5,o_5,o_5,o_5,o_5,o_5,o_5,o_5,o_5,o_5,o_5,o_5,o_5,o_5,o_5,o_5,o_5,x_5] HT_ rfl rfl (by kernel_rfl) ?_
                        refine pu_5 18 147 #[o_5,o_5,o_5,o_5,o_5,o_5,o_5,o_5,o_5,o_5,o_5,o_5,o_5,o_5,o_5,o_5,o_5,o_5,o_5] HT_ rfl rfl (by kernel_rfl) ?_
                        refine done_ (done_of HT_.out (by kernel_rfl)) ?_
                        try go_wp2
                        go_roundg k4
                        case measure => have := HJ1.out; have := HK2.out; have := HK3.out; have := HK4.out; omega
                        case rel => exact ⟨(wrap64 (x124_4 + 1)), (by first | rfl | (simp; done) | (simp [*]; done)), H', ⟨by have := HJ1.out; have := HK2.out; have := HK3.out; have := HK4.out; omega⟩, ⟨by (with_reducible repeat (first | apply Kd.R_alloc | apply Kd.R_drewN | apply Kd.R_drew)); exact Kd.R_mono HO_10.out (fun _ hk => trivial)⟩, ⟨by (with_reducible repeat (first | apply Kd.R_alloc | apply Kd.R_drewN | apply Kd.R_drew)); exact Kd.R_mono HO_122.out (fun _ hk => trivial)⟩, ⟨by (with_reducible repeat (first | refine blk_drewN ?_ _ | refine blk_drew ?_ | refine blk_alloc ?_ _)); exact BK191.out⟩, ⟨by repeat (first | (with_reducible first | exact HB.out | apply below_alloc | apply pw_below_drewN | apply below_drew1 | refine below_set ?_ GE191.out | refine below_set ?_ GE210.out) | exact HB.out)⟩⟩
                      ·
                       rw [if_neg c105] at H
                       exact absurd H (by simp)
                     ·
                      rw [if_neg c104] at H
                      exact absurd H (by simp)
                    ·
                     rw [if_neg c102] at H
                     have c102b0 : decide (0 < x124_4) = false := decide_eq_false c102
                     clear c102
                     have H' := Aside0.mk H
                     clear H
                     have p209 : 0 ≤ (x124_4 : Int) := of_decide_eq_true (by first | (with_reducible assumption) | assumption)
                     have q209 : x124_4 < (t206.length : Int) := of_decide_eq_true (by first | (with_reducible assumption) | assumption)
                     obtain ⟨ad209, e209, hx209_0, hx209_1⟩ := at_T91 (Kd.R_reads' HO_122.out).2.2 x124_4 p209 q209
                     cases e209
                     replace p209 := eq_true p209
                     replace q209 := eq_true q209
                     try go_wp2_with (first | ((with_reducible refine gate_dst (N := 12) rfl ?_); (try (refine gate_guard (by rfl) ?_; dsimp only)); refine box_event ?hg (N := 12) ?hd (cs := #[.int .i64 0, .int .i64 0]) (t := 91) ?hr ?_; (case hd => rfl); (case hg => rfl); (case hr => first | (go_simp; done) | (go_simp; rfl)); intro gb210 hg w117 hbox hb; have n0_ := Aside0.mk (Kd.R_below (Kd.R_elderB (by exact rU_5 HO_10.out) gb210 (Nat.le_of_eq hg.symm)) hb); have n1_ := Aside0.mk (Kd.R_below (Kd.R_elderB (by exact rU_5 HO_122.out) gb210 (Nat.le_of_eq hg.symm)) hb); have n2_ := Aside0.mk (blk_below (up_5 BK191.out) hb); have n3_ := Aside0.mk (below_step (by repeat (first | (with_reducible first | exact HB.out | apply below_alloc | apply pw_below_drewN | apply below_drew1 | refine below_set ?_ GE191.out) | exact HB.out)) hb); have n4_ := Aside0.mk (hbox); have n5_ := Aside0.mk ((by rw [hg]; exact (below_size (by repeat (first | (with_reducible first | exact HB.out | apply below_alloc | apply pw_below_drewN | apply below_drew1 | refine below_set ?_ GE191.out) | exact HB.out))) : w.heap.size ≤ gb210)); have n6_ := Aside0.mk ((by rw [hg]; exact (below_size (by repeat (first | (with_reducible first | exact HB.out | apply below_alloc | apply pw_below_drewN | apply below_drew1 | refine below_set ?_ GE191.out) | exact HB.out))) : w.heap.size ≤ gb210)); have n7_ := Aside0.mk ((by rw [hg]; exact Nat.ne_of_lt (blk_lt (up_5 BK191.out)) : gb191 ≠ gb210)); have n8_ := Aside0.mk ((by rw [hg]; exact Nat.ne_of_gt (blk_lt (up_5 BK191.out)) : gb210 ≠ gb191)); clear HO_10; clear HO_122; clear BK191; clear HB; have HO_10 := n0_; have HO_122 := n1_; have BK191 := n2_; have HB := n3_; have BK210 := n4_; have GW210 := n5_; have GE210 := n6_; have NB191_210 := n7_; have NB210_191 := n8_; clear n0_ n1_ n2_ n3_ n4_ n5_ n6_ n7_ n8_; clear hb hbox hg; have hnb118 := NB210_191.out; have hnc118 := NB191_210.out; have hcz119_0 : w117.cell? ⟨gb210, 0, none⟩ = some (.int .i64 0) := (blk_cell BK210.out 0).trans rfl; have hcz119_1 : w117.cell? ⟨gb210, 1, none⟩ = some (.int .i64 0) := (blk_cell BK210.out 1).trans rfl; have hfz119_0 := blk_frozen BK210.out 0; have hfz119_1 := blk_frozen BK210.out 1))
                     have n0_ : Aside0 (Kd.R k91 91 ((w117.setCell ⟨gb210, 0, none⟩ (.int .i64 ((rd_T91 t206 x124_4).f0))).setCell ⟨gb210, 1, none⟩ (.int .i64 ((rd_T91 t206 x124_4).f1))) w.heap.size (fun k_ => k_ ≠ gb210) (.slice (some ad209) t206.length co96) t206) := ⟨by (with_reducible repeat (first | apply Kd.R_alloc | apply Kd.R_drewN | apply Kd.R_drew)); exact Kd.R_mono (Kd.R_far (p := ⟨gb210, 1, none⟩) (Kd.R_far (p := ⟨gb210, 0, none⟩) (Kd.R_mono HO_10.out (fun k_ hk => (⟨hk, hk.2⟩ : _ ∧ k_ ≠ gb210))) (fun _ hk => hk.2) (.int .i64 ((rd_T91 t206 x124_4).f0))) (fun _ hk => hk.2) (.int .i64 ((rd_T91 t206 x124_4).f1))) (fun _ hk => hk.1.2)⟩
                     have n1_ : Aside0 (Kd.R k91 91 ((w117.setCell ⟨gb210, 0, none⟩ (.int .i64 ((rd_T91 t206 x124_4).f0))).setCell ⟨gb210, 1, none⟩ (.int .i64 ((rd_T91 t206 x124_4).f1))) w.heap.size (fun k_ => k_ ≠ gb210) (.slice (some ad209) t206.length co96) t206) := ⟨by (with_reducible repeat (first | apply Kd.R_alloc | apply Kd.R_drewN | apply Kd.R_drew)); exact Kd.R_mono (Kd.R_far (p := ⟨gb210, 1, none⟩) (Kd.R_far (p := ⟨gb210, 0, none⟩) (Kd.R_mono HO_122.out (fun k_ hk => (⟨hk, hk.2⟩ : _ ∧ k_ ≠ gb210))) (fun _ hk => hk.2) (.int .i64 ((rd_T91 t206 x124_4).f0))) (fun _ hk => hk.2) (.int .i64 ((rd_T91 t206 x124_4).f1))) (fun _ hk => hk.1.2)⟩
                     have n2_ : Aside0 (((w117.setCell ⟨gb210, 0, none⟩ (.int .i64 ((rd_T91 t206 x124_4).f0))).setCell ⟨gb210, 1, none⟩ (.int .i64 ((rd_T91 t206 x124_4).f1))).heap[gb191]? = some (.cells #[.int .i64 a0_0, .slice A0_1 l0_1.length c0_1, .slice A0_2 l0_2.length c0_2] 45 (0, 0))) := ⟨by (with_reducible repeat (first | refine blk_drewN ?_ _ | refine blk_drew ?_ | refine blk_alloc ?_ _)); refine blk_far ?_ NB191_210.out _; (with_reducible repeat (first | refine blk_drewN ?_ _ | refine blk_drew ?_ | refine blk_alloc ?_ _)); refine blk_far ?_ NB191_210.out _; (with_reducible repeat (first | refine blk_drewN ?_ _ | refine blk_drew ?_ | refine blk_alloc ?_ _)); exact BK191.out⟩
                     have n3_ : Aside0 (((w117.setCell ⟨gb210, 0, none⟩ (.int .i64 ((rd_T91 t206 x124_4).f0))).setCell ⟨gb210, 1, none⟩ (.int .i64 ((rd_T91 t206 x124_4).f1))).heap[gb210]? = some (.cells #[.int .i64 ((rd_T91 t206 x124_4).f0), .int .i64 ((rd_T91 t206 x124_4).f1)] 91 (0, 0))) := ⟨by (with_reducible repeat (first | refine blk_drewN ?_ _ | refine blk_drew ?_ | refine blk_alloc ?_ _)); refine blk_put (cs := #[.int .i64 ((rd_T91 t206 x124_4).f0), .int .i64 0]) ?_ 1 _ rfl; (with_reducible repeat (first | refine blk_drewN ?_ _ | refine blk_drew ?_ | refine blk_alloc ?_ _)); refine blk_put (cs := #[.int .i64 0, .int .i64 0]) ?_ 0 _ rfl; (with_reducible repeat (first | refine blk_drewN ?_ _ | refine blk_drew ?_ | refine blk_alloc ?_ _)); exact BK210.out⟩
                     have n4_ : Aside0 (Below w.heap.size w ((w117.setCell ⟨gb210, 0, none⟩ (.int .i64 ((rd_T91 t206 x124_4).f0))).setCell ⟨gb210, 1, none⟩ (.int .i64 ((rd_T91 t206 x124_4).f1)))) := ⟨by repeat (first | (with_reducible first | exact HB.out | apply below_alloc | apply pw_below_drewN | apply below_drew1 | refine below_set ?_ GE191.out | refine below_set ?_ GE210.out) | exact HB.out)⟩
                     (try clear HO_10)
                     (try clear HO_122)
                     (try clear BK191)
                     (try clear BK210)
                     (try clear HB)
                     generalize ((w117.setCell ⟨gb210, 0, none⟩ (.int .i64 ((rd_T91 t206 x124_4).f0))).setCell ⟨gb210, 1, none⟩ (.int .i64 ((rd_T91 t206 x124_4).f1))) = w120 at n0_ n1_ n2_ n3_ n4_ ⊢
                     have HO_10 := n0_
                     have HO_122 := n1_
                     have BK191 := n2_
                     have BK210 := n3_
                     have HB := n4_
                     clear n0_ n1_ n2_ n3_ n4_
                     have n0_ := Aside0.mk (Kd.R_drew HO_10.out)
                     have n1_ := Aside0.mk (Kd.R_drew HO_122.out)
                     have n2_ := Aside0.mk (blk_drew BK191.out)
                     have n3_ := Aside0.mk (blk_drew BK210.out)
                     have n4_ := Aside0.mk (below_drew1 HB.out)
                     clear HO_10
                     clear HO_122
                     clear BK191
                     clear BK210
                     clear HB
                     have HO_10 := n0_
                     have HO_122 := n1_
                     have BK191 := n2_
                     have BK210 := n3_
                     have HB := n4_
                     clear n0_ n1_ n2_ n3_ n4_
                     refine start_ (n := 19) (S := fun w' => w'.cell? ⟨gb210, 0, none⟩ = some (.int .i64 ((rd_T91 t206 x124_4).f0)) ∧ w'.cell? ⟨gb210, 1, none⟩ = some (.int .i64 ((rd_T91 t206 x124_4).f1))) (ds := []) #[false, false, false, false, false, false, false, false, false, false, false, false, false, false, false, false, false, false, false] (by kernel_rfl) rfl rfl ⟨(blk_cell BK210.out 0).trans rfl, (blk_cell BK210.out 1).trans rfl⟩ (fun hHeld => ?_); refine with_tabW impl_WheelRight.tab27 impl_WheelRight.bits27 (fun HT_ HW_ => ?_)
                     generalize w120.drew = w121 at HO_10 HO_122 BK191 BK210 HB hHeld ⊢
                     refine pu_5 0 129 #[o_5,x_5,x_5,x_5,x_5,x_5,x_5,x_5,x_5,x_5,x_5,x_5,x_5,x_5,x_5,x_5,x_5,x_5,x_5] HT_ rfl rfl (by kernel_rfl) ?_
                     refine tk_5 1 130 #[o_5,o_5,x_5,x_5,x_5,x_5,x_5,x_5,x_5,x_5,x_5,x_5,x_5,x_5,x_5,x_5,x_5,x_5,x_5] HT_ HW_ hHeld rfl rfl (by kernel_rfl) ?_ (by rintro w' ⟨s0, s1⟩; go_simp; with_reducible rfl)
                     refine one_ (i := 2) (N := some 131) #[o_5,o_5,o_5,x_5,x_5,x_5,x_5,x_5,x_5,x_5,x_5,x_5,x_5,x_5,x_5,x_5,x_5,x_5,x_5] rfl rfl (one_of HT_.out (by kernel_rfl)) (by decide) (fun K hK => ?_)
                     refine goes_ Try.func75 (by kernel_rfl) rfl #[.int .i64 ((rd_T91 t206 x124_4).f0)] (by rfl) rfl rfl (by (try simp only [List.map_toArray, List.map_cons, List.map_nil]); first | done | rfl | (simp only [List.length_drop, List.length_take]; rfl)) ?_
                     with_reducible refine (impl_isId.calls ((rd_T91 t206 x124_4).f0) true _ A100.out).mono ?_
                     rintro e w' ⟨rfl, ⟨nd, rfl⟩⟩
                     refine ⟨_, rfl, ?_⟩
                     refine hK.out _ _ ⟨(blk_cell BK210.out 0).trans rfl, (blk_cell BK210.out 1).trans rfl⟩ (fun hHeld => ?_)
                     clear hK K
                     refine norm_ (a' := ?_) ?_ ?_
                     rotate_left
                     ·
                      show Act.put _ (some 131) _ = _
                      simp only [Act.put, List.setIfInBounds_toArray, List.set_cons_zero, List.set_cons_succ, i64_w, i32_w]
                      rfl
                     refine pu_5 3 132 #[o_5,o_5,o_5,o_5,x_5,x_5,x_5,x_5,x_5,x_5,x_5,x_5,x_5,x_5,x_5,x_5,x_5,x_5,x_5] HT_ rfl rfl (by kernel_rfl) ?_
                     refine pu_5 4 133 #[o_5,o_5,o_5,o_5,o_5,x_5,x_5,x_5,x_5,x_5,x_5,x_5,x_5,x_5,x_5,x_5,x_5,x_5,x_5] HT_ rfl rfl (by kernel_rfl) ?_
                     refine pu_5 5 134 #[o_5,o_5,o_5,o_5,o_5,o_5,x_5,x_5,x_5,x_5,x_5,x_5,x_5,x_5,x_5,x_5,x_5,x_5,x_5] HT_ rfl rfl (by kernel_rfl) ?_
                     refine pu_5 6 135 #[o_5,o_5,o_5,o_5,o_5,o_5,o_5,x_5,x_5,x_5,x_5,x_5,x_5,x_5,x_5,x_5,x_5,x_5,x_5] HT_ rfl rfl (by kernel_rfl) ?_
                     refine pu_5 7 136 #[o_5,o_5,o_5,o_5,o_5,o_5,o_5,o_5,x_5,x_5,x_5,x_5,x_5,x_5,x_5,x_5,x_5,x_5,x_5] HT_ rfl rfl (by kernel_rfl) ?_
                     refine pn_5 8 137 #[o_5,o_5,o_5,o_5,o_5,o_5,o_5,o_5,o_5,x_5,x_5,x_5,x_5,x_5,x_5,x_5,x_5,x_5,x_5] HT_ rfl rfl (by kernel_rfl) ?_
                     refine pn_5 9 138 #[o_5,o_5,o_5,o_5,o_5,o_5,o_5,o_5,o_5,o_5,x_5,x_5,x_5,x_5,x_5,x_5,x_5,x_5,x_5] HT_ rfl rfl (by kernel_rfl) ?_
                     refine pn_5 10 139 #[o_5,o_5,o_5,o_5,o_5,o_5,o_5,o_5,o_5,o_5,o_5,x_5,x_5,x_5,x_5,x_5,x_5,x_5,x_5] HT_ rfl rfl (by kernel_rfl) ?_
                     refine pn_5 11 140 #[o_5,o_5,o_5,o_5,o_5,o_5,o_5,o_5,o_5,o_5,o_5,o_5,x_5,x_5,x_5,x_5,x_5,x_5,x_5] HT_ rfl rfl (by kernel_rfl) ?_
                     refine pn_5 12 141 #[o_5,o_5,o_5,o_5,o_5,o_5,o_5,o_5,o_5,o_5,o_5,o_5,o_5,x_5,x_5,x_5,x_5,x_5,x_5] HT_ rfl rfl (by kernel_rfl) ?_
                     refine pn_5 13 142 #[o_5,o_5,o_5,o_5,o_5,o_5,o_5,o_5,o_5,o_5,o_5,o_5,o_5,o_5,x_5,x_5,x_5,x_5,x_5] HT_ rfl rfl (by kernel_rfl) ?_
                     refine pn_5 14 143 #[o_5,o_5,o_5,o_5,o_5,o_5,o_5,o_5,o_5,o_5,o_5,o_5,o_5,o_5,o_5,x_5,x_5,x_5,x_5] HT_ rfl rfl (by kernel_rfl) ?_
                     refine pn_5 15 144 #[o_5,o_5,o_5,o_5,o_5,o_5,o_5,o_5,o_5,o_5,o_5,o_5,o_5,o_5,o_5,o_5,x_5,x_5,x_5] HT_ rfl rfl (by kernel_rfl) ?_
                     refine pn_5 16 145 #[o_5,o_5,o_5,o_5,o_5,o_5,o_5,o_5,o_5,o_5,o_5,o_5,o_5,o_5,o_5,o_5,o_5,x_5,x_5] HT_ rfl rfl (by kernel_rfl) ?_
                     refine pu_5 17 146 #[o_5,o_5,o_5,o_5,o_5,o_5,o_5,o_5,o_5,o_5,o_5,o_5,o_5,o_5,o_5,o_5,o_5,o_5,x_5] HT_ rfl rfl (by kernel_rfl) ?_
                     refine pu_5 18 147 #[o_5,o_5,o_5,o_5,o_5,o_5,o_5,o_5,o_5,o_5,o_5,o_5,o_5,o_5,o_5,o_5,o_5,o_5,o_5] HT_ rfl rfl (by kernel_rfl) ?_
                     refine done_ (done_of HT_.out (by kernel_rfl)) ?_
                     try go_wp2
                     go_roundg k4
                     case measure => have := HJ1.out; have := HK2.out; have := HK3.out; have := HK4.out; omega
                     case rel => exact ⟨(wrap64 (x124_4 + 1)), (by first | rfl | (simp; done) | (simp [*]; done)), H', ⟨by have := HJ1.out; have := HK2.out; have := HK3.out; have := HK4.out; omega⟩, ⟨by (with_reducible repeat (first | apply Kd.R_alloc | apply Kd.R_drewN | apply Kd.R_drew)); exact Kd.R_mono HO_10.out (fun _ hk => trivial)⟩, ⟨by (with_reducible repeat (first | apply Kd.R_alloc | apply Kd.R_drewN | apply Kd.R_drew)); exact Kd.R_mono HO_122.out (fun _ hk => trivial)⟩, ⟨by (with_reducible repeat (first | refine blk_drewN ?_ _ | refine blk_drew ?_ | refine blk_alloc ?_ _)); exact BK191.out⟩, ⟨by repeat (first | (with_reducible first | exact HB.out | apply below_alloc | apply pw_below_drewN | apply below_drew1 | refine below_set ?_ GE191.out | refine below_set ?_ GE210.out) | exact HB.out)⟩⟩
                   ·
                    replace c101 := Bool.eq_false_iff.mpr c101
                    subst c101
                    have H1 : (some false) = some r := by rw [if_neg (show ¬ (false = true) by decide)] at H; exact H
                    clear H
                    have H := H1
                    clear H1
                    obtain rfl := Option.some.inj H
                    have p209 : 0 ≤ (x124_4 : Int) := of_decide_eq_true (by first | (with_reducible assumption) | assumption)
                    have q209 : x124_4 < (t206.length : Int) := of_decide_eq_true (by first | (with_reducible assumption) | assumption)
                    obtain ⟨ad209, e209, hx209_0, hx209_1⟩ := at_T91 (Kd.R_reads' HO_122.out).2.2 x124_4 p209 q209
                    cases e209
                    replace p209 := eq_true p209
                    replace q209 := eq_true q209
                    try go_wp2_with (first | ((with_reducible refine gate_dst (N := 12) rfl ?_); (try (refine gate_guard (by rfl) ?_; dsimp only)); refine box_event ?hg (N := 12) ?hd (cs := #[.int .i64 0, .int .i64 0]) (t := 91) ?hr ?_; (case hd => rfl); (case hg => rfl); (case hr => first | (go_simp; done) | (go_simp; rfl)); intro gb210 hg w122 hbox hb; have n0_ := Aside0.mk (Kd.R_below (Kd.R_elderB (by exact rU_5 HO_10.out) gb210 (Nat.le_of_eq hg.symm)) hb); have n1_ := Aside0.mk (Kd.R_below (Kd.R_elderB (by exact rU_5 HO_122.out) gb210 (Nat.le_of_eq hg.symm)) hb); have n2_ := Aside0.mk (blk_below (up_5 BK191.out) hb); have n3_ := Aside0.mk (below_step (by repeat (first | (with_reducible first | exact HB.out | apply below_alloc | apply pw_below_drewN | apply below_drew1 | refine below_set ?_ GE191.out) | exact HB.out)) hb); have n4_ := Aside0.mk (hbox); have n5_ := Aside0.mk ((by rw [hg]; exact (below_size (by repeat (first | (with_reducible first | exact HB.out | apply below_alloc | apply pw_below_drewN | apply below_drew1 | refine below_set ?_ GE191.out) | exact HB.out))) : w.heap.size ≤ gb210)); have n6_ := Aside0.mk ((by rw [hg]; exact (below_size (by repeat (first | (with_reducible first | exact HB.out | apply below_alloc | apply pw_below_drewN | apply below_drew1 | refine below_set ?_ GE191.out) | exact HB.out))) : w.heap.size ≤ gb210)); have n7_ := Aside0.mk ((by rw [hg]; exact Nat.ne_of_lt (blk_lt (up_5 BK191.out)) : gb191 ≠ gb210)); have n8_ := Aside0.mk ((by rw [hg]; exact Nat.ne_of_gt (blk_lt (up_5 BK191.out)) : gb210 ≠ gb191)); clear HO_10; clear HO_122; clear BK191; clear HB; have HO_10 := n0_; have HO_122 := n1_; have BK191 := n2_; have HB := n3_; have BK210 := n4_; have GW210 := n5_; have GE210 := n6_; have NB191_210 := n7_; have NB210_191 := n8_; clear n0_ n1_ n2_ n3_ n4_ n5_ n6_ n7_ n8_; clear hb hbox hg; have hnb123 := NB210_191.out; have hnc123 := NB191_210.out; have hcz124_0 : w122.cell? ⟨gb210, 0, none⟩ = some (.int .i64 0) := (blk_cell BK210.out 0).trans rfl; have hcz124_1 : w122.cell? ⟨gb210, 1, none⟩ = some (.int .i64 0) := (blk_cell BK210.out 1).trans rfl; have hfz124_0 := blk_frozen BK210.out 0; have hfz124_1 := blk_frozen BK210.out 1))
                    have n0_ : Aside0 (Kd.R k91 91 ((w122.setCell ⟨gb210, 0, none⟩ (.int .i64 ((rd_T91 t206 x124_4).f0))).setCell ⟨gb210, 1, none⟩ (.int .i64 ((rd_T91 t206 x124_4).f1))) w.heap.size (fun k_ => k_ ≠ gb210) (.slice (some ad209) t206.length co96) t206) := ⟨by (with_reducible repeat (first | apply Kd.R_alloc | apply Kd.R_drewN | apply Kd.R_drew)); exact Kd.R_mono (Kd.R_far (p := ⟨gb210, 1, none⟩) (Kd.R_far (p := ⟨gb210, 0, none⟩) (Kd.R_mono HO_10.out (fun k_ hk => (⟨hk, hk.2⟩ : _ ∧ k_ ≠ gb210))) (fun _ hk => hk.2) (.int .i64 ((rd_T91 t206 x124_4).f0))) (fun _ hk => hk.2) (.int .i64 ((rd_T91 t206 x124_4).f1))) (fun _ hk => hk.1.2)⟩
                    have n1_ : Aside0 (Kd.R k91 91 ((w122.setCell ⟨gb210, 0, none⟩ (.int .i64 ((rd_T91 t206 x124_4).f0))).setCell ⟨gb210, 1, none⟩ (.int .i64 ((rd_T91 t206 x124_4).f1))) w.heap.size (fun k_ => k_ ≠ gb210) (.slice (some ad209) t206.length co96) t206) := ⟨by (with_reducible repeat (first | apply Kd.R_alloc | apply Kd.R_drewN | apply Kd.R_drew)); exact Kd.R_mono (Kd.R_far (p := ⟨gb210, 1, none⟩) (Kd.R_far (p := ⟨gb210, 0, none⟩) (Kd.R_mono HO_122.out (fun k_ hk => (⟨hk, hk.2⟩ : _ ∧ k_ ≠ gb210))) (fun _ hk => hk.2) (.int .i64 ((rd_T91 t206 x124_4).f0))) (fun _ hk => hk.2) (.int .i64 ((rd_T91 t206 x124_4).f1))) (fun _ hk => hk.1.2)⟩
                    have n2_ : Aside0 (((w122.setCell ⟨gb210, 0, none⟩ (.int .i64 ((rd_T91 t206 x124_4).f0))).setCell ⟨gb210, 1, none⟩ (.int .i64 ((rd_T91 t206 x124_4).f1))).heap[gb191]? = some (.cells #[.int .i64 a0_0, .slice A0_1 l0_1.length c0_1, .slice A0_2 l0_2.length c0_2] 45 (0, 0))) := ⟨by (with_reducible repeat (first | refine blk_drewN ?_ _ | refine blk_drew ?_ | refine blk_alloc ?_ _)); refine blk_far ?_ NB191_210.out _; (with_reducible repeat (first | refine blk_drewN ?_ _ | refine blk_drew ?_ | refine blk_alloc ?_ _)); refine blk_far ?_ NB191_210.out _; (with_reducible repeat (first | refine blk_drewN ?_ _ | refine blk_drew ?_ | refine blk_alloc ?_ _)); exact BK191.out⟩
                    have n3_ : Aside0 (((w122.setCell ⟨gb210, 0, none⟩ (.int .i64 ((rd_T91 t206 x124_4).f0))).setCell ⟨gb210, 1, none⟩ (.int .i64 ((rd_T91 t206 x124_4).f1))).heap[gb210]? = some (.cells #[.int .i64 ((rd_T91 t206 x124_4).f0), .int .i64 ((rd_T91 t206 x124_4).f1)] 91 (0, 0))) := ⟨by (with_reducible repeat (first | refine blk_drewN ?_ _ | refine blk_drew ?_ | refine blk_alloc ?_ _)); refine blk_put (cs := #[.int .i64 ((rd_T91 t206 x124_4).f0), .int .i64 0]) ?_ 1 _ rfl; (with_reducible repeat (first | refine blk_drewN ?_ _ | refine blk_drew ?_ | refine blk_alloc ?_ _)); refine blk_put (cs := #[.int .i64 0, .int .i64 0]) ?_ 0 _ rfl; (with_reducible repeat (first | refine blk_drewN ?_ _ | refine blk_drew ?_ | refine blk_alloc ?_ _)); exact BK210.out⟩
                    have n4_ : Aside0 (Below w.heap.size w ((w122.setCell ⟨gb210, 0, none⟩ (.int .i64 ((rd_T91 t206 x124_4).f0))).setCell ⟨gb210, 1, none⟩ (.int .i64 ((rd_T91 t206 x124_4).f1)))) := ⟨by repeat (first | (with_reducible first | exact HB.out | apply below_alloc | apply pw_below_drewN | apply below_drew1 | refine below_set ?_ GE191.out | refine below_set ?_ GE210.out) | exact HB.out)⟩
                    (try clear HO_10)
                    (try clear HO_122)
                    (try clear BK191)
                    (try clear BK210)
                    (try clear HB)
                    generalize ((w122.setCell ⟨gb210, 0, none⟩ (.int .i64 ((rd_T91 t206 x124_4).f0))).setCell ⟨gb210, 1, none⟩ (.int .i64 ((rd_T91 t206 x124_4).f1))) = w125 at n0_ n1_ n2_ n3_ n4_ ⊢
                    have HO_10 := n0_
                    have HO_122 := n1_
                    have BK191 := n2_
                    have BK210 := n3_
                    have HB := n4_
                    clear n0_ n1_ n2_ n3_ n4_
                    have n0_ := Aside0.mk (Kd.R_drew HO_10.out)
                    have n1_ := Aside0.mk (Kd.R_drew HO_122.out)
                    have n2_ := Aside0.mk (blk_drew BK191.out)
                    have n3_ := Aside0.mk (blk_drew BK210.out)
                    have n4_ := Aside0.mk (below_drew1 HB.out)
                    clear HO_10
                    clear HO_122
                    clear BK191
                    clear BK210
                    clear HB
                    have HO_10 := n0_
                    have HO_122 := n1_
                    have BK191 := n2_
                    have BK210 := n3_
                    have HB := n4_
                    clear n0_ n1_ n2_ n3_ n4_
                    refine start_ (n := 19) (S := fun w' => w'.cell? ⟨gb210, 0, none⟩ = some (.int .i64 ((rd_T91 t206 x124_4).f0)) ∧ w'.cell? ⟨gb210, 1, none⟩ = some (.int .i64 ((rd_T91 t206 x124_4).f1))) (ds := []) #[false, false, false, false, false, false, false, false, false, false, false, false, false, false, false, false, false, false, false] (by kernel_rfl) rfl rfl ⟨(blk_cell BK210.out 0).trans rfl, (blk_cell BK210.out 1).trans rfl⟩ (fun hHeld => ?_); refine with_tabW impl_WheelRight.tab27 impl_WheelRight.bits27 (fun HT_ HW_ => ?_)
                    generalize w125.drew = w126 at HO_10 HO_122 BK191 BK210 HB hHeld ⊢
                    refine pu_5 0 129 #[o_5,x_5,x_5,x_5,x_5,x_5,x_5,x_5,x_5,x_5,x_5,x_5,x_5,x_5,x_5,x_5,x_5,x_5,x_5] HT_ rfl rfl (by kernel_rfl) ?_
                    refine tk_5 1 130 #[o_5,o_5,x_5,x_5,x_5,x_5,x_5,x_5,x_5,x_5,x_5,x_5,x_5,x_5,x_5,x_5,x_5,x_5,x_5] HT_ HW_ hHeld rfl rfl (by kernel_rfl) ?_ (by rintro w' ⟨s0, s1⟩; go_simp; with_reducible rfl)
                    refine one_ (i := 2) (N := some 131) #[o_5,o_5,o_5,x_5,x_5,x_5,x_5,x_5,x_5,x_5,x_5,x_5,x_5,x_5,x_5,x_5,x_5,x_5,x_5] rfl rfl (one_of HT_.out (by kernel_rfl)) (by decide) (fun K hK => ?_)
                    refine goes_ Try.func75 (by kernel_rfl) rfl #[.int .i64 ((rd_T91 t206 x124_4).f0)] (by rfl) rfl rfl (by (try simp only [List.map_toArray, List.map_cons, List.map_nil]); first | done | rfl | (simp only [List.length_drop, List.length_take]; rfl)) ?_
                    with_reducible refine (impl_isId.calls ((rd_T91 t206 x124_4).f0) false _ A100.out).mono ?_
                    rintro e w' ⟨rfl, ⟨nd, rfl⟩⟩
                    refine ⟨_, rfl, ?_⟩
                    refine hK.out _ _ ⟨(blk_cell BK210.out 0).trans rfl, (blk_cell BK210.out 1).trans rfl⟩ (fun hHeld => ?_)
                    clear hK K
                    refine norm_ (a' := ?_) ?_ ?_
                    rotate_left
                    ·
                     show Act.put _ (some 131) _ = _
                     simp only [Act.put, List.setIfInBounds_toArray, List.set_cons_zero, List.set_cons_succ, i64_w, i32_w]
                     rfl
                    refine pu_5 3 132 #[o_5,o_5,o_5,o_5,x_5,x_5,x_5,x_5,x_5,x_5,x_5,x_5,x_5,x_5,x_5,x_5,x_5,x_5,x_5] HT_ rfl rfl (by kernel_rfl) ?_
                    refine pu_5 4 133 #[o_5,o_5,o_5,o_5,o_5,x_5,x_5,x_5,x_5,x_5,x_5,x_5,x_5,x_5,x_5,x_5,x_5,x_5,x_5] HT_ rfl rfl (by kernel_rfl) ?_
                    refine pn_5 5 134 #[o_5,o_5,o_5,o_5,o_5,o_5,x_5,x_5,x_5,x_5,x_5,x_5,x_5,x_5,x_5,x_5,x_5,x_5,x_5] HT_ rfl rfl (by kernel_rfl) ?_
                    refine pn_5 6 135 #[o_5,o_5,o_5,o_5,o_5,o_5,o_5,x_5,x_5,x_5,x_5,x_5,x_5,x_5,x_5,x_5,x_5,x_5,x_5] HT_ rfl rfl (by kernel_rfl) ?_
                    refine pn_5 7 136 #[o_5,o_5,o_5,o_5,o_5,o_5,o_5,o_5,x_5,x_5,x_5,x_5,x_5,x_5,x_5,x_5,x_5,x_5,x_5] HT_ rfl rfl (by kernel_rfl) ?_
                    refine pn_5 8 137 #[o_5,o_5,o_5,o_5,o_5,o_5,o_5,o_5,o_5,x_5,x_5,x_5,x_5,x_5,x_5,x_5,x_5,x_5,x_5] HT_ rfl rfl (by kernel_rfl) ?_
                    refine pn_5 9 138 #[o_5,o_5,o_5,o_5,o_5,o_5,o_5,o_5,o_5,o_5,x_5,x_5,x_5,x_5,x_5,x_5,x_5,x_5,x_5] HT_ rfl rfl (by kernel_rfl) ?_
                    refine pn_5 10 139 #[o_5,o_5,o_5,o_5,o_5,o_5,o_5,o_5,o_5,o_5,o_5,x_5,x_5,x_5,x_5,x_5,x_5,x_5,x_5] HT_ rfl rfl (by kernel_rfl) ?_
                    refine pn_5 11 140 #[o_5,o_5,o_5,o_5,o_5,o_5,o_5,o_5,o_5,o_5,o_5,o_5,x_5,x_5,x_5,x_5,x_5,x_5,x_5] HT_ rfl rfl (by kernel_rfl) ?_
                    refine pn_5 12 141 #[o_5,o_5,o_5,o_5,o_5,o_5,o_5,o_5,o_5,o_5,o_5,o_5,o_5,x_5,x_5,x_5,x_5,x_5,x_5] HT_ rfl rfl (by kernel_rfl) ?_
                    refine pn_5 13 142 #[o_5,o_5,o_5,o_5,o_5,o_5,o_5,o_5,o_5,o_5,o_5,o_5,o_5,o_5,x_5,x_5,x_5,x_5,x_5] HT_ rfl rfl (by kernel_rfl) ?_
                    refine pn_5 14 143 #[o_5,o_5,o_5,o_5,o_5,o_5,o_5,o_5,o_5,o_5,o_5,o_5,o_5,o_5,o_5,x_5,x_5,x_5,x_5] HT_ rfl rfl (by kernel_rfl) ?_
                    refine pn_5 15 144 #[o_5,o_5,o_5,o_5,o_5,o_5,o_5,o_5,o_5,o_5,o_5,o_5,o_5,o_5,o_5,o_5,x_5,x_5,x_5] HT_ rfl rfl (by kernel_rfl) ?_
                    refine pn_5 16 145 #[o_5,o_5,o_5,o_5,o_5,o_5,o_5,o_5,o_5,o_5,o_5,o_5,o_5,o_5,o_5,o_5,o_5,x_5,x_5] HT_ rfl rfl (by kernel_rfl) ?_
                    refine pn_5 17 146 #[o_5,o_5,o_5,o_5,o_5,o_5,o_5,o_5,o_5,o_5,o_5,o_5,o_5,o_5,o_5,o_5,o_5,o_5,x_5] HT_ rfl rfl (by kernel_rfl) ?_
                    refine pu_5 18 147 #[o_5,o_5,o_5,o_5,o_5,o_5,o_5,o_5,o_5,o_5,o_5,o_5,o_5,o_5,o_5,o_5,o_5,o_5,o_5] HT_ rfl rfl (by kernel_rfl) ?_
                    refine done_ (done_of HT_.out (by kernel_rfl)) ?_
                    try go_wp2
                    go_ret
                    exact ⟨by first | rfl | (simp [errW_none, errW_some] <;> rfl) | (simp [*, errW_none, errW_some] <;> rfl), by repeat (first | (with_reducible first | exact HB.out | apply below_alloc | apply pw_below_drewN | apply below_drew1 | refine below_set ?_ GE191.out | refine below_set ?_ GE210.out) | exact HB.out)⟩
                  ·
                   rw [if_neg c99] at H
                   exact absurd H (by simp)
                 ·
                  rw [if_neg c98] at H
                  exact absurd H (by simp)
                ·
                 rw [if_neg c97] at H
                 have c97b0 : decide (x124_4 < (t206.length : Int)) = false := decide_eq_false c97
                 clear c97
                 obtain rfl := Option.some.inj H
                 go_wp2
                 go_ret
                 exact ⟨by first | rfl | (simp [errW_none, errW_some] <;> rfl) | (simp [*, errW_none, errW_some] <;> rfl), by repeat (first | (with_reducible first | exact HB.out | apply below_alloc | apply pw_below_drewN | apply below_drew1 | refine below_set ?_ GE191.out) | exact HB.out)⟩

end Go.Proofs.Ytenlceojmjkbkaa.XFnExactWheelRight
