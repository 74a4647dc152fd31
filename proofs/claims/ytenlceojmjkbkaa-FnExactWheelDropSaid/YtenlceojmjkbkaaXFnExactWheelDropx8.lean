/- Functions that FnExactWheelDrop comes to, as Lean functions with their contracts: written by the prover's own program (wip/tpl/myprint.py) over the kit's printer, some contracts by hand. Conditions: none. -/
import Derived.Test.YtenlceojmjkbkaaXFnExactWheelDropx0
import Derived.Test.YtenlceojmjkbkaaXFnExactWheelDropx4
import Derived.Test.YtenlceojmjkbkaaXFnExactWheelDropx5
namespace Go.Proofs.Ytenlceojmjkbkaa.XFnExactWheelDrop
open Go.RowKit Go.Proofs.YtenlceojmjkbkaaW.PrintWords Go.Proofs.YtenlceojmjkbkaaW.PrintLast Go.Proofs.YtenlceojmjkbkaaW.PrintMore
attribute [local go_sem] max2_int min2_int max_two min_two max_three min_three max_four min_four   -- for this text's walks alone
set_option linter.unusedVariables false
set_option linter.unusedSimpArgs false

/-! ### impl_Timer_81: function 81 -/
def idxI (p : S91 → Bool) (l : List S91) (i : Int) : Prop :=
 (i = -1 ∧ ∀ x ∈ l, p x = false) ∨ ∃ n : Nat, i = n ∧ n < l.length ∧ p (rd_T91 l n) = true ∧ ∀ j : Nat, j < n → p (rd_T91 l j) = false
/-- What a predicate handed in must do. -/
def PredOK (p : S91 → Bool) (g : Nat) (lb : Array Value) (b0 : Nat) (w0 : World) : Prop :=
 ∀ (W : World) (x : S91), Below b0 w0 W → Calls Try.prog g (#[.agg #[.int .i64 x.f0, .int .i64 x.f1]] ++ lb) W fun e w' => e = .returned (.bool (p x)) ∧ Below W.heap.size W w'

theorem below_more {b0 : Nat} {w0 w w' : World} (h : Below b0 w0 w) (hs : b0 ≤ w.heap.size) (k : Below w.heap.size w w') : Below b0 w0 w' := below_then h hs k

theorem rd_mem {l : List S91} {i : Nat} (h : i < l.length) : rd_T91 l i = l[i] := by simp [rd_T91, List.getD_eq_getElem?_getD, h]

set_option maxHeartbeats 4000000 in
set_option maxRecDepth 100000 in
theorem IndexFunc_Timer (p : S91 → Bool) (g : Nat) (lb : Array Value) (b0 : Nat) (w0 : World) (eg : ∀ args w, (callFunc g args).run Try.prog w = .ok (.enter g args) w)
  (hp : PredOK p g lb b0 w0) (A : Option Addr) (c : Nat) (l : List S91) (w : World) (hB : Below b0 w0 w) (hs : b0 ≤ w.heap.size) (hr : Kd.C k91 w A l.length l) :
  Calls Try.prog 81 #[.slice A l.length c, .func (.func g) #[] lb] w fun e w' => ∃ i, e = .returned (.int .i64 i) ∧ idxI p l i ∧ Below w.heap.size w w' := by
 have hu91 := Try.underlying91
 have hmx : l.length ≤ 9223372036854775807 := hr.2.1
 have HR := Aside0.mk hr
 have HP := Aside0.mk hp
 have HB0 := Aside0.mk hB
 have HS := Aside0.mk hs
 clear hr hp hB hs
 go_enter Try.func81, Try.ntmps81
 go_wp2
 go_loopg [5, 8] l.length (fun gg _ s8 wr => ∃ kk : Nat, kk ≤ l.length ∧ l.length - kk ≤ gg ∧ s8 = .int .i64 kk ∧ Aside0 (Below w.heap.size w wr) ∧ Aside0 (∀ j : Nat, j < kk → p (rd_T91 l j) = false))
 case atStart => exact ⟨0, Nat.zero_le _, by omega, rfl, ⟨Below.refl _ w⟩, ⟨fun j hj => absurd hj (Nat.not_lt_zero _)⟩⟩
 case round =>
  obtain ⟨kk, hkk, hg, rfl, BW, NO⟩ := hrel
  by_cases hlt : kk < l.length
  ·
   have hltz : (kk : Int) < (l.length : Int) := by omega
   obtain ⟨ad, e, hx0, hx1⟩ := at_T91 HR.out (kk : Int) (by omega) (by omega)
   cases e
   replace hx0 := pw_cell_below BW.out hx0
   replace hx1 := pw_cell_below BW.out hx1
   simp only [Int.toNat_natCast] at hx0 hx1
   have hcall := HP.out wr (rd_T91 l kk) (below_more HB0.out HS.out BW.out)
   cases hq : p (rd_T91 l kk) with
   | true =>
    rw [hq] at hcall
    have HQ := Aside0.mk hq
    clear hq
    go_wp2_with fail
    refine hcall.mono ?_
    clear hcall
    rintro e w' ⟨rfl, hb'⟩
    have HB' := Aside0.mk hb'
    clear hb' eg hx0 hx1
    go_wp2
    go_ret
    exact ⟨_, rfl, .inr ⟨kk, rfl, hlt, HQ.out, NO.out⟩, below_then BW.out BW.out.size HB'.out⟩
   | false =>
    rw [hq] at hcall
    have HQ := Aside0.mk hq
    clear hq
    go_wp2_with fail
    refine hcall.mono ?_
    clear hcall
    rintro e w' ⟨rfl, hb'⟩
    have HB' := Aside0.mk hb'
    clear hb' eg hx0 hx1
    go_wp2
    go_roundg (l.length - (kk + 1))
    case measure => omega
    case rel =>
     refine ⟨kk + 1, by omega, by omega, by go_num, ⟨below_then BW.out BW.out.size HB'.out⟩, ⟨fun j hj => ?_⟩⟩
     by_cases e : j = kk
     ·
      subst e; exact HQ.out
     ·
      exact NO.out j (by omega)
  ·
   have hltz : ¬ (kk : Int) < (l.length : Int) := by omega
   have : kk = l.length := by omega
   subst this
   go_wp2
   go_ret
   refine ⟨_, rfl, .inl ⟨rfl, fun x hx => ?_⟩, BW.out⟩
   obtain ⟨j, hj, rfl⟩ := List.getElem_of_mem hx
   rw [← rd_mem hj]
   exact NO.out j hj

/-! ### impl_Timer_118: function 118 -/
-- impl_byTime
set_option maxHeartbeats 8000000 in
set_option maxRecDepth 100000 in
theorem impl_byTime.callsD (k : Nat) (a0_0 : Int) (a0_1 : Int) (a1_0 : Int) (a1_1 : Int) (r : Int) (w : World) (h : impl_byTime.f k a0_0 a0_1 a1_0 a1_1 = some r) :
  Calls Try.prog 70 #[.agg #[.int .i64 a0_0, .int .i64 a0_1], .agg #[.int .i64 a1_0, .int .i64 a1_1]] w fun e w' => e = .returned (.int .i64 r) ∧ BelowD w.heap.size w w' := by
 have hu91 := Try.underlying91
 have HB := Aside0.mk (BelowD.refl w.heap.size w)
 have H : ((cmp_Compare_int64.f a0_1 a1_1).bind fun t235 => ((cmp_Compare_int64.f a0_0 a1_0).bind fun t236 => ((cmp_Or_int.f k (([t235, t236] : List Int))).bind fun t240 => (some t240)))) = some r := h
 clear h
 replace H := Option.bind_eq_some_iff.mp H
 obtain ⟨t235, A30, H⟩ := H
 replace H : ((cmp_Compare_int64.f a0_0 a1_0).bind fun t236 => ((cmp_Or_int.f k (([t235, t236] : List Int))).bind fun t240 => (some t240))) = some r := H
 have A3 := Aside0.mk A30
 clear A30
 replace H := Option.bind_eq_some_iff.mp H
 obtain ⟨t236, A40, H⟩ := H
 replace H : ((cmp_Or_int.f k (([t235, t236] : List Int))).bind fun t240 => (some t240)) = some r := H
 have A4 := Aside0.mk A40
 clear A40
 obtain ⟨y237, hy237⟩ : ∃ y_ : List Int, y_ = (([t235, t236] : List Int)) := ⟨_, rfl⟩
 replace H : ((cmp_Or_int.f k y237).bind fun t240 => (some t240)) = some r := by first | (rw [hy237]; with_reducible exact H) | (have H2_ := (Option.bind_some _ _).symm.trans H; rw [hy237]; with_reducible exact H2_) | (have H2_ := (Option.bind_some _ _).symm.trans H; with_reducible exact H2_) | with_reducible exact H | (rw [hy237]; exact H) | exact H
 have Ny237 := Aside0.mk hy237
 clear hy237
 replace H := Option.bind_eq_some_iff.mp H
 obtain ⟨t240, A50, H⟩ := H
 replace H : (some t240) = some r := H
 have A5 := Aside0.mk A50
 clear A50
 obtain rfl := Option.some.inj H
 go_enter Try.func70, Try.ntmps70
 try go_wp2_with (first | ((with_reducible refine gate_dst (N := 2) rfl ?_); refine dB_box ?hg (N := 2) ?hd (cs := #[.int .i64 a0_0, .int .i64 a0_1]) (t := 91) ?hr ?_; (case hd => rfl); (case hg => rfl); (case hr => first | (go_simp; done) | (go_simp; rfl)); intro gb233 hg w6 hbox hb; have n0_ := Aside0.mk (dB_step (by repeat (first | (with_reducible first | exact HB.out | apply dB_alloc | apply dB_drewN | apply dB_drew1) | exact HB.out)) hb); have n1_ := Aside0.mk (hbox); have n2_ := Aside0.mk ((by rw [hg]; exact (dB_size (by repeat (first | (with_reducible first | exact HB.out | apply dB_alloc | apply dB_drewN | apply dB_drew1) | exact HB.out))) : w.heap.size ≤ gb233)); have n3_ := Aside0.mk ((by rw [hg]; exact (dB_size (by repeat (first | (with_reducible first | exact HB.out | apply dB_alloc | apply dB_drewN | apply dB_drew1) | exact HB.out))) : w.heap.size ≤ gb233)); clear HB; have HB := n0_; have BK233 := n1_; have GW233 := n2_; have GE233 := n3_; clear n0_ n1_ n2_ n3_; clear hb hbox hg) | ((with_reducible refine gate_dst (N := 3) rfl ?_); refine dB_box ?hg (N := 3) ?hd (cs := #[.int .i64 a1_0, .int .i64 a1_1]) (t := 91) ?hr ?_; (case hd => rfl); (case hg => rfl); (case hr => first | (go_simp; done) | (go_simp; rfl)); intro gb234 hg w7 hbox hb; have n0_ := Aside0.mk (dB_blk (up_ BK233.out) hb); have n1_ := Aside0.mk (dB_step (by repeat (first | (with_reducible first | exact HB.out | apply dB_alloc | apply dB_drewN | apply dB_drew1 | refine dB_set ?_ GE233.out) | exact HB.out)) hb); have n2_ := Aside0.mk (hbox); have n3_ := Aside0.mk ((by rw [hg]; exact (dB_size (by repeat (first | (with_reducible first | exact HB.out | apply dB_alloc | apply dB_drewN | apply dB_drew1 | refine dB_set ?_ GE233.out) | exact HB.out))) : w.heap.size ≤ gb234)); have n4_ := Aside0.mk ((by rw [hg]; exact (dB_size (by repeat (first | (with_reducible first | exact HB.out | apply dB_alloc | apply dB_drewN | apply dB_drew1 | refine dB_set ?_ GE233.out) | exact HB.out))) : w.heap.size ≤ gb234)); have n5_ := Aside0.mk ((by rw [hg]; exact Nat.ne_of_lt (blk_lt (up_ BK233.out)) : gb233 ≠ gb234)); have n6_ := Aside0.mk ((by rw [hg]; exact Nat.ne_of_gt (blk_lt (up_ BK233.out)) : gb234 ≠ gb233)); clear BK233; clear HB; have BK233 := n0_; have HB := n1_; have BK234 := n2_; have GW234 := n3_; have GE234 := n4_; have NB233_234 := n5_; have NB234_233 := n6_; clear n0_ n1_ n2_ n3_ n4_ n5_ n6_; clear hb hbox hg))
 replace BK233 := Aside0.mk (blk_drew BK233.out)
 replace BK234 := Aside0.mk (blk_drew BK234.out)
 replace HB := Aside0.mk (dB_drew1 HB.out)
 refine start_ (n := 13) (S := fun w' => w'.cell? ⟨gb233, 0, none⟩ = some (.int .i64 a0_0) ∧ w'.cell? ⟨gb233, 1, none⟩ = some (.int .i64 a0_1) ∧ w'.cell? ⟨gb234, 0, none⟩ = some (.int .i64 a1_0) ∧ w'.cell? ⟨gb234, 1, none⟩ = some (.int .i64 a1_1)) (ds := []) #[false, false, false, false, false, false, false, false, false, false, false, false, false] (by kernel_rfl) rfl rfl ⟨(blk_cell BK233.out 0).trans rfl, (blk_cell BK233.out 1).trans rfl, (blk_cell BK234.out 0).trans rfl, (blk_cell BK234.out 1).trans rfl⟩ (fun hHeld => ?_); refine with_tabW impl_byTime.tab1 impl_byTime.bits1 (fun HT_ HW_ => ?_)
 generalize w7.drew = w8 at BK233 BK234 HB hHeld ⊢
 refine pu_ 0 5 HT_ ?_
 refine pu_ 2 7 HT_ ?_
 refine pu_ 5 10 HT_ ?_
 refine pu_ 7 12 HT_ ?_
 refine tk_ 1 6 HT_ HW_ hHeld ?_ rfl rfl (by rintro w' ⟨s0, s1, s2, s3⟩; go_simp; with_reducible rfl)
 refine tk_ 3 8 HT_ HW_ hHeld ?_ rfl rfl (by rintro w' ⟨s0, s1, s2, s3⟩; go_simp; with_reducible rfl)
 refine tk_ 6 11 HT_ HW_ hHeld ?_ rfl rfl (by rintro w' ⟨s0, s1, s2, s3⟩; go_simp; with_reducible rfl)
 refine tk_ 8 13 HT_ HW_ hHeld ?_ rfl rfl (by rintro w' ⟨s0, s1, s2, s3⟩; go_simp; with_reducible rfl)
 refine one_ (i := 4) (N := some 9) #[o_,o_,o_,o_,o_,o_,o_,o_,o_,x_,x_,x_,x_] rfl rfl (one_of HT_.out (by kernel_rfl)) (by decide) (fun K hK => ?_)
 refine goes_ Try.func109 (by kernel_rfl) rfl #[.int .i64 a0_1, .int .i64 a1_1] (by rfl) rfl rfl (by (try simp only [List.map_toArray, List.map_cons, List.map_nil]); first | done | rfl | (simp only [List.length_drop, List.length_take]; rfl)) ?_
 with_reducible refine (cmp_Compare_int64.calls a0_1 a1_1 t235 _ A3.out).mono ?_
 rintro e w' ⟨rfl, ⟨nd, rfl⟩⟩
 refine ⟨_, rfl, ?_⟩
 refine hK.out _ _ ⟨(blk_cell BK233.out 0).trans rfl, (blk_cell BK233.out 1).trans rfl, (blk_cell BK234.out 0).trans rfl, (blk_cell BK234.out 1).trans rfl⟩ (fun hHeld => ?_)
 clear hK K
 refine norm_ (a' := ?_) ?_ ?_
 rotate_left
 ·
  show Act.put _ (some 9) _ = _
  simp only [Act.put, List.setIfInBounds_toArray, List.set_cons_zero, List.set_cons_succ, i64_w, i32_w]
  rfl
 refine one_ (i := 9) (N := some 14) #[o_,o_,o_,o_,o_,o_,o_,o_,o_,o_,x_,x_,x_] rfl rfl (one_of HT_.out (by kernel_rfl)) (by decide) (fun K hK => ?_)
 refine goes_ Try.func109 (by kernel_rfl) rfl #[.int .i64 a0_0, .int .i64 a1_0] (by rfl) rfl rfl (by (try simp only [List.map_toArray, List.map_cons, List.map_nil]); first | done | rfl | (simp only [List.length_drop, List.length_take]; rfl)) ?_
 with_reducible refine (cmp_Compare_int64.calls a0_0 a1_0 t236 _ A4.out).mono ?_
 rintro e w' ⟨rfl, ⟨nd, rfl⟩⟩
 refine ⟨_, rfl, ?_⟩
 refine hK.out _ _ ⟨(blk_cell BK233.out 0).trans rfl, (blk_cell BK233.out 1).trans rfl, (blk_cell BK234.out 0).trans rfl, (blk_cell BK234.out 1).trans rfl⟩ (fun hHeld => ?_)
 clear hK K
 refine norm_ (a' := ?_) ?_ ?_
 rotate_left
 ·
  show Act.put _ (some 14) _ = _
  simp only [Act.put, List.setIfInBounds_toArray, List.set_cons_zero, List.set_cons_succ, i64_w, i32_w]
  rfl
 refine one_ (i := 10) (N := some 15) #[o_,o_,o_,o_,o_,o_,o_,o_,o_,o_,o_,x_,x_] rfl rfl (one_of HT_.out (by kernel_rfl)) (by decide) (fun K hK => ?_)
 refine dB_lit (Kd.int .i64) _ 3 ?hg (N := 15) ?hd (xs := ([t235, t236] : List Int)) (inner := [.int .i64 t235, .int .i64 t236]) (ok := fun _ => True) (okp := fun _ => True) ?hr ?hp (fun _ hk => hk) trivial (BelowD.refl _ _) (Nat.le_refl _) (by simp) ?_; (case hd => rfl); (case hg => rfl); (case hr => first | (go_simp; done) | (go_simp; rfl)); (case hp => exact (Reps.one (show Kd.M (Kd.int .i64) _ _ _ t235 [.int .i64 t235] from rfl) (Reps.one (show Kd.M (Kd.int .i64) _ _ _ t236 [.int .i64 t236] from rfl) (Reps.none _ _))))
 intro v238 w9 ho10 hb hg_ hnew_
 clear hg_ hnew_
 (first | rw [← Ny237.out] at ho10 | (simp only [Int.reduceToNat] at ho10; rw [← Ny237.out] at ho10))
 have n0_ := Aside0.mk (Kd.R_lower ho10 (dB_size (by repeat (first | (with_reducible first | exact HB.out | apply dB_alloc | apply dB_drewN | apply dB_drew1 | refine dB_set ?_ GE233.out | refine dB_set ?_ GE234.out) | exact HB.out))))
 have n1_ := Aside0.mk (dB_blk (up_ BK233.out) hb)
 have n2_ := Aside0.mk (dB_blk (up_ BK234.out) hb)
 have n3_ := Aside0.mk (dB_step (by repeat (first | (with_reducible first | exact HB.out | apply dB_alloc | apply dB_drewN | apply dB_drew1 | refine dB_set ?_ GE233.out | refine dB_set ?_ GE234.out) | exact HB.out)) hb)
 clear BK233
 clear BK234
 clear HB
 have HO239 := n0_
 have BK233 := n1_
 have BK234 := n2_
 have HB := n3_
 clear n0_ n1_ n2_ n3_
 clear hb ho10
 obtain ⟨Ao11, co11, eo11⟩ := Kd.R_slice HO239.out
 (first | subst eo11 | (injection eo11 with f1_ f2_ f3_; have f4_ := f1_.symm; have f5_ := f3_.symm; clear f1_ f2_ f3_; subst f4_; subst f5_))
 refine hK.out _ _ ⟨(blk_cell BK233.out 0).trans rfl, (blk_cell BK233.out 1).trans rfl, (blk_cell BK234.out 0).trans rfl, (blk_cell BK234.out 1).trans rfl⟩ (fun hHeld => ?_)
 clear hK K
 refine norm_ (a' := ?_) ?_ ?_
 rotate_left
 ·
  show Act.put _ (some 15) _ = _
  simp only [Act.put, List.setIfInBounds_toArray, List.set_cons_zero, List.set_cons_succ, i64_w, i32_w]
  rfl
 refine one_ (i := 11) (N := some 16) #[o_,o_,o_,o_,o_,o_,o_,o_,o_,o_,o_,o_,x_] rfl rfl (one_of HT_.out (by kernel_rfl)) (by decide) (fun K hK => ?_)
 refine goes_ Try.func114 (by kernel_rfl) rfl #[.slice Ao11 y237.length co11] (by rfl) rfl rfl (by (try simp only [List.map_toArray, List.map_cons, List.map_nil]); first | done | rfl | (simp only [List.length_drop, List.length_take]; rfl)) ?_
 with_reducible refine (cmp_Or_int.calls k _ _ y237 t240 _ ?side1 ?side2 A5.out).mono ?_
 (case side1 => repeat (first | exact (Kd.R_reads' HO239.out).2.2 | (with_reducible refine Kd.C_alloc ?_ _) | (with_reducible refine Kd.C_drewN ?_ _) | (with_reducible refine Kd.C_drew ?_)))
 (case side2 => exact (Kd.R_reads' HO239.out).2.1)
 rintro e w' ⟨rfl, ⟨nd, rfl⟩⟩
 refine ⟨_, rfl, ?_⟩
 refine hK.out _ _ ⟨(blk_cell BK233.out 0).trans rfl, (blk_cell BK233.out 1).trans rfl, (blk_cell BK234.out 0).trans rfl, (blk_cell BK234.out 1).trans rfl⟩ (fun hHeld => ?_)
 clear hK K
 refine norm_ (a' := ?_) ?_ ?_
 rotate_left
 ·
  show Act.put _ (some 16) _ = _
  simp only [Act.put, List.setIfInBounds_toArray, List.set_cons_zero, List.set_cons_succ, i64_w, i32_w]
  rfl
 refine pu_ 12 4 HT_ ?_
 refine done_ (done_of HT_.out (by kernel_rfl)) ?_
 try go_wp2
 go_ret
 exact ⟨by first | rfl | (simp [errW_none, errW_some] <;> rfl) | (simp [*, errW_none, errW_some] <;> rfl), by repeat (first | (with_reducible first | exact HB.out | apply dB_alloc | apply dB_drewN | apply dB_drew1 | refine dB_set ?_ GE233.out | refine dB_set ?_ GE234.out) | exact HB.out)⟩
section
open Go.Shelf Go.Sort
def cmpJ (x y : Int) : Int := if x < y then -1 else if x > y then 1 else 0
theorem cmpJ_eq (x y : Int) : cmp_Compare_int64.f x y = some (cmpJ x y) := by
 unfold cmp_Compare_int64.f cmpJ cmp_isNaN_int64.f
 by_cases h1 : x < y
 ·
  simp [h1]
 ·
  by_cases h2 : y < x <;> simp [h1, h2]
def cfT (x y : S91) : Int := if cmpJ x.f1 y.f1 = 0 then cmpJ x.f0 y.f0 else cmpJ x.f1 y.f1
def befJ (a b : S91) : Prop := a.f1 < b.f1 ∨ a.f1 = b.f1 ∧ a.f0 < b.f0
instance (a b : S91) : Decidable (befJ a b) := by unfold befJ; exact inferInstance
theorem cfT_neg (x y : S91) : cfT x y < 0 ↔ befJ x y := by
 unfold cfT befJ cmpJ
 split <;> (split <;> (try split) <;> (try split) <;> omega)
theorem ltOf_T (x y : S91) : ltOf cfT x y = decide (befJ x y) := by
 unfold ltOf
 by_cases h : befJ x y
 ·
  rw [decide_eq_true h]; exact decide_eq_true ((cfT_neg x y).2 h)
 ·
  rw [decide_eq_false h]; exact decide_eq_false (fun e => h ((cfT_neg x y).1 e))
theorem swo_T : SWO (ltOf cfT) where
 irrefl x := by rw [ltOf_T]; simp [befJ]
 trans x y z h1 h2 := by
  rw [ltOf_T] at h1 h2 ⊢
  have a := of_decide_eq_true h1
  have b := of_decide_eq_true h2
  exact decide_eq_true (by unfold befJ at *; omega)
 ntrans x y z h1 h2 := by
  rw [ltOf_T] at h1 h2 ⊢
  have a := of_decide_eq_false h1
  have b := of_decide_eq_false h2
  exact decide_eq_false (by unfold befJ at *; omega)
theorem orJ (n : Nat) (p q : Int) : cmp_Or_int.l0 (n + 3) 0 [p, q] 2 0 = some (if p = 0 then q else p) := by
 have w1 : wrap64 (0 + 1) = 1 := by unfold wrap64; omega
 have w2 : wrap64 (1 + 1) = 2 := by unfold wrap64; omega
 have r0 : rd [p, q] 0 = p := rfl
 have r1 : rd [p, q] 1 = q := rfl
 have l2 : (([p, q] : List Int).length : Int) = 2 := rfl
 rw [cmp_Or_int.l0, l2, r0, if_pos (by omega), if_pos (by omega), if_pos (by omega)]
 by_cases hp : p = 0
 ·
  rw [if_pos hp, if_pos hp, w1, cmp_Or_int.l0, l2, r1, if_pos (by omega), if_pos (by omega), if_pos (by omega)]
  by_cases hq : q = 0
  ·
   rw [if_pos hq, w2, cmp_Or_int.l0, if_neg (by omega), hq]
  ·
   rw [if_neg hq]
 ·
  rw [if_neg hp, if_neg hp]
theorem byTime_f (a b : S91) : impl_byTime.f 100 a.f0 a.f1 b.f0 b.f1 = some (cfT a b) := by
 unfold impl_byTime.f cfT
 simp only [cmpJ_eq, Option.bind_some]
 generalize cmpJ a.f1 b.f1 = p
 generalize cmpJ a.f0 b.f0 = q
 unfold cmp_Or_int.f
 rw [show (([p, q] : List Int).length : Int) = 2 from rfl, show (100 : Nat) = 97 + 3 from rfl, orJ]
 rfl
theorem byTime_D (x y : S91) (W : World) : Calls Try.prog 70 #[.agg (enc91 x).toArray, .agg (enc91 y).toArray] W fun e w' => e = .returned (.int .i64 (cfT x y)) ∧ ∃ q os', w' = grow (W.drewN q) os' :=
 (impl_byTime.callsD 100 x.f0 x.f1 y.f0 y.f1 _ W (byTime_f x y)).mono fun _ _ h => ⟨h.1, grow_of h.2⟩
theorem sorted_kept {α : Type} [Inhabited α] {f : α → S91} {w : World} {g m : Nat} {d : Array α} {os : Array Obj} : w.grownBy (sortWorldK (fun x => enc91 (f x)) 2 w g 0 m d os) (some g) := by
 refine ⟨rfl, rfl, rfl, ?_, fun k hk hn => ?_⟩
 ·
  unfold sortWorldK grow putRowK putRow mapBlock Sort.ahead
  simp
 ·
  unfold sortWorldK grow putRowK putRow mapBlock Sort.ahead
  simp only
  rw [Array.getElem?_append, if_pos (by simp; omega), Array.getElem?_modify, if_neg (fun e => hn (by rw [e]))]
theorem SortFunc_of (cf : S91 → S91 → Int) (hO : SWO (ltOf cf)) (g : Nat) (eg : ∀ args w, (callFunc g args).run Try.prog w = .ok (.enter g args) w)
  (hcmp : ∀ x y W, Calls Try.prog g #[.agg (enc91 x).toArray, .agg (enc91 y).toArray] W fun e w' => e = .returned (.int .i64 (cf x y)) ∧ ∃ q os', w' = grow (W.drewN q) os')
  (v : Value) (zs : List S91) (hlen : zs.length ≤ 1000) (base : Nat) (P : Nat → Prop) (w : World) (hown : k91.R 91 w base P v zs) :
  Calls Try.prog 118 #[v, .func (.func g) #[] #[]] w fun e w' => e = .returned (.tuple #[]) ∧ k91.R 91 w' base P v (sortL cf zs) ∧ w.grownBy w' v.ownBlock := by
 have hP := hown.1
 replace hown := R_flat hown
 by_cases h0 : zs.length = 0
 ·
  have hz : zs = [] := List.length_eq_zero_iff.1 h0
  have hs : sortL cf zs = [] := List.length_eq_zero_iff.1 (by rw [sortL_length cf hO, h0])
  have hv : ∃ p c, v = .slice p 0 c := by
   rcases hown.2 with h | ⟨g', c, cur, hv, _⟩
   ·
    exact ⟨none, 0, h.1⟩
   ·
    exact ⟨some ⟨g', 0, none⟩, c, by rw [hv, h0]⟩
  obtain ⟨p, c, rfl⟩ := hv
  have hcon := AnyF.slices_SortFunc_none Try.sortTimer p c (.func (.func g) #[] #[]) w
  change Calls Try.prog 118 _ _ _ at hcon
  refine hcon.mono ?_
  rintro e w' ⟨rfl, rfl⟩
  refine ⟨rfl, ?_, ⟨rfl, rfl, rfl, Nat.le_refl _, fun _ _ _ => rfl⟩⟩
  rw [hs]
  rw [hz] at hown
  exact flat_R hown hP
 ·
  have hv : ∃ gb c, v = .slice (some ⟨gb, 0, none⟩) zs.length c := by
   rcases hown.2 with h | ⟨g', c, cur, hv, _⟩
   ·
    exact absurd h.2 h0
   ·
    exact ⟨g', c, hv⟩
  obtain ⟨gb, c, rfl⟩ := hv
  have hown2 : w.ownsRow base 91 2 (.slice (some ⟨gb, 0, none⟩) zs.length c) zs.length (flat91 (zs.map (fun x => x))) := by simpa using hown
  obtain ⟨hH, hlt, hge, _⟩ := own_holds (fun x : S91 => x) hown2
  have hcon := AnyQ.slices_SortFunc_eq Try.sortTimer 2 Try.isAgg91 Try.sizeOf91 (fun x : S91 => enc91 x) (fun _ => rfl) (fun x u hu => enc_one x u hu) cf hO g #[] gb 0 c zs.toArray w eg
   (fun m os dk _ x y => by rw [Array.append_empty]; exact hcmp x y _) hH hlt (by simp; omega)
  change Calls Try.prog 118 _ _ _ at hcon
  refine Calls.mono (by simpa using hcon) ?_
  rintro e w' ⟨rfl, n, os, rfl⟩
  refine ⟨rfl, flat_R ?_ hP, sorted_kept (f := fun x : S91 => x)⟩
  have h1 := sorted_own (fun x : S91 => x) (m := n) (os := os) hown2 (d := (pdq (ltOf cf) zs.toArray 0 zs.toArray.size (Lib.bitLen zs.toArray.size) true true)) (by have := (sortL_facts cf hO zs).1.1; simpa using this)
  have h2 : (sortL cf zs).map (fun x => x) = sortL cf zs := by simp
  show World.ownsRow _ base 91 2 _ (sortL cf zs).length (flat91 (sortL cf zs))
  rw [← h2]
  exact h1
def impl_Timer_118.f (l0 : List S91) : Option (List S91) := if l0.length ≤ 1000 then some (sortL cfT l0) else none
/-- slices.SortFunc by time: in place. -/
theorem impl_Timer_118.calls (P0_ : Nat → Prop) (u9000_ : Value) (l0 : List S91) (r : List S91) (w0 w : World) (hB : Below w0.heap.size w0 w) (ho0 : Kd.R k91 91 w w0.heap.size P0_ u9000_ l0) (h : impl_Timer_118.f l0 = some r) :
  Calls Try.prog 118 #[u9000_, .func (.func 70) #[] #[]] w fun e w' => e = .returned (.tuple #[]) ∧ Kd.R k91 91 w' w0.heap.size (fun k_ => (P0_ k_ ∨ w.heap.size ≤ k_)) u9000_ r ∧ Below w0.heap.size w0 w' ∧ Kept w w' (fun k_ => P0_ k_) := by
 unfold impl_Timer_118.f at h
 by_cases c : l0.length ≤ 1000
 ·
  rw [if_pos c] at h
  obtain rfl := Option.some.inj h
  have eg : ∀ args w, (callFunc 70 args).run Try.prog w = .ok (.enter 70 args) w := enters_of Try.func70 (by kernel_rfl) rfl
  refine (SortFunc_of cfT swo_T 70 eg byTime_D u9000_ l0 c w0.heap.size P0_ w ho0).mono ?_
  rintro e w' ⟨rfl, hR, hg⟩
  exact ⟨rfl, Kd.R_mono hR (fun _ h => .inl h), pw_below_grown hB _ hB.size hg (Kd.R_base ho0), ⟨hg.size, fun i hi hn => hg.block i hi (fun he => hn (ho0.1 i he.symm))⟩⟩
 ·
  rw [if_neg c] at h
  cases h
end

/-! ### impl_WheelNew: function 123 -/
def impl_WheelNew.f (a0 : Int) : Option (Int × (List (List (S91))) × (List (S91))) := (impl_isTime.f a0).bind fun t275 => (if t275 = true then (if 16 ≤ 11728124029610 then (some (a0, (List.replicate 16 []), ([] : List (S91)))) else (none)) else (some (0, ([] : List (List (S91))), ([] : List (S91)))))
set_option maxHeartbeats 8000000 in
set_option maxRecDepth 100000 in
theorem impl_WheelNew.calls (a0 : Int) (r1 : Int) (r2 : List (List (S91))) (r3 : List (S91)) (w : World) (h : impl_WheelNew.f a0 = some (r1, r2, r3)) :
  Calls Try.prog 123 #[.int .i64 a0] w fun e w' => ∃ v1_ v2_ : Value, e = .returned (.agg #[.int .i64 r1, v1_, v2_]) ∧ Kd.S (Kd.slice 91 k91) 43 w' w.heap.size (fun k_ => some k_ ≠ (v2_ : Value).ownBlock) v1_ r2 ∧ Kd.R k91 91 w' w.heap.size (fun _ => True) v2_ r3 ∧ Below w.heap.size w w' := by
 have hu45 := Try.underlying45
 have HB := Aside0.mk (Below.refl w.heap.size w)
 have H : ((impl_isTime.f a0).bind fun t275 => (if t275 = true then (if 16 ≤ 11728124029610 then (some (a0, (List.replicate 16 []), ([] : List (S91)))) else (none)) else (some (0, ([] : List (List (S91))), ([] : List (S91)))))) = some (r1, r2, r3) := h
 clear h
 replace H := Option.bind_eq_some_iff.mp H
 obtain ⟨t275, A20, H⟩ := H
 replace H : (if t275 = true then (if 16 ≤ 11728124029610 then (some (a0, (List.replicate 16 []), ([] : List (S91)))) else (none)) else (some (0, ([] : List (List (S91))), ([] : List (S91))))) = some (r1, r2, r3) := H
 have A2 := Aside0.mk A20
 clear A20
 by_cases c3 : t275 = true
 ·
  subst c3
  have H1 : (if 16 ≤ 11728124029610 then (some (a0, (List.replicate 16 []), ([] : List (S91)))) else (none)) = some (r1, r2, r3) := by rw [if_pos rfl] at H; exact H
  clear H
  have H := H1
  clear H1
  by_cases c4 : 16 ≤ 11728124029610
  ·
   rw [if_pos c4] at H
   have c4b0 := eq_true c4
   have c4b1 : decide (16 ≤ 11728124029610) = true := decide_eq_true c4
   clear c4
   obtain ⟨y276, hy276⟩ : ∃ y_ : List (List (S91)), y_ = (List.replicate 16 []) := ⟨_, rfl⟩
   replace H : (some (a0, y276, ([] : List (S91)))) = some (r1, r2, r3) := by first | (rw [hy276]; with_reducible exact H) | (have H2_ := (Option.bind_some _ _).symm.trans H; rw [hy276]; with_reducible exact H2_) | (have H2_ := (Option.bind_some _ _).symm.trans H; with_reducible exact H2_) | with_reducible exact H | (rw [hy276]; exact H) | exact H
   have Ny276 := Aside0.mk hy276
   clear hy276
   simp only [Option.some.injEq, Prod.mk.injEq] at H
   obtain ⟨rfl, rfl, rfl⟩ := H
   go_enter Try.func123, Try.ntmps123
   go_wp2_with (first | ((with_reducible refine gate_dst (N := 2) rfl ?_); refine box_event ?hg (N := 2) ?hd (cs := #[.int .i64 0, .slice none 0 0, .slice none 0 0]) (t := 45) ?hr ?_; (case hd => rfl); (case hg => rfl); (case hr => first | (go_simp; done) | (go_simp; rfl)); intro gb274 hg w5 hbox hb; have n0_ := Aside0.mk (below_step bl_ hb); have n1_ := Aside0.mk (hbox); have n2_ := Aside0.mk ((by rw [hg]; exact (below_size bl_) : w.heap.size ≤ gb274)); have n3_ := Aside0.mk ((by rw [hg]; exact (below_size bl_) : w.heap.size ≤ gb274)); clear HB; have HB := n0_; have BK274 := n1_; have GW274 := n2_; have GE274 := n3_; clear n0_ n1_ n2_ n3_; clear hb hbox hg) | ((with_reducible refine gate_callee (f := 68) rfl ?_); refine gL_ (some 4) Try.func68 #[.int .i64 a0] ?_; (with_reducible refine (impl_isTime.calls a0 true _ A2.out).mono ?_); rintro e w' ⟨rfl, ⟨nd, rfl⟩⟩; refine ⟨_, rfl, ?_⟩; (try (rw [drewN_self w5]; generalize hq_ : World.drewN w5 _ = w5; have n0_ : Aside0 (w5.heap[gb274]? = some (.cells #[.int .i64 0, .slice none 0 0, .slice none 0 0] 45 (0, 0))) := ⟨by rw [← hq_]; exact (by exact up_ BK274.out)⟩; have n1_ : Aside0 (Below w.heap.size w w5) := ⟨by rw [← hq_]; exact bl_⟩; clear BK274 HB hq_; have BK274 := n0_; have HB := n1_; clear n0_ n1_))) | ((with_reducible refine gate_dst (N := 8) rfl ?_); refine Kd.S_make (Kd.slice 91 k91) _ 43 rfl (N := 8) rfl 42 _ _ rfl 16 rfl rfl Try.underlying42 (.slice none 0 0) 24 info43 rfl (by decide) (by omega) [] (ok := fun _ => True) (okp := fun _ => True) ⟨_, rfl, Kd.R_nil _ _ _ _ _⟩ (fun _ hk => hk) trivial (by omega) (by omega) (Below.refl _ _) (Nat.le_refl _) ?_; intro v277 w6 ho7 hb hg_ hnew_; clear hg_ hnew_; (first | rw [← Ny276.out] at ho7 | (simp only [Int.reduceToNat] at ho7; rw [← Ny276.out] at ho7)); have n0_ := Aside0.mk (Kd.S_lower ho7 (below_size bl_)); have n1_ := Aside0.mk (blk_below (up_ BK274.out) hb); have n2_ := Aside0.mk (below_step bl_ hb); clear BK274; clear HB; have HO278 := n0_; have BK274 := n1_; have HB := n2_; clear n0_ n1_ n2_; clear hb ho7; obtain ⟨Ao8, co8, eo8⟩ := Kd.S_slice HO278.out; subst eo8; have hcz9_0 : w6.cell? ⟨gb274, 0, none⟩ = some (.int .i64 0) := (blk_cell BK274.out 0).trans rfl; have hcz9_1 : w6.cell? ⟨gb274, 1, none⟩ = some (.slice none 0 0) := (blk_cell BK274.out 1).trans rfl; have hcz9_2 : w6.cell? ⟨gb274, 2, none⟩ = some (.slice none 0 0) := (blk_cell BK274.out 2).trans rfl; have hfz9_0 := blk_frozen BK274.out 0; have hfz9_1 := blk_frozen BK274.out 1; have hfz9_2 := blk_frozen BK274.out 2))
   refine bodyPost_ret (results_cell_row rfl _ _ gb274 45 #[.int .i64 a0, .slice Ao8 y276.length co8, .slice none 0 0] (0, 0) _ rfl (by (with_reducible repeat (first | refine blk_drewN ?_ _ | refine blk_drew ?_ | refine blk_alloc ?_ _)); refine blk_put (cs := #[.int .i64 a0, .slice Ao8 y276.length co8, .slice none 0 0]) ?_ 2 _ rfl; (with_reducible repeat (first | refine blk_drewN ?_ _ | refine blk_drew ?_ | refine blk_alloc ?_ _)); refine blk_put (cs := #[.int .i64 a0, .slice none 0 0, .slice none 0 0]) ?_ 1 _ rfl; (with_reducible repeat (first | refine blk_drewN ?_ _ | refine blk_drew ?_ | refine blk_alloc ?_ _)); refine blk_put (cs := #[.int .i64 0, .slice none 0 0, .slice none 0 0]) ?_ 0 _ rfl; (with_reducible repeat (first | refine blk_drewN ?_ _ | refine blk_drew ?_ | refine blk_alloc ?_ _)); exact BK274.out) Try.underlying45 rfl (by kernel_rfl)) rfl ?_
   exact ⟨_, _, by first | rfl | (simp [errW_none, errW_some] <;> rfl) | (simp [*, errW_none, errW_some] <;> rfl), by (with_reducible repeat (first | apply Kd.S_alloc | apply Kd.S_drewN | apply Kd.S_drew)); exact Kd.S_mono (Kd.S_far (p := ⟨gb274, 2, none⟩) (Kd.S_far (p := ⟨gb274, 1, none⟩) (Kd.S_far (p := ⟨gb274, 0, none⟩) (Kd.S_types HO278.out BK274.out (by decide)) (fun _ hk => hk.2) (.int .i64 a0)) (fun _ hk => hk.2) (.slice Ao8 y276.length co8)) (fun _ hk => hk.2) (.slice none 0 0)) (fun _ hk => (by simp [Value.ownBlock])), by first | exact Kd.R_nil _ _ _ _ _ | exact Kd.N_nil _ _ _ _ _ | exact Kd.V_nil _ _ _ _ _ | exact Kd.Q_nil _ _ _ _ _ | exact Kd.S_nil _ _ _ _ _, bl_⟩
  ·
   rw [if_neg c4] at H
   exact absurd H (by simp)
 ·
  replace c3 := Bool.eq_false_iff.mpr c3
  subst c3
  have H1 : (some (0, ([] : List (List (S91))), ([] : List (S91)))) = some (r1, r2, r3) := by rw [if_neg (show ¬ (false = true) by decide)] at H; exact H
  clear H
  have H := H1
  clear H1
  simp only [Option.some.injEq, Prod.mk.injEq] at H
  obtain ⟨rfl, rfl, rfl⟩ := H
  go_enter Try.func123, Try.ntmps123
  go_wp2_with (first | ((with_reducible refine gate_dst (N := 2) rfl ?_); refine box_event ?hg (N := 2) ?hd (cs := #[.int .i64 0, .slice none 0 0, .slice none 0 0]) (t := 45) ?hr ?_; (case hd => rfl); (case hg => rfl); (case hr => first | (go_simp; done) | (go_simp; rfl)); intro gb274 hg w10 hbox hb; have n0_ := Aside0.mk (below_step bl_ hb); have n1_ := Aside0.mk (hbox); have n2_ := Aside0.mk ((by rw [hg]; exact (below_size bl_) : w.heap.size ≤ gb274)); have n3_ := Aside0.mk ((by rw [hg]; exact (below_size bl_) : w.heap.size ≤ gb274)); clear HB; have HB := n0_; have BK274 := n1_; have GW274 := n2_; have GE274 := n3_; clear n0_ n1_ n2_ n3_; clear hb hbox hg) | ((with_reducible refine gate_callee (f := 68) rfl ?_); refine gL_ (some 4) Try.func68 #[.int .i64 a0] ?_; (with_reducible refine (impl_isTime.calls a0 false _ A2.out).mono ?_); rintro e w' ⟨rfl, ⟨nd, rfl⟩⟩; refine ⟨_, rfl, ?_⟩; (try (rw [drewN_self w10]; generalize hq_ : World.drewN w10 _ = w10; have n0_ : Aside0 (w10.heap[gb274]? = some (.cells #[.int .i64 0, .slice none 0 0, .slice none 0 0] 45 (0, 0))) := ⟨by rw [← hq_]; exact (by exact up_ BK274.out)⟩; have n1_ : Aside0 (Below w.heap.size w w10) := ⟨by rw [← hq_]; exact bl_⟩; clear BK274 HB hq_; have BK274 := n0_; have HB := n1_; clear n0_ n1_)); have hcz11_0 : w10.cell? ⟨gb274, 0, none⟩ = some (.int .i64 0) := (blk_cell BK274.out 0).trans rfl; have hcz11_1 : w10.cell? ⟨gb274, 1, none⟩ = some (.slice none 0 0) := (blk_cell BK274.out 1).trans rfl; have hcz11_2 : w10.cell? ⟨gb274, 2, none⟩ = some (.slice none 0 0) := (blk_cell BK274.out 2).trans rfl; have hfz11_0 := blk_frozen BK274.out 0; have hfz11_1 := blk_frozen BK274.out 1; have hfz11_2 := blk_frozen BK274.out 2))
  refine bodyPost_ret (results_cell_row rfl _ _ gb274 45 #[.int .i64 0, .slice none 0 0, .slice none 0 0] (0, 0) _ rfl (by (with_reducible repeat (first | refine blk_drewN ?_ _ | refine blk_drew ?_ | refine blk_alloc ?_ _)); refine blk_put (cs := #[.int .i64 0, .slice none 0 0, .slice none 0 0]) ?_ 2 _ rfl; (with_reducible repeat (first | refine blk_drewN ?_ _ | refine blk_drew ?_ | refine blk_alloc ?_ _)); refine blk_put (cs := #[.int .i64 0, .slice none 0 0, .slice none 0 0]) ?_ 1 _ rfl; (with_reducible repeat (first | refine blk_drewN ?_ _ | refine blk_drew ?_ | refine blk_alloc ?_ _)); refine blk_put (cs := #[.int .i64 0, .slice none 0 0, .slice none 0 0]) ?_ 0 _ rfl; (with_reducible repeat (first | refine blk_drewN ?_ _ | refine blk_drew ?_ | refine blk_alloc ?_ _)); exact BK274.out) Try.underlying45 rfl (by kernel_rfl)) rfl ?_
  exact ⟨_, _, by first | rfl | (simp [errW_none, errW_some] <;> rfl) | (simp [*, errW_none, errW_some] <;> rfl), by first | exact Kd.S_nil _ _ _ _ _ | exact Kd.N_nil _ _ _ _ _ | exact Kd.V_nil _ _ _ _ _ | exact Kd.Q_nil _ _ _ _ _ | exact Kd.R_nil _ _ _ _ _, by first | exact Kd.R_nil _ _ _ _ _ | exact Kd.N_nil _ _ _ _ _ | exact Kd.V_nil _ _ _ _ _ | exact Kd.Q_nil _ _ _ _ _ | exact Kd.S_nil _ _ _ _ _, bl_⟩

/-! ### impl_wheelOf: function 83 -/
def impl_wheelOf.l0 : Nat → Int → List (S91) → Int → Int → Int → List (List (S91)) → List (S91) → Option (Int × (List (List (S91))) × (List (S91)))
 | 0, _, _, _, _, _, _, _ => none
 | k + 1, x0, x12, x13, x14, x288000, x288001, x288002 => if x14 < x13 then (if 0 ≤ x14 then (if x14 < (x12.length : Int) then (if ((rd_T91 x12 x14).f1) ≤ (wrap64 (x0 + 16)) then (if 0 ≤ (Int.tmod ((rd_T91 x12 x14).f1) 16) then (if (Int.tmod ((rd_T91 x12 x14).f1) 16) < (x288001.length : Int) then (if (rd_L4 x288001 (Int.tmod ((rd_T91 x12 x14).f1) 16)).length < 8796093022208 then (impl_wheelOf.l0 k x0 x12 x13 (wrap64 (x14 + 1)) x288000 (x288001.set ((Int.tmod ((rd_T91 x12 x14).f1) 16) : Int).toNat ((rd_L4 x288001 (Int.tmod ((rd_T91 x12 x14).f1) 16)) ++ [(⟨(rd_T91 x12 x14).f0, (rd_T91 x12 x14).f1⟩ : S91)])) x288002) else (none)) else (none)) else (none)) else (if x288002.length < 8796093022208 then (impl_wheelOf.l0 k x0 x12 x13 (wrap64 (x14 + 1)) x288000 x288001 (x288002 ++ [(⟨(rd_T91 x12 x14).f0, (rd_T91 x12 x14).f1⟩ : S91)])) else (none))) else (none)) else (none)) else ((impl_Timer_118.f x288002).bind fun t301 => (some (x288000, x288001, t301)))
def impl_wheelOf.f (k : Nat) (a0 : Int) (l1 : List (S91)) : Option (Int × (List (List (S91))) × (List (S91))) := (impl_WheelNew.f a0).bind fun bt280 => ((impl_Timer_71.f l1).bind fun t288 => (impl_wheelOf.l0 k a0 t288 (t288.length : Int) 0 bt280.1 bt280.2.1 bt280.2.2))
def impl_wheelOf.T6 : Bool × List (List Nat × List Nat) := (true, [([], []), ([0], [0]), ([], []), ([2], [2]), ([3], [3]), ([], []), ([5], [5]), ([], []), ([7], [7]), ([8], [8]), ([6, 9], [6, 9]), ([10], [10]), ([], []), ([12], [12]), ([11, 13], [11, 13]), ([1, 4, 0, 1, 2, 3, 4, 5, 6, 7, 8, 9, 10, 11, 12, 13, 14], [1, 4]), ([15, 14, 14, 0, 1, 2, 3, 4, 5, 6, 7, 8, 9, 10, 11, 12, 13, 14], [14, 15])])
def impl_wheelOf.B6 : List Nat := [0, 1, 0, 4, 12, 0, 32, 0, 128, 384, 992, 2016, 0, 4096, 16352, 32767, 65535]
theorem impl_wheelOf.tab6 : rtab .any (opsOf Try.f83 6) = impl_wheelOf.T6 := by kernel_rfl
theorem impl_wheelOf.bits6 : waitsOk impl_wheelOf.T6.2 impl_wheelOf.B6 = true := by kernel_rfl
set_option maxHeartbeats 8000000 in
set_option maxRecDepth 100000 in
theorem impl_wheelOf.calls (k : Nat) (a0 : Int) (A1 : Option Addr) (c1 : Nat) (l1 : List (S91)) (r1 : Int) (r2 : List (List (S91))) (r3 : List (S91)) (w : World) (hr1 : Kd.C k91 w A1 l1.length l1) (hc1 : l1.length ≤ c1) (h : impl_wheelOf.f k a0 l1 = some (r1, r2, r3)) :
  Calls Try.prog 83 #[.int .i64 a0, .slice A1 l1.length c1] w fun e w' => ∃ v1_ v2_ : Value, e = .returned (.agg #[.int .i64 r1, v1_, v2_]) ∧ Kd.S (Kd.slice 91 k91) 43 w' w.heap.size (fun k_ => some k_ ≠ (v2_ : Value).ownBlock) v1_ r2 ∧ Kd.R k91 91 w' w.heap.size (fun _ => True) v2_ r3 ∧ Below w.heap.size w w' := by
 have hu45 := Try.underlying45
 have hu91 := Try.underlying91
 have HR1 := Aside0.mk hr1
 have HC1 := Aside0.mk hc1
 clear hr1 hc1
 have HB := Aside0.mk (Below.refl w.heap.size w)
 have H : ((impl_WheelNew.f a0).bind fun bt280 => ((impl_Timer_71.f l1).bind fun t288 => (impl_wheelOf.l0 k a0 t288 (t288.length : Int) 0 bt280.1 bt280.2.1 bt280.2.2))) = some (r1, r2, r3) := h
 clear h
 replace H := Option.bind_eq_some_iff.mp H
 obtain ⟨⟨t280, t281, t284⟩, A30, H⟩ := H
 replace H : ((impl_Timer_71.f l1).bind fun t288 => (impl_wheelOf.l0 k a0 t288 (t288.length : Int) 0 t280 t281 t284)) = some (r1, r2, r3) := H
 have A3 := Aside0.mk A30
 clear A30
 replace H := Option.bind_eq_some_iff.mp H
 obtain ⟨t288, A40, H⟩ := H
 replace H : (impl_wheelOf.l0 k a0 t288 (t288.length : Int) 0 t280 t281 t284) = some (r1, r2, r3) := H
 have A4 := Aside0.mk A40
 clear A40
 have H' := Aside0.mk H
 clear H
 go_enter Try.func83, Try.ntmps83
 go_wp2_with (first | ((with_reducible refine gate_dst (N := 4) rfl ?_); refine box_event ?hg (N := 4) ?hd (cs := #[.int .i64 0, .slice none 0 0, .slice none 0 0]) (t := 45) ?hr ?_; (case hd => rfl); (case hg => rfl); (case hr => first | (go_simp; done) | (go_simp; rfl)); intro gb279 hg w5 hbox hb; have n0_ := Aside0.mk (below_step bl_ hb); have n1_ := Aside0.mk (hbox); have n2_ := Aside0.mk ((by rw [hg]; exact (below_size bl_) : w.heap.size ≤ gb279)); have n3_ := Aside0.mk ((by rw [hg]; exact (below_size bl_) : w.heap.size ≤ gb279)); clear HB; have HB := n0_; have BK279 := n1_; have GW279 := n2_; have GE279 := n3_; clear n0_ n1_ n2_ n3_; clear hb hbox hg) | ((with_reducible refine gate_callee (f := 123) rfl ?_); refine gL_ (some 9) Try.func123 #[.int .i64 a0] ?_; (with_reducible refine (impl_WheelNew.calls a0 t280 t281 t284 _ A3.out).mono ?_); rintro e w6 ⟨v282, v285, rfl, ho0, ho1, hb⟩; refine ⟨_, rfl, ?_⟩; have n0_ := Aside0.mk (Kd.S_lower ho0 (below_size bl_)); have n1_ := Aside0.mk (Kd.R_lower ho1 (below_size bl_)); have n2_ := Aside0.mk (blk_below (up_ BK279.out) hb); have n3_ := Aside0.mk (below_step bl_ hb); clear BK279; clear HB; have HO283 := n0_; have HO286 := n1_; have BK279 := n2_; have HB := n3_; clear n0_ n1_ n2_ n3_; (try clear hb); (try clear hb2); (try clear hk); (try clear hi); (try clear ho0); (try clear ho1)) | ((with_reducible refine gate_dst (N := 5) rfl ?_); refine box_event ?hg (N := 5) ?hd (cs := #[.int .i64 0, .slice none 0 0, .slice none 0 0]) (t := 45) ?hr ?_; (case hd => rfl); (case hg => rfl); (case hr => first | (go_simp; done) | (go_simp; rfl)); intro gb287 hg w7 hbox hb; have n0_ := Aside0.mk (Kd.S_below (by (with_reducible repeat (first | apply Kd.S_alloc | apply Kd.S_drewN | apply Kd.S_drew)); exact HO283.out) hb); have n1_ := Aside0.mk (Kd.R_below (by exact rU_ HO286.out) hb); have n2_ := Aside0.mk (blk_below (up_ BK279.out) hb); have n3_ := Aside0.mk (below_step bl_ hb); have n4_ := Aside0.mk (hbox); have n5_ := Aside0.mk ((by rw [hg]; exact (below_size bl_) : w.heap.size ≤ gb287)); have n6_ := Aside0.mk ((by rw [hg]; exact (below_size bl_) : w.heap.size ≤ gb287)); have n7_ := Aside0.mk ((by rw [hg]; exact Nat.ne_of_lt (blk_lt (up_ BK279.out)) : gb279 ≠ gb287)); have n8_ := Aside0.mk ((by rw [hg]; exact Nat.ne_of_gt (blk_lt (up_ BK279.out)) : gb287 ≠ gb279)); clear HO283; clear HO286; clear BK279; clear HB; have HO283 := n0_; have HO286 := n1_; have BK279 := n2_; have HB := n3_; have BK287 := n4_; have GW287 := n5_; have GE287 := n6_; have NB279_287 := n7_; have NB287_279 := n8_; clear n0_ n1_ n2_ n3_ n4_ n5_ n6_ n7_ n8_; clear hb hbox hg; have hnb8 := NB287_279.out; have hnc8 := NB279_287.out; have hcz9_0 : w7.cell? ⟨gb287, 0, none⟩ = some (.int .i64 0) := (blk_cell BK287.out 0).trans rfl; have hcz9_1 : w7.cell? ⟨gb287, 1, none⟩ = some (.slice none 0 0) := (blk_cell BK287.out 1).trans rfl; have hcz9_2 : w7.cell? ⟨gb287, 2, none⟩ = some (.slice none 0 0) := (blk_cell BK287.out 2).trans rfl; have hfz9_0 := blk_frozen BK287.out 0; have hfz9_1 := blk_frozen BK287.out 1; have hfz9_2 := blk_frozen BK287.out 2; obtain ⟨Ao10, co10, eo10⟩ := Kd.S_slice HO283.out; subst eo10; obtain ⟨Ao11, co11, eo11⟩ := Kd.R_slice HO286.out; subst eo11) | ((with_reducible refine gate_callee (f := 72) rfl ?_); refine gL_ (some 11) Try.func72 #[.slice A1 l1.length c1] ?_; refine (values_calls _ _ _ _).mono ?_; rintro e w_ ⟨rfl, rfl⟩; refine ⟨_, rfl, ?_⟩) | ((with_reducible refine gate_callee (f := 71) rfl ?_); refine gL_ (some 12) Try.func71 #[.func (.func 119) #[] #[.pointer (some ⟨_, 0, none⟩)], .func (.func 74) #[] #[]] ?_; (with_reducible refine (impl_Timer_71.calls _ _ l1 t288 _ ?side1 ?side2 A4.out).mono ?_); (case side1 => exact Kd.C_below HR1.out bl_); (case side2 => exact HC1.out); rintro e w12 ⟨v289, rfl, ho0, hb⟩; refine ⟨_, rfl, ?_⟩; have n0_ := Aside0.mk (Kd.S_elder' (by (with_reducible repeat (first | apply Kd.S_alloc | apply Kd.S_drewN | apply Kd.S_drew)); exact (Kd.S_mono (Kd.S_far (p := ⟨gb287, 2, none⟩) (Kd.S_far (p := ⟨gb287, 1, none⟩) (Kd.S_far (p := ⟨gb287, 0, none⟩) (Kd.S_types HO283.out BK287.out (by decide)) (fun _ hk => hk.2) (.int .i64 t280)) (fun _ hk => hk.2) (.slice Ao10 t281.length co10)) (fun _ hk => hk.2) (.slice Ao11 t284.length co11)) (fun _ h_ => h_.1))) (Kd.R_base ho0) hb); have n1_ := Aside0.mk (Kd.R_elder' (by exact rU_ ((Kd.R_mono (Kd.R_far (p := ⟨gb287, 2, none⟩) (Kd.R_far (p := ⟨gb287, 1, none⟩) (Kd.R_far (p := ⟨gb287, 0, none⟩) (Kd.R_types HO286.out BK287.out (by decide)) (fun _ hk => hk.2) (.int .i64 t280)) (fun _ hk => hk.2) (.slice Ao10 t281.length co10)) (fun _ hk => hk.2) (.slice Ao11 t284.length co11)) (fun _ h_ => h_.1)))) (Kd.R_base ho0) hb); have n2_ := Aside0.mk (Kd.R_lower (Kd.R_new' ho0 (Kd.R_lt (by exact rU_ ((Kd.R_mono (Kd.R_far (p := ⟨gb287, 2, none⟩) (Kd.R_far (p := ⟨gb287, 1, none⟩) (Kd.R_far (p := ⟨gb287, 0, none⟩) (Kd.R_types HO286.out BK287.out (by decide)) (fun _ hk => hk.2) (.int .i64 t280)) (fun _ hk => hk.2) (.slice Ao10 t281.length co10)) (fun _ hk => hk.2) (.slice Ao11 t284.length co11)) (fun _ h_ => h_.1)))))) (below_size bl_)); have n3_ := Aside0.mk (blk_below (g := gb279) (o := .cells #[.int .i64 0, .slice none 0 0, .slice none 0 0] 45 (0, 0)) (by (with_reducible repeat (first | refine blk_drewN ?_ _ | refine blk_drew ?_ | refine blk_alloc ?_ _)); refine blk_far ?_ NB279_287.out _; (with_reducible repeat (first | refine blk_drewN ?_ _ | refine blk_drew ?_ | refine blk_alloc ?_ _)); refine blk_far ?_ NB279_287.out _; (with_reducible repeat (first | refine blk_drewN ?_ _ | refine blk_drew ?_ | refine blk_alloc ?_ _)); refine blk_far ?_ NB279_287.out _; (with_reducible repeat (first | refine blk_drewN ?_ _ | refine blk_drew ?_ | refine blk_alloc ?_ _)); exact BK279.out) hb); have n4_ := Aside0.mk (blk_below (g := gb287) (o := .cells #[.int .i64 t280, .slice Ao10 t281.length co10, .slice Ao11 t284.length co11] 45 (0, 0)) (by (with_reducible repeat (first | refine blk_drewN ?_ _ | refine blk_drew ?_ | refine blk_alloc ?_ _)); refine blk_put (cs := #[.int .i64 t280, .slice Ao10 t281.length co10, .slice none 0 0]) ?_ 2 _ rfl; (with_reducible repeat (first | refine blk_drewN ?_ _ | refine blk_drew ?_ | refine blk_alloc ?_ _)); refine blk_put (cs := #[.int .i64 t280, .slice none 0 0, .slice none 0 0]) ?_ 1 _ rfl; (with_reducible repeat (first | refine blk_drewN ?_ _ | refine blk_drew ?_ | refine blk_alloc ?_ _)); refine blk_put (cs := #[.int .i64 0, .slice none 0 0, .slice none 0 0]) ?_ 0 _ rfl; (with_reducible repeat (first | refine blk_drewN ?_ _ | refine blk_drew ?_ | refine blk_alloc ?_ _)); exact BK287.out) hb); have n5_ := Aside0.mk (below_step bl_ hb); clear HO283; clear HO286; clear BK279; clear BK287; clear HB; have HO283 := n0_; have HO286 := n1_; have HO290 := n2_; have BK279 := n3_; have BK287 := n4_; have HB := n5_; clear n0_ n1_ n2_ n3_ n4_ n5_; (try clear hb); (try clear hb2); (try clear hk); (try clear hi); (try clear ho0); obtain ⟨Ao13, co13, eo13⟩ := Kd.R_slice HO290.out; subst eo13))
 go_loopg [14] k (fun kq v14 w' => ∃ (x14_1 : Int) (x288001_1 : List (List (S91))) (x288002_1 : List (S91)) (u288001 : Value) (u288002 : Value), v14 = .int .i64 x14_1 ∧ Aside0 (impl_wheelOf.l0 kq a0 t288 (t288.length : Int) x14_1 t280 x288001_1 x288002_1 = some (r1, r2, r3)) ∧ Aside0 (kq ≤ k) ∧ Aside0 (Kd.R k91 91 w' w.heap.size (fun k_ => some k_ ≠ (u288002 : Value).ownBlock) (.slice Ao13 t288.length co13) t288) ∧ Aside0 (Kd.S (Kd.slice 91 k91) 43 w' w.heap.size (fun k_ => some k_ ≠ ((.slice Ao13 t288.length co13) : Value).ownBlock ∧ some k_ ≠ (u288002 : Value).ownBlock) u288001 x288001_1) ∧ Aside0 (Kd.R k91 91 w' w.heap.size (fun k_ => some k_ ≠ ((.slice Ao13 t288.length co13) : Value).ownBlock) u288002 x288002_1) ∧ Aside0 (w'.heap[gb279]? = some (.cells #[.int .i64 0, (.slice none 0 0), (.slice none 0 0)] 45 (0, 0))) ∧ Aside0 (w'.heap[gb287]? = some (.cells #[.int .i64 t280, u288001, u288002] 45 (0, 0))) ∧ Aside0 (Below w.heap.size w w'))
 case atStart => exact ⟨(0), (t281), (t284), (.slice Ao10 t281.length co10), (.slice Ao11 t284.length co11), (by first | rfl | (simp; done) | (simp [*]; done)), H', ⟨Nat.le_refl _⟩, ⟨by (with_reducible repeat (first | apply Kd.R_alloc | apply Kd.R_drewN | apply Kd.R_drew)); exact Kd.R_mono HO290.out (fun _ hk => hk.2)⟩, ⟨by (with_reducible repeat (first | apply Kd.S_alloc | apply Kd.S_drewN | apply Kd.S_drew)); exact Kd.S_mono HO283.out (fun _ hk => ⟨hk.2, hk.1⟩)⟩, ⟨by (with_reducible repeat (first | apply Kd.R_alloc | apply Kd.R_drewN | apply Kd.R_drew)); exact Kd.R_mono HO286.out (fun _ hk => hk.2)⟩, ⟨up_ BK279.out⟩, ⟨up_ BK287.out⟩, ⟨bl_⟩⟩
 case round =>
  clear H'
  try clear c1
  try clear p2
  try clear c7
  try clear c8
  try clear c12
  try clear hcz9_0
  try clear hcz9_1
  try clear hcz9_2
  try clear hfz9_0
  try clear hfz9_1
  try clear hfz9_2
  obtain ⟨x14_1, x288001_1, x288002_1, u288001, u288002, rfl, HA, HK1, HO_12, HO_288001, HO_288002, BK279, BK287, HB⟩ := hrel
  cases gk with
  | zero => exact absurd HA.out (by simp [impl_wheelOf.l0])
  | succ k1 =>
   have H := HA.out
   clear HA
   simp only [impl_wheelOf.l0] at H
   by_cases c14 : x14_1 < (t288.length : Int)
   ·
    rw [if_pos c14] at H
    have c14b0 : decide (x14_1 < (t288.length : Int)) = true := decide_eq_true c14
    clear c14
    by_cases c15 : 0 ≤ x14_1
    ·
     rw [if_pos c15] at H
     have c15b0 : decide (0 ≤ x14_1) = true := decide_eq_true c15
     clear c15
     by_cases c16 : x14_1 < (t288.length : Int)
     ·
      rw [if_pos c16] at H
      have c16b0 : decide (x14_1 < (t288.length : Int)) = true := decide_eq_true c16
      clear c16
      by_cases c17 : ((rd_T91 t288 x14_1).f1) ≤ (wrap64 (a0 + 16))
      ·
       rw [if_pos c17] at H
       have c17b0 : decide (((rd_T91 t288 x14_1).f1) ≤ (wrap64 (a0 + 16))) = true := decide_eq_true c17
       clear c17
       obtain ⟨ji18, hji18⟩ : ∃ j_ : Int, (Int.tmod ((rd_T91 t288 x14_1).f1) 16) = j_ := ⟨_, rfl⟩
       replace H : (if 0 ≤ (ji18) then (if (ji18) < (x288001_1.length : Int) then (if (rd_L4 x288001_1 (ji18)).length < 8796093022208 then (impl_wheelOf.l0 k1 a0 t288 (t288.length : Int) (wrap64 (x14_1 + 1)) t280 (x288001_1.set ((ji18) : Int).toNat ((rd_L4 x288001_1 (ji18)) ++ [(⟨(rd_T91 t288 x14_1).f0, (rd_T91 t288 x14_1).f1⟩ : S91)])) x288002_1) else (none)) else (none)) else (none)) = some (r1, r2, r3) := by first | (rw [hji18] at H; exact H) | (simp only [hji18] at H ⊢; exact H)
       by_cases c19 : 0 ≤ (ji18)
       ·
        rw [if_pos c19] at H
        have c19b0 : decide (0 ≤ (ji18)) = true := decide_eq_true c19
        clear c19
        by_cases c20 : (ji18) < (x288001_1.length : Int)
        ·
         rw [if_pos c20] at H
         have c20b0 : decide ((ji18) < (x288001_1.length : Int)) = true := decide_eq_true c20
         clear c20
         by_cases c21 : (rd_L4 x288001_1 (ji18)).length < 8796093022208
         ·
          rw [if_pos c21] at H
          have LMc21 := Aside0.mk c21
          clear c21
          obtain ⟨y294, hy294⟩ : ∃ y_ : List (S91), y_ = ((rd_L4 x288001_1 (ji18)) ++ [(⟨(rd_T91 t288 x14_1).f0, (rd_T91 t288 x14_1).f1⟩ : S91)]) := ⟨_, rfl⟩
          replace H : (impl_wheelOf.l0 k1 a0 t288 (t288.length : Int) (wrap64 (x14_1 + 1)) t280 (x288001_1.set ((ji18) : Int).toNat y294) x288002_1) = some (r1, r2, r3) := by first | (rw [hy294]; with_reducible exact H) | (have H2_ := (Option.bind_some _ _).symm.trans H; rw [hy294]; with_reducible exact H2_) | (have H2_ := (Option.bind_some _ _).symm.trans H; with_reducible exact H2_) | with_reducible exact H | (rw [hy294]; exact H) | exact H
          have Ny294 := Aside0.mk hy294
          clear hy294
          obtain ⟨y297, hy297⟩ : ∃ y_ : List (List (S91)), y_ = (x288001_1.set ((ji18) : Int).toNat y294) := ⟨_, rfl⟩
          replace H : (impl_wheelOf.l0 k1 a0 t288 (t288.length : Int) (wrap64 (x14_1 + 1)) t280 y297 x288002_1) = some (r1, r2, r3) := by first | (rw [hy297]; with_reducible exact H) | (have H2_ := (Option.bind_some _ _).symm.trans H; rw [hy297]; with_reducible exact H2_) | (have H2_ := (Option.bind_some _ _).symm.trans H; with_reducible exact H2_) | with_reducible exact H | (rw [hy297]; exact H) | exact H
          have Ny297 := Aside0.mk hy297
          clear hy297
          have H' := Aside0.mk H
          clear H
          have p291 : 0 ≤ (x14_1 : Int) := ds_
          have q291 : x14_1 < (t288.length : Int) := ds_
          obtain ⟨ad291, e291, hx291_0, hx291_1⟩ := at_T91 (Kd.R_reads' HO_12.out).2.2 x14_1 p291 q291
          cases e291
          replace p291 := eq_true p291
          replace q291 := eq_true q291
          try go_wp2_with (first | ((with_reducible refine gate_dst (N := 7) rfl ?_); refine box_event ?hg (N := 7) ?hd (cs := #[.int .i64 0, .int .i64 0]) (t := 91) ?hr ?_; (case hd => rfl); (case hg => rfl); (case hr => first | (go_simp; done) | (go_simp; rfl)); intro gb292 hg w23 hbox hb; have n0_ := Aside0.mk (Kd.R_below (Kd.R_elderB (by exact rU_ HO_12.out) gb292 (Nat.le_of_eq hg.symm)) hb); have n1_ := Aside0.mk (Kd.S_below (Kd.S_elderB (by (with_reducible repeat (first | apply Kd.S_alloc | apply Kd.S_drewN | apply Kd.S_drew)); exact HO_288001.out) gb292 (Nat.le_of_eq hg.symm)) hb); have n2_ := Aside0.mk (Kd.R_below (Kd.R_elderB (by exact rU_ HO_288002.out) gb292 (Nat.le_of_eq hg.symm)) hb); have n3_ := Aside0.mk (blk_below (up_ BK279.out) hb); have n4_ := Aside0.mk (blk_below (up_ BK287.out) hb); have n5_ := Aside0.mk (below_step bl_ hb); have n6_ := Aside0.mk (hbox); have n7_ := Aside0.mk ((by rw [hg]; exact (below_size bl_) : w.heap.size ≤ gb292)); have n8_ := Aside0.mk ((by rw [hg]; exact (below_size bl_) : w.heap.size ≤ gb292)); have n9_ := Aside0.mk ((by rw [hg]; exact Nat.ne_of_lt (blk_lt (up_ BK279.out)) : gb279 ≠ gb292)); have n10_ := Aside0.mk ((by rw [hg]; exact Nat.ne_of_gt (blk_lt (up_ BK279.out)) : gb292 ≠ gb279)); have n11_ := Aside0.mk ((by rw [hg]; exact Nat.ne_of_lt (blk_lt (up_ BK287.out)) : gb287 ≠ gb292)); have n12_ := Aside0.mk ((by rw [hg]; exact Nat.ne_of_gt (blk_lt (up_ BK287.out)) : gb292 ≠ gb287)); clear HO_12; clear HO_288001; clear HO_288002; clear BK279; clear BK287; clear HB; have HO_12 := n0_; have HO_288001 := n1_; have HO_288002 := n2_; have BK279 := n3_; have BK287 := n4_; have HB := n5_; have BK292 := n6_; have GW292 := n7_; have GE292 := n8_; have NB279_292 := n9_; have NB292_279 := n10_; have NB287_292 := n11_; have NB292_287 := n12_; clear n0_ n1_ n2_ n3_ n4_ n5_ n6_ n7_ n8_ n9_ n10_ n11_ n12_; clear hb hbox hg; have hnb24 := NB292_279.out; have hnc24 := NB279_292.out; have hnb25 := NB292_287.out; have hnc25 := NB287_292.out; have hcz26_0 : w23.cell? ⟨gb292, 0, none⟩ = some (.int .i64 0) := (blk_cell BK292.out 0).trans rfl; have hcz26_1 : w23.cell? ⟨gb292, 1, none⟩ = some (.int .i64 0) := (blk_cell BK292.out 1).trans rfl; have hfz26_0 := blk_frozen BK292.out 0; have hfz26_1 := blk_frozen BK292.out 1))
          have n0_ : Aside0 (Kd.R k91 91 ((w23.setCell ⟨gb292, 0, none⟩ (.int .i64 ((rd_T91 t288 x14_1).f0))).setCell ⟨gb292, 1, none⟩ (.int .i64 ((rd_T91 t288 x14_1).f1))) w.heap.size (fun k_ => some k_ ≠ (u288002 : Value).ownBlock ∧ k_ ≠ gb292) (.slice (some ad291) t288.length co13) t288) := ⟨by (with_reducible repeat (first | apply Kd.R_alloc | apply Kd.R_drewN | apply Kd.R_drew)); exact Kd.R_mono (Kd.R_far (p := ⟨gb292, 1, none⟩) (Kd.R_far (p := ⟨gb292, 0, none⟩) (Kd.R_mono HO_12.out (fun k_ hk => (⟨hk, hk.2⟩ : _ ∧ k_ ≠ gb292))) (fun _ hk => hk.2) (.int .i64 ((rd_T91 t288 x14_1).f0))) (fun _ hk => hk.2) (.int .i64 ((rd_T91 t288 x14_1).f1))) (fun _ hk => ⟨hk.1.1, hk.1.2⟩)⟩
          have n1_ : Aside0 (Kd.S (Kd.slice 91 k91) 43 ((w23.setCell ⟨gb292, 0, none⟩ (.int .i64 ((rd_T91 t288 x14_1).f0))).setCell ⟨gb292, 1, none⟩ (.int .i64 ((rd_T91 t288 x14_1).f1))) w.heap.size (fun k_ => some k_ ≠ (.slice (some ad291) t288.length co13 : Value).ownBlock ∧ some k_ ≠ (u288002 : Value).ownBlock ∧ k_ ≠ gb292) u288001 x288001_1) := ⟨by (with_reducible repeat (first | apply Kd.S_alloc | apply Kd.S_drewN | apply Kd.S_drew)); exact Kd.S_mono (Kd.S_far (p := ⟨gb292, 1, none⟩) (Kd.S_far (p := ⟨gb292, 0, none⟩) (Kd.S_mono HO_288001.out (fun k_ hk => (⟨hk, hk.2⟩ : _ ∧ k_ ≠ gb292))) (fun _ hk => hk.2) (.int .i64 ((rd_T91 t288 x14_1).f0))) (fun _ hk => hk.2) (.int .i64 ((rd_T91 t288 x14_1).f1))) (fun _ hk => ⟨hk.1.1.1, ⟨hk.1.1.2, hk.1.2⟩⟩)⟩
          have n2_ : Aside0 (Kd.R k91 91 ((w23.setCell ⟨gb292, 0, none⟩ (.int .i64 ((rd_T91 t288 x14_1).f0))).setCell ⟨gb292, 1, none⟩ (.int .i64 ((rd_T91 t288 x14_1).f1))) w.heap.size (fun k_ => some k_ ≠ (.slice (some ad291) t288.length co13 : Value).ownBlock ∧ k_ ≠ gb292) u288002 x288002_1) := ⟨by (with_reducible repeat (first | apply Kd.R_alloc | apply Kd.R_drewN | apply Kd.R_drew)); exact Kd.R_mono (Kd.R_far (p := ⟨gb292, 1, none⟩) (Kd.R_far (p := ⟨gb292, 0, none⟩) (Kd.R_mono HO_288002.out (fun k_ hk => (⟨hk, hk.2⟩ : _ ∧ k_ ≠ gb292))) (fun _ hk => hk.2) (.int .i64 ((rd_T91 t288 x14_1).f0))) (fun _ hk => hk.2) (.int .i64 ((rd_T91 t288 x14_1).f1))) (fun _ hk => ⟨hk.1.1, hk.1.2⟩)⟩
          have n3_ : Aside0 (((w23.setCell ⟨gb292, 0, none⟩ (.int .i64 ((rd_T91 t288 x14_1).f0))).setCell ⟨gb292, 1, none⟩ (.int .i64 ((rd_T91 t288 x14_1).f1))).heap[gb279]? = some (.cells #[.int .i64 0, .slice none 0 0, .slice none 0 0] 45 (0, 0))) := ⟨by (with_reducible repeat (first | refine blk_drewN ?_ _ | refine blk_drew ?_ | refine blk_alloc ?_ _)); refine blk_far ?_ NB279_292.out _; (with_reducible repeat (first | refine blk_drewN ?_ _ | refine blk_drew ?_ | refine blk_alloc ?_ _)); refine blk_far ?_ NB279_292.out _; (with_reducible repeat (first | refine blk_drewN ?_ _ | refine blk_drew ?_ | refine blk_alloc ?_ _)); exact BK279.out⟩
          have n4_ : Aside0 (((w23.setCell ⟨gb292, 0, none⟩ (.int .i64 ((rd_T91 t288 x14_1).f0))).setCell ⟨gb292, 1, none⟩ (.int .i64 ((rd_T91 t288 x14_1).f1))).heap[gb287]? = some (.cells #[.int .i64 t280, u288001, u288002] 45 (0, 0))) := ⟨by (with_reducible repeat (first | refine blk_drewN ?_ _ | refine blk_drew ?_ | refine blk_alloc ?_ _)); refine blk_far ?_ NB287_292.out _; (with_reducible repeat (first | refine blk_drewN ?_ _ | refine blk_drew ?_ | refine blk_alloc ?_ _)); refine blk_far ?_ NB287_292.out _; (with_reducible repeat (first | refine blk_drewN ?_ _ | refine blk_drew ?_ | refine blk_alloc ?_ _)); exact BK287.out⟩
          have n5_ : Aside0 (((w23.setCell ⟨gb292, 0, none⟩ (.int .i64 ((rd_T91 t288 x14_1).f0))).setCell ⟨gb292, 1, none⟩ (.int .i64 ((rd_T91 t288 x14_1).f1))).heap[gb292]? = some (.cells #[.int .i64 ((rd_T91 t288 x14_1).f0), .int .i64 ((rd_T91 t288 x14_1).f1)] 91 (0, 0))) := ⟨by (with_reducible repeat (first | refine blk_drewN ?_ _ | refine blk_drew ?_ | refine blk_alloc ?_ _)); refine blk_put (cs := #[.int .i64 ((rd_T91 t288 x14_1).f0), .int .i64 0]) ?_ 1 _ rfl; (with_reducible repeat (first | refine blk_drewN ?_ _ | refine blk_drew ?_ | refine blk_alloc ?_ _)); refine blk_put (cs := #[.int .i64 0, .int .i64 0]) ?_ 0 _ rfl; (with_reducible repeat (first | refine blk_drewN ?_ _ | refine blk_drew ?_ | refine blk_alloc ?_ _)); exact BK292.out⟩
          have n6_ : Aside0 (Below w.heap.size w ((w23.setCell ⟨gb292, 0, none⟩ (.int .i64 ((rd_T91 t288 x14_1).f0))).setCell ⟨gb292, 1, none⟩ (.int .i64 ((rd_T91 t288 x14_1).f1)))) := ⟨bl_⟩
          (try clear HO_12)
          (try clear HO_288001)
          (try clear HO_288002)
          (try clear BK279)
          (try clear BK287)
          (try clear BK292)
          (try clear HB)
          generalize ((w23.setCell ⟨gb292, 0, none⟩ (.int .i64 ((rd_T91 t288 x14_1).f0))).setCell ⟨gb292, 1, none⟩ (.int .i64 ((rd_T91 t288 x14_1).f1))) = w27 at n0_ n1_ n2_ n3_ n4_ n5_ n6_ ⊢
          have HO_12 := n0_
          have HO_288001 := n1_
          have HO_288002 := n2_
          have BK279 := n3_
          have BK287 := n4_
          have BK292 := n5_
          have HB := n6_
          clear n0_ n1_ n2_ n3_ n4_ n5_ n6_
          replace HO_12 := Aside0.mk (Kd.R_drew HO_12.out)
          replace HO_288001 := Aside0.mk (Kd.S_drew HO_288001.out)
          replace HO_288002 := Aside0.mk (Kd.R_drew HO_288002.out)
          replace BK279 := Aside0.mk (blk_drew BK279.out)
          replace BK287 := Aside0.mk (blk_drew BK287.out)
          replace BK292 := Aside0.mk (blk_drew BK292.out)
          replace HB := Aside0.mk (below_drew1 HB.out)
          obtain ⟨Ao29, co29, eo29⟩ := Kd.S_slice HO_288001.out
          (first | subst eo29 | (injection eo29 with f1_ f2_ f3_; have f4_ := f1_.symm; have f5_ := f3_.symm; clear f1_ f2_ f3_; subst f4_; subst f5_))
          have p293 : 0 ≤ ((ji18) : Int) := ds_
          have q293 : (ji18) < (x288001_1.length : Int) := ds_
          obtain ⟨ad293, A293_0, c293_0, e293, hx293_0, hl293_0, hi293_0⟩ := at_L4 (Kd.S_reads' HO_288001.out).2.2 (ji18) p293 q293
          cases e293
          obtain ⟨ce293, hce293, hMe293, hcc293⟩ := Kd.S_get HO_288001.out [] (ji18) p293 (by first | exact q293 | exact ds_ | (have e_ := (Kd.S_reads' HO_288001.out).1; omega))
          obtain ⟨ve293_0, rfl, ge293_0⟩ := hMe293
          have hv293_0 := hcc293 0 _ rfl
          rw [Nat.add_zero, show ((Kd.slice 91 k91)).sz = 1 from rfl, Nat.mul_one] at hv293_0
          replace hv293_0 := Option.some.inj (hv293_0.symm.trans hx293_0)
          rw [hv293_0] at ge293_0
          have HL293_0 := Aside0.mk (show Kd.R k91 91 _ _ _ _ (rd_L4 x288001_1 (ji18)) from ge293_0)
          clear hv293_0 ge293_0
          have HX293_0 := Aside0.mk hx293_0
          clear hcc293 hce293
          have HR293_0 := Aside0.mk hi293_0
          have HC293_0 := Aside0.mk hl293_0
          clear hi293_0 hl293_0
          replace p293 := eq_true p293
          replace q293 := eq_true q293
          obtain ⟨go30, co30, eo30, gb30, gl30, cl30, HG30⟩ := Kd.S_form HO_288001.out (by have h_ : ((ji18) : Int) < ((x288001_1.length : Int) : Int) := ds_; have h2_ : 0 ≤ ((ji18) : Int) := (ds_); omega)
          (first | cases eo30 | (injection eo30 with ea_ en_ ec_; (first | subst ea_ | (injection ea_ with ea_; subst ea_)); subst ec_; clear en_))
          have GB30 := Aside0.mk gb30
          have GG30 := Aside0.mk HG30
          clear gb30 gl30 HG30
          (first | simp only [add_plain] at hx293_0 | skip)
          obtain ⟨oki30, ce30, hcl30, hM30, hcc30, _, _, hH30⟩ := Kd.S_elem HO_288001.out [] ((ji18) : Int) (ds_) (by have h_ : ((ji18) : Int) < ((x288001_1.length : Int) : Int) := ds_; first | exact h_ | (have e_ := (Kd.S_reads' HO_288001.out).1; omega) | simpa using h_)
          obtain ⟨ve30_0, rfl, ge30_0⟩ := hM30
          have hv30 := hcc30 0 _ rfl
          have hX30 := HX293_0.out
          (try simp only [add_plain] at hX30)
          (try simp only [Nat.add_zero] at hv30)
          (try rw [show ((Kd.slice 91 k91)).sz = 1 from rfl, Nat.mul_one] at hv30)
          replace hv30 := Option.some.inj (hv30.symm.trans hX30)
          subst hv30
          clear hX30 hcc30 hcl30
          have UU30 := Aside0.mk (show Kd.R k91 91 _ w.heap.size oki30 (.slice A293_0 (rd_L4 x288001_1 (ji18)).length c293_0) (rd_L4 x288001_1 (ji18)) from ge30_0)
          have HH30 := Aside0.mk hH30
          have HN30 := Aside0.mk (Kd.S_reads' HO_288001.out).1
          clear hH30 ge30_0
          refine start_ (n := 17) (S := fun w' => w'.cell? ⟨gb287, 0, none⟩ = some (.int .i64 t280) ∧ w'.cell? ⟨gb287, 1, none⟩ = some (.slice (some ⟨go30, 0, none⟩) x288001_1.length co29) ∧ w'.cell? ⟨gb287, 2, none⟩ = some (u288002) ∧ w'.cell? ⟨gb292, 0, none⟩ = some (.int .i64 ((rd_T91 t288 x14_1).f0)) ∧ w'.cell? ⟨gb292, 1, none⟩ = some (.int .i64 ((rd_T91 t288 x14_1).f1)) ∧ w'.cell? ⟨go30, ((ji18)).toNat, none⟩ = some (.slice A293_0 (rd_L4 x288001_1 (ji18)).length c293_0)) (ds := [16]) #[false, false, false, false, false, false, false, false, false, false, false, false, false, false, false, false, false] (by kernel_rfl) rfl rfl ⟨(blk_cell BK287.out 0).trans rfl, (blk_cell BK287.out 1).trans rfl, (blk_cell BK287.out 2).trans rfl, (blk_cell BK292.out 0).trans rfl, (blk_cell BK292.out 1).trans rfl, hx293_0⟩ (fun hHeld => ?_); refine with_tabW impl_wheelOf.tab6 impl_wheelOf.bits6 (fun HT_ HW_ => ?_)
          generalize w27.drew = w28 at HO_12 HO_288001 HO_288002 BK279 BK287 BK292 HB GG30 HH30 HL293_0 HR293_0 HX293_0 UU30 hx293_0 hHeld ⊢
          refine pu_ 0 23 HT_ ?_
          refine pu_ 2 25 HT_ ?_
          refine pu_ 5 28 HT_ ?_
          refine pu_ 7 30 HT_ ?_
          refine tk_ 1 24 HT_ HW_ hHeld ?_ rfl rfl (by rintro w' ⟨s0, s1, s2, s3, s4, s5⟩; go_simp; with_reducible rfl)
          refine tk_ 3 26 HT_ HW_ hHeld ?_ rfl rfl (by rintro w' ⟨s0, s1, s2, s3, s4, s5⟩; go_simp; with_reducible rfl)
          refine pu_ 4 27 HT_ ?_
          refine tk_ 6 29 HT_ HW_ hHeld ?_ rfl rfl (by rintro w' ⟨s0, s1, s2, s3, s4, s5⟩; go_simp; with_reducible rfl)
          refine tk_ 8 31 HT_ HW_ hHeld ?_ rfl rfl (by rintro w' ⟨s0, s1, s2, s3, s4, s5⟩; go_simp; with_reducible rfl)
          refine pu_ 9 32 HT_ ?_
          refine pu_ 10 33 HT_ ?_
          refine tk_ 11 34 HT_ HW_ hHeld ?_ rfl rfl (by rintro w' ⟨s0, s1, s2, s3, s4, s5⟩; go_simp; with_reducible rfl)
          refine tk_ 12 35 HT_ HW_ hHeld ?_ rfl rfl (by rintro w' ⟨s0, s1, s2, s3, s4, s5⟩; go_simp; with_reducible rfl)
          refine one_ (i := 13) (N := some 36) #[o_,o_,o_,o_,o_,o_,o_,o_,o_,o_,o_,o_,o_,o_,x_,x_,x_] rfl rfl (one_of HT_.out (by kernel_rfl)) (by decide) (fun K hK => ?_)
          refine value_ (w1 := ?_) (v := ?_) (by rfl) rfl ?_ ?_
          rotate_left 2
          ·
           go_simp
           constructor
           ·
            rfl
           ·
            rfl
          refine hK.out _ _ ⟨(blk_cell (blk_alloc BK287.out _) 0).trans rfl, (blk_cell (blk_alloc BK287.out _) 1).trans rfl, (blk_cell (blk_alloc BK287.out _) 2).trans rfl, (blk_cell (blk_alloc BK292.out _) 0).trans rfl, (blk_cell (blk_alloc BK292.out _) 1).trans rfl, (World.cell?_alloc_lt _ _ _ (World.block_lt_of_cell? _ _ (hHeld.2.2.2.2.2))).trans (hHeld.2.2.2.2.2)⟩ (fun hHeld => ?_)
          clear hK K
          refine norm_ (a' := ?_) ?_ ?_
          rotate_left
          ·
           show Act.put _ (some 36) _ = _
           simp only [Act.put, List.setIfInBounds_toArray, List.set_cons_zero, List.set_cons_succ, i64_w, i32_w]
           rfl
          refine one_ (i := 14) (N := some 37) #[o_,o_,o_,o_,o_,o_,o_,o_,o_,o_,o_,o_,o_,o_,o_,x_,x_] rfl rfl (one_of HT_.out (by kernel_rfl)) (by decide) (fun K hK => ?_)
          refine Kd.R_append_step k91 (w0 := w) w.heap.size (by rfl) (.tmp 34) (.tmp 36) 43 91 (.agg #[(.int .i64 0), (.int .i64 0)]) 16 rfl Try.underlying43 info91 rfl (by decide) (by omega) (.slice A293_0 (rd_L4 x288001_1 (ji18)).length c293_0) (rd_L4 x288001_1 (ji18)) (⟨(rd_T91 t288 x14_1).f0, (rd_T91 t288 x14_1).f1⟩ : S91) [.int .i64 ((rd_T91 t288 x14_1).f0), .int .i64 ((rd_T91 t288 x14_1).f1)] (fun k_ => oki30 k_ ∨ ((fun k_ => some k_ ≠ (.slice (some ad291) t288.length co13 : Value).ownBlock ∧ some k_ ≠ (u288002 : Value).ownBlock ∧ k_ ≠ gb292)) k_ ∧ w28.heap.size ≤ k_) (fun _ => False) rfl rfl ?aP (fun _ hk => hk.elim) ?aF ?aO ?aB ?aS ?aL ?_
          (case aP => exact k91_mkM _ _ _ (⟨(rd_T91 t288 x14_1).f0, (rd_T91 t288 x14_1).f1⟩ : S91))
          (case aB => exact bl_)
          (case aF => exact (fun k_ hk => .inr ⟨⟨Kd.fresh' (Kd.R_lt (by exact rU_ HO_12.out)) k_ hk, Kd.fresh' (Kd.R_lt (by exact rU_ HO_288002.out)) k_ hk, Kd.freshB (up_ BK292.out) k_ hk⟩, hk⟩))
          (case aO => exact (by exact rU_ (Kd.R_mono UU30.out (fun _ hk => .inl hk))))
          (case aS => exact (below_size bl_))
          (case aL => have := LMc21.out; omega)
          intro v295 w31 ho hb hg hat
          (first | have HS5_ := YtenlceojmjkbkaaW.PrintWords.cell_grown hg (hHeld.2.2.2.2.2) (by first | (rw [add_block]; exact (fun e_ => ((HL293_0.out.1 _ e_.symm).2) rfl)) | (show some (Addr.add _ _).block ≠ _; rw [add_block]; exact (fun e_ => ((HL293_0.out.1 _ e_.symm).2) rfl)) | exact (fun e_ => ((HL293_0.out.1 _ e_.symm).2) rfl)) | have HS5_ := YtenlceojmjkbkaaW.PrintWords.cell_grown hg (cell_unalloc (hHeld.2.2.2.2.2) (by first | (rw [add_block]; exact Kd.S_lt HO_288001.out _ rfl) | (show (Addr.add _ _).block < _; rw [add_block]; exact Kd.S_lt HO_288001.out _ rfl) | exact Kd.S_lt HO_288001.out _ rfl)) (by first | (rw [add_block]; exact (fun e_ => ((HL293_0.out.1 _ e_.symm).2) rfl)) | (show some (Addr.add _ _).block ≠ _; rw [add_block]; exact (fun e_ => ((HL293_0.out.1 _ e_.symm).2) rfl)) | exact (fun e_ => ((HL293_0.out.1 _ e_.symm).2) rfl)))
          rw [← Ny294.out] at ho
          have n0_ := Aside0.mk (Kd.R_grown2 (by exact rU_ HO_12.out) rfl hg (fun k_ e_ => (HL293_0.out.1 k_ e_).1.1))
          have n1_ := Aside0.mk (Kd.R_grown2 (by exact rU_ HO_288002.out) rfl hg (fun k_ e_ => (HL293_0.out.1 k_ e_).1.2.1))
          have n2_ := Aside0.mk (blk_grown (up_ BK279.out) hg (Kd.R_ne HL293_0.out BK279.out (by decide)))
          have n3_ := Aside0.mk (blk_grown (up_ BK287.out) hg (Kd.R_ne HL293_0.out BK287.out (by decide)))
          have n4_ := Aside0.mk (blk_grown (up_ BK292.out) hg (Kd.R_away HL293_0.out (fun _ hk => hk.1.2.2)))
          have n5_ := Aside0.mk (hb)
          have n6_ := Aside0.mk (Kd.H_grown (Kd.H_widen (by repeat (first | exact HH30.out | refine Kd.H_alloc ?_ _ | refine Kd.H_drewN ?_ _ | refine Kd.H_drew ?_))) hg (fun k_ e_ => .inl (UU30.out.1 k_ e_)))
          have n7_ := Aside0.mk (ho)
          clear HO_12
          clear HO_288002
          clear BK279
          clear BK287
          clear BK292
          clear HB
          clear HH30
          clear HO_288001
          clear UU30
          clear HL293_0
          have HO_12 := n0_
          have HO_288002 := n1_
          have BK279 := n2_
          have BK287 := n3_
          have BK292 := n4_
          have HB := n5_
          have HH30 := n6_
          have HO296 := n7_
          clear n0_ n1_ n2_ n3_ n4_ n5_ n6_ n7_
          clear ho hb hg hat
          have p22 : 0 ≤ ((ji18) : Int) := ds_
          have q22 : ((ji18) : Int) < ((x288001_1.length : Int) : Int) := ds_
          replace p22 := eq_true p22
          replace q22 := eq_true q22
          obtain ⟨Ao34, co34, eo34⟩ := Kd.R_slice HO296.out
          (first | subst eo34 | (injection eo34 with f1_ f2_ f3_; have f4_ := f1_.symm; have f5_ := f3_.symm; clear f1_ f2_ f3_; subst f4_; subst f5_))
          obtain ⟨_, _, hraw32, _, _, hcc32, _⟩ := Kd.H_raw HH30.out (ds_) (by have h_ : ((ji18) : Int) < ((x288001_1.length : Int) : Int) := ds_; first | exact h_ | (have e_ := (HN30.out); omega) | simpa using h_)
          obtain ⟨_, hfr32⟩ := Kd.H_at HH30.out (ds_) (by have h_ : ((ji18) : Int) < ((x288001_1.length : Int) : Int) := ds_; first | exact h_ | (have e_ := (HN30.out); omega) | simpa using h_)
          have hx32_0 := hcc32 0 _ rfl
          have hf32_0 := hfr32 0
          (try simp only [Nat.add_zero] at hx32_0 hf32_0)
          (try rw [show ((Kd.slice 91 k91)).sz = 1 from rfl, Nat.mul_one] at hx32_0)
          (try rw [show ((Kd.slice 91 k91)).sz = 1 from rfl, Nat.mul_one] at hf32_0)
          have HP32 := Kd.S_seg0 HH30.out (ds_) (by have h_ : ((ji18) : Int) < ((x288001_1.length : Int) : Int) := ds_; first | exact h_ | (have e_ := (HN30.out); omega) | simpa using h_) (seg := [.slice Ao34 y294.length co34]) (j := 0) (show 1 ≤ 1 from by decide) (x' := y294) (Kd.M_row HO296.out) (fun _ hk => hk)
          (try simp only [show ((Kd.slice 91 k91)).sz = 1 from rfl, Nat.mul_one, Nat.add_zero] at HP32)
          clear hcc32 hfr32
          have HNB279_go30 := Aside0.mk (show gb279 ≠ go30 from by have h_ := Kd.R_ne hraw32 BK279.out (by decide); intro e_; exact h_ (by rw [e_]; rfl))
          have HNB287_go30 := Aside0.mk (show gb287 ≠ go30 from by have h_ := Kd.R_ne hraw32 BK287.out (by decide); intro e_; exact h_ (by rw [e_]; rfl))
          have HNB292_go30 := Aside0.mk (show gb292 ≠ go30 from by have h_ := Kd.R_ne hraw32 BK292.out (by decide); intro e_; exact h_ (by rw [e_]; rfl))
          have HS32 := HP32.1
          rw [← Ny297.out] at HS32
          have HQ32 := Aside0.mk HS32
          obtain ⟨_, hgg32⟩ := Kd.R_typed hraw32 go30 rfl
          have GG32_ := Aside0.mk hgg32
          clear HP32 HS32 hgg32
          refine hK.out _ _ ⟨(blk_cell BK287.out 0).trans rfl, (blk_cell BK287.out 1).trans rfl, (blk_cell BK287.out 2).trans rfl, (blk_cell BK292.out 0).trans rfl, (blk_cell BK292.out 1).trans rfl, HS5_⟩ (fun hHeld => ?_)
          clear hK K
          refine norm_ (a' := ?_) ?_ ?_
          rotate_left
          ·
           show Act.put _ (some 37) _ = _
           simp only [Act.put, List.setIfInBounds_toArray, List.set_cons_zero, List.set_cons_succ, i64_w, i32_w]
           rfl
          refine pu_ 15 38 HT_ ?_
          refine last_ (i := 16) (N := none) #[true, true, true, true, true, true, true, true, true, true, true, true, true, true, true, true, true] rfl rfl (one_of HT_.out (by kernel_rfl)) (by decide) (fun K hK => ?_)
          refine skip_ (w1 := ?_) (by rfl) rfl ?_ ?_
          rotate_left
          ·
           go_simp
           rfl
          refine hK.out _ _ ?_
          clear hK K
          refine done_ (done_of HT_.out (by kernel_rfl)) ?_
          try go_wp2
          go_roundg k1
          case measure => have := HK1.out; omega
          case rel => exact ⟨(wrap64 (x14_1 + 1)), (y297), (x288002_1), (.slice (some ⟨go30, 0, none⟩) x288001_1.length co29), (u288002), (by first | rfl | (simp; done) | (simp [*]; done)), H', ⟨by have := HK1.out; omega⟩, ⟨by (with_reducible repeat (first | apply Kd.R_alloc | apply Kd.R_drewN | apply Kd.R_drew)); exact Kd.R_mono (Kd.R_far (p := ⟨go30, ((ji18) : Int).toNat, none⟩) (Kd.R_types HO_12.out GG32_.out (by decide)) (fun _ hk => hk.2) (.slice Ao34 y294.length co34)) (fun _ hk => hk.1.1)⟩, ⟨by (with_reducible repeat (first | apply Kd.S_alloc | apply Kd.S_drewN | apply Kd.S_drew)); exact Kd.S_mono HQ32.out (fun _ hk => ⟨hk.1, hk.2.1⟩)⟩, ⟨by (with_reducible repeat (first | apply Kd.R_alloc | apply Kd.R_drewN | apply Kd.R_drew)); exact Kd.R_mono (Kd.R_far (p := ⟨go30, ((ji18) : Int).toNat, none⟩) (Kd.R_types HO_288002.out GG32_.out (by decide)) (fun _ hk => hk.2) (.slice Ao34 y294.length co34)) (fun _ hk => hk.1.1)⟩, ⟨by (with_reducible repeat (first | refine blk_drewN ?_ _ | refine blk_drew ?_ | refine blk_alloc ?_ _)); refine blk_far ?_ HNB279_go30.out _; (with_reducible repeat (first | refine blk_drewN ?_ _ | refine blk_drew ?_ | refine blk_alloc ?_ _)); exact BK279.out⟩, ⟨by (with_reducible repeat (first | refine blk_drewN ?_ _ | refine blk_drew ?_ | refine blk_alloc ?_ _)); refine blk_far ?_ HNB287_go30.out _; (with_reducible repeat (first | refine blk_drewN ?_ _ | refine blk_drew ?_ | refine blk_alloc ?_ _)); exact BK287.out⟩, ⟨by repeat (first | (with_reducible first | exact HB.out | apply below_alloc | apply pw_below_drewN | apply below_drew1 | refine below_set ?_ GB30.out | refine below_set ?_ GE279.out | refine below_set ?_ GE287.out | refine below_set ?_ GE292.out) | exact HB.out)⟩⟩
         ·
          rw [if_neg c21] at H
          exact absurd H (by simp)
        ·
         rw [if_neg c20] at H
         exact absurd H (by simp)
       ·
        rw [if_neg c19] at H
        exact absurd H (by simp)
      ·
       rw [if_neg c17] at H
       have c17b0 : decide (((rd_T91 t288 x14_1).f1) ≤ (wrap64 (a0 + 16))) = false := decide_eq_false c17
       clear c17
       by_cases c35 : x288002_1.length < 8796093022208
       ·
        rw [if_pos c35] at H
        have LMc35 := Aside0.mk c35
        clear c35
        obtain ⟨y298, hy298⟩ : ∃ y_ : List (S91), y_ = (x288002_1 ++ [(⟨(rd_T91 t288 x14_1).f0, (rd_T91 t288 x14_1).f1⟩ : S91)]) := ⟨_, rfl⟩
        replace H : (impl_wheelOf.l0 k1 a0 t288 (t288.length : Int) (wrap64 (x14_1 + 1)) t280 x288001_1 y298) = some (r1, r2, r3) := by first | (rw [hy298]; with_reducible exact H) | (have H2_ := (Option.bind_some _ _).symm.trans H; rw [hy298]; with_reducible exact H2_) | (have H2_ := (Option.bind_some _ _).symm.trans H; with_reducible exact H2_) | with_reducible exact H | (rw [hy298]; exact H) | exact H
        have Ny298 := Aside0.mk hy298
        clear hy298
        have H' := Aside0.mk H
        clear H
        have p291 : 0 ≤ (x14_1 : Int) := ds_
        have q291 : x14_1 < (t288.length : Int) := ds_
        obtain ⟨ad291, e291, hx291_0, hx291_1⟩ := at_T91 (Kd.R_reads' HO_12.out).2.2 x14_1 p291 q291
        cases e291
        replace p291 := eq_true p291
        replace q291 := eq_true q291
        go_wp2_with (first | ((with_reducible refine gate_dst (N := 7) rfl ?_); refine box_event ?hg (N := 7) ?hd (cs := #[.int .i64 0, .int .i64 0]) (t := 91) ?hr ?_; (case hd => rfl); (case hg => rfl); (case hr => first | (go_simp; done) | (go_simp; rfl)); intro gb292 hg w36 hbox hb; have n0_ := Aside0.mk (Kd.R_below (Kd.R_elderB (by exact rU_ HO_12.out) gb292 (Nat.le_of_eq hg.symm)) hb); have n1_ := Aside0.mk (Kd.S_below (Kd.S_elderB (by (with_reducible repeat (first | apply Kd.S_alloc | apply Kd.S_drewN | apply Kd.S_drew)); exact HO_288001.out) gb292 (Nat.le_of_eq hg.symm)) hb); have n2_ := Aside0.mk (Kd.R_below (Kd.R_elderB (by exact rU_ HO_288002.out) gb292 (Nat.le_of_eq hg.symm)) hb); have n3_ := Aside0.mk (blk_below (up_ BK279.out) hb); have n4_ := Aside0.mk (blk_below (up_ BK287.out) hb); have n5_ := Aside0.mk (below_step bl_ hb); have n6_ := Aside0.mk (hbox); have n7_ := Aside0.mk ((by rw [hg]; exact (below_size bl_) : w.heap.size ≤ gb292)); have n8_ := Aside0.mk ((by rw [hg]; exact (below_size bl_) : w.heap.size ≤ gb292)); have n9_ := Aside0.mk ((by rw [hg]; exact Nat.ne_of_lt (blk_lt (up_ BK279.out)) : gb279 ≠ gb292)); have n10_ := Aside0.mk ((by rw [hg]; exact Nat.ne_of_gt (blk_lt (up_ BK279.out)) : gb292 ≠ gb279)); have n11_ := Aside0.mk ((by rw [hg]; exact Nat.ne_of_lt (blk_lt (up_ BK287.out)) : gb287 ≠ gb292)); have n12_ := Aside0.mk ((by rw [hg]; exact Nat.ne_of_gt (blk_lt (up_ BK287.out)) : gb292 ≠ gb287)); clear HO_12; clear HO_288001; clear HO_288002; clear BK279; clear BK287; clear HB; have HO_12 := n0_; have HO_288001 := n1_; have HO_288002 := n2_; have BK279 := n3_; have BK287 := n4_; have HB := n5_; have BK292 := n6_; have GW292 := n7_; have GE292 := n8_; have NB279_292 := n9_; have NB292_279 := n10_; have NB287_292 := n11_; have NB292_287 := n12_; clear n0_ n1_ n2_ n3_ n4_ n5_ n6_ n7_ n8_ n9_ n10_ n11_ n12_; clear hb hbox hg; have hnb37 := NB292_279.out; have hnc37 := NB279_292.out; have hnb38 := NB292_287.out; have hnc38 := NB287_292.out; have hcz39_0 : w36.cell? ⟨gb292, 0, none⟩ = some (.int .i64 0) := (blk_cell BK292.out 0).trans rfl; have hcz39_1 : w36.cell? ⟨gb292, 1, none⟩ = some (.int .i64 0) := (blk_cell BK292.out 1).trans rfl; have hfz39_0 := blk_frozen BK292.out 0; have hfz39_1 := blk_frozen BK292.out 1; have hnb40 := NB287_279.out; have hnc40 := NB279_287.out; have hcz41_0 : w36.cell? ⟨gb287, 0, none⟩ = some (.int .i64 t280) := (blk_cell BK287.out 0).trans rfl; have hcz41_1 : w36.cell? ⟨gb287, 1, none⟩ = some (u288001) := (blk_cell BK287.out 1).trans rfl; have hcz41_2 : w36.cell? ⟨gb287, 2, none⟩ = some (u288002) := (blk_cell BK287.out 2).trans rfl; have hfz41_0 := blk_frozen BK287.out 0; have hfz41_1 := blk_frozen BK287.out 1; have hfz41_2 := blk_frozen BK287.out 2) | ((with_reducible refine gate_builtin (b := .append) (xs := #[.tmp 40, .tmp 42]) rfl ?_); at_builtin; refine Kd.R_append k91 (w0 := w) w.heap.size rfl (.tmp 40) (.tmp 42) 43 91 (.agg #[(.int .i64 0), (.int .i64 0)]) 16 rfl Try.underlying43 info91 rfl (by decide) (by omega) u288002 x288002_1 (⟨(rd_T91 t288 x14_1).f0, (rd_T91 t288 x14_1).f1⟩ : S91) [.int .i64 ((rd_T91 t288 x14_1).f0), .int .i64 ((rd_T91 t288 x14_1).f1)] (fun k_ => some k_ ≠ (.slice (some ad291) t288.length co13 : Value).ownBlock ∧ k_ ≠ gb292) (fun _ => False) rfl (by first | (go_simp; done) | (go_simp; rfl)) ?aP (fun _ hk => hk.elim) ?aF ?aO ?aB ?aS ?aL ?_; (case aP => exact k91_mkM _ _ _ (⟨(rd_T91 t288 x14_1).f0, (rd_T91 t288 x14_1).f1⟩ : S91)); (case aB => exact bl_); (case aF => exact (fun k_ hk => ⟨Kd.fresh' (Kd.R_lt (by exact rU_ ((Kd.R_mono (Kd.R_far (p := ⟨gb292, 1, none⟩) (Kd.R_far (p := ⟨gb292, 0, none⟩) (Kd.R_mono HO_12.out (fun k_ hk => (⟨hk, hk.2⟩ : _ ∧ k_ ≠ gb292))) (fun _ hk => hk.2) (.int .i64 ((rd_T91 t288 x14_1).f0))) (fun _ hk => hk.2) (.int .i64 ((rd_T91 t288 x14_1).f1))) (fun _ h_ => h_.1))))) k_ hk, Kd.freshB (g := gb292) (o := .cells #[.int .i64 ((rd_T91 t288 x14_1).f0), .int .i64 ((rd_T91 t288 x14_1).f1)] 91 (0, 0)) (by (with_reducible repeat (first | refine blk_drewN ?_ _ | refine blk_drew ?_ | refine blk_alloc ?_ _)); refine blk_put (cs := #[.int .i64 ((rd_T91 t288 x14_1).f0), .int .i64 0]) ?_ 1 _ rfl; (with_reducible repeat (first | refine blk_drewN ?_ _ | refine blk_drew ?_ | refine blk_alloc ?_ _)); refine blk_put (cs := #[.int .i64 0, .int .i64 0]) ?_ 0 _ rfl; (with_reducible repeat (first | refine blk_drewN ?_ _ | refine blk_drew ?_ | refine blk_alloc ?_ _)); exact BK292.out) k_ hk⟩)); (case aO => exact (by exact rU_ (Kd.R_mono (Kd.R_far (p := ⟨gb292, 1, none⟩) (Kd.R_far (p := ⟨gb292, 0, none⟩) (Kd.R_mono HO_288002.out (fun k_ hk => (⟨hk, hk.2⟩ : _ ∧ k_ ≠ gb292))) (fun _ hk => hk.2) (.int .i64 ((rd_T91 t288 x14_1).f0))) (fun _ hk => hk.2) (.int .i64 ((rd_T91 t288 x14_1).f1))) (fun _ hk => ⟨hk.1.1, hk.1.2⟩)))); (case aS => exact (below_size bl_)); (case aL => have := LMc35.out; omega); intro v299 w42 ho hb hg hat; rw [← Ny298.out] at ho; have n0_ := Aside0.mk (Kd.R_after (ok := (fun k_ => k_ ≠ gb292)) (by exact rU_ (Kd.R_mono (Kd.R_far (p := ⟨gb292, 1, none⟩) (Kd.R_far (p := ⟨gb292, 0, none⟩) (Kd.R_mono HO_12.out (fun k_ hk => (⟨hk, hk.2⟩ : _ ∧ k_ ≠ gb292))) (fun _ hk => hk.2) (.int .i64 ((rd_T91 t288 x14_1).f0))) (fun _ hk => hk.2) (.int .i64 ((rd_T91 t288 x14_1).f1))) (fun _ hk => ⟨hk.1.2, hk.1.1⟩))) hg hat); have n1_ := Aside0.mk (Kd.S_after (ok := (fun k_ => some k_ ≠ (.slice (some ad291) t288.length co13 : Value).ownBlock ∧ k_ ≠ gb292)) (by (with_reducible repeat (first | apply Kd.S_alloc | apply Kd.S_drewN | apply Kd.S_drew)); exact Kd.S_mono (Kd.S_far (p := ⟨gb292, 1, none⟩) (Kd.S_far (p := ⟨gb292, 0, none⟩) (Kd.S_mono HO_288001.out (fun k_ hk => (⟨hk, hk.2⟩ : _ ∧ k_ ≠ gb292))) (fun _ hk => hk.2) (.int .i64 ((rd_T91 t288 x14_1).f0))) (fun _ hk => hk.2) (.int .i64 ((rd_T91 t288 x14_1).f1))) (fun _ hk => ⟨⟨hk.1.1.1, hk.1.2⟩, hk.1.1.2⟩)) hg hat); have n2_ := Aside0.mk (blk_grown (g := gb279) (o := .cells #[.int .i64 0, .slice none 0 0, .slice none 0 0] 45 (0, 0)) (by (with_reducible repeat (first | refine blk_drewN ?_ _ | refine blk_drew ?_ | refine blk_alloc ?_ _)); refine blk_far ?_ NB279_292.out _; (with_reducible repeat (first | refine blk_drewN ?_ _ | refine blk_drew ?_ | refine blk_alloc ?_ _)); refine blk_far ?_ NB279_292.out _; (with_reducible repeat (first | refine blk_drewN ?_ _ | refine blk_drew ?_ | refine blk_alloc ?_ _)); exact BK279.out) hg (Kd.R_ne HO_288002.out BK279.out (by decide))); have n3_ := Aside0.mk (blk_grown (g := gb287) (o := .cells #[.int .i64 t280, u288001, u288002] 45 (0, 0)) (by (with_reducible repeat (first | refine blk_drewN ?_ _ | refine blk_drew ?_ | refine blk_alloc ?_ _)); refine blk_far ?_ NB287_292.out _; (with_reducible repeat (first | refine blk_drewN ?_ _ | refine blk_drew ?_ | refine blk_alloc ?_ _)); refine blk_far ?_ NB287_292.out _; (with_reducible repeat (first | refine blk_drewN ?_ _ | refine blk_drew ?_ | refine blk_alloc ?_ _)); exact BK287.out) hg (Kd.R_ne HO_288002.out BK287.out (by decide))); have n4_ := Aside0.mk (blk_grown (g := gb292) (o := .cells #[.int .i64 ((rd_T91 t288 x14_1).f0), .int .i64 ((rd_T91 t288 x14_1).f1)] 91 (0, 0)) (by (with_reducible repeat (first | refine blk_drewN ?_ _ | refine blk_drew ?_ | refine blk_alloc ?_ _)); refine blk_put (cs := #[.int .i64 ((rd_T91 t288 x14_1).f0), .int .i64 0]) ?_ 1 _ rfl; (with_reducible repeat (first | refine blk_drewN ?_ _ | refine blk_drew ?_ | refine blk_alloc ?_ _)); refine blk_put (cs := #[.int .i64 0, .int .i64 0]) ?_ 0 _ rfl; (with_reducible repeat (first | refine blk_drewN ?_ _ | refine blk_drew ?_ | refine blk_alloc ?_ _)); exact BK292.out) hg (Kd.R_away HO_288002.out (fun _ hk => hk.2))); have n5_ := Aside0.mk (hb); have n6_ := Aside0.mk (ho); clear HO_12; clear HO_288001; clear BK279; clear BK287; clear BK292; clear HB; clear HO_288002; have HO_12 := n0_; have HO_288001 := n1_; have BK279 := n2_; have BK287 := n3_; have BK292 := n4_; have HB := n5_; have HO300 := n6_; clear n0_ n1_ n2_ n3_ n4_ n5_ n6_; clear ho hb hg hat; obtain ⟨Ao43, co43, eo43⟩ := Kd.R_slice HO300.out; subst eo43; have hcz44_0 : w42.cell? ⟨gb287, 0, none⟩ = some (.int .i64 t280) := (blk_cell BK287.out 0).trans rfl; have hcz44_1 : w42.cell? ⟨gb287, 1, none⟩ = some (u288001) := (blk_cell BK287.out 1).trans rfl; have hcz44_2 : w42.cell? ⟨gb287, 2, none⟩ = some (u288002) := (blk_cell BK287.out 2).trans rfl; have hfz44_0 := blk_frozen BK287.out 0; have hfz44_1 := blk_frozen BK287.out 1; have hfz44_2 := blk_frozen BK287.out 2))
        go_roundg k1
        case measure => have := HK1.out; omega
        case rel => exact ⟨(wrap64 (x14_1 + 1)), (x288001_1), (y298), (u288001), (.slice Ao43 y298.length co43), (by first | rfl | (simp; done) | (simp [*]; done)), H', ⟨by have := HK1.out; omega⟩, ⟨by (with_reducible repeat (first | apply Kd.R_alloc | apply Kd.R_drewN | apply Kd.R_drew)); exact Kd.R_mono (Kd.R_far (p := ⟨gb287, 2, none⟩) (Kd.R_types HO_12.out BK287.out (by decide)) (fun _ hk => hk.2) (.slice Ao43 y298.length co43)) (fun _ hk => hk.1.2)⟩, ⟨by (with_reducible repeat (first | apply Kd.S_alloc | apply Kd.S_drewN | apply Kd.S_drew)); exact Kd.S_mono (Kd.S_far (p := ⟨gb287, 2, none⟩) (Kd.S_types HO_288001.out BK287.out (by decide)) (fun _ hk => hk.2) (.slice Ao43 y298.length co43)) (fun _ hk => ⟨hk.1.1.1, hk.1.2⟩)⟩, ⟨by (with_reducible repeat (first | apply Kd.R_alloc | apply Kd.R_drewN | apply Kd.R_drew)); exact Kd.R_mono (Kd.R_far (p := ⟨gb287, 2, none⟩) (Kd.R_types HO300.out BK287.out (by decide)) (fun _ hk => hk.2) (.slice Ao43 y298.length co43)) (fun _ hk => hk.1.1)⟩, ⟨by (with_reducible repeat (first | refine blk_drewN ?_ _ | refine blk_drew ?_ | refine blk_alloc ?_ _)); refine blk_far ?_ NB279_287.out _; (with_reducible repeat (first | refine blk_drewN ?_ _ | refine blk_drew ?_ | refine blk_alloc ?_ _)); exact BK279.out⟩, ⟨by (with_reducible repeat (first | refine blk_drewN ?_ _ | refine blk_drew ?_ | refine blk_alloc ?_ _)); refine blk_put (cs := #[.int .i64 t280, u288001, u288002]) ?_ 2 _ rfl; (with_reducible repeat (first | refine blk_drewN ?_ _ | refine blk_drew ?_ | refine blk_alloc ?_ _)); exact BK287.out⟩, ⟨bl_⟩⟩
       ·
        rw [if_neg c35] at H
        exact absurd H (by simp)
     ·
      rw [if_neg c16] at H
      exact absurd H (by simp)
    ·
     rw [if_neg c15] at H
     exact absurd H (by simp)
   ·
    rw [if_neg c14] at H
    have c14b0 : decide (x14_1 < (t288.length : Int)) = false := decide_eq_false c14
    clear c14
    replace H := Option.bind_eq_some_iff.mp H
    obtain ⟨t301, A450, H⟩ := H
    replace H : (some (t280, x288001_1, t301)) = some (r1, r2, r3) := H
    have A45 := Aside0.mk A450
    clear A450
    simp only [Option.some.injEq, Prod.mk.injEq] at H
    obtain ⟨rfl, rfl, rfl⟩ := H
    have hnb46 := NB287_279.out
    have hnc46 := NB279_287.out
    have hcz47_0 : wr.cell? ⟨gb287, 0, none⟩ = some (.int .i64 t280) := (blk_cell BK287.out 0).trans rfl
    have hcz47_1 : wr.cell? ⟨gb287, 1, none⟩ = some (u288001) := (blk_cell BK287.out 1).trans rfl
    have hcz47_2 : wr.cell? ⟨gb287, 2, none⟩ = some (u288002) := (blk_cell BK287.out 2).trans rfl
    have hfz47_0 := blk_frozen BK287.out 0
    have hfz47_1 := blk_frozen BK287.out 1
    have hfz47_2 := blk_frozen BK287.out 2
    obtain ⟨Ao48, co48, eo48⟩ := Kd.R_slice HO_288002.out
    subst eo48
    go_wp2_with (first | ((with_reducible refine gate_callee (f := 118) rfl ?_); refine gL_ (some 48) Try.func118 #[.slice Ao48 x288002_1.length co48, .func (.func 70) #[] #[]] ?_; (with_reducible refine (impl_Timer_118.calls (fun k_ => some k_ = (.slice Ao48 x288002_1.length co48 : Value).ownBlock) (.slice Ao48 x288002_1.length co48) x288002_1 t301 w _ ?side1 ?side2 A45.out).mono ?_); (case side1 => repeat (first | (with_reducible first | exact HB.out | apply below_alloc | apply pw_below_drewN | apply below_drew1 | refine below_set ?_ GE279.out | refine below_set ?_ GE287.out) | exact HB.out)); (case side2 => exact Kd.R_tight rfl HO_288002.out); rintro e w49 ⟨rfl, hy0, hb, hkp⟩; refine ⟨_, rfl, ?_⟩; have n0_ := Aside0.mk (Kd.R_mono (ok' := fun k_ => some k_ ≠ (.slice Ao48 x288002_1.length co48 : Value).ownBlock) (Kd.R_keptB (HO_12.out) hkp (fun k_ hk_ hs_ => (hk_) hs_)) (fun k_ hk_ => hk_.1)); have n1_ := Aside0.mk (Kd.S_mono (ok' := fun k_ => some k_ ≠ (.slice Ao13 t288.length co13 : Value).ownBlock ∧ some k_ ≠ (.slice Ao48 x288002_1.length co48 : Value).ownBlock) (Kd.S_keptB (HO_288001.out) hkp (fun k_ hk_ hs_ => (hk_.2) hs_)) (fun k_ hk_ => ⟨hk_.1.1, hk_.1.2⟩)); have n2_ := Aside0.mk (Kd.R_reok rfl hy0 (fun k_ e_ => HO_288002.out.1 k_ e_)); have n3_ := Aside0.mk (blk_kept (by exact up_ BK279.out) hkp (fun hs_ => (fun e_ => (Kd.R_ne HO_288002.out BK279.out (by decide)) e_) hs_)); have n4_ := Aside0.mk (blk_kept (by exact up_ BK287.out) hkp (fun hs_ => (fun e_ => (Kd.R_ne HO_288002.out BK287.out (by decide)) e_) hs_)); have n5_ := Aside0.mk (hb); clear HO_12; clear HO_288001; clear HO_288002; clear BK279; clear BK287; clear HB; have HO_12 := n0_; have HO_288001 := n1_; have HO_288002 := n2_; have BK279 := n3_; have BK287 := n4_; have HB := n5_; clear n0_ n1_ n2_ n3_ n4_ n5_; (try clear hb); (try clear hkp); (try clear hy0); have hcz50_0 : w49.cell? ⟨gb287, 0, none⟩ = some (.int .i64 t280) := (blk_cell BK287.out 0).trans rfl; have hcz50_1 : w49.cell? ⟨gb287, 1, none⟩ = some (u288001) := (blk_cell BK287.out 1).trans rfl; have hcz50_2 : w49.cell? ⟨gb287, 2, none⟩ = some (.slice Ao48 x288002_1.length co48) := (blk_cell BK287.out 2).trans rfl; have hfz50_0 := blk_frozen BK287.out 0; have hfz50_1 := blk_frozen BK287.out 1; have hfz50_2 := blk_frozen BK287.out 2; have hcz51_0 : w49.cell? ⟨gb279, 0, none⟩ = some (.int .i64 0) := (blk_cell BK279.out 0).trans rfl; have hcz51_1 : w49.cell? ⟨gb279, 1, none⟩ = some (.slice none 0 0) := (blk_cell BK279.out 1).trans rfl; have hcz51_2 : w49.cell? ⟨gb279, 2, none⟩ = some (.slice none 0 0) := (blk_cell BK279.out 2).trans rfl; have hfz51_0 := blk_frozen BK279.out 0; have hfz51_1 := blk_frozen BK279.out 1; have hfz51_2 := blk_frozen BK279.out 2; obtain ⟨Ao52, co52, eo52⟩ := Kd.S_slice HO_288001.out; subst eo52))
    refine bodyPost_ret (results_cell_row rfl _ _ gb279 45 #[.int .i64 t280, .slice Ao52 x288001_1.length co52, .slice Ao48 x288002_1.length co48] (0, 0) _ rfl (by (with_reducible repeat (first | refine blk_drewN ?_ _ | refine blk_drew ?_ | refine blk_alloc ?_ _)); refine blk_put (cs := #[.int .i64 t280, .slice Ao52 x288001_1.length co52, .slice none 0 0]) ?_ 2 _ rfl; (with_reducible repeat (first | refine blk_drewN ?_ _ | refine blk_drew ?_ | refine blk_alloc ?_ _)); refine blk_put (cs := #[.int .i64 t280, .slice none 0 0, .slice none 0 0]) ?_ 1 _ rfl; (with_reducible repeat (first | refine blk_drewN ?_ _ | refine blk_drew ?_ | refine blk_alloc ?_ _)); refine blk_put (cs := #[.int .i64 0, .slice none 0 0, .slice none 0 0]) ?_ 0 _ rfl; (with_reducible repeat (first | refine blk_drewN ?_ _ | refine blk_drew ?_ | refine blk_alloc ?_ _)); exact BK279.out) Try.underlying45 rfl (by kernel_rfl)) rfl ?_
    exact ⟨_, _, by first | rfl | (simp [errW_none, errW_some] <;> rfl) | (simp [*, errW_none, errW_some] <;> rfl), by (with_reducible repeat (first | apply Kd.S_alloc | apply Kd.S_drewN | apply Kd.S_drew)); exact Kd.S_mono (Kd.S_far (p := ⟨gb279, 2, none⟩) (Kd.S_far (p := ⟨gb279, 1, none⟩) (Kd.S_far (p := ⟨gb279, 0, none⟩) (Kd.S_types HO_288001.out BK279.out (by decide)) (fun _ hk => hk.2) (.int .i64 t280)) (fun _ hk => hk.2) (.slice Ao52 x288001_1.length co52)) (fun _ hk => hk.2) (.slice Ao48 x288002_1.length co48)) (fun _ hk => hk.1.2), by (with_reducible repeat (first | apply Kd.R_alloc | apply Kd.R_drewN | apply Kd.R_drew)); exact Kd.R_mono (Kd.R_far (p := ⟨gb279, 2, none⟩) (Kd.R_far (p := ⟨gb279, 1, none⟩) (Kd.R_far (p := ⟨gb279, 0, none⟩) (Kd.R_types HO_288002.out BK279.out (by decide)) (fun _ hk => hk.2) (.int .i64 t280)) (fun _ hk => hk.2) (.slice Ao52 x288001_1.length co52)) (fun _ hk => hk.2) (.slice Ao48 x288002_1.length co48)) (fun _ hk => trivial), bl_⟩

end Go.Proofs.Ytenlceojmjkbkaa.XFnExactWheelDrop
