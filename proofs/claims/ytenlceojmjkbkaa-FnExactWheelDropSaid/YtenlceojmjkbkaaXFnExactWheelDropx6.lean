/- Functions that FnExactWheelDrop comes to, as Lean functions with their contracts: written by the prover's own program (wip/tpl/myprint.py) over the kit's printer, some contracts by hand. Conditions: none. -/
import Derived.Test.YtenlceojmjkbkaaXFnExactWheelDropx0
import Derived.Test.YtenlceojmjkbkaaXFnExactWheelDropx4
import Derived.Test.YtenlceojmjkbkaaXFnExactWheelDropx5
namespace Go.Proofs.Ytenlceojmjkbkaa.XFnExactWheelDrop
open Go.RowKit Go.Proofs.YtenlceojmjkbkaaW.PrintWords Go.Proofs.YtenlceojmjkbkaaW.PrintLast Go.Proofs.YtenlceojmjkbkaaW.PrintMore
attribute [local go_sem] max2_int min2_int max_two min_two max_three min_three max_four min_four   -- for this text's walks alone
set_option linter.unusedVariables false
set_option linter.unusedSimpArgs false

/-! ### impl_Timer_120: function 120 -/
/-- append(s, make([]T, m)...) where there is no room: a new row. -/
theorem run_zeros_grow {P : Program} (w : World) (t ti ty e : TypeId) (i : TypeInfo) (z : Value) (size bytes : Nat) (ht : P.underlying t = some (.slice e)) {k : IntKind} (hti : P.underlying ti = some (.int k)) (hi : P.info? e = some i) (hz : i.zero = some z)
  (hsize : i.size = size) (hby : i.bytes = bytes) (hzs : z.cells.size = size) (hsz : 0 < size) (hb0 : 0 < bytes)
  (A : Option Addr) (n cap : Nat) (xs : List Value) (kx : IntKind) (m : Nat) (hm : 0 < m) (hcap : cap < n + m) (hbytes : (n + m) * bytes ≤ 140737488355328) (hfo : (Builtin.firstCells size n (.slice A n cap)).run P w.drew = .ok xs.toArray w.drew) :
  (Builtin.append_ #[t, ti] ty #[.slice A n cap, .int kx m]).run P w =
   .ok (.slice (some ⟨w.heap.size, 0, none⟩) (n + m) (grownCap w (n + m) cap e)) (w.drew.alloc (.cells (xs.toArray ++ Builtin.zeroCells z.cells m ++ Builtin.zeroCells z.cells (grownCap w (n + m) cap e - (n + m))) e)) := by
 subst hsize
 subst hby
 have hle : n + m ≤ 140737488355328 := Nat.le_trans (Nat.le_mul_of_pos_right _ hb0) hbytes
 have hw : IntKind.i64.wrap (m : Int) = m := by rw [IntKind.wrap_i64]; omega
 have hneg : ¬ ((m : Int) < 0) := by omega
 have hmb : m * i.bytes ≤ 140737488355328 := Nat.le_trans (Nat.mul_le_mul_right _ (Nat.le_add_left m n)) hbytes
 have hbig : ¬ (281474976710656 < (m : Int) * (i.bytes : Int)) := by
  rw [← Int.natCast_mul]
  omega
 have hsn : i.size ≠ 0 := by omega
 have hn : ¬ (n + m ≤ cap) := by omega
 have h63' : ¬ (9223372036854775807 < ((n : Int) + (m : Int))) := by omega
 have hfit := growslice_fits hcap hbytes
 have h48' : ¬ (281474976710656 < Builtin.nextslicecap (n + m) cap * i.bytes) := by omega
 have hmz : ¬ (m * i.size = 0) := Nat.mul_ne_zero (by omega) hsn
 obtain ⟨news, hnews⟩ : ∃ news, news = (Builtin.zeroCells z.cells m).toList := ⟨_, rfl⟩
 have hna : Builtin.zeroCells z.cells m = news.toArray := by rw [hnews]
 simp [Builtin.append_, run_underlying ht, run_underlying hti, sizeOf, typeInfo, zeroValue, hi, hz, asInt, asIntOf, hw, hneg, hbig, hn, h63', h48', Question.forced, hfo, newRow, grownCap, hmz, hna]
 congr 2
 apply Array.ext'
 simp [List.append_assoc]
set_option maxHeartbeats 8000000 in
set_option maxRecDepth 100000 in
/-- slices.Grow of no row. -/
theorem grow_calls (m : Nat) (hm : m ≤ 5000000000000) (w : World) :
  Calls Try.prog 146 #[.slice none 0 0, .int .i64 (m : Int)] w fun e w' => ∃ v, e = .returned v ∧ k91.R 91 w' w.heap.size (fun _ => True) v [] ∧ Below w.heap.size w w' := by
 have hu43 := Try.underlying43
 by_cases h0 : m = 0
 ·
  subst h0
  go_enter Try.func146, Try.ntmps146
  go_wp2
  go_ret
  exact ⟨_, rfl, Kd.R_nil _ _ _ _ _, Below.refl _ _⟩
 ·
  obtain ⟨i0, hi0, hz⟩ := Option.map_eq_some_iff.1 info91
  simp only [Prod.mk.injEq] at hz
  have hfo : (Builtin.firstCells 2 0 (.slice none 0 0)).run Try.prog w.drew = .ok ([] : List Value).toArray w.drew := by
   simp [Builtin.firstCells]
  have hap := fun ty => run_zeros_grow w 43 3 ty 91 i0 _ 2 16 Try.underlying43 Try.underlying3 hi0 hz.1 hz.2.1 hz.2.2 rfl (by omega) (by omega) none 0 0 [] .i64 m (by omega) (by omega) (by omega) hfo
  rw [Nat.zero_add] at hap
  have hgc : m ≤ grownCap w m 0 91 := grownCap_ge w _ _ _
  have hgm : grownCap w m 0 91 ≤ maxLen := grownCap_le_maxLen w _ _ _ (by simp only [maxLen]; omega)
  generalize grownCap w m 0 91 = gc at hap hgc hgm
  obtain ⟨cur0, hcur0⟩ : ∃ cur0, cur0 = ([] : List Value).toArray ++ Builtin.zeroCells (Value.agg #[Value.int IntKind.i64 0, Value.int IntKind.i64 0]).cells m ++ Builtin.zeroCells (Value.agg #[Value.int IntKind.i64 0, Value.int IntKind.i64 0]).cells (gc - m) := ⟨_, rfl⟩
  rw [← hcur0] at hap
  have hc0s : cur0.size = gc * 2 := by
   rw [hcur0]
   simp [size_zeroCells, Value.cells]
   omega
  clear hcur0
  have HR := Aside0.mk (show k91.R 91 (w.drew.alloc (.cells cur0 91)) w.heap.size (fun _ => True) (.slice (some ⟨w.heap.size, 0, none⟩) 0 gc) [] from
   ⟨fun _ _ => trivial, [], ⟨rfl, .inr ⟨w.heap.size, gc, cur0, rfl, Nat.le_refl _, heap_alloc_new w.drew _, Nat.zero_le _, hgm, hc0s, by simp⟩⟩, Reps.none _ _⟩)
  have HB := Aside0.mk (show Below w.heap.size w (w.drew.alloc (.cells cur0 91)) from (below_drew (Below.refl _ w)).alloc (Nat.le_refl _) _)
  clear hz hi0 hfo hgm hc0s
  have hp : (0 : Int) < (m : Int) := by omega
  go_enter Try.func146, Try.ntmps146
  go_wp2_with (at_builtin; go_loud (refine Lib.wpList_append_run _ rfl _ _ 43 3 rfl _ _ rfl rfl _ _ (hap _) ?_))
  go_ret
  exact ⟨_, rfl, HR.out, HB.out⟩

theorem flat_take (ls : List (List S91)) {i : Nat} (h : i < ls.length) : (ls.take (i + 1)).flatten = (ls.take i).flatten ++ rd_L4 ls (i : Int) := by
 rw [List.take_succ_eq_append_getElem h, List.flatten_append]
 simp [rd_L4, List.getD_eq_getElem?_getD, h]
theorem flat_le (ls : List (List S91)) (i : Nat) : (ls.take i).flatten.length ≤ ls.flatten.length := by
 have h := congrArg List.length (congrArg List.flatten (List.take_append_drop i ls))
 rw [List.flatten_append, List.length_append] at h
 omega
set_option maxHeartbeats 8000000 in
set_option maxRecDepth 100000 in
/-- slices.Concat of rows. -/
theorem concat_calls (A : Option Addr) (c : Nat) (ls : List (List S91)) (w : World) (hr : Kd.C (Kd.slice 91 k91) w A ls.length ls) (hl : ls.flatten.length ≤ 5000000000000) :
  Calls Try.prog 120 #[.slice A ls.length c] w fun e w' => ∃ v, e = .returned v ∧ k91.R 91 w' w.heap.size (fun _ => True) v ls.flatten ∧ Below w.heap.size w w' := by
 have hu43 := Try.underlying43
 have hu42 := Try.underlying42
 have hmx : ls.length ≤ 9223372036854775807 := hr.2.1
 have HR := Aside0.mk hr
 have HL := Aside0.mk hl
 clear hr hl
 go_enter Try.func120, Try.ntmps120
 go_wp2
 go_loopg [3, 11] ls.length (fun gg s3 s11 wr => ∃ i : Nat, s3 = .int .i64 ((ls.take i).flatten.length : Nat) ∧ s11 = .int .i64 i ∧ i ≤ ls.length ∧ ls.length - i ≤ gg ∧ Aside0 (Below w.heap.size w wr))
 case atStart => exact ⟨0, rfl, rfl, Nat.zero_le _, by omega, ⟨Below.refl _ _⟩⟩
 case round =>
  obtain ⟨i, rfl, rfl, hi, hg, HB⟩ := hrel
  by_cases hlt : i < ls.length
  ·
   obtain ⟨ad, A1, c1, e, hx, hc1, hC1⟩ := at_L4 (Kd.C_below HR.out HB.out) (i : Int) (by omega) (by omega)
   cases e
   have hT : (ls.take (i + 1)).flatten.length = (ls.take i).flatten.length + (rd_L4 ls (i : Int)).length := by rw [flat_take ls hlt, List.length_append]
   have hb2 := flat_le ls (i + 1)
   have hltz : (i : Int) < (ls.length : Int) := by omega
   simp only [Int.toNat_natCast] at hx
   have HT := Aside0.mk hT
   have HB2 := Aside0.mk hb2
   clear hC1 hT hb2
   generalize (ls.take i).flatten.length = a at HT ⊢
   generalize (rd_L4 ls (i : Int)).length = b at hx hc1 HT
   have hw : wrap64 ((a : Int) + (b : Int)) = ((a + b : Nat) : Int) := by have := HT.out; have := HB2.out; have := HL.out; unfold wrap64; omega
   have hnn : ¬ wrap64 ((a : Int) + (b : Int)) < 0 := by rw [hw]; omega
   go_wp2
   go_roundg (ls.length - (i + 1))
   case measure => omega
   case rel => exact ⟨i + 1, by rw [HT.out]; first | (rw [hw]; done) | rfl, by first | rfl | rw [show wrap64 ((i : Int) + 1) = ((i + 1 : Nat) : Int) by unfold wrap64; omega], by omega, by omega, HB⟩
  ·
   have hltz : ¬ (i : Int) < (ls.length : Int) := by omega
   obtain rfl : i = ls.length := by omega
   rw [List.take_length]
   have HG := HL.out
   generalize hG : ls.flatten.length = tot at HG ⊢
   have HG2 := Aside0.mk HG
   clear hG HG
   go_wp2_with (go_at_call 146; (refine (grow_calls _ (by exact HG2.out) _).mono ?_; rintro e w1 ⟨v, rfl, hv, hb⟩; have HV := Aside0.mk (Kd.R_lower hv HB.out.size); have HB1 := Aside0.mk (below_step HB.out hb); clear hv hb HB))
   go_loopg [6, 27] ls.length (fun gg s6 s27 wr => ∃ i : Nat, s27 = .int .i64 i ∧ i ≤ ls.length ∧ ls.length - i ≤ gg ∧ Aside0 (Below w.heap.size w wr) ∧ Aside0 (k91.R 91 wr w.heap.size (fun _ => True) s6 (ls.take i).flatten))
   case atStart => exact ⟨0, rfl, Nat.zero_le _, by omega, HB1, by simpa using HV⟩
   case round =>
    clear HB1 HV
    obtain ⟨i, rfl, hi, hg, HB, HV⟩ := hrel
    by_cases hlt : i < ls.length
    ·
     obtain ⟨ad, A1, c1, e, hx, hc1, hC1⟩ := at_L4 (Kd.C_below HR.out HB.out) (i : Int) (by omega) (by omega)
     cases e
     have HT := Aside0.mk (flat_take ls hlt)
     have HB2 := Aside0.mk (flat_le ls (i + 1))
     have HLEN := Aside0.mk (show ((ls.take i).flatten ++ rd_L4 ls (i : Int)).length ≤ 5000000000000 by have := HB2.out; rw [HT.out] at this; have := HL.out; omega)
     have hltz : (i : Int) < (ls.length : Int) := by omega
     simp only [Int.toNat_natCast] at hx
     have HC1 := Aside0.mk hC1
     clear hC1
     obtain ⟨A6, c6, rfl⟩ := Kd.R_slice HV.out
     generalize (ls.take i).flatten = la at HT HV HLEN ⊢
     generalize rd_L4 ls (i : Int) = lb at hx hc1 HT HC1 HLEN
     go_wp2_with (at_builtin; (refine Kd.R_append_rows k91 (w0 := w) w.heap.size rfl (.tmp 31) (.tmp 32) 43 91 _ 16 rfl Try.underlying43 info91 rfl (by decide) (by decide) (.slice A6 la.length c6) la lb A1 lb.length c1 (fun _ => True) (fun _ => False) rfl rfl HV.out HC1.out (fun x cs h => by rw [k91_open h]; exact k91_mkM _ _ _ _) (fun k hk => hk.elim) (fun _ _ => trivial) HB.out (by exact HB.out.size) (by have := HLEN.out; rw [List.length_append] at this; omega) ?_; intro v1 w1 hR hB _ _; have HR1 := Aside0.mk hR; have HB1 := Aside0.mk hB; clear hR hB))
     go_roundg (ls.length - (i + 1))
     case measure => omega
     case rel => exact ⟨i + 1, by first | rfl | rw [show wrap64 ((i : Int) + 1) = ((i + 1 : Nat) : Int) by unfold wrap64; omega], by omega, by omega, HB1, ⟨by rw [HT.out]; exact HR1.out⟩⟩
    ·
     have hltz : ¬ (i : Int) < (ls.length : Int) := by omega
     obtain rfl : i = ls.length := by omega
     go_wp2
     go_ret
     have := HV.out
     rw [List.take_length] at this
     exact ⟨_, rfl, this, HB.out⟩
def impl_Timer_120.f (l0 : List (List S91)) : Option (List S91) := if l0.flatten.length ≤ 5000000000000 then some l0.flatten else none
theorem impl_Timer_120.calls (A0 : Option Addr) (c0 : Nat) (l0 : List (List S91)) (r : List S91) (w : World) (hr0 : Kd.C (Kd.slice 91 k91) w A0 l0.length l0) (hc0 : l0.length ≤ c0) (h : impl_Timer_120.f l0 = some r) :
  Calls Try.prog 120 #[.slice A0 l0.length c0] w fun e w' => ∃ v0_ : Value, e = .returned v0_ ∧ Kd.R k91 91 w' w.heap.size (fun _ => True) v0_ r ∧ Below w.heap.size w w' := by
 unfold impl_Timer_120.f at h
 by_cases hl : l0.flatten.length ≤ 5000000000000
 ·
  rw [if_pos hl] at h
  obtain rfl := Option.some.inj h
  exact concat_calls A0 c0 l0 w hr0 hl
 ·
  rw [if_neg hl] at h
  cases h

/-! ### impl_Wheel_all: function 73 -/
def impl_Wheel_all.f (a0_0 : Int) (l0_1 : List (List (S91))) (l0_2 : List (S91)) : Option ((List (S91))) := (impl_Timer_120.f l0_1).bind fun t242 => (if t242.length + l0_2.length < 8796093022208 then (some (t242 ++ l0_2)) else (none))
set_option maxHeartbeats 8000000 in
set_option maxRecDepth 100000 in
theorem impl_Wheel_all.calls (a0_0 : Int) (A0_1 : Option Addr) (c0_1 : Nat) (l0_1 : List (List (S91))) (A0_2 : Option Addr) (c0_2 : Nat) (l0_2 : List (S91)) (r : List (S91)) (w : World) (hr0_1 : Kd.C (Kd.slice 91 k91) w A0_1 l0_1.length l0_1) (hc0_1 : l0_1.length ≤ c0_1) (hr0_2 : Kd.C k91 w A0_2 l0_2.length l0_2) (hc0_2 : l0_2.length ≤ c0_2) (h : impl_Wheel_all.f a0_0 l0_1 l0_2 = some r) :
  Calls Try.prog 73 #[.agg #[.int .i64 a0_0, .slice A0_1 l0_1.length c0_1, .slice A0_2 l0_2.length c0_2]] w fun e w' => ∃ v0_ : Value, e = .returned (v0_) ∧ Kd.R k91 91 w' w.heap.size (fun _ => True) v0_ r ∧ Below w.heap.size w w' := by
 have hu45 := Try.underlying45
 have HR0_1 := Aside0.mk hr0_1
 have HC0_1 := Aside0.mk hc0_1
 clear hr0_1 hc0_1
 have HR0_2 := Aside0.mk hr0_2
 have HC0_2 := Aside0.mk hc0_2
 clear hr0_2 hc0_2
 have HB := Aside0.mk (Below.refl w.heap.size w)
 have H : ((impl_Timer_120.f l0_1).bind fun t242 => (if t242.length + l0_2.length < 8796093022208 then (some (t242 ++ l0_2)) else (none))) = some r := h
 clear h
 replace H := Option.bind_eq_some_iff.mp H
 obtain ⟨t242, A20, H⟩ := H
 replace H : (if t242.length + l0_2.length < 8796093022208 then (some (t242 ++ l0_2)) else (none)) = some r := H
 have A2 := Aside0.mk A20
 clear A20
 by_cases c3 : t242.length + l0_2.length < 8796093022208
 ·
  rw [if_pos c3] at H
  have LMc3 := Aside0.mk c3
  clear c3
  obtain ⟨y245, hy245⟩ : ∃ y_ : List (S91), y_ = (t242 ++ l0_2) := ⟨_, rfl⟩
  replace H : (some y245) = some r := by first | (rw [hy245]; with_reducible exact H) | (have H2_ := (Option.bind_some _ _).symm.trans H; rw [hy245]; with_reducible exact H2_) | (have H2_ := (Option.bind_some _ _).symm.trans H; with_reducible exact H2_) | with_reducible exact H | (rw [hy245]; exact H) | exact H
  have Ny245 := Aside0.mk hy245
  clear hy245
  obtain rfl := Option.some.inj H
  go_enter Try.func73, Try.ntmps73
  try go_wp2_with (first | ((with_reducible refine gate_dst (N := 1) rfl ?_); refine box_event ?hg (N := 1) ?hd (cs := #[.int .i64 a0_0, .slice A0_1 l0_1.length c0_1, .slice A0_2 l0_2.length c0_2]) (t := 45) ?hr ?_; (case hd => rfl); (case hg => rfl); (case hr => first | (go_simp; done) | (go_simp; rfl)); intro gb241 hg w4 hbox hb; have n0_ := Aside0.mk (below_step bl_ hb); have n1_ := Aside0.mk (hbox); have n2_ := Aside0.mk ((by rw [hg]; exact (below_size bl_) : w.heap.size ≤ gb241)); have n3_ := Aside0.mk ((by rw [hg]; exact (below_size bl_) : w.heap.size ≤ gb241)); clear HB; have HB := n0_; have BK241 := n1_; have GW241 := n2_; have GE241 := n3_; clear n0_ n1_ n2_ n3_; clear hb hbox hg))
  replace BK241 := Aside0.mk (blk_drew BK241.out)
  replace HB := Aside0.mk (below_drew1 HB.out)
  refine start_ (n := 7) (S := fun w' => w'.cell? ⟨gb241, 0, none⟩ = some (.int .i64 a0_0) ∧ w'.cell? ⟨gb241, 1, none⟩ = some (.slice A0_1 l0_1.length c0_1) ∧ w'.cell? ⟨gb241, 2, none⟩ = some (.slice A0_2 l0_2.length c0_2)) (ds := []) #[false, false, false, false, false, false, false] (by kernel_rfl) rfl rfl ⟨(blk_cell BK241.out 0).trans rfl, (blk_cell BK241.out 1).trans rfl, (blk_cell BK241.out 2).trans rfl⟩ (fun hHeld => ?_)
  generalize w4.drew = w5 at BK241 HB hHeld ⊢
  refine pure_ (i := 0) (N := some 3) (v := ?_) (a' := ?_) #[true, false, false, false, false, false, false] rfl rfl (by kernel_rfl) (fun _ _ _ h => h) (Or.inl ⟨by rfl, ?_⟩) ?_ ?_; rotate_left; (intro w'; go_simp; with_reducible rfl); rotate_left; (simp only [Act.put, List.setIfInBounds_toArray, List.set_cons_zero, List.set_cons_succ, i64_w, i32_w]; rfl)
  refine pure_ (i := 3) (N := some 6) (v := ?_) (a' := ?_) #[true, false, false, true, false, false, false] rfl rfl (by kernel_rfl) (fun _ _ _ h => h) (Or.inl ⟨by rfl, ?_⟩) ?_ ?_; rotate_left; (intro w'; go_simp; with_reducible rfl); rotate_left; (simp only [Act.put, List.setIfInBounds_toArray, List.set_cons_zero, List.set_cons_succ, i64_w, i32_w]; rfl)
  refine take_ (i := 1) (N := some 4) (v := ?_) (a' := ?_) #[true, true, false, true, false, false, false] rfl rfl (by kernel_rfl) (fun _ _ _ h => h) (Or.inl ⟨by rfl, ?_⟩) hHeld ?_ ?_; rotate_left; (rintro w' ⟨s0, s1, s2⟩; go_simp; with_reducible rfl); rotate_left; (simp only [Act.put, List.setIfInBounds_toArray, List.set_cons_zero, List.set_cons_succ, i64_w, i32_w]; rfl)
  refine take_ (i := 4) (N := some 7) (v := ?_) (a' := ?_) #[true, true, false, true, true, false, false] rfl rfl (by kernel_rfl) (fun _ _ _ h => h) (Or.inl ⟨by rfl, ?_⟩) hHeld ?_ ?_; rotate_left; (rintro w' ⟨s0, s1, s2⟩; go_simp; with_reducible rfl); rotate_left; (simp only [Act.put, List.setIfInBounds_toArray, List.set_cons_zero, List.set_cons_succ, i64_w, i32_w]; rfl)
  refine one_ (i := 2) (N := some 5) #[o_,o_,o_,o_,o_,x_,x_] rfl rfl (by kernel_rfl) (by decide) (fun K hK => ?_)
  refine goes_ Try.func120 (by kernel_rfl) rfl #[.slice A0_1 l0_1.length c0_1] (by rfl) rfl rfl (by (try simp only [List.map_toArray, List.map_cons, List.map_nil]); first | done | rfl | (simp only [List.length_drop, List.length_take]; rfl)) ?_
  with_reducible refine (impl_Timer_120.calls _ _ l0_1 t242 _ ?side1 ?side2 A2.out).mono ?_
  (case side1 => exact Kd.C_below HR0_1.out bl_)
  (case side2 => exact HC0_1.out)
  rintro e w6 ⟨v243, rfl, ho0, hb⟩
  refine ⟨_, rfl, ?_⟩
  have n0_ := Aside0.mk (Kd.R_lower ho0 (below_size bl_))
  have n1_ := Aside0.mk (blk_below (up_ BK241.out) hb)
  have n2_ := Aside0.mk (below_step bl_ hb)
  clear BK241
  clear HB
  have HO244 := n0_
  have BK241 := n1_
  have HB := n2_
  clear n0_ n1_ n2_
  (try clear hb)
  (try clear hb2)
  (try clear hk)
  (try clear hi)
  (try clear ho0)
  refine hK.out _ _ ⟨(blk_cell BK241.out 0).trans rfl, (blk_cell BK241.out 1).trans rfl, (blk_cell BK241.out 2).trans rfl⟩ (fun hHeld => ?_)
  clear hK K
  refine norm_ (a' := ?_) ?_ ?_
  rotate_left
  ·
   show Act.put _ (some 5) _ = _
   simp only [Act.put, List.setIfInBounds_toArray, List.set_cons_zero, List.set_cons_succ, i64_w, i32_w]
   rfl
  refine one_ (i := 5) (N := some 8) #[o_,o_,o_,o_,o_,o_,x_] rfl rfl (by kernel_rfl) (by decide) (fun K hK => ?_)
  refine Kd.R_append_rows_step k91 (w0 := w) w.heap.size (by rfl) (.tmp 5) (.tmp 7) 43 91 (.agg #[(.int .i64 0), (.int .i64 0)]) 16 rfl Try.underlying43 info91 rfl (by decide) (by omega) v243 t242 l0_2 _ _ _ (fun _ => True) (fun _ => False) rfl rfl ?aO ?aR (fun _ _ h => h) (fun _ h => h.elim) ?aF ?aB ?aS ?aL ?_
  (case aR => repeat (first | exact (Kd.C_below HR0_2.out HB.out) | (with_reducible refine Kd.C_alloc ?_ _) | (with_reducible refine Kd.C_drewN ?_ _) | (with_reducible refine Kd.C_drew ?_)))
  (case aB => exact bl_)
  (case aF => exact (fun _ _ => trivial))
  (case aO => exact (by exact rU_ HO244.out))
  (case aS => exact (below_size bl_))
  (case aL => have := LMc3.out; omega)
  intro v246 w7 ho hb hg hat
  rw [← Ny245.out] at ho
  have n0_ := Aside0.mk (blk_grown (up_ BK241.out) hg (Kd.R_ne HO244.out BK241.out (by decide)))
  have n1_ := Aside0.mk (hb)
  have n2_ := Aside0.mk (ho)
  clear BK241
  clear HB
  clear HO244
  have BK241 := n0_
  have HB := n1_
  have HO247 := n2_
  clear n0_ n1_ n2_
  clear ho hb hg hat
  refine hK.out _ _ ⟨(blk_cell BK241.out 0).trans rfl, (blk_cell BK241.out 1).trans rfl, (blk_cell BK241.out 2).trans rfl⟩ (fun hHeld => ?_)
  clear hK K
  refine norm_ (a' := ?_) ?_ ?_
  rotate_left
  ·
   show Act.put _ (some 8) _ = _
   simp only [Act.put, List.setIfInBounds_toArray, List.set_cons_zero, List.set_cons_succ, i64_w, i32_w]
   rfl
  refine pure_ (i := 6) (N := some 2) (v := ?_) (a' := ?_) #[true, true, true, true, true, true, true] rfl rfl (by kernel_rfl) (fun _ _ _ h => h) (Or.inl ⟨by rfl, ?_⟩) ?_ ?_; rotate_left; (intro w'; go_simp; with_reducible rfl); rotate_left; (simp only [Act.put, List.setIfInBounds_toArray, List.set_cons_zero, List.set_cons_succ, i64_w, i32_w]; rfl)
  refine done_ (by kernel_rfl) ?_
  try go_wp2
  go_ret
  exact ⟨_, by first | rfl | (simp [errW_none, errW_some] <;> rfl) | (simp [*, errW_none, errW_some] <;> rfl), by (with_reducible repeat (first | apply Kd.R_alloc | apply Kd.R_drewN | apply Kd.R_drew)); exact HO247.out, bl_⟩
 ·
  rw [if_neg c3] at H
  exact absurd H (by simp)

/-! ### impl_byId: function 74 -/
def impl_byId.f (a0_0 : Int) (a0_1 : Int) (a1_0 : Int) (a1_1 : Int) : Option (Int) := (cmp_Compare_int64.f a0_0 a1_0).bind fun t250 => (some t250)
set_option maxHeartbeats 8000000 in
set_option maxRecDepth 100000 in
theorem impl_byId.calls (a0_0 : Int) (a0_1 : Int) (a1_0 : Int) (a1_1 : Int) (r : Int) (w : World) (h : impl_byId.f a0_0 a0_1 a1_0 a1_1 = some r) :
  Calls Try.prog 74 #[.agg #[.int .i64 a0_0, .int .i64 a0_1], .agg #[.int .i64 a1_0, .int .i64 a1_1]] w fun e w' => e = .returned (.int .i64 r) ∧ Below w.heap.size w w' := by
 have hu91 := Try.underlying91
 have HB := Aside0.mk (Below.refl w.heap.size w)
 have H : ((cmp_Compare_int64.f a0_0 a1_0).bind fun t250 => (some t250)) = some r := h
 clear h
 replace H := Option.bind_eq_some_iff.mp H
 obtain ⟨t250, A30, H⟩ := H
 replace H : (some t250) = some r := H
 have A3 := Aside0.mk A30
 clear A30
 obtain rfl := Option.some.inj H
 go_enter Try.func74, Try.ntmps74
 go_wp2_with (first | ((with_reducible refine gate_dst (N := 2) rfl ?_); refine box_event ?hg (N := 2) ?hd (cs := #[.int .i64 a0_0, .int .i64 a0_1]) (t := 91) ?hr ?_; (case hd => rfl); (case hg => rfl); (case hr => first | (go_simp; done) | (go_simp; rfl)); intro gb248 hg w4 hbox hb; have n0_ := Aside0.mk (below_step bl_ hb); have n1_ := Aside0.mk (hbox); have n2_ := Aside0.mk ((by rw [hg]; exact (below_size bl_) : w.heap.size ≤ gb248)); have n3_ := Aside0.mk ((by rw [hg]; exact (below_size bl_) : w.heap.size ≤ gb248)); clear HB; have HB := n0_; have BK248 := n1_; have GW248 := n2_; have GE248 := n3_; clear n0_ n1_ n2_ n3_; clear hb hbox hg) | ((with_reducible refine gate_dst (N := 3) rfl ?_); refine box_event ?hg (N := 3) ?hd (cs := #[.int .i64 a1_0, .int .i64 a1_1]) (t := 91) ?hr ?_; (case hd => rfl); (case hg => rfl); (case hr => first | (go_simp; done) | (go_simp; rfl)); intro gb249 hg w5 hbox hb; have n0_ := Aside0.mk (blk_below (up_ BK248.out) hb); have n1_ := Aside0.mk (below_step bl_ hb); have n2_ := Aside0.mk (hbox); have n3_ := Aside0.mk ((by rw [hg]; exact (below_size bl_) : w.heap.size ≤ gb249)); have n4_ := Aside0.mk ((by rw [hg]; exact (below_size bl_) : w.heap.size ≤ gb249)); have n5_ := Aside0.mk ((by rw [hg]; exact Nat.ne_of_lt (blk_lt (up_ BK248.out)) : gb248 ≠ gb249)); have n6_ := Aside0.mk ((by rw [hg]; exact Nat.ne_of_gt (blk_lt (up_ BK248.out)) : gb249 ≠ gb248)); clear BK248; clear HB; have BK248 := n0_; have HB := n1_; have BK249 := n2_; have GW249 := n3_; have GE249 := n4_; have NB248_249 := n5_; have NB249_248 := n6_; clear n0_ n1_ n2_ n3_ n4_ n5_ n6_; clear hb hbox hg; have hnb6 := NB248_249.out; have hnc6 := NB249_248.out; have hcz7_0 : w5.cell? ⟨gb248, 0, none⟩ = some (.int .i64 a0_0) := (blk_cell BK248.out 0).trans rfl; have hcz7_1 : w5.cell? ⟨gb248, 1, none⟩ = some (.int .i64 a0_1) := (blk_cell BK248.out 1).trans rfl; have hfz7_0 := blk_frozen BK248.out 0; have hfz7_1 := blk_frozen BK248.out 1; have hcz8_0 : w5.cell? ⟨gb249, 0, none⟩ = some (.int .i64 a1_0) := (blk_cell BK249.out 0).trans rfl; have hcz8_1 : w5.cell? ⟨gb249, 1, none⟩ = some (.int .i64 a1_1) := (blk_cell BK249.out 1).trans rfl; have hfz8_0 := blk_frozen BK249.out 0; have hfz8_1 := blk_frozen BK249.out 1) | ((with_reducible refine gate_callee (f := 109) rfl ?_); refine gL_ (some 9) Try.func109 #[.int .i64 a0_0, .int .i64 a1_0] ?_; (with_reducible refine (cmp_Compare_int64.calls a0_0 a1_0 t250 _ A3.out).mono ?_); rintro e w' ⟨rfl, ⟨nd, rfl⟩⟩; refine ⟨_, rfl, ?_⟩))
 go_ret
 exact ⟨by first | rfl | (simp [errW_none, errW_some] <;> rfl) | (simp [*, errW_none, errW_some] <;> rfl), bl_⟩

/-! ### impl_isId: function 75 -/
def impl_isId.f (a0 : Int) : Option (Bool) := (impl_in.f a0 1 1000000).bind fun t251 => (some t251)
set_option maxHeartbeats 8000000 in
set_option maxRecDepth 100000 in
theorem impl_isId.calls (a0 : Int) (r : Bool) (w : World) (h : impl_isId.f a0 = some r) :
  Calls Try.prog 75 #[.int .i64 a0] w fun e w' => e = .returned (.bool r) ∧ Drawn0 w w' := by
 have H : ((impl_in.f a0 1 1000000).bind fun t251 => (some t251)) = some r := h
 clear h
 replace H := Option.bind_eq_some_iff.mp H
 obtain ⟨t251, A20, H⟩ := H
 replace H : (some t251) = some r := H
 have A2 := Aside0.mk A20
 clear A20
 obtain rfl := Option.some.inj H
 go_enter Try.func75, Try.ntmps75
 go_wp2_with (first | ((with_reducible refine gate_callee (f := 69) rfl ?_); refine gL_ (some 4) Try.func69 #[.int .i64 a0, .int .i64 1, .int .i64 1000000] ?_; (with_reducible refine (impl_in.calls a0 1 1000000 t251 _ A2.out).mono ?_); rintro e w' ⟨rfl, ⟨nd, rfl⟩⟩; refine ⟨_, rfl, ?_⟩))
 go_ret
 exact ⟨by first | rfl | (simp; done) | (simp [*]; done), by repeat (first | exact Drawn0.refl _ | apply Drawn0.step)⟩

end Go.Proofs.Ytenlceojmjkbkaa.XFnExactWheelDrop
