/- Functions that FnExactWheelDrop comes to, as Lean functions with their contracts: written by the prover's own program (wip/tpl/myprint.py) over the kit's printer, some contracts by hand. Conditions: none. -/
import Derived.Test.YtenlceojmjkbkaaXFnExactWheelDropx0
import Derived.Test.YtenlceojmjkbkaaXFnExactWheelDropx2
import Derived.Test.YtenlceojmjkbkaaXFnExactWheelDropx3
namespace Go.Proofs.Ytenlceojmjkbkaa.XFnExactWheelDrop
open Go.RowKit Go.Proofs.YtenlceojmjkbkaaW.PrintWords Go.Proofs.YtenlceojmjkbkaaW.PrintLast Go.Proofs.YtenlceojmjkbkaaW.PrintMore
attribute [local go_sem] max2_int min2_int max_two min_two max_three min_three max_four min_four   -- for this text's walks alone
set_option linter.unusedVariables false
set_option linter.unusedSimpArgs false

/-! ### spec_l08Wrong: function 79 -/
def spec_l08Wrong.f (a0 : Int) : Option (Int × (List (List (S91))) × (List (S91)) × (List (S91)) × Int) := some (0, ([] : List (List (S91))), ([] : List (S91)), ([] : List (S91)), a0)
set_option maxHeartbeats 8000000 in
set_option maxRecDepth 100000 in
theorem spec_l08Wrong.calls (a0 : Int) (r1 : Int) (r2 : List (List (S91))) (r3 : List (S91)) (r4 : List (S91)) (r5 : Int) (w : World) (h : spec_l08Wrong.f a0 = some (r1, r2, r3, r4, r5)) :
  Calls Try.prog 79 #[.int .i64 a0] w fun e w' => ∃ v1_ v2_ v3_ : Value, e = .returned (.agg #[.int .i64 r1, v1_, v2_, v3_, .int .i64 r5]) ∧ Kd.S (Kd.slice 91 k91) 43 w' w.heap.size (fun k_ => some k_ ≠ (v2_ : Value).ownBlock ∧ some k_ ≠ (v3_ : Value).ownBlock) v1_ r2 ∧ Kd.R k91 91 w' w.heap.size (fun k_ => some k_ ≠ (v3_ : Value).ownBlock) v2_ r3 ∧ Kd.R k91 91 w' w.heap.size (fun k_ => some k_ ≠ (v2_ : Value).ownBlock) v3_ r4 ∧ Below w.heap.size w w' := by
 have hu51 := Try.underlying51
 have HB := Aside0.mk (Below.refl w.heap.size w)
 have H : (some (0, ([] : List (List (S91))), ([] : List (S91)), ([] : List (S91)), a0)) = some (r1, r2, r3, r4, r5) := h
 clear h
 simp only [Option.some.injEq, Prod.mk.injEq] at H
 obtain ⟨rfl, rfl, rfl, rfl, rfl⟩ := H
 go_enter Try.func79, Try.ntmps79
 go_wp2_with (first | ((with_reducible refine gate_dst (N := 2) rfl ?_); refine box_event ?hg (N := 2) ?hd (cs := #[.int .i64 0, .slice none 0 0, .slice none 0 0, .slice none 0 0, .int .i64 0]) (t := 51) ?hr ?_; (case hd => rfl); (case hg => rfl); (case hr => first | (go_simp; done) | (go_simp; rfl)); intro gb180 hg w2 hbox hb; have n0_ := Aside0.mk (below_step bl_ hb); have n1_ := Aside0.mk (hbox); have n2_ := Aside0.mk ((by rw [hg]; exact (below_size bl_) : w.heap.size ≤ gb180)); have n3_ := Aside0.mk ((by rw [hg]; exact (below_size bl_) : w.heap.size ≤ gb180)); clear HB; have HB := n0_; have BK180 := n1_; have GW180 := n2_; have GE180 := n3_; clear n0_ n1_ n2_ n3_; clear hb hbox hg; have hcz3_0 : w2.cell? ⟨gb180, 0, none⟩ = some (.int .i64 0) := (blk_cell BK180.out 0).trans rfl; have hcz3_1 : w2.cell? ⟨gb180, 1, none⟩ = some (.slice none 0 0) := (blk_cell BK180.out 1).trans rfl; have hcz3_2 : w2.cell? ⟨gb180, 2, none⟩ = some (.slice none 0 0) := (blk_cell BK180.out 2).trans rfl; have hcz3_3 : w2.cell? ⟨gb180, 3, none⟩ = some (.slice none 0 0) := (blk_cell BK180.out 3).trans rfl; have hcz3_4 : w2.cell? ⟨gb180, 4, none⟩ = some (.int .i64 0) := (blk_cell BK180.out 4).trans rfl; have hfz3_0 := blk_frozen BK180.out 0; have hfz3_1 := blk_frozen BK180.out 1; have hfz3_2 := blk_frozen BK180.out 2; have hfz3_3 := blk_frozen BK180.out 3; have hfz3_4 := blk_frozen BK180.out 4))
 refine bodyPost_ret (results_cell_row rfl _ _ gb180 51 #[.int .i64 0, .slice none 0 0, .slice none 0 0, .slice none 0 0, .int .i64 a0] (0, 0) _ rfl (by (with_reducible repeat (first | refine blk_drewN ?_ _ | refine blk_drew ?_ | refine blk_alloc ?_ _)); refine blk_put (cs := #[.int .i64 0, .slice none 0 0, .slice none 0 0, .slice none 0 0, .int .i64 0]) ?_ 4 _ rfl; (with_reducible repeat (first | refine blk_drewN ?_ _ | refine blk_drew ?_ | refine blk_alloc ?_ _)); refine blk_put (cs := #[.int .i64 0, .slice none 0 0, .slice none 0 0, .slice none 0 0, .int .i64 0]) ?_ 3 _ rfl; (with_reducible repeat (first | refine blk_drewN ?_ _ | refine blk_drew ?_ | refine blk_alloc ?_ _)); refine blk_put (cs := #[.int .i64 0, .slice none 0 0, .slice none 0 0, .slice none 0 0, .int .i64 0]) ?_ 2 _ rfl; (with_reducible repeat (first | refine blk_drewN ?_ _ | refine blk_drew ?_ | refine blk_alloc ?_ _)); refine blk_put (cs := #[.int .i64 0, .slice none 0 0, .slice none 0 0, .slice none 0 0, .int .i64 0]) ?_ 1 _ rfl; (with_reducible repeat (first | refine blk_drewN ?_ _ | refine blk_drew ?_ | refine blk_alloc ?_ _)); refine blk_put (cs := #[.int .i64 0, .slice none 0 0, .slice none 0 0, .slice none 0 0, .int .i64 0]) ?_ 0 _ rfl; (with_reducible repeat (first | refine blk_drewN ?_ _ | refine blk_drew ?_ | refine blk_alloc ?_ _)); exact BK180.out) Try.underlying51 rfl (by kernel_rfl)) rfl ?_
 exact ⟨_, _, _, by first | rfl | (simp [errW_none, errW_some] <;> rfl) | (simp [*, errW_none, errW_some] <;> rfl), by first | exact Kd.S_nil _ _ _ _ _ | exact Kd.N_nil _ _ _ _ _ | exact Kd.V_nil _ _ _ _ _ | exact Kd.Q_nil _ _ _ _ _ | exact Kd.R_nil _ _ _ _ _, by first | exact Kd.R_nil _ _ _ _ _ | exact Kd.N_nil _ _ _ _ _ | exact Kd.V_nil _ _ _ _ _ | exact Kd.Q_nil _ _ _ _ _ | exact Kd.S_nil _ _ _ _ _, by first | exact Kd.R_nil _ _ _ _ _ | exact Kd.N_nil _ _ _ _ _ | exact Kd.V_nil _ _ _ _ _ | exact Kd.Q_nil _ _ _ _ _ | exact Kd.S_nil _ _ _ _ _, bl_⟩

/-! ### spec_WheelNew: function 122 -/
def spec_WheelNew.f (a0 : Int) : Option (Int × (List (List (S91))) × (List (S91))) := (spec_l07Time.f a0).bind fun t182 => (if t182 = true then (if 16 ≤ 11728124029610 then (some (a0, (List.replicate 16 []), ([] : List (S91)))) else (none)) else (some (0, ([] : List (List (S91))), ([] : List (S91)))))
set_option maxHeartbeats 8000000 in
set_option maxRecDepth 100000 in
theorem spec_WheelNew.calls (a0 : Int) (r1 : Int) (r2 : List (List (S91))) (r3 : List (S91)) (w : World) (h : spec_WheelNew.f a0 = some (r1, r2, r3)) :
  Calls Try.prog 122 #[.int .i64 a0] w fun e w' => ∃ v1_ v2_ : Value, e = .returned (.agg #[.int .i64 r1, v1_, v2_]) ∧ Kd.S (Kd.slice 91 k91) 43 w' w.heap.size (fun k_ => some k_ ≠ (v2_ : Value).ownBlock) v1_ r2 ∧ Kd.R k91 91 w' w.heap.size (fun _ => True) v2_ r3 ∧ Below w.heap.size w w' := by
 have hu45 := Try.underlying45
 have HB := Aside0.mk (Below.refl w.heap.size w)
 have H : ((spec_l07Time.f a0).bind fun t182 => (if t182 = true then (if 16 ≤ 11728124029610 then (some (a0, (List.replicate 16 []), ([] : List (S91)))) else (none)) else (some (0, ([] : List (List (S91))), ([] : List (S91)))))) = some (r1, r2, r3) := h
 clear h
 replace H := Option.bind_eq_some_iff.mp H
 obtain ⟨t182, A20, H⟩ := H
 replace H : (if t182 = true then (if 16 ≤ 11728124029610 then (some (a0, (List.replicate 16 []), ([] : List (S91)))) else (none)) else (some (0, ([] : List (List (S91))), ([] : List (S91))))) = some (r1, r2, r3) := H
 have A2 := Aside0.mk A20
 clear A20
 by_cases c3 : t182 = true
 ·
  subst c3
  have H1 : (if 16 ≤ 11728124029610 then (some (a0, (List.replicate 16 []), ([] : List (S91)))) else (none)) = some (r1, r2, r3) := by rw [if_pos rfl] at H; exact H
  clear H
  have H := H1
  clear H1
  by_cases c4 : 16 ≤ 11728124029610
  ·
   rw [if_pos c4] at H
   have c4b0 := eq_true c4
   have c4b1 : decide (16 ≤ 11728124029610) = true := decide_eq_true c4
   clear c4
   obtain ⟨y183, hy183⟩ : ∃ y_ : List (List (S91)), y_ = (List.replicate 16 []) := ⟨_, rfl⟩
   replace H : (some (a0, y183, ([] : List (S91)))) = some (r1, r2, r3) := by first | (rw [hy183]; with_reducible exact H) | (have H2_ := (Option.bind_some _ _).symm.trans H; rw [hy183]; with_reducible exact H2_) | (have H2_ := (Option.bind_some _ _).symm.trans H; with_reducible exact H2_) | with_reducible exact H | (rw [hy183]; exact H) | exact H
   have Ny183 := Aside0.mk hy183
   clear hy183
   simp only [Option.some.injEq, Prod.mk.injEq] at H
   obtain ⟨rfl, rfl, rfl⟩ := H
   go_enter Try.func122, Try.ntmps122
   go_wp2_with (first | ((with_reducible refine gate_dst (N := 2) rfl ?_); refine box_event ?hg (N := 2) ?hd (cs := #[.int .i64 0, .slice none 0 0, .slice none 0 0]) (t := 45) ?hr ?_; (case hd => rfl); (case hg => rfl); (case hr => first | (go_simp; done) | (go_simp; rfl)); intro gb181 hg w5 hbox hb; have n0_ := Aside0.mk (below_step bl_ hb); have n1_ := Aside0.mk (hbox); have n2_ := Aside0.mk ((by rw [hg]; exact (below_size bl_) : w.heap.size ≤ gb181)); have n3_ := Aside0.mk ((by rw [hg]; exact (below_size bl_) : w.heap.size ≤ gb181)); clear HB; have HB := n0_; have BK181 := n1_; have GW181 := n2_; have GE181 := n3_; clear n0_ n1_ n2_ n3_; clear hb hbox hg) | ((with_reducible refine gate_callee (f := 62) rfl ?_); refine gL_ (some 4) Try.func62 #[.int .i64 a0] ?_; (with_reducible refine (spec_l07Time.calls a0 true _ A2.out).mono ?_); rintro e w' ⟨rfl, ⟨nd, rfl⟩⟩; refine ⟨_, rfl, ?_⟩; (try (rw [drewN_self w5]; generalize hq_ : World.drewN w5 _ = w5; have n0_ : Aside0 (w5.heap[gb181]? = some (.cells #[.int .i64 0, .slice none 0 0, .slice none 0 0] 45 (0, 0))) := ⟨by rw [← hq_]; exact (by exact up_ BK181.out)⟩; have n1_ : Aside0 (Below w.heap.size w w5) := ⟨by rw [← hq_]; exact bl_⟩; clear BK181 HB hq_; have BK181 := n0_; have HB := n1_; clear n0_ n1_))) | ((with_reducible refine gate_dst (N := 8) rfl ?_); refine Kd.S_make (Kd.slice 91 k91) _ 43 rfl (N := 8) rfl 42 _ _ rfl 16 rfl rfl Try.underlying42 (.slice none 0 0) 24 info43 rfl (by decide) (by omega) [] (ok := fun _ => True) (okp := fun _ => True) ⟨_, rfl, Kd.R_nil _ _ _ _ _⟩ (fun _ hk => hk) trivial (by omega) (by omega) (Below.refl _ _) (Nat.le_refl _) ?_; intro v184 w6 ho7 hb hg_ hnew_; clear hg_ hnew_; (first | rw [← Ny183.out] at ho7 | (simp only [Int.reduceToNat] at ho7; rw [← Ny183.out] at ho7)); have n0_ := Aside0.mk (Kd.S_lower ho7 (below_size bl_)); have n1_ := Aside0.mk (blk_below (up_ BK181.out) hb); have n2_ := Aside0.mk (below_step bl_ hb); clear BK181; clear HB; have HO185 := n0_; have BK181 := n1_; have HB := n2_; clear n0_ n1_ n2_; clear hb ho7; obtain ⟨Ao8, co8, eo8⟩ := Kd.S_slice HO185.out; subst eo8; have hcz9_0 : w6.cell? ⟨gb181, 0, none⟩ = some (.int .i64 0) := (blk_cell BK181.out 0).trans rfl; have hcz9_1 : w6.cell? ⟨gb181, 1, none⟩ = some (.slice none 0 0) := (blk_cell BK181.out 1).trans rfl; have hcz9_2 : w6.cell? ⟨gb181, 2, none⟩ = some (.slice none 0 0) := (blk_cell BK181.out 2).trans rfl; have hfz9_0 := blk_frozen BK181.out 0; have hfz9_1 := blk_frozen BK181.out 1; have hfz9_2 := blk_frozen BK181.out 2))
   refine bodyPost_ret (results_cell_row rfl _ _ gb181 45 #[.int .i64 a0, .slice Ao8 y183.length co8, .slice none 0 0] (0, 0) _ rfl (by (with_reducible repeat (first | refine blk_drewN ?_ _ | refine blk_drew ?_ | refine blk_alloc ?_ _)); refine blk_put (cs := #[.int .i64 a0, .slice Ao8 y183.length co8, .slice none 0 0]) ?_ 2 _ rfl; (with_reducible repeat (first | refine blk_drewN ?_ _ | refine blk_drew ?_ | refine blk_alloc ?_ _)); refine blk_put (cs := #[.int .i64 a0, .slice none 0 0, .slice none 0 0]) ?_ 1 _ rfl; (with_reducible repeat (first | refine blk_drewN ?_ _ | refine blk_drew ?_ | refine blk_alloc ?_ _)); refine blk_put (cs := #[.int .i64 0, .slice none 0 0, .slice none 0 0]) ?_ 0 _ rfl; (with_reducible repeat (first | refine blk_drewN ?_ _ | refine blk_drew ?_ | refine blk_alloc ?_ _)); exact BK181.out) Try.underlying45 rfl (by kernel_rfl)) rfl ?_
   exact ⟨_, _, by first | rfl | (simp [errW_none, errW_some] <;> rfl) | (simp [*, errW_none, errW_some] <;> rfl), by (with_reducible repeat (first | apply Kd.S_alloc | apply Kd.S_drewN | apply Kd.S_drew)); exact Kd.S_mono (Kd.S_far (p := ⟨gb181, 2, none⟩) (Kd.S_far (p := ⟨gb181, 1, none⟩) (Kd.S_far (p := ⟨gb181, 0, none⟩) (Kd.S_types HO185.out BK181.out (by decide)) (fun _ hk => hk.2) (.int .i64 a0)) (fun _ hk => hk.2) (.slice Ao8 y183.length co8)) (fun _ hk => hk.2) (.slice none 0 0)) (fun _ hk => (by simp [Value.ownBlock])), by first | exact Kd.R_nil _ _ _ _ _ | exact Kd.N_nil _ _ _ _ _ | exact Kd.V_nil _ _ _ _ _ | exact Kd.Q_nil _ _ _ _ _ | exact Kd.S_nil _ _ _ _ _, bl_⟩
  ·
   rw [if_neg c4] at H
   exact absurd H (by simp)
 ·
  replace c3 := Bool.eq_false_iff.mpr c3
  subst c3
  have H1 : (some (0, ([] : List (List (S91))), ([] : List (S91)))) = some (r1, r2, r3) := by rw [if_neg (show ¬ (false = true) by decide)] at H; exact H
  clear H
  have H := H1
  clear H1
  simp only [Option.some.injEq, Prod.mk.injEq] at H
  obtain ⟨rfl, rfl, rfl⟩ := H
  go_enter Try.func122, Try.ntmps122
  go_wp2_with (first | ((with_reducible refine gate_dst (N := 2) rfl ?_); refine box_event ?hg (N := 2) ?hd (cs := #[.int .i64 0, .slice none 0 0, .slice none 0 0]) (t := 45) ?hr ?_; (case hd => rfl); (case hg => rfl); (case hr => first | (go_simp; done) | (go_simp; rfl)); intro gb181 hg w10 hbox hb; have n0_ := Aside0.mk (below_step bl_ hb); have n1_ := Aside0.mk (hbox); have n2_ := Aside0.mk ((by rw [hg]; exact (below_size bl_) : w.heap.size ≤ gb181)); have n3_ := Aside0.mk ((by rw [hg]; exact (below_size bl_) : w.heap.size ≤ gb181)); clear HB; have HB := n0_; have BK181 := n1_; have GW181 := n2_; have GE181 := n3_; clear n0_ n1_ n2_ n3_; clear hb hbox hg) | ((with_reducible refine gate_callee (f := 62) rfl ?_); refine gL_ (some 4) Try.func62 #[.int .i64 a0] ?_; (with_reducible refine (spec_l07Time.calls a0 false _ A2.out).mono ?_); rintro e w' ⟨rfl, ⟨nd, rfl⟩⟩; refine ⟨_, rfl, ?_⟩; (try (rw [drewN_self w10]; generalize hq_ : World.drewN w10 _ = w10; have n0_ : Aside0 (w10.heap[gb181]? = some (.cells #[.int .i64 0, .slice none 0 0, .slice none 0 0] 45 (0, 0))) := ⟨by rw [← hq_]; exact (by exact up_ BK181.out)⟩; have n1_ : Aside0 (Below w.heap.size w w10) := ⟨by rw [← hq_]; exact bl_⟩; clear BK181 HB hq_; have BK181 := n0_; have HB := n1_; clear n0_ n1_)); have hcz11_0 : w10.cell? ⟨gb181, 0, none⟩ = some (.int .i64 0) := (blk_cell BK181.out 0).trans rfl; have hcz11_1 : w10.cell? ⟨gb181, 1, none⟩ = some (.slice none 0 0) := (blk_cell BK181.out 1).trans rfl; have hcz11_2 : w10.cell? ⟨gb181, 2, none⟩ = some (.slice none 0 0) := (blk_cell BK181.out 2).trans rfl; have hfz11_0 := blk_frozen BK181.out 0; have hfz11_1 := blk_frozen BK181.out 1; have hfz11_2 := blk_frozen BK181.out 2))
  refine bodyPost_ret (results_cell_row rfl _ _ gb181 45 #[.int .i64 0, .slice none 0 0, .slice none 0 0] (0, 0) _ rfl (by (with_reducible repeat (first | refine blk_drewN ?_ _ | refine blk_drew ?_ | refine blk_alloc ?_ _)); refine blk_put (cs := #[.int .i64 0, .slice none 0 0, .slice none 0 0]) ?_ 2 _ rfl; (with_reducible repeat (first | refine blk_drewN ?_ _ | refine blk_drew ?_ | refine blk_alloc ?_ _)); refine blk_put (cs := #[.int .i64 0, .slice none 0 0, .slice none 0 0]) ?_ 1 _ rfl; (with_reducible repeat (first | refine blk_drewN ?_ _ | refine blk_drew ?_ | refine blk_alloc ?_ _)); refine blk_put (cs := #[.int .i64 0, .slice none 0 0, .slice none 0 0]) ?_ 0 _ rfl; (with_reducible repeat (first | refine blk_drewN ?_ _ | refine blk_drew ?_ | refine blk_alloc ?_ _)); exact BK181.out) Try.underlying45 rfl (by kernel_rfl)) rfl ?_
  exact ⟨_, _, by first | rfl | (simp [errW_none, errW_some] <;> rfl) | (simp [*, errW_none, errW_some] <;> rfl), by first | exact Kd.S_nil _ _ _ _ _ | exact Kd.N_nil _ _ _ _ _ | exact Kd.V_nil _ _ _ _ _ | exact Kd.Q_nil _ _ _ _ _ | exact Kd.R_nil _ _ _ _ _, by first | exact Kd.R_nil _ _ _ _ _ | exact Kd.N_nil _ _ _ _ _ | exact Kd.V_nil _ _ _ _ _ | exact Kd.Q_nil _ _ _ _ _ | exact Kd.S_nil _ _ _ _ _, bl_⟩

/-! ### spec_l08Of: function 80 -/
theorem R91_ok {e base : Nat} {ok ok' : Nat → Prop} {w : World} {v : Value} {xs : List S91} (h : k91.R e w base ok v xs) (hok : ∀ k, v.ownBlock = some k → ok' k) : k91.R e w base ok' v xs :=
 ⟨hok, h.2.imp fun inner ⟨ho, hr⟩ => ⟨ho, hr.imp_ (fun p c hp => by rw [k91_openM hp]; exact k91_mkM _ _ _ p)⟩⟩

def insA (p : S91 → Bool) (l : List S91) (t : S91) : List S91 := ([] ++ l.take (l.takeWhile p).length ++ [t]) ++ l.drop (l.takeWhile p).length
def pF (t x : S91) : Bool := decide (x.f1 < t.f1 ∨ x.f1 = t.f1 ∧ x.f0 < t.f0)
def pN (t x : S91) : Bool := decide (x.f0 < t.f0)
def stepW (now : Int) (s : List (List S91) × List S91) (t : S91) : Option (List (List S91) × List S91) :=
 if now + 16 < t.f1 then (if s.2.length ≤ 1000 then some (s.1, insA (pF t) s.2 t) else none) else
  if 0 ≤ Int.tmod t.f1 16 ∧ Int.tmod t.f1 16 < s.1.length ∧ (rd_L4 s.1 (Int.tmod t.f1 16)).length ≤ 1000 then some (s.1.set (Int.tmod t.f1 16).toNat (insA (pN t) (rd_L4 s.1 (Int.tmod t.f1 16)) t), s.2) else none
def foldW (now : Int) : List (List S91) × List S91 → List S91 → Option (List (List S91) × List S91)
 | s, [] => some s
 | s, t :: l => (stepW now s t).bind fun s => foldW now s l
theorem tw_len {p : S91 → Bool} : ∀ {l : List S91} {j : Nat} (_ : j ≤ l.length) (_ : ∀ q (hq : q < j), p (rd_T91 l (q : Int)) = true) (_ : j = l.length ∨ p (rd_T91 l (j : Int)) = false), (l.takeWhile p).length = j
 | [], j, hj, _, _ => by simp at hj; subst hj; rfl
 | x :: l, 0, _, _, h2 => by
  have h3 : p x = false := by
   rcases h2 with h | h
   ·
    simp at h
   ·
    simpa [rd_T91] using h
  rw [List.takeWhile_cons_of_neg (by simp [h3])]
  rfl
 | x :: l, j + 1, hj, h1, h2 => by
  have h3 : p x = true := by have := h1 0 (by omega); simpa [rd_T91] using this
  rw [List.takeWhile_cons_of_pos h3, List.length_cons, tw_len (l := l) (j := j) (by simpa using hj) (fun q hq => by have := h1 (q + 1) (by omega); simpa [rd_T91] using this) (h2.imp (fun h => by simpa using h) (fun h => by simpa [rd_T91] using h))]
theorem before_f (x t : S91) : spec_l08Before.f x.f0 x.f1 t.f0 t.f1 = some (pF t x) := by
 unfold spec_l08Before.f pF
 by_cases h1 : x.f1 < t.f1
 ·
  simp [h1]
 ·
  by_cases h2 : x.f1 = t.f1
  ·
   simp [h2]
  ·
   simp [h1, h2]
def spec_l08Of.f (a0 : Int) (l1 : List S91) : Option (Int × List (List S91) × List S91) :=
 (spec_WheelNew.f a0).bind fun n => if wrap64 (a0 + 16) = a0 + 16 ∧ l1.length ≤ 1000 then (foldW a0 (n.2.1, n.2.2) l1).map fun s => (n.1, s.1, s.2) else none
set_option maxHeartbeats 16000000 in
set_option maxRecDepth 100000 in
theorem spec_l08Of.calls (a0 : Int) (A1 : Option Addr) (c1 : Nat) (l1 : List (S91)) (r1 : Int) (r2 : List (List (S91))) (r3 : List (S91)) (w : World) (hr1 : Kd.C k91 w A1 l1.length l1) (hc1 : l1.length ≤ c1) (h : spec_l08Of.f a0 l1 = some (r1, r2, r3)) :
  Calls Try.prog 80 #[.int .i64 a0, .slice A1 l1.length c1] w fun e w' => ∃ v1_ v2_ : Value, e = .returned (.agg #[.int .i64 r1, v1_, v2_]) ∧ Kd.S (Kd.slice 91 k91) 43 w' w.heap.size (fun k_ => some k_ ≠ (v2_ : Value).ownBlock) v1_ r2 ∧ Kd.R k91 91 w' w.heap.size (fun _ => True) v2_ r3 ∧ Below w.heap.size w w' := by
 have hu45 := Try.underlying45
 have hu91 := Try.underlying91
 unfold spec_l08Of.f at h
 obtain ⟨⟨t0, n2, n3⟩, hnew, h⟩ := Option.bind_eq_some_iff.1 h
 by_cases hcw : wrap64 (a0 + 16) = a0 + 16 ∧ l1.length ≤ 1000
 ·
  rw [if_pos hcw] at h
  obtain ⟨⟨s1, s2⟩, hfold, h⟩ := Option.map_eq_some_iff.1 h
  simp only [Prod.mk.injEq] at h
  obtain ⟨rfl, rfl, rfl⟩ := h
  obtain ⟨hwr, hlen⟩ := hcw
  have HR := Aside0.mk hr1
  have HNEW := Aside0.mk hnew
  have HFOLD : Aside0 (foldW a0 (n2, n3) l1 = some (s1, s2)) := ⟨hfold⟩
  clear hr1 hnew hfold
  go_enter Try.func80, Try.ntmps80
  go_wp2_with (first
   | ((with_reducible refine gate_dst (N := 4) rfl ?_); refine box_event ?hg (N := 4) ?hd (cs := #[.int .i64 0, .slice none 0 0, .slice none 0 0]) (t := 45) ?hr ?_; (case hd => rfl); (case hg => rfl); (case hr => first | (go_simp; done) | (go_simp; rfl)); intro gb4 hg4 w1 hbox4 hb1; have BK4 := Aside0.mk hbox4; have HB := Aside0.mk hb1; have G4 : Aside0 (w.heap.size ≤ gb4 ∧ gb4 < w1.heap.size) := ⟨by rw [hg4]; exact Nat.le_refl _, blk_lt hbox4⟩; clear hbox4 hb1 hg4)
   | (go_at_call 122; refine (spec_WheelNew.calls a0 t0 n2 n3 _ HNEW.out).mono ?_; rintro e w2 ⟨v1, v2, rfl, hs2, hr2, hb2⟩; obtain ⟨AN, cN, rfl⟩ := Kd.S_slice hs2; obtain ⟨AF, cF, rfl⟩ := Kd.R_slice hr2; have HS0 := Aside0.mk (Kd.S_lower hs2 HB.out.size); have HF0 := Aside0.mk (Kd.R_lower hr2 HB.out.size); replace BK4 := Aside0.mk (blk_below BK4.out hb2); replace G4 := Aside0.mk (show w.heap.size ≤ gb4 ∧ gb4 < w2.heap.size from ⟨G4.out.1, Nat.lt_of_lt_of_le G4.out.2 hb2.size⟩); replace HB := Aside0.mk (below_then HB.out HB.out.size hb2); clear hs2 hr2 hb2)
   | ((with_reducible refine gate_dst (N := 5) rfl ?_); refine box_event ?hg (N := 5) ?hd (cs := #[.int .i64 0, .slice none 0 0, .slice none 0 0]) (t := 45) ?hr ?_; (case hd => rfl); (case hg => rfl); (case hr => first | (go_simp; done) | (go_simp; rfl)); intro gb5 hg5 w3 hbox5 hb3; have BK5 := Aside0.mk hbox5; have G5 : Aside0 (w.heap.size ≤ gb5 ∧ gb4 < gb5) := ⟨by rw [hg5]; exact HB.out.size, by rw [hg5]; exact G4.out.2⟩; replace HS0 := Aside0.mk (Kd.S_below HS0.out hb3); replace HF0 := Aside0.mk (Kd.R_below HF0.out hb3); replace BK4 := Aside0.mk (blk_below BK4.out hb3); replace HB := Aside0.mk (below_then HB.out HB.out.size hb3); clear hbox5 hb3 hg5)
   | ((with_reducible refine gate_store (t := 45) (p := 5) rfl ?_); have zc0 : w3.cell? ⟨gb5, 0, none⟩ = some (.int .i64 0) := (blk_cell BK5.out 0).trans rfl; have zc1 : w3.cell? ⟨gb5, 1, none⟩ = some (.slice none 0 0) := (blk_cell BK5.out 1).trans rfl; have zc2 : w3.cell? ⟨gb5, 2, none⟩ = some (.slice none 0 0) := (blk_cell BK5.out 2).trans rfl; have zf0 := blk_frozen BK5.out 0; have zf1 := blk_frozen BK5.out 1; have zf2 := blk_frozen BK5.out 2; refine store_event (t := 45) (p := 5) (v := ?vo_5) (w1 := (((w3.setCell ⟨gb5, 0, none⟩ (.int .i64 t0)).setCell ⟨gb5, 1, none⟩ (.slice AN n2.length cN)).setCell ⟨gb5, 2, none⟩ (.slice AF n3.length cF))) ?hg ?ho ?hn ?hr ?_; (case ho => rfl); (case hg => rfl); (case hn => rfl); (case hr => first | (go_simp; done) | (go_simp; rfl)); intro w4 hw_; clear zc0 zc1 zc2 zf0 zf1 zf2; have hp_ : w4.heap[gb5]? = some (.cells #[.int .i64 t0, .slice AN n2.length cN, .slice AF n3.length cF] 45 (0, 0)) := (by rw [hw_]; exact blk_put (cs := #[.int .i64 t0, .slice AN n2.length cN, .slice none 0 0]) (blk_put (cs := #[.int .i64 t0, .slice none 0 0, .slice none 0 0]) (blk_put (cs := #[.int .i64 0, .slice none 0 0, .slice none 0 0]) BK5.out 0 (.int .i64 t0) rfl) 1 (.slice AN n2.length cN) rfl) 2 (.slice AF n3.length cF) rfl); have hk_ : Kept w3 w4 (fun k => k = gb5) := (by rw [hw_]; exact (((Kept.refl w3 (fun k => k = gb5)).setCell (p := ⟨gb5, 0, none⟩) (.inl rfl) _).setCell (p := ⟨gb5, 1, none⟩) (.inl rfl) _).setCell (p := ⟨gb5, 2, none⟩) (.inl rfl) _); have hb_ : Below w.heap.size w w4 := (by rw [hw_]; exact below_set (below_set (below_set HB.out G5.out.1) G5.out.1) G5.out.1); replace HS0 := Aside0.mk (Kd.S_mono (ok' := fun k_ => some k_ ≠ (.slice AF n3.length cF : Value).ownBlock) (Kd.S_kept (Kd.S_types HS0.out BK5.out (by decide)) hk_ (fun k hk hs => hk.2 hs)) (fun _ hk => hk.1)); replace HF0 := Aside0.mk (Kd.R_mono (ok' := fun _ => True) (Kd.R_kept (Kd.R_types HF0.out BK5.out (by decide)) hk_ (fun k hk hs => hk.2 hs)) (fun _ _ => trivial)); replace BK4 := Aside0.mk (blk_kept BK4.out hk_ (fun hs => by have hs' : gb4 = gb5 := hs; have := G5.out; omega)); replace BK5 := Aside0.mk hp_; replace HB := Aside0.mk hb_; clear hp_ hk_ hb_ hw_))
  clear HNEW
  go_loopg [6] l1.length (fun gg s6 wr => ∃ (i : Nat) (near : List (List S91)) (far : List S91) (AN : Option Addr) (cN : Nat) (AF : Option Addr) (cF : Nat), s6 = .int .i64 i ∧ i ≤ l1.length ∧ l1.length - i ≤ gg ∧ Aside0 (foldW a0 (near, far) (l1.drop i) = some (s1, s2)) ∧ Aside0 (wr.heap[gb4]? = some (.cells #[.int .i64 0, .slice none 0 0, .slice none 0 0] 45 (0, 0))) ∧ Aside0 (wr.heap[gb5]? = some (.cells #[.int .i64 t0, .slice AN near.length cN, .slice AF far.length cF] 45 (0, 0))) ∧ Aside0 (Kd.S (Kd.slice 91 k91) 43 wr w.heap.size (fun k_ => some k_ ≠ (.slice AF far.length cF : Value).ownBlock) (.slice AN near.length cN) near) ∧ Aside0 (Kd.R k91 91 wr w.heap.size (fun _ => True) (.slice AF far.length cF) far) ∧ Aside0 (Below w.heap.size w wr))
  case atStart => exact ⟨0, n2, n3, AN, cN, AF, cF, rfl, Nat.zero_le _, by omega, ⟨by rw [List.drop_zero]; exact HFOLD.out⟩, BK4, BK5, HS0, HF0, HB⟩
  case round =>
   clear HS0 HF0 BK4 BK5 HB HFOLD
   obtain ⟨i, near, far, AN, cN, AF, cF, rfl, hi, hg, HFO, BK4, BK5, HS, HF, HB⟩ := hrel
   by_cases hlt : i < l1.length
   ·
    obtain ⟨ad, e, hx0, hx1⟩ := at_T91 HR.out (i : Int) (by omega) (by omega)
    cases e
    replace hx0 := pw_cell_below HB.out hx0
    replace hx1 := pw_cell_below HB.out hx1
    simp only [Int.toNat_natCast] at hx0 hx1
    have hdr : l1.drop i = rd_T91 l1 i :: l1.drop (i + 1) := by
     rw [List.drop_eq_getElem_cons hlt]; simp [rd_T91, List.getD_eq_getElem?_getD, hlt]
    have hfo := HFO.out
    rw [hdr, foldW] at hfo
    generalize rd_T91 l1 i = t at hx0 hx1 hfo
    clear HFO hdr
    obtain ⟨⟨near', far'⟩, hstep, hfo⟩ := Option.bind_eq_some_iff.1 hfo
    have HFO := Aside0.mk hfo
    clear hfo
    have hltz : (i : Int) < (l1.length : Int) := by omega
    unfold stepW at hstep
    by_cases hfar : a0 + 16 < t.f1
    ·
     rw [if_pos hfar] at hstep
     split at hstep
     case isFalse => cases hstep
     rename_i hfl
     simp only [Option.some.injEq, Prod.mk.injEq] at hstep
     obtain ⟨rfl, rfl⟩ := hstep
     have HFL := Aside0.mk hfl
     clear hfl
     go_upto_block 2 with fail
     have hb7 : Below wr.heap.size wr (wr.alloc (.cells #[.int .i64 t.f0, .int .i64 t.f1] 91 (0, 0))) := below_alloc (Below.refl _ _) _
     have hk7 : (wr.alloc (.cells #[.int .i64 t.f0, .int .i64 t.f1] 91 (0, 0))).heap[wr.heap.size]? = some (.cells #[.int .i64 t.f0, .int .i64 t.f1] 91 (0, 0)) := heap_alloc_new _ _
     have hs7 : (wr.alloc (.cells #[.int .i64 t.f0, .int .i64 t.f1] 91 (0, 0))).heap.size = wr.heap.size + 1 := by simp
     generalize wr.alloc (.cells #[.int .i64 t.f0, .int .i64 t.f1] 91 (0, 0)) = w7 at hb7 hk7 hs7 ⊢
     obtain ⟨g7, hg7⟩ : ∃ g7, g7 = wr.heap.size := ⟨_, rfl⟩
     rw [← hg7] at hk7 ⊢
     have BK7 := Aside0.mk hk7
     have G7 : Aside0 (gb5 < g7 ∧ g7 < w7.heap.size) := ⟨by rw [hg7]; exact blk_lt BK5.out, by omega⟩
     replace BK4 := Aside0.mk (blk_below BK4.out hb7)
     replace BK5 := Aside0.mk (blk_below BK5.out hb7)
     replace HS := Aside0.mk (Kd.S_below HS.out hb7)
     replace HF := Aside0.mk (Kd.R_below HF.out hb7)
     replace HB := Aside0.mk (below_then HB.out HB.out.size hb7)
     clear hb7 hk7 hs7 hg7 hx0 hx1
     have HWR := Aside0.mk hwr
     clear hwr
     go_cut [8] (fun s8 wc => ∃ j : Nat, s8 = .int .i64 j ∧ Aside0 ((far.takeWhile (pF t)).length = j ∧ j ≤ far.length) ∧ Aside0 (Below w7.heap.size w7 wc))
     case first =>
      go_wp2_with fail
      go_loopg [8] far.length (fun gg s8 wq => ∃ j : Nat, s8 = .int .i64 j ∧ j ≤ far.length ∧ far.length - j ≤ gg ∧ Aside0 (∀ q (hq : q < j), pF t (rd_T91 far (q : Int)) = true) ∧ Aside0 (Below w7.heap.size w7 wq))
      case atStart => exact ⟨0, rfl, Nat.zero_le _, by omega, ⟨fun q hq => absurd hq (Nat.not_lt_zero _)⟩, ⟨Below.refl _ _⟩⟩
      case round =>
       obtain ⟨j, rfl, hj, hg8, HP, HQ⟩ := hrel
       have BKQ5 := Aside0.mk (blk_below BK5.out HQ.out)
       have BKQ7 := Aside0.mk (blk_below BK7.out HQ.out)
       by_cases hjl : j < far.length
       ·
        have hC := Kd.C_below (Kd.R_reads' HF.out).2.2 HQ.out
        obtain ⟨af, ef, hy0, hy1⟩ := at_T91 hC (j : Int) (by omega) (by omega)
        subst ef
        simp only [Int.toNat_natCast] at hy0 hy1
        clear hC
        obtain ⟨x, hx⟩ : ∃ x, x = rd_T91 far (j : Int) := ⟨_, rfl⟩
        rw [← hx] at hy0 hy1
        have HX := Aside0.mk hx
        clear hx
        have hjz : (j : Int) < (far.length : Int) := by omega
        cases hp : pF t x with
        | true =>
         have HPX := Aside0.mk hp
         have HBEF : Aside0 (spec_l08Before.f x.f0 x.f1 t.f0 t.f1 = some true) := ⟨by rw [before_f, hp]⟩
         clear hp
         go_wp2
         refine start_ (n := 14) (S := fun w' => Below wr.heap.size wr w') (ds := []) #[false, false, false, false, false, false, false, false, false, false, false, false, false, false] (by kernel_rfl) rfl rfl (below_drew (Below.refl _ _)) (fun hHeld => ?_)
         refine qu_ 0 30 ?_
         refine qu_ 1 31 ?_
         refine qt_ 2 32 hHeld ?_ rfl rfl (by intro w' sb_; have s0_ : w'.cell? ⟨gb5, 2, none⟩ = some (.slice (some af) far.length cF) := pw_cell_below sb_ ((blk_cell BKQ5.out 2).trans rfl); clear sb_; go_simp; with_reducible rfl)
         refine qu_ 3 33 ?_
         refine qu_ 4 34 ?_
         refine qu_ 5 35 ?_
         refine qu_ 6 36 ?_
         refine qt_ 7 37 hHeld ?_ rfl rfl (by intro w' sb_; have s0_ : w'.cell? ⟨gb5, 2, none⟩ = some (.slice (some af) far.length cF) := pw_cell_below sb_ ((blk_cell BKQ5.out 2).trans rfl); clear sb_; go_simp; with_reducible rfl)
         refine qu_ 8 38 ?_
         refine qu_ 9 39 ?_
         refine qt_ 10 40 hHeld ?_ rfl rfl (by intro w' sb_; have s0_ := pw_cell_below sb_ hy0; have s1_ := pw_cell_below sb_ hy1; clear sb_; go_simp; with_reducible rfl)
         refine qt_ 11 41 hHeld ?_ rfl rfl (by intro w' sb_; have s0_ : w'.cell? ⟨g7, 0, none⟩ = some (.int .i64 t.f0) := pw_cell_below sb_ ((blk_cell BKQ7.out 0).trans rfl); have s1_ : w'.cell? ⟨g7, 1, none⟩ = some (.int .i64 t.f1) := pw_cell_below sb_ ((blk_cell BKQ7.out 1).trans rfl); clear sb_; go_simp; with_reducible rfl)
         refine qo_ 12 (some 42) (fun K hK => ?_)
         refine qc_ Try.func65 #[.agg #[.int .i64 x.f0, .int .i64 x.f1], .agg #[.int .i64 t.f0, .int .i64 t.f1]] ?_
         refine (spec_l08Before.calls x.f0 x.f1 t.f0 t.f1 true _ HBEF.out).mono ?_
         rintro e wz ⟨rfl, hbz⟩
         refine ⟨_, rfl, ?_⟩
         have hz_ := below_then hHeld hHeld.size hbz
         clear hbz hHeld
         refine hK.out _ _ hz_ (fun hHeld => ?_)
         clear hK K hz_
         refine qm_ ?_
         refine qu_ 13 43 ?_
         refine done_ (by kernel_rfl) ?_
         go_wp2
         go_roundg (far.length - (j + 1))
         case measure => omega
         case rel => exact ⟨j + 1, by first | rfl | (rw [show wrap64 ((j : Int) + 1) = ((j + 1 : Nat) : Int) by have := HFL.out; unfold wrap64; omega]), by omega, by omega, ⟨fun q hq => by
          by_cases e : q = j
          ·
           subst e; rw [← HX.out]; exact HPX.out
          ·
           exact HP.out q (by omega)⟩, ⟨below_then HQ.out HQ.out.size hHeld⟩⟩
        | false =>
         have HPX := Aside0.mk hp
         have HBEF : Aside0 (spec_l08Before.f x.f0 x.f1 t.f0 t.f1 = some false) := ⟨by rw [before_f, hp]⟩
         clear hp
         go_wp2
         refine start_ (n := 14) (S := fun w' => Below wr.heap.size wr w') (ds := []) #[false, false, false, false, false, false, false, false, false, false, false, false, false, false] (by kernel_rfl) rfl rfl (below_drew (Below.refl _ _)) (fun hHeld => ?_)
         refine qu_ 0 30 ?_
         refine qu_ 1 31 ?_
         refine qt_ 2 32 hHeld ?_ rfl rfl (by intro w' sb_; have s0_ : w'.cell? ⟨gb5, 2, none⟩ = some (.slice (some af) far.length cF) := pw_cell_below sb_ ((blk_cell BKQ5.out 2).trans rfl); clear sb_; go_simp; with_reducible rfl)
         refine qu_ 3 33 ?_
         refine qu_ 4 34 ?_
         refine qu_ 5 35 ?_
         refine qu_ 6 36 ?_
         refine qt_ 7 37 hHeld ?_ rfl rfl (by intro w' sb_; have s0_ : w'.cell? ⟨gb5, 2, none⟩ = some (.slice (some af) far.length cF) := pw_cell_below sb_ ((blk_cell BKQ5.out 2).trans rfl); clear sb_; go_simp; with_reducible rfl)
         refine qu_ 8 38 ?_
         refine qu_ 9 39 ?_
         refine qt_ 10 40 hHeld ?_ rfl rfl (by intro w' sb_; have s0_ := pw_cell_below sb_ hy0; have s1_ := pw_cell_below sb_ hy1; clear sb_; go_simp; with_reducible rfl)
         refine qt_ 11 41 hHeld ?_ rfl rfl (by intro w' sb_; have s0_ : w'.cell? ⟨g7, 0, none⟩ = some (.int .i64 t.f0) := pw_cell_below sb_ ((blk_cell BKQ7.out 0).trans rfl); have s1_ : w'.cell? ⟨g7, 1, none⟩ = some (.int .i64 t.f1) := pw_cell_below sb_ ((blk_cell BKQ7.out 1).trans rfl); clear sb_; go_simp; with_reducible rfl)
         refine qo_ 12 (some 42) (fun K hK => ?_)
         refine qc_ Try.func65 #[.agg #[.int .i64 x.f0, .int .i64 x.f1], .agg #[.int .i64 t.f0, .int .i64 t.f1]] ?_
         refine (spec_l08Before.calls x.f0 x.f1 t.f0 t.f1 false _ HBEF.out).mono ?_
         rintro e wz ⟨rfl, hbz⟩
         refine ⟨_, rfl, ?_⟩
         have hz_ := below_then hHeld hHeld.size hbz
         clear hbz hHeld
         refine hK.out _ _ hz_ (fun hHeld => ?_)
         clear hK K hz_
         refine qm_ ?_
         refine qu_ 13 43 ?_
         refine done_ (by kernel_rfl) ?_
         go_wp2
         go_meet
         case rel => exact ⟨j, rfl, ⟨tw_len hj HP.out (.inr (by rw [← HX.out]; exact HPX.out)), hj⟩, ⟨below_then HQ.out HQ.out.size hHeld⟩⟩
       ·
        have hjz : ¬ (j : Int) < (far.length : Int) := by omega
        go_wp2
        refine start_ (n := 14) (S := fun w' => Below wr.heap.size wr w') (ds := []) #[false, false, false, false, false, false, false, false, false, false, false, false, false, false] (by kernel_rfl) rfl rfl (below_drew (Below.refl _ _)) (fun hHeld => ?_)
        refine qu_ 0 30 ?_
        refine qu_ 1 31 ?_
        refine qt_ 2 32 hHeld ?_ rfl rfl (by intro w' sb_; have s0_ : w'.cell? ⟨gb5, 2, none⟩ = some (.slice AF far.length cF) := pw_cell_below sb_ ((blk_cell BKQ5.out 2).trans rfl); clear sb_; go_simp; with_reducible rfl)
        refine qu_ 3 33 ?_
        refine qu_ 4 34 ?_
        refine qu_ 5 35 ?_
        refine qn_ 6 36 ?_
        refine qn_ 7 37 ?_
        refine qn_ 8 38 ?_
        refine qn_ 9 39 ?_
        refine qn_ 10 40 ?_
        refine qn_ 11 41 ?_
        refine qn_ 12 42 ?_
        refine qu_ 13 43 ?_
        refine done_ (by kernel_rfl) ?_
        go_wp2
        go_meet
        case rel => exact ⟨j, rfl, ⟨tw_len hj HP.out (.inl (by omega)), hj⟩, ⟨below_then HQ.out HQ.out.size hHeld⟩⟩
     case rest =>
      obtain ⟨j, rfl, HJ, HQ⟩ := hcut
      replace BK4 := Aside0.mk (blk_below BK4.out HQ.out)
      replace BK5 := Aside0.mk (blk_below BK5.out HQ.out)
      replace BK7 := Aside0.mk (blk_below BK7.out HQ.out)
      replace HS := Aside0.mk (Kd.S_below HS.out HQ.out)
      replace HF := Aside0.mk (Kd.R_below HF.out HQ.out)
      replace HB := Aside0.mk (below_then HB.out HB.out.size HQ.out)
      clear HQ
      have HRD : Aside0 (far.length ≤ cF ∧ Kd.C k91 wc AF far.length far) := ⟨(Kd.R_reads' HF.out).2⟩
      obtain ⟨i091, hi091, hza_, hsz91, hzb_⟩ := info_parts info91
      have hcutT := cut_to (P := Try.prog) 43 91 .i64 Try.underlying43 hi091 AF (far).length cF (j : Int) (by omega) (by have := HJ.out.2; omega) HRD.out.1
      have hcutF := cut_from (P := Try.prog) 43 91 .i64 Try.underlying43 hi091 2 hsz91 AF (far).length cF (j : Int) (by omega) (by have := HJ.out.2; omega)
      simp only [Int.toNat_natCast] at hcutT hcutF
      have hct := Kd.C_take (m := j) HRD.out.2 HJ.out.2
      have hcf := Kd.C_drop (m := j) (c := cF) HRD.out.2 HJ.out.2 HRD.out.1
      obtain ⟨A2, hA2⟩ : ∃ A2 : Option Addr, A2 = (if cF = j then AF else (AF : Option Addr).map (·.add (j * 2))) := ⟨_, rfl⟩
      rw [← hA2] at hcutF
      rw [show (AF : Option Addr).map (·.add (j * k91.sz)) = (AF : Option Addr).map (·.add (j * 2)) from rfl, ← hA2] at hcf
      rw [show ((far).take j).length = j by rw [List.length_take]; have := HJ.out.2; omega] at hct
      rw [show ((far).drop j).length = (far).length - j by rw [List.length_drop]] at hcf
      have HCT := Aside0.mk hct
      have HCF := Aside0.mk hcf
      have HLEN : Aside0 (j ≤ (far).length ∧ (far).length ≤ 1000) := ⟨HJ.out.2, HFL.out⟩
      clear hct hcf hA2 hi091 hsz91 hza_ hzb_ i091
      obtain ⟨fn, hfn⟩ : ∃ fn, fn = insA (pF t) far t := ⟨_, rfl⟩
      have HINS : Aside0 (([] ++ far.take j ++ [t] ++ far.drop j) = fn) := ⟨by rw [hfn]; unfold insA; rw [HJ.out.1]⟩
      have HFN := Aside0.mk hfn.symm
      clear hfn
      go_wp2_with (first
       | ((with_reducible refine gate_dst (N := 46) rfl ?_); refine Kd.R_lit k91 (w0 := wc) wc.heap.size 91 ?hg (N := 46) ?hd (xs := ([] : List (S91))) (inner := []) (ok := fun _ => True) (okp := fun _ => True) ?hr ?hp (fun _ hk => hk) trivial (Below.refl _ _) (Nat.le_refl _) (by simp) ?_; (case hd => rfl); (case hg => rfl); (case hr => first | (go_simp; done) | (go_simp; rfl)); (case hp => exact (Reps.none _ _)); intro v46 w46 ho_ hb_ hg_ hn_; have HN := Aside0.mk ho_; have HBL := Aside0.mk hb_; clear ho_ hb_ hg_ hn_; have hb5_ : w46.cell? ⟨gb5, 2, none⟩ = some (.slice AF far.length cF) := (blk_cell (blk_below BK5.out HBL.out) 2).trans rfl)
       | ((with_reducible refine gate_builtin (b := .append) (xs := #[.tmp 46, .tmp 50]) rfl ?_); at_builtin; refine Kd.R_append_rows k91 (w0 := wc) wc.heap.size rfl (.tmp 46) (.tmp 50) 43 91 _ 16 rfl Try.underlying43 info91 rfl (by decide) (by decide) v46 ([]) (far.take j) AF (j) (cF) (fun _ => True) (fun _ => False) rfl rfl HN.out (Kd.C_below HCT.out HBL.out) (fun x cs h => by rw [k91_open h]; exact k91_mkM _ _ _ _) (fun k hk => hk.elim) (fun _ _ => trivial) HBL.out HBL.out.size ?aL ?_; (case aL => have := HLEN.out; simp only [List.length_append, List.length_nil, List.length_take, List.length_cons, List.length_drop]; omega); intro v51 w51 ho_ hb_ hg_ hn_; (try rw [HINS.out] at ho_); replace HN := Aside0.mk ho_; replace HBL := Aside0.mk hb_; clear ho_ hb_ hg_ hn_; clear hb5_; have hb70_ : w51.cell? ⟨g7, 0, none⟩ = some (.int .i64 t.f0) := (blk_cell (blk_below BK7.out HBL.out) 0).trans rfl; have hb71_ : w51.cell? ⟨g7, 1, none⟩ = some (.int .i64 t.f1) := (blk_cell (blk_below BK7.out HBL.out) 1).trans rfl)
       | ((with_reducible refine gate_builtin (b := .append) (xs := #[.tmp 52, .tmp 54]) rfl ?_); at_builtin; refine Kd.R_append k91 (w0 := wc) wc.heap.size rfl (.tmp 52) (.tmp 54) 43 91 (.agg #[(.int .i64 0), (.int .i64 0)]) 16 rfl Try.underlying43 info91 rfl (by decide) (by omega) v51 ([] ++ far.take j) t [.int .i64 t.f0, .int .i64 t.f1] (fun _ => True) (fun _ => False) rfl rfl ?aP (fun _ hk => hk.elim) (fun _ _ => trivial) HN.out HBL.out HBL.out.size ?aL ?_; (case aP => exact k91_mkM _ _ _ t); (case aL => have := HLEN.out; simp only [List.length_append, List.length_nil, List.length_take, List.length_cons]; omega); intro v55 w55 ho_ hb_ hg_ hn_; replace HN := Aside0.mk ho_; replace HBL := Aside0.mk hb_; clear ho_ hb_ hg_ hn_; clear hb70_ hb71_; have hb5_ : w55.cell? ⟨gb5, 2, none⟩ = some (.slice AF far.length cF) := (blk_cell (blk_below BK5.out HBL.out) 2).trans rfl)
       | ((with_reducible refine gate_builtin (b := .append) (xs := #[.tmp 56, .tmp 60]) rfl ?_); at_builtin; refine Kd.R_append_rows k91 (w0 := wc) wc.heap.size rfl (.tmp 56) (.tmp 60) 43 91 _ 16 rfl Try.underlying43 info91 rfl (by decide) (by decide) v55 ([] ++ far.take j ++ [t]) (far.drop j) A2 (far.length - j) (cF - j) (fun _ => True) (fun _ => False) rfl rfl HN.out (Kd.C_below HCF.out HBL.out) (fun x cs h => by rw [k91_open h]; exact k91_mkM _ _ _ _) (fun k hk => hk.elim) (fun _ _ => trivial) HBL.out HBL.out.size ?aL ?_; (case aL => have := HLEN.out; simp only [List.length_append, List.length_nil, List.length_take, List.length_cons, List.length_drop]; omega); intro v61 w61 ho_ hb_ hg_ hn_; (try rw [HINS.out] at ho_); replace HN := Aside0.mk ho_; replace HBL := Aside0.mk hb_; clear ho_ hb_ hg_ hn_; obtain ⟨A61, c61, rfl⟩ := Kd.R_slice HN.out; clear hb5_; have BK5b := Aside0.mk (blk_below BK5.out HBL.out); have hz5_ : w61.cell? ⟨gb5, 2, none⟩ = some (.slice AF far.length cF) := (blk_cell BK5b.out 2).trans rfl; have hf5_ := blk_frozen BK5b.out 2))
      have BK4b := Aside0.mk (blk_below BK4.out HBL.out)
      have HSb := Aside0.mk (Kd.S_below (Kd.S_bound HS.out) HBL.out)
      have hk_ : Kept w61 (w61.setCell ⟨gb5, 2, none⟩ (.slice A61 fn.length c61)) (fun k => k = gb5) := (Kept.refl w61 (fun k => k = gb5)).setCell (p := ⟨gb5, 2, none⟩) (.inl rfl) _
      have hb_ : Below w.heap.size w (w61.setCell ⟨gb5, 2, none⟩ (.slice A61 fn.length c61)) := below_set (below_then HB.out HB.out.size HBL.out) G5.out.1
      have hp_ : (w61.setCell ⟨gb5, 2, none⟩ (.slice A61 fn.length c61)).heap[gb5]? = some (.cells #[.int .i64 t0, .slice AN near.length cN, .slice A61 fn.length c61] 45 (0, 0)) := blk_put (cs := #[.int .i64 t0, .slice AN near.length cN, .slice AF far.length cF]) BK5b.out 2 (.slice A61 fn.length c61) rfl
      have hS_ : Kd.S (Kd.slice 91 k91) 43 (w61.setCell ⟨gb5, 2, none⟩ (.slice A61 fn.length c61)) w.heap.size (fun k_ => some k_ ≠ (.slice A61 fn.length c61 : Value).ownBlock) (.slice AN near.length cN) near :=
       Kd.S_mono (Kd.S_kept (Kd.S_types HSb.out BK5b.out (by decide)) hk_ (fun k hk hs => hk.2 hs)) (fun k hk e_ => by have h1 := Kd.R_base HN.out k e_.symm; have h2 := hk.1.2.2.1; omega)
      have hF_ : Kd.R k91 91 (w61.setCell ⟨gb5, 2, none⟩ (.slice A61 fn.length c61)) w.heap.size (fun _ => True) (.slice A61 fn.length c61) fn :=
       Kd.R_mono (Kd.R_kept (Kd.R_types (Kd.R_lower HN.out HB.out.size) BK5b.out (by decide)) hk_ (fun k hk hs => hk.2 hs)) (fun _ _ => trivial)
      have h4_ := blk_kept BK4b.out hk_ (fun hs => by have hs' : gb4 = gb5 := hs; have := G5.out; omega)
      generalize w61.setCell ⟨gb5, 2, none⟩ (.slice A61 fn.length c61) = w62 at hb_ hp_ hS_ hF_ h4_ ⊢
      clear hk_
      go_roundg (l1.length - (i + 1))
      case measure => omega
      case rel => exact ⟨i + 1, near, fn, AN, cN, A61, c61, by go_num, by omega, by omega, ⟨by rw [← HFN.out]; exact HFO.out⟩, ⟨h4_⟩, ⟨hp_⟩, ⟨hS_⟩, ⟨hF_⟩, ⟨hb_⟩⟩
    ·
     rw [if_neg hfar] at hstep
     split at hstep
     case isFalse => cases hstep
     rename_i hcond
     obtain ⟨hj0, hj1, hrl⟩ := hcond
     simp only [Option.some.injEq, Prod.mk.injEq] at hstep
     obtain ⟨rfl, rfl⟩ := hstep
     obtain ⟨ji, hji⟩ : ∃ ji : Nat, Int.tmod t.f1 16 = (ji : Int) := ⟨_, (Int.toNat_of_nonneg hj0).symm⟩
     rw [hji] at hj0 hj1 hrl HFO
     replace hj1 : (ji : Int) < (near.length : Int) := hj1
     simp only [Int.toNat_natCast] at HFO
     obtain ⟨row, hrow⟩ : ∃ row, row = rd_L4 near (ji : Int) := ⟨_, rfl⟩
     rw [← hrow] at hrl HFO
     have HFL := Aside0.mk hrl
     clear hrl
     go_upto_region 13 with fail
     have hb7 : Below wr.heap.size wr (wr.alloc (.cells #[.int .i64 t.f0, .int .i64 t.f1] 91 (0, 0))) := below_alloc (Below.refl _ _) _
     have hk7 : (wr.alloc (.cells #[.int .i64 t.f0, .int .i64 t.f1] 91 (0, 0))).heap[wr.heap.size]? = some (.cells #[.int .i64 t.f0, .int .i64 t.f1] 91 (0, 0)) := heap_alloc_new _ _
     have hs7 : (wr.alloc (.cells #[.int .i64 t.f0, .int .i64 t.f1] 91 (0, 0))).heap.size = wr.heap.size + 1 := by simp
     generalize wr.alloc (.cells #[.int .i64 t.f0, .int .i64 t.f1] 91 (0, 0)) = w7 at hb7 hk7 hs7 ⊢
     obtain ⟨g7, hg7⟩ : ∃ g7, g7 = wr.heap.size := ⟨_, rfl⟩
     rw [← hg7] at hk7 ⊢
     have BK7 := Aside0.mk hk7
     have G7 : Aside0 (gb5 < g7 ∧ g7 < w7.heap.size) := ⟨by rw [hg7]; exact blk_lt BK5.out, by omega⟩
     replace BK4 := Aside0.mk (blk_below BK4.out hb7)
     replace BK5 := Aside0.mk (blk_below BK5.out hb7)
     replace HS := Aside0.mk (Kd.S_below HS.out hb7)
     replace HF := Aside0.mk (Kd.R_below HF.out hb7)
     replace HB := Aside0.mk (below_then HB.out HB.out.size hb7)
     clear hb7 hk7 hs7 hg7 hx0 hx1
     have HWR := Aside0.mk hwr
     clear hwr
     obtain ⟨gN, capN, eN, gbN, glN, clN, hclN⟩ := Kd.S_form HS.out (by omega)
     injection eN with ea eb ec
     subst ea
     subst ec
     clear eb gbN
     obtain ⟨adN, A10, c10, eA, hxr, hc10, hC10⟩ := at_L4 (Kd.S_reads' HS.out).2.2 (ji : Int) (by omega) hj1
     injection eA with eA
     subst eA
     rw [← hrow] at hxr hc10 hC10
     simp only [Int.toNat_natCast, add_plain] at hxr
     have HROW := Aside0.mk hrow
     have HXR0 := Aside0.mk hxr
     have HRD0 : Aside0 (row.length ≤ c10 ∧ Kd.C k91 w7 A10 row.length row) := ⟨hc10, hC10⟩
     have CLN0 := Aside0.mk hclN
     have GN := Aside0.mk glN
     clear hrow hc10 hC10 hclN glN
     have hb51_ : w7.cell? ⟨gb5, 1, none⟩ = some (.slice (some ⟨gN, 0, none⟩) near.length cN) := (blk_cell BK5.out 1).trans rfl
     have hb71_ : w7.cell? ⟨g7, 1, none⟩ = some (.int .i64 t.f1) := (blk_cell BK7.out 1).trans rfl
     have hjl_ : ji < near.length := by omega
     go_upto_block 4 with fail
     clear hb51_ hb71_ hxr
     go_cut [11] (fun s11 wc => ∃ j : Nat, s11 = .int .i64 j ∧ Aside0 ((row.takeWhile (pN t)).length = j ∧ j ≤ row.length) ∧ Aside0 (Below w7.heap.size w7 wc))
     case first =>
      go_wp2_with fail
      go_loopg [11] row.length (fun gg s11 wq => ∃ j : Nat, s11 = .int .i64 j ∧ j ≤ row.length ∧ row.length - j ≤ gg ∧ Aside0 (∀ q (hq : q < j), pN t (rd_T91 row (q : Int)) = true) ∧ Aside0 (Below w7.heap.size w7 wq))
      case atStart => exact ⟨0, rfl, Nat.zero_le _, by omega, ⟨fun q hq => absurd hq (Nat.not_lt_zero _)⟩, ⟨Below.refl _ _⟩⟩
      case round =>
       obtain ⟨j, rfl, hj, hg8, HP, HQ⟩ := hrel
       have BKQ7 := Aside0.mk (blk_below BK7.out HQ.out)
       by_cases hjl : j < row.length
       ·
        have hC := Kd.C_below HRD0.out.2 HQ.out
        obtain ⟨af, ef, hy0, hy1⟩ := at_T91 hC (j : Int) (by omega) (by omega)
        subst ef
        simp only [Int.toNat_natCast] at hy0 hy1
        clear hC hy1
        obtain ⟨x, hx⟩ : ∃ x, x = rd_T91 row (j : Int) := ⟨_, rfl⟩
        rw [← hx] at hy0
        have HX := Aside0.mk hx
        clear hx
        have hjz : (j : Int) < (row.length : Int) := by omega
        by_cases hp : x.f0 < t.f0
        ·
         have HPX : Aside0 (pN t x = true) := ⟨decide_eq_true hp⟩
         have hpd : decide (x.f0 < t.f0) = true := decide_eq_true hp
         go_wp2
         refine start_ (n := 14) (S := fun w' => Below wr.heap.size wr w') (ds := []) #[false, false, false, false, false, false, false, false, false, false, false, false, false, false] (by kernel_rfl) rfl rfl (below_drew (Below.refl _ _)) (fun hHeld => ?_)
         refine qu_ 0 70 ?_
         refine qu_ 1 71 ?_
         refine qu_ 2 72 ?_
         refine qu_ 3 73 ?_
         refine qu_ 4 74 ?_
         refine qu_ 5 75 ?_
         refine qu_ 6 76 ?_
         refine qu_ 7 77 ?_
         refine qu_ 8 78 ?_
         refine qt_ 9 79 hHeld ?_ rfl rfl (by intro w' sb_; have s0_ := pw_cell_below sb_ hy0; clear sb_; go_simp; with_reducible rfl)
         refine qu_ 10 80 ?_
         refine qt_ 11 81 hHeld ?_ rfl rfl (by intro w' sb_; have s0_ : w'.cell? ⟨g7, 0, none⟩ = some (.int .i64 t.f0) := pw_cell_below sb_ ((blk_cell BKQ7.out 0).trans rfl); clear sb_; go_simp; with_reducible rfl)
         refine qu_ 12 82 ?_
         refine qu_ 13 83 ?_
         refine done_ (by kernel_rfl) ?_
         go_wp2
         go_roundg (row.length - (j + 1))
         case measure => omega
         case rel => exact ⟨j + 1, by first | rfl | (rw [show wrap64 ((j : Int) + 1) = ((j + 1 : Nat) : Int) by have := HFL.out; unfold wrap64; omega]), by omega, by omega, ⟨fun q hq => by
          by_cases e : q = j
          ·
           subst e; rw [← HX.out]; exact HPX.out
          ·
           exact HP.out q (by omega)⟩, ⟨below_then HQ.out HQ.out.size hHeld⟩⟩
        ·
         have HPX : Aside0 (pN t x = false) := ⟨decide_eq_false hp⟩
         have hpd : decide (x.f0 < t.f0) = false := decide_eq_false hp
         go_wp2
         refine start_ (n := 14) (S := fun w' => Below wr.heap.size wr w') (ds := []) #[false, false, false, false, false, false, false, false, false, false, false, false, false, false] (by kernel_rfl) rfl rfl (below_drew (Below.refl _ _)) (fun hHeld => ?_)
         refine qu_ 0 70 ?_
         refine qu_ 1 71 ?_
         refine qu_ 2 72 ?_
         refine qu_ 3 73 ?_
         refine qu_ 4 74 ?_
         refine qu_ 5 75 ?_
         refine qu_ 6 76 ?_
         refine qu_ 7 77 ?_
         refine qu_ 8 78 ?_
         refine qt_ 9 79 hHeld ?_ rfl rfl (by intro w' sb_; have s0_ := pw_cell_below sb_ hy0; clear sb_; go_simp; with_reducible rfl)
         refine qu_ 10 80 ?_
         refine qt_ 11 81 hHeld ?_ rfl rfl (by intro w' sb_; have s0_ : w'.cell? ⟨g7, 0, none⟩ = some (.int .i64 t.f0) := pw_cell_below sb_ ((blk_cell BKQ7.out 0).trans rfl); clear sb_; go_simp; with_reducible rfl)
         refine qu_ 12 82 ?_
         refine qu_ 13 83 ?_
         refine done_ (by kernel_rfl) ?_
         go_wp2
         go_meet
         case rel => exact ⟨j, rfl, ⟨tw_len hj HP.out (.inr (by rw [← HX.out]; exact HPX.out)), hj⟩, ⟨below_then HQ.out HQ.out.size hHeld⟩⟩
       ·
        have hjz : ¬ (j : Int) < (row.length : Int) := by omega
        go_wp2
        refine start_ (n := 14) (S := fun w' => Below wr.heap.size wr w') (ds := []) #[false, false, false, false, false, false, false, false, false, false, false, false, false, false] (by kernel_rfl) rfl rfl (below_drew (Below.refl _ _)) (fun hHeld => ?_)
        refine qu_ 0 70 ?_
        refine qu_ 1 71 ?_
        refine qu_ 2 72 ?_
        refine qu_ 3 73 ?_
        refine qu_ 4 74 ?_
        refine qn_ 5 75 ?_
        refine qn_ 6 76 ?_
        refine qn_ 7 77 ?_
        refine qn_ 8 78 ?_
        refine qn_ 9 79 ?_
        refine qn_ 10 80 ?_
        refine qn_ 11 81 ?_
        refine qn_ 12 82 ?_
        refine qu_ 13 83 ?_
        refine done_ (by kernel_rfl) ?_
        go_wp2
        go_meet
        case rel => exact ⟨j, rfl, ⟨tw_len hj HP.out (.inl (by omega)), hj⟩, ⟨below_then HQ.out HQ.out.size hHeld⟩⟩
     case rest =>
      obtain ⟨j, rfl, HJ, HQ⟩ := hcut
      replace BK4 := Aside0.mk (blk_below BK4.out HQ.out)
      replace BK5 := Aside0.mk (blk_below BK5.out HQ.out)
      replace BK7 := Aside0.mk (blk_below BK7.out HQ.out)
      replace HS := Aside0.mk (Kd.S_below HS.out HQ.out)
      replace HF := Aside0.mk (Kd.R_below HF.out HQ.out)
      replace HB := Aside0.mk (below_then HB.out HB.out.size HQ.out)
      have HXR := Aside0.mk (pw_cell_below HQ.out HXR0.out)
      have HRD : Aside0 (row.length ≤ c10 ∧ Kd.C k91 wc A10 row.length row) := ⟨HRD0.out.1, Kd.C_below HRD0.out.2 HQ.out⟩
      have CLN := Aside0.mk (blk_below CLN0.out HQ.out)
      replace GN := Aside0.mk (Nat.lt_of_lt_of_le GN.out HQ.out.size)
      clear HQ HXR0 HRD0 CLN0
      obtain ⟨i091, hi091, hza_, hsz91, hzb_⟩ := info_parts info91
      have hcutT := cut_to (P := Try.prog) 43 91 .i64 Try.underlying43 hi091 A10 (row).length c10 (j : Int) (by omega) (by have := HJ.out.2; omega) HRD.out.1
      have hcutF := cut_from (P := Try.prog) 43 91 .i64 Try.underlying43 hi091 2 hsz91 A10 (row).length c10 (j : Int) (by omega) (by have := HJ.out.2; omega)
      simp only [Int.toNat_natCast] at hcutT hcutF
      have hct := Kd.C_take (m := j) HRD.out.2 HJ.out.2
      have hcf := Kd.C_drop (m := j) (c := c10) HRD.out.2 HJ.out.2 HRD.out.1
      obtain ⟨A2, hA2⟩ : ∃ A2 : Option Addr, A2 = (if c10 = j then A10 else (A10 : Option Addr).map (·.add (j * 2))) := ⟨_, rfl⟩
      rw [← hA2] at hcutF
      rw [show (A10 : Option Addr).map (·.add (j * k91.sz)) = (A10 : Option Addr).map (·.add (j * 2)) from rfl, ← hA2] at hcf
      rw [show ((row).take j).length = j by rw [List.length_take]; have := HJ.out.2; omega] at hct
      rw [show ((row).drop j).length = (row).length - j by rw [List.length_drop]] at hcf
      have HCT := Aside0.mk hct
      have HCF := Aside0.mk hcf
      have HLEN : Aside0 (j ≤ (row).length ∧ (row).length ≤ 1000) := ⟨HJ.out.2, HFL.out⟩
      clear hct hcf hA2 hi091 hsz91 hza_ hzb_ i091
      obtain ⟨rn, hrn⟩ : ∃ rn, rn = insA (pN t) row t := ⟨_, rfl⟩
      have HINS : Aside0 (([] ++ row.take j ++ [t] ++ row.drop j) = rn) := ⟨by rw [hrn]; unfold insA; rw [HJ.out.1]⟩
      have HRN := Aside0.mk hrn.symm
      clear hrn
      go_wp2_with (first
       | ((with_reducible refine gate_dst (N := 86) rfl ?_); refine Kd.R_lit k91 (w0 := wc) wc.heap.size 91 ?hg (N := 86) ?hd (xs := ([] : List (S91))) (inner := []) (ok := fun _ => True) (okp := fun _ => True) ?hr ?hp (fun _ hk => hk) trivial (Below.refl _ _) (Nat.le_refl _) (by simp) ?_; (case hd => rfl); (case hg => rfl); (case hr => first | (go_simp; done) | (go_simp; rfl)); (case hp => exact (Reps.none _ _)); intro v86 w86 ho_ hb_ hg_ hn_; have HN := Aside0.mk ho_; have HBL := Aside0.mk hb_; clear ho_ hb_ hg_ hn_)
       | ((with_reducible refine gate_builtin (b := .append) (xs := #[.tmp 86, .tmp 89]) rfl ?_); at_builtin; refine Kd.R_append_rows k91 (w0 := wc) wc.heap.size rfl (.tmp 86) (.tmp 89) 43 91 _ 16 rfl Try.underlying43 info91 rfl (by decide) (by decide) v86 ([]) (row.take j) A10 (j) (c10) (fun _ => True) (fun _ => False) rfl rfl HN.out (Kd.C_below HCT.out HBL.out) (fun x cs h => by rw [k91_open h]; exact k91_mkM _ _ _ _) (fun k hk => hk.elim) (fun _ _ => trivial) HBL.out HBL.out.size ?aL ?_; (case aL => have := HLEN.out; simp only [List.length_append, List.length_nil, List.length_take, List.length_cons, List.length_drop]; omega); intro v90 w90 ho_ hb_ hg_ hn_; (try rw [HINS.out] at ho_); replace HN := Aside0.mk ho_; replace HBL := Aside0.mk hb_; clear ho_ hb_ hg_ hn_; have hb70_ : w90.cell? ⟨g7, 0, none⟩ = some (.int .i64 t.f0) := (blk_cell (blk_below BK7.out HBL.out) 0).trans rfl; have hb71_ : w90.cell? ⟨g7, 1, none⟩ = some (.int .i64 t.f1) := (blk_cell (blk_below BK7.out HBL.out) 1).trans rfl)
       | ((with_reducible refine gate_builtin (b := .append) (xs := #[.tmp 91, .tmp 93]) rfl ?_); at_builtin; refine Kd.R_append k91 (w0 := wc) wc.heap.size rfl (.tmp 91) (.tmp 93) 43 91 (.agg #[(.int .i64 0), (.int .i64 0)]) 16 rfl Try.underlying43 info91 rfl (by decide) (by omega) v90 ([] ++ row.take j) t [.int .i64 t.f0, .int .i64 t.f1] (fun _ => True) (fun _ => False) rfl rfl ?aP (fun _ hk => hk.elim) (fun _ _ => trivial) HN.out HBL.out HBL.out.size ?aL ?_; (case aP => exact k91_mkM _ _ _ t); (case aL => have := HLEN.out; simp only [List.length_append, List.length_nil, List.length_take, List.length_cons]; omega); intro v94 w94 ho_ hb_ hg_ hn_; replace HN := Aside0.mk ho_; replace HBL := Aside0.mk hb_; clear ho_ hb_ hg_ hn_; clear hb70_ hb71_))
      refine start_ (n := 12) (S := fun w' => Below wc.heap.size wc w') (ds := [11]) #[false, false, false, false, false, false, false, false, false, false, false, false] (by kernel_rfl) rfl rfl (below_drew HBL.out) (fun hHeld => ?_)
      replace HN := Aside0.mk (Kd.R_drew HN.out)
      replace HBL := Aside0.mk (below_drew HBL.out)
      generalize w94.drew = w95 at HN HBL hHeld ⊢
      refine qu_ 0 95 ?_
      refine qt_ 1 96 hHeld ?_ rfl rfl (by intro w' sb_; have s0_ : w'.cell? ⟨gb5, 1, none⟩ = some (.slice (some ⟨gN, 0, none⟩) near.length cN) := pw_cell_below sb_ ((blk_cell BK5.out 1).trans rfl); clear sb_; go_simp; with_reducible rfl)
      refine qu_ 2 97 ?_
      refine qt_ 3 98 hHeld ?_ rfl rfl (by intro w' sb_; have s0_ : w'.cell? ⟨g7, 1, none⟩ = some (.int .i64 t.f1) := pw_cell_below sb_ ((blk_cell BK7.out 1).trans rfl); clear sb_; go_simp; with_reducible rfl)
      refine qu_ 4 99 ?_
      refine qu_ 5 100 ?_
      refine qu_ 6 101 ?_
      refine qu_ 7 102 ?_
      refine qu_ 8 103 ?_
      refine qo_ 9 (some 104) (fun K hK => ?_)
      refine Kd.R_append_rows_step k91 (w0 := wc) wc.heap.size (by rfl) (.tmp 100) (.tmp 103) 43 91 (.agg #[(.int .i64 0), (.int .i64 0)]) 16 rfl Try.underlying43 info91 rfl (by decide) (by omega) v94 ([] ++ row.take j ++ [t]) (row.drop j) A2 (row.length - j) (c10 - j) (fun _ => True) (fun _ => False) rfl rfl HN.out (Kd.C_below HCF.out HBL.out) (fun x cs h => by rw [k91_open h]; exact k91_mkM _ _ _ _) (fun k hk => hk.elim) (fun _ _ => trivial) HBL.out HBL.out.size ?aL ?_
      (case aL => have := HLEN.out; simp only [List.length_append, List.length_nil, List.length_take, List.length_cons, List.length_drop]; omega)
      intro v104 w104 ho_ hb_ hg_ hn_
      rw [HINS.out] at ho_
      obtain ⟨A104, c104, rfl⟩ := Kd.R_slice ho_
      replace HN := Aside0.mk ho_
      replace HBL := Aside0.mk hb_
      clear ho_ hb_ hg_ hn_
      refine hK.out _ _ HBL.out (fun hHeld => ?_)
      clear hK K
      refine qm_ ?_
      refine qu_ 10 105 ?_
      refine ql_ 11 none (fun K hK => ?_)
      clear hHeld
      have hz_ : w104.cell? ⟨gN, ji, none⟩ = some (.slice A10 row.length c10) := pw_cell_below HBL.out HXR.out
      have hf_ : w104.frozen? ⟨gN, ji, none⟩ = false := blk_frozen (blk_below CLN.out HBL.out) ji
      refine skip_ (w1 := w104.setCell ⟨gN, ji, none⟩ (.slice A104 rn.length c104)) (by rfl) rfl (by go_simp; try rfl) ?_
      refine hK.out _ _ ?_
      clear hK K
      refine done_ (by kernel_rfl) ?_
      clear hz_ hf_
      have hlt104 : wc.heap.size ≤ w104.heap.size := HBL.out.size
      have hS1 : Kd.S (Kd.slice 91 k91) 43 w104 w.heap.size (fun k => some k ≠ (.slice AF far.length cF : Value).ownBlock ∧ ¬ some k = (.slice A104 rn.length c104 : Value).ownBlock) (.slice (some ⟨gN, 0, none⟩) near.length cN) near :=
       Kd.S_mono (Kd.S_below (Kd.S_bound HS.out) HBL.out) (fun k hk => ⟨hk.1, fun e_ => by have h1 := Kd.R_base HN.out k e_.symm; have h2 := hk.2.2.1; omega⟩)
      obtain ⟨oki, cs, hcl, hM, hcc, hfr, hoki, hH⟩ := Kd.S_elem hS1 [] (ji : Int) (by omega) hj1
      obtain ⟨ve, rfl, _⟩ := hM
      have hseg := Kd.S_seg (okg := fun k => some k = (.slice A104 rn.length c104 : Value).ownBlock) (ok := fun k => some k ≠ (.slice AF far.length cF : Value).ownBlock) hH (by omega) hj1 (seg := [.slice A104 rn.length c104]) (j := 0) (Nat.le_refl 1) (x' := rn) (okp := fun k => some k = (.slice A104 rn.length c104 : Value).ownBlock)
       ⟨.slice A104 rn.length c104, rfl, R91_ok (Kd.R_lower HN.out HB.out.size) (fun k hk => hk.symm)⟩ (fun k hk => .inr hk) (fun k hk => ⟨fun e_ => by have h1 := Kd.R_base HN.out k hk.symm; have h2 := Kd.R_lt HF.out k e_.symm; omega, by have h1 := Kd.R_base HN.out k hk.symm; have h2 := GN.out; omega⟩)
      rw [show (ji : Int).toNat * (Kd.slice 91 k91).sz + 0 = ji by simp [show (Kd.slice 91 k91).sz = 1 from rfl]] at hseg
      have hS_ : Kd.S (Kd.slice 91 k91) 43 (w104.setCell ⟨gN, ji, none⟩ (.slice A104 rn.length c104)) w.heap.size (fun k => some k ≠ (.slice AF far.length cF : Value).ownBlock) (.slice (some ⟨gN, 0, none⟩) near.length cN) (near.set ji rn) := hseg.1
      have hk_ : Kept w104 (w104.setCell ⟨gN, ji, none⟩ (.slice A104 rn.length c104)) (fun k => k = gN) := (Kept.refl w104 (fun k => k = gN)).setCell (p := ⟨gN, ji, none⟩) (.inl rfl) _
      have hb_ : Below w.heap.size w (w104.setCell ⟨gN, ji, none⟩ (.slice A104 rn.length c104)) := below_set (below_then HB.out HB.out.size HBL.out) (Kd.S_base HS.out gN (by simp [Value.ownBlock]))
      have h4_ := blk_kept (blk_below BK4.out HBL.out) hk_ (fun hs => Kd.S_ne HS.out BK4.out (by decide) (by rw [show gb4 = gN from hs]; simp [Value.ownBlock]))
      have h5_ := blk_kept (blk_below BK5.out HBL.out) hk_ (fun hs => Kd.S_ne HS.out BK5.out (by decide) (by rw [show gb5 = gN from hs]; simp [Value.ownBlock]))
      have hF_ : Kd.R k91 91 (w104.setCell ⟨gN, ji, none⟩ (.slice A104 rn.length c104)) w.heap.size (fun _ => True) (.slice AF far.length cF) far :=
       Kd.R_mono (Kd.R_kept (Kd.R_types (Kd.R_below HF.out HBL.out) (blk_below CLN.out HBL.out) (by decide)) hk_ (fun k hk hs => hk.2 hs)) (fun _ _ => trivial)
      generalize w104.setCell ⟨gN, ji, none⟩ (.slice A104 rn.length c104) = w105 at hb_ hS_ hF_ h4_ h5_ ⊢
      clear hk_ hseg hcc hfr hoki hH hcl hS1 hlt104
      go_wp2
      go_roundg (l1.length - (i + 1))
      case measure => omega
      case rel => exact ⟨i + 1, near.set ji rn, far, some ⟨gN, 0, none⟩, cN, AF, cF, by go_num, by omega, by omega, ⟨by rw [← HRN.out]; exact HFO.out⟩, ⟨h4_⟩, ⟨by rw [List.length_set]; exact h5_⟩, ⟨by rw [List.length_set]; exact hS_⟩, ⟨hF_⟩, ⟨hb_⟩⟩
   ·
    have hz : i = l1.length := by omega
    subst hz
    have hfo := HFO.out
    rw [List.drop_length, foldW] at hfo
    simp only [Option.some.injEq, Prod.mk.injEq] at hfo
    obtain ⟨rfl, rfl⟩ := hfo
    have hltz : ¬ (l1.length : Int) < (l1.length : Int) := by omega
    have he0 : wr.cell? ⟨gb5, 0, none⟩ = some (.int .i64 t0) := (blk_cell BK5.out 0).trans rfl
    have he1 : wr.cell? ⟨gb5, 1, none⟩ = some (.slice AN near.length cN) := (blk_cell BK5.out 1).trans rfl
    have he2 : wr.cell? ⟨gb5, 2, none⟩ = some (.slice AF far.length cF) := (blk_cell BK5.out 2).trans rfl
    go_wp2_with ((with_reducible refine gate_store (t := 45) (p := 4) rfl ?_); have zc0 : wr.cell? ⟨gb4, 0, none⟩ = some (.int .i64 0) := (blk_cell BK4.out 0).trans rfl; have zc1 : wr.cell? ⟨gb4, 1, none⟩ = some (.slice none 0 0) := (blk_cell BK4.out 1).trans rfl; have zc2 : wr.cell? ⟨gb4, 2, none⟩ = some (.slice none 0 0) := (blk_cell BK4.out 2).trans rfl; have zf0 := blk_frozen BK4.out 0; have zf1 := blk_frozen BK4.out 1; have zf2 := blk_frozen BK4.out 2; refine store_event (t := 45) (p := 4) (v := ?vo_4) (w1 := (((wr.setCell ⟨gb4, 0, none⟩ (.int .i64 t0)).setCell ⟨gb4, 1, none⟩ (.slice AN near.length cN)).setCell ⟨gb4, 2, none⟩ (.slice AF far.length cF))) ?hg ?ho ?hn ?hr ?_; (case ho => rfl); (case hg => rfl); (case hn => rfl); (case hr => first | (go_simp; done) | (go_simp; rfl)); intro w4 hw_; clear zc0 zc1 zc2 zf0 zf1 zf2 he0 he1 he2; have hp_ : w4.heap[gb4]? = some (.cells #[.int .i64 t0, .slice AN near.length cN, .slice AF far.length cF] 45 (0, 0)) := (by rw [hw_]; exact blk_put (cs := #[.int .i64 t0, .slice AN near.length cN, .slice none 0 0]) (blk_put (cs := #[.int .i64 t0, .slice none 0 0, .slice none 0 0]) (blk_put (cs := #[.int .i64 0, .slice none 0 0, .slice none 0 0]) BK4.out 0 (.int .i64 t0) rfl) 1 (.slice AN near.length cN) rfl) 2 (.slice AF far.length cF) rfl); have hk_ : Kept wr w4 (fun k => k = gb4) := (by rw [hw_]; exact (((Kept.refl wr (fun k => k = gb4)).setCell (p := ⟨gb4, 0, none⟩) (.inl rfl) _).setCell (p := ⟨gb4, 1, none⟩) (.inl rfl) _).setCell (p := ⟨gb4, 2, none⟩) (.inl rfl) _); have hb_ : Below w.heap.size w w4 := (by rw [hw_]; exact below_set (below_set (below_set HB.out G4.out.1) G4.out.1) G4.out.1); have HS_ := Aside0.mk (Kd.S_mono (ok' := fun k_ => some k_ ≠ (.slice AF far.length cF : Value).ownBlock) (Kd.S_kept (Kd.S_types HS.out BK4.out (by decide)) hk_ (fun k hk hs => hk.2 hs)) (fun _ hk => hk.1)); have HF_ := Aside0.mk (Kd.R_mono (ok' := fun _ => True) (Kd.R_kept (Kd.R_types HF.out BK4.out (by decide)) hk_ (fun k hk hs => hk.2 hs)) (fun _ _ => trivial)); have HP_ := Aside0.mk hp_; have HB_ := Aside0.mk hb_; clear hp_ hk_ hb_ hw_)
    refine bodyPost_ret (results_cell_row rfl _ _ gb4 45 #[.int .i64 t0, .slice AN near.length cN, .slice AF far.length cF] (0, 0) _ rfl HP_.out Try.underlying45 rfl (by kernel_rfl)) rfl ?_
    exact ⟨_, _, rfl, HS_.out, HF_.out, HB_.out⟩
 ·
  rw [if_neg hcw] at h
  cases h

/-! ### spec_WheelDrop: function 29 -/
def spec_WheelDrop.l0 : Nat → Int → List (S91) → List (S91) → Int → Int → List (List (S91)) → List (S91) → Option (Int × (List (List (S91))) × (List (S91)) × (List (S91)) × Int)
 | 0, _, _, _, _, _, _, _ => none
 | k + 1, x1, x5, x6, x7, x187000, x187001, x187002 => if x7 < (x5.length : Int) then (if 0 ≤ x7 then (if ((rd_T91 x5 x7).f0) = x1 then (spec_WheelDrop.l0 k x1 x5 x6 (wrap64 (x7 + 1)) x187000 x187001 x187002) else (if x6.length < 8796093022208 then (spec_WheelDrop.l0 k x1 x5 (x6 ++ [(⟨(rd_T91 x5 x7).f0, (rd_T91 x5 x7).f1⟩ : S91)]) (wrap64 (x7 + 1)) x187000 x187001 x187002) else (none))) else (none)) else (if (x6.length : Int) = (x5.length : Int) then ((spec_l08Wrong.f 4).bind fun bt211 => (some (bt211.1, bt211.2.1, bt211.2.2.1, bt211.2.2.2.1, bt211.2.2.2.2))) else ((spec_l08Of.f x187000 x6).bind fun bt222 => (some (bt222.1, bt222.2.1, bt222.2.2, ([] : List (S91)), 0))))
def spec_WheelDrop.f (k : Nat) (a0_0 : Int) (l0_1 : List (List (S91))) (l0_2 : List (S91)) (a1 : Int) : Option (Int × (List (List (S91))) × (List (S91)) × (List (S91)) × Int) := (spec_WheelRight.f k a0_0 l0_1 l0_2).bind fun t188 => (if t188 = true then ((spec_l08All.f k a0_0 l0_1 l0_2).bind fun t200 => (spec_WheelDrop.l0 k a1 t200 (([] : List (S91))) 0 a0_0 l0_1 l0_2)) else ((spec_l08Wrong.f 1).bind fun bt189 => (some (bt189.1, bt189.2.1, bt189.2.2.1, bt189.2.2.2.1, bt189.2.2.2.2))))
set_option maxHeartbeats 8000000 in
set_option maxRecDepth 100000 in
theorem spec_WheelDrop.calls (k : Nat) (a0_0 : Int) (A0_1 : Option Addr) (c0_1 : Nat) (l0_1 : List (List (S91))) (A0_2 : Option Addr) (c0_2 : Nat) (l0_2 : List (S91)) (a1 : Int) (r1 : Int) (r2 : List (List (S91))) (r3 : List (S91)) (r4 : List (S91)) (r5 : Int) (w : World) (hr0_1 : Kd.C (Kd.slice 91 k91) w A0_1 l0_1.length l0_1) (hc0_1 : l0_1.length ≤ c0_1) (hr0_2 : Kd.C k91 w A0_2 l0_2.length l0_2) (hc0_2 : l0_2.length ≤ c0_2) (h : spec_WheelDrop.f k a0_0 l0_1 l0_2 a1 = some (r1, r2, r3, r4, r5)) :
  Calls Try.prog 29 #[.agg #[.int .i64 a0_0, .slice A0_1 l0_1.length c0_1, .slice A0_2 l0_2.length c0_2], .int .i64 a1] w fun e w' => ∃ v1_ v2_ v3_ : Value, e = .returned (.agg #[.int .i64 r1, v1_, v2_, v3_, .int .i64 r5]) ∧ Kd.S (Kd.slice 91 k91) 43 w' w.heap.size (fun k_ => some k_ ≠ (v2_ : Value).ownBlock ∧ some k_ ≠ (v3_ : Value).ownBlock) v1_ r2 ∧ Kd.R k91 91 w' w.heap.size (fun k_ => some k_ ≠ (v3_ : Value).ownBlock) v2_ r3 ∧ Kd.R k91 91 w' w.heap.size (fun k_ => some k_ ≠ (v2_ : Value).ownBlock) v3_ r4 ∧ Below w.heap.size w w' := by
 have hu45 := Try.underlying45
 have hu51 := Try.underlying51
 have hu91 := Try.underlying91
 have HR0_1 := Aside0.mk hr0_1
 have HC0_1 := Aside0.mk hc0_1
 clear hr0_1 hc0_1
 have HR0_2 := Aside0.mk hr0_2
 have HC0_2 := Aside0.mk hc0_2
 clear hr0_2 hc0_2
 have HB := Aside0.mk (Below.refl w.heap.size w)
 have H : ((spec_WheelRight.f k a0_0 l0_1 l0_2).bind fun t188 => (if t188 = true then ((spec_l08All.f k a0_0 l0_1 l0_2).bind fun t200 => (spec_WheelDrop.l0 k a1 t200 (([] : List (S91))) 0 a0_0 l0_1 l0_2)) else ((spec_l08Wrong.f 1).bind fun bt189 => (some (bt189.1, bt189.2.1, bt189.2.2.1, bt189.2.2.2.1, bt189.2.2.2.2))))) = some (r1, r2, r3, r4, r5) := h
 clear h
 replace H := Option.bind_eq_some_iff.mp H
 obtain ⟨t188, A30, H⟩ := H
 replace H : (if t188 = true then ((spec_l08All.f k a0_0 l0_1 l0_2).bind fun t200 => (spec_WheelDrop.l0 k a1 t200 (([] : List (S91))) 0 a0_0 l0_1 l0_2)) else ((spec_l08Wrong.f 1).bind fun bt189 => (some (bt189.1, bt189.2.1, bt189.2.2.1, bt189.2.2.2.1, bt189.2.2.2.2)))) = some (r1, r2, r3, r4, r5) := H
 have A3 := Aside0.mk A30
 clear A30
 by_cases c4 : t188 = true
 ·
  subst c4
  have H1 : ((spec_l08All.f k a0_0 l0_1 l0_2).bind fun t200 => (spec_WheelDrop.l0 k a1 t200 (([] : List (S91))) 0 a0_0 l0_1 l0_2)) = some (r1, r2, r3, r4, r5) := by rw [if_pos rfl] at H; exact H
  clear H
  have H := H1
  clear H1
  replace H := Option.bind_eq_some_iff.mp H
  obtain ⟨t200, A50, H⟩ := H
  replace H : (spec_WheelDrop.l0 k a1 t200 (([] : List (S91))) 0 a0_0 l0_1 l0_2) = some (r1, r2, r3, r4, r5) := H
  have A5 := Aside0.mk A50
  clear A50
  obtain ⟨y203, hy203⟩ : ∃ y_ : List (S91), y_ = (([] : List (S91))) := ⟨_, rfl⟩
  replace H : (spec_WheelDrop.l0 k a1 t200 y203 0 a0_0 l0_1 l0_2) = some (r1, r2, r3, r4, r5) := by first | (rw [hy203]; with_reducible exact H) | (have H2_ := (Option.bind_some _ _).symm.trans H; rw [hy203]; with_reducible exact H2_) | (have H2_ := (Option.bind_some _ _).symm.trans H; with_reducible exact H2_) | with_reducible exact H | (rw [hy203]; exact H) | exact H
  have Ny203 := Aside0.mk hy203
  clear hy203
  have H' := Aside0.mk H
  clear H
  go_enter Try.func29, Try.ntmps29
  go_wp2_with (first | ((with_reducible refine gate_dst (N := 2) rfl ?_); refine box_event ?hg (N := 2) ?hd (cs := #[.int .i64 a0_0, .slice A0_1 l0_1.length c0_1, .slice A0_2 l0_2.length c0_2]) (t := 45) ?hr ?_; (case hd => rfl); (case hg => rfl); (case hr => first | (go_simp; done) | (go_simp; rfl)); intro gb186 hg w6 hbox hb; have n0_ := Aside0.mk (below_step bl_ hb); have n1_ := Aside0.mk (hbox); have n2_ := Aside0.mk ((by rw [hg]; exact (below_size bl_) : w.heap.size ≤ gb186)); have n3_ := Aside0.mk ((by rw [hg]; exact (below_size bl_) : w.heap.size ≤ gb186)); clear HB; have HB := n0_; have BK186 := n1_; have GW186 := n2_; have GE186 := n3_; clear n0_ n1_ n2_ n3_; clear hb hbox hg) | ((with_reducible refine gate_dst (N := 4) rfl ?_); refine box_event ?hg (N := 4) ?hd (cs := #[.int .i64 0, .slice none 0 0, .slice none 0 0, .slice none 0 0, .int .i64 0]) (t := 51) ?hr ?_; (case hd => rfl); (case hg => rfl); (case hr => first | (go_simp; done) | (go_simp; rfl)); intro gb187 hg w7 hbox hb; have n0_ := Aside0.mk (blk_below (up_ BK186.out) hb); have n1_ := Aside0.mk (below_step bl_ hb); have n2_ := Aside0.mk (hbox); have n3_ := Aside0.mk ((by rw [hg]; exact (below_size bl_) : w.heap.size ≤ gb187)); have n4_ := Aside0.mk ((by rw [hg]; exact (below_size bl_) : w.heap.size ≤ gb187)); have n5_ := Aside0.mk ((by rw [hg]; exact Nat.ne_of_lt (blk_lt (up_ BK186.out)) : gb186 ≠ gb187)); have n6_ := Aside0.mk ((by rw [hg]; exact Nat.ne_of_gt (blk_lt (up_ BK186.out)) : gb187 ≠ gb186)); clear BK186; clear HB; have BK186 := n0_; have HB := n1_; have BK187 := n2_; have GW187 := n3_; have GE187 := n4_; have NB186_187 := n5_; have NB187_186 := n6_; clear n0_ n1_ n2_ n3_ n4_ n5_ n6_; clear hb hbox hg; have hnb8 := NB186_187.out; have hnc8 := NB187_186.out; have hcz9_0 : w7.cell? ⟨gb186, 0, none⟩ = some (.int .i64 a0_0) := (blk_cell BK186.out 0).trans rfl; have hcz9_1 : w7.cell? ⟨gb186, 1, none⟩ = some (.slice A0_1 l0_1.length c0_1) := (blk_cell BK186.out 1).trans rfl; have hcz9_2 : w7.cell? ⟨gb186, 2, none⟩ = some (.slice A0_2 l0_2.length c0_2) := (blk_cell BK186.out 2).trans rfl; have hfz9_0 := blk_frozen BK186.out 0; have hfz9_1 := blk_frozen BK186.out 1; have hfz9_2 := blk_frozen BK186.out 2) | ((with_reducible refine gate_callee (f := 23) rfl ?_); refine gL_ (some 9) Try.func23 #[.agg #[.int .i64 a0_0, .slice A0_1 l0_1.length c0_1, .slice A0_2 l0_2.length c0_2]] ?_; (with_reducible refine (spec_WheelRight.calls k a0_0 _ _ l0_1 _ _ l0_2 true _ ?side1 ?side2 ?side3 ?side4 A3.out).mono ?_); (case side1 => exact Kd.C_below HR0_1.out bl_); (case side2 => exact HC0_1.out); (case side3 => exact Kd.C_below HR0_2.out bl_); (case side4 => exact HC0_2.out); rintro e w10 ⟨rfl, hb⟩; refine ⟨_, rfl, ?_⟩; have n0_ := Aside0.mk (blk_below (up_ BK186.out) hb); have n1_ := Aside0.mk (blk_below (up_ BK187.out) hb); have n2_ := Aside0.mk (below_step bl_ hb); clear BK186; clear BK187; clear HB; have BK186 := n0_; have BK187 := n1_; have HB := n2_; clear n0_ n1_ n2_; (try clear hb); (try clear hb2); (try clear hk); (try clear hi); have hcz11_0 : w10.cell? ⟨gb186, 0, none⟩ = some (.int .i64 a0_0) := (blk_cell BK186.out 0).trans rfl; have hcz11_1 : w10.cell? ⟨gb186, 1, none⟩ = some (.slice A0_1 l0_1.length c0_1) := (blk_cell BK186.out 1).trans rfl; have hcz11_2 : w10.cell? ⟨gb186, 2, none⟩ = some (.slice A0_2 l0_2.length c0_2) := (blk_cell BK186.out 2).trans rfl; have hfz11_0 := blk_frozen BK186.out 0; have hfz11_1 := blk_frozen BK186.out 1; have hfz11_2 := blk_frozen BK186.out 2) | ((with_reducible refine gate_callee (f := 63) rfl ?_); refine gL_ (some 13) Try.func63 #[.agg #[.int .i64 a0_0, .slice A0_1 l0_1.length c0_1, .slice A0_2 l0_2.length c0_2]] ?_; (with_reducible refine (spec_l08All.calls k a0_0 _ _ l0_1 _ _ l0_2 t200 _ ?side1 ?side2 ?side3 ?side4 A5.out).mono ?_); (case side1 => exact Kd.C_below HR0_1.out bl_); (case side2 => exact HC0_1.out); (case side3 => exact Kd.C_below HR0_2.out bl_); (case side4 => exact HC0_2.out); rintro e w12 ⟨v201, rfl, ho0, hb⟩; refine ⟨_, rfl, ?_⟩; have n0_ := Aside0.mk (Kd.R_lower ho0 (below_size bl_)); have n1_ := Aside0.mk (blk_below (up_ BK186.out) hb); have n2_ := Aside0.mk (blk_below (up_ BK187.out) hb); have n3_ := Aside0.mk (below_step bl_ hb); clear BK186; clear BK187; clear HB; have HO202 := n0_; have BK186 := n1_; have BK187 := n2_; have HB := n3_; clear n0_ n1_ n2_ n3_; (try clear hb); (try clear hb2); (try clear hk); (try clear hi); (try clear ho0)) | ((with_reducible refine gate_dst (N := 14) rfl ?_); refine Kd.R_lit k91 _ 91 ?hg (N := 14) ?hd (xs := ([] : List (S91))) (inner := []) (ok := fun _ => True) (okp := fun _ => True) ?hr ?hp (fun _ hk => hk) trivial (Below.refl _ _) (Nat.le_refl _) (by simp) ?_; (case hd => rfl); (case hg => rfl); (case hr => first | (go_simp; done) | (go_simp; rfl)); (case hp => exact (Reps.none _ _)); intro v204 w13 ho14 hb hg_ hnew_; clear hg_ hnew_; (first | rw [← Ny203.out] at ho14 | (simp only [Int.reduceToNat] at ho14; rw [← Ny203.out] at ho14)); have n0_ := Aside0.mk (Kd.R_elder' (by exact rU_ HO202.out) (Kd.R_base ho14) hb); have n1_ := Aside0.mk (Kd.R_lower (Kd.R_new' ho14 (Kd.R_lt (by exact rU_ HO202.out))) (below_size bl_)); have n2_ := Aside0.mk (blk_below (up_ BK186.out) hb); have n3_ := Aside0.mk (blk_below (up_ BK187.out) hb); have n4_ := Aside0.mk (below_step bl_ hb); clear HO202; clear BK186; clear BK187; clear HB; have HO202 := n0_; have HO205 := n1_; have BK186 := n2_; have BK187 := n3_; have HB := n4_; clear n0_ n1_ n2_ n3_ n4_; clear hb ho14))
  go_loopg [6, 7] k (fun kq v6 v7 w' => ∃ (x6_1 : List (S91)) (x7_1 : Int), v7 = .int .i64 x7_1 ∧ Aside0 (spec_WheelDrop.l0 kq a1 t200 x6_1 x7_1 a0_0 l0_1 l0_2 = some (r1, r2, r3, r4, r5)) ∧ Aside0 (kq ≤ k) ∧ Aside0 (Kd.R k91 91 w' w.heap.size (fun k_ => some k_ ≠ (v6 : Value).ownBlock) v201 t200) ∧ Aside0 (Kd.R k91 91 w' w.heap.size (fun k_ => some k_ ≠ (v201 : Value).ownBlock) v6 x6_1) ∧ Aside0 (w'.heap[gb186]? = some (.cells #[.int .i64 a0_0, (.slice A0_1 l0_1.length c0_1), (.slice A0_2 l0_2.length c0_2)] 45 (0, 0))) ∧ Aside0 (w'.heap[gb187]? = some (.cells #[.int .i64 0, (.slice none 0 0), (.slice none 0 0), (.slice none 0 0), .int .i64 0] 51 (0, 0))) ∧ Aside0 (Below w.heap.size w w'))
  case atStart => exact ⟨(y203), (0), (by first | rfl | (simp; done) | (simp [*]; done)), H', ⟨Nat.le_refl _⟩, ⟨by (with_reducible repeat (first | apply Kd.R_alloc | apply Kd.R_drewN | apply Kd.R_drew)); exact Kd.R_mono HO202.out (fun _ hk => hk.2)⟩, ⟨by (with_reducible repeat (first | apply Kd.R_alloc | apply Kd.R_drewN | apply Kd.R_drew)); exact Kd.R_mono HO205.out (fun _ hk => hk.2)⟩, ⟨up_ BK186.out⟩, ⟨up_ BK187.out⟩, ⟨bl_⟩⟩
  case round =>
   clear H'
   try clear c2
   try clear p2
   try clear c4
   try clear c6
   try clear c8
   try clear hcz11_0
   try clear hcz11_1
   try clear hcz11_2
   try clear hcz9_0
   try clear hcz9_1
   try clear hcz9_2
   try clear hfz11_0
   try clear hfz11_1
   try clear hfz11_2
   try clear hfz9_0
   try clear hfz9_1
   try clear hfz9_2
   obtain ⟨x6_1, x7_1, rfl, HA, HK1, HO_5, HO_6, BK186, BK187, HB⟩ := hrel
   cases gk with
   | zero => exact absurd HA.out (by simp [spec_WheelDrop.l0])
   | succ k1 =>
    have H := HA.out
    clear HA
    simp only [spec_WheelDrop.l0] at H
    by_cases c15 : x7_1 < (t200.length : Int)
    ·
     rw [if_pos c15] at H
     have c15b0 : decide (x7_1 < (t200.length : Int)) = true := decide_eq_true c15
     clear c15
     by_cases c16 : 0 ≤ x7_1
     ·
      rw [if_pos c16] at H
      have c16b0 : decide (0 ≤ x7_1) = true := decide_eq_true c16
      clear c16
      by_cases c17 : ((rd_T91 t200 x7_1).f0) = a1
      ·
       rw [if_pos c17] at H
       have c17b0 : (((rd_T91 t200 x7_1).f0) == a1) = true := beq_iff_eq.mpr c17
       have c17b1 : (((rd_T91 t200 x7_1).f0) != a1) = false := bne_eq_false_iff_eq.mpr c17
       clear c17
       have H' := Aside0.mk H
       clear H
       obtain ⟨Ao18, co18, eo18⟩ := Kd.R_slice HO_5.out
       subst eo18
       have p206 : 0 ≤ (x7_1 : Int) := ds_
       have q206 : x7_1 < (t200.length : Int) := ds_
       obtain ⟨ad206, e206, hx206_0, hx206_1⟩ := at_T91 (Kd.R_reads' HO_5.out).2.2 x7_1 p206 q206
       cases e206
       replace p206 := eq_true p206
       replace q206 := eq_true q206
       go_wp2
       go_roundg k1
       case measure => have := HK1.out; omega
       case rel => exact ⟨(x6_1), (wrap64 (x7_1 + 1)), (by first | rfl | (simp; done) | (simp [*]; done)), H', ⟨by have := HK1.out; omega⟩, ⟨rU_ HO_5.out⟩, ⟨rU_ HO_6.out⟩, ⟨up_ BK186.out⟩, ⟨up_ BK187.out⟩, ⟨bl_⟩⟩
      ·
       rw [if_neg c17] at H
       have c17b0 : (((rd_T91 t200 x7_1).f0) == a1) = false := beq_eq_false_iff_ne.mpr c17
       have c17b1 : (((rd_T91 t200 x7_1).f0) != a1) = true := bne_iff_ne.mpr c17
       by_cases c19 : x6_1.length < 8796093022208
       ·
        rw [if_pos c19] at H
        have LMc19 := Aside0.mk c19
        clear c19
        obtain ⟨y208, hy208⟩ : ∃ y_ : List (S91), y_ = (x6_1 ++ [(⟨(rd_T91 t200 x7_1).f0, (rd_T91 t200 x7_1).f1⟩ : S91)]) := ⟨_, rfl⟩
        replace H : (spec_WheelDrop.l0 k1 a1 t200 y208 (wrap64 (x7_1 + 1)) a0_0 l0_1 l0_2) = some (r1, r2, r3, r4, r5) := by first | (rw [hy208]; with_reducible exact H) | (have H2_ := (Option.bind_some _ _).symm.trans H; rw [hy208]; with_reducible exact H2_) | (have H2_ := (Option.bind_some _ _).symm.trans H; with_reducible exact H2_) | with_reducible exact H | (rw [hy208]; exact H) | exact H
        have Ny208 := Aside0.mk hy208
        clear hy208
        have H' := Aside0.mk H
        clear H
        obtain ⟨Ao20, co20, eo20⟩ := Kd.R_slice HO_5.out
        subst eo20
        have p206 : 0 ≤ (x7_1 : Int) := ds_
        have q206 : x7_1 < (t200.length : Int) := ds_
        obtain ⟨ad206, e206, hx206_0, hx206_1⟩ := at_T91 (Kd.R_reads' HO_5.out).2.2 x7_1 p206 q206
        cases e206
        replace p206 := eq_true p206
        replace q206 := eq_true q206
        have p207 : 0 ≤ (x7_1 : Int) := ds_
        have q207 : x7_1 < (t200.length : Int) := ds_
        obtain ⟨ad207, e207, hx207_0, hx207_1⟩ := at_T91 (Kd.R_reads' HO_5.out).2.2 x7_1 p207 q207
        obtain rfl : ad206 = ad207 := (by injection e207)
        replace p207 := eq_true p207
        replace q207 := eq_true q207
        go_wp2_with (first | ((with_reducible refine gate_builtin (b := .append) (xs := #[.tmp 28, .tmp 33]) rfl ?_); at_builtin; refine Kd.R_append k91 (w0 := w) w.heap.size rfl (.tmp 28) (.tmp 33) 43 91 (.agg #[(.int .i64 0), (.int .i64 0)]) 16 rfl Try.underlying43 info91 rfl (by decide) (by omega) u6 x6_1 (⟨(rd_T91 t200 x7_1).f0, (rd_T91 t200 x7_1).f1⟩ : S91) [.int .i64 ((rd_T91 t200 x7_1).f0), .int .i64 ((rd_T91 t200 x7_1).f1)] (fun k_ => some k_ ≠ (.slice (some ad206) t200.length co20 : Value).ownBlock) (fun _ => False) rfl rfl ?aP (fun _ hk => hk.elim) ?aF ?aO ?aB ?aS ?aL ?_; (case aP => exact k91_mkM _ _ _ (⟨(rd_T91 t200 x7_1).f0, (rd_T91 t200 x7_1).f1⟩ : S91)); (case aB => exact bl_); (case aF => exact (fun k_ hk => Kd.fresh' (Kd.R_lt (by exact rU_ HO_5.out)) k_ hk)); (case aO => exact (by exact rU_ HO_6.out)); (case aS => exact (below_size bl_)); (case aL => have := LMc19.out; omega); intro v209 w21 ho hb hg hat; rw [← Ny208.out] at ho; have n0_ := Aside0.mk (Kd.R_after (ok := (fun _ => True)) (by exact rU_ (Kd.R_mono HO_5.out (fun _ hk => ⟨trivial, hk⟩))) hg hat); have n1_ := Aside0.mk (blk_grown (up_ BK186.out) hg (Kd.R_ne HO_6.out BK186.out (by decide))); have n2_ := Aside0.mk (blk_grown (up_ BK187.out) hg (Kd.R_ne HO_6.out BK187.out (by decide))); have n3_ := Aside0.mk (hb); have n4_ := Aside0.mk (ho); clear HO_5; clear BK186; clear BK187; clear HB; clear HO_6; have HO_5 := n0_; have BK186 := n1_; have BK187 := n2_; have HB := n3_; have HO210 := n4_; clear n0_ n1_ n2_ n3_ n4_; clear ho hb hg hat))
        go_roundg k1
        case measure => have := HK1.out; omega
        case rel => exact ⟨(y208), (wrap64 (x7_1 + 1)), (by first | rfl | (simp; done) | (simp [*]; done)), H', ⟨by have := HK1.out; omega⟩, ⟨by (with_reducible repeat (first | apply Kd.R_alloc | apply Kd.R_drewN | apply Kd.R_drew)); exact Kd.R_mono HO_5.out (fun _ hk => hk.2)⟩, ⟨rU_ HO210.out⟩, ⟨up_ BK186.out⟩, ⟨up_ BK187.out⟩, ⟨bl_⟩⟩
       ·
        rw [if_neg c19] at H
        exact absurd H (by simp)
     ·
      rw [if_neg c16] at H
      exact absurd H (by simp)
    ·
     rw [if_neg c15] at H
     have c15b0 : decide (x7_1 < (t200.length : Int)) = false := decide_eq_false c15
     clear c15
     by_cases c22 : (x6_1.length : Int) = (t200.length : Int)
     ·
      rw [if_pos c22] at H
      have c22b0 : ((x6_1.length : Int) == (t200.length : Int)) = true := beq_iff_eq.mpr c22
      have c22b1 : ((x6_1.length : Int) != (t200.length : Int)) = false := bne_eq_false_iff_eq.mpr c22
      have c22b2 : (x6_1.length == t200.length) = true := by first | simpa using c22 | (simp at c22 ⊢; omega)
      clear c22
      replace H := Option.bind_eq_some_iff.mp H
      obtain ⟨⟨t211, t212, t215, t218, t221⟩, A230, H⟩ := H
      replace H : (some (t211, t212, t215, t218, t221)) = some (r1, r2, r3, r4, r5) := H
      have A23 := Aside0.mk A230
      clear A230
      simp only [Option.some.injEq, Prod.mk.injEq] at H
      obtain ⟨rfl, rfl, rfl, rfl, rfl⟩ := H
      obtain ⟨Ao24, co24, eo24⟩ := Kd.R_slice HO_5.out
      subst eo24
      obtain ⟨Ao25, co25, eo25⟩ := Kd.R_slice HO_6.out
      subst eo25
      go_wp2_with (first | ((with_reducible refine gate_callee (f := 79) rfl ?_); refine gL_ (some 40) Try.func79 #[.int .i64 4] ?_; (with_reducible refine (spec_l08Wrong.calls 4 t211 t212 t215 t218 t221 _ A23.out).mono ?_); rintro e w26 ⟨v213, v216, v219, rfl, ho0, ho1, ho2, hb⟩; refine ⟨_, rfl, ?_⟩; have n0_ := Aside0.mk (Kd.R_mono (Kd.R_told (Kd.R_told (Kd.R_old (by exact rU_ HO_5.out) hb) (Kd.R_base ho1)) (Kd.R_base ho2)) (fun _ h_ => h_.1)); have n1_ := Aside0.mk (Kd.R_mono (Kd.R_told (Kd.R_told (Kd.R_old (by exact rU_ HO_6.out) hb) (Kd.R_base ho1)) (Kd.R_base ho2)) (fun _ h_ => h_.1)); have n2_ := Aside0.mk (Kd.S_lower (Kd.S_new' (Kd.S_new' ho0 (Kd.R_lt (by exact rU_ HO_5.out))) (Kd.R_lt (by exact rU_ HO_6.out))) (below_size bl_)); have n3_ := Aside0.mk (Kd.R_lower (Kd.R_new' (Kd.R_new' ho1 (Kd.R_lt (by exact rU_ HO_5.out))) (Kd.R_lt (by exact rU_ HO_6.out))) (below_size bl_)); have n4_ := Aside0.mk (Kd.R_lower (Kd.R_new' (Kd.R_new' ho2 (Kd.R_lt (by exact rU_ HO_5.out))) (Kd.R_lt (by exact rU_ HO_6.out))) (below_size bl_)); have n5_ := Aside0.mk (blk_below (up_ BK186.out) hb); have n6_ := Aside0.mk (blk_below (up_ BK187.out) hb); have n7_ := Aside0.mk (below_step bl_ hb); clear HO_5; clear HO_6; clear BK186; clear BK187; clear HB; have HO_5 := n0_; have HO_6 := n1_; have HO214 := n2_; have HO217 := n3_; have HO220 := n4_; have BK186 := n5_; have BK187 := n6_; have HB := n7_; clear n0_ n1_ n2_ n3_ n4_ n5_ n6_ n7_; (try clear hb); (try clear hb2); (try clear hk); (try clear hi); (try clear ho0); (try clear ho1); (try clear ho2); have hnb27 := NB187_186.out; have hnc27 := NB186_187.out; have hcz28_0 : w26.cell? ⟨gb187, 0, none⟩ = some (.int .i64 0) := (blk_cell BK187.out 0).trans rfl; have hcz28_1 : w26.cell? ⟨gb187, 1, none⟩ = some (.slice none 0 0) := (blk_cell BK187.out 1).trans rfl; have hcz28_2 : w26.cell? ⟨gb187, 2, none⟩ = some (.slice none 0 0) := (blk_cell BK187.out 2).trans rfl; have hcz28_3 : w26.cell? ⟨gb187, 3, none⟩ = some (.slice none 0 0) := (blk_cell BK187.out 3).trans rfl; have hcz28_4 : w26.cell? ⟨gb187, 4, none⟩ = some (.int .i64 0) := (blk_cell BK187.out 4).trans rfl; have hfz28_0 := blk_frozen BK187.out 0; have hfz28_1 := blk_frozen BK187.out 1; have hfz28_2 := blk_frozen BK187.out 2; have hfz28_3 := blk_frozen BK187.out 3; have hfz28_4 := blk_frozen BK187.out 4; obtain ⟨Ao29, co29, eo29⟩ := Kd.S_slice HO214.out; subst eo29; obtain ⟨Ao30, co30, eo30⟩ := Kd.R_slice HO217.out; subst eo30; obtain ⟨Ao31, co31, eo31⟩ := Kd.R_slice HO220.out; subst eo31))
      refine bodyPost_ret (results_cell_row rfl _ _ gb187 51 #[.int .i64 t211, .slice Ao29 t212.length co29, .slice Ao30 t215.length co30, .slice Ao31 t218.length co31, .int .i64 t221] (0, 0) _ rfl (by (with_reducible repeat (first | refine blk_drewN ?_ _ | refine blk_drew ?_ | refine blk_alloc ?_ _)); refine blk_put (cs := #[.int .i64 t211, .slice Ao29 t212.length co29, .slice Ao30 t215.length co30, .slice Ao31 t218.length co31, .int .i64 0]) ?_ 4 _ rfl; (with_reducible repeat (first | refine blk_drewN ?_ _ | refine blk_drew ?_ | refine blk_alloc ?_ _)); refine blk_put (cs := #[.int .i64 t211, .slice Ao29 t212.length co29, .slice Ao30 t215.length co30, .slice none 0 0, .int .i64 0]) ?_ 3 _ rfl; (with_reducible repeat (first | refine blk_drewN ?_ _ | refine blk_drew ?_ | refine blk_alloc ?_ _)); refine blk_put (cs := #[.int .i64 t211, .slice Ao29 t212.length co29, .slice none 0 0, .slice none 0 0, .int .i64 0]) ?_ 2 _ rfl; (with_reducible repeat (first | refine blk_drewN ?_ _ | refine blk_drew ?_ | refine blk_alloc ?_ _)); refine blk_put (cs := #[.int .i64 t211, .slice none 0 0, .slice none 0 0, .slice none 0 0, .int .i64 0]) ?_ 1 _ rfl; (with_reducible repeat (first | refine blk_drewN ?_ _ | refine blk_drew ?_ | refine blk_alloc ?_ _)); refine blk_put (cs := #[.int .i64 0, .slice none 0 0, .slice none 0 0, .slice none 0 0, .int .i64 0]) ?_ 0 _ rfl; (with_reducible repeat (first | refine blk_drewN ?_ _ | refine blk_drew ?_ | refine blk_alloc ?_ _)); exact BK187.out) Try.underlying51 rfl (by kernel_rfl)) rfl ?_
      exact ⟨_, _, _, by first | rfl | (simp [errW_none, errW_some] <;> rfl) | (simp [*, errW_none, errW_some] <;> rfl), by (with_reducible repeat (first | apply Kd.S_alloc | apply Kd.S_drewN | apply Kd.S_drew)); exact Kd.S_mono (Kd.S_far (p := ⟨gb187, 4, none⟩) (Kd.S_far (p := ⟨gb187, 3, none⟩) (Kd.S_far (p := ⟨gb187, 2, none⟩) (Kd.S_far (p := ⟨gb187, 1, none⟩) (Kd.S_far (p := ⟨gb187, 0, none⟩) (Kd.S_types HO214.out BK187.out (by decide)) (fun _ hk => hk.2) (.int .i64 t211)) (fun _ hk => hk.2) (.slice Ao29 t212.length co29)) (fun _ hk => hk.2) (.slice Ao30 t215.length co30)) (fun _ hk => hk.2) (.slice Ao31 t218.length co31)) (fun _ hk => hk.2) (.int .i64 t221)) (fun _ hk => ⟨hk.1.1.1.1, hk.1.1.1.2⟩), by (with_reducible repeat (first | apply Kd.R_alloc | apply Kd.R_drewN | apply Kd.R_drew)); exact Kd.R_mono (Kd.R_far (p := ⟨gb187, 4, none⟩) (Kd.R_far (p := ⟨gb187, 3, none⟩) (Kd.R_far (p := ⟨gb187, 2, none⟩) (Kd.R_far (p := ⟨gb187, 1, none⟩) (Kd.R_far (p := ⟨gb187, 0, none⟩) (Kd.R_types HO217.out BK187.out (by decide)) (fun _ hk => hk.2) (.int .i64 t211)) (fun _ hk => hk.2) (.slice Ao29 t212.length co29)) (fun _ hk => hk.2) (.slice Ao30 t215.length co30)) (fun _ hk => hk.2) (.slice Ao31 t218.length co31)) (fun _ hk => hk.2) (.int .i64 t221)) (fun _ hk => hk.1.1.1), by (with_reducible repeat (first | apply Kd.R_alloc | apply Kd.R_drewN | apply Kd.R_drew)); exact Kd.R_mono (Kd.R_far (p := ⟨gb187, 4, none⟩) (Kd.R_far (p := ⟨gb187, 3, none⟩) (Kd.R_far (p := ⟨gb187, 2, none⟩) (Kd.R_far (p := ⟨gb187, 1, none⟩) (Kd.R_far (p := ⟨gb187, 0, none⟩) (Kd.R_types HO220.out BK187.out (by decide)) (fun _ hk => hk.2) (.int .i64 t211)) (fun _ hk => hk.2) (.slice Ao29 t212.length co29)) (fun _ hk => hk.2) (.slice Ao30 t215.length co30)) (fun _ hk => hk.2) (.slice Ao31 t218.length co31)) (fun _ hk => hk.2) (.int .i64 t221)) (fun _ hk => hk.1.1.1), bl_⟩
     ·
      rw [if_neg c22] at H
      have c22b0 : ((x6_1.length : Int) == (t200.length : Int)) = false := beq_eq_false_iff_ne.mpr c22
      have c22b1 : ((x6_1.length : Int) != (t200.length : Int)) = true := bne_iff_ne.mpr c22
      have c22b2 : (x6_1.length == t200.length) = false := by first | simpa using c22 | (simp at c22 ⊢; omega)
      replace H := Option.bind_eq_some_iff.mp H
      obtain ⟨⟨t222, t223, t226⟩, A320, H⟩ := H
      replace H : (some (t222, t223, t226, ([] : List (S91)), 0)) = some (r1, r2, r3, r4, r5) := H
      have A32 := Aside0.mk A320
      clear A320
      simp only [Option.some.injEq, Prod.mk.injEq] at H
      obtain ⟨rfl, rfl, rfl, rfl, rfl⟩ := H
      obtain ⟨Ao33, co33, eo33⟩ := Kd.R_slice HO_5.out
      subst eo33
      obtain ⟨Ao34, co34, eo34⟩ := Kd.R_slice HO_6.out
      subst eo34
      have hnb35 := NB186_187.out
      have hnc35 := NB187_186.out
      have hcz36_0 : wr.cell? ⟨gb186, 0, none⟩ = some (.int .i64 a0_0) := (blk_cell BK186.out 0).trans rfl
      have hcz36_1 : wr.cell? ⟨gb186, 1, none⟩ = some (.slice A0_1 l0_1.length c0_1) := (blk_cell BK186.out 1).trans rfl
      have hcz36_2 : wr.cell? ⟨gb186, 2, none⟩ = some (.slice A0_2 l0_2.length c0_2) := (blk_cell BK186.out 2).trans rfl
      have hfz36_0 := blk_frozen BK186.out 0
      have hfz36_1 := blk_frozen BK186.out 1
      have hfz36_2 := blk_frozen BK186.out 2
      go_wp2_with (first | ((with_reducible refine gate_callee (f := 80) rfl ?_); refine gL_ (some 44) Try.func80 #[.int .i64 a0_0, .slice Ao34 x6_1.length co34] ?_; (with_reducible refine (spec_l08Of.calls a0_0 _ _ x6_1 t222 t223 t226 _ ?side1 ?side2 A32.out).mono ?_); (case side1 => repeat (first | exact (Kd.R_reads' HO_6.out).2.2 | (with_reducible refine Kd.C_alloc ?_ _) | (with_reducible refine Kd.C_drewN ?_ _) | (with_reducible refine Kd.C_drew ?_))); (case side2 => exact (Kd.R_reads' HO_6.out).2.1); rintro e w37 ⟨v224, v227, rfl, ho0, ho1, hb⟩; refine ⟨_, rfl, ?_⟩; have n0_ := Aside0.mk (Kd.R_elder' (by exact rU_ HO_5.out) (Kd.R_base ho1) hb); have n1_ := Aside0.mk (Kd.R_elder' (by exact rU_ HO_6.out) (Kd.R_base ho1) hb); have n2_ := Aside0.mk (Kd.S_lower (Kd.S_new' (Kd.S_new' ho0 (Kd.R_lt (by exact rU_ HO_5.out))) (Kd.R_lt (by exact rU_ HO_6.out))) (below_size bl_)); have n3_ := Aside0.mk (Kd.R_lower (Kd.R_new' (Kd.R_new' ho1 (Kd.R_lt (by exact rU_ HO_5.out))) (Kd.R_lt (by exact rU_ HO_6.out))) (below_size bl_)); have n4_ := Aside0.mk (blk_below (up_ BK186.out) hb); have n5_ := Aside0.mk (blk_below (up_ BK187.out) hb); have n6_ := Aside0.mk (below_step bl_ hb); clear HO_5; clear HO_6; clear BK186; clear BK187; clear HB; have HO_5 := n0_; have HO_6 := n1_; have HO225 := n2_; have HO228 := n3_; have BK186 := n4_; have BK187 := n5_; have HB := n6_; clear n0_ n1_ n2_ n3_ n4_ n5_ n6_; (try clear hb); (try clear hb2); (try clear hk); (try clear hi); (try clear ho0); (try clear ho1); obtain ⟨Ao38, co38, eo38⟩ := Kd.R_slice HO228.out; subst eo38; obtain ⟨Ao39, co39, eo39⟩ := Kd.S_slice HO225.out; subst eo39; have hcz40_0 : w37.cell? ⟨gb187, 0, none⟩ = some (.int .i64 0) := (blk_cell BK187.out 0).trans rfl; have hcz40_1 : w37.cell? ⟨gb187, 1, none⟩ = some (.slice none 0 0) := (blk_cell BK187.out 1).trans rfl; have hcz40_2 : w37.cell? ⟨gb187, 2, none⟩ = some (.slice none 0 0) := (blk_cell BK187.out 2).trans rfl; have hcz40_3 : w37.cell? ⟨gb187, 3, none⟩ = some (.slice none 0 0) := (blk_cell BK187.out 3).trans rfl; have hcz40_4 : w37.cell? ⟨gb187, 4, none⟩ = some (.int .i64 0) := (blk_cell BK187.out 4).trans rfl; have hfz40_0 := blk_frozen BK187.out 0; have hfz40_1 := blk_frozen BK187.out 1; have hfz40_2 := blk_frozen BK187.out 2; have hfz40_3 := blk_frozen BK187.out 3; have hfz40_4 := blk_frozen BK187.out 4))
      refine bodyPost_ret (results_cell_row rfl _ _ gb187 51 #[.int .i64 t222, .slice Ao39 t223.length co39, .slice Ao38 t226.length co38, .slice none 0 0, .int .i64 0] (0, 0) _ rfl (by (with_reducible repeat (first | refine blk_drewN ?_ _ | refine blk_drew ?_ | refine blk_alloc ?_ _)); refine blk_put (cs := #[.int .i64 t222, .slice Ao39 t223.length co39, .slice Ao38 t226.length co38, .slice none 0 0, .int .i64 0]) ?_ 4 _ rfl; (with_reducible repeat (first | refine blk_drewN ?_ _ | refine blk_drew ?_ | refine blk_alloc ?_ _)); refine blk_put (cs := #[.int .i64 t222, .slice Ao39 t223.length co39, .slice Ao38 t226.length co38, .slice none 0 0, .int .i64 0]) ?_ 3 _ rfl; (with_reducible repeat (first | refine blk_drewN ?_ _ | refine blk_drew ?_ | refine blk_alloc ?_ _)); refine blk_put (cs := #[.int .i64 t222, .slice Ao39 t223.length co39, .slice none 0 0, .slice none 0 0, .int .i64 0]) ?_ 2 _ rfl; (with_reducible repeat (first | refine blk_drewN ?_ _ | refine blk_drew ?_ | refine blk_alloc ?_ _)); refine blk_put (cs := #[.int .i64 t222, .slice none 0 0, .slice none 0 0, .slice none 0 0, .int .i64 0]) ?_ 1 _ rfl; (with_reducible repeat (first | refine blk_drewN ?_ _ | refine blk_drew ?_ | refine blk_alloc ?_ _)); refine blk_put (cs := #[.int .i64 0, .slice none 0 0, .slice none 0 0, .slice none 0 0, .int .i64 0]) ?_ 0 _ rfl; (with_reducible repeat (first | refine blk_drewN ?_ _ | refine blk_drew ?_ | refine blk_alloc ?_ _)); exact BK187.out) Try.underlying51 rfl (by kernel_rfl)) rfl ?_
      exact ⟨_, _, _, by first | rfl | (simp [errW_none, errW_some] <;> rfl) | (simp [*, errW_none, errW_some] <;> rfl), by (with_reducible repeat (first | apply Kd.S_alloc | apply Kd.S_drewN | apply Kd.S_drew)); exact Kd.S_mono (Kd.S_far (p := ⟨gb187, 4, none⟩) (Kd.S_far (p := ⟨gb187, 3, none⟩) (Kd.S_far (p := ⟨gb187, 2, none⟩) (Kd.S_far (p := ⟨gb187, 1, none⟩) (Kd.S_far (p := ⟨gb187, 0, none⟩) (Kd.S_types HO225.out BK187.out (by decide)) (fun _ hk => hk.2) (.int .i64 t222)) (fun _ hk => hk.2) (.slice Ao39 t223.length co39)) (fun _ hk => hk.2) (.slice Ao38 t226.length co38)) (fun _ hk => hk.2) (.slice none 0 0)) (fun _ hk => hk.2) (.int .i64 0)) (fun _ hk => ⟨hk.1.1.1, (by simp [Value.ownBlock])⟩), by (with_reducible repeat (first | apply Kd.R_alloc | apply Kd.R_drewN | apply Kd.R_drew)); exact Kd.R_mono (Kd.R_far (p := ⟨gb187, 4, none⟩) (Kd.R_far (p := ⟨gb187, 3, none⟩) (Kd.R_far (p := ⟨gb187, 2, none⟩) (Kd.R_far (p := ⟨gb187, 1, none⟩) (Kd.R_far (p := ⟨gb187, 0, none⟩) (Kd.R_types HO228.out BK187.out (by decide)) (fun _ hk => hk.2) (.int .i64 t222)) (fun _ hk => hk.2) (.slice Ao39 t223.length co39)) (fun _ hk => hk.2) (.slice Ao38 t226.length co38)) (fun _ hk => hk.2) (.slice none 0 0)) (fun _ hk => hk.2) (.int .i64 0)) (fun _ hk => (by simp [Value.ownBlock])), by first | exact Kd.R_nil _ _ _ _ _ | exact Kd.N_nil _ _ _ _ _ | exact Kd.V_nil _ _ _ _ _ | exact Kd.Q_nil _ _ _ _ _ | exact Kd.S_nil _ _ _ _ _, bl_⟩
 ·
  replace c4 := Bool.eq_false_iff.mpr c4
  subst c4
  have H1 : ((spec_l08Wrong.f 1).bind fun bt189 => (some (bt189.1, bt189.2.1, bt189.2.2.1, bt189.2.2.2.1, bt189.2.2.2.2))) = some (r1, r2, r3, r4, r5) := by rw [if_neg (show ¬ (false = true) by decide)] at H; exact H
  clear H
  have H := H1
  clear H1
  replace H := Option.bind_eq_some_iff.mp H
  obtain ⟨⟨t189, t190, t193, t196, t199⟩, A410, H⟩ := H
  replace H : (some (t189, t190, t193, t196, t199)) = some (r1, r2, r3, r4, r5) := H
  have A41 := Aside0.mk A410
  clear A410
  simp only [Option.some.injEq, Prod.mk.injEq] at H
  obtain ⟨rfl, rfl, rfl, rfl, rfl⟩ := H
  go_enter Try.func29, Try.ntmps29
  go_wp2_with (first | ((with_reducible refine gate_dst (N := 2) rfl ?_); refine box_event ?hg (N := 2) ?hd (cs := #[.int .i64 a0_0, .slice A0_1 l0_1.length c0_1, .slice A0_2 l0_2.length c0_2]) (t := 45) ?hr ?_; (case hd => rfl); (case hg => rfl); (case hr => first | (go_simp; done) | (go_simp; rfl)); intro gb186 hg w42 hbox hb; have n0_ := Aside0.mk (below_step bl_ hb); have n1_ := Aside0.mk (hbox); have n2_ := Aside0.mk ((by rw [hg]; exact (below_size bl_) : w.heap.size ≤ gb186)); have n3_ := Aside0.mk ((by rw [hg]; exact (below_size bl_) : w.heap.size ≤ gb186)); clear HB; have HB := n0_; have BK186 := n1_; have GW186 := n2_; have GE186 := n3_; clear n0_ n1_ n2_ n3_; clear hb hbox hg) | ((with_reducible refine gate_dst (N := 4) rfl ?_); refine box_event ?hg (N := 4) ?hd (cs := #[.int .i64 0, .slice none 0 0, .slice none 0 0, .slice none 0 0, .int .i64 0]) (t := 51) ?hr ?_; (case hd => rfl); (case hg => rfl); (case hr => first | (go_simp; done) | (go_simp; rfl)); intro gb187 hg w43 hbox hb; have n0_ := Aside0.mk (blk_below (up_ BK186.out) hb); have n1_ := Aside0.mk (below_step bl_ hb); have n2_ := Aside0.mk (hbox); have n3_ := Aside0.mk ((by rw [hg]; exact (below_size bl_) : w.heap.size ≤ gb187)); have n4_ := Aside0.mk ((by rw [hg]; exact (below_size bl_) : w.heap.size ≤ gb187)); have n5_ := Aside0.mk ((by rw [hg]; exact Nat.ne_of_lt (blk_lt (up_ BK186.out)) : gb186 ≠ gb187)); have n6_ := Aside0.mk ((by rw [hg]; exact Nat.ne_of_gt (blk_lt (up_ BK186.out)) : gb187 ≠ gb186)); clear BK186; clear HB; have BK186 := n0_; have HB := n1_; have BK187 := n2_; have GW187 := n3_; have GE187 := n4_; have NB186_187 := n5_; have NB187_186 := n6_; clear n0_ n1_ n2_ n3_ n4_ n5_ n6_; clear hb hbox hg; have hnb44 := NB186_187.out; have hnc44 := NB187_186.out; have hcz45_0 : w43.cell? ⟨gb186, 0, none⟩ = some (.int .i64 a0_0) := (blk_cell BK186.out 0).trans rfl; have hcz45_1 : w43.cell? ⟨gb186, 1, none⟩ = some (.slice A0_1 l0_1.length c0_1) := (blk_cell BK186.out 1).trans rfl; have hcz45_2 : w43.cell? ⟨gb186, 2, none⟩ = some (.slice A0_2 l0_2.length c0_2) := (blk_cell BK186.out 2).trans rfl; have hfz45_0 := blk_frozen BK186.out 0; have hfz45_1 := blk_frozen BK186.out 1; have hfz45_2 := blk_frozen BK186.out 2) | ((with_reducible refine gate_callee (f := 23) rfl ?_); refine gL_ (some 9) Try.func23 #[.agg #[.int .i64 a0_0, .slice A0_1 l0_1.length c0_1, .slice A0_2 l0_2.length c0_2]] ?_; (with_reducible refine (spec_WheelRight.calls k a0_0 _ _ l0_1 _ _ l0_2 false _ ?side1 ?side2 ?side3 ?side4 A3.out).mono ?_); (case side1 => exact Kd.C_below HR0_1.out bl_); (case side2 => exact HC0_1.out); (case side3 => exact Kd.C_below HR0_2.out bl_); (case side4 => exact HC0_2.out); rintro e w46 ⟨rfl, hb⟩; refine ⟨_, rfl, ?_⟩; have n0_ := Aside0.mk (blk_below (up_ BK186.out) hb); have n1_ := Aside0.mk (blk_below (up_ BK187.out) hb); have n2_ := Aside0.mk (below_step bl_ hb); clear BK186; clear BK187; clear HB; have BK186 := n0_; have BK187 := n1_; have HB := n2_; clear n0_ n1_ n2_; (try clear hb); (try clear hb2); (try clear hk); (try clear hi)) | ((with_reducible refine gate_callee (f := 79) rfl ?_); refine gL_ (some 11) Try.func79 #[.int .i64 1] ?_; (with_reducible refine (spec_l08Wrong.calls 1 t189 t190 t193 t196 t199 _ A41.out).mono ?_); rintro e w47 ⟨v191, v194, v197, rfl, ho0, ho1, ho2, hb⟩; refine ⟨_, rfl, ?_⟩; have n0_ := Aside0.mk (Kd.S_lower ho0 (below_size bl_)); have n1_ := Aside0.mk (Kd.R_lower ho1 (below_size bl_)); have n2_ := Aside0.mk (Kd.R_lower ho2 (below_size bl_)); have n3_ := Aside0.mk (blk_below (up_ BK186.out) hb); have n4_ := Aside0.mk (blk_below (up_ BK187.out) hb); have n5_ := Aside0.mk (below_step bl_ hb); clear BK186; clear BK187; clear HB; have HO192 := n0_; have HO195 := n1_; have HO198 := n2_; have BK186 := n3_; have BK187 := n4_; have HB := n5_; clear n0_ n1_ n2_ n3_ n4_ n5_; (try clear hb); (try clear hb2); (try clear hk); (try clear hi); (try clear ho0); (try clear ho1); (try clear ho2); have hcz48_0 : w47.cell? ⟨gb187, 0, none⟩ = some (.int .i64 0) := (blk_cell BK187.out 0).trans rfl; have hcz48_1 : w47.cell? ⟨gb187, 1, none⟩ = some (.slice none 0 0) := (blk_cell BK187.out 1).trans rfl; have hcz48_2 : w47.cell? ⟨gb187, 2, none⟩ = some (.slice none 0 0) := (blk_cell BK187.out 2).trans rfl; have hcz48_3 : w47.cell? ⟨gb187, 3, none⟩ = some (.slice none 0 0) := (blk_cell BK187.out 3).trans rfl; have hcz48_4 : w47.cell? ⟨gb187, 4, none⟩ = some (.int .i64 0) := (blk_cell BK187.out 4).trans rfl; have hfz48_0 := blk_frozen BK187.out 0; have hfz48_1 := blk_frozen BK187.out 1; have hfz48_2 := blk_frozen BK187.out 2; have hfz48_3 := blk_frozen BK187.out 3; have hfz48_4 := blk_frozen BK187.out 4; obtain ⟨Ao49, co49, eo49⟩ := Kd.S_slice HO192.out; subst eo49; obtain ⟨Ao50, co50, eo50⟩ := Kd.R_slice HO195.out; subst eo50; obtain ⟨Ao51, co51, eo51⟩ := Kd.R_slice HO198.out; subst eo51))
  refine bodyPost_ret (results_cell_row rfl _ _ gb187 51 #[.int .i64 t189, .slice Ao49 t190.length co49, .slice Ao50 t193.length co50, .slice Ao51 t196.length co51, .int .i64 t199] (0, 0) _ rfl (by (with_reducible repeat (first | refine blk_drewN ?_ _ | refine blk_drew ?_ | refine blk_alloc ?_ _)); refine blk_put (cs := #[.int .i64 t189, .slice Ao49 t190.length co49, .slice Ao50 t193.length co50, .slice Ao51 t196.length co51, .int .i64 0]) ?_ 4 _ rfl; (with_reducible repeat (first | refine blk_drewN ?_ _ | refine blk_drew ?_ | refine blk_alloc ?_ _)); refine blk_put (cs := #[.int .i64 t189, .slice Ao49 t190.length co49, .slice Ao50 t193.length co50, .slice none 0 0, .int .i64 0]) ?_ 3 _ rfl; (with_reducible repeat (first | refine blk_drewN ?_ _ | refine blk_drew ?_ | refine blk_alloc ?_ _)); refine blk_put (cs := #[.int .i64 t189, .slice Ao49 t190.length co49, .slice none 0 0, .slice none 0 0, .int .i64 0]) ?_ 2 _ rfl; (with_reducible repeat (first | refine blk_drewN ?_ _ | refine blk_drew ?_ | refine blk_alloc ?_ _)); refine blk_put (cs := #[.int .i64 t189, .slice none 0 0, .slice none 0 0, .slice none 0 0, .int .i64 0]) ?_ 1 _ rfl; (with_reducible repeat (first | refine blk_drewN ?_ _ | refine blk_drew ?_ | refine blk_alloc ?_ _)); refine blk_put (cs := #[.int .i64 0, .slice none 0 0, .slice none 0 0, .slice none 0 0, .int .i64 0]) ?_ 0 _ rfl; (with_reducible repeat (first | refine blk_drewN ?_ _ | refine blk_drew ?_ | refine blk_alloc ?_ _)); exact BK187.out) Try.underlying51 rfl (by kernel_rfl)) rfl ?_
  exact ⟨_, _, _, by first | rfl | (simp [errW_none, errW_some] <;> rfl) | (simp [*, errW_none, errW_some] <;> rfl), by (with_reducible repeat (first | apply Kd.S_alloc | apply Kd.S_drewN | apply Kd.S_drew)); exact Kd.S_mono (Kd.S_far (p := ⟨gb187, 4, none⟩) (Kd.S_far (p := ⟨gb187, 3, none⟩) (Kd.S_far (p := ⟨gb187, 2, none⟩) (Kd.S_far (p := ⟨gb187, 1, none⟩) (Kd.S_far (p := ⟨gb187, 0, none⟩) (Kd.S_types HO192.out BK187.out (by decide)) (fun _ hk => hk.2) (.int .i64 t189)) (fun _ hk => hk.2) (.slice Ao49 t190.length co49)) (fun _ hk => hk.2) (.slice Ao50 t193.length co50)) (fun _ hk => hk.2) (.slice Ao51 t196.length co51)) (fun _ hk => hk.2) (.int .i64 t199)) (fun _ hk => ⟨hk.1.1, hk.1.2⟩), by (with_reducible repeat (first | apply Kd.R_alloc | apply Kd.R_drewN | apply Kd.R_drew)); exact Kd.R_mono (Kd.R_far (p := ⟨gb187, 4, none⟩) (Kd.R_far (p := ⟨gb187, 3, none⟩) (Kd.R_far (p := ⟨gb187, 2, none⟩) (Kd.R_far (p := ⟨gb187, 1, none⟩) (Kd.R_far (p := ⟨gb187, 0, none⟩) (Kd.R_types HO195.out BK187.out (by decide)) (fun _ hk => hk.2) (.int .i64 t189)) (fun _ hk => hk.2) (.slice Ao49 t190.length co49)) (fun _ hk => hk.2) (.slice Ao50 t193.length co50)) (fun _ hk => hk.2) (.slice Ao51 t196.length co51)) (fun _ hk => hk.2) (.int .i64 t199)) (fun _ hk => hk.1), by (with_reducible repeat (first | apply Kd.R_alloc | apply Kd.R_drewN | apply Kd.R_drew)); exact Kd.R_mono (Kd.R_far (p := ⟨gb187, 4, none⟩) (Kd.R_far (p := ⟨gb187, 3, none⟩) (Kd.R_far (p := ⟨gb187, 2, none⟩) (Kd.R_far (p := ⟨gb187, 1, none⟩) (Kd.R_far (p := ⟨gb187, 0, none⟩) (Kd.R_types HO198.out BK187.out (by decide)) (fun _ hk => hk.2) (.int .i64 t189)) (fun _ hk => hk.2) (.slice Ao49 t190.length co49)) (fun _ hk => hk.2) (.slice Ao50 t193.length co50)) (fun _ hk => hk.2) (.slice Ao51 t196.length co51)) (fun _ hk => hk.2) (.int .i64 t199)) (fun _ hk => hk.1), bl_⟩

/-! ### impl_in: function 69 -/
def impl_in.f (a0 : Int) (a1 : Int) (a2 : Int) : Option (Bool) := if a1 ≤ a0 then (some (decide (a0 ≤ a2))) else (some false)
set_option maxHeartbeats 8000000 in
set_option maxRecDepth 100000 in
theorem impl_in.calls (a0 : Int) (a1 : Int) (a2 : Int) (r : Bool) (w : World) (h : impl_in.f a0 a1 a2 = some r) :
  Calls Try.prog 69 #[.int .i64 a0, .int .i64 a1, .int .i64 a2] w fun e w' => e = .returned (.bool r) ∧ Drawn0 w w' := by
 have H : (if a1 ≤ a0 then (some (decide (a0 ≤ a2))) else (some false)) = some r := h
 clear h
 by_cases c4 : a1 ≤ a0
 ·
  rw [if_pos c4] at H
  have c4b0 : decide (a1 ≤ a0) = true := decide_eq_true c4
  clear c4
  obtain rfl := Option.some.inj H
  go_enter Try.func69, Try.ntmps69
  go_wp2
  go_ret
  exact ⟨by first | rfl | (simp; done) | (simp [*]; done), by repeat (first | exact Drawn0.refl _ | apply Drawn0.step)⟩
 ·
  rw [if_neg c4] at H
  have c4b0 : decide (a1 ≤ a0) = false := decide_eq_false c4
  clear c4
  obtain rfl := Option.some.inj H
  go_enter Try.func69, Try.ntmps69
  go_wp2
  go_ret
  exact ⟨by first | rfl | (simp; done) | (simp [*]; done), by repeat (first | exact Drawn0.refl _ | apply Drawn0.step)⟩

/-! ### impl_isTime: function 68 -/
def impl_isTime.f (a0 : Int) : Option (Bool) := (impl_in.f a0 0 1000000).bind fun t229 => (some t229)
set_option maxHeartbeats 8000000 in
set_option maxRecDepth 100000 in
theorem impl_isTime.calls (a0 : Int) (r : Bool) (w : World) (h : impl_isTime.f a0 = some r) :
  Calls Try.prog 68 #[.int .i64 a0] w fun e w' => e = .returned (.bool r) ∧ Drawn0 w w' := by
 have H : ((impl_in.f a0 0 1000000).bind fun t229 => (some t229)) = some r := h
 clear h
 replace H := Option.bind_eq_some_iff.mp H
 obtain ⟨t229, A20, H⟩ := H
 replace H : (some t229) = some r := H
 have A2 := Aside0.mk A20
 clear A20
 obtain rfl := Option.some.inj H
 go_enter Try.func68, Try.ntmps68
 go_wp2_with (first | ((with_reducible refine gate_callee (f := 69) rfl ?_); refine gL_ (some 4) Try.func69 #[.int .i64 a0, .int .i64 0, .int .i64 1000000] ?_; (with_reducible refine (impl_in.calls a0 0 1000000 t229 _ A2.out).mono ?_); rintro e w' ⟨rfl, ⟨nd, rfl⟩⟩; refine ⟨_, rfl, ?_⟩))
 go_ret
 exact ⟨by first | rfl | (simp; done) | (simp [*]; done), by repeat (first | exact Drawn0.refl _ | apply Drawn0.step)⟩

/-! ### cmp_isNaN_int64: function 138 -/
def cmp_isNaN_int64.f (a0 : Int) : Option (Bool) := some (a0 != a0)
set_option maxHeartbeats 8000000 in
set_option maxRecDepth 100000 in
theorem cmp_isNaN_int64.calls (a0 : Int) (r : Bool) (w : World) (h : cmp_isNaN_int64.f a0 = some r) :
  Calls Try.prog 138 #[.int .i64 a0] w fun e w' => e = .returned (.bool r) ∧ Drawn0 w w' := by
 have H : (some (a0 != a0)) = some r := h
 clear h
 obtain rfl := Option.some.inj H
 go_enter Try.func138, Try.ntmps138
 go_wp2
 go_ret
 exact ⟨by first | rfl | (simp; done) | (simp [*]; done), by repeat (first | exact Drawn0.refl _ | apply Drawn0.step)⟩

end Go.Proofs.Ytenlceojmjkbkaa.XFnExactWheelDrop
