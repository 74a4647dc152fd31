/- Functions that FnExactWheelDrop comes to, as Lean functions with their contracts: written by the prover's own program (wip/tpl/myprint.py) over the kit's printer, some contracts by hand. Conditions: none. -/
import Derived.Test.YtenlceojmjkbkaaXFnExactWheelDropx0
import Derived.Test.YtenlceojmjkbkaaXFnExactWheelDropx1
import Derived.Test.YtenlceojmjkbkaaXFnExactWheelDropx2
import Derived.Test.YtenlceojmjkbkaaXFnExactWheelDropx4
import Derived.Test.YtenlceojmjkbkaaXFnExactWheelDropx9
import Derived.Test.YtenlceojmjkbkaaXFnExactWheelDropx10
namespace Go.Proofs.Ytenlceojmjkbkaa.XFnExactWheelDrop
open Go.RowKit Go.Proofs.YtenlceojmjkbkaaW.PrintWords Go.Proofs.YtenlceojmjkbkaaW.PrintLast Go.Proofs.YtenlceojmjkbkaaW.PrintMore
attribute [local go_sem] max2_int min2_int max_two min_two max_three min_three max_four min_four   -- for this text's walks alone
set_option linter.unusedVariables false
set_option linter.unusedSimpArgs false

/-! ### laws_FnExactWheelDrop: function 7 -/
def laws_FnExactWheelDrop.f (k : Nat) (a0 : Int) (l1 : List (List S150)) (l2 : List S150) (a1 : Int) : Option Bool :=
 (laws_szWheel.f k a0 l1 l2 1048576).bind fun t => if t < 0 then some true else
  (laws_toWheel.f k a0 l1 l2).bind fun x => (spec_WheelDrop.f k x.1 x.2.1 x.2.2 a1).bind fun s => (impl_WheelDrop.f k x.1 x.2.1 x.2.2 a1).bind fun g =>
  (laws_eqWheelOut.f k g.1 g.2.1 g.2.2.1 [] g.2.2.2 s.1 s.2.1 s.2.2.1 s.2.2.2.1 s.2.2.2.2).bind fun e1 => (laws_eqWheel.f k x.1 x.2.1 x.2.2 x.1 x.2.1 x.2.2).bind fun e2 =>
  (markSS k x.2.1 1).bind fun m1 => (laws_markTimerS.f k x.2.2 m1.1).bind fun m2 => (markSS k g.2.1 1).bind fun n1 => (laws_markTimerS.f k g.2.2.1 n1.1).bind fun n2 =>
  (laws_heldWheelOut.f k g.1 n1.2 n2.2 [] g.2.2.2 1).bind fun q => if e1 = true ∧ e2 = true ∧ 0 ≤ m2.1 ∧ 0 ≤ q ∧ q = n2.1 then some true else none
set_option maxHeartbeats 16000000 in
set_option maxRecDepth 100000 in
theorem laws_FnExactWheelDrop.calls (k : Nat) (a0_0 : Int) (A0_1 : Option Addr) (c0_1 : Nat) (l0_1 : List (List (S150))) (A0_2 : Option Addr) (c0_2 : Nat) (l0_2 : List (S150)) (a1 : Int) (r : Bool) (w : World) (hr0_1 : Kd.C (Kd.slice 150 k150) w A0_1 l0_1.length l0_1) (hc0_1 : l0_1.length ≤ c0_1) (hr0_2 : Kd.C k150 w A0_2 l0_2.length l0_2) (hc0_2 : l0_2.length ≤ c0_2) (h : laws_FnExactWheelDrop.f k a0_0 l0_1 l0_2 a1 = some r) (ht_ : r = true) :
  Calls Try.prog 7 #[.agg #[.int .i64 a0_0, .slice A0_1 l0_1.length c0_1, .slice A0_2 l0_2.length c0_2], .int .i64 a1] w fun e w' => e = .returned (.bool r) ∧ Below w.heap.size w w' := by
 have hu39 := Try.underlying39
 have hu45 := Try.underlying45
 have hu51 := Try.underlying51
 have HR1 := Aside0.mk hr0_1
 have HC1 := Aside0.mk hc0_1
 have HR2 := Aside0.mk hr0_2
 have HC2 := Aside0.mk hc0_2
 clear hr0_1 hc0_1 hr0_2 hc0_2
 subst ht_
 have HB := Aside0.mk (Below.refl w.heap.size w)
 unfold laws_FnExactWheelDrop.f at h
 obtain ⟨t, hsz, h⟩ := Option.bind_eq_some_iff.1 h
 have HSZ := Aside0.mk hsz
 clear hsz
 by_cases htn : t < 0
 ·
  clear h
  go_enter Try.func7, Try.ntmps7
  go_wp2_with (first
   | ((with_reducible refine gate_dst (N := 2) rfl ?_); refine box_event ?hg (N := 2) ?hd (cs := #[.int .i64 a0_0, .slice A0_1 l0_1.length c0_1, .slice A0_2 l0_2.length c0_2]) (t := 39) ?hr ?_; (case hd => rfl); (case hg => rfl); (case hr => first | (go_simp; done) | (go_simp; rfl)); intro gb2 hg_ w1 hbox_ hb_; have NUM := Aside0.mk (show gb2 = w.heap.size from hg_); replace NUM := Aside0.mk (And.intro (show gb2 < w1.heap.size from blk_lt hbox_) NUM.out); replace HB := Aside0.mk (below_then HB.out HB.out.size hb_); replace NUM := Aside0.mk (And.intro (show w.heap.size ≤ w1.heap.size from hb_.size) NUM.out); have BKgb2 := Aside0.mk hbox_; clear hbox_ hb_ hg_; have ca0 := blk_cell BKgb2.out 0; have ca1 := blk_cell BKgb2.out 1; have ca2 := blk_cell BKgb2.out 2; simp only [List.getElem?_toArray, List.getElem?_cons_zero, List.getElem?_cons_succ] at ca0 ca1 ca2))
  clear ca0 ca1 ca2
  refine (laws_szWheel.calls k a0_0 _ _ l0_1 _ _ l0_2 1048576 t _ ?s0 HC1.out ?s1 HC2.out HSZ.out).mono ?_
  (case s0 => exact Kd.C_below HR1.out HB.out)
  (case s1 => exact Kd.C_below HR2.out HB.out)
  rintro e w2 ⟨rfl, hb_⟩
  replace BKgb2 := Aside0.mk (blk_below BKgb2.out hb_)
  replace HB := Aside0.mk (below_then HB.out HB.out.size hb_)
  replace NUM := Aside0.mk (And.intro (show w1.heap.size ≤ w2.heap.size from hb_.size) NUM.out)
  clear hb_
  go_wp2
  go_ret
  exact ⟨rfl, HB.out⟩
 ·
  rw [if_neg htn] at h
  obtain ⟨⟨x1, x2, x3⟩, hto, h⟩ := Option.bind_eq_some_iff.1 h
  obtain ⟨⟨s1, s2, s3, s4, s5⟩, hsp, h⟩ := Option.bind_eq_some_iff.1 h
  obtain ⟨⟨g1, g2, g3, g5⟩, him, h⟩ := Option.bind_eq_some_iff.1 h
  obtain ⟨e1, heq, h⟩ := Option.bind_eq_some_iff.1 h
  obtain ⟨e2, hex, h⟩ := Option.bind_eq_some_iff.1 h
  obtain ⟨⟨m1, xx2⟩, hm1, h⟩ := Option.bind_eq_some_iff.1 h
  obtain ⟨⟨m2, xx3⟩, hm2, h⟩ := Option.bind_eq_some_iff.1 h
  obtain ⟨⟨n1, gg2⟩, hn1, h⟩ := Option.bind_eq_some_iff.1 h
  obtain ⟨⟨n2, gg3⟩, hn2, h⟩ := Option.bind_eq_some_iff.1 h
  obtain ⟨q, hhe, h⟩ := Option.bind_eq_some_iff.1 h
  by_cases hall : e1 = true ∧ e2 = true ∧ 0 ≤ m2 ∧ 0 ≤ q ∧ q = n2
  ·
   obtain ⟨rfl, rfl, hm0, hq0, rfl⟩ := hall
   have HTO : Aside0 (laws_toWheel.f k a0_0 l0_1 l0_2 = some (x1, x2, x3)) := ⟨hto⟩
   have HSP : Aside0 (spec_WheelDrop.f k x1 x2 x3 a1 = some (s1, s2, s3, s4, s5)) := ⟨hsp⟩
   have HIM : Aside0 (impl_WheelDrop.f k x1 x2 x3 a1 = some (g1, g2, g3, g5)) := ⟨him⟩
   have HEQ : Aside0 (laws_eqWheelOut.f k g1 g2 g3 [] g5 s1 s2 s3 s4 s5 = some true) := ⟨heq⟩
   have HEX : Aside0 (laws_eqWheel.f k x1 x2 x3 x1 x2 x3 = some true) := ⟨hex⟩
   have HM1 : Aside0 (markSS k x2 1 = some (m1, xx2)) := ⟨hm1⟩
   have HM2 : Aside0 (laws_markTimerS.f k x3 m1 = some (m2, xx3)) := ⟨hm2⟩
   have HN1 : Aside0 (markSS k g2 1 = some (n1, gg2)) := ⟨hn1⟩
   have HNN2 : Aside0 (laws_markTimerS.f k g3 n1 = some (q, gg3)) := ⟨hn2⟩
   have HHE : Aside0 (laws_heldWheelOut.f k g1 gg2 gg3 [] g5 1 = some q) := ⟨hhe⟩
   have HM0 : Aside0 (¬ m2 < 0) := ⟨by omega⟩
   have HQ0 : Aside0 (¬ q < 0) := ⟨by omega⟩
   clear hto hsp him heq hex hm1 hm2 hn1 hn2 hhe hm0 hq0 h
   go_enter Try.func7, Try.ntmps7
   go_wp2_with (first
    | ((with_reducible refine gate_dst (N := 2) rfl ?_); refine box_event ?hg (N := 2) ?hd (cs := #[.int .i64 a0_0, .slice A0_1 l0_1.length c0_1, .slice A0_2 l0_2.length c0_2]) (t := 39) ?hr ?_; (case hd => rfl); (case hg => rfl); (case hr => first | (go_simp; done) | (go_simp; rfl)); intro gb2 hg_ w1 hbox_ hb_; have NUM := Aside0.mk (show gb2 = w.heap.size from hg_); replace NUM := Aside0.mk (And.intro (show gb2 < w1.heap.size from blk_lt hbox_) NUM.out); replace HB := Aside0.mk (below_then HB.out HB.out.size hb_); replace NUM := Aside0.mk (And.intro (show w.heap.size ≤ w1.heap.size from hb_.size) NUM.out); have BKgb2 := Aside0.mk hbox_; clear hbox_ hb_ hg_; have ca0 := blk_cell BKgb2.out 0; have ca1 := blk_cell BKgb2.out 1; have ca2 := blk_cell BKgb2.out 2; simp only [List.getElem?_toArray, List.getElem?_cons_zero, List.getElem?_cons_succ] at ca0 ca1 ca2))
   clear ca0 ca1 ca2
   refine (laws_szWheel.calls k a0_0 _ _ l0_1 _ _ l0_2 1048576 t _ ?s0 HC1.out ?s1 HC2.out HSZ.out).mono ?_
   (case s0 => exact Kd.C_below HR1.out HB.out)
   (case s1 => exact Kd.C_below HR2.out HB.out)
   rintro e w2 ⟨rfl, hb_⟩
   replace BKgb2 := Aside0.mk (blk_below BKgb2.out hb_)
   replace HB := Aside0.mk (below_then HB.out HB.out.size hb_)
   replace NUM := Aside0.mk (And.intro (show w1.heap.size ≤ w2.heap.size from hb_.size) NUM.out)
   clear hb_
   have ca0 := blk_cell BKgb2.out 0
   have ca1 := blk_cell BKgb2.out 1
   have ca2 := blk_cell BKgb2.out 2
   simp only [List.getElem?_toArray, List.getElem?_cons_zero, List.getElem?_cons_succ] at ca0 ca1 ca2
   go_wp2_with fail
   clear ca0 ca1 ca2
   refine (laws_toWheel.calls k a0_0 _ _ l0_1 _ _ l0_2 x1 x2 x3 _ ?s0 HC1.out ?s1 HC2.out HTO.out).mono ?_
   (case s0 => exact Kd.C_below HR1.out HB.out)
   (case s1 => exact Kd.C_below HR2.out HB.out)
   rintro e w3 ⟨v1_, v2_, rfl, hS_, hR_, hb_⟩
   obtain ⟨Ay2, cy2, rfl⟩ := Kd.S_slice hS_
   obtain ⟨Ay3, cy3, rfl⟩ := Kd.R_slice hR_
   have n1_ : Kd.S (Kd.slice 91 k91) 43 w3 w.heap.size (fun k_ => (w2.heap.size ≤ k_ ∧ k_ < w3.heap.size) ∧ some k_ ≠ (.slice Ay3 x3.length cy3 : Value).ownBlock) _ x2 := Kd.S_lower (Kd.S_mono (Kd.S_bound hS_) (fun k_ h_ => ⟨⟨h_.2.1, h_.2.2.1⟩, h_.1⟩)) HB.out.size
   have n2_ : Kd.R k91 91 w3 w.heap.size (fun k_ => (w2.heap.size ≤ k_ ∧ k_ < w3.heap.size) ∧ some k_ = (.slice Ay3 x3.length cy3 : Value).ownBlock) _ x3 := Kd.R_lower (R91_ok hR_ (fun k_ h_ => ⟨⟨Kd.R_base hR_ k_ h_, Kd.R_lt hR_ k_ h_⟩, h_.symm⟩)) HB.out.size
   clear hS_ hR_
   replace BKgb2 := Aside0.mk (blk_below BKgb2.out hb_)
   replace HB := Aside0.mk (below_then HB.out HB.out.size hb_)
   replace NUM := Aside0.mk (And.intro (show w2.heap.size ≤ w3.heap.size from hb_.size) NUM.out)
   have HSy := Aside0.mk n1_
   have HRy := Aside0.mk n2_
   clear n1_ n2_ hb_
   go_wp2_with fail
   refine (spec_WheelDrop.calls k x1 _ _ x2 _ _ x3 a1 s1 s2 s3 s4 s5 _ ?s0 ?s1 ?s2 ?s3 HSP.out).mono ?_
   (case s0 => exact (Kd.S_reads' HSy.out).2.2)
   (case s1 => exact (Kd.S_reads' HSy.out).2.1)
   (case s2 => exact (Kd.R_reads' HRy.out).2.2)
   (case s3 => exact (Kd.R_reads' HRy.out).2.1)
   rintro e w4 ⟨v1_, v2_, v3_, rfl, hN_, hR_, hQ_, hb_⟩
   obtain ⟨As2, cs2, rfl⟩ := Kd.S_slice hN_
   obtain ⟨As3, cs3, rfl⟩ := Kd.R_slice hR_
   obtain ⟨As4, cs4, rfl⟩ := Kd.R_slice hQ_
   have n1_ : Kd.S (Kd.slice 91 k91) 43 w4 w.heap.size (fun k_ => (w3.heap.size ≤ k_ ∧ k_ < w4.heap.size)) _ s2 := Kd.S_lower (Kd.S_mono (Kd.S_bound hN_) (fun k_ h_ => ⟨h_.2.1, h_.2.2.1⟩)) HB.out.size
   have n2_ : Kd.R k91 91 w4 w.heap.size (fun k_ => (w3.heap.size ≤ k_ ∧ k_ < w4.heap.size)) _ s3 := Kd.R_lower (R91_ok hR_ (fun k_ h_ => ⟨Kd.R_base hR_ k_ h_, Kd.R_lt hR_ k_ h_⟩)) HB.out.size
   have n3_ : Kd.R k91 91 w4 w.heap.size (fun k_ => (w3.heap.size ≤ k_ ∧ k_ < w4.heap.size)) _ s4 := Kd.R_lower (R91_ok hQ_ (fun k_ h_ => ⟨Kd.R_base hQ_ k_ h_, Kd.R_lt hQ_ k_ h_⟩)) HB.out.size
   clear hN_ hR_ hQ_
   clear HSy
   clear HRy
   replace BKgb2 := Aside0.mk (blk_below BKgb2.out hb_)
   replace HB := Aside0.mk (below_then HB.out HB.out.size hb_)
   replace NUM := Aside0.mk (And.intro (show w3.heap.size ≤ w4.heap.size from hb_.size) NUM.out)
   have HN2 := Aside0.mk n1_
   have HN3 := Aside0.mk n2_
   have HN4 := Aside0.mk n3_
   clear n1_ n2_ n3_ hb_
   go_wp2_with (first
    | ((with_reducible refine gate_dst (N := 6) rfl ?_); refine box_event ?hg (N := 6) ?hd (cs := #[.int .i64 0, .slice none 0 0, .slice none 0 0, .slice none 0 0, .int .i64 0]) (t := 51) ?hr ?_; (case hd => rfl); (case hg => rfl); (case hr => first | (go_simp; done) | (go_simp; rfl)); intro gb6 hg_ w5 hbox_ hb_; replace NUM := Aside0.mk (And.intro (show gb6 = w4.heap.size from hg_) NUM.out); replace NUM := Aside0.mk (And.intro (show gb6 < w5.heap.size from blk_lt hbox_) NUM.out); replace BKgb2 := Aside0.mk (blk_below BKgb2.out hb_); replace HN2 := Aside0.mk (Kd.S_below HN2.out hb_); replace HN3 := Aside0.mk (Kd.R_below HN3.out hb_); replace HN4 := Aside0.mk (Kd.R_below HN4.out hb_); replace HB := Aside0.mk (below_then HB.out HB.out.size hb_); replace NUM := Aside0.mk (And.intro (show w4.heap.size ≤ w5.heap.size from hb_.size) NUM.out); have BKgb6 := Aside0.mk hbox_; clear hbox_ hb_ hg_)
    | ((with_reducible refine gate_store (t := 51) (p := 6) rfl ?_); have zc0 : w5.cell? ⟨gb6, 0, none⟩ = some (.int .i64 0) := (blk_cell BKgb6.out 0).trans rfl; have zf0 : w5.frozen? ⟨gb6, 0, none⟩ = false := blk_frozen BKgb6.out 0; have zc1 : w5.cell? ⟨gb6, 1, none⟩ = some (.slice none 0 0) := (blk_cell BKgb6.out 1).trans rfl; have zf1 : w5.frozen? ⟨gb6, 1, none⟩ = false := blk_frozen BKgb6.out 1; have zc2 : w5.cell? ⟨gb6, 2, none⟩ = some (.slice none 0 0) := (blk_cell BKgb6.out 2).trans rfl; have zf2 : w5.frozen? ⟨gb6, 2, none⟩ = false := blk_frozen BKgb6.out 2; have zc3 : w5.cell? ⟨gb6, 3, none⟩ = some (.slice none 0 0) := (blk_cell BKgb6.out 3).trans rfl; have zf3 : w5.frozen? ⟨gb6, 3, none⟩ = false := blk_frozen BKgb6.out 3; have zc4 : w5.cell? ⟨gb6, 4, none⟩ = some (.int .i64 0) := (blk_cell BKgb6.out 4).trans rfl; have zf4 : w5.frozen? ⟨gb6, 4, none⟩ = false := blk_frozen BKgb6.out 4; refine store_event (t := 51) (p := 6) (v := ?vo_gb6) (w1 := (((((w5.setCell ⟨gb6, 0, none⟩ (.int .i64 s1)).setCell ⟨gb6, 1, none⟩ (.slice As2 s2.length cs2)).setCell ⟨gb6, 2, none⟩ (.slice As3 s3.length cs3)).setCell ⟨gb6, 3, none⟩ (.slice As4 s4.length cs4)).setCell ⟨gb6, 4, none⟩ (.int .i64 s5))) ?hg ?ho ?hn ?hr ?_; (case ho => rfl); (case hg => rfl); (case hn => rfl); (case hr => first | (go_simp; done) | (go_simp; rfl)); intro w6 hw_; clear zc0 zf0 zc1 zf1 zc2 zf2 zc3 zf3 zc4 zf4; have HWgb6 : Aside0 (w.heap.size ≤ gb6) := ⟨by have := HB.out.size; have := NUM.out; omega⟩; have hk_ : Kept w5 w6 (fun k => k = gb6) := (by rw [hw_]; exact (((((Kept.refl w5 (fun k => k = gb6)).setCell (p := ⟨gb6, 0, none⟩) (.inl rfl) (.int .i64 s1)).setCell (p := ⟨gb6, 1, none⟩) (.inl rfl) (.slice As2 s2.length cs2)).setCell (p := ⟨gb6, 2, none⟩) (.inl rfl) (.slice As3 s3.length cs3)).setCell (p := ⟨gb6, 3, none⟩) (.inl rfl) (.slice As4 s4.length cs4)).setCell (p := ⟨gb6, 4, none⟩) (.inl rfl) (.int .i64 s5)); have hb_ : Below w.heap.size w w6 := (by rw [hw_]; exact (below_set (below_set (below_set (below_set (below_set HB.out HWgb6.out) HWgb6.out) HWgb6.out) HWgb6.out) HWgb6.out)); have hp_ : w6.heap[gb6]? = some (.cells #[.int .i64 s1, .slice As2 s2.length cs2, .slice As3 s3.length cs3, .slice As4 s4.length cs4, .int .i64 s5] 51 (0, 0)) := (by rw [hw_]; exact (blk_put (cs := #[.int .i64 s1, .slice As2 s2.length cs2, .slice As3 s3.length cs3, .slice As4 s4.length cs4, .int .i64 0]) (cs' := #[.int .i64 s1, .slice As2 s2.length cs2, .slice As3 s3.length cs3, .slice As4 s4.length cs4, .int .i64 s5]) (blk_put (cs := #[.int .i64 s1, .slice As2 s2.length cs2, .slice As3 s3.length cs3, .slice none 0 0, .int .i64 0]) (cs' := #[.int .i64 s1, .slice As2 s2.length cs2, .slice As3 s3.length cs3, .slice As4 s4.length cs4, .int .i64 0]) (blk_put (cs := #[.int .i64 s1, .slice As2 s2.length cs2, .slice none 0 0, .slice none 0 0, .int .i64 0]) (cs' := #[.int .i64 s1, .slice As2 s2.length cs2, .slice As3 s3.length cs3, .slice none 0 0, .int .i64 0]) (blk_put (cs := #[.int .i64 s1, .slice none 0 0, .slice none 0 0, .slice none 0 0, .int .i64 0]) (cs' := #[.int .i64 s1, .slice As2 s2.length cs2, .slice none 0 0, .slice none 0 0, .int .i64 0]) (blk_put (cs := #[.int .i64 0, .slice none 0 0, .slice none 0 0, .slice none 0 0, .int .i64 0]) (cs' := #[.int .i64 s1, .slice none 0 0, .slice none 0 0, .slice none 0 0, .int .i64 0]) BKgb6.out 0 (.int .i64 s1) rfl) 1 (.slice As2 s2.length cs2) rfl) 2 (.slice As3 s3.length cs3) rfl) 3 (.slice As4 s4.length cs4) rfl) 4 (.int .i64 s5) rfl)); replace BKgb2 := Aside0.mk (blk_kept BKgb2.out hk_ (fun hs => by have hs' : gb2 = gb6 := hs; have := NUM.out; omega)); replace HN2 := Aside0.mk (Kd.S_kept HN2.out hk_ (fun k_ hk_ hs => by have hs' : k_ = gb6 := hs; have hi_ : (w3.heap.size ≤ k_ ∧ k_ < w4.heap.size) := hk_; have := NUM.out; omega)); replace HN3 := Aside0.mk (Kd.R_kept HN3.out hk_ (fun k_ hk_ hs => by have hs' : k_ = gb6 := hs; have hi_ : (w3.heap.size ≤ k_ ∧ k_ < w4.heap.size) := hk_; have := NUM.out; omega)); replace HN4 := Aside0.mk (Kd.R_kept HN4.out hk_ (fun k_ hk_ hs => by have hs' : k_ = gb6 := hs; have hi_ : (w3.heap.size ≤ k_ ∧ k_ < w4.heap.size) := hk_; have := NUM.out; omega)); replace HB := Aside0.mk (hb_); replace NUM := Aside0.mk (And.intro (show w5.heap.size ≤ w6.heap.size from hk_.1) NUM.out); replace BKgb6 := Aside0.mk hp_; clear hk_ hb_ hp_ hw_; have ca0 := blk_cell BKgb2.out 0; have ca1 := blk_cell BKgb2.out 1; have ca2 := blk_cell BKgb2.out 2; simp only [List.getElem?_toArray, List.getElem?_cons_zero, List.getElem?_cons_succ] at ca0 ca1 ca2))
   clear ca0 ca1 ca2
   refine (laws_toWheel.calls k a0_0 _ _ l0_1 _ _ l0_2 x1 x2 x3 _ ?s0 HC1.out ?s1 HC2.out HTO.out).mono ?_
   (case s0 => exact Kd.C_below HR1.out HB.out)
   (case s1 => exact Kd.C_below HR2.out HB.out)
   rintro e w7 ⟨v1_, v2_, rfl, hS_, hR_, hb_⟩
   obtain ⟨Ax2, cx2, rfl⟩ := Kd.S_slice hS_
   obtain ⟨Ax3, cx3, rfl⟩ := Kd.R_slice hR_
   have n1_ : Kd.S (Kd.slice 91 k91) 43 w7 w.heap.size (fun k_ => (w6.heap.size ≤ k_ ∧ k_ < w7.heap.size) ∧ some k_ ≠ (.slice Ax3 x3.length cx3 : Value).ownBlock) _ x2 := Kd.S_lower (Kd.S_mono (Kd.S_bound hS_) (fun k_ h_ => ⟨⟨h_.2.1, h_.2.2.1⟩, h_.1⟩)) HB.out.size
   have n2_ : Kd.R k91 91 w7 w.heap.size (fun k_ => (w6.heap.size ≤ k_ ∧ k_ < w7.heap.size) ∧ some k_ = (.slice Ax3 x3.length cx3 : Value).ownBlock) _ x3 := Kd.R_lower (R91_ok hR_ (fun k_ h_ => ⟨⟨Kd.R_base hR_ k_ h_, Kd.R_lt hR_ k_ h_⟩, h_.symm⟩)) HB.out.size
   clear hS_ hR_
   replace BKgb2 := Aside0.mk (blk_below BKgb2.out hb_)
   replace HN2 := Aside0.mk (Kd.S_below HN2.out hb_)
   replace HN3 := Aside0.mk (Kd.R_below HN3.out hb_)
   replace HN4 := Aside0.mk (Kd.R_below HN4.out hb_)
   replace BKgb6 := Aside0.mk (blk_below BKgb6.out hb_)
   replace HB := Aside0.mk (below_then HB.out HB.out.size hb_)
   replace NUM := Aside0.mk (And.intro (show w6.heap.size ≤ w7.heap.size from hb_.size) NUM.out)
   have HSx := Aside0.mk n1_
   have HRx := Aside0.mk n2_
   clear n1_ n2_ hb_
   go_wp2_with (first
    | ((with_reducible refine gate_dst (N := 7) rfl ?_); refine box_event ?hg (N := 7) ?hd (cs := #[.int .i64 0, .slice none 0 0, .slice none 0 0]) (t := 45) ?hr ?_; (case hd => rfl); (case hg => rfl); (case hr => first | (go_simp; done) | (go_simp; rfl)); intro gb7 hg_ w8 hbox_ hb_; replace NUM := Aside0.mk (And.intro (show gb7 = w7.heap.size from hg_) NUM.out); replace NUM := Aside0.mk (And.intro (show gb7 < w8.heap.size from blk_lt hbox_) NUM.out); replace BKgb2 := Aside0.mk (blk_below BKgb2.out hb_); replace HN2 := Aside0.mk (Kd.S_below HN2.out hb_); replace HN3 := Aside0.mk (Kd.R_below HN3.out hb_); replace HN4 := Aside0.mk (Kd.R_below HN4.out hb_); replace BKgb6 := Aside0.mk (blk_below BKgb6.out hb_); replace HSx := Aside0.mk (Kd.S_below HSx.out hb_); replace HRx := Aside0.mk (Kd.R_below HRx.out hb_); replace HB := Aside0.mk (below_then HB.out HB.out.size hb_); replace NUM := Aside0.mk (And.intro (show w7.heap.size ≤ w8.heap.size from hb_.size) NUM.out); have BKgb7 := Aside0.mk hbox_; clear hbox_ hb_ hg_)
    | ((with_reducible refine gate_store (t := 45) (p := 7) rfl ?_); have zc0 : w8.cell? ⟨gb7, 0, none⟩ = some (.int .i64 0) := (blk_cell BKgb7.out 0).trans rfl; have zf0 : w8.frozen? ⟨gb7, 0, none⟩ = false := blk_frozen BKgb7.out 0; have zc1 : w8.cell? ⟨gb7, 1, none⟩ = some (.slice none 0 0) := (blk_cell BKgb7.out 1).trans rfl; have zf1 : w8.frozen? ⟨gb7, 1, none⟩ = false := blk_frozen BKgb7.out 1; have zc2 : w8.cell? ⟨gb7, 2, none⟩ = some (.slice none 0 0) := (blk_cell BKgb7.out 2).trans rfl; have zf2 : w8.frozen? ⟨gb7, 2, none⟩ = false := blk_frozen BKgb7.out 2; refine store_event (t := 45) (p := 7) (v := ?vo_gb7) (w1 := (((w8.setCell ⟨gb7, 0, none⟩ (.int .i64 x1)).setCell ⟨gb7, 1, none⟩ (.slice Ax2 x2.length cx2)).setCell ⟨gb7, 2, none⟩ (.slice Ax3 x3.length cx3))) ?hg ?ho ?hn ?hr ?_; (case ho => rfl); (case hg => rfl); (case hn => rfl); (case hr => first | (go_simp; done) | (go_simp; rfl)); intro w9 hw_; clear zc0 zf0 zc1 zf1 zc2 zf2; have HWgb7 : Aside0 (w.heap.size ≤ gb7) := ⟨by have := HB.out.size; have := NUM.out; omega⟩; have hk_ : Kept w8 w9 (fun k => k = gb7) := (by rw [hw_]; exact (((Kept.refl w8 (fun k => k = gb7)).setCell (p := ⟨gb7, 0, none⟩) (.inl rfl) (.int .i64 x1)).setCell (p := ⟨gb7, 1, none⟩) (.inl rfl) (.slice Ax2 x2.length cx2)).setCell (p := ⟨gb7, 2, none⟩) (.inl rfl) (.slice Ax3 x3.length cx3)); have hb_ : Below w.heap.size w w9 := (by rw [hw_]; exact (below_set (below_set (below_set HB.out HWgb7.out) HWgb7.out) HWgb7.out)); have hp_ : w9.heap[gb7]? = some (.cells #[.int .i64 x1, .slice Ax2 x2.length cx2, .slice Ax3 x3.length cx3] 45 (0, 0)) := (by rw [hw_]; exact (blk_put (cs := #[.int .i64 x1, .slice Ax2 x2.length cx2, .slice none 0 0]) (cs' := #[.int .i64 x1, .slice Ax2 x2.length cx2, .slice Ax3 x3.length cx3]) (blk_put (cs := #[.int .i64 x1, .slice none 0 0, .slice none 0 0]) (cs' := #[.int .i64 x1, .slice Ax2 x2.length cx2, .slice none 0 0]) (blk_put (cs := #[.int .i64 0, .slice none 0 0, .slice none 0 0]) (cs' := #[.int .i64 x1, .slice none 0 0, .slice none 0 0]) BKgb7.out 0 (.int .i64 x1) rfl) 1 (.slice Ax2 x2.length cx2) rfl) 2 (.slice Ax3 x3.length cx3) rfl)); replace BKgb2 := Aside0.mk (blk_kept BKgb2.out hk_ (fun hs => by have hs' : gb2 = gb7 := hs; have := NUM.out; omega)); replace HN2 := Aside0.mk (Kd.S_kept HN2.out hk_ (fun k_ hk_ hs => by have hs' : k_ = gb7 := hs; have hi_ : (w3.heap.size ≤ k_ ∧ k_ < w4.heap.size) := hk_; have := NUM.out; omega)); replace HN3 := Aside0.mk (Kd.R_kept HN3.out hk_ (fun k_ hk_ hs => by have hs' : k_ = gb7 := hs; have hi_ : (w3.heap.size ≤ k_ ∧ k_ < w4.heap.size) := hk_; have := NUM.out; omega)); replace HN4 := Aside0.mk (Kd.R_kept HN4.out hk_ (fun k_ hk_ hs => by have hs' : k_ = gb7 := hs; have hi_ : (w3.heap.size ≤ k_ ∧ k_ < w4.heap.size) := hk_; have := NUM.out; omega)); replace BKgb6 := Aside0.mk (blk_kept BKgb6.out hk_ (fun hs => by have hs' : gb6 = gb7 := hs; have := NUM.out; omega)); replace HSx := Aside0.mk (Kd.S_kept HSx.out hk_ (fun k_ hk_ hs => by have hs' : k_ = gb7 := hs; have hi_ : (w6.heap.size ≤ k_ ∧ k_ < w7.heap.size) := hk_.1; have := NUM.out; omega)); replace HRx := Aside0.mk (Kd.R_kept HRx.out hk_ (fun k_ hk_ hs => by have hs' : k_ = gb7 := hs; have hi_ : (w6.heap.size ≤ k_ ∧ k_ < w7.heap.size) := hk_.1; have := NUM.out; omega)); replace HB := Aside0.mk (hb_); replace NUM := Aside0.mk (And.intro (show w8.heap.size ≤ w9.heap.size from hk_.1) NUM.out); replace BKgb7 := Aside0.mk hp_; clear hk_ hb_ hp_ hw_; have ca0 := blk_cell BKgb7.out 0; have ca1 := blk_cell BKgb7.out 1; have ca2 := blk_cell BKgb7.out 2; simp only [List.getElem?_toArray, List.getElem?_cons_zero, List.getElem?_cons_succ] at ca0 ca1 ca2))
   clear ca0 ca1 ca2
   refine (impl_WheelDrop.calls k x1 _ _ x2 _ _ x3 a1 g1 g2 g3 g5 _ ?s0 ?s1 ?s2 ?s3 HIM.out).mono ?_
   (case s0 => exact (Kd.S_reads' HSx.out).2.2)
   (case s1 => exact (Kd.S_reads' HSx.out).2.1)
   (case s2 => exact (Kd.R_reads' HRx.out).2.2)
   (case s3 => exact (Kd.R_reads' HRx.out).2.1)
   rintro e w10 ⟨v1_, v2_, rfl, hS_, hR_, hb_⟩
   obtain ⟨Ag2, cg2, rfl⟩ := Kd.S_slice hS_
   obtain ⟨Ag3, cg3, rfl⟩ := Kd.R_slice hR_
   have n1_ : Kd.S (Kd.slice 91 k91) 43 w10 w.heap.size (fun k_ => (w9.heap.size ≤ k_ ∧ k_ < w10.heap.size) ∧ some k_ ≠ (.slice Ag3 g3.length cg3 : Value).ownBlock) _ g2 := Kd.S_lower (Kd.S_mono (Kd.S_bound hS_) (fun k_ h_ => ⟨⟨h_.2.1, h_.2.2.1⟩, h_.1⟩)) HB.out.size
   have n2_ : Kd.R k91 91 w10 w.heap.size (fun k_ => (w9.heap.size ≤ k_ ∧ k_ < w10.heap.size) ∧ some k_ = (.slice Ag3 g3.length cg3 : Value).ownBlock) _ g3 := Kd.R_lower (R91_ok hR_ (fun k_ h_ => ⟨⟨Kd.R_base hR_ k_ h_, Kd.R_lt hR_ k_ h_⟩, h_.symm⟩)) HB.out.size
   clear hS_ hR_
   replace BKgb2 := Aside0.mk (blk_below BKgb2.out hb_)
   replace HN2 := Aside0.mk (Kd.S_below HN2.out hb_)
   replace HN3 := Aside0.mk (Kd.R_below HN3.out hb_)
   replace HN4 := Aside0.mk (Kd.R_below HN4.out hb_)
   replace BKgb6 := Aside0.mk (blk_below BKgb6.out hb_)
   replace HSx := Aside0.mk (Kd.S_below HSx.out hb_)
   replace HRx := Aside0.mk (Kd.R_below HRx.out hb_)
   replace BKgb7 := Aside0.mk (blk_below BKgb7.out hb_)
   replace HB := Aside0.mk (below_then HB.out HB.out.size hb_)
   replace NUM := Aside0.mk (And.intro (show w9.heap.size ≤ w10.heap.size from hb_.size) NUM.out)
   have HSg := Aside0.mk n1_
   have HRg := Aside0.mk n2_
   clear n1_ n2_ hb_
   go_wp2_with (first
    | ((with_reducible refine gate_dst (N := 8) rfl ?_); refine box_event ?hg (N := 8) ?hd (cs := #[.int .i64 0, .slice none 0 0, .slice none 0 0, .slice none 0 0, .int .i64 0]) (t := 51) ?hr ?_; (case hd => rfl); (case hg => rfl); (case hr => first | (go_simp; done) | (go_simp; rfl)); intro gb8 hg_ w11 hbox_ hb_; replace NUM := Aside0.mk (And.intro (show gb8 = w10.heap.size from hg_) NUM.out); replace NUM := Aside0.mk (And.intro (show gb8 < w11.heap.size from blk_lt hbox_) NUM.out); replace BKgb2 := Aside0.mk (blk_below BKgb2.out hb_); replace HN2 := Aside0.mk (Kd.S_below HN2.out hb_); replace HN3 := Aside0.mk (Kd.R_below HN3.out hb_); replace HN4 := Aside0.mk (Kd.R_below HN4.out hb_); replace BKgb6 := Aside0.mk (blk_below BKgb6.out hb_); replace HSx := Aside0.mk (Kd.S_below HSx.out hb_); replace HRx := Aside0.mk (Kd.R_below HRx.out hb_); replace BKgb7 := Aside0.mk (blk_below BKgb7.out hb_); replace HSg := Aside0.mk (Kd.S_below HSg.out hb_); replace HRg := Aside0.mk (Kd.R_below HRg.out hb_); replace HB := Aside0.mk (below_then HB.out HB.out.size hb_); replace NUM := Aside0.mk (And.intro (show w10.heap.size ≤ w11.heap.size from hb_.size) NUM.out); have BKgb8 := Aside0.mk hbox_; clear hbox_ hb_ hg_)
    | ((with_reducible refine gate_store (t := 51) (p := 8) rfl ?_); have zc0 : w11.cell? ⟨gb8, 0, none⟩ = some (.int .i64 0) := (blk_cell BKgb8.out 0).trans rfl; have zf0 : w11.frozen? ⟨gb8, 0, none⟩ = false := blk_frozen BKgb8.out 0; have zc1 : w11.cell? ⟨gb8, 1, none⟩ = some (.slice none 0 0) := (blk_cell BKgb8.out 1).trans rfl; have zf1 : w11.frozen? ⟨gb8, 1, none⟩ = false := blk_frozen BKgb8.out 1; have zc2 : w11.cell? ⟨gb8, 2, none⟩ = some (.slice none 0 0) := (blk_cell BKgb8.out 2).trans rfl; have zf2 : w11.frozen? ⟨gb8, 2, none⟩ = false := blk_frozen BKgb8.out 2; have zc3 : w11.cell? ⟨gb8, 3, none⟩ = some (.slice none 0 0) := (blk_cell BKgb8.out 3).trans rfl; have zf3 : w11.frozen? ⟨gb8, 3, none⟩ = false := blk_frozen BKgb8.out 3; have zc4 : w11.cell? ⟨gb8, 4, none⟩ = some (.int .i64 0) := (blk_cell BKgb8.out 4).trans rfl; have zf4 : w11.frozen? ⟨gb8, 4, none⟩ = false := blk_frozen BKgb8.out 4; refine store_event (t := 51) (p := 8) (v := ?vo_gb8) (w1 := (((((w11.setCell ⟨gb8, 0, none⟩ (.int .i64 g1)).setCell ⟨gb8, 1, none⟩ (.slice Ag2 g2.length cg2)).setCell ⟨gb8, 2, none⟩ (.slice Ag3 g3.length cg3)).setCell ⟨gb8, 3, none⟩ (.slice none 0 0)).setCell ⟨gb8, 4, none⟩ (.int .i64 g5))) ?hg ?ho ?hn ?hr ?_; (case ho => rfl); (case hg => rfl); (case hn => rfl); (case hr => first | (go_simp; done) | (go_simp; rfl)); intro w12 hw_; clear zc0 zf0 zc1 zf1 zc2 zf2 zc3 zf3 zc4 zf4; have HWgb8 : Aside0 (w.heap.size ≤ gb8) := ⟨by have := HB.out.size; have := NUM.out; omega⟩; have hk_ : Kept w11 w12 (fun k => k = gb8) := (by rw [hw_]; exact (((((Kept.refl w11 (fun k => k = gb8)).setCell (p := ⟨gb8, 0, none⟩) (.inl rfl) (.int .i64 g1)).setCell (p := ⟨gb8, 1, none⟩) (.inl rfl) (.slice Ag2 g2.length cg2)).setCell (p := ⟨gb8, 2, none⟩) (.inl rfl) (.slice Ag3 g3.length cg3)).setCell (p := ⟨gb8, 3, none⟩) (.inl rfl) (.slice none 0 0)).setCell (p := ⟨gb8, 4, none⟩) (.inl rfl) (.int .i64 g5)); have hb_ : Below w.heap.size w w12 := (by rw [hw_]; exact (below_set (below_set (below_set (below_set (below_set HB.out HWgb8.out) HWgb8.out) HWgb8.out) HWgb8.out) HWgb8.out)); have hp_ : w12.heap[gb8]? = some (.cells #[.int .i64 g1, .slice Ag2 g2.length cg2, .slice Ag3 g3.length cg3, .slice none 0 0, .int .i64 g5] 51 (0, 0)) := (by rw [hw_]; exact (blk_put (cs := #[.int .i64 g1, .slice Ag2 g2.length cg2, .slice Ag3 g3.length cg3, .slice none 0 0, .int .i64 0]) (cs' := #[.int .i64 g1, .slice Ag2 g2.length cg2, .slice Ag3 g3.length cg3, .slice none 0 0, .int .i64 g5]) (blk_put (cs := #[.int .i64 g1, .slice Ag2 g2.length cg2, .slice Ag3 g3.length cg3, .slice none 0 0, .int .i64 0]) (cs' := #[.int .i64 g1, .slice Ag2 g2.length cg2, .slice Ag3 g3.length cg3, .slice none 0 0, .int .i64 0]) (blk_put (cs := #[.int .i64 g1, .slice Ag2 g2.length cg2, .slice none 0 0, .slice none 0 0, .int .i64 0]) (cs' := #[.int .i64 g1, .slice Ag2 g2.length cg2, .slice Ag3 g3.length cg3, .slice none 0 0, .int .i64 0]) (blk_put (cs := #[.int .i64 g1, .slice none 0 0, .slice none 0 0, .slice none 0 0, .int .i64 0]) (cs' := #[.int .i64 g1, .slice Ag2 g2.length cg2, .slice none 0 0, .slice none 0 0, .int .i64 0]) (blk_put (cs := #[.int .i64 0, .slice none 0 0, .slice none 0 0, .slice none 0 0, .int .i64 0]) (cs' := #[.int .i64 g1, .slice none 0 0, .slice none 0 0, .slice none 0 0, .int .i64 0]) BKgb8.out 0 (.int .i64 g1) rfl) 1 (.slice Ag2 g2.length cg2) rfl) 2 (.slice Ag3 g3.length cg3) rfl) 3 (.slice none 0 0) rfl) 4 (.int .i64 g5) rfl)); replace BKgb2 := Aside0.mk (blk_kept BKgb2.out hk_ (fun hs => by have hs' : gb2 = gb8 := hs; have := NUM.out; omega)); replace HN2 := Aside0.mk (Kd.S_kept HN2.out hk_ (fun k_ hk_ hs => by have hs' : k_ = gb8 := hs; have hi_ : (w3.heap.size ≤ k_ ∧ k_ < w4.heap.size) := hk_; have := NUM.out; omega)); replace HN3 := Aside0.mk (Kd.R_kept HN3.out hk_ (fun k_ hk_ hs => by have hs' : k_ = gb8 := hs; have hi_ : (w3.heap.size ≤ k_ ∧ k_ < w4.heap.size) := hk_; have := NUM.out; omega)); replace HN4 := Aside0.mk (Kd.R_kept HN4.out hk_ (fun k_ hk_ hs => by have hs' : k_ = gb8 := hs; have hi_ : (w3.heap.size ≤ k_ ∧ k_ < w4.heap.size) := hk_; have := NUM.out; omega)); replace BKgb6 := Aside0.mk (blk_kept BKgb6.out hk_ (fun hs => by have hs' : gb6 = gb8 := hs; have := NUM.out; omega)); replace HSx := Aside0.mk (Kd.S_kept HSx.out hk_ (fun k_ hk_ hs => by have hs' : k_ = gb8 := hs; have hi_ : (w6.heap.size ≤ k_ ∧ k_ < w7.heap.size) := hk_.1; have := NUM.out; omega)); replace HRx := Aside0.mk (Kd.R_kept HRx.out hk_ (fun k_ hk_ hs => by have hs' : k_ = gb8 := hs; have hi_ : (w6.heap.size ≤ k_ ∧ k_ < w7.heap.size) := hk_.1; have := NUM.out; omega)); replace BKgb7 := Aside0.mk (blk_kept BKgb7.out hk_ (fun hs => by have hs' : gb7 = gb8 := hs; have := NUM.out; omega)); replace HSg := Aside0.mk (Kd.S_kept HSg.out hk_ (fun k_ hk_ hs => by have hs' : k_ = gb8 := hs; have hi_ : (w9.heap.size ≤ k_ ∧ k_ < w10.heap.size) := hk_.1; have := NUM.out; omega)); replace HRg := Aside0.mk (Kd.R_kept HRg.out hk_ (fun k_ hk_ hs => by have hs' : k_ = gb8 := hs; have hi_ : (w9.heap.size ≤ k_ ∧ k_ < w10.heap.size) := hk_.1; have := NUM.out; omega)); replace HB := Aside0.mk (hb_); replace NUM := Aside0.mk (And.intro (show w11.heap.size ≤ w12.heap.size from hk_.1) NUM.out); replace BKgb8 := Aside0.mk hp_; clear hk_ hb_ hp_ hw_; have ca0 := blk_cell BKgb8.out 0; have ca1 := blk_cell BKgb8.out 1; have ca2 := blk_cell BKgb8.out 2; have ca3 := blk_cell BKgb8.out 3; have ca4 := blk_cell BKgb8.out 4; simp only [List.getElem?_toArray, List.getElem?_cons_zero, List.getElem?_cons_succ] at ca0 ca1 ca2 ca3 ca4; have cb0 := blk_cell BKgb6.out 0; have cb1 := blk_cell BKgb6.out 1; have cb2 := blk_cell BKgb6.out 2; have cb3 := blk_cell BKgb6.out 3; have cb4 := blk_cell BKgb6.out 4; simp only [List.getElem?_toArray, List.getElem?_cons_zero, List.getElem?_cons_succ] at cb0 cb1 cb2 cb3 cb4))
   clear ca0 ca1 ca2 ca3 ca4 cb0 cb1 cb2 cb3 cb4
   refine (laws_eqWheelOut.calls k g1 _ _ g2 _ _ g3 none 0 [] g5 s1 _ _ s2 _ _ s3 _ _ s4 s5 true _ ?s0 ?s1 ?s2 ?s3 ?s4 ?s5 ?s6 ?s7 ?s8 ?s9 ?s10 ?s11 HEQ.out).mono ?_
   (case s0 => exact (Kd.S_reads' HSg.out).2.2)
   (case s1 => exact (Kd.S_reads' HSg.out).2.1)
   (case s2 => exact (Kd.R_reads' HRg.out).2.2)
   (case s3 => exact (Kd.R_reads' HRg.out).2.1)
   (case s4 => exact Kd.C_nil _ _)
   (case s5 => exact Nat.le_refl _)
   (case s6 => exact (Kd.S_reads' HN2.out).2.2)
   (case s7 => exact (Kd.S_reads' HN2.out).2.1)
   (case s8 => exact (Kd.R_reads' HN3.out).2.2)
   (case s9 => exact (Kd.R_reads' HN3.out).2.1)
   (case s10 => exact (Kd.R_reads' HN4.out).2.2)
   (case s11 => exact (Kd.R_reads' HN4.out).2.1)
   rintro e w13 ⟨rfl, hb_⟩
   replace BKgb2 := Aside0.mk (blk_below BKgb2.out hb_)
   replace HN2 := Aside0.mk (Kd.S_below HN2.out hb_)
   replace HN3 := Aside0.mk (Kd.R_below HN3.out hb_)
   replace HN4 := Aside0.mk (Kd.R_below HN4.out hb_)
   replace BKgb6 := Aside0.mk (blk_below BKgb6.out hb_)
   replace HSx := Aside0.mk (Kd.S_below HSx.out hb_)
   replace HRx := Aside0.mk (Kd.R_below HRx.out hb_)
   replace BKgb7 := Aside0.mk (blk_below BKgb7.out hb_)
   replace HSg := Aside0.mk (Kd.S_below HSg.out hb_)
   replace HRg := Aside0.mk (Kd.R_below HRg.out hb_)
   replace BKgb8 := Aside0.mk (blk_below BKgb8.out hb_)
   replace HB := Aside0.mk (below_then HB.out HB.out.size hb_)
   replace NUM := Aside0.mk (And.intro (show w12.heap.size ≤ w13.heap.size from hb_.size) NUM.out)
   clear hb_
   go_wp2
   refine start_ (n := 5) (S := fun w' => Below w13.heap.size w13 w') (ds := []) #[false, false, false, false, false] (by kernel_rfl) rfl rfl (below_drew (Below.refl _ _)) (fun hHeld => ?_)
   refine qt_ 0 31 hHeld ?_ rfl rfl (by intro w' sb_; have s0_ : w'.cell? ⟨gb7, 0, none⟩ = some (.int .i64 x1) := pw_cell_below sb_ ((blk_cell BKgb7.out 0).trans rfl); have s1_ : w'.cell? ⟨gb7, 1, none⟩ = some (.slice Ax2 x2.length cx2) := pw_cell_below sb_ ((blk_cell BKgb7.out 1).trans rfl); have s2_ : w'.cell? ⟨gb7, 2, none⟩ = some (.slice Ax3 x3.length cx3) := pw_cell_below sb_ ((blk_cell BKgb7.out 2).trans rfl); clear sb_; go_simp; with_reducible rfl)
   refine qt_ 1 32 hHeld ?_ rfl rfl (by intro w' sb_; have s0_ : w'.cell? ⟨gb2, 0, none⟩ = some (.int .i64 a0_0) := pw_cell_below sb_ ((blk_cell BKgb2.out 0).trans rfl); have s1_ : w'.cell? ⟨gb2, 1, none⟩ = some (.slice A0_1 l0_1.length c0_1) := pw_cell_below sb_ ((blk_cell BKgb2.out 1).trans rfl); have s2_ : w'.cell? ⟨gb2, 2, none⟩ = some (.slice A0_2 l0_2.length c0_2) := pw_cell_below sb_ ((blk_cell BKgb2.out 2).trans rfl); clear sb_; go_simp; with_reducible rfl)
   refine qo_ 2 (some 33) (fun K hK => ?_)
   refine qc_ Try.func24 #[.agg #[.int .i64 a0_0, .slice A0_1 l0_1.length c0_1, .slice A0_2 l0_2.length c0_2]] ?_
   have hd_ : Below w13.heap.size w13 w13.drew := below_drew (Below.refl _ _)
   generalize w13.drew = w14 at hd_ ⊢
   replace BKgb2 := Aside0.mk (blk_below BKgb2.out hd_)
   replace HN2 := Aside0.mk (Kd.S_below HN2.out hd_)
   replace HN3 := Aside0.mk (Kd.R_below HN3.out hd_)
   replace HN4 := Aside0.mk (Kd.R_below HN4.out hd_)
   replace BKgb6 := Aside0.mk (blk_below BKgb6.out hd_)
   replace HSx := Aside0.mk (Kd.S_below HSx.out hd_)
   replace HRx := Aside0.mk (Kd.R_below HRx.out hd_)
   replace BKgb7 := Aside0.mk (blk_below BKgb7.out hd_)
   replace HSg := Aside0.mk (Kd.S_below HSg.out hd_)
   replace HRg := Aside0.mk (Kd.R_below HRg.out hd_)
   replace BKgb8 := Aside0.mk (blk_below BKgb8.out hd_)
   replace HB := Aside0.mk (below_then HB.out HB.out.size hd_)
   replace NUM := Aside0.mk (And.intro (show w13.heap.size ≤ w14.heap.size from hd_.size) NUM.out)
   refine (laws_toWheel.calls k a0_0 _ _ l0_1 _ _ l0_2 x1 x2 x3 _ ?s0 HC1.out ?s1 HC2.out HTO.out).mono ?_
   (case s0 => exact Kd.C_below HR1.out HB.out)
   (case s1 => exact Kd.C_below HR2.out HB.out)
   rintro e w15 ⟨v1_, v2_, rfl, hS_, hR_, hb_⟩
   obtain ⟨Av2, cv2, rfl⟩ := Kd.S_slice hS_
   obtain ⟨Av3, cv3, rfl⟩ := Kd.R_slice hR_
   have n1_ : Kd.S (Kd.slice 91 k91) 43 w15 w.heap.size (fun k_ => (w14.heap.size ≤ k_ ∧ k_ < w15.heap.size) ∧ some k_ ≠ (.slice Av3 x3.length cv3 : Value).ownBlock) _ x2 := Kd.S_lower (Kd.S_mono (Kd.S_bound hS_) (fun k_ h_ => ⟨⟨h_.2.1, h_.2.2.1⟩, h_.1⟩)) HB.out.size
   have n2_ : Kd.R k91 91 w15 w.heap.size (fun k_ => (w14.heap.size ≤ k_ ∧ k_ < w15.heap.size) ∧ some k_ = (.slice Av3 x3.length cv3 : Value).ownBlock) _ x3 := Kd.R_lower (R91_ok hR_ (fun k_ h_ => ⟨⟨Kd.R_base hR_ k_ h_, Kd.R_lt hR_ k_ h_⟩, h_.symm⟩)) HB.out.size
   clear hS_ hR_
   refine ⟨_, rfl, ?_⟩
   replace BKgb2 := Aside0.mk (blk_below BKgb2.out hb_)
   replace HN2 := Aside0.mk (Kd.S_below HN2.out hb_)
   replace HN3 := Aside0.mk (Kd.R_below HN3.out hb_)
   replace HN4 := Aside0.mk (Kd.R_below HN4.out hb_)
   replace BKgb6 := Aside0.mk (blk_below BKgb6.out hb_)
   replace HSx := Aside0.mk (Kd.S_below HSx.out hb_)
   replace HRx := Aside0.mk (Kd.R_below HRx.out hb_)
   replace BKgb7 := Aside0.mk (blk_below BKgb7.out hb_)
   replace HSg := Aside0.mk (Kd.S_below HSg.out hb_)
   replace HRg := Aside0.mk (Kd.R_below HRg.out hb_)
   replace BKgb8 := Aside0.mk (blk_below BKgb8.out hb_)
   replace HB := Aside0.mk (below_then HB.out HB.out.size hb_)
   replace NUM := Aside0.mk (And.intro (show w14.heap.size ≤ w15.heap.size from hb_.size) NUM.out)
   have HSv := Aside0.mk n1_
   have HRv := Aside0.mk n2_
   clear n1_ n2_
   have hd2_ := below_then hd_ hd_.size hb_
   clear hb_ hd_
   refine hK.out _ _ hd2_ (fun hHeld => ?_)
   clear hK K
   refine qm_ ?_
   refine qo_ 3 (some 34) (fun K hK => ?_)
   refine qc_ Try.func26 #[.agg #[.int .i64 x1, .slice Ax2 x2.length cx2, .slice Ax3 x3.length cx3], .agg #[.int .i64 x1, .slice Av2 x2.length cv2, .slice Av3 x3.length cv3]] ?_
   refine (laws_eqWheel.calls k x1 _ _ x2 _ _ x3 x1 _ _ x2 _ _ x3 true _ ?s0 ?s1 ?s2 ?s3 ?s4 ?s5 ?s6 ?s7 HEX.out).mono ?_
   (case s0 => exact (Kd.S_reads' HSx.out).2.2)
   (case s1 => exact (Kd.S_reads' HSx.out).2.1)
   (case s2 => exact (Kd.R_reads' HRx.out).2.2)
   (case s3 => exact (Kd.R_reads' HRx.out).2.1)
   (case s4 => exact (Kd.S_reads' HSv.out).2.2)
   (case s5 => exact (Kd.S_reads' HSv.out).2.1)
   (case s6 => exact (Kd.R_reads' HRv.out).2.2)
   (case s7 => exact (Kd.R_reads' HRv.out).2.1)
   rintro e w16 ⟨rfl, hb_⟩
   refine ⟨_, rfl, ?_⟩
   clear HSv
   clear HRv
   replace BKgb2 := Aside0.mk (blk_below BKgb2.out hb_)
   replace HN2 := Aside0.mk (Kd.S_below HN2.out hb_)
   replace HN3 := Aside0.mk (Kd.R_below HN3.out hb_)
   replace HN4 := Aside0.mk (Kd.R_below HN4.out hb_)
   replace BKgb6 := Aside0.mk (blk_below BKgb6.out hb_)
   replace HSx := Aside0.mk (Kd.S_below HSx.out hb_)
   replace HRx := Aside0.mk (Kd.R_below HRx.out hb_)
   replace BKgb7 := Aside0.mk (blk_below BKgb7.out hb_)
   replace HSg := Aside0.mk (Kd.S_below HSg.out hb_)
   replace HRg := Aside0.mk (Kd.R_below HRg.out hb_)
   replace BKgb8 := Aside0.mk (blk_below BKgb8.out hb_)
   replace HB := Aside0.mk (below_then HB.out HB.out.size hb_)
   replace NUM := Aside0.mk (And.intro (show w15.heap.size ≤ w16.heap.size from hb_.size) NUM.out)
   have hd3_ := below_then hd2_ hd2_.size hb_
   clear hb_ hd2_ hHeld
   refine hK.out _ _ hd3_ (fun hHeld => ?_)
   clear hK K
   refine qm_ ?_
   refine qu_ 4 35 ?_
   refine done_ (by kernel_rfl) ?_
   clear hHeld hd3_
   have ca0 := blk_cell BKgb7.out 0
   have ca1 := blk_cell BKgb7.out 1
   have ca2 := blk_cell BKgb7.out 2
   simp only [List.getElem?_toArray, List.getElem?_cons_zero, List.getElem?_cons_succ] at ca0 ca1 ca2
   go_wp2_with fail
   clear ca0 ca1 ca2
   refine (markWheel_calls k (fun k_ => (w6.heap.size ≤ k_ ∧ k_ < w7.heap.size) ∧ some k_ ≠ (.slice Ax3 x3.length cx3 : Value).ownBlock) (fun k_ => (w6.heap.size ≤ k_ ∧ k_ < w7.heap.size) ∧ some k_ = (.slice Ax3 x3.length cx3 : Value).ownBlock) x1 _ _ x2 xx2 x3 xx3 1 m1 m2 w _ ?s0 ?s1 ?s2 ?s3 HM1.out HM2.out).mono ?_
   (case s0 => exact HB.out)
   (case s1 => exact HSx.out)
   (case s2 => exact HRx.out)
   (case s3 => exact (fun _ hp hq => hp.2 hq.2))
   rintro e w17 ⟨rfl, hS_, hR_, hb_, hk0_⟩
   have hk_ := hk0_.mono (S' := fun k_ => (w6.heap.size ≤ k_ ∧ k_ < w7.heap.size)) (fun k_ h_ => h_.elim (fun h_ => h_.1) (fun h_ => h_.1))
   replace BKgb2 := Aside0.mk (blk_kept BKgb2.out hk_ (fun hs => by have hs' : (w6.heap.size ≤ gb2 ∧ gb2 < w7.heap.size) := hs; have := NUM.out; omega))
   replace HN2 := Aside0.mk (Kd.S_kept HN2.out hk_ (fun k_ hk_ hs => by have hs' : (w6.heap.size ≤ k_ ∧ k_ < w7.heap.size) := hs; have hi_ : (w3.heap.size ≤ k_ ∧ k_ < w4.heap.size) := hk_; have := NUM.out; omega))
   replace HN3 := Aside0.mk (Kd.R_kept HN3.out hk_ (fun k_ hk_ hs => by have hs' : (w6.heap.size ≤ k_ ∧ k_ < w7.heap.size) := hs; have hi_ : (w3.heap.size ≤ k_ ∧ k_ < w4.heap.size) := hk_; have := NUM.out; omega))
   replace HN4 := Aside0.mk (Kd.R_kept HN4.out hk_ (fun k_ hk_ hs => by have hs' : (w6.heap.size ≤ k_ ∧ k_ < w7.heap.size) := hs; have hi_ : (w3.heap.size ≤ k_ ∧ k_ < w4.heap.size) := hk_; have := NUM.out; omega))
   replace BKgb6 := Aside0.mk (blk_kept BKgb6.out hk_ (fun hs => by have hs' : (w6.heap.size ≤ gb6 ∧ gb6 < w7.heap.size) := hs; have := NUM.out; omega))
   replace BKgb7 := Aside0.mk (blk_kept BKgb7.out hk_ (fun hs => by have hs' : (w6.heap.size ≤ gb7 ∧ gb7 < w7.heap.size) := hs; have := NUM.out; omega))
   replace HSg := Aside0.mk (Kd.S_kept HSg.out hk_ (fun k_ hk_ hs => by have hs' : (w6.heap.size ≤ k_ ∧ k_ < w7.heap.size) := hs; have hi_ : (w9.heap.size ≤ k_ ∧ k_ < w10.heap.size) := hk_.1; have := NUM.out; omega))
   replace HRg := Aside0.mk (Kd.R_kept HRg.out hk_ (fun k_ hk_ hs => by have hs' : (w6.heap.size ≤ k_ ∧ k_ < w7.heap.size) := hs; have hi_ : (w9.heap.size ≤ k_ ∧ k_ < w10.heap.size) := hk_.1; have := NUM.out; omega))
   replace BKgb8 := Aside0.mk (blk_kept BKgb8.out hk_ (fun hs => by have hs' : (w6.heap.size ≤ gb8 ∧ gb8 < w7.heap.size) := hs; have := NUM.out; omega))
   replace HB := Aside0.mk (hb_)
   replace NUM := Aside0.mk (And.intro (show w16.heap.size ≤ w17.heap.size from hk_.1) NUM.out)
   replace HSx := Aside0.mk hS_
   replace HRx := Aside0.mk hR_
   clear hS_ hR_ hb_ hk_ hk0_
   have hm2 := HM0.out
   have ca0 := blk_cell BKgb8.out 0
   have ca1 := blk_cell BKgb8.out 1
   have ca2 := blk_cell BKgb8.out 2
   have ca3 := blk_cell BKgb8.out 3
   have ca4 := blk_cell BKgb8.out 4
   simp only [List.getElem?_toArray, List.getElem?_cons_zero, List.getElem?_cons_succ] at ca0 ca1 ca2 ca3 ca4
   have cb0 := blk_cell BKgb6.out 0
   have cb1 := blk_cell BKgb6.out 1
   have cb2 := blk_cell BKgb6.out 2
   have cb3 := blk_cell BKgb6.out 3
   have cb4 := blk_cell BKgb6.out 4
   simp only [List.getElem?_toArray, List.getElem?_cons_zero, List.getElem?_cons_succ] at cb0 cb1 cb2 cb3 cb4
   go_wp2_with fail
   clear ca0 ca1 ca2 ca3 ca4 cb0 cb1 cb2 cb3 cb4
   clear HSx
   clear HRx
   refine (laws_eqWheelOut.calls k g1 _ _ g2 _ _ g3 none 0 [] g5 s1 _ _ s2 _ _ s3 _ _ s4 s5 true _ ?s0 ?s1 ?s2 ?s3 ?s4 ?s5 ?s6 ?s7 ?s8 ?s9 ?s10 ?s11 HEQ.out).mono ?_
   (case s0 => exact (Kd.S_reads' HSg.out).2.2)
   (case s1 => exact (Kd.S_reads' HSg.out).2.1)
   (case s2 => exact (Kd.R_reads' HRg.out).2.2)
   (case s3 => exact (Kd.R_reads' HRg.out).2.1)
   (case s4 => exact Kd.C_nil _ _)
   (case s5 => exact Nat.le_refl _)
   (case s6 => exact (Kd.S_reads' HN2.out).2.2)
   (case s7 => exact (Kd.S_reads' HN2.out).2.1)
   (case s8 => exact (Kd.R_reads' HN3.out).2.2)
   (case s9 => exact (Kd.R_reads' HN3.out).2.1)
   (case s10 => exact (Kd.R_reads' HN4.out).2.2)
   (case s11 => exact (Kd.R_reads' HN4.out).2.1)
   rintro e w18 ⟨rfl, hb_⟩
   replace BKgb2 := Aside0.mk (blk_below BKgb2.out hb_)
   replace HN2 := Aside0.mk (Kd.S_below HN2.out hb_)
   replace HN3 := Aside0.mk (Kd.R_below HN3.out hb_)
   replace HN4 := Aside0.mk (Kd.R_below HN4.out hb_)
   replace BKgb6 := Aside0.mk (blk_below BKgb6.out hb_)
   replace BKgb7 := Aside0.mk (blk_below BKgb7.out hb_)
   replace HSg := Aside0.mk (Kd.S_below HSg.out hb_)
   replace HRg := Aside0.mk (Kd.R_below HRg.out hb_)
   replace BKgb8 := Aside0.mk (blk_below BKgb8.out hb_)
   replace HB := Aside0.mk (below_then HB.out HB.out.size hb_)
   replace NUM := Aside0.mk (And.intro (show w17.heap.size ≤ w18.heap.size from hb_.size) NUM.out)
   clear hb_
   have ca0 := blk_cell BKgb8.out 0
   have ca1 := blk_cell BKgb8.out 1
   have ca2 := blk_cell BKgb8.out 2
   have ca3 := blk_cell BKgb8.out 3
   have ca4 := blk_cell BKgb8.out 4
   simp only [List.getElem?_toArray, List.getElem?_cons_zero, List.getElem?_cons_succ] at ca0 ca1 ca2 ca3 ca4
   go_wp2_with fail
   clear ca0 ca1 ca2 ca3 ca4
   clear hm2
   refine (markWheelOut_calls k (fun k_ => (w9.heap.size ≤ k_ ∧ k_ < w10.heap.size) ∧ some k_ ≠ (.slice Ag3 g3.length cg3 : Value).ownBlock) (fun k_ => (w9.heap.size ≤ k_ ∧ k_ < w10.heap.size) ∧ some k_ = (.slice Ag3 g3.length cg3 : Value).ownBlock) g1 g5 _ _ g2 gg2 g3 gg3 1 n1 q w _ ?s0 ?s1 ?s2 ?s3 HN1.out HNN2.out).mono ?_
   (case s0 => exact HB.out)
   (case s1 => exact HSg.out)
   (case s2 => exact HRg.out)
   (case s3 => exact (fun _ hp hq => hp.2 hq.2))
   rintro e w19 ⟨rfl, hS_, hR_, hb_, hk0_⟩
   have hk_ := hk0_.mono (S' := fun k_ => (w9.heap.size ≤ k_ ∧ k_ < w10.heap.size)) (fun k_ h_ => h_.elim (fun h_ => h_.1) (fun h_ => h_.1))
   replace BKgb2 := Aside0.mk (blk_kept BKgb2.out hk_ (fun hs => by have hs' : (w9.heap.size ≤ gb2 ∧ gb2 < w10.heap.size) := hs; have := NUM.out; omega))
   replace HN2 := Aside0.mk (Kd.S_kept HN2.out hk_ (fun k_ hk_ hs => by have hs' : (w9.heap.size ≤ k_ ∧ k_ < w10.heap.size) := hs; have hi_ : (w3.heap.size ≤ k_ ∧ k_ < w4.heap.size) := hk_; have := NUM.out; omega))
   replace HN3 := Aside0.mk (Kd.R_kept HN3.out hk_ (fun k_ hk_ hs => by have hs' : (w9.heap.size ≤ k_ ∧ k_ < w10.heap.size) := hs; have hi_ : (w3.heap.size ≤ k_ ∧ k_ < w4.heap.size) := hk_; have := NUM.out; omega))
   replace HN4 := Aside0.mk (Kd.R_kept HN4.out hk_ (fun k_ hk_ hs => by have hs' : (w9.heap.size ≤ k_ ∧ k_ < w10.heap.size) := hs; have hi_ : (w3.heap.size ≤ k_ ∧ k_ < w4.heap.size) := hk_; have := NUM.out; omega))
   replace BKgb6 := Aside0.mk (blk_kept BKgb6.out hk_ (fun hs => by have hs' : (w9.heap.size ≤ gb6 ∧ gb6 < w10.heap.size) := hs; have := NUM.out; omega))
   replace BKgb7 := Aside0.mk (blk_kept BKgb7.out hk_ (fun hs => by have hs' : (w9.heap.size ≤ gb7 ∧ gb7 < w10.heap.size) := hs; have := NUM.out; omega))
   replace BKgb8 := Aside0.mk (blk_kept BKgb8.out hk_ (fun hs => by have hs' : (w9.heap.size ≤ gb8 ∧ gb8 < w10.heap.size) := hs; have := NUM.out; omega))
   replace HB := Aside0.mk (hb_)
   replace NUM := Aside0.mk (And.intro (show w18.heap.size ≤ w19.heap.size from hk_.1) NUM.out)
   replace HSg := Aside0.mk hS_
   replace HRg := Aside0.mk hR_
   clear hS_ hR_ hb_ hk_ hk0_
   have HLEN : Aside0 (gg2.length = g2.length ∧ gg3.length = g3.length) := ⟨⟨(Kd.S_reads' HSg.out).1.symm, (Kd.R_reads' HRg.out).1.symm⟩⟩
   have ca0 := blk_cell BKgb8.out 0
   have ca1 := blk_cell BKgb8.out 1
   have ca2 := blk_cell BKgb8.out 2
   have ca3 := blk_cell BKgb8.out 3
   have ca4 := blk_cell BKgb8.out 4
   simp only [List.getElem?_toArray, List.getElem?_cons_zero, List.getElem?_cons_succ] at ca0 ca1 ca2 ca3 ca4
   rw [← HLEN.out.1] at ca1
   rw [← HLEN.out.2] at ca2
   rw [← HLEN.out.1] at HSg
   rw [← HLEN.out.2] at HRg
   go_wp2_with fail
   clear ca0 ca1 ca2 ca3 ca4
   refine (laws_heldWheelOut.calls k g1 _ _ gg2 _ _ gg3 none 0 [] g5 1 q _ ?s0 ?s1 ?s2 ?s3 ?s4 ?s5 HHE.out).mono ?_
   (case s0 => exact (Kd.S_reads' HSg.out).2.2)
   (case s1 => exact (Kd.S_reads' HSg.out).2.1)
   (case s2 => exact (Kd.R_reads' HRg.out).2.2)
   (case s3 => exact (Kd.R_reads' HRg.out).2.1)
   (case s4 => exact Kd.C_nil _ _)
   (case s5 => exact Nat.le_refl _)
   rintro e w20 ⟨rfl, hb_⟩
   replace BKgb2 := Aside0.mk (blk_below BKgb2.out hb_)
   replace HN2 := Aside0.mk (Kd.S_below HN2.out hb_)
   replace HN3 := Aside0.mk (Kd.R_below HN3.out hb_)
   replace HN4 := Aside0.mk (Kd.R_below HN4.out hb_)
   replace BKgb6 := Aside0.mk (blk_below BKgb6.out hb_)
   replace BKgb7 := Aside0.mk (blk_below BKgb7.out hb_)
   replace HSg := Aside0.mk (Kd.S_below HSg.out hb_)
   replace HRg := Aside0.mk (Kd.R_below HRg.out hb_)
   replace BKgb8 := Aside0.mk (blk_below BKgb8.out hb_)
   replace HB := Aside0.mk (below_then HB.out HB.out.size hb_)
   replace NUM := Aside0.mk (And.intro (show w19.heap.size ≤ w20.heap.size from hb_.size) NUM.out)
   clear hb_
   have hq := HQ0.out
   have ca0 := blk_cell BKgb2.out 0
   have ca1 := blk_cell BKgb2.out 1
   have ca2 := blk_cell BKgb2.out 2
   simp only [List.getElem?_toArray, List.getElem?_cons_zero, List.getElem?_cons_succ] at ca0 ca1 ca2
   go_wp2_with fail
   clear ca0 ca1 ca2
   clear hq
   refine (laws_toWheel.calls k a0_0 _ _ l0_1 _ _ l0_2 x1 x2 x3 _ ?s0 HC1.out ?s1 HC2.out HTO.out).mono ?_
   (case s0 => exact Kd.C_below HR1.out HB.out)
   (case s1 => exact Kd.C_below HR2.out HB.out)
   rintro e w21 ⟨v1_, v2_, rfl, hS_, hR_, hb_⟩
   obtain ⟨Au2, cu2, rfl⟩ := Kd.S_slice hS_
   obtain ⟨Au3, cu3, rfl⟩ := Kd.R_slice hR_
   have n1_ : Kd.S (Kd.slice 91 k91) 43 w21 w.heap.size (fun k_ => (w20.heap.size ≤ k_ ∧ k_ < w21.heap.size) ∧ some k_ ≠ (.slice Au3 x3.length cu3 : Value).ownBlock) _ x2 := Kd.S_lower (Kd.S_mono (Kd.S_bound hS_) (fun k_ h_ => ⟨⟨h_.2.1, h_.2.2.1⟩, h_.1⟩)) HB.out.size
   have n2_ : Kd.R k91 91 w21 w.heap.size (fun k_ => (w20.heap.size ≤ k_ ∧ k_ < w21.heap.size) ∧ some k_ = (.slice Au3 x3.length cu3 : Value).ownBlock) _ x3 := Kd.R_lower (R91_ok hR_ (fun k_ h_ => ⟨⟨Kd.R_base hR_ k_ h_, Kd.R_lt hR_ k_ h_⟩, h_.symm⟩)) HB.out.size
   clear hS_ hR_
   replace BKgb2 := Aside0.mk (blk_below BKgb2.out hb_)
   replace HN2 := Aside0.mk (Kd.S_below HN2.out hb_)
   replace HN3 := Aside0.mk (Kd.R_below HN3.out hb_)
   replace HN4 := Aside0.mk (Kd.R_below HN4.out hb_)
   replace BKgb6 := Aside0.mk (blk_below BKgb6.out hb_)
   replace BKgb7 := Aside0.mk (blk_below BKgb7.out hb_)
   replace HSg := Aside0.mk (Kd.S_below HSg.out hb_)
   replace HRg := Aside0.mk (Kd.R_below HRg.out hb_)
   replace BKgb8 := Aside0.mk (blk_below BKgb8.out hb_)
   replace HB := Aside0.mk (below_then HB.out HB.out.size hb_)
   replace NUM := Aside0.mk (And.intro (show w20.heap.size ≤ w21.heap.size from hb_.size) NUM.out)
   have HSu := Aside0.mk n1_
   have HRu := Aside0.mk n2_
   clear n1_ n2_ hb_
   go_wp2_with fail
   refine (impl_WheelDrop.calls k x1 _ _ x2 _ _ x3 a1 g1 g2 g3 g5 _ ?s0 ?s1 ?s2 ?s3 HIM.out).mono ?_
   (case s0 => exact (Kd.S_reads' HSu.out).2.2)
   (case s1 => exact (Kd.S_reads' HSu.out).2.1)
   (case s2 => exact (Kd.R_reads' HRu.out).2.2)
   (case s3 => exact (Kd.R_reads' HRu.out).2.1)
   rintro e w22 ⟨v1_, v2_, rfl, hS_, hR_, hb_⟩
   obtain ⟨Ah2, ch2, rfl⟩ := Kd.S_slice hS_
   obtain ⟨Ah3, ch3, rfl⟩ := Kd.R_slice hR_
   have n1_ : Kd.S (Kd.slice 91 k91) 43 w22 w.heap.size (fun k_ => (w21.heap.size ≤ k_ ∧ k_ < w22.heap.size) ∧ some k_ ≠ (.slice Ah3 g3.length ch3 : Value).ownBlock) _ g2 := Kd.S_lower (Kd.S_mono (Kd.S_bound hS_) (fun k_ h_ => ⟨⟨h_.2.1, h_.2.2.1⟩, h_.1⟩)) HB.out.size
   have n2_ : Kd.R k91 91 w22 w.heap.size (fun k_ => (w21.heap.size ≤ k_ ∧ k_ < w22.heap.size) ∧ some k_ = (.slice Ah3 g3.length ch3 : Value).ownBlock) _ g3 := Kd.R_lower (R91_ok hR_ (fun k_ h_ => ⟨⟨Kd.R_base hR_ k_ h_, Kd.R_lt hR_ k_ h_⟩, h_.symm⟩)) HB.out.size
   clear hS_ hR_
   replace BKgb2 := Aside0.mk (blk_below BKgb2.out hb_)
   replace HN2 := Aside0.mk (Kd.S_below HN2.out hb_)
   replace HN3 := Aside0.mk (Kd.R_below HN3.out hb_)
   replace HN4 := Aside0.mk (Kd.R_below HN4.out hb_)
   replace BKgb6 := Aside0.mk (blk_below BKgb6.out hb_)
   replace BKgb7 := Aside0.mk (blk_below BKgb7.out hb_)
   replace HSg := Aside0.mk (Kd.S_below HSg.out hb_)
   replace HRg := Aside0.mk (Kd.R_below HRg.out hb_)
   replace BKgb8 := Aside0.mk (blk_below BKgb8.out hb_)
   replace HSu := Aside0.mk (Kd.S_below HSu.out hb_)
   replace HRu := Aside0.mk (Kd.R_below HRu.out hb_)
   replace HB := Aside0.mk (below_then HB.out HB.out.size hb_)
   replace NUM := Aside0.mk (And.intro (show w21.heap.size ≤ w22.heap.size from hb_.size) NUM.out)
   have HSh := Aside0.mk n1_
   have HRh := Aside0.mk n2_
   clear n1_ n2_ hb_
   go_wp2_with (first
    | ((with_reducible refine gate_dst (N := 12) rfl ?_); refine box_event ?hg (N := 12) ?hd (cs := #[.int .i64 0, .slice none 0 0, .slice none 0 0, .slice none 0 0, .int .i64 0]) (t := 51) ?hr ?_; (case hd => rfl); (case hg => rfl); (case hr => first | (go_simp; done) | (go_simp; rfl)); intro gb12 hg_ w23 hbox_ hb_; replace NUM := Aside0.mk (And.intro (show gb12 = w22.heap.size from hg_) NUM.out); replace NUM := Aside0.mk (And.intro (show gb12 < w23.heap.size from blk_lt hbox_) NUM.out); replace BKgb2 := Aside0.mk (blk_below BKgb2.out hb_); replace HN2 := Aside0.mk (Kd.S_below HN2.out hb_); replace HN3 := Aside0.mk (Kd.R_below HN3.out hb_); replace HN4 := Aside0.mk (Kd.R_below HN4.out hb_); replace BKgb6 := Aside0.mk (blk_below BKgb6.out hb_); replace BKgb7 := Aside0.mk (blk_below BKgb7.out hb_); replace HSg := Aside0.mk (Kd.S_below HSg.out hb_); replace HRg := Aside0.mk (Kd.R_below HRg.out hb_); replace BKgb8 := Aside0.mk (blk_below BKgb8.out hb_); replace HSu := Aside0.mk (Kd.S_below HSu.out hb_); replace HRu := Aside0.mk (Kd.R_below HRu.out hb_); replace HSh := Aside0.mk (Kd.S_below HSh.out hb_); replace HRh := Aside0.mk (Kd.R_below HRh.out hb_); replace HB := Aside0.mk (below_then HB.out HB.out.size hb_); replace NUM := Aside0.mk (And.intro (show w22.heap.size ≤ w23.heap.size from hb_.size) NUM.out); have BKgb12 := Aside0.mk hbox_; clear hbox_ hb_ hg_)
    | ((with_reducible refine gate_store (t := 51) (p := 12) rfl ?_); have zc0 : w23.cell? ⟨gb12, 0, none⟩ = some (.int .i64 0) := (blk_cell BKgb12.out 0).trans rfl; have zf0 : w23.frozen? ⟨gb12, 0, none⟩ = false := blk_frozen BKgb12.out 0; have zc1 : w23.cell? ⟨gb12, 1, none⟩ = some (.slice none 0 0) := (blk_cell BKgb12.out 1).trans rfl; have zf1 : w23.frozen? ⟨gb12, 1, none⟩ = false := blk_frozen BKgb12.out 1; have zc2 : w23.cell? ⟨gb12, 2, none⟩ = some (.slice none 0 0) := (blk_cell BKgb12.out 2).trans rfl; have zf2 : w23.frozen? ⟨gb12, 2, none⟩ = false := blk_frozen BKgb12.out 2; have zc3 : w23.cell? ⟨gb12, 3, none⟩ = some (.slice none 0 0) := (blk_cell BKgb12.out 3).trans rfl; have zf3 : w23.frozen? ⟨gb12, 3, none⟩ = false := blk_frozen BKgb12.out 3; have zc4 : w23.cell? ⟨gb12, 4, none⟩ = some (.int .i64 0) := (blk_cell BKgb12.out 4).trans rfl; have zf4 : w23.frozen? ⟨gb12, 4, none⟩ = false := blk_frozen BKgb12.out 4; refine store_event (t := 51) (p := 12) (v := ?vo_gb12) (w1 := (((((w23.setCell ⟨gb12, 0, none⟩ (.int .i64 g1)).setCell ⟨gb12, 1, none⟩ (.slice Ah2 g2.length ch2)).setCell ⟨gb12, 2, none⟩ (.slice Ah3 g3.length ch3)).setCell ⟨gb12, 3, none⟩ (.slice none 0 0)).setCell ⟨gb12, 4, none⟩ (.int .i64 g5))) ?hg ?ho ?hn ?hr ?_; (case ho => rfl); (case hg => rfl); (case hn => rfl); (case hr => first | (go_simp; done) | (go_simp; rfl)); intro w24 hw_; clear zc0 zf0 zc1 zf1 zc2 zf2 zc3 zf3 zc4 zf4; have HWgb12 : Aside0 (w.heap.size ≤ gb12) := ⟨by have := HB.out.size; have := NUM.out; omega⟩; have hk_ : Kept w23 w24 (fun k => k = gb12) := (by rw [hw_]; exact (((((Kept.refl w23 (fun k => k = gb12)).setCell (p := ⟨gb12, 0, none⟩) (.inl rfl) (.int .i64 g1)).setCell (p := ⟨gb12, 1, none⟩) (.inl rfl) (.slice Ah2 g2.length ch2)).setCell (p := ⟨gb12, 2, none⟩) (.inl rfl) (.slice Ah3 g3.length ch3)).setCell (p := ⟨gb12, 3, none⟩) (.inl rfl) (.slice none 0 0)).setCell (p := ⟨gb12, 4, none⟩) (.inl rfl) (.int .i64 g5)); have hb_ : Below w.heap.size w w24 := (by rw [hw_]; exact (below_set (below_set (below_set (below_set (below_set HB.out HWgb12.out) HWgb12.out) HWgb12.out) HWgb12.out) HWgb12.out)); have hp_ : w24.heap[gb12]? = some (.cells #[.int .i64 g1, .slice Ah2 g2.length ch2, .slice Ah3 g3.length ch3, .slice none 0 0, .int .i64 g5] 51 (0, 0)) := (by rw [hw_]; exact (blk_put (cs := #[.int .i64 g1, .slice Ah2 g2.length ch2, .slice Ah3 g3.length ch3, .slice none 0 0, .int .i64 0]) (cs' := #[.int .i64 g1, .slice Ah2 g2.length ch2, .slice Ah3 g3.length ch3, .slice none 0 0, .int .i64 g5]) (blk_put (cs := #[.int .i64 g1, .slice Ah2 g2.length ch2, .slice Ah3 g3.length ch3, .slice none 0 0, .int .i64 0]) (cs' := #[.int .i64 g1, .slice Ah2 g2.length ch2, .slice Ah3 g3.length ch3, .slice none 0 0, .int .i64 0]) (blk_put (cs := #[.int .i64 g1, .slice Ah2 g2.length ch2, .slice none 0 0, .slice none 0 0, .int .i64 0]) (cs' := #[.int .i64 g1, .slice Ah2 g2.length ch2, .slice Ah3 g3.length ch3, .slice none 0 0, .int .i64 0]) (blk_put (cs := #[.int .i64 g1, .slice none 0 0, .slice none 0 0, .slice none 0 0, .int .i64 0]) (cs' := #[.int .i64 g1, .slice Ah2 g2.length ch2, .slice none 0 0, .slice none 0 0, .int .i64 0]) (blk_put (cs := #[.int .i64 0, .slice none 0 0, .slice none 0 0, .slice none 0 0, .int .i64 0]) (cs' := #[.int .i64 g1, .slice none 0 0, .slice none 0 0, .slice none 0 0, .int .i64 0]) BKgb12.out 0 (.int .i64 g1) rfl) 1 (.slice Ah2 g2.length ch2) rfl) 2 (.slice Ah3 g3.length ch3) rfl) 3 (.slice none 0 0) rfl) 4 (.int .i64 g5) rfl)); replace BKgb2 := Aside0.mk (blk_kept BKgb2.out hk_ (fun hs => by have hs' : gb2 = gb12 := hs; have := NUM.out; omega)); replace HN2 := Aside0.mk (Kd.S_kept HN2.out hk_ (fun k_ hk_ hs => by have hs' : k_ = gb12 := hs; have hi_ : (w3.heap.size ≤ k_ ∧ k_ < w4.heap.size) := hk_; have := NUM.out; omega)); replace HN3 := Aside0.mk (Kd.R_kept HN3.out hk_ (fun k_ hk_ hs => by have hs' : k_ = gb12 := hs; have hi_ : (w3.heap.size ≤ k_ ∧ k_ < w4.heap.size) := hk_; have := NUM.out; omega)); replace HN4 := Aside0.mk (Kd.R_kept HN4.out hk_ (fun k_ hk_ hs => by have hs' : k_ = gb12 := hs; have hi_ : (w3.heap.size ≤ k_ ∧ k_ < w4.heap.size) := hk_; have := NUM.out; omega)); replace BKgb6 := Aside0.mk (blk_kept BKgb6.out hk_ (fun hs => by have hs' : gb6 = gb12 := hs; have := NUM.out; omega)); replace BKgb7 := Aside0.mk (blk_kept BKgb7.out hk_ (fun hs => by have hs' : gb7 = gb12 := hs; have := NUM.out; omega)); replace HSg := Aside0.mk (Kd.S_kept HSg.out hk_ (fun k_ hk_ hs => by have hs' : k_ = gb12 := hs; have hi_ : (w9.heap.size ≤ k_ ∧ k_ < w10.heap.size) := hk_.1; have := NUM.out; omega)); replace HRg := Aside0.mk (Kd.R_kept HRg.out hk_ (fun k_ hk_ hs => by have hs' : k_ = gb12 := hs; have hi_ : (w9.heap.size ≤ k_ ∧ k_ < w10.heap.size) := hk_.1; have := NUM.out; omega)); replace BKgb8 := Aside0.mk (blk_kept BKgb8.out hk_ (fun hs => by have hs' : gb8 = gb12 := hs; have := NUM.out; omega)); replace HSu := Aside0.mk (Kd.S_kept HSu.out hk_ (fun k_ hk_ hs => by have hs' : k_ = gb12 := hs; have hi_ : (w20.heap.size ≤ k_ ∧ k_ < w21.heap.size) := hk_.1; have := NUM.out; omega)); replace HRu := Aside0.mk (Kd.R_kept HRu.out hk_ (fun k_ hk_ hs => by have hs' : k_ = gb12 := hs; have hi_ : (w20.heap.size ≤ k_ ∧ k_ < w21.heap.size) := hk_.1; have := NUM.out; omega)); replace HSh := Aside0.mk (Kd.S_kept HSh.out hk_ (fun k_ hk_ hs => by have hs' : k_ = gb12 := hs; have hi_ : (w21.heap.size ≤ k_ ∧ k_ < w22.heap.size) := hk_.1; have := NUM.out; omega)); replace HRh := Aside0.mk (Kd.R_kept HRh.out hk_ (fun k_ hk_ hs => by have hs' : k_ = gb12 := hs; have hi_ : (w21.heap.size ≤ k_ ∧ k_ < w22.heap.size) := hk_.1; have := NUM.out; omega)); replace HB := Aside0.mk (hb_); replace NUM := Aside0.mk (And.intro (show w23.heap.size ≤ w24.heap.size from hk_.1) NUM.out); replace BKgb12 := Aside0.mk hp_; clear hk_ hb_ hp_ hw_; have ca0 := blk_cell BKgb12.out 0; have ca1 := blk_cell BKgb12.out 1; have ca2 := blk_cell BKgb12.out 2; have ca3 := blk_cell BKgb12.out 3; have ca4 := blk_cell BKgb12.out 4; simp only [List.getElem?_toArray, List.getElem?_cons_zero, List.getElem?_cons_succ] at ca0 ca1 ca2 ca3 ca4; have cb0 := blk_cell BKgb6.out 0; have cb1 := blk_cell BKgb6.out 1; have cb2 := blk_cell BKgb6.out 2; have cb3 := blk_cell BKgb6.out 3; have cb4 := blk_cell BKgb6.out 4; simp only [List.getElem?_toArray, List.getElem?_cons_zero, List.getElem?_cons_succ] at cb0 cb1 cb2 cb3 cb4))
   clear ca0 ca1 ca2 ca3 ca4 cb0 cb1 cb2 cb3 cb4
   clear HSu
   clear HRu
   refine (laws_eqWheelOut.calls k g1 _ _ g2 _ _ g3 none 0 [] g5 s1 _ _ s2 _ _ s3 _ _ s4 s5 true _ ?s0 ?s1 ?s2 ?s3 ?s4 ?s5 ?s6 ?s7 ?s8 ?s9 ?s10 ?s11 HEQ.out).mono ?_
   (case s0 => exact (Kd.S_reads' HSh.out).2.2)
   (case s1 => exact (Kd.S_reads' HSh.out).2.1)
   (case s2 => exact (Kd.R_reads' HRh.out).2.2)
   (case s3 => exact (Kd.R_reads' HRh.out).2.1)
   (case s4 => exact Kd.C_nil _ _)
   (case s5 => exact Nat.le_refl _)
   (case s6 => exact (Kd.S_reads' HN2.out).2.2)
   (case s7 => exact (Kd.S_reads' HN2.out).2.1)
   (case s8 => exact (Kd.R_reads' HN3.out).2.2)
   (case s9 => exact (Kd.R_reads' HN3.out).2.1)
   (case s10 => exact (Kd.R_reads' HN4.out).2.2)
   (case s11 => exact (Kd.R_reads' HN4.out).2.1)
   rintro e w25 ⟨rfl, hb_⟩
   replace BKgb2 := Aside0.mk (blk_below BKgb2.out hb_)
   replace HN2 := Aside0.mk (Kd.S_below HN2.out hb_)
   replace HN3 := Aside0.mk (Kd.R_below HN3.out hb_)
   replace HN4 := Aside0.mk (Kd.R_below HN4.out hb_)
   replace BKgb6 := Aside0.mk (blk_below BKgb6.out hb_)
   replace BKgb7 := Aside0.mk (blk_below BKgb7.out hb_)
   replace HSg := Aside0.mk (Kd.S_below HSg.out hb_)
   replace HRg := Aside0.mk (Kd.R_below HRg.out hb_)
   replace BKgb8 := Aside0.mk (blk_below BKgb8.out hb_)
   replace HSh := Aside0.mk (Kd.S_below HSh.out hb_)
   replace HRh := Aside0.mk (Kd.R_below HRh.out hb_)
   replace BKgb12 := Aside0.mk (blk_below BKgb12.out hb_)
   replace HB := Aside0.mk (below_then HB.out HB.out.size hb_)
   replace NUM := Aside0.mk (And.intro (show w24.heap.size ≤ w25.heap.size from hb_.size) NUM.out)
   clear hb_
   have ca0 := blk_cell BKgb8.out 0
   have ca1 := blk_cell BKgb8.out 1
   have ca2 := blk_cell BKgb8.out 2
   have ca3 := blk_cell BKgb8.out 3
   have ca4 := blk_cell BKgb8.out 4
   simp only [List.getElem?_toArray, List.getElem?_cons_zero, List.getElem?_cons_succ] at ca0 ca1 ca2 ca3 ca4
   rw [← HLEN.out.1] at ca1
   rw [← HLEN.out.2] at ca2
   go_wp2_with fail
   clear ca0 ca1 ca2 ca3 ca4
   refine (laws_heldWheelOut.calls k g1 _ _ gg2 _ _ gg3 none 0 [] g5 1 q _ ?s0 ?s1 ?s2 ?s3 ?s4 ?s5 HHE.out).mono ?_
   (case s0 => exact (Kd.S_reads' HSg.out).2.2)
   (case s1 => exact (Kd.S_reads' HSg.out).2.1)
   (case s2 => exact (Kd.R_reads' HRg.out).2.2)
   (case s3 => exact (Kd.R_reads' HRg.out).2.1)
   (case s4 => exact Kd.C_nil _ _)
   (case s5 => exact Nat.le_refl _)
   rintro e w26 ⟨rfl, hb_⟩
   replace BKgb2 := Aside0.mk (blk_below BKgb2.out hb_)
   replace HN2 := Aside0.mk (Kd.S_below HN2.out hb_)
   replace HN3 := Aside0.mk (Kd.R_below HN3.out hb_)
   replace HN4 := Aside0.mk (Kd.R_below HN4.out hb_)
   replace BKgb6 := Aside0.mk (blk_below BKgb6.out hb_)
   replace BKgb7 := Aside0.mk (blk_below BKgb7.out hb_)
   replace HSg := Aside0.mk (Kd.S_below HSg.out hb_)
   replace HRg := Aside0.mk (Kd.R_below HRg.out hb_)
   replace BKgb8 := Aside0.mk (blk_below BKgb8.out hb_)
   replace HSh := Aside0.mk (Kd.S_below HSh.out hb_)
   replace HRh := Aside0.mk (Kd.R_below HRh.out hb_)
   replace BKgb12 := Aside0.mk (blk_below BKgb12.out hb_)
   replace HB := Aside0.mk (below_then HB.out HB.out.size hb_)
   replace NUM := Aside0.mk (And.intro (show w25.heap.size ≤ w26.heap.size from hb_.size) NUM.out)
   clear hb_
   have hq := HQ0.out
   go_wp2
   go_ret
   exact ⟨rfl, HB.out⟩
  ·
   rw [if_neg hall] at h
   cases h

end Go.Proofs.Ytenlceojmjkbkaa.XFnExactWheelDrop
