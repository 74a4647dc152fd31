/- Functions that FnExactTreeTake comes to, as Lean functions with their contracts: written by the prover's own program (wip/tpl/myprint.py) over the kit's printer, some contracts by hand. Conditions: none. -/
import Derived.Test.YtenlceojmjkbkaaGreatXFnExactTreeTakex0
import Derived.Test.YtenlceojmjkbkaaGreatXFnExactTreeTakex1
import Derived.Test.YtenlceojmjkbkaaGreatXFnExactTreeTakex3
namespace Go.Proofs.YtenlceojmjkbkaaGreat.XFnExactTreeTake
open Go.RowKit Go.Proofs.YtenlceojmjkbkaaGreatW.PrintWords Go.Proofs.YtenlceojmjkbkaaGreatW.PrintLast Go.Proofs.YtenlceojmjkbkaaGreatW.PrintMore
attribute [local go_sem] max2_int min2_int max_two min_two max_three min_three max_four min_four   -- for this text's walks alone
set_option linter.unusedVariables false
set_option linter.unusedSimpArgs false

/-! ### spec_l04Wood_even: function 33 -/
attribute [local go_sem] Oper.semAt_some
set_option maxHeartbeats 4000000 in
set_option maxRecDepth 100000 in
theorem weven_calls (t : Tr) : ∀ (g : Nat) (ns : List S74) (top a : Int) (w0 w : World) (hI : IsS53 w0 w g ns top) (hr : Rep ns t a) (hlen : t.sz ≤ 1000),
  Calls Tryz.prog 33 #[.pointer (some ⟨g, 0, none⟩), .int .i64 a] w fun e w' => e = .returned (.bool t.flat) ∧ Below w.heap.size w w' := by
 induction t with
 | nil =>
  intro g ns top a w0 w hI hr hlen
  have hlt : a < 0 := hr
  clear hI hr
  go_enter Tryz.func33, Tryz.ntmps33
  go_wp2
  go_ret
  exact ⟨rfl, Below.refl _ _⟩
 | node x l r ihl ihr =>
  intro g ns top a w0 w hI hr hlen
  obtain ⟨h0, h1, hx, hl, hr⟩ := hr
  obtain ⟨A0, c0, bk, ge, hR⟩ := id hI
  obtain ⟨ad, e, hx0, hx1, hx2, hx3, hx4⟩ := at_T74 (Kd.R_reads' hR).2.2 a h0 h1
  cases e
  have hb0 := blk_cell bk 0
  simp only [List.getElem?_toArray, List.getElem?_cons_zero, List.getElem?_cons_succ] at hb0
  have hge : (a < 0) = False := eq_false (by omega)
  have hhl := Tr.ht_le l
  have hhr := Tr.ht_le r
  have hd : wrap64 ((l.ht : Int) - r.ht) = (l.ht : Int) - r.ht := by unfold wrap64; simp only [Tr.sz] at hlen; omega
  have HI := Aside0.mk hI
  have HIL := Aside0.mk (fun w h => ihl g ns top _ w0 w h hl (by simp only [Tr.sz] at hlen; omega))
  have HIR := Aside0.mk (fun w h => ihr g ns top _ w0 w h hr (by simp only [Tr.sz] at hlen; omega))
  have HHL := Aside0.mk (fun w h => wheight_calls l g ns top _ w0 w h hl (by simp only [Tr.sz] at hlen; omega))
  have HHR := Aside0.mk (fun w h => wheight_calls r g ns top _ w0 w h hr (by simp only [Tr.sz] at hlen; omega))
  rw [hx] at hx0 hx1 hx2
  simp only [Tr.flat]
  generalize (rd_T74 ns a).f1 = al at hx3 HIL HHL
  generalize (rd_T74 ns a).f2 = ar at hx4 HIR HHR
  have hlt2 : a < (ns.length : Int) := h1
  obtain ⟨d, hdd⟩ : ∃ d, d = (l.ht : Int) - r.ht := ⟨_, rfl⟩
  rw [← hdd]
  replace hd : wrap64 ((l.ht : Int) - r.ht) = d := by rw [hd, hdd]
  clear hI hr hl hx ihl ihr hlen bk ge hR hhl hhr hdd
  generalize (l.ht : Int) = lh at hd HHL
  generalize (r.ht : Int) = rh at hd HHR
  by_cases c1 : -1 ≤ d
  ·
   by_cases c2 : d ≤ 1
   ·
    rw [decide_eq_true (show -1 ≤ d ∧ d ≤ 1 from ⟨c1, c2⟩), Bool.true_and]
    cases hf : l.flat with
    | false =>
     rw [hf] at HIL
     go_enter Tryz.func33, Tryz.ntmps33
     go_wp2_with (first
      | ((with_reducible refine gate_dst (N := 5) rfl ?_); refine box_event ?hg (N := 5) ?hd (cs := #[.int .i64 0, .int .i64 0, .int .i64 0, .int .i64 0, .int .i64 0]) (t := 74) ?hr ?_; (case hd => rfl); (case hg => rfl); (case hr => first | (go_simp; done) | (go_simp; rfl)); intro gb hgb w1 hbox hb1; have bX := Aside0.mk hbox; have hB1 := Aside0.mk hb1; have hG := Aside0.mk hgb; have hc0_ := blk_cell hbox 0; have hc1_ := blk_cell hbox 1; have hc2_ := blk_cell hbox 2; have hc3_ := blk_cell hbox 3; have hc4_ := blk_cell hbox 4; have hf0_ := blk_frozen hbox 0; have hf1_ := blk_frozen hbox 1; have hf2_ := blk_frozen hbox 2; have hf3_ := blk_frozen hbox 3; have hf4_ := blk_frozen hbox 4; simp only [List.getElem?_toArray, List.getElem?_cons_zero, List.getElem?_cons_succ] at hc0_ hc1_ hc2_ hc3_ hc4_; clear hbox hb1 hgb))
     have hbk : Aside0 ((((((w1.setCell ⟨gb, 0, none⟩ (.int .i64 x.f0)).setCell ⟨gb, 1, none⟩ (.int .i64 x.f1)).setCell ⟨gb, 2, none⟩ (.int .i64 x.f2)).setCell ⟨gb, 3, none⟩ (.int .i64 al)).setCell ⟨gb, 4, none⟩ (.int .i64 ar)).heap[gb]? = some (.cells #[.int .i64 x.f0, .int .i64 x.f1, .int .i64 x.f2, .int .i64 al, .int .i64 ar] 74 (0, 0))) := ⟨(blk_put (blk_put (blk_put (blk_put (blk_put bX.out 0 _ rfl) 1 _ rfl) 2 _ rfl) 3 _ rfl) 4 _ rfl)⟩
     have hbw : Aside0 (Below w.heap.size w (((((w1.setCell ⟨gb, 0, none⟩ (.int .i64 x.f0)).setCell ⟨gb, 1, none⟩ (.int .i64 x.f1)).setCell ⟨gb, 2, none⟩ (.int .i64 x.f2)).setCell ⟨gb, 3, none⟩ (.int .i64 al)).setCell ⟨gb, 4, none⟩ (.int .i64 ar))) := ⟨(below_set (below_set (below_set (below_set (below_set hB1.out (Nat.le_of_eq hG.out.symm)) (Nat.le_of_eq hG.out.symm)) (Nat.le_of_eq hG.out.symm)) (Nat.le_of_eq hG.out.symm)) (Nat.le_of_eq hG.out.symm))⟩
     clear bX hB1 hG hc0_ hc1_ hc2_ hc3_ hc4_ hf0_ hf1_ hf2_ hf3_ hf4_
     generalize hW_ : (((((w1.setCell ⟨gb, 0, none⟩ (.int .i64 x.f0)).setCell ⟨gb, 1, none⟩ (.int .i64 x.f1)).setCell ⟨gb, 2, none⟩ (.int .i64 x.f2)).setCell ⟨gb, 3, none⟩ (.int .i64 al)).setCell ⟨gb, 4, none⟩ (.int .i64 ar)) = W at hbk hbw ⊢
     clear hW_ w1
     have hm3 : W.cell? ⟨gb, 3, none⟩ = some (.int .i64 al) := (blk_cell hbk.out 3).trans rfl
     have hm4 : W.cell? ⟨gb, 4, none⟩ = some (.int .i64 ar) := (blk_cell hbk.out 4).trans rfl
     go_quiet (first
      | (go_at_call_of 58 al; refine Calls.quiet_of (HHL.out _ ?_); exact (HI.out.below hbw.out).drewN _)
      | (go_at_call_of 58 ar; refine Calls.quiet_of (HHR.out _ ?_); exact (HI.out.below hbw.out).drewN _))
     go_wp2_with (first
      | (go_at_call_of 33 al; with_reducible refine (HIL.out _ ?side0).mono ?_; (case side0 => exact (HI.out.below hbw.out).drewN _); rintro e w4 ⟨rfl, hb4⟩; have HB4 : Aside0 (Below W.heap.size W w4) := ⟨below_step (pw_below_drewN (Below.refl _ _) _) hb4⟩; have hn4 : w4.cell? ⟨gb, 4, none⟩ = some (.int .i64 ar) := (blk_cell (blk_below hbk.out HB4.out) 4).trans rfl; clear hb4))
     go_ret
     exact ⟨rfl, below_step hbw.out HB4.out⟩
    | true =>
     rw [hf] at HIL
     rw [Bool.true_and]
     go_enter Tryz.func33, Tryz.ntmps33
     go_wp2_with (first
      | ((with_reducible refine gate_dst (N := 5) rfl ?_); refine box_event ?hg (N := 5) ?hd (cs := #[.int .i64 0, .int .i64 0, .int .i64 0, .int .i64 0, .int .i64 0]) (t := 74) ?hr ?_; (case hd => rfl); (case hg => rfl); (case hr => first | (go_simp; done) | (go_simp; rfl)); intro gb hgb w1 hbox hb1; have bX := Aside0.mk hbox; have hB1 := Aside0.mk hb1; have hG := Aside0.mk hgb; have hc0_ := blk_cell hbox 0; have hc1_ := blk_cell hbox 1; have hc2_ := blk_cell hbox 2; have hc3_ := blk_cell hbox 3; have hc4_ := blk_cell hbox 4; have hf0_ := blk_frozen hbox 0; have hf1_ := blk_frozen hbox 1; have hf2_ := blk_frozen hbox 2; have hf3_ := blk_frozen hbox 3; have hf4_ := blk_frozen hbox 4; simp only [List.getElem?_toArray, List.getElem?_cons_zero, List.getElem?_cons_succ] at hc0_ hc1_ hc2_ hc3_ hc4_; clear hbox hb1 hgb))
     have hbk : Aside0 ((((((w1.setCell ⟨gb, 0, none⟩ (.int .i64 x.f0)).setCell ⟨gb, 1, none⟩ (.int .i64 x.f1)).setCell ⟨gb, 2, none⟩ (.int .i64 x.f2)).setCell ⟨gb, 3, none⟩ (.int .i64 al)).setCell ⟨gb, 4, none⟩ (.int .i64 ar)).heap[gb]? = some (.cells #[.int .i64 x.f0, .int .i64 x.f1, .int .i64 x.f2, .int .i64 al, .int .i64 ar] 74 (0, 0))) := ⟨(blk_put (blk_put (blk_put (blk_put (blk_put bX.out 0 _ rfl) 1 _ rfl) 2 _ rfl) 3 _ rfl) 4 _ rfl)⟩
     have hbw : Aside0 (Below w.heap.size w (((((w1.setCell ⟨gb, 0, none⟩ (.int .i64 x.f0)).setCell ⟨gb, 1, none⟩ (.int .i64 x.f1)).setCell ⟨gb, 2, none⟩ (.int .i64 x.f2)).setCell ⟨gb, 3, none⟩ (.int .i64 al)).setCell ⟨gb, 4, none⟩ (.int .i64 ar))) := ⟨(below_set (below_set (below_set (below_set (below_set hB1.out (Nat.le_of_eq hG.out.symm)) (Nat.le_of_eq hG.out.symm)) (Nat.le_of_eq hG.out.symm)) (Nat.le_of_eq hG.out.symm)) (Nat.le_of_eq hG.out.symm))⟩
     clear bX hB1 hG hc0_ hc1_ hc2_ hc3_ hc4_ hf0_ hf1_ hf2_ hf3_ hf4_
     generalize hW_ : (((((w1.setCell ⟨gb, 0, none⟩ (.int .i64 x.f0)).setCell ⟨gb, 1, none⟩ (.int .i64 x.f1)).setCell ⟨gb, 2, none⟩ (.int .i64 x.f2)).setCell ⟨gb, 3, none⟩ (.int .i64 al)).setCell ⟨gb, 4, none⟩ (.int .i64 ar)) = W at hbk hbw ⊢
     clear hW_ w1
     have hm3 : W.cell? ⟨gb, 3, none⟩ = some (.int .i64 al) := (blk_cell hbk.out 3).trans rfl
     have hm4 : W.cell? ⟨gb, 4, none⟩ = some (.int .i64 ar) := (blk_cell hbk.out 4).trans rfl
     go_quiet (first
      | (go_at_call_of 58 al; refine Calls.quiet_of (HHL.out _ ?_); exact (HI.out.below hbw.out).drewN _)
      | (go_at_call_of 58 ar; refine Calls.quiet_of (HHR.out _ ?_); exact (HI.out.below hbw.out).drewN _))
     go_wp2_with (first
      | (go_at_call_of 33 al; with_reducible refine (HIL.out _ ?side0).mono ?_; (case side0 => exact (HI.out.below hbw.out).drewN _); rintro e w4 ⟨rfl, hb4⟩; have HB4 : Aside0 (Below W.heap.size W w4) := ⟨below_step (pw_below_drewN (Below.refl _ _) _) hb4⟩; have hn4 : w4.cell? ⟨gb, 4, none⟩ = some (.int .i64 ar) := (blk_cell (blk_below hbk.out HB4.out) 4).trans rfl; clear hb4)
      | (go_at_call_of 33 ar; with_reducible refine (HIR.out _ ?side0).mono ?_; (case side0 => exact (HI.out.below hbw.out).below HB4.out); rintro e w5 ⟨rfl, hb5⟩; have HB5 : Aside0 (Below W.heap.size W w5) := ⟨below_step HB4.out hb5⟩; clear hb5))
     go_ret
     exact ⟨rfl, below_step hbw.out HB5.out⟩
   ·
    rw [decide_eq_false (show ¬ (-1 ≤ d ∧ d ≤ 1) from fun h => c2 h.2), Bool.false_and]
    have c2n : (d ≤ 1) = False := eq_false c2
    clear c2
    go_enter Tryz.func33, Tryz.ntmps33
    go_wp2_with (first
     | ((with_reducible refine gate_dst (N := 5) rfl ?_); refine box_event ?hg (N := 5) ?hd (cs := #[.int .i64 0, .int .i64 0, .int .i64 0, .int .i64 0, .int .i64 0]) (t := 74) ?hr ?_; (case hd => rfl); (case hg => rfl); (case hr => first | (go_simp; done) | (go_simp; rfl)); intro gb hgb w1 hbox hb1; have bX := Aside0.mk hbox; have hB1 := Aside0.mk hb1; have hG := Aside0.mk hgb; have hc0_ := blk_cell hbox 0; have hc1_ := blk_cell hbox 1; have hc2_ := blk_cell hbox 2; have hc3_ := blk_cell hbox 3; have hc4_ := blk_cell hbox 4; have hf0_ := blk_frozen hbox 0; have hf1_ := blk_frozen hbox 1; have hf2_ := blk_frozen hbox 2; have hf3_ := blk_frozen hbox 3; have hf4_ := blk_frozen hbox 4; simp only [List.getElem?_toArray, List.getElem?_cons_zero, List.getElem?_cons_succ] at hc0_ hc1_ hc2_ hc3_ hc4_; clear hbox hb1 hgb))
    have hbk : Aside0 ((((((w1.setCell ⟨gb, 0, none⟩ (.int .i64 x.f0)).setCell ⟨gb, 1, none⟩ (.int .i64 x.f1)).setCell ⟨gb, 2, none⟩ (.int .i64 x.f2)).setCell ⟨gb, 3, none⟩ (.int .i64 al)).setCell ⟨gb, 4, none⟩ (.int .i64 ar)).heap[gb]? = some (.cells #[.int .i64 x.f0, .int .i64 x.f1, .int .i64 x.f2, .int .i64 al, .int .i64 ar] 74 (0, 0))) := ⟨(blk_put (blk_put (blk_put (blk_put (blk_put bX.out 0 _ rfl) 1 _ rfl) 2 _ rfl) 3 _ rfl) 4 _ rfl)⟩
    have hbw : Aside0 (Below w.heap.size w (((((w1.setCell ⟨gb, 0, none⟩ (.int .i64 x.f0)).setCell ⟨gb, 1, none⟩ (.int .i64 x.f1)).setCell ⟨gb, 2, none⟩ (.int .i64 x.f2)).setCell ⟨gb, 3, none⟩ (.int .i64 al)).setCell ⟨gb, 4, none⟩ (.int .i64 ar))) := ⟨(below_set (below_set (below_set (below_set (below_set hB1.out (Nat.le_of_eq hG.out.symm)) (Nat.le_of_eq hG.out.symm)) (Nat.le_of_eq hG.out.symm)) (Nat.le_of_eq hG.out.symm)) (Nat.le_of_eq hG.out.symm))⟩
    clear bX hB1 hG hc0_ hc1_ hc2_ hc3_ hc4_ hf0_ hf1_ hf2_ hf3_ hf4_
    generalize hW_ : (((((w1.setCell ⟨gb, 0, none⟩ (.int .i64 x.f0)).setCell ⟨gb, 1, none⟩ (.int .i64 x.f1)).setCell ⟨gb, 2, none⟩ (.int .i64 x.f2)).setCell ⟨gb, 3, none⟩ (.int .i64 al)).setCell ⟨gb, 4, none⟩ (.int .i64 ar)) = W at hbk hbw ⊢
    clear hW_ w1
    have hm3 : W.cell? ⟨gb, 3, none⟩ = some (.int .i64 al) := (blk_cell hbk.out 3).trans rfl
    have hm4 : W.cell? ⟨gb, 4, none⟩ = some (.int .i64 ar) := (blk_cell hbk.out 4).trans rfl
    go_quiet (first
     | (go_at_call_of 58 al; refine Calls.quiet_of (HHL.out _ ?_); exact (HI.out.below hbw.out).drewN _)
     | (go_at_call_of 58 ar; refine Calls.quiet_of (HHR.out _ ?_); exact (HI.out.below hbw.out).drewN _))
    go_wp2
    go_ret
    exact ⟨rfl, below_step hbw.out (pw_below_drewN (Below.refl _ _) _)⟩
  ·
   rw [decide_eq_false (show ¬ (-1 ≤ d ∧ d ≤ 1) from fun h => c1 h.1), Bool.false_and]
   have c1n : (-1 ≤ d) = False := eq_false c1
   clear c1
   go_enter Tryz.func33, Tryz.ntmps33
   go_wp2_with (first
    | ((with_reducible refine gate_dst (N := 5) rfl ?_); refine box_event ?hg (N := 5) ?hd (cs := #[.int .i64 0, .int .i64 0, .int .i64 0, .int .i64 0, .int .i64 0]) (t := 74) ?hr ?_; (case hd => rfl); (case hg => rfl); (case hr => first | (go_simp; done) | (go_simp; rfl)); intro gb hgb w1 hbox hb1; have bX := Aside0.mk hbox; have hB1 := Aside0.mk hb1; have hG := Aside0.mk hgb; have hc0_ := blk_cell hbox 0; have hc1_ := blk_cell hbox 1; have hc2_ := blk_cell hbox 2; have hc3_ := blk_cell hbox 3; have hc4_ := blk_cell hbox 4; have hf0_ := blk_frozen hbox 0; have hf1_ := blk_frozen hbox 1; have hf2_ := blk_frozen hbox 2; have hf3_ := blk_frozen hbox 3; have hf4_ := blk_frozen hbox 4; simp only [List.getElem?_toArray, List.getElem?_cons_zero, List.getElem?_cons_succ] at hc0_ hc1_ hc2_ hc3_ hc4_; clear hbox hb1 hgb))
   have hbk : Aside0 ((((((w1.setCell ⟨gb, 0, none⟩ (.int .i64 x.f0)).setCell ⟨gb, 1, none⟩ (.int .i64 x.f1)).setCell ⟨gb, 2, none⟩ (.int .i64 x.f2)).setCell ⟨gb, 3, none⟩ (.int .i64 al)).setCell ⟨gb, 4, none⟩ (.int .i64 ar)).heap[gb]? = some (.cells #[.int .i64 x.f0, .int .i64 x.f1, .int .i64 x.f2, .int .i64 al, .int .i64 ar] 74 (0, 0))) := ⟨(blk_put (blk_put (blk_put (blk_put (blk_put bX.out 0 _ rfl) 1 _ rfl) 2 _ rfl) 3 _ rfl) 4 _ rfl)⟩
   have hbw : Aside0 (Below w.heap.size w (((((w1.setCell ⟨gb, 0, none⟩ (.int .i64 x.f0)).setCell ⟨gb, 1, none⟩ (.int .i64 x.f1)).setCell ⟨gb, 2, none⟩ (.int .i64 x.f2)).setCell ⟨gb, 3, none⟩ (.int .i64 al)).setCell ⟨gb, 4, none⟩ (.int .i64 ar))) := ⟨(below_set (below_set (below_set (below_set (below_set hB1.out (Nat.le_of_eq hG.out.symm)) (Nat.le_of_eq hG.out.symm)) (Nat.le_of_eq hG.out.symm)) (Nat.le_of_eq hG.out.symm)) (Nat.le_of_eq hG.out.symm))⟩
   clear bX hB1 hG hc0_ hc1_ hc2_ hc3_ hc4_ hf0_ hf1_ hf2_ hf3_ hf4_
   generalize hW_ : (((((w1.setCell ⟨gb, 0, none⟩ (.int .i64 x.f0)).setCell ⟨gb, 1, none⟩ (.int .i64 x.f1)).setCell ⟨gb, 2, none⟩ (.int .i64 x.f2)).setCell ⟨gb, 3, none⟩ (.int .i64 al)).setCell ⟨gb, 4, none⟩ (.int .i64 ar)) = W at hbk hbw ⊢
   clear hW_ w1
   have hm3 : W.cell? ⟨gb, 3, none⟩ = some (.int .i64 al) := (blk_cell hbk.out 3).trans rfl
   have hm4 : W.cell? ⟨gb, 4, none⟩ = some (.int .i64 ar) := (blk_cell hbk.out 4).trans rfl
   go_quiet (first
    | (go_at_call_of 58 al; refine Calls.quiet_of (HHL.out _ ?_); exact (HI.out.below hbw.out).drewN _)
    | (go_at_call_of 58 ar; refine Calls.quiet_of (HHR.out _ ?_); exact (HI.out.below hbw.out).drewN _))
   go_wp2
   go_ret
   exact ⟨rfl, below_step hbw.out (pw_below_drewN (Below.refl _ _) _)⟩
def spec_l04Wood_even.f (s0_0 : List S74) (s0_1 : Int) (a1 : Int) : Option (Bool × Int) := (unlay 1001 s0_0 a1).bind fun t => if t.sz ≤ 1000 then some (t.flat, s0_1) else none
theorem spec_l04Wood_even.calls (g : Nat) (s0_0 : List S74) (s0_1 : Int) (a1 : Int) (r1 : Bool) (r2 : Int) (w0 w : World) (hI : IsS53 w0 w g s0_0 s0_1) (hB : Below w0.heap.size w0 w) (h : spec_l04Wood_even.f s0_0 s0_1 a1 = some (r1, r2)) :
  Calls Tryz.prog 33 #[.pointer (some ⟨g, 0, none⟩), .int .i64 a1] w fun e w' => e = .returned (.bool r1) ∧ IsS53 w0 w' g s0_0 r2 ∧ Below w0.heap.size w0 w' ∧ KeepBut w w' g none := by
 unfold spec_l04Wood_even.f at h
 obtain ⟨t, ht, h⟩ := Option.bind_eq_some_iff.1 h
 split at h
 ·
  rename_i hs
  simp only [Option.some.injEq, Prod.mk.injEq] at h
  obtain ⟨rfl, rfl⟩ := h
  exact (weven_calls t g s0_0 s0_1 a1 w0 w hI (unlay_rep _ _ _ _ ht) hs).mono fun e w' ⟨he, hb⟩ => ⟨he, hI.below hb, below_then hB hB.size hb, KeepBut.of_below hb g none⟩
 ·
  cases h

end Go.Proofs.YtenlceojmjkbkaaGreat.XFnExactTreeTake
