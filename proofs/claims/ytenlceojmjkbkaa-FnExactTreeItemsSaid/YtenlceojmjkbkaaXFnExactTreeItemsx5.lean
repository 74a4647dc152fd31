/- Functions that FnExactTreeItems comes to, as Lean functions with their contracts: written by the prover's own program (wip/tpl/myprint.py) over the kit's printer, some contracts by hand. Conditions: none. -/
import Derived.Test.YtenlceojmjkbkaaXFnExactTreeItemsx0
import Derived.Test.YtenlceojmjkbkaaXFnExactTreeItemsx4
namespace Go.Proofs.Ytenlceojmjkbkaa.XFnExactTreeItems
open Go.RowKit Go.Proofs.YtenlceojmjkbkaaW.PrintWords Go.Proofs.YtenlceojmjkbkaaW.PrintLast Go.Proofs.YtenlceojmjkbkaaW.PrintMore
attribute [local go_sem] max2_int min2_int max_two min_two max_three min_three max_four min_four   -- for this text's walks alone
set_option linter.unusedVariables false
set_option linter.unusedSimpArgs false

/-! ### spec_l04Wood_items: function 92 -/
attribute [local go_sem] Oper.semAt_some
set_option maxHeartbeats 4000000 in
set_option maxRecDepth 100000 in
theorem witems_calls (t : Tr) : ∀ (g : Nat) (ns : List S130) (top a : Int) (w0 w : World) (hI : IsS119 w0 w g ns top) (hr : Rep ns t a) (hlen : t.sz ≤ 1000),
    Calls Try.prog 92 #[.pointer (some ⟨g, 0, none⟩), .int .i64 a] w fun e w' => ∃ v, e = .returned v ∧ Kd.R k33 33 w' w.heap.size (fun _ => True) v t.items ∧ Below w.heap.size w w' := by
  induction t with
  | nil =>
    intro g ns top a w0 w hI hr hlen
    have hlt : a < 0 := hr
    clear hI hr
    go_enter Try.func92, Try.ntmps92
    go_wp2_with (first
      | ((with_reducible refine gate_dst (N := 9) rfl ?_); refine Kd.R_lit k33 _ 33 ?hg (N := 9) ?hd (xs := ([] : List S33)) (inner := []) (ok := fun _ => True) (okp := fun _ => True) ?hr ?hp (fun _ hk => hk) trivial (Below.refl _ _) (Nat.le_refl _) (by simp) ?_; (case hd => rfl); (case hg => rfl); (case hr => first | (go_simp; done) | (go_simp; rfl)); (case hp => exact Reps.none _ _); intro v9 w1 hl hb hg_ hnew_; have HO := Aside0.mk hl; have HB := Aside0.mk hb; clear hl hb hg_ hnew_))
    go_ret
    exact ⟨_, rfl, HO.out, HB.out⟩
  | node x l r ihl ihr =>
    intro g ns top a w0 w hI hr hlen
    obtain ⟨h0, h1, hx, hl, hr⟩ := hr
    obtain ⟨A0, c0, bk, ge, hR⟩ := id hI
    obtain ⟨ad, e, hx0, hx1, hx2, hx3, hx4⟩ := at_T130 (Kd.R_reads' hR).2.2 a h0 h1
    cases e
    have hb0 := blk_cell bk 0
    simp only [List.getElem?_toArray, List.getElem?_cons_zero, List.getElem?_cons_succ] at hb0
    have hge : (a < 0) = False := eq_false (by omega)
    have HI := Aside0.mk hI
    have HIL := Aside0.mk (fun w h => ihl g ns top _ w0 w h hl (by simp only [Tr.sz] at hlen; omega))
    have HIR := Aside0.mk (fun w h => ihr g ns top _ w0 w h hr (by simp only [Tr.sz] at hlen; omega))
    have hlen1 : l.items.length + r.items.length + 1 ≤ 1000 := by rw [Tr.items_len, Tr.items_len]; exact hlen
    obtain ⟨y, hy⟩ : ∃ y, y = l.items ++ [x] := ⟨_, rfl⟩
    have HY := Aside0.mk hy
    clear hy
    have hlen := Aside0.mk hlen1
    rw [hx] at hx0 hx1 hx2
    generalize (rd_T130 ns a).f1 = al at hx3 HIL
    generalize (rd_T130 ns a).f2 = ar at hx4 HIR
    have hlt2 : a < (ns.length : Int) := h1
    clear hI hr hl hx ihl ihr hlen1 bk ge hR
    go_enter Try.func92, Try.ntmps92
    go_wp2_with (first
      | ((with_reducible refine gate_dst (N := 5) rfl ?_); refine box_event ?hg (N := 5) ?hd (cs := #[.int .i64 0, .int .i64 0, .int .i64 0, .int .i64 0, .int .i64 0]) (t := 130) ?hr ?_; (case hd => rfl); (case hg => rfl); (case hr => first | (go_simp; done) | (go_simp; rfl)); intro gb hgb w1 hbox hb1; have bX := Aside0.mk hbox; have hB1 := Aside0.mk hb1; have hG := Aside0.mk hgb; have hc0_ := blk_cell hbox 0; have hc1_ := blk_cell hbox 1; have hc2_ := blk_cell hbox 2; have hc3_ := blk_cell hbox 3; have hc4_ := blk_cell hbox 4; have hf0_ := blk_frozen hbox 0; have hf1_ := blk_frozen hbox 1; have hf2_ := blk_frozen hbox 2; have hf3_ := blk_frozen hbox 3; have hf4_ := blk_frozen hbox 4; simp only [List.getElem?_toArray, List.getElem?_cons_zero, List.getElem?_cons_succ] at hc0_ hc1_ hc2_ hc3_ hc4_; clear hbox hb1 hgb))
    have hbk : Aside0 ((((((w1.setCell ⟨gb, 0, none⟩ (.int .i64 x.f0)).setCell ⟨gb, 1, none⟩ (.int .i64 x.f1)).setCell ⟨gb, 2, none⟩ (.int .i64 x.f2)).setCell ⟨gb, 3, none⟩ (.int .i64 al)).setCell ⟨gb, 4, none⟩ (.int .i64 ar)).heap[gb]? = some (.cells #[.int .i64 x.f0, .int .i64 x.f1, .int .i64 x.f2, .int .i64 al, .int .i64 ar] 130 (0, 0))) := ⟨(blk_put (blk_put (blk_put (blk_put (blk_put bX.out 0 _ rfl) 1 _ rfl) 2 _ rfl) 3 _ rfl) 4 _ rfl)⟩
    have hbw : Aside0 (Below w.heap.size w (((((w1.setCell ⟨gb, 0, none⟩ (.int .i64 x.f0)).setCell ⟨gb, 1, none⟩ (.int .i64 x.f1)).setCell ⟨gb, 2, none⟩ (.int .i64 x.f2)).setCell ⟨gb, 3, none⟩ (.int .i64 al)).setCell ⟨gb, 4, none⟩ (.int .i64 ar))) := ⟨(below_set (below_set (below_set (below_set (below_set hB1.out (Nat.le_of_eq hG.out.symm)) (Nat.le_of_eq hG.out.symm)) (Nat.le_of_eq hG.out.symm)) (Nat.le_of_eq hG.out.symm)) (Nat.le_of_eq hG.out.symm))⟩
    clear bX hB1 hG hc0_ hc1_ hc2_ hc3_ hc4_ hf0_ hf1_ hf2_ hf3_ hf4_
    generalize hW_ : (((((w1.setCell ⟨gb, 0, none⟩ (.int .i64 x.f0)).setCell ⟨gb, 1, none⟩ (.int .i64 x.f1)).setCell ⟨gb, 2, none⟩ (.int .i64 x.f2)).setCell ⟨gb, 3, none⟩ (.int .i64 al)).setCell ⟨gb, 4, none⟩ (.int .i64 ar)) = W at hbk hbw ⊢
    clear hW_ w1
    refine start_ (n := 9) (S := fun w' => Below W.heap.size W w') (ds := []) #[false, false, false, false, false, false, false, false, false] (by kernel_rfl) rfl rfl (below_drew (Below.refl _ _)) (fun hHeld => ?_)
    refine pure_ (i := 0) (N := (some 17)) (v := ?_) (a' := ?_) #[true, false, false, false, false, false, false, false, false] rfl rfl (by kernel_rfl) (fun _ _ _ h => h) (Or.inl ⟨by rfl, ?_⟩) ?_ ?_
    rotate_left
    · intro w'
      go_simp
      with_reducible rfl
    rotate_left
    · simp only [Act.put, List.setIfInBounds_toArray, List.set_cons_zero, List.set_cons_succ, i64_w, i32_w]
      rfl
    refine pure_ (i := 1) (N := (some 18)) (v := ?_) (a' := ?_) #[true, true, false, false, false, false, false, false, false] rfl rfl (by kernel_rfl) (fun _ _ _ h => h) (Or.inl ⟨by rfl, ?_⟩) ?_ ?_
    rotate_left
    · intro w'
      go_simp
      with_reducible rfl
    rotate_left
    · simp only [Act.put, List.setIfInBounds_toArray, List.set_cons_zero, List.set_cons_succ, i64_w, i32_w]
      rfl
    refine take_ (i := 2) (N := (some 19)) (v := ?_) (a' := ?_) #[true, true, true, false, false, false, false, false, false] rfl rfl (by kernel_rfl) (fun _ _ _ h => h) (Or.inl ⟨by rfl, ?_⟩) hHeld ?_ ?_
    rotate_left
    · intro w' sb_
      have s0_ : w'.cell? ⟨gb, 3, none⟩ = some (.int .i64 al) := (blk_cell (blk_below hbk.out sb_) 3).trans rfl
      clear sb_
      go_simp
      with_reducible rfl
    rotate_left
    · simp only [Act.put, List.setIfInBounds_toArray, List.set_cons_zero, List.set_cons_succ, i64_w, i32_w]
      rfl
    refine pure_ (i := 4) (N := (some 21)) (v := ?_) (a' := ?_) #[true, true, true, false, true, false, false, false, false] rfl rfl (by kernel_rfl) (fun _ _ _ h => h) (Or.inl ⟨by rfl, ?_⟩) ?_ ?_
    rotate_left
    · intro w'
      go_simp
      with_reducible rfl
    rotate_left
    · simp only [Act.put, List.setIfInBounds_toArray, List.set_cons_zero, List.set_cons_succ, i64_w, i32_w]
      rfl
    refine take_ (i := 5) (N := (some 22)) (v := ?_) (a' := ?_) #[true, true, true, false, true, true, false, false, false] rfl rfl (by kernel_rfl) (fun _ _ _ h => h) (Or.inl ⟨by rfl, ?_⟩) hHeld ?_ ?_
    rotate_left
    · intro w' sb_
      have s0_ : w'.cell? ⟨gb, 0, none⟩ = some (.int .i64 x.f0) := (blk_cell (blk_below hbk.out sb_) 0).trans rfl
      have s1_ : w'.cell? ⟨gb, 1, none⟩ = some (.int .i64 x.f1) := (blk_cell (blk_below hbk.out sb_) 1).trans rfl
      have s2_ : w'.cell? ⟨gb, 2, none⟩ = some (.int .i64 x.f2) := (blk_cell (blk_below hbk.out sb_) 2).trans rfl
      clear sb_
      go_simp
      with_reducible rfl
    rotate_left
    · simp only [Act.put, List.setIfInBounds_toArray, List.set_cons_zero, List.set_cons_succ, i64_w, i32_w]
      rfl
    refine join_ (σ := Value × Value) 2 #[true, true, true, true, true, true, true, false, false] (fun s_ => [(20, s_.1), (23, s_.2)]) (fun s_ w' => Below W.heap.size W w' ∧ Kd.R k33 33 w' W.heap.size (fun k_ => some k_ ≠ (s_.2 : Value).ownBlock) s_.1 l.items ∧ Kd.R k33 33 w' W.heap.size (fun k_ => some k_ ≠ (s_.1 : Value).ownBlock) s_.2 [x]) ?_ ?_
    rotate_left
    · intro hCont
      refine two_ (i := 3) (j := 6) (Ni := (some 20)) (Nj := (some 23)) #[true, true, true, true, true, true, false, false, false] #[true, true, true, false, true, true, true, false, false] rfl rfl rfl rfl (by kernel_rfl) (by decide) (by decide) (fun K hK => ?_) (fun K hK => ?_)
      · skip
        refine goes_ Try.func92 (by kernel_rfl) rfl #[.pointer (some ⟨g, 0, none⟩), .int .i64 al] (by rfl) rfl rfl (by first | rfl | (simp only [List.map_toArray, List.map_cons, List.map_nil]; rfl)) ?_
        with_reducible refine (HIL.out _ ?side0).mono ?_
        (case side0 => exact (HI.out.below hbw.out).drew)
        rintro e w1 ⟨v20, rfl, h20, hb1⟩
        refine ⟨_, rfl, ?_⟩
        have HO := Aside0.mk h20
        have HB1 : Aside0 (Below W.heap.size W w1) := ⟨below_step (below_drew (Below.refl _ _)) hb1⟩
        clear h20 hb1
        refine hK.out _ _ HB1.out (fun hHeld => ?_)
        clear hK K
        refine norm_ (a' := ?_) ?_ ?_
        rotate_left
        · show Act.put _ (some 20) _ = _
          simp only [Act.put, List.setIfInBounds_toArray, List.set_cons_zero, List.set_cons_succ, i64_w, i32_w]
          rfl
        refine one_ (i := 6) (N := (some 23)) #[true, true, true, true, true, true, true, false, false] rfl rfl (by kernel_rfl) (by decide) (fun K hK => ?_)
        refine Kd.R_lit_step k33 _ 33 ?hg (N := 23) ?hd (xs := [x]) (inner := [.int .i64 x.f0, .int .i64 x.f1, .int .i64 x.f2]) (ok := fun _ => True) (okp := fun _ => True) ?hr ?hp (fun _ hk => hk) trivial (Below.refl _ _) (Nat.le_refl _) (by simp) ?_; (case hd => rfl); (case hg => rfl); (case hr => first | (go_simp; done) | (go_simp; rfl)); (case hp => exact (Reps.c3 (show Kd.M k33 _ _ _ x [.int .i64 x.f0, .int .i64 x.f1, .int .i64 x.f2] from k33_mkM _ _ _ x) (Reps.none _ _)))
        intro v23 w2 hl hb hg_ hnew_
        clear hnew_ hg_
        have n1_ := Aside0.mk (Kd.R_elder' HO.out (Kd.R_base hl) hb)
        have n2_ := Aside0.mk (Kd.R_lower (Kd.R_new' hl (Kd.R_lt HO.out)) HB1.out.size)
        have HB2 : Aside0 (Below W.heap.size W w2) := ⟨below_step HB1.out hb⟩
        clear hl hb HO HB1
        refine hK.out _ _ HB2.out (fun hHeld => ?_)
        clear hK K
        refine norm_ (a' := ?_) ?_ ?_
        rotate_left
        · show Act.put _ (some 23) _ = _
          simp only [Act.put, List.setIfInBounds_toArray, List.set_cons_zero, List.set_cons_succ, i64_w, i32_w]
          rfl
        exact norm_ (by simp only [putAll, Act.put, List.setIfInBounds_toArray, List.set_cons_zero, List.set_cons_succ]) (hCont (v20, v23) _ ⟨hHeld, Kd.R_mono n1_.out (fun _ hk => hk.2), Kd.R_mono n2_.out (fun _ hk => hk.2)⟩)
      · skip
        refine Kd.R_lit_step k33 _ 33 ?hg (N := 23) ?hd (xs := [x]) (inner := [.int .i64 x.f0, .int .i64 x.f1, .int .i64 x.f2]) (ok := fun _ => True) (okp := fun _ => True) ?hr ?hp (fun _ hk => hk) trivial (Below.refl _ _) (Nat.le_refl _) (by simp) ?_; (case hd => rfl); (case hg => rfl); (case hr => first | (go_simp; done) | (go_simp; rfl)); (case hp => exact (Reps.c3 (show Kd.M k33 _ _ _ x [.int .i64 x.f0, .int .i64 x.f1, .int .i64 x.f2] from k33_mkM _ _ _ x) (Reps.none _ _)))
        intro v23 w1 hl hb hg_ hnew_
        clear hnew_ hg_
        have HO := Aside0.mk hl
        have HB1 : Aside0 (Below W.heap.size W w1) := ⟨below_step (below_drew (Below.refl _ _)) hb⟩
        clear hl hb
        refine hK.out _ _ HB1.out (fun hHeld => ?_)
        clear hK K
        refine norm_ (a' := ?_) ?_ ?_
        rotate_left
        · show Act.put _ (some 23) _ = _
          simp only [Act.put, List.setIfInBounds_toArray, List.set_cons_zero, List.set_cons_succ, i64_w, i32_w]
          rfl
        refine one_ (i := 3) (N := (some 20)) #[true, true, true, true, true, true, true, false, false] rfl rfl (by kernel_rfl) (by decide) (fun K hK => ?_)
        refine goes_ Try.func92 (by kernel_rfl) rfl #[.pointer (some ⟨g, 0, none⟩), .int .i64 al] (by rfl) rfl rfl (by first | rfl | (simp only [List.map_toArray, List.map_cons, List.map_nil]; rfl)) ?_
        with_reducible refine (HIL.out _ ?side0).mono ?_
        (case side0 => exact (HI.out.below hbw.out).below HB1.out)
        rintro e w2 ⟨v20, rfl, h20, hb2⟩
        refine ⟨_, rfl, ?_⟩
        have n2_ := Aside0.mk (Kd.R_elder' HO.out (Kd.R_base h20) hb2)
        have n1_ := Aside0.mk (Kd.R_lower (Kd.R_new' h20 (Kd.R_lt HO.out)) HB1.out.size)
        have HB2 : Aside0 (Below W.heap.size W w2) := ⟨below_step HB1.out hb2⟩
        clear h20 hb2 HO HB1
        refine hK.out _ _ HB2.out (fun hHeld => ?_)
        clear hK K
        refine norm_ (a' := ?_) ?_ ?_
        rotate_left
        · show Act.put _ (some 20) _ = _
          simp only [Act.put, List.setIfInBounds_toArray, List.set_cons_zero, List.set_cons_succ, i64_w, i32_w]
          rfl
        exact norm_ (by simp only [putAll, Act.put, List.setIfInBounds_toArray, List.set_cons_zero, List.set_cons_succ]) (hCont (v20, v23) _ ⟨hHeld, Kd.R_mono n1_.out (fun _ hk => hk.2), Kd.R_mono n2_.out (fun _ hk => hk.2)⟩)
    rintro ⟨v20, v23⟩ w2 ⟨hS_, h0_, h1_⟩
    have hHeld : Below W.heap.size W w2 := hS_
    have HO := Aside0.mk h0_
    have HL := Aside0.mk h1_
    have HB2 := Aside0.mk hS_
    clear h0_ h1_ hS_
    obtain ⟨A2, c2, e2⟩ := Kd.R_slice HL.out
    subst e2
    refine norm_ (a' := ?_) ?_ ?_
    rotate_left
    · simp only [putAll, Act.put, List.setIfInBounds_toArray, List.set_cons_zero, List.set_cons_succ]
      rfl
    refine one_ (i := 7) (N := (some 24)) #[true, true, true, true, true, true, true, true, false] rfl rfl (by kernel_rfl) (by decide) (fun K hK => ?_)
    refine Kd.R_append_rows_step k33 W.heap.size (by rfl) (.tmp 20) (.tmp 23) 24 33 (.agg #[(.int .i64 0), (.int .i64 0), (.int .i64 0)]) 24 rfl Try.underlying24 info33t rfl (by decide) (by omega) v20 l.items [x] _ _ _ (fun k_ => some k_ ≠ (.slice A2 [x].length c2 : Value).ownBlock) (fun _ => False) rfl rfl HO.out (Kd.R_reads' HL.out).2.2 (fun _ _ h => h) (fun _ h => h.elim) (fun k_ hk => Kd.fresh' (Kd.R_lt HL.out) k_ hk) (Below.refl _ _) HB2.out.size ?aL ?_
    (case aL => have := hlen.out; simp only [List.length_cons, List.length_nil]; omega)
    intro v24 w3 ho hb hg hat
    rw [← HY.out] at ho
    have HO3 := Aside0.mk (Kd.R_mono (ok' := fun _ => True) ho (fun _ _ => trivial))
    have HB3 : Aside0 (Below W.heap.size W w3) := ⟨below_weaken HB2.out (Nat.le_refl _) hb⟩
    clear ho hb hg hat
    refine hK.out _ _ HB3.out (fun hHeld => ?_)
    clear hK K
    refine norm_ (a' := ?_) ?_ ?_
    rotate_left
    · show Act.put _ (some 24) _ = _
      simp only [Act.put, List.setIfInBounds_toArray, List.set_cons_zero, List.set_cons_succ, i64_w, i32_w]
      rfl
    refine pure_ (i := 8) (N := (some 6)) (v := ?_) (a' := ?_) #[true, true, true, true, true, true, true, true, true] rfl rfl (by kernel_rfl) (fun _ _ _ h => h) (Or.inl ⟨by rfl, ?_⟩) ?_ ?_
    rotate_left
    · intro w'
      go_simp
      with_reducible rfl
    rotate_left
    · simp only [Act.put, List.setIfInBounds_toArray, List.set_cons_zero, List.set_cons_succ, i64_w, i32_w]
      rfl
    refine done_ (by kernel_rfl) ?_
    obtain ⟨A3, c3, e3⟩ := Kd.R_slice HO3.out
    subst e3
    have hm4 : w3.cell? ⟨gb, 4, none⟩ = some (.int .i64 ar) := (blk_cell (blk_below hbk.out HB3.out) 4).trans rfl
    go_wp2_with (first
      | (go_at_call_of 92 ar; with_reducible refine (HIR.out _ ?side0).mono ?_; (case side0 => exact (HI.out.below hbw.out).below HB3.out); rintro e w4 ⟨v29, rfl, h29, hb4⟩; have n1_ := Aside0.mk (Kd.R_elder' HO3.out (Kd.R_base h29) hb4); have n2_ := Aside0.mk (Kd.R_new' h29 (Kd.R_lt HO3.out)); have HB4 : Aside0 (Below W.heap.size W w4) := ⟨below_step HB3.out hb4⟩; clear h29 hb4 HO3; obtain ⟨A4, c4, e4⟩ := Kd.R_slice n2_.out; subst e4)
      | ((with_reducible refine gate_dst (N := 30) rfl ?_); refine Kd.R_append_rows k33 W.heap.size rfl (.tmp 25) (.tmp 29) 24 33 (.agg #[(.int .i64 0), (.int .i64 0), (.int .i64 0)]) 24 rfl Try.underlying24 info33t rfl (by decide) (by omega) _ y r.items _ _ _ (fun k_ => some k_ ≠ (.slice A4 r.items.length c4 : Value).ownBlock) (fun _ => False) rfl rfl (Kd.R_mono n1_.out (fun _ hk => hk.2)) (Kd.R_reads' n2_.out).2.2 (fun _ _ h => h) (fun _ h => h.elim) (fun k_ hk => Kd.fresh' (Kd.R_lt n2_.out) k_ hk) (Below.refl _ _) HB4.out.size ?aL ?_; (case aL => have := hlen.out; rw [HY.out]; simp only [List.length_append, List.length_cons, List.length_nil]; omega); intro v30 w5 ho hb hg hat; have HO5 := Aside0.mk ho; have HB5 : Aside0 (Below W.heap.size W w5) := ⟨below_weaken HB4.out (Nat.le_refl _) hb⟩; clear ho hb hg hat))
    go_ret
    exact ⟨_, rfl, Kd.R_lower (Kd.R_mono (ok' := fun _ => True) (by have h_ := HO5.out; rw [HY.out] at h_; simpa [Tr.items] using h_) (fun _ _ => trivial)) hbw.out.size, below_step hbw.out HB5.out⟩
def spec_l04Wood_items.f (s0_0 : List S130) (s0_1 : Int) (a1 : Int) : Option (List S33 × Int) := (unlay 1001 s0_0 a1).bind fun t => if t.sz ≤ 1000 then some (t.items, s0_1) else none
theorem spec_l04Wood_items.calls (g : Nat) (s0_0 : List S130) (s0_1 : Int) (a1 : Int) (r1 : List S33) (r2 : Int) (w0 w : World) (hI : IsS119 w0 w g s0_0 s0_1) (hB : Below w0.heap.size w0 w) (h : spec_l04Wood_items.f s0_0 s0_1 a1 = some (r1, r2)) :
    Calls Try.prog 92 #[.pointer (some ⟨g, 0, none⟩), .int .i64 a1] w fun e w' => ∃ v0_ : Value, e = .returned v0_ ∧ Kd.R k33 33 w' w.heap.size (fun _ => True) v0_ r1 ∧ IsS119 w0 w' g s0_0 r2 ∧ Below w0.heap.size w0 w' ∧ KeepBut w w' g none := by
  unfold spec_l04Wood_items.f at h
  obtain ⟨t, ht, h⟩ := Option.bind_eq_some_iff.1 h
  split at h
  · rename_i hs
    simp only [Option.some.injEq, Prod.mk.injEq] at h
    obtain ⟨rfl, rfl⟩ := h
    exact (witems_calls t g s0_0 s0_1 a1 w0 w hI (unlay_rep _ _ _ _ ht) hs).mono fun e w' ⟨v, he, hv, hb⟩ => ⟨v, he, hv, hI.below hb, below_then hB hB.size hb, KeepBut.of_below hb g none⟩
  · cases h

/-! ### spec_l01Max: function 131 -/
def spec_l01Max.f (a0 : Int) (a1 : Int) : Option (Int) := if a0 > a1 then (some a0) else (some a1)
set_option maxHeartbeats 8000000 in
set_option maxRecDepth 100000 in
theorem spec_l01Max.calls (a0 : Int) (a1 : Int) (r : Int) (w : World) (h : spec_l01Max.f a0 a1 = some r) :
    Calls Try.prog 131 #[.int .i64 a0, .int .i64 a1] w fun e w' => e = .returned (.int .i64 r) ∧ Drawn0 w w' := by
  have H : (if a0 > a1 then (some a0) else (some a1)) = some r := h
  clear h
  by_cases c3 : a0 > a1
  · rw [if_pos c3] at H
    have c3b0 : decide (a1 < a0) = true := decide_eq_true c3
    clear c3
    obtain rfl := Option.some.inj H
    go_enter Try.func131, Try.ntmps131
    go_wp2
    go_ret
    exact ⟨by first | rfl | (simp; done) | (simp [*]; done), by repeat (first | exact Drawn0.refl _ | apply Drawn0.step)⟩
  · rw [if_neg c3] at H
    have c3b0 : decide (a1 < a0) = false := decide_eq_false c3
    clear c3
    obtain rfl := Option.some.inj H
    go_enter Try.func131, Try.ntmps131
    go_wp2
    go_ret
    exact ⟨by first | rfl | (simp; done) | (simp [*]; done), by repeat (first | exact Drawn0.refl _ | apply Drawn0.step)⟩

/-! ### spec_l04Wood_height: function 97 -/
attribute [local go_sem] Oper.semAt_some
theorem max_q (a b m : Int) (h : m = if a > b then a else b) (w : World) : Calls Try.prog 131 #[.int .i64 a, .int .i64 b] w fun e w' => e = .returned (.int .i64 m) ∧ ∃ m, w' = w.drewN m := by
  have h : spec_l01Max.f a b = some m := by unfold spec_l01Max.f; rw [h]; split <;> rfl
  exact (spec_l01Max.calls a b _ w h).mono fun _ _ h_ => ⟨h_.1, h_.2.out⟩
set_option maxHeartbeats 2000000 in
set_option maxRecDepth 100000 in
theorem wheight_calls (t : Tr) : ∀ (g : Nat) (ns : List S130) (top a : Int) (w0 w : World) (hI : IsS119 w0 w g ns top) (hr : Rep ns t a) (hlen : t.sz ≤ 1000),
    Calls Try.prog 97 #[.pointer (some ⟨g, 0, none⟩), .int .i64 a] w fun e w' => e = .returned (.int .i64 (t.ht : Nat)) ∧ ∃ m, w' = w.drewN m := by
  induction t with
  | nil =>
    intro g ns top a w0 w hI hr hlen
    have hlt : a < 0 := hr
    clear hI hr
    go_enter Try.func97, Try.ntmps97
    go_wp2
    go_ret
    exact ⟨rfl, 0, rfl⟩
  | node x l r ihl ihr =>
    intro g ns top a w0 w hI hr hlen
    obtain ⟨h0, h1, hx, hl, hr⟩ := hr
    obtain ⟨A0, c0, bk, ge, hR⟩ := id hI
    obtain ⟨ad, e, hx0, hx1, hx2, hx3, hx4⟩ := at_T130 (Kd.R_reads' hR).2.2 a h0 h1
    cases e
    have hb0 := blk_cell bk 0
    simp only [List.getElem?_toArray, List.getElem?_cons_zero, List.getElem?_cons_succ] at hb0
    have hhl := Tr.ht_le l
    have hhr := Tr.ht_le r
    have hge : (a < 0) = False := eq_false (by omega)
    obtain ⟨m, hm⟩ : ∃ m, m = if (l.ht : Int) > (r.ht : Int) then (l.ht : Int) else (r.ht : Int) := ⟨_, rfl⟩
    have hw : wrap64 (1 + m) = (((Tr.node x l r).ht : Nat) : Int) := by
      rw [hm]; simp only [Tr.ht, Tr.sz] at *; unfold wrap64; split <;> omega
    have HM := Aside0.mk hm
    clear hm
    have HI := Aside0.mk hI
    have HIL := Aside0.mk (fun w h => ihl g ns top _ w0 w h hl (by simp only [Tr.sz] at hlen; omega))
    have HIR := Aside0.mk (fun w h => ihr g ns top _ w0 w h hr (by simp only [Tr.sz] at hlen; omega))
    generalize (((Tr.node x l r).ht : Nat) : Int) = n at hw ⊢
    have HW := Aside0.mk hw
    clear hw
    generalize (rd_T130 ns a).f1 = al at hx3 HIL
    generalize (rd_T130 ns a).f2 = ar at hx4 HIR
    have hlt2 : a < (ns.length : Int) := h1
    clear hI hr hl hx ihl ihr hlen hhl hhr bk ge hR hx0 hx1 hx2
    go_enter Try.func97, Try.ntmps97
    go_wp2
    go_quiet (first
      | (go_at_call_of 97 al; refine Calls.quiet_of (HIL.out _ ?_); exact HI.out.drewN _)
      | (go_at_call_of 97 ar; refine Calls.quiet_of (HIR.out _ ?_); exact HI.out.drewN _)
      | (go_at_call 131; refine Calls.quiet_of (max_q _ _ m HM.out _)))
    go_wp2
    go_ret
    exact ⟨by show Ending.returned (Value.int IntKind.i64 (wrap64 (1 + m))) = _; rw [HW.out], _, rfl⟩
def spec_l04Wood_height.f (s0_0 : List S130) (s0_1 : Int) (a1 : Int) : Option (Int × Int) := (unlay 1001 s0_0 a1).bind fun t => if t.sz ≤ 1000 then some ((t.ht : Nat), s0_1) else none
theorem spec_l04Wood_height.calls (g : Nat) (s0_0 : List S130) (s0_1 : Int) (a1 : Int) (r1 : Int) (r2 : Int) (w0 w : World) (hI : IsS119 w0 w g s0_0 s0_1) (hB : Below w0.heap.size w0 w) (h : spec_l04Wood_height.f s0_0 s0_1 a1 = some (r1, r2)) :
    Calls Try.prog 97 #[.pointer (some ⟨g, 0, none⟩), .int .i64 a1] w fun e w' => e = .returned (.int .i64 r1) ∧ IsS119 w0 w' g s0_0 r2 ∧ Below w0.heap.size w0 w' ∧ KeepBut w w' g none := by
  unfold spec_l04Wood_height.f at h
  obtain ⟨t, ht, h⟩ := Option.bind_eq_some_iff.1 h
  split at h
  · rename_i hs
    simp only [Option.some.injEq, Prod.mk.injEq] at h
    obtain ⟨rfl, rfl⟩ := h
    exact (wheight_calls t g s0_0 s0_1 a1 w0 w hI (unlay_rep _ _ _ _ ht) hs).mono fun e w' ⟨he, m, hm⟩ => by
      have hb : Below w.heap.size w w' := by rw [hm]; exact pw_below_drewN (Below.refl _ _) m
      exact ⟨he, hI.below hb, below_then hB hB.size hb, KeepBut.of_below hb g none⟩
  · cases h

/-! ### spec_l04Wood_even: function 93 -/
attribute [local go_sem] Oper.semAt_some
set_option maxHeartbeats 4000000 in
set_option maxRecDepth 100000 in
theorem weven_calls (t : Tr) : ∀ (g : Nat) (ns : List S130) (top a : Int) (w0 w : World) (hI : IsS119 w0 w g ns top) (hr : Rep ns t a) (hlen : t.sz ≤ 1000),
    Calls Try.prog 93 #[.pointer (some ⟨g, 0, none⟩), .int .i64 a] w fun e w' => e = .returned (.bool t.flat) ∧ Below w.heap.size w w' := by
  induction t with
  | nil =>
    intro g ns top a w0 w hI hr hlen
    have hlt : a < 0 := hr
    clear hI hr
    go_enter Try.func93, Try.ntmps93
    go_wp2
    go_ret
    exact ⟨rfl, Below.refl _ _⟩
  | node x l r ihl ihr =>
    intro g ns top a w0 w hI hr hlen
    obtain ⟨h0, h1, hx, hl, hr⟩ := hr
    obtain ⟨A0, c0, bk, ge, hR⟩ := id hI
    obtain ⟨ad, e, hx0, hx1, hx2, hx3, hx4⟩ := at_T130 (Kd.R_reads' hR).2.2 a h0 h1
    cases e
    have hb0 := blk_cell bk 0
    simp only [List.getElem?_toArray, List.getElem?_cons_zero, List.getElem?_cons_succ] at hb0
    have hge : (a < 0) = False := eq_false (by omega)
    have hhl := Tr.ht_le l
    have hhr := Tr.ht_le r
    have hd : wrap64 ((l.ht : Int) - r.ht) = (l.ht : Int) - r.ht := by unfold wrap64; simp only [Tr.sz] at hlen; omega
    have HI := Aside0.mk hI
    have HIL := Aside0.mk (fun w h => ihl g ns top _ w0 w h hl (by simp only [Tr.sz] at hlen; omega))
    have HIR := Aside0.mk (fun w h => ihr g ns top _ w0 w h hr (by simp only [Tr.sz] at hlen; omega))
    have HHL := Aside0.mk (fun w h => wheight_calls l g ns top _ w0 w h hl (by simp only [Tr.sz] at hlen; omega))
    have HHR := Aside0.mk (fun w h => wheight_calls r g ns top _ w0 w h hr (by simp only [Tr.sz] at hlen; omega))
    rw [hx] at hx0 hx1 hx2
    simp only [Tr.flat]
    generalize (rd_T130 ns a).f1 = al at hx3 HIL HHL
    generalize (rd_T130 ns a).f2 = ar at hx4 HIR HHR
    have hlt2 : a < (ns.length : Int) := h1
    obtain ⟨d, hdd⟩ : ∃ d, d = (l.ht : Int) - r.ht := ⟨_, rfl⟩
    rw [← hdd]
    replace hd : wrap64 ((l.ht : Int) - r.ht) = d := by rw [hd, hdd]
    clear hI hr hl hx ihl ihr hlen bk ge hR hhl hhr hdd
    generalize (l.ht : Int) = lh at hd HHL
    generalize (r.ht : Int) = rh at hd HHR
    by_cases c1 : -1 ≤ d
    · by_cases c2 : d ≤ 1
      · rw [decide_eq_true (show -1 ≤ d ∧ d ≤ 1 from ⟨c1, c2⟩), Bool.true_and]
        cases hf : l.flat with
        | false =>
          rw [hf] at HIL
          go_enter Try.func93, Try.ntmps93
          go_wp2_with (first
            | ((with_reducible refine gate_dst (N := 5) rfl ?_); refine box_event ?hg (N := 5) ?hd (cs := #[.int .i64 0, .int .i64 0, .int .i64 0, .int .i64 0, .int .i64 0]) (t := 130) ?hr ?_; (case hd => rfl); (case hg => rfl); (case hr => first | (go_simp; done) | (go_simp; rfl)); intro gb hgb w1 hbox hb1; have bX := Aside0.mk hbox; have hB1 := Aside0.mk hb1; have hG := Aside0.mk hgb; have hc0_ := blk_cell hbox 0; have hc1_ := blk_cell hbox 1; have hc2_ := blk_cell hbox 2; have hc3_ := blk_cell hbox 3; have hc4_ := blk_cell hbox 4; have hf0_ := blk_frozen hbox 0; have hf1_ := blk_frozen hbox 1; have hf2_ := blk_frozen hbox 2; have hf3_ := blk_frozen hbox 3; have hf4_ := blk_frozen hbox 4; simp only [List.getElem?_toArray, List.getElem?_cons_zero, List.getElem?_cons_succ] at hc0_ hc1_ hc2_ hc3_ hc4_; clear hbox hb1 hgb))
          have hbk : Aside0 ((((((w1.setCell ⟨gb, 0, none⟩ (.int .i64 x.f0)).setCell ⟨gb, 1, none⟩ (.int .i64 x.f1)).setCell ⟨gb, 2, none⟩ (.int .i64 x.f2)).setCell ⟨gb, 3, none⟩ (.int .i64 al)).setCell ⟨gb, 4, none⟩ (.int .i64 ar)).heap[gb]? = some (.cells #[.int .i64 x.f0, .int .i64 x.f1, .int .i64 x.f2, .int .i64 al, .int .i64 ar] 130 (0, 0))) := ⟨(blk_put (blk_put (blk_put (blk_put (blk_put bX.out 0 _ rfl) 1 _ rfl) 2 _ rfl) 3 _ rfl) 4 _ rfl)⟩
          have hbw : Aside0 (Below w.heap.size w (((((w1.setCell ⟨gb, 0, none⟩ (.int .i64 x.f0)).setCell ⟨gb, 1, none⟩ (.int .i64 x.f1)).setCell ⟨gb, 2, none⟩ (.int .i64 x.f2)).setCell ⟨gb, 3, none⟩ (.int .i64 al)).setCell ⟨gb, 4, none⟩ (.int .i64 ar))) := ⟨(below_set (below_set (below_set (below_set (below_set hB1.out (Nat.le_of_eq hG.out.symm)) (Nat.le_of_eq hG.out.symm)) (Nat.le_of_eq hG.out.symm)) (Nat.le_of_eq hG.out.symm)) (Nat.le_of_eq hG.out.symm))⟩
          clear bX hB1 hG hc0_ hc1_ hc2_ hc3_ hc4_ hf0_ hf1_ hf2_ hf3_ hf4_
          generalize hW_ : (((((w1.setCell ⟨gb, 0, none⟩ (.int .i64 x.f0)).setCell ⟨gb, 1, none⟩ (.int .i64 x.f1)).setCell ⟨gb, 2, none⟩ (.int .i64 x.f2)).setCell ⟨gb, 3, none⟩ (.int .i64 al)).setCell ⟨gb, 4, none⟩ (.int .i64 ar)) = W at hbk hbw ⊢
          clear hW_ w1
          have hm3 : W.cell? ⟨gb, 3, none⟩ = some (.int .i64 al) := (blk_cell hbk.out 3).trans rfl
          have hm4 : W.cell? ⟨gb, 4, none⟩ = some (.int .i64 ar) := (blk_cell hbk.out 4).trans rfl
          go_quiet (first
            | (go_at_call_of 97 al; refine Calls.quiet_of (HHL.out _ ?_); exact (HI.out.below hbw.out).drewN _)
            | (go_at_call_of 97 ar; refine Calls.quiet_of (HHR.out _ ?_); exact (HI.out.below hbw.out).drewN _))
          go_wp2_with (first
            | (go_at_call_of 93 al; with_reducible refine (HIL.out _ ?side0).mono ?_; (case side0 => exact (HI.out.below hbw.out).drewN _); rintro e w4 ⟨rfl, hb4⟩; have HB4 : Aside0 (Below W.heap.size W w4) := ⟨below_step (pw_below_drewN (Below.refl _ _) _) hb4⟩; have hn4 : w4.cell? ⟨gb, 4, none⟩ = some (.int .i64 ar) := (blk_cell (blk_below hbk.out HB4.out) 4).trans rfl; clear hb4))
          go_ret
          exact ⟨rfl, below_step hbw.out HB4.out⟩
        | true =>
          rw [hf] at HIL
          rw [Bool.true_and]
          go_enter Try.func93, Try.ntmps93
          go_wp2_with (first
            | ((with_reducible refine gate_dst (N := 5) rfl ?_); refine box_event ?hg (N := 5) ?hd (cs := #[.int .i64 0, .int .i64 0, .int .i64 0, .int .i64 0, .int .i64 0]) (t := 130) ?hr ?_; (case hd => rfl); (case hg => rfl); (case hr => first | (go_simp; done) | (go_simp; rfl)); intro gb hgb w1 hbox hb1; have bX := Aside0.mk hbox; have hB1 := Aside0.mk hb1; have hG := Aside0.mk hgb; have hc0_ := blk_cell hbox 0; have hc1_ := blk_cell hbox 1; have hc2_ := blk_cell hbox 2; have hc3_ := blk_cell hbox 3; have hc4_ := blk_cell hbox 4; have hf0_ := blk_frozen hbox 0; have hf1_ := blk_frozen hbox 1; have hf2_ := blk_frozen hbox 2; have hf3_ := blk_frozen hbox 3; have hf4_ := blk_frozen hbox 4; simp only [List.getElem?_toArray, List.getElem?_cons_zero, List.getElem?_cons_succ] at hc0_ hc1_ hc2_ hc3_ hc4_; clear hbox hb1 hgb))
          have hbk : Aside0 ((((((w1.setCell ⟨gb, 0, none⟩ (.int .i64 x.f0)).setCell ⟨gb, 1, none⟩ (.int .i64 x.f1)).setCell ⟨gb, 2, none⟩ (.int .i64 x.f2)).setCell ⟨gb, 3, none⟩ (.int .i64 al)).setCell ⟨gb, 4, none⟩ (.int .i64 ar)).heap[gb]? = some (.cells #[.int .i64 x.f0, .int .i64 x.f1, .int .i64 x.f2, .int .i64 al, .int .i64 ar] 130 (0, 0))) := ⟨(blk_put (blk_put (blk_put (blk_put (blk_put bX.out 0 _ rfl) 1 _ rfl) 2 _ rfl) 3 _ rfl) 4 _ rfl)⟩
          have hbw : Aside0 (Below w.heap.size w (((((w1.setCell ⟨gb, 0, none⟩ (.int .i64 x.f0)).setCell ⟨gb, 1, none⟩ (.int .i64 x.f1)).setCell ⟨gb, 2, none⟩ (.int .i64 x.f2)).setCell ⟨gb, 3, none⟩ (.int .i64 al)).setCell ⟨gb, 4, none⟩ (.int .i64 ar))) := ⟨(below_set (below_set (below_set (below_set (below_set hB1.out (Nat.le_of_eq hG.out.symm)) (Nat.le_of_eq hG.out.symm)) (Nat.le_of_eq hG.out.symm)) (Nat.le_of_eq hG.out.symm)) (Nat.le_of_eq hG.out.symm))⟩
          clear bX hB1 hG hc0_ hc1_ hc2_ hc3_ hc4_ hf0_ hf1_ hf2_ hf3_ hf4_
          generalize hW_ : (((((w1.setCell ⟨gb, 0, none⟩ (.int .i64 x.f0)).setCell ⟨gb, 1, none⟩ (.int .i64 x.f1)).setCell ⟨gb, 2, none⟩ (.int .i64 x.f2)).setCell ⟨gb, 3, none⟩ (.int .i64 al)).setCell ⟨gb, 4, none⟩ (.int .i64 ar)) = W at hbk hbw ⊢
          clear hW_ w1
          have hm3 : W.cell? ⟨gb, 3, none⟩ = some (.int .i64 al) := (blk_cell hbk.out 3).trans rfl
          have hm4 : W.cell? ⟨gb, 4, none⟩ = some (.int .i64 ar) := (blk_cell hbk.out 4).trans rfl
          go_quiet (first
            | (go_at_call_of 97 al; refine Calls.quiet_of (HHL.out _ ?_); exact (HI.out.below hbw.out).drewN _)
            | (go_at_call_of 97 ar; refine Calls.quiet_of (HHR.out _ ?_); exact (HI.out.below hbw.out).drewN _))
          go_wp2_with (first
            | (go_at_call_of 93 al; with_reducible refine (HIL.out _ ?side0).mono ?_; (case side0 => exact (HI.out.below hbw.out).drewN _); rintro e w4 ⟨rfl, hb4⟩; have HB4 : Aside0 (Below W.heap.size W w4) := ⟨below_step (pw_below_drewN (Below.refl _ _) _) hb4⟩; have hn4 : w4.cell? ⟨gb, 4, none⟩ = some (.int .i64 ar) := (blk_cell (blk_below hbk.out HB4.out) 4).trans rfl; clear hb4)
            | (go_at_call_of 93 ar; with_reducible refine (HIR.out _ ?side0).mono ?_; (case side0 => exact (HI.out.below hbw.out).below HB4.out); rintro e w5 ⟨rfl, hb5⟩; have HB5 : Aside0 (Below W.heap.size W w5) := ⟨below_step HB4.out hb5⟩; clear hb5))
          go_ret
          exact ⟨rfl, below_step hbw.out HB5.out⟩
      · rw [decide_eq_false (show ¬ (-1 ≤ d ∧ d ≤ 1) from fun h => c2 h.2), Bool.false_and]
        have c2n : (d ≤ 1) = False := eq_false c2
        clear c2
        go_enter Try.func93, Try.ntmps93
        go_wp2_with (first
          | ((with_reducible refine gate_dst (N := 5) rfl ?_); refine box_event ?hg (N := 5) ?hd (cs := #[.int .i64 0, .int .i64 0, .int .i64 0, .int .i64 0, .int .i64 0]) (t := 130) ?hr ?_; (case hd => rfl); (case hg => rfl); (case hr => first | (go_simp; done) | (go_simp; rfl)); intro gb hgb w1 hbox hb1; have bX := Aside0.mk hbox; have hB1 := Aside0.mk hb1; have hG := Aside0.mk hgb; have hc0_ := blk_cell hbox 0; have hc1_ := blk_cell hbox 1; have hc2_ := blk_cell hbox 2; have hc3_ := blk_cell hbox 3; have hc4_ := blk_cell hbox 4; have hf0_ := blk_frozen hbox 0; have hf1_ := blk_frozen hbox 1; have hf2_ := blk_frozen hbox 2; have hf3_ := blk_frozen hbox 3; have hf4_ := blk_frozen hbox 4; simp only [List.getElem?_toArray, List.getElem?_cons_zero, List.getElem?_cons_succ] at hc0_ hc1_ hc2_ hc3_ hc4_; clear hbox hb1 hgb))
        have hbk : Aside0 ((((((w1.setCell ⟨gb, 0, none⟩ (.int .i64 x.f0)).setCell ⟨gb, 1, none⟩ (.int .i64 x.f1)).setCell ⟨gb, 2, none⟩ (.int .i64 x.f2)).setCell ⟨gb, 3, none⟩ (.int .i64 al)).setCell ⟨gb, 4, none⟩ (.int .i64 ar)).heap[gb]? = some (.cells #[.int .i64 x.f0, .int .i64 x.f1, .int .i64 x.f2, .int .i64 al, .int .i64 ar] 130 (0, 0))) := ⟨(blk_put (blk_put (blk_put (blk_put (blk_put bX.out 0 _ rfl) 1 _ rfl) 2 _ rfl) 3 _ rfl) 4 _ rfl)⟩
        have hbw : Aside0 (Below w.heap.size w (((((w1.setCell ⟨gb, 0, none⟩ (.int .i64 x.f0)).setCell ⟨gb, 1, none⟩ (.int .i64 x.f1)).setCell ⟨gb, 2, none⟩ (.int .i64 x.f2)).setCell ⟨gb, 3, none⟩ (.int .i64 al)).setCell ⟨gb, 4, none⟩ (.int .i64 ar))) := ⟨(below_set (below_set (below_set (below_set (below_set hB1.out (Nat.le_of_eq hG.out.symm)) (Nat.le_of_eq hG.out.symm)) (Nat.le_of_eq hG.out.symm)) (Nat.le_of_eq hG.out.symm)) (Nat.le_of_eq hG.out.symm))⟩
        clear bX hB1 hG hc0_ hc1_ hc2_ hc3_ hc4_ hf0_ hf1_ hf2_ hf3_ hf4_
        generalize hW_ : (((((w1.setCell ⟨gb, 0, none⟩ (.int .i64 x.f0)).setCell ⟨gb, 1, none⟩ (.int .i64 x.f1)).setCell ⟨gb, 2, none⟩ (.int .i64 x.f2)).setCell ⟨gb, 3, none⟩ (.int .i64 al)).setCell ⟨gb, 4, none⟩ (.int .i64 ar)) = W at hbk hbw ⊢
        clear hW_ w1
        have hm3 : W.cell? ⟨gb, 3, none⟩ = some (.int .i64 al) := (blk_cell hbk.out 3).trans rfl
        have hm4 : W.cell? ⟨gb, 4, none⟩ = some (.int .i64 ar) := (blk_cell hbk.out 4).trans rfl
        go_quiet (first
          | (go_at_call_of 97 al; refine Calls.quiet_of (HHL.out _ ?_); exact (HI.out.below hbw.out).drewN _)
          | (go_at_call_of 97 ar; refine Calls.quiet_of (HHR.out _ ?_); exact (HI.out.below hbw.out).drewN _))
        go_wp2
        go_ret
        exact ⟨rfl, below_step hbw.out (pw_below_drewN (Below.refl _ _) _)⟩
    · rw [decide_eq_false (show ¬ (-1 ≤ d ∧ d ≤ 1) from fun h => c1 h.1), Bool.false_and]
      have c1n : (-1 ≤ d) = False := eq_false c1
      clear c1
      go_enter Try.func93, Try.ntmps93
      go_wp2_with (first
        | ((with_reducible refine gate_dst (N := 5) rfl ?_); refine box_event ?hg (N := 5) ?hd (cs := #[.int .i64 0, .int .i64 0, .int .i64 0, .int .i64 0, .int .i64 0]) (t := 130) ?hr ?_; (case hd => rfl); (case hg => rfl); (case hr => first | (go_simp; done) | (go_simp; rfl)); intro gb hgb w1 hbox hb1; have bX := Aside0.mk hbox; have hB1 := Aside0.mk hb1; have hG := Aside0.mk hgb; have hc0_ := blk_cell hbox 0; have hc1_ := blk_cell hbox 1; have hc2_ := blk_cell hbox 2; have hc3_ := blk_cell hbox 3; have hc4_ := blk_cell hbox 4; have hf0_ := blk_frozen hbox 0; have hf1_ := blk_frozen hbox 1; have hf2_ := blk_frozen hbox 2; have hf3_ := blk_frozen hbox 3; have hf4_ := blk_frozen hbox 4; simp only [List.getElem?_toArray, List.getElem?_cons_zero, List.getElem?_cons_succ] at hc0_ hc1_ hc2_ hc3_ hc4_; clear hbox hb1 hgb))
      have hbk : Aside0 ((((((w1.setCell ⟨gb, 0, none⟩ (.int .i64 x.f0)).setCell ⟨gb, 1, none⟩ (.int .i64 x.f1)).setCell ⟨gb, 2, none⟩ (.int .i64 x.f2)).setCell ⟨gb, 3, none⟩ (.int .i64 al)).setCell ⟨gb, 4, none⟩ (.int .i64 ar)).heap[gb]? = some (.cells #[.int .i64 x.f0, .int .i64 x.f1, .int .i64 x.f2, .int .i64 al, .int .i64 ar] 130 (0, 0))) := ⟨(blk_put (blk_put (blk_put (blk_put (blk_put bX.out 0 _ rfl) 1 _ rfl) 2 _ rfl) 3 _ rfl) 4 _ rfl)⟩
      have hbw : Aside0 (Below w.heap.size w (((((w1.setCell ⟨gb, 0, none⟩ (.int .i64 x.f0)).setCell ⟨gb, 1, none⟩ (.int .i64 x.f1)).setCell ⟨gb, 2, none⟩ (.int .i64 x.f2)).setCell ⟨gb, 3, none⟩ (.int .i64 al)).setCell ⟨gb, 4, none⟩ (.int .i64 ar))) := ⟨(below_set (below_set (below_set (below_set (below_set hB1.out (Nat.le_of_eq hG.out.symm)) (Nat.le_of_eq hG.out.symm)) (Nat.le_of_eq hG.out.symm)) (Nat.le_of_eq hG.out.symm)) (Nat.le_of_eq hG.out.symm))⟩
      clear bX hB1 hG hc0_ hc1_ hc2_ hc3_ hc4_ hf0_ hf1_ hf2_ hf3_ hf4_
      generalize hW_ : (((((w1.setCell ⟨gb, 0, none⟩ (.int .i64 x.f0)).setCell ⟨gb, 1, none⟩ (.int .i64 x.f1)).setCell ⟨gb, 2, none⟩ (.int .i64 x.f2)).setCell ⟨gb, 3, none⟩ (.int .i64 al)).setCell ⟨gb, 4, none⟩ (.int .i64 ar)) = W at hbk hbw ⊢
      clear hW_ w1
      have hm3 : W.cell? ⟨gb, 3, none⟩ = some (.int .i64 al) := (blk_cell hbk.out 3).trans rfl
      have hm4 : W.cell? ⟨gb, 4, none⟩ = some (.int .i64 ar) := (blk_cell hbk.out 4).trans rfl
      go_quiet (first
        | (go_at_call_of 97 al; refine Calls.quiet_of (HHL.out _ ?_); exact (HI.out.below hbw.out).drewN _)
        | (go_at_call_of 97 ar; refine Calls.quiet_of (HHR.out _ ?_); exact (HI.out.below hbw.out).drewN _))
      go_wp2
      go_ret
      exact ⟨rfl, below_step hbw.out (pw_below_drewN (Below.refl _ _) _)⟩
def spec_l04Wood_even.f (s0_0 : List S130) (s0_1 : Int) (a1 : Int) : Option (Bool × Int) := (unlay 1001 s0_0 a1).bind fun t => if t.sz ≤ 1000 then some (t.flat, s0_1) else none
theorem spec_l04Wood_even.calls (g : Nat) (s0_0 : List S130) (s0_1 : Int) (a1 : Int) (r1 : Bool) (r2 : Int) (w0 w : World) (hI : IsS119 w0 w g s0_0 s0_1) (hB : Below w0.heap.size w0 w) (h : spec_l04Wood_even.f s0_0 s0_1 a1 = some (r1, r2)) :
    Calls Try.prog 93 #[.pointer (some ⟨g, 0, none⟩), .int .i64 a1] w fun e w' => e = .returned (.bool r1) ∧ IsS119 w0 w' g s0_0 r2 ∧ Below w0.heap.size w0 w' ∧ KeepBut w w' g none := by
  unfold spec_l04Wood_even.f at h
  obtain ⟨t, ht, h⟩ := Option.bind_eq_some_iff.1 h
  split at h
  · rename_i hs
    simp only [Option.some.injEq, Prod.mk.injEq] at h
    obtain ⟨rfl, rfl⟩ := h
    exact (weven_calls t g s0_0 s0_1 a1 w0 w hI (unlay_rep _ _ _ _ ht) hs).mono fun e w' ⟨he, hb⟩ => ⟨he, hI.below hb, below_then hB hB.size hb, KeepBut.of_below hb g none⟩
  · cases h

end Go.Proofs.Ytenlceojmjkbkaa.XFnExactTreeItems
