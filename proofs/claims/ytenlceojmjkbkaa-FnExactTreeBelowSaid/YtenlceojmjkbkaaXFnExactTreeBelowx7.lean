/- Functions that FnExactTreeBelow comes to, as Lean functions with their contracts: written by the prover's own program (wip/tpl/myprint.py) over the kit's printer, some contracts by hand. Conditions: none. -/
import Derived.Test.YtenlceojmjkbkaaXFnExactTreeBelowx0
import Derived.Test.YtenlceojmjkbkaaXFnExactTreeBelowx1
import Derived.Test.YtenlceojmjkbkaaXFnExactTreeBelowx2
import Derived.Test.YtenlceojmjkbkaaXFnExactTreeBelowx4
import Derived.Test.YtenlceojmjkbkaaXFnExactTreeBelowx6
namespace Go.Proofs.Ytenlceojmjkbkaa.XFnExactTreeBelow
open Go.RowKit Go.Proofs.YtenlceojmjkbkaaW.PrintWords Go.Proofs.YtenlceojmjkbkaaW.PrintLast Go.Proofs.YtenlceojmjkbkaaW.PrintMore
attribute [local go_sem] max2_int min2_int max_two min_two max_three min_three max_four min_four   -- for this text's walks alone
set_option linter.unusedVariables false
set_option linter.unusedSimpArgs false

/-! ### spec_TreeBelow: function 45 -/
attribute [local go_sem] Oper.semAt_some
/-- A sum: how many, what they want, what they weigh. -/
structure SumT where
  c : Int
  v : Int
  q : Int
def SumT.put (s : SumT) (x : S33) : SumT := ⟨wrap64 (s.c + 1), wrap64 (s.v + x.f1), wrap64 (s.q + x.f2)⟩
theorem take_put (l : List S33) (s : SumT) {i : Nat} (h : i < l.length) : (l.take (i + 1)).foldl SumT.put s = ((l.take i).foldl SumT.put s).put l[i] := by
  rw [List.take_succ_eq_append_getElem h, List.foldl_append]; rfl
set_option maxHeartbeats 2000000 in
set_option maxRecDepth 100000 in
theorem add_calls (g base : Nat) (vl : Value) (l : List S33) (s : SumT) (m d : Int) (w : World) (hb : w.heap[g]? = some (.cells #[.int .i64 s.c, .int .i64 s.v, .int .i64 s.q, .int .i64 m, .int .i64 d] 73 (0, 0))) (hr : Kd.R k33 33 w base (fun _ => True) vl l) :
    Calls Try.prog 132 #[.pointer (some ⟨g, 0, none⟩), vl] w fun e w' => e = .returned (.tuple #[]) ∧ w'.heap[g]? = some (.cells #[.int .i64 (l.foldl SumT.put s).c, .int .i64 (l.foldl SumT.put s).v, .int .i64 (l.foldl SumT.put s).q, .int .i64 m, .int .i64 d] 73 (0, 0)) ∧ Below g w w' ∧ KeepBut w w' g none := by
  have hu33 := Try.underlying33
  obtain ⟨A, c0, rfl⟩ := Kd.R_slice hr
  have hmx : l.length ≤ 9223372036854775807 := (Kd.R_reads' hr).2.2.2.1
  have BK := Aside0.mk hb
  have HR := Aside0.mk hr
  clear hb hr
  go_enter Try.func132, Try.ntmps132
  go_wp2
  go_loopg [8] l.length (fun gg s8 wr => ∃ i : Nat, s8 = .int .i64 i ∧ i ≤ l.length ∧ l.length - i ≤ gg ∧ Aside0 (wr.heap[g]? = some (.cells #[.int .i64 ((l.take i).foldl SumT.put s).c, .int .i64 ((l.take i).foldl SumT.put s).v, .int .i64 ((l.take i).foldl SumT.put s).q, .int .i64 m, .int .i64 d] 73 (0, 0))) ∧ Aside0 (Below g w wr) ∧ Aside0 (KeepBut w wr g none))
  case atStart => exact ⟨0, rfl, Nat.zero_le _, by omega, ⟨BK.out⟩, ⟨Below.refl _ _⟩, ⟨KeepBut.refl _ _ _⟩⟩
  case round =>
    obtain ⟨i, rfl, hi, hg, bkg, HB, HK⟩ := hrel
    by_cases hlt : i < l.length
    · have hR := Kd.R_keep (Kd.R_types HR.out BK.out (by decide)) HK.out (fun _ hk => hk.2)
      obtain ⟨ad, e, hx0, hx1, hx2⟩ := at_T33 (Kd.R_reads' hR).2.2 (i : Int) (by omega) (by omega)
      cases e
      have hrd : rd_T33 l (i : Int) = l[i] := by simp [rd_T33, List.getD_eq_getElem?_getD, hlt]
      rw [hrd] at hx0 hx1 hx2
      have HP := Aside0.mk (take_put l s hlt)
      have hltz : (i : Int) < (l.length : Int) := by omega
      generalize l[i] = x at hx0 hx1 hx2 HP
      simp only [Int.toNat_natCast] at hx0 hx1 hx2
      have hlt2 := (eq_true hlt : (i < l.length) = True)
      clear hR hrd
      generalize (l.take i).foldl SumT.put s = t at bkg HP
      obtain ⟨c, v, q⟩ := t
      simp only at bkg
      go_wp2_with (first
        | ((with_reducible refine gate_dst (N := 5) rfl ?_); refine box_event ?hg (N := 5) ?hd (cs := #[.int .i64 0, .int .i64 0, .int .i64 0]) (t := 33) ?hr ?_; (case hd => rfl); (case hg => rfl); (case hr => first | (go_simp; done) | (go_simp; rfl)); intro gb hgb w1 hbox hb1; have bX := Aside0.mk hbox; have hB1 := Aside0.mk hb1; have hG := Aside0.mk hgb; have hc0_ := blk_cell hbox 0; have hc1_ := blk_cell hbox 1; have hc2_ := blk_cell hbox 2; have hf0_ := blk_frozen hbox 0; have hf1_ := blk_frozen hbox 1; have hf2_ := blk_frozen hbox 2; simp only [List.getElem?_toArray, List.getElem?_cons_zero, List.getElem?_cons_succ] at hc0_ hc1_ hc2_; clear hbox hb1 hgb))
      have ng : Aside0 (g ≠ gb) := ⟨fun e_ => by have := blk_lt bkg.out; have := hG.out; omega⟩
      have hbk : Aside0 ((((w1.setCell ⟨gb, 0, none⟩ (.int .i64 x.f0)).setCell ⟨gb, 1, none⟩ (.int .i64 x.f1)).setCell ⟨gb, 2, none⟩ (.int .i64 x.f2)).heap[gb]? = some (.cells #[.int .i64 x.f0, .int .i64 x.f1, .int .i64 x.f2] 33 (0, 0))) := ⟨blk_put (blk_put (blk_put bX.out 0 _ rfl) 1 _ rfl) 2 _ rfl⟩
      have bk1 : Aside0 ((((w1.setCell ⟨gb, 0, none⟩ (.int .i64 x.f0)).setCell ⟨gb, 1, none⟩ (.int .i64 x.f1)).setCell ⟨gb, 2, none⟩ (.int .i64 x.f2)).heap[g]? = some (.cells #[.int .i64 c, .int .i64 v, .int .i64 q, .int .i64 m, .int .i64 d] 73 (0, 0))) := ⟨blk_far (blk_far (blk_far (blk_below bkg.out hB1.out) ng.out _) ng.out _) ng.out _⟩
      have HB1 : Aside0 (Below wr.heap.size wr (((w1.setCell ⟨gb, 0, none⟩ (.int .i64 x.f0)).setCell ⟨gb, 1, none⟩ (.int .i64 x.f1)).setCell ⟨gb, 2, none⟩ (.int .i64 x.f2))) := ⟨below_set (below_set (below_set hB1.out (Nat.le_of_eq hG.out.symm)) (Nat.le_of_eq hG.out.symm)) (Nat.le_of_eq hG.out.symm)⟩
      have hgl := Aside0.mk (blk_lt bkg.out)
      clear bX hB1 hG hc0_ hc1_ hc2_ hf0_ hf1_ hf2_ bkg
      have bkg := bk1
      clear bk1
      generalize hW_ : (((w1.setCell ⟨gb, 0, none⟩ (.int .i64 x.f0)).setCell ⟨gb, 1, none⟩ (.int .i64 x.f1)).setCell ⟨gb, 2, none⟩ (.int .i64 x.f2)) = W at hbk bkg HB1 ⊢
      clear hW_ w1 hx0 hx1 hx2
      refine start_ (n := 31) (S := fun w' => w'.heap[gb]? = some (.cells #[.int .i64 x.f0, .int .i64 x.f1, .int .i64 x.f2] 33 (0, 0)) ∧ (∃ c' v' : Int, w'.heap[g]? = some (.cells #[.int .i64 c', .int .i64 v', .int .i64 q, .int .i64 m, .int .i64 d] 73 (0, 0)))) (ds := [30]) #[false, false, false, false, false, false, false, false, false, false, false, false, false, false, false, false, false, false, false, false, false, false, false, false, false, false, false, false, false, false, false] (by kernel_rfl) rfl rfl ⟨blk_drew hbk.out, ⟨c, v, blk_drew bkg.out⟩⟩ (fun hHeld => ?_)
      refine pure_ (i := 0) (N := (some 12)) (v := ?_) (a' := ?_) #[true, false, false, false, false, false, false, false, false, false, false, false, false, false, false, false, false, false, false, false, false, false, false, false, false, false, false, false, false, false, false] rfl rfl (by kernel_rfl) (fun _ _ _ h => h) (Or.inl ⟨by rfl, ?_⟩) ?_ ?_
      rotate_left
      · intro w'
        go_simp
        with_reducible rfl
      rotate_left
      · simp only [Act.put, List.setIfInBounds_toArray, List.set_cons_zero, List.set_cons_succ, i64_w, i32_w]
        rfl
      refine pure_ (i := 1) (N := (some 13)) (v := ?_) (a' := ?_) #[true, true, false, false, false, false, false, false, false, false, false, false, false, false, false, false, false, false, false, false, false, false, false, false, false, false, false, false, false, false, false] rfl rfl (by kernel_rfl) (fun _ _ _ h => h) (Or.inl ⟨by rfl, ?_⟩) ?_ ?_
      rotate_left
      · intro w'
        go_simp
        with_reducible rfl
      rotate_left
      · simp only [Act.put, List.setIfInBounds_toArray, List.set_cons_zero, List.set_cons_succ, i64_w, i32_w]
        rfl
      refine pure_ (i := 2) (N := (some 14)) (v := ?_) (a' := ?_) #[true, true, true, false, false, false, false, false, false, false, false, false, false, false, false, false, false, false, false, false, false, false, false, false, false, false, false, false, false, false, false] rfl rfl (by kernel_rfl) (fun _ _ _ h => h) (Or.inl ⟨by rfl, ?_⟩) ?_ ?_
      rotate_left
      · intro w'
        go_simp
        with_reducible rfl
      rotate_left
      · simp only [Act.put, List.setIfInBounds_toArray, List.set_cons_zero, List.set_cons_succ, i64_w, i32_w]
        rfl
      refine pure_ (i := 3) (N := (some 15)) (v := ?_) (a' := ?_) #[true, true, true, true, false, false, false, false, false, false, false, false, false, false, false, false, false, false, false, false, false, false, false, false, false, false, false, false, false, false, false] rfl rfl (by kernel_rfl) (fun _ _ _ h => h) (Or.inl ⟨by rfl, ?_⟩) ?_ ?_
      rotate_left
      · intro w'
        go_simp
        with_reducible rfl
      rotate_left
      · simp only [Act.put, List.setIfInBounds_toArray, List.set_cons_zero, List.set_cons_succ, i64_w, i32_w]
        rfl
      refine pure_ (i := 4) (N := (some 16)) (v := ?_) (a' := ?_) #[true, true, true, true, true, false, false, false, false, false, false, false, false, false, false, false, false, false, false, false, false, false, false, false, false, false, false, false, false, false, false] rfl rfl (by kernel_rfl) (fun _ _ _ h => h) (Or.inl ⟨by rfl, ?_⟩) ?_ ?_
      rotate_left
      · intro w'
        go_simp
        with_reducible rfl
      rotate_left
      · simp only [Act.put, List.setIfInBounds_toArray, List.set_cons_zero, List.set_cons_succ, i64_w, i32_w]
        rfl
      refine pure_ (i := 5) (N := (some 17)) (v := ?_) (a' := ?_) #[true, true, true, true, true, true, false, false, false, false, false, false, false, false, false, false, false, false, false, false, false, false, false, false, false, false, false, false, false, false, false] rfl rfl (by kernel_rfl) (fun _ _ _ h => h) (Or.inl ⟨by rfl, ?_⟩) ?_ ?_
      rotate_left
      · intro w'
        go_simp
        with_reducible rfl
      rotate_left
      · simp only [Act.put, List.setIfInBounds_toArray, List.set_cons_zero, List.set_cons_succ, i64_w, i32_w]
        rfl
      refine pure_ (i := 8) (N := (some 20)) (v := ?_) (a' := ?_) #[true, true, true, true, true, true, false, false, true, false, false, false, false, false, false, false, false, false, false, false, false, false, false, false, false, false, false, false, false, false, false] rfl rfl (by kernel_rfl) (fun _ _ _ h => h) (Or.inl ⟨by rfl, ?_⟩) ?_ ?_
      rotate_left
      · intro w'
        go_simp
        with_reducible rfl
      rotate_left
      · simp only [Act.put, List.setIfInBounds_toArray, List.set_cons_zero, List.set_cons_succ, i64_w, i32_w]
        rfl
      refine pure_ (i := 9) (N := (some 21)) (v := ?_) (a' := ?_) #[true, true, true, true, true, true, false, false, true, true, false, false, false, false, false, false, false, false, false, false, false, false, false, false, false, false, false, false, false, false, false] rfl rfl (by kernel_rfl) (fun _ _ _ h => h) (Or.inl ⟨by rfl, ?_⟩) ?_ ?_
      rotate_left
      · intro w'
        go_simp
        with_reducible rfl
      rotate_left
      · simp only [Act.put, List.setIfInBounds_toArray, List.set_cons_zero, List.set_cons_succ, i64_w, i32_w]
        rfl
      refine pure_ (i := 10) (N := (some 22)) (v := ?_) (a' := ?_) #[true, true, true, true, true, true, false, false, true, true, true, false, false, false, false, false, false, false, false, false, false, false, false, false, false, false, false, false, false, false, false] rfl rfl (by kernel_rfl) (fun _ _ _ h => h) (Or.inl ⟨by rfl, ?_⟩) ?_ ?_
      rotate_left
      · intro w'
        go_simp
        with_reducible rfl
      rotate_left
      · simp only [Act.put, List.setIfInBounds_toArray, List.set_cons_zero, List.set_cons_succ, i64_w, i32_w]
        rfl
      refine pure_ (i := 12) (N := (some 24)) (v := ?_) (a' := ?_) #[true, true, true, true, true, true, false, false, true, true, true, false, true, false, false, false, false, false, false, false, false, false, false, false, false, false, false, false, false, false, false] rfl rfl (by kernel_rfl) (fun _ _ _ h => h) (Or.inl ⟨by rfl, ?_⟩) ?_ ?_
      rotate_left
      · intro w'
        go_simp
        with_reducible rfl
      rotate_left
      · simp only [Act.put, List.setIfInBounds_toArray, List.set_cons_zero, List.set_cons_succ, i64_w, i32_w]
        rfl
      refine take_ (i := 13) (N := (some 25)) (v := ?_) (a' := ?_) #[true, true, true, true, true, true, false, false, true, true, true, false, true, true, false, false, false, false, false, false, false, false, false, false, false, false, false, false, false, false, false] rfl rfl (by kernel_rfl) (fun _ _ _ h => h) (Or.inl ⟨by rfl, ?_⟩) hHeld ?_ ?_
      rotate_left
      · intro w' sb_
        have s0_ : w'.cell? ⟨gb, 1, none⟩ = some (.int .i64 x.f1) := (blk_cell sb_.1 1).trans rfl
        clear sb_
        go_simp
        with_reducible rfl
      rotate_left
      · simp only [Act.put, List.setIfInBounds_toArray, List.set_cons_zero, List.set_cons_succ, i64_w, i32_w]
        rfl
      refine pure_ (i := 15) (N := (some 27)) (v := ?_) (a' := ?_) #[true, true, true, true, true, true, false, false, true, true, true, false, true, true, false, true, false, false, false, false, false, false, false, false, false, false, false, false, false, false, false] rfl rfl (by kernel_rfl) (fun _ _ _ h => h) (Or.inl ⟨by rfl, ?_⟩) ?_ ?_
      rotate_left
      · intro w'
        go_simp
        with_reducible rfl
      rotate_left
      · simp only [Act.put, List.setIfInBounds_toArray, List.set_cons_zero, List.set_cons_succ, i64_w, i32_w]
        rfl
      refine pure_ (i := 16) (N := (some 28)) (v := ?_) (a' := ?_) #[true, true, true, true, true, true, false, false, true, true, true, false, true, true, false, true, true, false, false, false, false, false, false, false, false, false, false, false, false, false, false] rfl rfl (by kernel_rfl) (fun _ _ _ h => h) (Or.inl ⟨by rfl, ?_⟩) ?_ ?_
      rotate_left
      · intro w'
        go_simp
        with_reducible rfl
      rotate_left
      · simp only [Act.put, List.setIfInBounds_toArray, List.set_cons_zero, List.set_cons_succ, i64_w, i32_w]
        rfl
      refine pure_ (i := 17) (N := (some 29)) (v := ?_) (a' := ?_) #[true, true, true, true, true, true, false, false, true, true, true, false, true, true, false, true, true, true, false, false, false, false, false, false, false, false, false, false, false, false, false] rfl rfl (by kernel_rfl) (fun _ _ _ h => h) (Or.inl ⟨by rfl, ?_⟩) ?_ ?_
      rotate_left
      · intro w'
        go_simp
        with_reducible rfl
      rotate_left
      · simp only [Act.put, List.setIfInBounds_toArray, List.set_cons_zero, List.set_cons_succ, i64_w, i32_w]
        rfl
      refine take_ (i := 18) (N := (some 30)) (v := ?_) (a' := ?_) #[true, true, true, true, true, true, false, false, true, true, true, false, true, true, false, true, true, true, true, false, false, false, false, false, false, false, false, false, false, false, false] rfl rfl (by kernel_rfl) (fun _ _ _ h => h) (Or.inl ⟨by rfl, ?_⟩) hHeld ?_ ?_
      rotate_left
      · intro w' sb_
        obtain ⟨_, ⟨c_, v_, sg_⟩⟩ := sb_
        have s0_ : w'.cell? ⟨g, 2, none⟩ = some (.int .i64 q) := (blk_cell sg_ 2).trans rfl
        clear sg_
        go_simp
        with_reducible rfl
      rotate_left
      · simp only [Act.put, List.setIfInBounds_toArray, List.set_cons_zero, List.set_cons_succ, i64_w, i32_w]
        rfl
      refine pure_ (i := 19) (N := (some 31)) (v := ?_) (a' := ?_) #[true, true, true, true, true, true, false, false, true, true, true, false, true, true, false, true, true, true, true, true, false, false, false, false, false, false, false, false, false, false, false] rfl rfl (by kernel_rfl) (fun _ _ _ h => h) (Or.inl ⟨by rfl, ?_⟩) ?_ ?_
      rotate_left
      · intro w'
        go_simp
        with_reducible rfl
      rotate_left
      · simp only [Act.put, List.setIfInBounds_toArray, List.set_cons_zero, List.set_cons_succ, i64_w, i32_w]
        rfl
      refine take_ (i := 20) (N := (some 32)) (v := ?_) (a' := ?_) #[true, true, true, true, true, true, false, false, true, true, true, false, true, true, false, true, true, true, true, true, true, false, false, false, false, false, false, false, false, false, false] rfl rfl (by kernel_rfl) (fun _ _ _ h => h) (Or.inl ⟨by rfl, ?_⟩) hHeld ?_ ?_
      rotate_left
      · intro w' sb_
        have s0_ : w'.cell? ⟨gb, 2, none⟩ = some (.int .i64 x.f2) := (blk_cell sb_.1 2).trans rfl
        clear sb_
        go_simp
        with_reducible rfl
      rotate_left
      · simp only [Act.put, List.setIfInBounds_toArray, List.set_cons_zero, List.set_cons_succ, i64_w, i32_w]
        rfl
      refine pure_ (i := 21) (N := (some 33)) (v := ?_) (a' := ?_) #[true, true, true, true, true, true, false, false, true, true, true, false, true, true, false, true, true, true, true, true, true, true, false, false, false, false, false, false, false, false, false] rfl rfl (by kernel_rfl) (fun _ _ _ h => h) (Or.inl ⟨by rfl, ?_⟩) ?_ ?_
      rotate_left
      · intro w'
        go_simp
        with_reducible rfl
      rotate_left
      · simp only [Act.put, List.setIfInBounds_toArray, List.set_cons_zero, List.set_cons_succ, i64_w, i32_w]
        rfl
      have b0 : Aside0 (W.drew.heap[g]? = some (.cells #[.int .i64 c, .int .i64 v, .int .i64 q, .int .i64 m, .int .i64 d] 73 (0, 0))) := ⟨blk_drew bkg.out⟩
      have S0 : Aside0 (Below g W W.drew ∧ KeepBut W W.drew g none) := ⟨below_drew (Below.refl _ _), keep_drew (KeepBut.refl _ _ _)⟩
      have T0 : Aside0 (W.drew.heap[gb]? = some (.cells #[.int .i64 x.f0, .int .i64 x.f1, .int .i64 x.f2] 33 (0, 0))) := ⟨blk_drew hbk.out⟩
      generalize W.drew = w0_ at b0 S0 T0 hHeld ⊢
      refine join_ (σ := Unit) 9 #[true, true, true, true, true, true, true, true, true, true, true, true, true, true, true, true, true, true, true, true, true, true, false, false, false, false, false, false, false, false, false] (fun _ => [(18, .int .i64 c), (19, .int .i64 (wrap64 (c + 1))), (23, .int .i64 v), (26, .int .i64 (wrap64 (v + x.f1)))]) (fun _ w' => w' = w0_) ?_ ?_
      rotate_left
      · intro hCont
        refine two_ (i := 6) (j := 11) (Ni := (some 18)) (Nj := (some 23)) #[true, true, true, true, true, true, true, false, true, true, true, false, true, true, false, true, true, true, true, true, true, true, false, false, false, false, false, false, false, false, false] #[true, true, true, true, true, true, false, false, true, true, true, true, true, true, false, true, true, true, true, true, true, true, false, false, false, false, false, false, false, false, false] rfl rfl rfl rfl (by kernel_rfl) (by decide) (by decide) (fun K hK => ?_) (fun K hK => ?_)
        · skip
          have hc_ : w0_.cell? ⟨g, 0, none⟩ = some (.int .i64 c) := (blk_cell b0.out 0).trans rfl
          refine value_ (w1 := w0_) (v := .int .i64 c) (by rfl) rfl (by go_simp; try rfl) ?_
          clear hc_
          refine hK.out _ _ ⟨T0.out, ⟨c, v, b0.out⟩⟩ (fun hHeld => ?_)
          clear hK K
          refine norm_ (a' := ?_) ?_ ?_
          rotate_left
          · show Act.put _ (some 18) _ = _
            simp only [Act.put, List.setIfInBounds_toArray, List.set_cons_zero, List.set_cons_succ, i64_w, i32_w]
            rfl
          refine pure_ (i := 7) (N := (some 19)) (v := ?_) (a' := ?_) #[true, true, true, true, true, true, true, true, true, true, true, false, true, true, false, true, true, true, true, true, true, true, false, false, false, false, false, false, false, false, false] rfl rfl (by kernel_rfl) (fun _ _ _ h => h) (Or.inl ⟨by rfl, ?_⟩) ?_ ?_
          rotate_left
          · intro w'
            go_simp
            with_reducible rfl
          rotate_left
          · simp only [Act.put, List.setIfInBounds_toArray, List.set_cons_zero, List.set_cons_succ, i64_w, i32_w]
            rfl
          refine one_ (i := 11) (N := (some 23)) #[true, true, true, true, true, true, true, true, true, true, true, true, true, true, false, true, true, true, true, true, true, true, false, false, false, false, false, false, false, false, false] rfl rfl (by kernel_rfl) (by decide) (fun K hK => ?_)
          have hc_ : w0_.cell? ⟨g, 1, none⟩ = some (.int .i64 v) := (blk_cell b0.out 1).trans rfl
          refine value_ (w1 := w0_) (v := .int .i64 v) (by rfl) rfl (by go_simp; try rfl) ?_
          clear hc_
          refine hK.out _ _ ⟨T0.out, ⟨c, v, b0.out⟩⟩ (fun hHeld => ?_)
          clear hK K
          refine norm_ (a' := ?_) ?_ ?_
          rotate_left
          · show Act.put _ (some 23) _ = _
            simp only [Act.put, List.setIfInBounds_toArray, List.set_cons_zero, List.set_cons_succ, i64_w, i32_w]
            rfl
          refine pure_ (i := 14) (N := (some 26)) (v := ?_) (a' := ?_) #[true, true, true, true, true, true, true, true, true, true, true, true, true, true, true, true, true, true, true, true, true, true, false, false, false, false, false, false, false, false, false] rfl rfl (by kernel_rfl) (fun _ _ _ h => h) (Or.inl ⟨by rfl, ?_⟩) ?_ ?_
          rotate_left
          · intro w'
            go_simp
            with_reducible rfl
          rotate_left
          · simp only [Act.put, List.setIfInBounds_toArray, List.set_cons_zero, List.set_cons_succ, i64_w, i32_w]
            rfl
          exact norm_ (by simp only [putAll, Act.put, List.setIfInBounds_toArray, List.set_cons_zero, List.set_cons_succ]) (hCont () _ rfl)
        · skip
          have hc_ : w0_.cell? ⟨g, 1, none⟩ = some (.int .i64 v) := (blk_cell b0.out 1).trans rfl
          refine value_ (w1 := w0_) (v := .int .i64 v) (by rfl) rfl (by go_simp; try rfl) ?_
          clear hc_
          refine hK.out _ _ ⟨T0.out, ⟨c, v, b0.out⟩⟩ (fun hHeld => ?_)
          clear hK K
          refine norm_ (a' := ?_) ?_ ?_
          rotate_left
          · show Act.put _ (some 23) _ = _
            simp only [Act.put, List.setIfInBounds_toArray, List.set_cons_zero, List.set_cons_succ, i64_w, i32_w]
            rfl
          refine pure_ (i := 14) (N := (some 26)) (v := ?_) (a' := ?_) #[true, true, true, true, true, true, false, false, true, true, true, true, true, true, true, true, true, true, true, true, true, true, false, false, false, false, false, false, false, false, false] rfl rfl (by kernel_rfl) (fun _ _ _ h => h) (Or.inl ⟨by rfl, ?_⟩) ?_ ?_
          rotate_left
          · intro w'
            go_simp
            with_reducible rfl
          rotate_left
          · simp only [Act.put, List.setIfInBounds_toArray, List.set_cons_zero, List.set_cons_succ, i64_w, i32_w]
            rfl
          refine one_ (i := 6) (N := (some 18)) #[true, true, true, true, true, true, true, false, true, true, true, true, true, true, true, true, true, true, true, true, true, true, false, false, false, false, false, false, false, false, false] rfl rfl (by kernel_rfl) (by decide) (fun K hK => ?_)
          have hc_ : w0_.cell? ⟨g, 0, none⟩ = some (.int .i64 c) := (blk_cell b0.out 0).trans rfl
          refine value_ (w1 := w0_) (v := .int .i64 c) (by rfl) rfl (by go_simp; try rfl) ?_
          clear hc_
          refine hK.out _ _ ⟨T0.out, ⟨c, v, b0.out⟩⟩ (fun hHeld => ?_)
          clear hK K
          refine norm_ (a' := ?_) ?_ ?_
          rotate_left
          · show Act.put _ (some 18) _ = _
            simp only [Act.put, List.setIfInBounds_toArray, List.set_cons_zero, List.set_cons_succ, i64_w, i32_w]
            rfl
          refine pure_ (i := 7) (N := (some 19)) (v := ?_) (a' := ?_) #[true, true, true, true, true, true, true, true, true, true, true, true, true, true, true, true, true, true, true, true, true, true, false, false, false, false, false, false, false, false, false] rfl rfl (by kernel_rfl) (fun _ _ _ h => h) (Or.inl ⟨by rfl, ?_⟩) ?_ ?_
          rotate_left
          · intro w'
            go_simp
            with_reducible rfl
          rotate_left
          · simp only [Act.put, List.setIfInBounds_toArray, List.set_cons_zero, List.set_cons_succ, i64_w, i32_w]
            rfl
          exact norm_ (by simp only [putAll, Act.put, List.setIfInBounds_toArray, List.set_cons_zero, List.set_cons_succ]) (hCont () _ rfl)
      rintro ⟨⟩ w1_ rfl
      refine norm_ (a' := ?_) ?_ ?_
      rotate_left
      · simp only [putAll, Act.put, List.setIfInBounds_toArray, List.set_cons_zero, List.set_cons_succ]
        rfl
      clear hHeld
      refine pure_ (i := 22) (N := (some 34)) (v := ?_) (a' := ?_) #[true, true, true, true, true, true, true, true, true, true, true, true, true, true, true, true, true, true, true, true, true, true, true, false, false, false, false, false, false, false, false] rfl rfl (by kernel_rfl) (fun _ _ _ h => h) (Or.inl ⟨by rfl, ?_⟩) ?_ ?_
      rotate_left
      · intro w'
        go_simp
        with_reducible rfl
      rotate_left
      · simp only [Act.put, List.setIfInBounds_toArray, List.set_cons_zero, List.set_cons_succ, i64_w, i32_w]
        rfl
      refine pure_ (i := 23) (N := (some 35)) (v := ?_) (a' := ?_) #[true, true, true, true, true, true, true, true, true, true, true, true, true, true, true, true, true, true, true, true, true, true, true, true, false, false, false, false, false, false, false] rfl rfl (by kernel_rfl) (fun _ _ _ h => h) (Or.inl ⟨by rfl, ?_⟩) ?_ ?_
      rotate_left
      · intro w'
        go_simp
        with_reducible rfl
      rotate_left
      · simp only [Act.put, List.setIfInBounds_toArray, List.set_cons_zero, List.set_cons_succ, i64_w, i32_w]
        rfl
      refine one_ (i := 24) (N := none) #[true, true, true, true, true, true, true, true, true, true, true, true, true, true, true, true, true, true, true, true, true, true, true, true, true, false, false, false, false, false, false] rfl rfl (by kernel_rfl) (by decide) (fun K hK => ?_)
      have hc_ : w1_.cell? ⟨g, 0, none⟩ = some (.int .i64 c) := (blk_cell b0.out 0).trans rfl
      have hf_ : w1_.frozen? ⟨g, 0, none⟩ = false := blk_frozen b0.out 0
      refine skip_ (w1 := (w1_.setCell ⟨g, 0, none⟩ (.int .i64 (wrap64 (c + 1))))) (by rfl) rfl (by go_simp; try rfl) ?_
      clear hc_ hf_
      have b1 : Aside0 ((w1_.setCell ⟨g, 0, none⟩ (.int .i64 (wrap64 (c + 1)))).heap[g]? = some (.cells #[.int .i64 (wrap64 (c + 1)), .int .i64 v, .int .i64 q, .int .i64 m, .int .i64 d] 73 (0, 0))) := ⟨blk_put (cs := #[.int .i64 c, .int .i64 v, .int .i64 q, .int .i64 m, .int .i64 d]) b0.out 0 _ rfl⟩
      have S1 : Aside0 (Below g W (w1_.setCell ⟨g, 0, none⟩ (.int .i64 (wrap64 (c + 1)))) ∧ KeepBut W (w1_.setCell ⟨g, 0, none⟩ (.int .i64 (wrap64 (c + 1)))) g none) := ⟨Below.setCell S0.out.1 (Nat.le_refl _) _, KeepBut.set_ S0.out.2 0 _⟩
      have T1 : Aside0 ((w1_.setCell ⟨g, 0, none⟩ (.int .i64 (wrap64 (c + 1)))).heap[gb]? = some (.cells #[.int .i64 x.f0, .int .i64 x.f1, .int .i64 x.f2] 33 (0, 0))) := ⟨blk_far T0.out (fun e_ => ng.out e_.symm) _⟩
      refine hK.out _ _ ⟨T1.out, ⟨_, _, b1.out⟩⟩ (fun hHeld => ?_)
      clear hK K
      generalize (w1_.setCell ⟨g, 0, none⟩ (.int .i64 (wrap64 (c + 1)))) = u1_ at b1 S1 T1 hHeld ⊢
      clear b0 S0 T0 
      refine pure_ (i := 25) (N := (some 36)) (v := ?_) (a' := ?_) #[true, true, true, true, true, true, true, true, true, true, true, true, true, true, true, true, true, true, true, true, true, true, true, true, true, true, false, false, false, false, false] rfl rfl (by kernel_rfl) (fun _ _ _ h => h) (Or.inl ⟨by rfl, ?_⟩) ?_ ?_
      rotate_left
      · intro w'
        go_simp
        with_reducible rfl
      rotate_left
      · simp only [Act.put, List.setIfInBounds_toArray, List.set_cons_zero, List.set_cons_succ, i64_w, i32_w]
        rfl
      refine pure_ (i := 26) (N := (some 37)) (v := ?_) (a' := ?_) #[true, true, true, true, true, true, true, true, true, true, true, true, true, true, true, true, true, true, true, true, true, true, true, true, true, true, true, false, false, false, false] rfl rfl (by kernel_rfl) (fun _ _ _ h => h) (Or.inl ⟨by rfl, ?_⟩) ?_ ?_
      rotate_left
      · intro w'
        go_simp
        with_reducible rfl
      rotate_left
      · simp only [Act.put, List.setIfInBounds_toArray, List.set_cons_zero, List.set_cons_succ, i64_w, i32_w]
        rfl
      clear hHeld
      refine one_ (i := 27) (N := none) #[true, true, true, true, true, true, true, true, true, true, true, true, true, true, true, true, true, true, true, true, true, true, true, true, true, true, true, true, false, false, false] rfl rfl (by kernel_rfl) (by decide) (fun K hK => ?_)
      have hc_ : u1_.cell? ⟨g, 1, none⟩ = some (.int .i64 v) := (blk_cell b1.out 1).trans rfl
      have hf_ : u1_.frozen? ⟨g, 1, none⟩ = false := blk_frozen b1.out 1
      refine skip_ (w1 := (u1_.setCell ⟨g, 1, none⟩ (.int .i64 (wrap64 (v + x.f1))))) (by rfl) rfl (by go_simp; try rfl) ?_
      clear hc_ hf_
      have b2 : Aside0 ((u1_.setCell ⟨g, 1, none⟩ (.int .i64 (wrap64 (v + x.f1)))).heap[g]? = some (.cells #[.int .i64 (wrap64 (c + 1)), .int .i64 (wrap64 (v + x.f1)), .int .i64 q, .int .i64 m, .int .i64 d] 73 (0, 0))) := ⟨blk_put (cs := #[.int .i64 (wrap64 (c + 1)), .int .i64 v, .int .i64 q, .int .i64 m, .int .i64 d]) b1.out 1 _ rfl⟩
      have S2 : Aside0 (Below g W (u1_.setCell ⟨g, 1, none⟩ (.int .i64 (wrap64 (v + x.f1)))) ∧ KeepBut W (u1_.setCell ⟨g, 1, none⟩ (.int .i64 (wrap64 (v + x.f1)))) g none) := ⟨Below.setCell S1.out.1 (Nat.le_refl _) _, KeepBut.set_ S1.out.2 1 _⟩
      have T2 : Aside0 ((u1_.setCell ⟨g, 1, none⟩ (.int .i64 (wrap64 (v + x.f1)))).heap[gb]? = some (.cells #[.int .i64 x.f0, .int .i64 x.f1, .int .i64 x.f2] 33 (0, 0))) := ⟨blk_far T1.out (fun e_ => ng.out e_.symm) _⟩
      refine hK.out _ _ ⟨T2.out, ⟨_, _, b2.out⟩⟩ (fun hHeld => ?_)
      clear hK K
      generalize (u1_.setCell ⟨g, 1, none⟩ (.int .i64 (wrap64 (v + x.f1)))) = u2_ at b2 S2 T2 hHeld ⊢
      clear b1 S1 T1 u1_
      refine pure_ (i := 28) (N := (some 38)) (v := ?_) (a' := ?_) #[true, true, true, true, true, true, true, true, true, true, true, true, true, true, true, true, true, true, true, true, true, true, true, true, true, true, true, true, true, false, false] rfl rfl (by kernel_rfl) (fun _ _ _ h => h) (Or.inl ⟨by rfl, ?_⟩) ?_ ?_
      rotate_left
      · intro w'
        go_simp
        with_reducible rfl
      rotate_left
      · simp only [Act.put, List.setIfInBounds_toArray, List.set_cons_zero, List.set_cons_succ, i64_w, i32_w]
        rfl
      refine pure_ (i := 29) (N := (some 39)) (v := ?_) (a' := ?_) #[true, true, true, true, true, true, true, true, true, true, true, true, true, true, true, true, true, true, true, true, true, true, true, true, true, true, true, true, true, true, false] rfl rfl (by kernel_rfl) (fun _ _ _ h => h) (Or.inl ⟨by rfl, ?_⟩) ?_ ?_
      rotate_left
      · intro w'
        go_simp
        with_reducible rfl
      rotate_left
      · simp only [Act.put, List.setIfInBounds_toArray, List.set_cons_zero, List.set_cons_succ, i64_w, i32_w]
        rfl
      clear hHeld
      refine last_ (i := 30) (N := none) #[true, true, true, true, true, true, true, true, true, true, true, true, true, true, true, true, true, true, true, true, true, true, true, true, true, true, true, true, true, true, true] rfl rfl (by kernel_rfl) (by decide) (fun K hK => ?_)
      have hc_ : u2_.cell? ⟨g, 2, none⟩ = some (.int .i64 q) := (blk_cell b2.out 2).trans rfl
      have hf_ : u2_.frozen? ⟨g, 2, none⟩ = false := blk_frozen b2.out 2
      refine skip_ (w1 := (u2_.setCell ⟨g, 2, none⟩ (.int .i64 (wrap64 (q + x.f2))))) (by rfl) rfl (by go_simp; try rfl) ?_
      clear hc_ hf_
      have b3 : Aside0 ((u2_.setCell ⟨g, 2, none⟩ (.int .i64 (wrap64 (q + x.f2)))).heap[g]? = some (.cells #[.int .i64 (wrap64 (c + 1)), .int .i64 (wrap64 (v + x.f1)), .int .i64 (wrap64 (q + x.f2)), .int .i64 m, .int .i64 d] 73 (0, 0))) := ⟨blk_put (cs := #[.int .i64 (wrap64 (c + 1)), .int .i64 (wrap64 (v + x.f1)), .int .i64 q, .int .i64 m, .int .i64 d]) b2.out 2 _ rfl⟩
      have S3 : Aside0 (Below g W (u2_.setCell ⟨g, 2, none⟩ (.int .i64 (wrap64 (q + x.f2)))) ∧ KeepBut W (u2_.setCell ⟨g, 2, none⟩ (.int .i64 (wrap64 (q + x.f2)))) g none) := ⟨Below.setCell S2.out.1 (Nat.le_refl _) _, KeepBut.set_ S2.out.2 2 _⟩
      have T3 : Aside0 ((u2_.setCell ⟨g, 2, none⟩ (.int .i64 (wrap64 (q + x.f2)))).heap[gb]? = some (.cells #[.int .i64 x.f0, .int .i64 x.f1, .int .i64 x.f2] 33 (0, 0))) := ⟨blk_far T2.out (fun e_ => ng.out e_.symm) _⟩
      refine hK.out _ _ ?_
      clear hK K
      generalize (u2_.setCell ⟨g, 2, none⟩ (.int .i64 (wrap64 (q + x.f2)))) = u3_ at b3 S3 T3 ⊢
      clear b2 S2 T2 u2_
      refine done_ (by kernel_rfl) ?_
      go_wp2
      go_roundg (l.length - (i + 1))
      case measure => omega
      case rel =>
        refine ⟨i + 1, by go_num, by omega, by omega, ⟨by rw [HP.out]; exact b3.out⟩, ⟨?_⟩, ⟨?_⟩⟩
        · exact (HB.out.trans (HB1.out.mono (Nat.le_of_lt hgl.out))).trans S3.out.1
        · exact KeepBut.trans (KeepBut.trans HK.out (KeepBut.of_below HB1.out g none) (.inl rfl)) S3.out.2 (.inl rfl)
    · have hltz : ¬ (i : Int) < (l.length : Int) := by omega
      obtain rfl : i = l.length := by omega
      go_wp2
      go_end0
      have := bkg.out
      rw [List.take_length] at this
      exact ⟨rfl, this, HB.out, HK.out⟩
attribute [local go_sem] Oper.semAt_some
def rcF (x a : S33) : Int := (spec_RatioCmp.f 7000 x.f0 x.f1 x.f2 a.f0 a.f1 a.f2).getD 0
def rcO (l : List S33) (a : S33) : Bool := l.all fun x => (spec_RatioCmp.f 7000 x.f0 x.f1 x.f2 a.f0 a.f1 a.f2).isSome
theorem rcO_ok {l : List S33} {a : S33} (h : rcO l a = true) : ∀ x ∈ l, spec_RatioCmp.f 7000 x.f0 x.f1 x.f2 a.f0 a.f1 a.f2 = some (rcF x a) := fun x hx => by
  obtain ⟨r, hr⟩ := Option.isSome_iff_exists.1 (List.all_eq_true.1 h x hx)
  unfold rcF
  rw [hr]; rfl
def sumS (a : S33) (s : SumT) (x : S33) : SumT := if rcF x a < 0 then s.put x else s
theorem sumS_yes {a x : S33} {s : SumT} (h : rcF x a < 0) : sumS a s x = ⟨wrap64 (s.c + 1), wrap64 (s.v + x.f1), wrap64 (s.q + x.f2)⟩ := by unfold sumS; rw [if_pos h]; rfl
theorem sumS_no {a x : S33} {s : SumT} (h : ¬ rcF x a < 0) : sumS a s x = s := by unfold sumS; rw [if_neg h]
theorem take_sum (a : S33) (l : List S33) (s : SumT) {i : Nat} (h : i < l.length) : (l.take (i + 1)).foldl (sumS a) s = sumS a ((l.take i).foldl (sumS a) s) l[i] := by
  rw [List.take_succ_eq_append_getElem h, List.foldl_append]; rfl
theorem rd33_at (l : List S33) (i : Nat) (h : i < l.length) : rd_T33 l (i : Int) = l[i] := by simp [rd_T33, List.getD_eq_getElem?_getD, h]
def cmpS (a : S33) : Tr → Int → Int
  | .nil, n => n
  | .node x l r, n => if rcF x a < 0 then cmpS a r (wrap64 (n + 1)) else cmpS a l (wrap64 (n + 1))
/-- What stays as it is while the reference's TreeBelow sums and goes down. -/
structure BInv (w W : World) (g3 g4 g6 gw : Nat) (a : S33) (ns : List S130) (top : Int) (v : Value) (l : List S33) : Prop where
  b3 : W.heap[g3]? = some (.cells #[.int .i64 a.f0, .int .i64 a.f1, .int .i64 a.f2] 33 (0, 0))
  b4 : W.heap[g4]? = some (.cells #[.int .i64 0, .int .i64 0, .int .i64 0, .int .i64 0, .int .i64 0] 73 (0, 0))
  wood : IsS119 w W gw ns top
  row : Kd.R k33 33 W w.heap.size (fun _ => True) v l
  bel : Below w.heap.size w W
  ne : g4 ≠ g6
  ge : w.heap.size ≤ g6
theorem BInv.below {w W W' : World} {g3 g4 g6 gw : Nat} {a : S33} {ns : List S130} {top : Int} {v : Value} {l : List S33} (h : BInv w W g3 g4 g6 gw a ns top v l) (hb : Below W.heap.size W W') : BInv w W' g3 g4 g6 gw a ns top v l :=
  ⟨blk_below h.b3 hb, blk_below h.b4 hb, h.wood.below hb, Kd.R_below h.row hb, below_step h.bel hb, h.ne, h.ge⟩
theorem BInv.newrow {w W W' : World} {g3 g4 g6 gw : Nat} {a : S33} {ns : List S130} {top : Int} {v v' : Value} {l l' : List S33} (h : BInv w W g3 g4 g6 gw a ns top v l) (hb : Below W.heap.size W W') (hr : Kd.R k33 33 W' w.heap.size (fun _ => True) v' l') : BInv w W' g3 g4 g6 gw a ns top v' l' :=
  ⟨blk_below h.b3 hb, blk_below h.b4 hb, h.wood.below hb, hr, below_step h.bel hb, h.ne, h.ge⟩
theorem BInv.set6 {w W : World} {g3 g4 g6 gw : Nat} {a : S33} {ns : List S130} {top : Int} {v : Value} {l : List S33} {cs : Array Value} {j : Nat} {u : Value} (h : BInv w W g3 g4 g6 gw a ns top v l) (b6 : W.heap[g6]? = some (.cells cs 73 (0, 0))) : BInv w (W.setCell ⟨g6, j, none⟩ u) g3 g4 g6 gw a ns top v l := by
  obtain ⟨A0, c0, bk, ge, hR⟩ := h.wood
  refine ⟨blk_far h.b3 (blk_ne h.b3 b6 (by decide)) _, blk_far h.b4 h.ne _, ⟨A0, c0, blk_far bk (blk_ne bk b6 (by decide)) _, ge, ?_⟩, ?_, below_set h.bel h.ge, h.ne, h.ge⟩
  · exact Kd.R_mono (Kd.R_far (p := ⟨g6, j, none⟩) (Kd.R_types hR b6 (by decide)) (fun _ hk => hk.2) u) (fun _ _ => trivial)
  · exact Kd.R_mono (Kd.R_far (p := ⟨g6, j, none⟩) (Kd.R_types h.row b6 (by decide)) (fun _ hk => hk.2) u) (fun _ _ => trivial)
theorem BInv.topc {w W : World} {g3 g4 g6 gw : Nat} {a : S33} {ns : List S130} {top : Int} {v : Value} {l : List S33} (h : BInv w W g3 g4 g6 gw a ns top v l) : W.cell? ⟨gw, 1, none⟩ = some (.int .i64 top) := by
  obtain ⟨A0, c0, bk, _⟩ := h.wood
  exact (blk_cell bk 1).trans rfl
def spec_TreeBelow.f (l0_0 : List S156) (a1_0 a1_1 a1_2 : Int) : Option (Int × Int × Int × Int × Int) :=
  (spec_TreeRight.f 7000 l0_0).bind fun b => if b = true then (spec_ItemRight.f a1_0 a1_1 a1_2).bind fun b => if b = true then (spec_l04Read.f l0_0).bind fun p => (unlay 1001 p.1 p.2).bind fun t => (if rcO t.items ⟨a1_0, a1_1, a1_2⟩ = true ∧ t.sz ≤ 1000 then
    some ((t.items.foldl (sumS ⟨a1_0, a1_1, a1_2⟩) ⟨0, 0, 0⟩).c, (t.items.foldl (sumS ⟨a1_0, a1_1, a1_2⟩) ⟨0, 0, 0⟩).v, (t.items.foldl (sumS ⟨a1_0, a1_1, a1_2⟩) ⟨0, 0, 0⟩).q, cmpS ⟨a1_0, a1_1, a1_2⟩ t 0, 0) else none) else some (0, 0, 0, 0, 1) else some (0, 0, 0, 0, 1)
theorem IRB {w w' : World} (h : Below w.heap.size w w') : Below w.heap.size w w' := h
set_option maxHeartbeats 4000000 in
set_option maxRecDepth 100000 in
theorem spec_TreeBelow.calls (A0_0 : Option Addr) (c0_0 : Nat) (l0_0 : List S156) (a1_0 a1_1 a1_2 : Int) (r1 r2 r3 r4 r5 : Int) (w : World) (hr0_0 : Kd.C k156 w A0_0 l0_0.length l0_0) (hc0_0 : l0_0.length ≤ c0_0) (h : spec_TreeBelow.f l0_0 a1_0 a1_1 a1_2 = some (r1, r2, r3, r4, r5)) :
    Calls Try.prog 45 #[.agg #[.slice A0_0 l0_0.length c0_0], .agg #[.int .i64 a1_0, .int .i64 a1_1, .int .i64 a1_2]] w fun e w' => e = .returned (.agg #[.int .i64 r1, .int .i64 r2, .int .i64 r3, .int .i64 r4, .int .i64 r5]) ∧ Below w.heap.size w w' := by
  have hu64 := Try.underlying64
  have hu33 := Try.underlying33
  have hu73 := Try.underlying73
  unfold spec_TreeBelow.f at h
  obtain ⟨b, ht, h2⟩ := Option.bind_eq_some_iff.1 h
  have HR := Aside0.mk hr0_0
  have HC := Aside0.mk hc0_0
  have HT := Aside0.mk ht
  clear h ht hr0_0 hc0_0
  cases b with
  | false =>
    rw [if_neg (by simp)] at h2
    simp only [Option.some.injEq, Prod.mk.injEq] at h2
    obtain ⟨rfl, rfl, rfl, rfl, rfl⟩ := h2
    go_enter Try.func45, Try.ntmps45
    go_wp2_with (first
      | ((with_reducible refine gate_dst (N := 2) rfl ?_); refine box_event ?hg (N := 2) ?hd (cs := #[.slice A0_0 l0_0.length c0_0]) (t := 64) ?hr ?_; (case hd => rfl); (case hg => rfl); (case hr => first | (go_simp; done) | (go_simp; rfl)); intro g2 hg2 w1 hbox hb_; have B2 := Aside0.mk hbox; have HB1 : Aside0 (Below w.heap.size w w1) := ⟨hb_⟩; have c2_0 := blk_cell hbox 0; simp only [List.getElem?_toArray, List.getElem?_cons_zero, List.getElem?_cons_succ] at c2_0; clear hbox hb_ hg2)
      | ((with_reducible refine gate_dst (N := 3) rfl ?_); refine box_event ?hg (N := 3) ?hd (cs := #[.int .i64 a1_0, .int .i64 a1_1, .int .i64 a1_2]) (t := 33) ?hr ?_; (case hd => rfl); (case hg => rfl); (case hr => first | (go_simp; done) | (go_simp; rfl)); intro g3 hg3 w2 hbox hb_; have B2b := Aside0.mk (blk_below B2.out hb_); have B3 := Aside0.mk hbox; have HB2 : Aside0 (Below w.heap.size w w2) := ⟨below_step HB1.out hb_⟩; have c2_0 := blk_cell B2b.out 0; simp only [List.getElem?_toArray, List.getElem?_cons_zero] at c2_0; clear hbox hb_ hg3)
      | ((with_reducible refine gate_dst (N := 4) rfl ?_); refine box_event ?hg (N := 4) ?hd (cs := #[.int .i64 0, .int .i64 0, .int .i64 0, .int .i64 0, .int .i64 0]) (t := 73) ?hr ?_; (case hd => rfl); (case hg => rfl); (case hr => first | (go_simp; done) | (go_simp; rfl)); intro g4 hg4 w3 hbox hb_; have B2c := Aside0.mk (blk_below B2b.out hb_); have B3c := Aside0.mk (blk_below B3.out hb_); have B4 := Aside0.mk hbox; have HB3 : Aside0 (Below w.heap.size w w3) := ⟨below_step HB2.out hb_⟩; have c2_0 := blk_cell B2c.out 0; simp only [List.getElem?_toArray, List.getElem?_cons_zero] at c2_0; have G4 : Aside0 (w.heap.size ≤ g4) := ⟨by rw [hg4]; exact HB2.out.size⟩; clear hbox hb_ hg4)
      | (go_at_call 36; with_reducible refine (spec_TreeRight.calls 7000 _ _ l0_0 false _ ?side0 HC.out HT.out).mono ?_; (case side0 => exact Kd.C_below HR.out HB3.out); rintro e w4 ⟨rfl, hb_⟩; have B2d := Aside0.mk (blk_below B2c.out hb_); have B3d := Aside0.mk (blk_below B3c.out hb_); have B4d := Aside0.mk (blk_below B4.out hb_); have HB4 : Aside0 (Below w.heap.size w w4) := ⟨below_step HB3.out hb_⟩; have c3_0 := blk_cell B3d.out 0; have c3_1 := blk_cell B3d.out 1; have c3_2 := blk_cell B3d.out 2; simp only [List.getElem?_toArray, List.getElem?_cons_zero, List.getElem?_cons_succ] at c3_0 c3_1 c3_2; have c4_0 := blk_cell B4d.out 0; have c4_1 := blk_cell B4d.out 1; have c4_2 := blk_cell B4d.out 2; have c4_3 := blk_cell B4d.out 3; have c4_4 := blk_cell B4d.out 4; simp only [List.getElem?_toArray, List.getElem?_cons_zero, List.getElem?_cons_succ] at c4_0 c4_1 c4_2 c4_3 c4_4; have f4_0 := blk_frozen B4d.out 0; have f4_1 := blk_frozen B4d.out 1; have f4_2 := blk_frozen B4d.out 2; have f4_3 := blk_frozen B4d.out 3; have f4_4 := blk_frozen B4d.out 4; have e2_0 := blk_cell B2d.out 0; simp only [List.getElem?_toArray, List.getElem?_cons_zero] at e2_0; clear hb_))
    refine bodyPost_ret (results_cell_row rfl _ _ g4 73 #[.int .i64 0, .int .i64 0, .int .i64 0, .int .i64 0, .int .i64 1] (0, 0) _ rfl (blk_put (blk_put (blk_put (blk_put (blk_put B4d.out 0 _ rfl) 1 _ rfl) 2 _ rfl) 3 _ rfl) 4 _ rfl) Try.underlying73 rfl (by kernel_rfl)) rfl ?_
    exact ⟨rfl, (below_set (below_set (below_set (below_set (below_set HB4.out G4.out) G4.out) G4.out) G4.out) G4.out)⟩
  | true =>
    rw [if_pos rfl] at h2
    obtain ⟨b, hir, h2⟩ := Option.bind_eq_some_iff.1 h2
    have HIR := Aside0.mk hir
    clear hir
    cases b with
    | false =>
      rw [if_neg (by simp)] at h2
      simp only [Option.some.injEq, Prod.mk.injEq] at h2
      obtain ⟨rfl, rfl, rfl, rfl, rfl⟩ := h2
      go_enter Try.func45, Try.ntmps45
      go_wp2_with (first
        | ((with_reducible refine gate_dst (N := 2) rfl ?_); refine box_event ?hg (N := 2) ?hd (cs := #[.slice A0_0 l0_0.length c0_0]) (t := 64) ?hr ?_; (case hd => rfl); (case hg => rfl); (case hr => first | (go_simp; done) | (go_simp; rfl)); intro g2 hg2 w1 hbox hb_; have B2 := Aside0.mk hbox; have HB1 : Aside0 (Below w.heap.size w w1) := ⟨hb_⟩; have c2_0 := blk_cell hbox 0; simp only [List.getElem?_toArray, List.getElem?_cons_zero, List.getElem?_cons_succ] at c2_0; clear hbox hb_ hg2)
        | ((with_reducible refine gate_dst (N := 3) rfl ?_); refine box_event ?hg (N := 3) ?hd (cs := #[.int .i64 a1_0, .int .i64 a1_1, .int .i64 a1_2]) (t := 33) ?hr ?_; (case hd => rfl); (case hg => rfl); (case hr => first | (go_simp; done) | (go_simp; rfl)); intro g3 hg3 w2 hbox hb_; have B2b := Aside0.mk (blk_below B2.out hb_); have B3 := Aside0.mk hbox; have HB2 : Aside0 (Below w.heap.size w w2) := ⟨below_step HB1.out hb_⟩; have c2_0 := blk_cell B2b.out 0; simp only [List.getElem?_toArray, List.getElem?_cons_zero] at c2_0; clear hbox hb_ hg3)
        | ((with_reducible refine gate_dst (N := 4) rfl ?_); refine box_event ?hg (N := 4) ?hd (cs := #[.int .i64 0, .int .i64 0, .int .i64 0, .int .i64 0, .int .i64 0]) (t := 73) ?hr ?_; (case hd => rfl); (case hg => rfl); (case hr => first | (go_simp; done) | (go_simp; rfl)); intro g4 hg4 w3 hbox hb_; have B2c := Aside0.mk (blk_below B2b.out hb_); have B3c := Aside0.mk (blk_below B3.out hb_); have B4 := Aside0.mk hbox; have HB3 : Aside0 (Below w.heap.size w w3) := ⟨below_step HB2.out hb_⟩; have c2_0 := blk_cell B2c.out 0; simp only [List.getElem?_toArray, List.getElem?_cons_zero] at c2_0; have G4 : Aside0 (w.heap.size ≤ g4) := ⟨by rw [hg4]; exact HB2.out.size⟩; clear hbox hb_ hg4)
        | (go_at_call 36; with_reducible refine (spec_TreeRight.calls 7000 _ _ l0_0 true _ ?side0 HC.out HT.out).mono ?_; (case side0 => exact Kd.C_below HR.out HB3.out); rintro e w4 ⟨rfl, hb_⟩; have B2d := Aside0.mk (blk_below B2c.out hb_); have B3d := Aside0.mk (blk_below B3c.out hb_); have B4d := Aside0.mk (blk_below B4.out hb_); have HB4 : Aside0 (Below w.heap.size w w4) := ⟨below_step HB3.out hb_⟩; have c3_0 := blk_cell B3d.out 0; have c3_1 := blk_cell B3d.out 1; have c3_2 := blk_cell B3d.out 2; simp only [List.getElem?_toArray, List.getElem?_cons_zero, List.getElem?_cons_succ] at c3_0 c3_1 c3_2; have c4_0 := blk_cell B4d.out 0; have c4_1 := blk_cell B4d.out 1; have c4_2 := blk_cell B4d.out 2; have c4_3 := blk_cell B4d.out 3; have c4_4 := blk_cell B4d.out 4; simp only [List.getElem?_toArray, List.getElem?_cons_zero, List.getElem?_cons_succ] at c4_0 c4_1 c4_2 c4_3 c4_4; have f4_0 := blk_frozen B4d.out 0; have f4_1 := blk_frozen B4d.out 1; have f4_2 := blk_frozen B4d.out 2; have f4_3 := blk_frozen B4d.out 3; have f4_4 := blk_frozen B4d.out 4; have e2_0 := blk_cell B2d.out 0; simp only [List.getElem?_toArray, List.getElem?_cons_zero] at e2_0; clear hb_)
        | (go_at_call 49; refine (spec_ItemRight.calls a1_0 a1_1 a1_2 false _ HIR.out).mono ?_; rintro e w5 ⟨rfl, hb0_⟩; have hb_ : Below w4.heap.size w4 w5 := IRB hb0_; have B2e := Aside0.mk (blk_below B2d.out hb_); have B3e := Aside0.mk (blk_below B3d.out hb_); have B4e := Aside0.mk (blk_below B4d.out hb_); have HB5 : Aside0 (Below w.heap.size w w5) := ⟨below_step HB4.out hb_⟩; have d4_0 := blk_cell B4e.out 0; have d4_1 := blk_cell B4e.out 1; have d4_2 := blk_cell B4e.out 2; have d4_3 := blk_cell B4e.out 3; have d4_4 := blk_cell B4e.out 4; simp only [List.getElem?_toArray, List.getElem?_cons_zero, List.getElem?_cons_succ] at d4_0 d4_1 d4_2 d4_3 d4_4; have h4_0 := blk_frozen B4e.out 0; have h4_1 := blk_frozen B4e.out 1; have h4_2 := blk_frozen B4e.out 2; have h4_3 := blk_frozen B4e.out 3; have h4_4 := blk_frozen B4e.out 4; have k2_0 := blk_cell B2e.out 0; simp only [List.getElem?_toArray, List.getElem?_cons_zero] at k2_0; clear hb_ hb0_))
      refine bodyPost_ret (results_cell_row rfl _ _ g4 73 #[.int .i64 0, .int .i64 0, .int .i64 0, .int .i64 0, .int .i64 1] (0, 0) _ rfl (blk_put (blk_put (blk_put (blk_put (blk_put B4e.out 0 _ rfl) 1 _ rfl) 2 _ rfl) 3 _ rfl) 4 _ rfl) Try.underlying73 rfl (by kernel_rfl)) rfl ?_
      exact ⟨rfl, (below_set (below_set (below_set (below_set (below_set HB5.out G4.out) G4.out) G4.out) G4.out) G4.out)⟩
    | true =>
      rw [if_pos rfl] at h2
      obtain ⟨⟨ns, top⟩, hrd, h2⟩ := Option.bind_eq_some_iff.1 h2
      obtain ⟨t, hun, h2⟩ := Option.bind_eq_some_iff.1 h2
      by_cases hh : rcO t.items ⟨a1_0, a1_1, a1_2⟩ = true ∧ t.sz ≤ 1000
      · rw [if_pos hh] at h2
        have HRD := Aside0.mk hrd
        have HREP := Aside0.mk (unlay_rep _ _ _ _ hun)
        have HSZ := Aside0.mk hh.2
        have HOT := Aside0.mk (rcO_ok hh.1)
        have HOK := HOT
        obtain ⟨L, hL⟩ : ∃ L, t.items = L := ⟨_, rfl⟩
        rw [hL] at h2 HOK
        have HLq := Aside0.mk hL
        have HLEN := Aside0.mk (show L.length ≤ 1000 by rw [← hL, Tr.items_len]; exact hh.2)
        obtain ⟨S, hS⟩ : ∃ S, L.foldl (sumS ⟨a1_0, a1_1, a1_2⟩) ⟨0, 0, 0⟩ = S := ⟨_, rfl⟩
        rw [hS] at h2
        have HS := Aside0.mk hS
        obtain ⟨M, hM⟩ : ∃ M, cmpS ⟨a1_0, a1_1, a1_2⟩ t 0 = M := ⟨_, rfl⟩
        rw [hM] at h2
        have HM := Aside0.mk hM
        simp only [Option.some.injEq, Prod.mk.injEq] at h2
        obtain ⟨rfl, rfl, rfl, rfl, rfl⟩ := h2
        clear hrd hun hh hL hS hM
        go_enter Try.func45, Try.ntmps45
        go_wp2_with (first
          | ((with_reducible refine gate_dst (N := 2) rfl ?_); refine box_event ?hg (N := 2) ?hd (cs := #[.slice A0_0 l0_0.length c0_0]) (t := 64) ?hr ?_; (case hd => rfl); (case hg => rfl); (case hr => first | (go_simp; done) | (go_simp; rfl)); intro g2 hg2 w1 hbox hb_; have B2 := Aside0.mk hbox; have HB1 : Aside0 (Below w.heap.size w w1) := ⟨hb_⟩; have c2_0 := blk_cell hbox 0; simp only [List.getElem?_toArray, List.getElem?_cons_zero, List.getElem?_cons_succ] at c2_0; clear hbox hb_ hg2)
          | ((with_reducible refine gate_dst (N := 3) rfl ?_); refine box_event ?hg (N := 3) ?hd (cs := #[.int .i64 a1_0, .int .i64 a1_1, .int .i64 a1_2]) (t := 33) ?hr ?_; (case hd => rfl); (case hg => rfl); (case hr => first | (go_simp; done) | (go_simp; rfl)); intro g3 hg3 w2 hbox hb_; have B2b := Aside0.mk (blk_below B2.out hb_); have B3 := Aside0.mk hbox; have HB2 : Aside0 (Below w.heap.size w w2) := ⟨below_step HB1.out hb_⟩; have c2_0 := blk_cell B2b.out 0; simp only [List.getElem?_toArray, List.getElem?_cons_zero] at c2_0; clear hbox hb_ hg3)
          | ((with_reducible refine gate_dst (N := 4) rfl ?_); refine box_event ?hg (N := 4) ?hd (cs := #[.int .i64 0, .int .i64 0, .int .i64 0, .int .i64 0, .int .i64 0]) (t := 73) ?hr ?_; (case hd => rfl); (case hg => rfl); (case hr => first | (go_simp; done) | (go_simp; rfl)); intro g4 hg4 w3 hbox hb_; have B2c := Aside0.mk (blk_below B2b.out hb_); have B3c := Aside0.mk (blk_below B3.out hb_); have B4 := Aside0.mk hbox; have HB3 : Aside0 (Below w.heap.size w w3) := ⟨below_step HB2.out hb_⟩; have c2_0 := blk_cell B2c.out 0; simp only [List.getElem?_toArray, List.getElem?_cons_zero] at c2_0; have G4 : Aside0 (w.heap.size ≤ g4) := ⟨by rw [hg4]; exact HB2.out.size⟩; clear hbox hb_ hg4)
          | (go_at_call 36; with_reducible refine (spec_TreeRight.calls 7000 _ _ l0_0 true _ ?side0 HC.out HT.out).mono ?_; (case side0 => exact Kd.C_below HR.out HB3.out); rintro e w4 ⟨rfl, hb_⟩; have B2d := Aside0.mk (blk_below B2c.out hb_); have B3d := Aside0.mk (blk_below B3c.out hb_); have B4d := Aside0.mk (blk_below B4.out hb_); have HB4 : Aside0 (Below w.heap.size w w4) := ⟨below_step HB3.out hb_⟩; have c3_0 := blk_cell B3d.out 0; have c3_1 := blk_cell B3d.out 1; have c3_2 := blk_cell B3d.out 2; simp only [List.getElem?_toArray, List.getElem?_cons_zero, List.getElem?_cons_succ] at c3_0 c3_1 c3_2; have c4_0 := blk_cell B4d.out 0; have c4_1 := blk_cell B4d.out 1; have c4_2 := blk_cell B4d.out 2; have c4_3 := blk_cell B4d.out 3; have c4_4 := blk_cell B4d.out 4; simp only [List.getElem?_toArray, List.getElem?_cons_zero, List.getElem?_cons_succ] at c4_0 c4_1 c4_2 c4_3 c4_4; have f4_0 := blk_frozen B4d.out 0; have f4_1 := blk_frozen B4d.out 1; have f4_2 := blk_frozen B4d.out 2; have f4_3 := blk_frozen B4d.out 3; have f4_4 := blk_frozen B4d.out 4; have e2_0 := blk_cell B2d.out 0; simp only [List.getElem?_toArray, List.getElem?_cons_zero] at e2_0; clear hb_)
          | (go_at_call 49; refine (spec_ItemRight.calls a1_0 a1_1 a1_2 true _ HIR.out).mono ?_; rintro e w5 ⟨rfl, hb0_⟩; have hb_ : Below w4.heap.size w4 w5 := IRB hb0_; have B2e := Aside0.mk (blk_below B2d.out hb_); have B3e := Aside0.mk (blk_below B3d.out hb_); have B4e := Aside0.mk (blk_below B4d.out hb_); have HB5 : Aside0 (Below w.heap.size w w5) := ⟨below_step HB4.out hb_⟩; have d4_0 := blk_cell B4e.out 0; have d4_1 := blk_cell B4e.out 1; have d4_2 := blk_cell B4e.out 2; have d4_3 := blk_cell B4e.out 3; have d4_4 := blk_cell B4e.out 4; simp only [List.getElem?_toArray, List.getElem?_cons_zero, List.getElem?_cons_succ] at d4_0 d4_1 d4_2 d4_3 d4_4; have h4_0 := blk_frozen B4e.out 0; have h4_1 := blk_frozen B4e.out 1; have h4_2 := blk_frozen B4e.out 2; have h4_3 := blk_frozen B4e.out 3; have h4_4 := blk_frozen B4e.out 4; have k2_0 := blk_cell B2e.out 0; simp only [List.getElem?_toArray, List.getElem?_cons_zero] at k2_0; clear hb_ hb0_)
          | (go_at_call 91; with_reducible refine (spec_l04Read.calls _ _ l0_0 ns top w _ ?side0 HR.out HC.out HRD.out).mono ?_; (case side0 => exact HB5.out); rintro e w6 ⟨gw, rfl, hi_, hb0_, hb_⟩; have HI := Aside0.mk hi_; have B3f := Aside0.mk (blk_below B3e.out hb_); have B4f := Aside0.mk (blk_below B4e.out hb_); have HB6 : Aside0 (Below w.heap.size w w6) := ⟨hb0_⟩; clear hi_ hb0_ hb_)
          | ((with_reducible refine gate_dst (N := 6) rfl ?_); refine box_event ?hg (N := 6) ?hd (cs := #[.int .i64 0, .int .i64 0, .int .i64 0, .int .i64 0, .int .i64 0]) (t := 73) ?hr ?_; (case hd => rfl); (case hg => rfl); (case hr => first | (go_simp; done) | (go_simp; rfl)); intro g6 hg6 w7 hbox hb_; have B6 := Aside0.mk hbox; have IV : Aside0 (BInv w w7 g3 g4 g6 gw ⟨a1_0, a1_1, a1_2⟩ ns top (.slice none 0 0) []) := ⟨⟨blk_below B3f.out hb_, blk_below B4f.out hb_, HI.out.below hb_, Kd.R_nil _ _ _ _ _, below_step HB6.out hb_, fun e_ => (by have := blk_lt B4f.out; omega), by rw [hg6]; exact HB6.out.size⟩⟩; have c6_0 := blk_cell hbox 0; have c6_1 := blk_cell hbox 1; have c6_2 := blk_cell hbox 2; have c6_3 := blk_cell hbox 3; have c6_4 := blk_cell hbox 4; simp only [List.getElem?_toArray, List.getElem?_cons_zero, List.getElem?_cons_succ] at c6_0 c6_1 c6_2 c6_3 c6_4; have f6_0 := blk_frozen hbox 0; have f6_1 := blk_frozen hbox 1; have f6_2 := blk_frozen hbox 2; have f6_3 := blk_frozen hbox 3; have f6_4 := blk_frozen hbox 4; have hw1 := IV.out.topc; have hnw1 := IV.out.wood.ne_blk hbox (by decide); have hnw2 := hnw1.symm; clear hbox hb_ hg6))
        have IV8 : Aside0 (BInv w (((((w7.setCell ⟨g6, 0, none⟩ (.int .i64 0)).setCell ⟨g6, 1, none⟩ (.int .i64 0)).setCell ⟨g6, 2, none⟩ (.int .i64 0)).setCell ⟨g6, 3, none⟩ (.int .i64 0)).setCell ⟨g6, 4, none⟩ (.int .i64 0)) g3 g4 g6 gw ⟨a1_0, a1_1, a1_2⟩ ns top (.slice none 0 0) []) := ⟨(BInv.set6 (BInv.set6 (BInv.set6 (BInv.set6 (BInv.set6 IV.out B6.out) (blk_put B6.out 0 _ rfl)) (blk_put (blk_put B6.out 0 _ rfl) 1 _ rfl)) (blk_put (blk_put (blk_put B6.out 0 _ rfl) 1 _ rfl) 2 _ rfl)) (blk_put (blk_put (blk_put (blk_put B6.out 0 _ rfl) 1 _ rfl) 2 _ rfl) 3 _ rfl))⟩
        have B68 : Aside0 ((((((w7.setCell ⟨g6, 0, none⟩ (.int .i64 0)).setCell ⟨g6, 1, none⟩ (.int .i64 0)).setCell ⟨g6, 2, none⟩ (.int .i64 0)).setCell ⟨g6, 3, none⟩ (.int .i64 0)).setCell ⟨g6, 4, none⟩ (.int .i64 0)).heap[g6]? = some (.cells #[.int .i64 0, .int .i64 0, .int .i64 0, .int .i64 0, .int .i64 0] 73 (0, 0))) := ⟨(blk_put (blk_put (blk_put (blk_put (blk_put B6.out 0 _ rfl) 1 _ rfl) 2 _ rfl) 3 _ rfl) 4 _ rfl)⟩
        clear IV B6 c6_0 c6_1 c6_2 c6_3 c6_4 f6_0 f6_1 f6_2 f6_3 f6_4 hw1 hnw1 hnw2
        generalize (((((w7.setCell ⟨g6, 0, none⟩ (.int .i64 0)).setCell ⟨g6, 1, none⟩ (.int .i64 0)).setCell ⟨g6, 2, none⟩ (.int .i64 0)).setCell ⟨g6, 3, none⟩ (.int .i64 0)).setCell ⟨g6, 4, none⟩ (.int .i64 0)) = w8 at IV8 B68 ⊢
        with_reducible refine (witems_calls t gw ns top top w _ IV8.out.wood HREP.out HSZ.out).mono ?_
        rintro e w9 ⟨v7, rfl, hv, hb_⟩
        rw [HLq.out] at hv
        have IV9 := Aside0.mk (IV8.out.newrow hb_ (Kd.R_lower hv IV8.out.bel.size))
        have B69 := Aside0.mk (blk_below B68.out hb_)
        clear hv hb_ IV8 B68
        obtain ⟨A7, c7, e7⟩ := Kd.R_slice IV9.out.row
        subst e7
        go_wp2
        go_loopg [8] L.length (fun gg s8 wr => ∃ i : Nat, s8 = .int .i64 i ∧ i ≤ L.length ∧ L.length - i ≤ gg ∧ Aside0 (wr.heap[g6]? = some (.cells #[.int .i64 ((L.take i).foldl (sumS ⟨a1_0, a1_1, a1_2⟩) ⟨0, 0, 0⟩).c, .int .i64 ((L.take i).foldl (sumS ⟨a1_0, a1_1, a1_2⟩) ⟨0, 0, 0⟩).v, .int .i64 ((L.take i).foldl (sumS ⟨a1_0, a1_1, a1_2⟩) ⟨0, 0, 0⟩).q, .int .i64 0, .int .i64 0] 73 (0, 0))) ∧ Aside0 (BInv w wr g3 g4 g6 gw ⟨a1_0, a1_1, a1_2⟩ ns top (.slice A7 L.length c7) L))
        case atStart => exact ⟨0, rfl, Nat.zero_le _, by omega, B69, IV9⟩
        case round =>
          clear B69 IV9
          obtain ⟨i, rfl, hi, hg, B6, IV⟩ := hrel
          by_cases hlt : i < L.length
          · obtain ⟨ad, e, hx0, hx1, hx2⟩ := at_T33 (Kd.R_reads' IV.out.row).2.2 (i : Int) (by omega) (by omega)
            cases e
            rw [rd33_at L i hlt] at hx0 hx1 hx2
            have HP := Aside0.mk (take_sum ⟨a1_0, a1_1, a1_2⟩ L ⟨0, 0, 0⟩ hlt)
            have HCM := Aside0.mk (HOK.out L[i] (List.getElem_mem hlt))
            obtain ⟨x, hx⟩ : ∃ x, L[i] = x := ⟨_, rfl⟩
            rw [hx] at hx0 hx1 hx2 HP HCM
            have HXq := Aside0.mk hx
            clear hx
            simp only [Int.toNat_natCast] at hx0 hx1 hx2
            have HLT := Aside0.mk hlt
            have hlt2 := (eq_true hlt : (i < L.length) = True)
            have hltz : (i : Int) < (L.length : Int) := by omega
            generalize (L.take i).foldl (sumS ⟨a1_0, a1_1, a1_2⟩) ⟨0, 0, 0⟩ = s at B6 HP
            obtain ⟨c, v, q⟩ := s
            simp only at B6
            have xf0 : ∀ p : BW wr, p.W.cell? _ = some (.int .i64 x.f0) := fun p => p.cell hx0
            have yf0 : ∀ p : BW wr, p.W.cell? ⟨g3, 0, none⟩ = some (.int .i64 a1_0) := fun p => p.cell (blk_cell IV.out.b3 0)
            have xf1 : ∀ p : BW wr, p.W.cell? _ = some (.int .i64 x.f1) := fun p => p.cell hx1
            have yf1 : ∀ p : BW wr, p.W.cell? ⟨g3, 1, none⟩ = some (.int .i64 a1_1) := fun p => p.cell (blk_cell IV.out.b3 1)
            have xf2 : ∀ p : BW wr, p.W.cell? _ = some (.int .i64 x.f2) := fun p => p.cell hx2
            have yf2 : ∀ p : BW wr, p.W.cell? ⟨g3, 2, none⟩ = some (.int .i64 a1_2) := fun p => p.cell (blk_cell IV.out.b3 2)
            clear hx0 hx1 hx2
            go_wp2
            refine wp_region_bw (by kernel_rfl) (by kernel_rfl) ?_
            repeat (go_big_quiet_step (first | (go_at_call 50; exact Calls.bw (spec_RatioCmp.calls 7000 _ _ _ _ _ _ (rcF x ⟨a1_0, a1_1, a1_2⟩) _ HCM.out))))
            refine wpQuiet_nil ?_
            intro w4 hw'
            obtain ⟨⟨w4_, hb4⟩, hw''⟩ := hw'
            subst hw''
            have IV4 := Aside0.mk (IV.out.below hb4)
            have B64 := Aside0.mk (blk_below B6.out hb4)
            clear hb4 xf0 xf1 xf2 yf0 yf1 yf2
            by_cases hneg : rcF x ⟨a1_0, a1_1, a1_2⟩ < 0
            · 
              have HN := Aside0.mk (sumS_yes (a := ⟨a1_0, a1_1, a1_2⟩) (x := x) (s := ⟨c, v, q⟩) hneg)
              have c6_0 := blk_cell B64.out 0
              have f6_0 := blk_frozen B64.out 0
              simp only [List.getElem?_toArray, List.getElem?_cons_zero] at c6_0
              go_wp2
              have B65 : Aside0 ((w4.setCell ⟨g6, 0, none⟩ (.int .i64 (wrap64 (c + 1)))).heap[g6]? = some (.cells #[.int .i64 (wrap64 (c + 1)), .int .i64 v, .int .i64 q, .int .i64 0, .int .i64 0] 73 (0, 0))) := ⟨blk_put (cs := #[.int .i64 c, .int .i64 v, .int .i64 q, .int .i64 0, .int .i64 0]) B64.out 0 _ rfl⟩
              have IV5 := Aside0.mk (IV4.out.set6 (j := 0) (u := .int .i64 (wrap64 (c + 1))) B64.out)
              clear c6_0 f6_0
              generalize w4.setCell ⟨g6, 0, none⟩ (.int .i64 (wrap64 (c + 1))) = w5 at B65 IV5 ⊢
              clear B64 IV4
              obtain ⟨ad', e', hx0, hx1, hx2⟩ := at_T33 (Kd.R_reads' IV5.out.row).2.2 (i : Int) (by omega) (by have := HLT.out; omega)
              obtain rfl : ad = ad' := by injection e'
              rw [rd33_at L i HLT.out] at hx0 hx1 hx2
              rw [HXq.out] at hx0 hx1 hx2
              simp only [Int.toNat_natCast] at hx0 hx1 hx2
              have HX1 := Aside0.mk hx1
              have HX2 := Aside0.mk hx2
              clear hx0 hx1 hx2
              refine start_ (n := 10) (S := fun w' => Drawn0 w5 w') (ds := [9]) #[false, false, false, false, false, false, false, false, false, false] (by kernel_rfl) rfl rfl ⟨⟨1, rfl⟩⟩ (fun hHeld => ?_)
              refine pure_ (i := 0) (N := (some 45)) (v := ?_) (a' := ?_) #[true, false, false, false, false, false, false, false, false, false] rfl rfl (by kernel_rfl) (fun _ _ _ h => h) (Or.inl ⟨by rfl, ?_⟩) ?_ ?_
              rotate_left
              · intro w'
                go_simp
                with_reducible rfl
              rotate_left
              · simp only [Act.put, List.setIfInBounds_toArray, List.set_cons_zero, List.set_cons_succ, i64_w, i32_w]
                rfl
              refine take_ (i := 1) (N := (some 46)) (v := ?_) (a' := ?_) #[true, true, false, false, false, false, false, false, false, false] rfl rfl (by kernel_rfl) (fun _ _ _ h => h) (Or.inl ⟨by rfl, ?_⟩) hHeld ?_ ?_
              rotate_left
              · intro w' sb_
                obtain ⟨⟨n_, rfl⟩⟩ := sb_
                have s0_ : (w5.drewN n_).cell? ⟨g6, 1, none⟩ = some (.int .i64 v) := (blk_cell B65.out 1).trans rfl
                go_simp
                with_reducible rfl
              rotate_left
              · simp only [Act.put, List.setIfInBounds_toArray, List.set_cons_zero, List.set_cons_succ, i64_w, i32_w]
                rfl
              refine pure_ (i := 2) (N := (some 47)) (v := ?_) (a' := ?_) #[true, true, true, false, false, false, false, false, false, false] rfl rfl (by kernel_rfl) (fun _ _ _ h => h) (Or.inl ⟨by rfl, ?_⟩) ?_ ?_
              rotate_left
              · intro w'
                go_simp
                with_reducible rfl
              rotate_left
              · simp only [Act.put, List.setIfInBounds_toArray, List.set_cons_zero, List.set_cons_succ, i64_w, i32_w]
                rfl
              refine pure_ (i := 3) (N := (some 48)) (v := ?_) (a' := ?_) #[true, true, true, true, false, false, false, false, false, false] rfl rfl (by kernel_rfl) (fun _ _ _ h => h) (Or.inl ⟨by rfl, ?_⟩) ?_ ?_
              rotate_left
              · intro w'
                go_simp
                with_reducible rfl
              rotate_left
              · simp only [Act.put, List.setIfInBounds_toArray, List.set_cons_zero, List.set_cons_succ, i64_w, i32_w]
                rfl
              refine pure_ (i := 4) (N := (some 49)) (v := ?_) (a' := ?_) #[true, true, true, true, true, false, false, false, false, false] rfl rfl (by kernel_rfl) (fun _ _ _ h => h) (Or.inl ⟨by rfl, ?_⟩) ?_ ?_
              rotate_left
              · intro w'
                go_simp
                with_reducible rfl
              rotate_left
              · simp only [Act.put, List.setIfInBounds_toArray, List.set_cons_zero, List.set_cons_succ, i64_w, i32_w]
                rfl
              refine pure_ (i := 5) (N := (some 50)) (v := ?_) (a' := ?_) #[true, true, true, true, true, true, false, false, false, false] rfl rfl (by kernel_rfl) (fun _ _ _ h => h) (Or.inl ⟨by rfl, ?_⟩) ?_ ?_
              rotate_left
              · intro w'
                go_simp
                with_reducible rfl
              rotate_left
              · simp only [Act.put, List.setIfInBounds_toArray, List.set_cons_zero, List.set_cons_succ, i64_w, i32_w]
                rfl
              refine take_ (i := 6) (N := (some 51)) (v := ?_) (a' := ?_) #[true, true, true, true, true, true, true, false, false, false] rfl rfl (by kernel_rfl) (fun _ _ _ h => h) (Or.inl ⟨by rfl, ?_⟩) hHeld ?_ ?_
              rotate_left
              · intro w' sb_
                obtain ⟨⟨n_, rfl⟩⟩ := sb_
                have s0_ : (w5.drewN n_).cell? ⟨(ad.add (i * 3)).block, (ad.add (i * 3)).off + 1, none⟩ = some (.int .i64 x.f1) := HX1.out
                go_simp
                with_reducible rfl
              rotate_left
              · simp only [Act.put, List.setIfInBounds_toArray, List.set_cons_zero, List.set_cons_succ, i64_w, i32_w]
                rfl
              refine pure_ (i := 7) (N := (some 52)) (v := ?_) (a' := ?_) #[true, true, true, true, true, true, true, true, false, false] rfl rfl (by kernel_rfl) (fun _ _ _ h => h) (Or.inl ⟨by rfl, ?_⟩) ?_ ?_
              rotate_left
              · intro w'
                go_simp
                with_reducible rfl
              rotate_left
              · simp only [Act.put, List.setIfInBounds_toArray, List.set_cons_zero, List.set_cons_succ, i64_w, i32_w]
                rfl
              refine pure_ (i := 8) (N := (some 53)) (v := ?_) (a' := ?_) #[true, true, true, true, true, true, true, true, true, false] rfl rfl (by kernel_rfl) (fun _ _ _ h => h) (Or.inl ⟨by rfl, ?_⟩) ?_ ?_
              rotate_left
              · intro w'
                go_simp
                with_reducible rfl
              rotate_left
              · simp only [Act.put, List.setIfInBounds_toArray, List.set_cons_zero, List.set_cons_succ, i64_w, i32_w]
                rfl
              refine last_ (i := 9) (N := none) #[true, true, true, true, true, true, true, true, true, true] rfl rfl (by kernel_rfl) (by decide) (fun K hK => ?_)
              clear hHeld
              have hc_ : w5.drew.cell? ⟨g6, 1, none⟩ = some (.int .i64 v) := (blk_cell B65.out 1).trans rfl
              have hf_ : w5.drew.frozen? ⟨g6, 1, none⟩ = false := blk_frozen (blk_drew B65.out) 1
              refine skip_ (w1 := (w5.drew.setCell ⟨g6, 1, none⟩ (.int .i64 (wrap64 (v + x.f1))))) (by rfl) rfl (by go_simp; try rfl) ?_
              clear hc_ hf_
              refine hK.out _ _ ?_
              clear hK K
              refine done_ (by kernel_rfl) ?_
              have B66 : Aside0 ((w5.drew.setCell ⟨g6, 1, none⟩ (.int .i64 (wrap64 (v + x.f1)))).heap[g6]? = some (.cells #[.int .i64 (wrap64 (c + 1)), .int .i64 (wrap64 (v + x.f1)), .int .i64 q, .int .i64 0, .int .i64 0] 73 (0, 0))) := ⟨blk_put (cs := #[.int .i64 (wrap64 (c + 1)), .int .i64 v, .int .i64 q, .int .i64 0, .int .i64 0]) (blk_drew B65.out) 1 _ rfl⟩
              have IV6 := Aside0.mk ((IV5.out.below (below_drew (Below.refl _ _))).set6 (j := 1) (u := .int .i64 (wrap64 (v + x.f1))) (blk_drew B65.out))
              generalize w5.drew.setCell ⟨g6, 1, none⟩ (.int .i64 (wrap64 (v + x.f1))) = w6 at B66 IV6 ⊢
              clear HX1 HX2 B65 IV5
              obtain ⟨ad', e', hx0, hx1, hx2⟩ := at_T33 (Kd.R_reads' IV6.out.row).2.2 (i : Int) (by omega) (by have := HLT.out; omega)
              obtain rfl : ad = ad' := by injection e'
              rw [rd33_at L i HLT.out] at hx0 hx1 hx2
              rw [HXq.out] at hx0 hx1 hx2
              simp only [Int.toNat_natCast] at hx0 hx1 hx2
              have HX1 := Aside0.mk hx1
              have HX2 := Aside0.mk hx2
              clear hx0 hx1 hx2
              go_wp2
              refine start_ (n := 10) (S := fun w' => Drawn0 w6 w') (ds := [9]) #[false, false, false, false, false, false, false, false, false, false] (by kernel_rfl) rfl rfl ⟨⟨1, rfl⟩⟩ (fun hHeld => ?_)
              refine pure_ (i := 0) (N := (some 54)) (v := ?_) (a' := ?_) #[true, false, false, false, false, false, false, false, false, false] rfl rfl (by kernel_rfl) (fun _ _ _ h => h) (Or.inl ⟨by rfl, ?_⟩) ?_ ?_
              rotate_left
              · intro w'
                go_simp
                with_reducible rfl
              rotate_left
              · simp only [Act.put, List.setIfInBounds_toArray, List.set_cons_zero, List.set_cons_succ, i64_w, i32_w]
                rfl
              refine take_ (i := 1) (N := (some 55)) (v := ?_) (a' := ?_) #[true, true, false, false, false, false, false, false, false, false] rfl rfl (by kernel_rfl) (fun _ _ _ h => h) (Or.inl ⟨by rfl, ?_⟩) hHeld ?_ ?_
              rotate_left
              · intro w' sb_
                obtain ⟨⟨n_, rfl⟩⟩ := sb_
                have s0_ : (w6.drewN n_).cell? ⟨g6, 2, none⟩ = some (.int .i64 q) := (blk_cell B66.out 2).trans rfl
                go_simp
                with_reducible rfl
              rotate_left
              · simp only [Act.put, List.setIfInBounds_toArray, List.set_cons_zero, List.set_cons_succ, i64_w, i32_w]
                rfl
              refine pure_ (i := 2) (N := (some 56)) (v := ?_) (a' := ?_) #[true, true, true, false, false, false, false, false, false, false] rfl rfl (by kernel_rfl) (fun _ _ _ h => h) (Or.inl ⟨by rfl, ?_⟩) ?_ ?_
              rotate_left
              · intro w'
                go_simp
                with_reducible rfl
              rotate_left
              · simp only [Act.put, List.setIfInBounds_toArray, List.set_cons_zero, List.set_cons_succ, i64_w, i32_w]
                rfl
              refine pure_ (i := 3) (N := (some 57)) (v := ?_) (a' := ?_) #[true, true, true, true, false, false, false, false, false, false] rfl rfl (by kernel_rfl) (fun _ _ _ h => h) (Or.inl ⟨by rfl, ?_⟩) ?_ ?_
              rotate_left
              · intro w'
                go_simp
                with_reducible rfl
              rotate_left
              · simp only [Act.put, List.setIfInBounds_toArray, List.set_cons_zero, List.set_cons_succ, i64_w, i32_w]
                rfl
              refine pure_ (i := 4) (N := (some 58)) (v := ?_) (a' := ?_) #[true, true, true, true, true, false, false, false, false, false] rfl rfl (by kernel_rfl) (fun _ _ _ h => h) (Or.inl ⟨by rfl, ?_⟩) ?_ ?_
              rotate_left
              · intro w'
                go_simp
                with_reducible rfl
              rotate_left
              · simp only [Act.put, List.setIfInBounds_toArray, List.set_cons_zero, List.set_cons_succ, i64_w, i32_w]
                rfl
              refine pure_ (i := 5) (N := (some 59)) (v := ?_) (a' := ?_) #[true, true, true, true, true, true, false, false, false, false] rfl rfl (by kernel_rfl) (fun _ _ _ h => h) (Or.inl ⟨by rfl, ?_⟩) ?_ ?_
              rotate_left
              · intro w'
                go_simp
                with_reducible rfl
              rotate_left
              · simp only [Act.put, List.setIfInBounds_toArray, List.set_cons_zero, List.set_cons_succ, i64_w, i32_w]
                rfl
              refine take_ (i := 6) (N := (some 60)) (v := ?_) (a' := ?_) #[true, true, true, true, true, true, true, false, false, false] rfl rfl (by kernel_rfl) (fun _ _ _ h => h) (Or.inl ⟨by rfl, ?_⟩) hHeld ?_ ?_
              rotate_left
              · intro w' sb_
                obtain ⟨⟨n_, rfl⟩⟩ := sb_
                have s0_ : (w6.drewN n_).cell? ⟨(ad.add (i * 3)).block, (ad.add (i * 3)).off + 2, none⟩ = some (.int .i64 x.f2) := HX2.out
                go_simp
                with_reducible rfl
              rotate_left
              · simp only [Act.put, List.setIfInBounds_toArray, List.set_cons_zero, List.set_cons_succ, i64_w, i32_w]
                rfl
              refine pure_ (i := 7) (N := (some 61)) (v := ?_) (a' := ?_) #[true, true, true, true, true, true, true, true, false, false] rfl rfl (by kernel_rfl) (fun _ _ _ h => h) (Or.inl ⟨by rfl, ?_⟩) ?_ ?_
              rotate_left
              · intro w'
                go_simp
                with_reducible rfl
              rotate_left
              · simp only [Act.put, List.setIfInBounds_toArray, List.set_cons_zero, List.set_cons_succ, i64_w, i32_w]
                rfl
              refine pure_ (i := 8) (N := (some 62)) (v := ?_) (a' := ?_) #[true, true, true, true, true, true, true, true, true, false] rfl rfl (by kernel_rfl) (fun _ _ _ h => h) (Or.inl ⟨by rfl, ?_⟩) ?_ ?_
              rotate_left
              · intro w'
                go_simp
                with_reducible rfl
              rotate_left
              · simp only [Act.put, List.setIfInBounds_toArray, List.set_cons_zero, List.set_cons_succ, i64_w, i32_w]
                rfl
              refine last_ (i := 9) (N := none) #[true, true, true, true, true, true, true, true, true, true] rfl rfl (by kernel_rfl) (by decide) (fun K hK => ?_)
              clear hHeld
              have hc_ : w6.drew.cell? ⟨g6, 2, none⟩ = some (.int .i64 q) := (blk_cell B66.out 2).trans rfl
              have hf_ : w6.drew.frozen? ⟨g6, 2, none⟩ = false := blk_frozen (blk_drew B66.out) 2
              refine skip_ (w1 := (w6.drew.setCell ⟨g6, 2, none⟩ (.int .i64 (wrap64 (q + x.f2))))) (by rfl) rfl (by go_simp; try rfl) ?_
              clear hc_ hf_
              refine hK.out _ _ ?_
              clear hK K
              refine done_ (by kernel_rfl) ?_
              have B67 : Aside0 ((w6.drew.setCell ⟨g6, 2, none⟩ (.int .i64 (wrap64 (q + x.f2)))).heap[g6]? = some (.cells #[.int .i64 (wrap64 (c + 1)), .int .i64 (wrap64 (v + x.f1)), .int .i64 (wrap64 (q + x.f2)), .int .i64 0, .int .i64 0] 73 (0, 0))) := ⟨blk_put (cs := #[.int .i64 (wrap64 (c + 1)), .int .i64 (wrap64 (v + x.f1)), .int .i64 q, .int .i64 0, .int .i64 0]) (blk_drew B66.out) 2 _ rfl⟩
              have IV7 := Aside0.mk ((IV6.out.below (below_drew (Below.refl _ _))).set6 (j := 2) (u := .int .i64 (wrap64 (q + x.f2))) (blk_drew B66.out))
              generalize w6.drew.setCell ⟨g6, 2, none⟩ (.int .i64 (wrap64 (q + x.f2))) = w7 at B67 IV7 ⊢
              clear HX1 HX2 B66 IV6
              go_wp2
              go_roundg (L.length - (i + 1))
              case measure => have := HLT.out; omega
              case rel => exact ⟨i + 1, by have := HLEN.out; have := HLT.out; rw [show wrap64 ((i : Int) + 1) = ((i + 1 : Nat) : Int) by unfold wrap64; omega], by have := HLT.out; omega, by have := HLT.out; omega, ⟨by rw [HP.out, HN.out]; exact B67.out⟩, IV7⟩
            · 
              have HN := Aside0.mk (sumS_no (a := ⟨a1_0, a1_1, a1_2⟩) (x := x) (s := ⟨c, v, q⟩) hneg)
              have hng : 0 ≤ rcF x ⟨a1_0, a1_1, a1_2⟩ := by omega
              go_wp2
              go_roundg (L.length - (i + 1))
              case measure => have := HLT.out; omega
              case rel => exact ⟨i + 1, by have := HLEN.out; have := HLT.out; rw [show wrap64 ((i : Int) + 1) = ((i + 1 : Nat) : Int) by unfold wrap64; omega], by have := HLT.out; omega, by have := HLT.out; omega, ⟨by rw [HP.out, HN.out]; exact B64.out⟩, IV4⟩
          · have hltz : ¬ (i : Int) < (L.length : Int) := by omega
            obtain rfl : i = L.length := by omega
            have hb := B6.out
            rw [List.take_length, HS.out] at hb
            replace B6 := Aside0.mk hb
            clear hb
            have hw1 := IV.out.topc
            go_wp2
            go_loopg [9] t.sz (fun gg s9 wr => ∃ (at_ : Int) (t' : Tr) (n : Int), s9 = .int .i64 at_ ∧ t'.sz ≤ gg ∧ Aside0 (Rep ns t' at_) ∧ Aside0 (wr.heap[g6]? = some (.cells #[.int .i64 S.c, .int .i64 S.v, .int .i64 S.q, .int .i64 n, .int .i64 0] 73 (0, 0))) ∧ Aside0 (BInv w wr g3 g4 g6 gw ⟨a1_0, a1_1, a1_2⟩ ns top (.slice A7 L.length c7) L) ∧ Aside0 (cmpS ⟨a1_0, a1_1, a1_2⟩ t' n = M) ∧ Aside0 (∀ x ∈ t'.items, spec_RatioCmp.f 7000 x.f0 x.f1 x.f2 a1_0 a1_1 a1_2 = some (rcF x ⟨a1_0, a1_1, a1_2⟩)))
            case atStart => exact ⟨top, t, 0, rfl, Nat.le_refl _, HREP, B6, IV, HM, HOT⟩
            case round =>
              clear B6 IV HREP HM HOT hw1
              obtain ⟨at_, t', n, rfl, hgg, HREP, B6, IV, HM, HOT⟩ := hrel
              cases t' with
              | nil =>
                have hlt0 : at_ < 0 := HREP.out
                have hb4 := IV.out.b4
                have c6_0 := blk_cell B6.out 0
                have c6_1 := blk_cell B6.out 1
                have c6_2 := blk_cell B6.out 2
                have c6_3 := blk_cell B6.out 3
                have c6_4 := blk_cell B6.out 4
                simp only [List.getElem?_toArray, List.getElem?_cons_zero, List.getElem?_cons_succ] at c6_0 c6_1 c6_2 c6_3 c6_4
                have c4_0 := blk_cell hb4 0
                have c4_1 := blk_cell hb4 1
                have c4_2 := blk_cell hb4 2
                have c4_3 := blk_cell hb4 3
                have c4_4 := blk_cell hb4 4
                simp only [List.getElem?_toArray, List.getElem?_cons_zero, List.getElem?_cons_succ] at c4_0 c4_1 c4_2 c4_3 c4_4
                have f4_0 := blk_frozen hb4 0
                have f4_1 := blk_frozen hb4 1
                have f4_2 := blk_frozen hb4 2
                have f4_3 := blk_frozen hb4 3
                have f4_4 := blk_frozen hb4 4
                go_wp2
                refine bodyPost_ret (results_cell_row rfl _ _ g4 73 #[.int .i64 S.c, .int .i64 S.v, .int .i64 S.q, .int .i64 n, .int .i64 0] (0, 0) _ rfl (blk_put (blk_put (blk_put (blk_put (blk_put hb4 0 _ rfl) 1 _ rfl) 2 _ rfl) 3 _ rfl) 4 _ rfl) Try.underlying73 rfl (by kernel_rfl)) rfl ?_
                have hm := HM.out
                simp only [cmpS] at hm
                subst hm
                exact ⟨rfl, (below_set (below_set (below_set (below_set (below_set IV.out.bel G4.out) G4.out) G4.out) G4.out) G4.out)⟩
              | node x l r =>
                obtain ⟨hr0, hr1, hxq, hl, hr⟩ := HREP.out
                have HLR := Aside0.mk (And.intro hl hr)
                have hox := Aside0.mk (HOT.out x items_mem_x)
                have HOL := Aside0.mk (fun y hy => HOT.out y (items_mem_l hy))
                have HOR := Aside0.mk (fun y hy => HOT.out y (items_mem_r hy))
                have hm := HM.out
                rw [cmpS] at hm
                have HM2 := Aside0.mk hm
                have HGG : Aside0 (l.sz + 1 ≤ gk ∧ r.sz + 1 ≤ gk) := ⟨by simp only [Tr.sz] at hgg; omega⟩
                have HXQ := Aside0.mk hxq
                have hlt2 : at_ < (ns.length : Int) := hr1
                clear hl hr hm HM HREP HOT hgg hxq
                have c6_3 := blk_cell B6.out 3
                have f6_3 := blk_frozen B6.out 3
                simp only [List.getElem?_toArray, List.getElem?_cons_zero, List.getElem?_cons_succ] at c6_3
                go_wp2
                have B6b : Aside0 ((wr.setCell ⟨g6, 3, none⟩ (.int .i64 (wrap64 (n + 1)))).heap[g6]? = some (.cells #[.int .i64 S.c, .int .i64 S.v, .int .i64 S.q, .int .i64 (wrap64 (n + 1)), .int .i64 0] 73 (0, 0))) := ⟨blk_put (cs := #[.int .i64 S.c, .int .i64 S.v, .int .i64 S.q, .int .i64 n, .int .i64 0]) B6.out 3 _ rfl⟩
                have IVb := Aside0.mk (IV.out.set6 (j := 3) (u := .int .i64 (wrap64 (n + 1))) B6.out)
                clear c6_3 f6_3 B6 IV
                generalize wr.setCell ⟨g6, 3, none⟩ (.int .i64 (wrap64 (n + 1))) = w5 at B6b IVb ⊢
                have B6 := B6b
                have IV := IVb
                clear B6b IVb
                obtain ⟨Aw, cw, bkw, _, hRw⟩ := IsS119.open_ IV.out.wood
                obtain ⟨aw, ew, ht0, ht1, ht2, ht3, ht4⟩ := at_T130 (Kd.R_reads' hRw).2.2 at_ hr0 hr1
                cases ew
                have hw0 := blk_cell bkw 0
                simp only [List.getElem?_toArray, List.getElem?_cons_zero] at hw0
                clear bkw hRw
                rw [HXQ.out] at ht0 ht1 ht2
                have hx0 := ht0
                have hx1 := ht1
                have hx2 := ht2
                have HCM := hox
                have xf0 : ∀ p : BW w5, p.W.cell? _ = some (.int .i64 x.f0) := fun p => p.cell hx0
                have yf0 : ∀ p : BW w5, p.W.cell? ⟨g3, 0, none⟩ = some (.int .i64 a1_0) := fun p => p.cell (blk_cell IV.out.b3 0)
                have xf1 : ∀ p : BW w5, p.W.cell? _ = some (.int .i64 x.f1) := fun p => p.cell hx1
                have yf1 : ∀ p : BW w5, p.W.cell? ⟨g3, 1, none⟩ = some (.int .i64 a1_1) := fun p => p.cell (blk_cell IV.out.b3 1)
                have xf2 : ∀ p : BW w5, p.W.cell? _ = some (.int .i64 x.f2) := fun p => p.cell hx2
                have yf2 : ∀ p : BW w5, p.W.cell? ⟨g3, 2, none⟩ = some (.int .i64 a1_2) := fun p => p.cell (blk_cell IV.out.b3 2)
                have zf0 : ∀ p : BW w5, p.W.cell? ⟨gw, 0, none⟩ = _ := fun p => p.cell hw0
                clear hx0 hx1 hx2 ht0 ht1 ht2 ht3 ht4 hw0
                refine wp_region_bw (by kernel_rfl) (by kernel_rfl) ?_
                repeat (go_big_quiet_step (first | (go_at_call 50; exact Calls.bw (spec_RatioCmp.calls 7000 _ _ _ _ _ _ (rcF x ⟨a1_0, a1_1, a1_2⟩) _ HCM.out))))
                refine wpQuiet_nil ?_
                intro w4 hw'
                obtain ⟨⟨w4_, hb4⟩, hw''⟩ := hw'
                subst hw''
                have IV4 := Aside0.mk (IV.out.below hb4)
                have B64 := Aside0.mk (blk_below B6.out hb4)
                clear hb4 xf0 xf1 xf2 yf0 yf1 yf2
                clear zf0
                by_cases hneg : rcF x ⟨a1_0, a1_1, a1_2⟩ < 0
                · rw [if_pos hneg] at HM2
                  obtain ⟨Aw, cw, bkw, _, hRw⟩ := IsS119.open_ IV4.out.wood
                  obtain ⟨aw, ew, ht0, ht1, ht2, ht3, ht4⟩ := at_T130 (Kd.R_reads' hRw).2.2 at_ hr0 hr1
                  cases ew
                  have hw0 := blk_cell bkw 0
                  simp only [List.getElem?_toArray, List.getElem?_cons_zero] at hw0
                  clear bkw hRw
                  go_wp2
                  go_roundg r.sz
                  case measure => have := HGG.out; omega
                  case rel => exact ⟨_, r, _, by go_num, Nat.le_refl _, ⟨HLR.out.2⟩, B64, IV4, HM2, HOR⟩
                · rw [if_neg hneg] at HM2
                  have hng : 0 ≤ rcF x ⟨a1_0, a1_1, a1_2⟩ := by omega
                  obtain ⟨Aw, cw, bkw, _, hRw⟩ := IsS119.open_ IV4.out.wood
                  obtain ⟨aw, ew, ht0, ht1, ht2, ht3, ht4⟩ := at_T130 (Kd.R_reads' hRw).2.2 at_ hr0 hr1
                  cases ew
                  have hw0 := blk_cell bkw 0
                  simp only [List.getElem?_toArray, List.getElem?_cons_zero] at hw0
                  clear bkw hRw
                  go_wp2
                  go_roundg l.sz
                  case measure => have := HGG.out; omega
                  case rel => exact ⟨_, l, _, by go_num, Nat.le_refl _, ⟨HLR.out.1⟩, B64, IV4, HM2, HOL⟩
      · rw [if_neg hh] at h2
        cases h2

end Go.Proofs.Ytenlceojmjkbkaa.XFnExactTreeBelow
