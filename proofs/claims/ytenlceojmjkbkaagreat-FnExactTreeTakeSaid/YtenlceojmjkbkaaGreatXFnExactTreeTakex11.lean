/- Functions that FnExactTreeTake comes to, as Lean functions with their contracts: written by the prover's own program (wip/tpl/myprint.py) over the kit's printer, some contracts by hand. Conditions: none. -/
import Derived.Test.YtenlceojmjkbkaaGreatXFnExactTreeTakex0
import Derived.Test.YtenlceojmjkbkaaGreatXFnExactTreeTakex1
import Derived.Test.YtenlceojmjkbkaaGreatXFnExactTreeTakex6
import Derived.Test.YtenlceojmjkbkaaGreatXFnExactTreeTakex7
import Derived.Test.YtenlceojmjkbkaaGreatXFnExactTreeTakex9
import Derived.Test.YtenlceojmjkbkaaGreatXFnExactTreeTakex10
namespace Go.Proofs.YtenlceojmjkbkaaGreat.XFnExactTreeTake
open Go.RowKit Go.Proofs.YtenlceojmjkbkaaGreatW.PrintWords Go.Proofs.YtenlceojmjkbkaaGreatW.PrintLast Go.Proofs.YtenlceojmjkbkaaGreatW.PrintMore
attribute [local go_sem] max2_int min2_int max_two min_two max_three min_three max_four min_four   -- for this text's walks alone
set_option linter.unusedVariables false
set_option linter.unusedSimpArgs false

/-! ### impl_TreeTake: function 8 -/
attribute [local go_sem] Oper.semAt_some
/-! ### A part of a tree in memory: its nodes' blocks stand in [lo, hi) -/
def IsN (w : World) : Nat → Nat → Option Addr → Tr → Prop
 | lo, hi, u, .nil => u = none ∧ lo ≤ hi
 | lo, hi, u, .node x l r => ∃ (g m : Nat) (lu ru : Option Addr), u = some ⟨g, 0, none⟩ ∧ g < hi ∧
   w.heap[g]? = some (.cells #[.int .i64 x.f0, .int .i64 x.f1, .int .i64 x.f2, .pointer lu, .pointer ru, .int .i64 ((Tr.node x l r).ht : Nat)] 91 (0, 0)) ∧
   IsN w lo m lu l ∧ IsN w m g ru r
theorem IsN.le {w : World} : ∀ {t : Tr} {lo hi : Nat} {u : Option Addr}, IsN w lo hi u t → lo ≤ hi
 | .nil, _, _, _, h => h.2
 | .node _ _ _, _, _, _, ⟨g, m, lu, ru, _, h1, _, h2, h3⟩ => by
  have := h2.le
  have := h3.le
  omega
theorem IsN.keep {w w' : World} : ∀ {t : Tr} {lo hi : Nat} {u : Option Addr}, IsN w lo hi u t → (∀ k, lo ≤ k → k < hi → k < w.heap.size → w'.heap[k]? = w.heap[k]?) → IsN w' lo hi u t
 | .nil, _, _, _, h, _ => h
 | .node _ _ _, lo, hi, _, ⟨g, m, lu, ru, e, h1, hb, h2, h3⟩, hk => by
  have e2 := h2.le
  have e3 := h3.le
  have hlt := blk_lt hb
  exact ⟨g, m, lu, ru, e, h1, (hk g (by omega) h1 hlt).trans hb, h2.keep (fun k a b c => hk k a (by omega) c), h3.keep (fun k a b c => hk k (by omega) (by omega) c)⟩
theorem IsN.below {w w' : World} {t : Tr} {lo hi : Nat} {u : Option Addr} (h : IsN w lo hi u t) (hb : Below w.heap.size w w') : IsN w' lo hi u t := h.keep (fun k _ _ hk => hb.block k hk)
theorem IsN.drewN {w : World} {t : Tr} {lo hi : Nat} {u : Option Addr} (h : IsN w lo hi u t) (n : Nat) : IsN (w.drewN n) lo hi u t := h.keep (fun _ _ _ _ => rfl)
theorem IsN.wide {w : World} : ∀ {t : Tr} {lo lo' hi hi' : Nat} {u : Option Addr}, IsN w lo hi u t → lo' ≤ lo → hi ≤ hi' → IsN w lo' hi' u t
 | .nil, _, _, _, _, _, h, a, b => ⟨h.1, by have := h.2; omega⟩
 | .node _ _ _, _, _, _, _, _, ⟨g, m, lu, ru, e, h1, hb, h2, h3⟩, a, b => ⟨g, m, lu, ru, e, by omega, hb, h2.wide a (Nat.le_refl _), h3⟩

set_option maxHeartbeats 4000000 in
theorem height_calls (u : Option Addr) (t : Tr) (lo hi : Nat) (w : World) (h : IsN w lo hi u t) :
  Calls Tryz.prog 69 #[.pointer u] w fun e w' => e = .returned (.int .i64 (t.ht : Nat)) ∧ Drawn0 w w' := by
 cases t with
 | nil =>
  obtain ⟨rfl, _⟩ := h
  go_enter Tryz.func69, Tryz.ntmps69
  go_wp2
  go_ret
  exact ⟨rfl, Drawn0.refl _⟩
 | node x l r =>
  obtain ⟨g, m, lu, ru, rfl, _, hb, _, _⟩ := h
  have hx := (blk_cell hb 5)
  simp only [List.getElem?_toArray, List.getElem?_cons_zero, List.getElem?_cons_succ] at hx
  generalize ((Tr.node x l r).ht : Nat) = n at hx ⊢
  clear hb
  go_enter Tryz.func69, Tryz.ntmps69
  go_wp2
  go_ret
  exact ⟨rfl, Drawn0.refl _⟩

/-- Where a slice may lie behind a call that writes it: in its own block still, or in a new one. -/
def Hat (w : World) (v v1 : Value) : Prop := v1.ownBlock = v.ownBlock ∨ ∃ b, v1.ownBlock = some b ∧ w.heap.size ≤ b
theorem Hat.raw {w : World} {v v1 : Value} (h : Hat w v v1) : v1.ownBlock = v.ownBlock ∨ ∃ b, v1.ownBlock = some b ∧ w.heap.size ≤ b := h
theorem Hat.of_drew {w : World} {v v1 : Value} (h : Hat w.drew v v1) : Hat w v v1 := h
theorem Hat.older {w w1 : World} {v v1 : Value} (h : Hat w1 v v1) (hs : w.heap.size ≤ w1.heap.size) : Hat w v v1 := h.imp_right (fun ⟨b, e, hb⟩ => ⟨b, e, Nat.le_trans hs hb⟩)
theorem World.grownBy_refl' (w : World) (o : Option Nat) : w.grownBy w.drew o := ⟨rfl, rfl, rfl, Nat.le_refl _, fun _ _ _ => rfl⟩
theorem grown_then {w w1 w2 : World} {o o1 : Option Nat} (h : w.grownBy w1 o) (k : w1.grownBy w2 o1) (hat : o1 = o ∨ ∃ b, o1 = some b ∧ w.heap.size ≤ b) : w.grownBy w2 o :=
 ⟨k.os.trans h.os, k.tape.trans h.tape, k.output.trans h.output, Nat.le_trans h.size k.size, fun i hi hne => (k.block i (Nat.lt_of_lt_of_le hi h.size) (by
  rcases hat with rfl | ⟨b, rfl, hb⟩
  ·
   exact hne
  ·
   intro e; cases e; omega)).trans (h.block i hi hne)⟩
theorem grown_new {w w1 w2 : World} {o : Option Nat} (h : w.grownBy w1 o) (k : w1.grownBy w2 none) : w.grownBy w2 o :=
 ⟨k.os.trans h.os, k.tape.trans h.tape, k.output.trans h.output, Nat.le_trans h.size k.size, fun i hi hne => (k.block i (Nat.lt_of_lt_of_le hi h.size) (by simp)).trans (h.block i hi hne)⟩
theorem hat_then {w w1 : World} {v v1 v2 : Value} (h : Hat w v v1) (k : Hat w1 v1 v2) (hs : w.heap.size ≤ w1.heap.size) : Hat w v v2 := by
 rcases k with e | ⟨b, e, hb⟩
 ·
  rcases h with e1 | ⟨b, e1, hb⟩
  ·
   exact .inl (e.trans e1)
  ·
   exact .inr ⟨b, e.trans e1, hb⟩
 ·
  exact .inr ⟨b, e, Nat.le_trans hs hb⟩
theorem R33_ok {e base : Nat} {ok ok' : Nat → Prop} {w : World} {v : Value} {xs : List S35} (h : k35.R e w base ok v xs) (hok : ∀ k, v.ownBlock = some k → ok' k) : k35.R e w base ok' v xs :=
 ⟨hok, h.2.imp fun inner ⟨ho, hr⟩ => ⟨ho, hr.imp_ (fun p c hp => by rw [k35_openM hp]; exact k35_mkM _ _ _ p)⟩⟩

set_option maxHeartbeats 1000000 in
set_option maxRecDepth 100000 in
theorem items_calls (t : Tr) : ∀ (u : Option Addr) (lo hi base : Nat) (v : Value) (out : List S35) (w : World) (h : IsN w lo hi u t) (hib : hi ≤ base) (hv : Kd.R k35 35 w base (fun _ => True) v out) (hlen : out.length + t.sz ≤ 1000) (hb : base ≤ w.heap.size),
  Calls Tryz.prog 43 #[.pointer u, v] w fun e w' => ∃ v', e = .returned v' ∧ Kd.R k35 35 w' base (fun _ => True) v' (out ++ t.items) ∧ w.grownBy w' v.ownBlock ∧ Hat w v v' := by
 induction t with
 | nil =>
  intro u lo hi base v out w h hib hv hlen hb
  obtain ⟨rfl, _⟩ := h
  obtain ⟨A, c, rfl⟩ := Kd.R_slice hv
  have HV := Aside0.mk hv
  clear hv
  go_enter Tryz.func43, Tryz.ntmps43
  go_wp2
  go_ret
  exact ⟨_, rfl, by simpa [Tr.items] using HV.out, ⟨rfl, rfl, rfl, Nat.le_refl _, fun _ _ _ => rfl⟩, .inl rfl⟩
 | node x l r ihl ihr =>
  intro u lo hi base v out w h hib hv hlen hbs
  obtain ⟨g, m, lu, ru, rfl, hgh, hblk, hL, hR⟩ := h
  obtain ⟨A, c, rfl⟩ := Kd.R_slice hv
  have HV0 := Aside0.mk hv
  generalize hn : out.length = n at hlen ⊢ hv
  have HN := Aside0.mk hn
  have HV := Aside0.mk hv
  clear HV0
  have hgb : g < base := Nat.lt_of_lt_of_le hgh hib
  have hmg : Aside0 (m ≤ hi ∧ True) := ⟨by have := hR.le; omega, trivial⟩
  have hib := Aside0.mk hib
  have hL := Aside0.mk hL
  have hR := Aside0.mk hR
  have hlen := Aside0.mk hlen
  have hbs := Aside0.mk hbs
  clear hv hn
  go_enter Tryz.func43, Tryz.ntmps43
  go_wp2
  refine start_ (n := 18) (S := fun w' => Below base w w') (ds := []) #[false, false, false, false, false, false, false, false, false, false, false, false, false, false, false, false, false, false] (by kernel_rfl) rfl rfl (below_drew (Below.refl _ _)) (fun hHeld => ?_)
  refine pure_ (i := 0) (N := (some 8)) (v := ?_) (a' := ?_) #[true, false, false, false, false, false, false, false, false, false, false, false, false, false, false, false, false, false] rfl rfl (by kernel_rfl) (fun _ _ _ h => h) (Or.inl ⟨by rfl, ?_⟩) ?_ ?_
  rotate_left
  ·
   intro w'
   go_simp
   with_reducible rfl
  rotate_left
  ·
   simp only [Act.put, List.setIfInBounds_toArray, List.set_cons_zero, List.set_cons_succ, i64_w, i32_w]
   rfl
  refine pure_ (i := 1) (N := (some 9)) (v := ?_) (a' := ?_) #[true, true, false, false, false, false, false, false, false, false, false, false, false, false, false, false, false, false] rfl rfl (by kernel_rfl) (fun _ _ _ h => h) (Or.inl ⟨by rfl, ?_⟩) ?_ ?_
  rotate_left
  ·
   intro w'
   go_simp
   with_reducible rfl
  rotate_left
  ·
   simp only [Act.put, List.setIfInBounds_toArray, List.set_cons_zero, List.set_cons_succ, i64_w, i32_w]
   rfl
  refine pure_ (i := 2) (N := (some 10)) (v := ?_) (a' := ?_) #[true, true, true, false, false, false, false, false, false, false, false, false, false, false, false, false, false, false] rfl rfl (by kernel_rfl) (fun _ _ _ h => h) (Or.inl ⟨by rfl, ?_⟩) ?_ ?_
  rotate_left
  ·
   intro w'
   go_simp
   with_reducible rfl
  rotate_left
  ·
   simp only [Act.put, List.setIfInBounds_toArray, List.set_cons_zero, List.set_cons_succ, i64_w, i32_w]
   rfl
  refine take_ (i := 3) (N := (some 11)) (v := ?_) (a' := ?_) #[true, true, true, true, false, false, false, false, false, false, false, false, false, false, false, false, false, false] rfl rfl (by kernel_rfl) (fun _ _ _ h => h) (Or.inl ⟨by rfl, ?_⟩) hHeld ?_ ?_
  rotate_left
  ·
   intro w' sb_
   have hq_ := (sb_.block g hgb).trans hblk
   have s0_ : w'.cell? ⟨g, 4, none⟩ = some (.pointer ru) := (blk_cell hq_ 4).trans rfl
   clear sb_ hq_
   go_simp
   with_reducible rfl
  rotate_left
  ·
   simp only [Act.put, List.setIfInBounds_toArray, List.set_cons_zero, List.set_cons_succ, i64_w, i32_w]
   rfl
  refine pure_ (i := 4) (N := (some 12)) (v := ?_) (a' := ?_) #[true, true, true, true, true, false, false, false, false, false, false, false, false, false, false, false, false, false] rfl rfl (by kernel_rfl) (fun _ _ _ h => h) (Or.inl ⟨by rfl, ?_⟩) ?_ ?_
  rotate_left
  ·
   intro w'
   go_simp
   with_reducible rfl
  rotate_left
  ·
   simp only [Act.put, List.setIfInBounds_toArray, List.set_cons_zero, List.set_cons_succ, i64_w, i32_w]
   rfl
  refine pure_ (i := 5) (N := (some 13)) (v := ?_) (a' := ?_) #[true, true, true, true, true, true, false, false, false, false, false, false, false, false, false, false, false, false] rfl rfl (by kernel_rfl) (fun _ _ _ h => h) (Or.inl ⟨by rfl, ?_⟩) ?_ ?_
  rotate_left
  ·
   intro w'
   go_simp
   with_reducible rfl
  rotate_left
  ·
   simp only [Act.put, List.setIfInBounds_toArray, List.set_cons_zero, List.set_cons_succ, i64_w, i32_w]
   rfl
  refine pure_ (i := 6) (N := (some 14)) (v := ?_) (a' := ?_) #[true, true, true, true, true, true, true, false, false, false, false, false, false, false, false, false, false, false] rfl rfl (by kernel_rfl) (fun _ _ _ h => h) (Or.inl ⟨by rfl, ?_⟩) ?_ ?_
  rotate_left
  ·
   intro w'
   go_simp
   with_reducible rfl
  rotate_left
  ·
   simp only [Act.put, List.setIfInBounds_toArray, List.set_cons_zero, List.set_cons_succ, i64_w, i32_w]
   rfl
  refine take_ (i := 7) (N := (some 15)) (v := ?_) (a' := ?_) #[true, true, true, true, true, true, true, true, false, false, false, false, false, false, false, false, false, false] rfl rfl (by kernel_rfl) (fun _ _ _ h => h) (Or.inl ⟨by rfl, ?_⟩) hHeld ?_ ?_
  rotate_left
  ·
   intro w' sb_
   have hq_ := (sb_.block g hgb).trans hblk
   have s0_ : w'.cell? ⟨g, 3, none⟩ = some (.pointer lu) := (blk_cell hq_ 3).trans rfl
   clear sb_ hq_
   go_simp
   with_reducible rfl
  rotate_left
  ·
   simp only [Act.put, List.setIfInBounds_toArray, List.set_cons_zero, List.set_cons_succ, i64_w, i32_w]
   rfl
  refine pure_ (i := 8) (N := (some 16)) (v := ?_) (a' := ?_) #[true, true, true, true, true, true, true, true, true, false, false, false, false, false, false, false, false, false] rfl rfl (by kernel_rfl) (fun _ _ _ h => h) (Or.inl ⟨by rfl, ?_⟩) ?_ ?_
  rotate_left
  ·
   intro w'
   go_simp
   with_reducible rfl
  rotate_left
  ·
   simp only [Act.put, List.setIfInBounds_toArray, List.set_cons_zero, List.set_cons_succ, i64_w, i32_w]
   rfl
  refine pure_ (i := 10) (N := (some 18)) (v := ?_) (a' := ?_) #[true, true, true, true, true, true, true, true, true, false, true, false, false, false, false, false, false, false] rfl rfl (by kernel_rfl) (fun _ _ _ h => h) (Or.inl ⟨by rfl, ?_⟩) ?_ ?_
  rotate_left
  ·
   intro w'
   go_simp
   with_reducible rfl
  rotate_left
  ·
   simp only [Act.put, List.setIfInBounds_toArray, List.set_cons_zero, List.set_cons_succ, i64_w, i32_w]
   rfl
  refine pure_ (i := 11) (N := (some 19)) (v := ?_) (a' := ?_) #[true, true, true, true, true, true, true, true, true, false, true, true, false, false, false, false, false, false] rfl rfl (by kernel_rfl) (fun _ _ _ h => h) (Or.inl ⟨by rfl, ?_⟩) ?_ ?_
  rotate_left
  ·
   intro w'
   go_simp
   with_reducible rfl
  rotate_left
  ·
   simp only [Act.put, List.setIfInBounds_toArray, List.set_cons_zero, List.set_cons_succ, i64_w, i32_w]
   rfl
  refine pure_ (i := 12) (N := (some 20)) (v := ?_) (a' := ?_) #[true, true, true, true, true, true, true, true, true, false, true, true, true, false, false, false, false, false] rfl rfl (by kernel_rfl) (fun _ _ _ h => h) (Or.inl ⟨by rfl, ?_⟩) ?_ ?_
  rotate_left
  ·
   intro w'
   go_simp
   with_reducible rfl
  rotate_left
  ·
   simp only [Act.put, List.setIfInBounds_toArray, List.set_cons_zero, List.set_cons_succ, i64_w, i32_w]
   rfl
  refine take_ (i := 13) (N := (some 21)) (v := ?_) (a' := ?_) #[true, true, true, true, true, true, true, true, true, false, true, true, true, true, false, false, false, false] rfl rfl (by kernel_rfl) (fun _ _ _ h => h) (Or.inl ⟨by rfl, ?_⟩) hHeld ?_ ?_
  rotate_left
  ·
   intro w' sb_
   have hq_ := (sb_.block g hgb).trans hblk
   have s0_ : w'.cell? ⟨g, 0, none⟩ = some (.int .i64 x.f0) := (blk_cell hq_ 0).trans rfl
   have s1_ : w'.cell? ⟨g, 1, none⟩ = some (.int .i64 x.f1) := (blk_cell hq_ 1).trans rfl
   have s2_ : w'.cell? ⟨g, 2, none⟩ = some (.int .i64 x.f2) := (blk_cell hq_ 2).trans rfl
   clear sb_ hq_
   go_simp
   with_reducible rfl
  rotate_left
  ·
   simp only [Act.put, List.setIfInBounds_toArray, List.set_cons_zero, List.set_cons_succ, i64_w, i32_w]
   rfl
  refine join_ (σ := Value × Value) 3 #[true, true, true, true, true, true, true, true, true, true, true, true, true, true, true, false, false, false] (fun s_ => [(17, s_.1), (22, s_.2)]) (fun s_ w' => Below base w w' ∧ Kd.R k35 35 w' base (fun k_ => some k_ ≠ (s_.2 : Value).ownBlock) s_.1 (out ++ l.items) ∧ Kd.R k35 35 w' base (fun k_ => some k_ ≠ (s_.1 : Value).ownBlock) s_.2 [x] ∧ w.grownBy w' (Value.slice A n c).ownBlock ∧ Hat w (Value.slice A n c) s_.1) ?_ ?_
  rotate_left
  ·
   intro hCont
   refine two_ (i := 9) (j := 14) (Ni := (some 17)) (Nj := (some 22)) #[true, true, true, true, true, true, true, true, true, true, true, true, true, true, false, false, false, false] #[true, true, true, true, true, true, true, true, true, false, true, true, true, true, true, false, false, false] rfl rfl rfl rfl (by kernel_rfl) (by decide) (by decide) (fun K hK => ?_) (fun K hK => ?_)
   ·
    skip
    refine goes_ Tryz.func43 (by kernel_rfl) rfl #[.pointer lu, .slice A n c] (by rfl) rfl rfl (by first | rfl | (simp only [List.map_toArray, List.map_cons, List.map_nil]; rfl)) ?_
    with_reducible refine (ihl lu lo m base _ out _ ?side0 ?side1 ?side2 ?side3 ?side4).mono ?_
    (case side0 => exact IsN.keep hL.out (fun _ _ _ _ => rfl))
    (case side1 => exact Nat.le_trans hmg.out.1 hib.out)
    (case side2 => exact Kd.R_drew HV.out)
    (case side3 => exact (by have := hlen.out; have := HN.out; simp only [Tr.sz] at *; omega))
    (case side4 => exact hbs.out)
    rintro e w1 ⟨v17, rfl, h17, hg17, ha17⟩
    refine ⟨_, rfl, ?_⟩
    have HG := Aside0.mk (grown_then (World.grownBy_refl' w _ : w.grownBy w.drew _) hg17 (Or.inl rfl))
    have HA := Aside0.mk (ha17.of_drew)
    have HO := Aside0.mk h17
    clear h17 hg17 ha17
    have HB1 : Aside0 (Below base w w1) := ⟨pw_below_grown (Below.refl _ _) _ hbs.out HG.out (Kd.R_base HV.out)⟩
    refine hK.out _ _ HB1.out (fun hHeld => ?_)
    clear hK K
    refine norm_ (a' := ?_) ?_ ?_
    rotate_left
    ·
     show Act.put _ (some 17) _ = _
     simp only [Act.put, List.setIfInBounds_toArray, List.set_cons_zero, List.set_cons_succ, i64_w, i32_w]
     rfl
    refine one_ (i := 14) (N := (some 22)) #[true, true, true, true, true, true, true, true, true, true, true, true, true, true, true, false, false, false] rfl rfl (by kernel_rfl) (by decide) (fun K hK => ?_)
    refine Kd.R_lit_step k35 _ 35 ?hg (N := 22) ?hd (xs := [x]) (inner := [.int .i64 x.f0, .int .i64 x.f1, .int .i64 x.f2]) (ok := fun _ => True) (okp := fun _ => True) ?hr ?hp (fun _ hk => hk) trivial (Below.refl _ _) (Nat.le_refl _) (by simp) ?_; (case hd => rfl); (case hg => rfl); (case hr => first | (go_simp; done) | (go_simp; rfl)); (case hp => exact (Reps.c3 (show Kd.M k35 _ _ _ x [.int .i64 x.f0, .int .i64 x.f1, .int .i64 x.f2] from k35_mkM _ _ _ x) (Reps.none _ _)))
    intro v22 w2 hl hb hg_ hnew_
    clear hnew_
    have n1_ := Aside0.mk (Kd.R_elder' HO.out (Kd.R_base hl) hb)
    have n2_ := Aside0.mk (Kd.R_lower (Kd.R_new' hl (Kd.R_lt HO.out)) (Nat.le_trans hbs.out HG.out.size))
    have HG2 := Aside0.mk (grown_new HG.out hg_)
    have HB2 : Aside0 (Below base w w2) := ⟨below_then HB1.out (Nat.le_trans hbs.out HG.out.size) hb⟩
    clear hl hb hg_ HO HB1 HG
    refine hK.out _ _ HB2.out (fun hHeld => ?_)
    clear hK K
    refine norm_ (a' := ?_) ?_ ?_
    rotate_left
    ·
     show Act.put _ (some 22) _ = _
     simp only [Act.put, List.setIfInBounds_toArray, List.set_cons_zero, List.set_cons_succ, i64_w, i32_w]
     rfl
    exact norm_ (by simp only [putAll, Act.put, List.setIfInBounds_toArray, List.set_cons_zero, List.set_cons_succ]) (hCont (v17, v22) _ ⟨hHeld, Kd.R_mono n1_.out (fun _ hk => hk.2), Kd.R_mono n2_.out (fun _ hk => hk.2), HG2.out, HA.out⟩)
   ·
    skip
    refine Kd.R_lit_step k35 _ 35 ?hg (N := 22) ?hd (xs := [x]) (inner := [.int .i64 x.f0, .int .i64 x.f1, .int .i64 x.f2]) (ok := fun _ => True) (okp := fun _ => True) ?hr ?hp (fun _ hk => hk) trivial (Below.refl _ _) (Nat.le_refl _) (by simp) ?_; (case hd => rfl); (case hg => rfl); (case hr => first | (go_simp; done) | (go_simp; rfl)); (case hp => exact (Reps.c3 (show Kd.M k35 _ _ _ x [.int .i64 x.f0, .int .i64 x.f1, .int .i64 x.f2] from k35_mkM _ _ _ x) (Reps.none _ _)))
    intro v22 w1 hl hb hg_ hnew_
    clear hnew_
    have n1_ := Aside0.mk (Kd.R_elder' (Kd.R_drew HV.out) (Kd.R_base hl) hb)
    have n2_ := Aside0.mk (Kd.R_lower (Kd.R_new' hl (Kd.R_lt (Kd.R_drew HV.out))) hbs.out)
    have HG := Aside0.mk (grown_new (World.grownBy_refl' w (Value.slice A n c).ownBlock) hg_)
    have HB1 : Aside0 (Below base w w1) := ⟨below_then (below_drew (Below.refl _ _)) hbs.out hb⟩
    clear hl hb hg_
    refine hK.out _ _ HB1.out (fun hHeld => ?_)
    clear hK K
    refine norm_ (a' := ?_) ?_ ?_
    rotate_left
    ·
     show Act.put _ (some 22) _ = _
     simp only [Act.put, List.setIfInBounds_toArray, List.set_cons_zero, List.set_cons_succ, i64_w, i32_w]
     rfl
    refine one_ (i := 9) (N := (some 17)) #[true, true, true, true, true, true, true, true, true, true, true, true, true, true, true, false, false, false] rfl rfl (by kernel_rfl) (by decide) (fun K hK => ?_)
    refine goes_ Tryz.func43 (by kernel_rfl) rfl #[.pointer lu, .slice A n c] (by rfl) rfl rfl (by first | rfl | (simp only [List.map_toArray, List.map_cons, List.map_nil]; rfl)) ?_
    with_reducible refine (ihl lu lo m base _ out _ ?side0 ?side1 ?side2 ?side3 ?side4).mono ?_
    (case side0 => exact IsN.keep hL.out (fun k _ hk _ => HB1.out.block k (Nat.lt_of_lt_of_le hk (Nat.le_trans hmg.out.1 hib.out))))
    (case side1 => exact Nat.le_trans hmg.out.1 hib.out)
    (case side2 => exact Kd.R_mono n1_.out (fun _ _ => trivial))
    (case side3 => exact (by have := hlen.out; have := HN.out; simp only [Tr.sz] at *; omega))
    (case side4 => exact Nat.le_trans hbs.out HG.out.size)
    rintro e w2 ⟨v17, rfl, h17, hg17, ha17⟩
    refine ⟨_, rfl, ?_⟩
    have n3_ := Aside0.mk (Kd.R_after (ok := fun _ => True) (Kd.R_mono n2_.out (fun _ hk => ⟨trivial, hk.2⟩)) hg17 ha17.raw)
    have HG2 := Aside0.mk (grown_then HG.out hg17 (Or.inl rfl))
    have HA := Aside0.mk (ha17.older HG.out.size)
    have HO : Aside0 (Kd.R k35 35 w2 base (fun k_ => some k_ ≠ (v22 : Value).ownBlock) v17 (out ++ l.items)) := ⟨R33_ok h17 (fun k hk he => (n3_.out.1 k he.symm).2 hk.symm)⟩
    clear h17 hg17 ha17
    have HB2 : Aside0 (Below base w w2) := ⟨pw_below_grown (Below.refl _ _) _ hbs.out HG2.out (Kd.R_base HV.out)⟩
    refine hK.out _ _ HB2.out (fun hHeld => ?_)
    clear hK K
    refine norm_ (a' := ?_) ?_ ?_
    rotate_left
    ·
     show Act.put _ (some 17) _ = _
     simp only [Act.put, List.setIfInBounds_toArray, List.set_cons_zero, List.set_cons_succ, i64_w, i32_w]
     rfl
    exact norm_ (by simp only [putAll, Act.put, List.setIfInBounds_toArray, List.set_cons_zero, List.set_cons_succ]) (hCont (v17, v22) _ ⟨hHeld, HO.out, Kd.R_mono n3_.out (fun _ hk => hk.2), HG2.out, HA.out⟩)
  rintro ⟨v17, v22⟩ w2 ⟨hS_, h0_, h1_, h2_, h3_⟩
  have hHeld : Below base w w2 := hS_
  have HO := Aside0.mk h0_
  have HL := Aside0.mk h1_
  have HG := Aside0.mk h2_
  have HA := Aside0.mk h3_
  clear h0_ h1_ h2_ h3_ hS_
  obtain ⟨A2, c2, e2⟩ := Kd.R_slice HL.out
  subst e2
  refine norm_ (a' := ?_) ?_ ?_
  rotate_left
  ·
   simp only [putAll, Act.put, List.setIfInBounds_toArray, List.set_cons_zero, List.set_cons_succ]
   rfl
  refine one_ (i := 15) (N := (some 23)) #[true, true, true, true, true, true, true, true, true, true, true, true, true, true, true, true, false, false] rfl rfl (by kernel_rfl) (by decide) (fun K hK => ?_)
  refine Kd.R_append_rows_step k35 base (by rfl) (.tmp 17) (.tmp 22) 67 35 (.agg #[(.int .i64 0), (.int .i64 0), (.int .i64 0)]) 24 rfl Tryz.underlying67 info35t rfl (by decide) (by omega) v17 (out ++ l.items) [x] _ _ _ (fun k_ => some k_ ≠ (.slice A2 [x].length c2 : Value).ownBlock) (fun _ => False) rfl rfl HO.out (Kd.R_reads' HL.out).2.2 (fun _ _ h => h) (fun _ h => h.elim) (fun k_ hk => Kd.fresh' (Kd.R_lt HL.out) k_ hk) (Below.refl _ _) (Nat.le_trans hbs.out HG.out.size) ?aL ?_
  (case aL => have := hlen.out; have := HN.out; have := Tr.items_len l; simp only [List.length_append, List.length_cons, List.length_nil]; simp only [Tr.sz] at *; omega)
  intro v23 w3 ho hb hg hat
  have HG3 := Aside0.mk (grown_then HG.out hg HA.out)
  have HA3 := Aside0.mk (hat_then HA.out hat HG.out.size)
  have HO3 := Aside0.mk (Kd.R_mono (ok' := fun _ => True) ho (fun _ _ => trivial))
  have HB3 : Aside0 (Below base w w3) := ⟨pw_below_grown (Below.refl _ _) _ hbs.out HG3.out (Kd.R_base HV.out)⟩
  clear ho hb hg hat
  refine hK.out _ _ HB3.out (fun hHeld => ?_)
  clear hK K
  refine norm_ (a' := ?_) ?_ ?_
  rotate_left
  ·
   show Act.put _ (some 23) _ = _
   simp only [Act.put, List.setIfInBounds_toArray, List.set_cons_zero, List.set_cons_succ, i64_w, i32_w]
   rfl
  refine one_ (i := 16) (N := (some 24)) #[true, true, true, true, true, true, true, true, true, true, true, true, true, true, true, true, true, false] rfl rfl (by kernel_rfl) (by decide) (fun K hK => ?_)
  refine goes_ Tryz.func43 (by kernel_rfl) rfl #[.pointer ru, v23] (by rfl) rfl rfl (by first | rfl | (simp only [List.map_toArray, List.map_cons, List.map_nil]; rfl)) ?_
  with_reducible refine (ihr ru m g base _ (out ++ l.items ++ [x]) _ ?side0 ?side1 ?side2 ?side3 ?side4).mono ?_
  (case side0 => exact IsN.keep hR.out (fun k _ hk _ => HB3.out.block k (Nat.lt_trans hk hgb)))
  (case side1 => exact Nat.le_of_lt hgb)
  (case side2 => exact HO3.out)
  (case side3 => exact (by have := hlen.out; have := HN.out; have := Tr.items_len l; simp only [List.length_append, List.length_cons, List.length_nil]; simp only [Tr.sz] at *; omega))
  (case side4 => exact Nat.le_trans hbs.out HG3.out.size)
  rintro e w4 ⟨v24, rfl, h24, hg24, ha24⟩
  refine ⟨_, rfl, ?_⟩
  have HG4 := Aside0.mk (grown_then HG3.out hg24 HA3.out)
  have HA4 := Aside0.mk (hat_then HA3.out ha24.raw HG3.out.size)
  have HO4 := Aside0.mk h24
  have HB4 : Aside0 (Below base w w4) := ⟨pw_below_grown (Below.refl _ _) _ hbs.out HG4.out (Kd.R_base HV.out)⟩
  clear h24 hg24 ha24
  refine hK.out _ _ HB4.out (fun hHeld => ?_)
  clear hK K
  refine norm_ (a' := ?_) ?_ ?_
  rotate_left
  ·
   show Act.put _ (some 24) _ = _
   simp only [Act.put, List.setIfInBounds_toArray, List.set_cons_zero, List.set_cons_succ, i64_w, i32_w]
   rfl
  refine pure_ (i := 17) (N := (some 4)) (v := ?_) (a' := ?_) #[true, true, true, true, true, true, true, true, true, true, true, true, true, true, true, true, true, true] rfl rfl (by kernel_rfl) (fun _ _ _ h => h) (Or.inl ⟨by rfl, ?_⟩) ?_ ?_
  rotate_left
  ·
   intro w'
   go_simp
   with_reducible rfl
  rotate_left
  ·
   simp only [Act.put, List.setIfInBounds_toArray, List.set_cons_zero, List.set_cons_succ, i64_w, i32_w]
   rfl
  refine done_ (by kernel_rfl) ?_
  go_wp2
  go_ret
  exact ⟨_, rfl, by have := HO4.out; simpa [Tr.items] using this, HG4.out, HA4.out⟩
theorem drawn_drew {w w1 : World} (h : Drawn0 w.drew w1) : Drawn0 w w1 := by obtain ⟨⟨q, rfl⟩⟩ := h; exact Drawn0.step (⟨⟨1, rfl⟩⟩ : Drawn0 w w.drew) q
theorem drawn_trans {w w1 w2 : World} (h : Drawn0 w w1) (k : Drawn0 w1 w2) : Drawn0 w w2 := by obtain ⟨⟨q, rfl⟩⟩ := k; exact h.step q
set_option maxHeartbeats 1000000 in
set_option maxRecDepth 100000 in
theorem tell_calls (g lo m hi lo2 : Nat) (x : S35) (lu ru : Option Addr) (l r : Tr) (hv : Int) (w : World) (hblk : w.heap[g]? = some (.cells #[.int .i64 x.f0, .int .i64 x.f1, .int .i64 x.f2, .pointer lu, .pointer ru, .int .i64 hv] 91 (0, 0)))
  (hL : IsN w lo m lu l) (hR : IsN w lo2 hi ru r) (hlen : l.sz + r.sz ≤ 1000) :
  Calls Tryz.prog 61 #[.pointer (some ⟨g, 0, none⟩)] w fun e w' => e = .returned (.tuple #[]) ∧ ∃ q, w' = (w.drewN q).setCell ⟨g, 5, none⟩ (.int .i64 ((1 + max l.ht r.ht : Nat) : Int)) := by
 have hl := Tr.ht_le l
 have hr := Tr.ht_le r
 have hL := Aside0.mk hL
 have hR := Aside0.mk hR
 have hw : wrap64 (1 + (if (l.ht : Int) < (r.ht : Int) then (r.ht : Int) else (l.ht : Int))) = ((1 + max l.ht r.ht : Nat) : Int) := by
  unfold wrap64
  split <;> omega
 go_enter Tryz.func61, Tryz.ntmps61
 refine start_ (n := 16) (S := fun w' => Drawn0 w w') (ds := [15]) #[false, false, false, false, false, false, false, false, false, false, false, false, false, false, false, false] (by kernel_rfl) rfl rfl ⟨⟨1, rfl⟩⟩ (fun hHeld => ?_)
 refine pure_ (i := 0) (N := (some 2)) (v := ?_) (a' := ?_) #[true, false, false, false, false, false, false, false, false, false, false, false, false, false, false, false] rfl rfl (by kernel_rfl) (fun _ _ _ h => h) (Or.inl ⟨by rfl, ?_⟩) ?_ ?_
 rotate_left
 ·
  intro w'
  go_simp
  with_reducible rfl
 rotate_left
 ·
  simp only [Act.put, List.setIfInBounds_toArray, List.set_cons_zero, List.set_cons_succ, i64_w, i32_w]
  rfl
 refine pure_ (i := 1) (N := (some 3)) (v := ?_) (a' := ?_) #[true, true, false, false, false, false, false, false, false, false, false, false, false, false, false, false] rfl rfl (by kernel_rfl) (fun _ _ _ h => h) (Or.inl ⟨by rfl, ?_⟩) ?_ ?_
 rotate_left
 ·
  intro w'
  go_simp
  with_reducible rfl
 rotate_left
 ·
  simp only [Act.put, List.setIfInBounds_toArray, List.set_cons_zero, List.set_cons_succ, i64_w, i32_w]
  rfl
 refine pure_ (i := 2) (N := (some 4)) (v := ?_) (a' := ?_) #[true, true, true, false, false, false, false, false, false, false, false, false, false, false, false, false] rfl rfl (by kernel_rfl) (fun _ _ _ h => h) (Or.inl ⟨by rfl, ?_⟩) ?_ ?_
 rotate_left
 ·
  intro w'
  go_simp
  with_reducible rfl
 rotate_left
 ·
  simp only [Act.put, List.setIfInBounds_toArray, List.set_cons_zero, List.set_cons_succ, i64_w, i32_w]
  rfl
 refine pure_ (i := 3) (N := (some 5)) (v := ?_) (a' := ?_) #[true, true, true, true, false, false, false, false, false, false, false, false, false, false, false, false] rfl rfl (by kernel_rfl) (fun _ _ _ h => h) (Or.inl ⟨by rfl, ?_⟩) ?_ ?_
 rotate_left
 ·
  intro w'
  go_simp
  with_reducible rfl
 rotate_left
 ·
  simp only [Act.put, List.setIfInBounds_toArray, List.set_cons_zero, List.set_cons_succ, i64_w, i32_w]
  rfl
 refine take_ (i := 4) (N := (some 6)) (v := ?_) (a' := ?_) #[true, true, true, true, true, false, false, false, false, false, false, false, false, false, false, false] rfl rfl (by kernel_rfl) (fun _ _ _ h => h) (Or.inl ⟨by rfl, ?_⟩) hHeld ?_ ?_
 rotate_left
 ·
  intro w' sb_
  obtain ⟨⟨n_, rfl⟩⟩ := sb_
  have s0_ : (w.drewN n_).cell? ⟨g, 3, none⟩ = some (.pointer lu) := (blk_cell hblk 3).trans rfl
  go_simp
  with_reducible rfl
 rotate_left
 ·
  simp only [Act.put, List.setIfInBounds_toArray, List.set_cons_zero, List.set_cons_succ, i64_w, i32_w]
  rfl
 refine pure_ (i := 6) (N := (some 8)) (v := ?_) (a' := ?_) #[true, true, true, true, true, false, true, false, false, false, false, false, false, false, false, false] rfl rfl (by kernel_rfl) (fun _ _ _ h => h) (Or.inl ⟨by rfl, ?_⟩) ?_ ?_
 rotate_left
 ·
  intro w'
  go_simp
  with_reducible rfl
 rotate_left
 ·
  simp only [Act.put, List.setIfInBounds_toArray, List.set_cons_zero, List.set_cons_succ, i64_w, i32_w]
  rfl
 refine pure_ (i := 7) (N := (some 9)) (v := ?_) (a' := ?_) #[true, true, true, true, true, false, true, true, false, false, false, false, false, false, false, false] rfl rfl (by kernel_rfl) (fun _ _ _ h => h) (Or.inl ⟨by rfl, ?_⟩) ?_ ?_
 rotate_left
 ·
  intro w'
  go_simp
  with_reducible rfl
 rotate_left
 ·
  simp only [Act.put, List.setIfInBounds_toArray, List.set_cons_zero, List.set_cons_succ, i64_w, i32_w]
  rfl
 refine pure_ (i := 8) (N := (some 10)) (v := ?_) (a' := ?_) #[true, true, true, true, true, false, true, true, true, false, false, false, false, false, false, false] rfl rfl (by kernel_rfl) (fun _ _ _ h => h) (Or.inl ⟨by rfl, ?_⟩) ?_ ?_
 rotate_left
 ·
  intro w'
  go_simp
  with_reducible rfl
 rotate_left
 ·
  simp only [Act.put, List.setIfInBounds_toArray, List.set_cons_zero, List.set_cons_succ, i64_w, i32_w]
  rfl
 refine take_ (i := 9) (N := (some 11)) (v := ?_) (a' := ?_) #[true, true, true, true, true, false, true, true, true, true, false, false, false, false, false, false] rfl rfl (by kernel_rfl) (fun _ _ _ h => h) (Or.inl ⟨by rfl, ?_⟩) hHeld ?_ ?_
 rotate_left
 ·
  intro w' sb_
  obtain ⟨⟨n_, rfl⟩⟩ := sb_
  have s0_ : (w.drewN n_).cell? ⟨g, 4, none⟩ = some (.pointer ru) := (blk_cell hblk 4).trans rfl
  go_simp
  with_reducible rfl
 rotate_left
 ·
  simp only [Act.put, List.setIfInBounds_toArray, List.set_cons_zero, List.set_cons_succ, i64_w, i32_w]
  rfl
 refine one_ (i := 5) (N := (some 7)) #[true, true, true, true, true, true, true, true, true, true, false, false, false, false, false, false] rfl rfl (by kernel_rfl) (by decide) (fun K hK => ?_)
 refine goes_ Tryz.func69 (by kernel_rfl) rfl #[.pointer lu] (by rfl) rfl rfl (by first | rfl | (simp only [List.map_toArray, List.map_cons, List.map_nil]; rfl)) ?_
 with_reducible refine (height_calls lu l lo m _ ?side0).mono ?_
 (case side0 => exact hL.out.drewN 1)
 rintro e w1 ⟨rfl, hd⟩
 refine ⟨_, rfl, ?_⟩
 have HD1 : Drawn0 w w1 := drawn_drew hd
 clear hd
 refine hK.out _ _ HD1 (fun hHeld => ?_)
 clear hK K
 refine norm_ (a' := ?_) ?_ ?_
 rotate_left
 ·
  show Act.put _ (some 7) _ = _
  simp only [Act.put, List.setIfInBounds_toArray, List.set_cons_zero, List.set_cons_succ, i64_w, i32_w]
  rfl
 refine one_ (i := 10) (N := (some 12)) #[true, true, true, true, true, true, true, true, true, true, true, false, false, false, false, false] rfl rfl (by kernel_rfl) (by decide) (fun K hK => ?_)
 refine goes_ Tryz.func69 (by kernel_rfl) rfl #[.pointer ru] (by rfl) rfl rfl (by first | rfl | (simp only [List.map_toArray, List.map_cons, List.map_nil]; rfl)) ?_
 with_reducible refine (height_calls ru r lo2 hi _ ?side0).mono ?_
 (case side0 => obtain ⟨⟨q, rfl⟩⟩ := HD1; exact hR.out.drewN q)
 rintro e w2 ⟨rfl, hd⟩
 refine ⟨_, rfl, ?_⟩
 have HD2 : Drawn0 w w2 := drawn_trans HD1 hd
 clear hd HD1
 refine hK.out _ _ HD2 (fun hHeld => ?_)
 clear hK K
 refine norm_ (a' := ?_) ?_ ?_
 rotate_left
 ·
  show Act.put _ (some 12) _ = _
  simp only [Act.put, List.setIfInBounds_toArray, List.set_cons_zero, List.set_cons_succ, i64_w, i32_w]
  rfl
 refine pure_ (i := 11) (N := (some 13)) (v := ?_) (a' := ?_) #[true, true, true, true, true, true, true, true, true, true, true, true, false, false, false, false] rfl rfl (by kernel_rfl) (fun _ _ _ h => h) (Or.inl ⟨by rfl, ?_⟩) ?_ ?_
 rotate_left
 ·
  intro w'
  go_simp
  with_reducible rfl
 rotate_left
 ·
  simp only [Act.put, List.setIfInBounds_toArray, List.set_cons_zero, List.set_cons_succ, i64_w, i32_w]
  rfl
 refine pure_ (i := 12) (N := (some 14)) (v := ?_) (a' := ?_) #[true, true, true, true, true, true, true, true, true, true, true, true, true, false, false, false] rfl rfl (by kernel_rfl) (fun _ _ _ h => h) (Or.inl ⟨by rfl, ?_⟩) ?_ ?_
 rotate_left
 ·
  intro w'
  go_simp
  with_reducible rfl
 rotate_left
 ·
  simp only [Act.put, List.setIfInBounds_toArray, List.set_cons_zero, List.set_cons_succ, i64_w, i32_w]
  rfl
 refine pure_ (i := 13) (N := (some 15)) (v := ?_) (a' := ?_) #[true, true, true, true, true, true, true, true, true, true, true, true, true, true, false, false] rfl rfl (by kernel_rfl) (fun _ _ _ h => h) (Or.inl ⟨by rfl, ?_⟩) ?_ ?_
 rotate_left
 ·
  intro w'
  go_simp
  with_reducible rfl
 rotate_left
 ·
  simp only [Act.put, List.setIfInBounds_toArray, List.set_cons_zero, List.set_cons_succ, i64_w, i32_w]
  rfl
 refine pure_ (i := 14) (N := (some 16)) (v := ?_) (a' := ?_) #[true, true, true, true, true, true, true, true, true, true, true, true, true, true, true, false] rfl rfl (by kernel_rfl) (fun _ _ _ h => h) (Or.inl ⟨by rfl, ?_⟩) ?_ ?_
 rotate_left
 ·
  intro w'
  go_simp
  with_reducible rfl
 rotate_left
 ·
  simp only [Act.put, List.setIfInBounds_toArray, List.set_cons_zero, List.set_cons_succ, i64_w, i32_w]
  rfl
 refine last_ (i := 15) (N := none) #[true, true, true, true, true, true, true, true, true, true, true, true, true, true, true, true] rfl rfl (by kernel_rfl) (by decide) (fun K hK => ?_)
 obtain ⟨⟨q, rfl⟩⟩ := HD2
 clear hHeld
 have hc : (w.drewN q).cell? ⟨g, 5, none⟩ = some (.int .i64 hv) := (blk_cell hblk 5).trans rfl
 have hf : (w.drewN q).frozen? ⟨g, 5, none⟩ = false := blk_frozen (blk_drewN hblk q) 5
 refine skip_ (w1 := ?_) (by rfl) rfl ?_ ?_
 rotate_left
 ·
  go_simp
  rfl
 refine hK.out _ _ ?_
 clear hK K
 refine done_ (by kernel_rfl) ?_
 clear hc hf
 go_end0
 refine ⟨rfl, q, ?_⟩
 simp [wrap64]
 congr 2
 first | omega | (split <;> omega)
theorem height_q (u : Option Addr) (t : Tr) (lo hi : Nat) (w : World) (h : IsN w lo hi u t) : Calls Tryz.prog 69 #[.pointer u] w fun e w' => e = .returned (.int .i64 (t.ht : Nat)) ∧ ∃ m, w' = w.drewN m :=
 (height_calls u t lo hi w h).mono fun _ _ h_ => ⟨h_.1, h_.2.out⟩
theorem in_q (a b c : Int) (r : Bool) (w : World) (h : impl_in.f a b c = some r) : Calls Tryz.prog 60 #[.int .i64 a, .int .i64 b, .int .i64 c] w fun e w' => e = .returned (.bool r) ∧ ∃ m, w' = w.drewN m :=
 (impl_in.calls a b c r w h).mono fun _ _ h_ => ⟨h_.1, h_.2.out⟩
set_option maxHeartbeats 1000000 in
set_option maxRecDepth 100000 in
theorem isFlat_calls (t : Tr) : ∀ (u : Option Addr) (lo hi : Nat) (w : World) (h : IsN w lo hi u t) (hlen : t.sz ≤ 1000),
  Calls Tryz.prog 47 #[.pointer u] w fun e w' => e = .returned (.bool t.flat) ∧ ∃ n, w' = w.drewN n := by
 induction t with
 | nil =>
  intro u lo hi w h hlen
  obtain ⟨rfl, _⟩ := h
  go_enter Tryz.func47, Tryz.ntmps47
  go_wp2
  go_quiet (fail)
  go_wp2
  go_ret
  exact ⟨rfl, _, rfl⟩
 | node x l r ihl ihr =>
  intro u lo hi w h hlen
  obtain ⟨g, m, lu, ru, rfl, hgh, hblk, hL, hR⟩ := h
  have hl := Tr.ht_le l
  have hr := Tr.ht_le r
  have hs0 : l.sz ≤ 1000 := by simp only [Tr.sz] at hlen; omega
  have hs1 : r.sz ≤ 1000 := by simp only [Tr.sz] at hlen; omega
  have hx3 := blk_cell hblk 3
  have hx4 := blk_cell hblk 4
  simp only [List.getElem?_toArray, List.getElem?_cons_zero, List.getElem?_cons_succ] at hx3 hx4
  have hw : wrap64 ((l.ht : Int) - r.ht) = (l.ht : Int) - r.ht := by unfold wrap64; simp only [Tr.sz] at hlen; omega
  have hin : impl_in.f (IntKind.i64.wrap ((l.ht : Int) - r.ht)) (-1) 1 = some (decide (-1 ≤ (l.ht : Int) - r.ht ∧ (l.ht : Int) - r.ht ≤ 1)) := by
   rw [i64_w, hw]
   unfold impl_in.f
   by_cases h1 : -1 ≤ (l.ht : Int) - r.ht <;> simp [h1]
  have hL := Aside0.mk hL
  have hR := Aside0.mk hR
  have HIL := Aside0.mk (fun w h => ihl lu lo m w h hs0)
  have HIR := Aside0.mk (fun w h => ihr ru m g w h hs1)
  simp only [Tr.flat]
  generalize decide (-1 ≤ (l.ht : Int) - r.ht ∧ (l.ht : Int) - r.ht ≤ 1) = b at hin ⊢
  have HIN := Aside0.mk hin
  clear hw hblk hin ihl ihr hs0 hs1 hl hr hlen
  cases b with
  | false =>
   go_enter Tryz.func47, Tryz.ntmps47
   go_wp2
   go_quiet (first
   | (go_at_call_of 69 lu; refine Calls.quiet_of (height_q lu l lo m _ ?_); exact hL.out.drewN _)
   | (go_at_call_of 69 ru; refine Calls.quiet_of (height_q ru r m g _ ?_); exact hR.out.drewN _)
   | (go_at_call 60; refine Calls.quiet_of (in_q _ _ _ false _ HIN.out))
   | (go_at_call_of 47 lu; refine Calls.quiet_of (HIL.out _ ?_); exact hL.out.drewN _)
   | (go_at_call_of 47 ru; refine Calls.quiet_of (HIR.out _ ?_); exact hR.out.drewN _))
   go_wp2
   go_ret
   exact ⟨rfl, _, rfl⟩
  | true =>
   cases hf : l.flat with
   | false =>
    rw [hf] at HIL
    go_enter Tryz.func47, Tryz.ntmps47
    go_wp2
    go_quiet (first
   | (go_at_call_of 69 lu; refine Calls.quiet_of (height_q lu l lo m _ ?_); exact hL.out.drewN _)
   | (go_at_call_of 69 ru; refine Calls.quiet_of (height_q ru r m g _ ?_); exact hR.out.drewN _)
   | (go_at_call 60; refine Calls.quiet_of (in_q _ _ _ true _ HIN.out))
   | (go_at_call_of 47 lu; refine Calls.quiet_of (HIL.out _ ?_); exact hL.out.drewN _)
   | (go_at_call_of 47 ru; refine Calls.quiet_of (HIR.out _ ?_); exact hR.out.drewN _))
    go_wp2
    go_ret
    exact ⟨rfl, _, rfl⟩
   | true =>
    rw [hf] at HIL
    go_enter Tryz.func47, Tryz.ntmps47
    go_wp2
    go_quiet (first
   | (go_at_call_of 69 lu; refine Calls.quiet_of (height_q lu l lo m _ ?_); exact hL.out.drewN _)
   | (go_at_call_of 69 ru; refine Calls.quiet_of (height_q ru r m g _ ?_); exact hR.out.drewN _)
   | (go_at_call 60; refine Calls.quiet_of (in_q _ _ _ true _ HIN.out))
   | (go_at_call_of 47 lu; refine Calls.quiet_of (HIL.out _ ?_); exact hL.out.drewN _)
   | (go_at_call_of 47 ru; refine Calls.quiet_of (HIR.out _ ?_); exact hR.out.drewN _))
    go_wp2
    go_ret
    exact ⟨rfl, _, rfl⟩
theorem drewN_size (w : World) (n : Nat) : (w.drewN n).heap.size = w.heap.size := rfl
theorem fin_node {w w1 w2 w3 : World} {u1 u2 : Option Addr} {t1 t2 : Tr} {x : S35} {gb : Nat} (hB : Below w.heap.size w w2) (hz1 : w.heap.size ≤ w1.heap.size) (hz2 : w1.heap.size ≤ w2.heap.size) (h1 : IsN w2 w.heap.size w1.heap.size u1 t1) (h2 : IsN w2 w1.heap.size w2.heap.size u2 t2) (hg : gb = w2.heap.size)
  (bk : w3.heap[gb]? = some (.cells #[.int .i64 x.f0, .int .i64 x.f1, .int .i64 x.f2, .pointer u1, .pointer u2, .int .i64 0] 91 (0, 0))) (hb3 : Below w2.heap.size w2 w3) (q : Nat) :
  IsN ((w3.drewN q).setCell ⟨gb, 5, none⟩ (.int .i64 (1 + ((max t1.ht t2.ht : Nat) : Int)))) w.heap.size ((w3.drewN q).setCell ⟨gb, 5, none⟩ (.int .i64 (1 + ((max t1.ht t2.ht : Nat) : Int)))).heap.size (some ⟨gb, 0, none⟩) (.node x t1 t2) ∧
   Below w.heap.size w ((w3.drewN q).setCell ⟨gb, 5, none⟩ (.int .i64 (1 + ((max t1.ht t2.ht : Nat) : Int)))) := by
 have hk : KeepBut w3 ((w3.drewN q).setCell ⟨gb, 5, none⟩ (.int .i64 (1 + ((max t1.ht t2.ht : Nat) : Int)))) gb none := KeepBut.set_ (keep_drewN (KeepBut.refl _ _ _) q) 5 _
 have hlt := blk_lt bk
 have hs := hk.1
 have hs3 := hb3.size
 have same : ∀ k, k < w2.heap.size → ((w3.drewN q).setCell ⟨gb, 5, none⟩ (.int .i64 (1 + ((max t1.ht t2.ht : Nat) : Int)))).heap[k]? = w2.heap[k]? := fun k hk2 =>
  (hk.2 k (by omega) (by omega) (by simp)).trans (hb3.block k hk2)
 refine ⟨⟨gb, w1.heap.size, u1, u2, rfl, by omega, ?_, h1.keep (fun k _ hk2 _ => same k (by omega)), by rw [hg]; exact h2.keep (fun k _ hk2 _ => by rw [← hg]; exact same k (by omega))⟩, ?_⟩
 ·
  refine (blk_put (blk_drewN bk q) 5 _ ?_)
  simp [Tr.ht]
 ·
  exact below_set (pw_below_drewN (below_step hB hb3) q) (by omega)
set_option maxHeartbeats 2000000 in
set_option maxRecDepth 100000 in
theorem treeRead_calls (k : Nat) : ∀ (A : Option Addr) (c : Nat) (l : List S46) (w : World) (hk : l.length ≤ k) (hm : l.length ≤ 1000) (hr : Kd.C k46 w A l.length l) (hc : l.length ≤ c),
  Calls Tryz.prog 42 #[.slice A l.length c] w fun e w' => ∃ u, e = .returned (.tuple #[.pointer u, .bool (trd k l).2]) ∧ IsN w' w.heap.size w'.heap.size u (trd k l).1 ∧ Below w.heap.size w w' := by
 have empty : ∀ (A : Option Addr) (c j : Nat) (w : World), Calls Tryz.prog 42 #[.slice A 0 c] w fun e w' => ∃ u, e = .returned (.tuple #[.pointer u, .bool (trd j []).2]) ∧ IsN w' w.heap.size w'.heap.size u (trd j []).1 ∧ Below w.heap.size w w' := by
  intro A c j w
  have e1 : trd j [] = (.nil, true) := by cases j <;> rfl
  rw [e1]
  go_enter Tryz.func42, Tryz.ntmps42
  go_wp2
  go_ret2
  exact ⟨_, rfl, ⟨rfl, Nat.le_refl _⟩, Below.refl _ _⟩
 induction k with
 | zero =>
  intro A c l w hk hm hr hc
  obtain rfl : l = [] := List.length_eq_zero_iff.1 (by omega)
  exact empty A c 0 w
 | succ k ih =>
  intro A c l w hk hm hr hc
  cases l with
  | nil => exact empty A c (k + 1) w
  | cons x l =>
  clear empty
  have hu28 := Tryz.underlying28
  have hlen : ((x :: l).length : Int) = (l.length : Int) + 1 := by simp
  have hlm : l.length ≤ 999 := by simp at hm; omega
  obtain ⟨ad, e, hx0, hx1, hx2, hx3⟩ := at_T46 hr 0 (by omega) (by omega)
  cases e
  have e0 : rd_T46 (x :: l) 0 = x := rfl
  rw [show ((0 : Int)).toNat = 0 from rfl, show 0 * 4 = 0 from rfl, Addr.add_zero', e0] at hx0 hx1 hx2 hx3
  have hz : ((((x :: l).length : Int)) == 0) = false := beq_eq_false_iff_ne.2 (by omega)
  have hp : (0 : Int) < ((x :: l).length : Int) := by omega
  have hq : (0 < (x :: l).length) = True := eq_true (by simp)
  have hwl : wrap64 (((x :: l).length : Int) - 1) = (l.length : Int) := by rw [hlen]; unfold wrap64; omega
  have hin : impl_in.f x.f1 0 (wrap64 (((x :: l).length : Int) - 1)) = some (decide (0 ≤ x.f1 ∧ x.f1 ≤ l.length)) := by
   rw [hwl]
   unfold impl_in.f
   by_cases h1 : (0 : Int) ≤ x.f1 <;> simp [h1]
  rw [trd]
  have HIN := Aside0.mk hin
  clear hin e0 hwl
  by_cases cc : 0 ≤ x.f1 ∧ x.f1 ≤ l.length
  ·
   rw [if_pos cc]
   rw [decide_eq_true cc] at HIN
   obtain ⟨n, hn⟩ : ∃ n : Nat, x.f1 = n := ⟨x.f1.toNat, by omega⟩
   have hnl : n ≤ l.length := by omega
   rw [hn] at hx3 HIN ⊢
   rw [Int.toNat_natCast]
   have hwe : wrap64 (1 + (n : Int)) = ((n + 1 : Nat) : Int) := by unfold wrap64; omega
   obtain ⟨i0, hi0, _, hsz, _⟩ := info_parts info46t
   have hcut1 := cut_mid (P := Tryz.prog) 28 46 .i64 .i64 Tryz.underlying28 hi0 4 hsz (some ad) (x :: l).length c 1 ((n + 1 : Nat) : Int) (by omega) (by omega) (by simp; omega) hc
   have hcut2 := cut_from (P := Tryz.prog) 28 46 .i64 Tryz.underlying28 hi0 4 hsz (some ad) (x :: l).length c ((n + 1 : Nat) : Int) (by omega) (by simp; omega)
   have hr1 := Kd.C_mid (lo := (1 : Int).toNat) (hi := (((n + 1 : Nat) : Int)).toNat) (c := c) hr (by omega) (by simp; omega) hc
   have hr2 := Kd.C_drop (m := (((n + 1 : Nat) : Int)).toNat) (c := c) hr (by simp; omega) hc
   simp only [Int.toNat_natCast, show (1 : Int).toNat = 1 from rfl, List.take_succ_cons, List.drop_succ_cons, List.drop_zero, Nat.add_sub_cancel] at hcut1 hcut2 hr1 hr2
   obtain ⟨A1, hA1⟩ : ∃ A1, A1 = (if c = 1 then (some ad) else ((some ad) : Option Addr).map (·.add (1 * 4))) := ⟨_, rfl⟩
   obtain ⟨A2, hA2⟩ : ∃ A1, A1 = (if c = n + 1 then (some ad) else ((some ad) : Option Addr).map (·.add ((n + 1) * 4))) := ⟨_, rfl⟩
   obtain ⟨c1, hc1⟩ : ∃ c1, c1 = c - 1 := ⟨_, rfl⟩
   obtain ⟨c2, hc2⟩ : ∃ c1, c1 = c - (n + 1) := ⟨_, rfl⟩
   obtain ⟨y1, hy1⟩ : ∃ y, y = l.take n := ⟨_, rfl⟩
   obtain ⟨y2, hy2⟩ : ∃ y, y = l.drop n := ⟨_, rfl⟩
   have l1 : y1.length = n := by rw [hy1, List.length_take]; omega
   have l2 : y2.length = (x :: l).length - (n + 1) := by rw [hy2, List.length_drop]; simp
   rw [← hA1, ← hc1] at hcut1
   rw [← hA2, ← hc2, ← l2] at hcut2
   replace hcut2 : ∀ W : World, (Instr.slice 28 (.slice (some ad) (x :: l).length c) (some (.int .i64 (wrap64 (1 + (n : Int))))) none none).run Tryz.prog W = .ok (.slice A2 y2.length c2) W := by rw [hwe]; exact hcut2
   replace hcut1 : ∀ W : World, (Instr.slice 28 (.slice (some ad) (x :: l).length c) (some (.int .i64 1)) (some (.int .i64 (wrap64 (1 + (n : Int))))) none).run Tryz.prog W = .ok (.slice A1 y1.length c1) W := by rw [l1, hwe]; exact hcut1
   have C1 : Kd.C k46 w A1 y1.length y1 := by rw [hA1, l1, hy1]; have h_ := hr1; simpa [show k46.sz = 4 from rfl, Nat.min_eq_left hnl] using h_
   have C2 : Kd.C k46 w A2 y2.length y2 := by rw [hA2, l2, hy2]; have h_ := hr2; simpa [show k46.sz = 4 from rfl] using h_
   have s1 := trd_sz k y1
   have s2 := trd_sz k y2
   rw [← hy1, ← hy2]
   have b1 : y1.length ≤ c1 := by rw [l1, hc1]; simp at hc; omega
   have b2 : y2.length ≤ c2 := by rw [l2, hc2]; omega
   have k1 : y1.length ≤ k := by simp at hk; omega
   have k2 : y2.length ≤ k := by simp at hk l2; omega
   have m1 : y1.length ≤ 1000 := by omega
   have m2 : y2.length ≤ 1000 := by simp at l2; omega
   have hs12 : (trd k y1).1.sz + (trd k y2).1.sz ≤ 1000 := by simp at l2; omega
   have IH1 := Aside0.mk (fun W h => ih A1 c1 y1 W k1 m1 h b1)
   have IH2 := Aside0.mk (fun W h => ih A2 c2 y2 W k2 m2 h b2)
   have C1 := Aside0.mk C1
   have C2 := Aside0.mk C2
   have S12 := Aside0.mk hs12
   generalize (x :: l).length = M at *
   clear hwe ih hr hk hm hc hr1 hr2 hA1 hA2 hc1 hc2 hy1 hy2 l1 l2 k1 k2 m1 m2 b1 b2 hi0 hsz hlm hnl cc hn hu28 s1 s2 hs12 hlen
   generalize trd k y1 = t1 at IH1 S12 ⊢
   generalize trd k y2 = t2 at IH2 S12 ⊢
   obtain ⟨t1, o1⟩ := t1
   obtain ⟨t2, o2⟩ := t2
   simp only at S12
   cases o1 with
   | false =>
    go_enter Tryz.func42, Tryz.ntmps42
    go_wp2_with (first
     | (go_at_call 60; with_reducible refine (impl_in.calls _ _ _ _ _ HIN.out).mono ?_; rintro e w' ⟨rfl, ⟨nd, rfl⟩⟩)
     | (go_at_call_of 42 y1; with_reducible refine (IH1.out _ ?side0).mono ?_; (case side0 => exact Kd.C_drewN C1.out _); rintro e w1 ⟨u1, rfl, hn1, hb1⟩; rw [drewN_size] at hn1; have HN1 := Aside0.mk (hn1); have HB1 : Aside0 (Below w.heap.size w w1) := ⟨below_step (pw_below_drewN (Below.refl _ _) _) hb1⟩; have HZ1 : Aside0 (w.heap.size ≤ w1.heap.size) := ⟨HB1.out.size⟩; clear hn1 hb1)
     | (go_at_call_of 42 y2; with_reducible refine (IH2.out _ ?side0).mono ?_; (case side0 => exact Kd.C_below C2.out HB1.out); rintro e w2 ⟨u2, rfl, hn2, hb2⟩; have HN2 := Aside0.mk (hn2); have HN3 := Aside0.mk (HN1.out.below hb2); have HZ2 : Aside0 (w1.heap.size ≤ w2.heap.size) := ⟨hb2.size⟩; have HB2 : Aside0 (Below w.heap.size w w2) := ⟨below_step HB1.out hb2⟩; have hy0 := pw_cell_below HB2.out hx0; have hy1 := pw_cell_below HB2.out hx1; have hy2 := pw_cell_below HB2.out hx2; clear hn2 hb2)
     | ((with_reducible refine gate_dst (N := 48) rfl ?_); refine box_event ?hg (N := 48) ?hd (cs := #[.int .i64 x.f0.f0, .int .i64 x.f0.f1, .int .i64 x.f0.f2, .pointer u1, .pointer u2, .int .i64 0]) (t := 91) ?hr ?_; (case hd => rfl); (case hg => rfl); (case hr => first | (go_simp; done) | (go_simp; rfl)); intro gb hgb w3 hbox hb3; have BK := Aside0.mk hbox; have HB3 := Aside0.mk hb3; have HG := Aside0.mk hgb; clear hbox hb3 hgb)
     | (go_at_call 61; with_reducible refine (tell_calls gb _ _ _ _ x.f0 u1 u2 t1 t2 0 _ BK.out (HN3.out.below HB3.out) (HN2.out.below HB3.out) S12.out).mono ?_; rintro e w4 ⟨rfl, q, rfl⟩))
    go_ret2
    exact ⟨_, rfl, (fin_node HB2.out HZ1.out HZ2.out HN3.out HN2.out HG.out BK.out HB3.out q).1, (fin_node HB2.out HZ1.out HZ2.out HN3.out HN2.out HG.out BK.out HB3.out q).2⟩
   | true =>
    go_enter Tryz.func42, Tryz.ntmps42
    go_wp2_with (first
     | (go_at_call 60; with_reducible refine (impl_in.calls _ _ _ _ _ HIN.out).mono ?_; rintro e w' ⟨rfl, ⟨nd, rfl⟩⟩)
     | (go_at_call_of 42 y1; with_reducible refine (IH1.out _ ?side0).mono ?_; (case side0 => exact Kd.C_drewN C1.out _); rintro e w1 ⟨u1, rfl, hn1, hb1⟩; rw [drewN_size] at hn1; have HN1 := Aside0.mk (hn1); have HB1 : Aside0 (Below w.heap.size w w1) := ⟨below_step (pw_below_drewN (Below.refl _ _) _) hb1⟩; have HZ1 : Aside0 (w.heap.size ≤ w1.heap.size) := ⟨HB1.out.size⟩; clear hn1 hb1)
     | (go_at_call_of 42 y2; with_reducible refine (IH2.out _ ?side0).mono ?_; (case side0 => exact Kd.C_below C2.out HB1.out); rintro e w2 ⟨u2, rfl, hn2, hb2⟩; have HN2 := Aside0.mk (hn2); have HN3 := Aside0.mk (HN1.out.below hb2); have HZ2 : Aside0 (w1.heap.size ≤ w2.heap.size) := ⟨hb2.size⟩; have HB2 : Aside0 (Below w.heap.size w w2) := ⟨below_step HB1.out hb2⟩; have hy0 := pw_cell_below HB2.out hx0; have hy1 := pw_cell_below HB2.out hx1; have hy2 := pw_cell_below HB2.out hx2; clear hn2 hb2)
     | ((with_reducible refine gate_dst (N := 48) rfl ?_); refine box_event ?hg (N := 48) ?hd (cs := #[.int .i64 x.f0.f0, .int .i64 x.f0.f1, .int .i64 x.f0.f2, .pointer u1, .pointer u2, .int .i64 0]) (t := 91) ?hr ?_; (case hd => rfl); (case hg => rfl); (case hr => first | (go_simp; done) | (go_simp; rfl)); intro gb hgb w3 hbox hb3; have BK := Aside0.mk hbox; have HB3 := Aside0.mk hb3; have HG := Aside0.mk hgb; clear hbox hb3 hgb)
     | (go_at_call 61; with_reducible refine (tell_calls gb _ _ _ _ x.f0 u1 u2 t1 t2 0 _ BK.out (HN3.out.below HB3.out) (HN2.out.below HB3.out) S12.out).mono ?_; rintro e w4 ⟨rfl, q, rfl⟩))
    go_ret2
    exact ⟨_, rfl, (fin_node HB2.out HZ1.out HZ2.out HN3.out HN2.out HG.out BK.out HB3.out q).1, (fin_node HB2.out HZ1.out HZ2.out HN3.out HN2.out HG.out BK.out HB3.out q).2⟩
  ·
   rw [if_neg cc]
   rw [decide_eq_false cc] at HIN
   generalize (x :: l).length = M at *
   clear ih hr hk hm hc hlm hlen cc
   go_enter Tryz.func42, Tryz.ntmps42
   go_wp2_with (first
    | (go_at_call 60; with_reducible refine (impl_in.calls _ _ _ _ _ HIN.out).mono ?_; rintro e w' ⟨rfl, ⟨nd, rfl⟩⟩))
   go_ret2
   exact ⟨_, rfl, ⟨rfl, Nat.le_refl _⟩, pw_below_drewN (Below.refl _ _) _⟩

def srt (c : S35 → S35 → Int) (l : List S35) : Bool := (List.range (l.length - 1)).all fun j => decide (0 ≤ c (rd_T35 l ((j + 1 : Nat) : Int)) (rd_T35 l (j : Int)))
theorem srt_no {c : S35 → S35 → Int} {l : List S35} {i j : Nat} (hi : i < l.length) (hj : i = j + 1) (h : c (rd_T35 l (i : Int)) (rd_T35 l (j : Int)) < 0) : srt c l = false := by
 subst hj
 unfold srt
 rw [List.all_eq_false]
 exact ⟨j, List.mem_range.2 (by omega), by rw [decide_eq_true_eq]; exact Int.not_le.2 h⟩
theorem srt_yes {c : S35 → S35 → Int} {l : List S35} (h : ∀ j : Nat, j + 1 < l.length → 0 ≤ c (rd_T35 l ((j + 1 : Nat) : Int)) (rd_T35 l (j : Int))) : srt c l = true := by
 unfold srt
 rw [List.all_eq_true]
 intro j hj
 exact decide_eq_true (h j (by have := List.mem_range.1 hj; omega))
theorem rd33_mem {l : List S35} {i : Nat} (h : i < l.length) : rd_T35 l (i : Int) ∈ l := by
 have : rd_T35 l (i : Int) = l[i] := by simp [rd_T35, List.getD_eq_getElem?_getD, h]
 rw [this]; exact List.getElem_mem h
set_option maxHeartbeats 4000000 in
set_option maxRecDepth 100000 in
theorem isSorted_calls (l : List S35) (c : S35 → S35 → Int) (A : Option Addr) (cap : Nat) (w : World) (hr : Kd.C k35 w A l.length l) (hlen : l.length ≤ 1000)
  (hc : ∀ x ∈ l, ∀ y ∈ l, impl_Item_order.f 100 x.f0 x.f1 x.f2 y.f0 y.f1 y.f2 = some (c x y)) :
  Calls Tryz.prog 45 #[.slice A l.length cap, .func (.func 46) #[] #[]] w fun e w' => e = .returned (.bool (srt c l)) ∧ Below w.heap.size w w' := by
 have hu35 := Tryz.underlying35
 have eg : ∀ args w, (callFunc 46 args).run Tryz.prog w = .ok (.enter 46 args) w := enters_of Tryz.func46 (by kernel_rfl) rfl
 have HR := Aside0.mk hr
 have HC := Aside0.mk hc
 have HLN := Aside0.mk hlen
 generalize hres : srt c l = res
 have HRES := Aside0.mk hres
 clear hr hc hlen hres
 go_enter Tryz.func45, Tryz.ntmps45
 go_wp2
 go_loopg [5] l.length (fun gg s5 wr => ∃ i : Int, s5 = .int .i64 i ∧ -1 ≤ i ∧ i < l.length ∧ i ≤ gg ∧ Aside0 (Below w.heap.size w wr) ∧ Aside0 (∀ j : Nat, i ≤ j → j + 1 < l.length → 0 ≤ c (rd_T35 l ((j + 1 : Nat) : Int)) (rd_T35 l (j : Int))))
 case atStart => exact ⟨(l.length : Int) - 1, by rw [show wrap64 ((l.length : Int) - 1) = (l.length : Int) - 1 from by have := HLN.out; unfold wrap64; omega], by omega, by omega, by omega, ⟨Below.refl _ _⟩, ⟨fun j h1 h2 => by omega⟩⟩
 case round =>
  obtain ⟨i, rfl, hi0, hi1, hig, HB, HS⟩ := hrel
  by_cases hlt : 0 < i
  ·
   obtain ⟨i, rfl⟩ : ∃ n : Nat, i = n := ⟨i.toNat, by omega⟩
   obtain ⟨j, hj⟩ : ∃ j, i = j + 1 := ⟨i - 1, by omega⟩
   have hil : i < l.length := by omega
   have hjw : IntKind.i64.wrap ((i : Int) - 1) = (j : Int) := by rw [i64_w]; have := HLN.out; unfold wrap64; omega
   obtain ⟨ad, e, hx0, hx1, hx2⟩ := at_T35 HR.out (i : Int) (by omega) (by omega)
   cases e
   obtain ⟨ad', e, hy0, hy1, hy2⟩ := at_T35 HR.out (j : Int) (by omega) (by omega)
   obtain rfl : ad = ad' := by injection e
   replace hx0 := pw_cell_below HB.out hx0
   replace hx1 := pw_cell_below HB.out hx1
   replace hx2 := pw_cell_below HB.out hx2
   replace hy0 := pw_cell_below HB.out hy0
   replace hy1 := pw_cell_below HB.out hy1
   replace hy2 := pw_cell_below HB.out hy2
   simp only [Int.toNat_natCast] at hx0 hx1 hx2 hy0 hy1 hy2
   have hcmp := HC.out _ (rd33_mem hil) _ (rd33_mem (show j < l.length by omega))
   have hq := Aside0.mk (show (c (rd_T35 l (i : Int)) (rd_T35 l (j : Int)) < 0 → srt c l = false) ∧ (0 ≤ c (rd_T35 l (i : Int)) (rd_T35 l (j : Int)) → ∀ q : Nat, (j : Int) ≤ q → q + 1 < l.length → 0 ≤ c (rd_T35 l ((q + 1 : Nat) : Int)) (rd_T35 l (q : Int))) from
    ⟨fun h => srt_no hil hj h, fun h q h1 h2 => by
     by_cases hqj : q = j
     ·
      subst hqj; rw [← hj]; exact h
     ·
      exact HS.out q (by omega) h2⟩)
   clear HS
   generalize rd_T35 l (i : Int) = x at hx0 hx1 hx2 hcmp hq
   generalize rd_T35 l (j : Int) = y at hy0 hy1 hy2 hcmp hq
   generalize c x y = r at hcmp hq
   have HCM := Aside0.mk hcmp
   have hi2 := Aside0.mk hi1
   have hj2 := Aside0.mk hj
   have hig2 := Aside0.mk hig
   have hil2 := (eq_true hil : (i < l.length) = True)
   have hjl2 := (eq_true (show j < l.length by omega) : (j < l.length) = True)
   have hltb : decide (0 < (i : Int)) = true := decide_eq_true hlt
   clear hcmp hi1 hi0 hj hig e
   have xf0 : ∀ p : BW wr, p.W.cell? _ = some (.int .i64 x.f0) := fun p => p.cell hx0
   have xf1 : ∀ p : BW wr, p.W.cell? _ = some (.int .i64 x.f1) := fun p => p.cell hx1
   have xf2 : ∀ p : BW wr, p.W.cell? _ = some (.int .i64 x.f2) := fun p => p.cell hx2
   have yf0 : ∀ p : BW wr, p.W.cell? _ = some (.int .i64 y.f0) := fun p => p.cell hy0
   have yf1 : ∀ p : BW wr, p.W.cell? _ = some (.int .i64 y.f1) := fun p => p.cell hy1
   have yf2 : ∀ p : BW wr, p.W.cell? _ = some (.int .i64 y.f2) := fun p => p.cell hy2
   clear hx0 hx1 hx2 hy0 hy1 hy2
   go_wp2
   refine wp_region_bw (by kernel_rfl) (by kernel_rfl) ?_
   repeat (go_big_quiet_step (first | (go_at_call 46; exact Calls.bw (impl_Item_order.calls 100 _ _ _ _ _ _ r _ HCM.out))))
   refine wpQuiet_nil ?_
   intro _ hw'
   obtain ⟨⟨w4, hb4⟩, hw''⟩ := hw'
   subst hw''
   have HB4 := Aside0.mk (below_then HB.out HB.out.size hb4)
   clear hb4 xf0 xf1 xf2 yf0 yf1 yf2
   by_cases hneg : r < 0
   ·
    have HN := Aside0.mk (hq.out.1 hneg)
    go_wp2
    go_ret
    exact ⟨by rw [← HRES.out, HN.out]; rfl, HB4.out⟩
   ·
    have HN := Aside0.mk (hq.out.2 (by omega))
    have hng : 0 ≤ r := by omega
    go_wp2
    go_roundg (gk - 1)
    case measure => have := hig2.out; omega
    case rel => exact ⟨(j : Int), by first | rfl | (rw [i64_w] at hjw; rw [hjw]), by omega, by have := hj2.out; omega, by have := hj2.out; have := hig2.out; omega, HB4, HN⟩
  ·
   have hltb : decide (0 < i) = false := decide_eq_false hlt
   have HH := Aside0.mk hlt
   clear hlt hi1 hig
   go_wp2
   go_ret
   exact ⟨by rw [← HRES.out, srt_yes (fun j h => HS.out j (by have := HH.out; omega) h)]; rfl, HB.out⟩
def ordF (x y : S35) : Int := (impl_Item_order.f 100 x.f0 x.f1 x.f2 y.f0 y.f1 y.f2).getD 0
def sortedO (l : List S35) : Option Bool := if (l.all fun x => l.all fun y => (impl_Item_order.f 100 x.f0 x.f1 x.f2 y.f0 y.f1 y.f2).isSome) = true then some (srt ordF l) else none
theorem sortedO_ok {l : List S35} {s : Bool} (h : sortedO l = some s) : srt ordF l = s ∧ ∀ x ∈ l, ∀ y ∈ l, impl_Item_order.f 100 x.f0 x.f1 x.f2 y.f0 y.f1 y.f2 = some (ordF x y) := by
 unfold sortedO at h
 split at h
 ·
  rename_i hall
  refine ⟨Option.some.inj h, fun x hx y hy => ?_⟩
  have h1 := List.all_eq_true.1 (List.all_eq_true.1 hall x hx) y hy
  obtain ⟨r, hr⟩ := Option.isSome_iff_exists.1 h1
  unfold ordF
  rw [hr]; rfl
 ·
  cases h
/-- What treeIn hands back: the tree, and whether it is right. -/
def inF (l : List S46) : Option (Tr × Bool) :=
 if l.length > 60 then some (.nil, false) else if (trd 60 l).2 = false then some (.nil, false) else
  (impl_areItems.f 100 (trd 60 l).1.items).bind fun b => if b = true then (sortedO (trd 60 l).1.items).bind fun s => some ((trd 60 l).1, s && (trd 60 l).1.flat) else some ((trd 60 l).1, false)
theorem alloc_size (w : World) (o : Obj) : (w.alloc o).heap.size = w.heap.size + 1 := by simp
set_option maxHeartbeats 4000000 in
set_option maxRecDepth 100000 in
theorem treeIn_calls (A : Option Addr) (c : Nat) (l : List S46) (t : Tr) (b : Bool) (w : World) (hr : Kd.C k46 w A l.length l) (hc : l.length ≤ c) (h : inF l = some (t, b)) :
  Calls Tryz.prog 21 #[.agg #[.slice A l.length c]] w fun e w' => ∃ u, e = .returned (.tuple #[.pointer u, .bool b]) ∧ IsN w' w.heap.size w'.heap.size u t ∧ Below w.heap.size w w' := by
 have hu30 := Tryz.underlying30
 have HR := Aside0.mk hr
 have HCP := Aside0.mk hc
 clear hr hc
 unfold inF at h
 by_cases c60 : l.length > 60
 ·
  rw [if_pos c60] at h
  simp only [Option.some.injEq, Prod.mk.injEq] at h
  obtain ⟨rfl, rfl⟩ := h
  have cb : decide ((60 : Int) < (l.length : Int)) = true := decide_eq_true (by omega)
  have cb2 : (60 < l.length) = True := eq_true c60
  clear c60
  go_enter Tryz.func21, Tryz.ntmps21
  go_wp2
  go_ret2
  exact ⟨_, rfl, ⟨rfl, by simp⟩, below_alloc (Below.refl _ _) _⟩
 ·
  rw [if_neg c60] at h
  have cb : decide ((60 : Int) < (l.length : Int)) = false := decide_eq_false (by omega)
  have cb2 : (60 < l.length) = False := eq_false c60
  have HLN := Aside0.mk (show l.length ≤ 60 by omega)
  have hsz := trd_sz 60 l
  clear c60
  obtain ⟨⟨t0, o0⟩, ht0⟩ : ∃ p, p = trd 60 l := ⟨_, rfl⟩
  rw [← ht0] at h hsz
  have HT0 := Aside0.mk ht0
  simp only at h hsz
  cases o0 with
  | false =>
   rw [if_pos rfl] at h
   simp only [Option.some.injEq, Prod.mk.injEq] at h
   obtain ⟨rfl, rfl⟩ := h
   clear hsz ht0
   go_enter Tryz.func21, Tryz.ntmps21
   go_wp2_with (first
     | (go_at_call 42; with_reducible refine (treeRead_calls 60 _ _ l _ ?side0 ?side1 ?side2 ?side3).mono ?_; (case side0 => exact HLN.out); (case side1 => exact Nat.le_trans HLN.out (by decide)); (case side2 => exact Kd.C_alloc HR.out _); (case side3 => exact HCP.out); rintro e w1 ⟨u, rfl, hn1, hb1⟩; rw [alloc_size] at hn1; rw [← HT0.out] at hn1; rw [← HT0.out]; have HN1 := Aside0.mk (hn1.wide (Nat.le_succ _) (Nat.le_refl _)); have HB1 : Aside0 (Below w.heap.size w w1) := ⟨below_step (below_alloc (Below.refl _ _) _) hb1⟩; clear hn1 hb1))
   go_ret2
   exact ⟨_, rfl, ⟨rfl, HB1.out.size⟩, HB1.out⟩
  | true =>
   rw [if_neg (by decide)] at h
   have HSZ1 : Aside0 (t0.sz ≤ 1000) := ⟨by have := HLN.out; omega⟩
   have HSZ : Aside0 (([] : List S35).length + t0.sz ≤ 1000) := ⟨by have := HLN.out; simp; omega⟩
   have HIL : Aside0 (t0.items.length ≤ 1000) := ⟨by rw [Tr.items_len]; exact HSZ1.out⟩
   clear hsz ht0
   obtain ⟨b0, hA, h⟩ := Option.bind_eq_some_iff.1 h
   have HA := Aside0.mk hA
   clear hA
   cases b0 with
   | false =>
    rw [if_neg (by decide)] at h
    simp only [Option.some.injEq, Prod.mk.injEq] at h
    obtain ⟨rfl, rfl⟩ := h
    go_enter Tryz.func21, Tryz.ntmps21
    go_wp2_with (first
     | (go_at_call 42; with_reducible refine (treeRead_calls 60 _ _ l _ ?side0 ?side1 ?side2 ?side3).mono ?_; (case side0 => exact HLN.out); (case side1 => exact Nat.le_trans HLN.out (by decide)); (case side2 => exact Kd.C_alloc HR.out _); (case side3 => exact HCP.out); rintro e w1 ⟨u, rfl, hn1, hb1⟩; rw [alloc_size] at hn1; rw [← HT0.out] at hn1; rw [← HT0.out]; have HN1 := Aside0.mk (hn1.wide (Nat.le_succ _) (Nat.le_refl _)); have HB1 : Aside0 (Below w.heap.size w w1) := ⟨below_step (below_alloc (Below.refl _ _) _) hb1⟩; clear hn1 hb1)
     | (go_at_call 43; with_reducible refine (items_calls t0 u w.heap.size w1.heap.size w1.heap.size _ [] _ ?side0 ?side1 ?side2 ?side3 ?side4).mono ?_; (case side0 => exact HN1.out); (case side1 => exact Nat.le_refl _); (case side2 => exact Kd.R_nil _ _ _ _ _); (case side3 => exact HSZ.out); (case side4 => exact Nat.le_refl _); rintro e w2 ⟨v, rfl, hv, hg, ha⟩; rw [List.nil_append] at hv; have HV := Aside0.mk hv; have hb2 : Below w1.heap.size w1 w2 := ⟨hg.os, hg.tape, hg.output, hg.size, fun k hk => hg.block k hk (by simp [Value.ownBlock])⟩; have HN2 := Aside0.mk ((HN1.out.below hb2).wide (Nat.le_refl _) hb2.size); have HB2 : Aside0 (Below w.heap.size w w2) := ⟨below_step HB1.out hb2⟩; clear hv hg ha hb2; obtain ⟨Av, cv, ev⟩ := Kd.R_slice HV.out; subst ev)
     | (go_at_call 44; with_reducible refine (impl_areItems.calls 100 _ _ t0.items _ _ ?side0 ?side1 HA.out).mono ?_; (case side0 => exact (Kd.R_reads' HV.out).2.2); (case side1 => exact (Kd.R_reads' HV.out).2.1); rintro e w3 ⟨rfl, hb3⟩; have HN3 := Aside0.mk ((HN2.out.below hb3).wide (Nat.le_refl _) hb3.size); have HB3 : Aside0 (Below w.heap.size w w3) := ⟨below_step HB2.out hb3⟩; have HV3 := Aside0.mk (Kd.R_below HV.out hb3); clear hb3))
    go_ret2
    exact ⟨_, rfl, HN3.out, HB3.out⟩
   | true =>
    rw [if_pos rfl] at h
    obtain ⟨s, hs, h⟩ := Option.bind_eq_some_iff.1 h
    obtain ⟨hs1, hs2⟩ := sortedO_ok hs
    have HS := Aside0.mk hs1
    have HO := Aside0.mk hs2
    simp only [Option.some.injEq, Prod.mk.injEq] at h
    obtain ⟨rfl, rfl⟩ := h
    clear hs hs1 hs2
    cases s with
    | false =>
     go_enter Tryz.func21, Tryz.ntmps21
     go_wp2_with (first
     | (go_at_call 42; with_reducible refine (treeRead_calls 60 _ _ l _ ?side0 ?side1 ?side2 ?side3).mono ?_; (case side0 => exact HLN.out); (case side1 => exact Nat.le_trans HLN.out (by decide)); (case side2 => exact Kd.C_alloc HR.out _); (case side3 => exact HCP.out); rintro e w1 ⟨u, rfl, hn1, hb1⟩; rw [alloc_size] at hn1; rw [← HT0.out] at hn1; rw [← HT0.out]; have HN1 := Aside0.mk (hn1.wide (Nat.le_succ _) (Nat.le_refl _)); have HB1 : Aside0 (Below w.heap.size w w1) := ⟨below_step (below_alloc (Below.refl _ _) _) hb1⟩; clear hn1 hb1)
     | (go_at_call 43; with_reducible refine (items_calls t0 u w.heap.size w1.heap.size w1.heap.size _ [] _ ?side0 ?side1 ?side2 ?side3 ?side4).mono ?_; (case side0 => exact HN1.out); (case side1 => exact Nat.le_refl _); (case side2 => exact Kd.R_nil _ _ _ _ _); (case side3 => exact HSZ.out); (case side4 => exact Nat.le_refl _); rintro e w2 ⟨v, rfl, hv, hg, ha⟩; rw [List.nil_append] at hv; have HV := Aside0.mk hv; have hb2 : Below w1.heap.size w1 w2 := ⟨hg.os, hg.tape, hg.output, hg.size, fun k hk => hg.block k hk (by simp [Value.ownBlock])⟩; have HN2 := Aside0.mk ((HN1.out.below hb2).wide (Nat.le_refl _) hb2.size); have HB2 : Aside0 (Below w.heap.size w w2) := ⟨below_step HB1.out hb2⟩; clear hv hg ha hb2; obtain ⟨Av, cv, ev⟩ := Kd.R_slice HV.out; subst ev)
     | (go_at_call 44; with_reducible refine (impl_areItems.calls 100 _ _ t0.items _ _ ?side0 ?side1 HA.out).mono ?_; (case side0 => exact (Kd.R_reads' HV.out).2.2); (case side1 => exact (Kd.R_reads' HV.out).2.1); rintro e w3 ⟨rfl, hb3⟩; have HN3 := Aside0.mk ((HN2.out.below hb3).wide (Nat.le_refl _) hb3.size); have HB3 : Aside0 (Below w.heap.size w w3) := ⟨below_step HB2.out hb3⟩; have HV3 := Aside0.mk (Kd.R_below HV.out hb3); clear hb3)
     | (go_at_call 45; with_reducible refine (isSorted_calls t0.items ordF _ _ _ ?side0 ?side1 ?side2).mono ?_; (case side0 => exact (Kd.R_reads' HV3.out).2.2); (case side1 => exact HIL.out); (case side2 => exact HO.out); rintro e w4 ⟨rfl, hb4⟩; rw [HS.out]; have HN4 := Aside0.mk ((HN3.out.below hb4).wide (Nat.le_refl _) hb4.size); have HB4 : Aside0 (Below w.heap.size w w4) := ⟨below_step HB3.out hb4⟩; clear hb4))
     go_ret2
     exact ⟨_, rfl, HN4.out, HB4.out⟩
    | true =>
     go_enter Tryz.func21, Tryz.ntmps21
     go_wp2_with (first
     | (go_at_call 42; with_reducible refine (treeRead_calls 60 _ _ l _ ?side0 ?side1 ?side2 ?side3).mono ?_; (case side0 => exact HLN.out); (case side1 => exact Nat.le_trans HLN.out (by decide)); (case side2 => exact Kd.C_alloc HR.out _); (case side3 => exact HCP.out); rintro e w1 ⟨u, rfl, hn1, hb1⟩; rw [alloc_size] at hn1; rw [← HT0.out] at hn1; rw [← HT0.out]; have HN1 := Aside0.mk (hn1.wide (Nat.le_succ _) (Nat.le_refl _)); have HB1 : Aside0 (Below w.heap.size w w1) := ⟨below_step (below_alloc (Below.refl _ _) _) hb1⟩; clear hn1 hb1)
     | (go_at_call 43; with_reducible refine (items_calls t0 u w.heap.size w1.heap.size w1.heap.size _ [] _ ?side0 ?side1 ?side2 ?side3 ?side4).mono ?_; (case side0 => exact HN1.out); (case side1 => exact Nat.le_refl _); (case side2 => exact Kd.R_nil _ _ _ _ _); (case side3 => exact HSZ.out); (case side4 => exact Nat.le_refl _); rintro e w2 ⟨v, rfl, hv, hg, ha⟩; rw [List.nil_append] at hv; have HV := Aside0.mk hv; have hb2 : Below w1.heap.size w1 w2 := ⟨hg.os, hg.tape, hg.output, hg.size, fun k hk => hg.block k hk (by simp [Value.ownBlock])⟩; have HN2 := Aside0.mk ((HN1.out.below hb2).wide (Nat.le_refl _) hb2.size); have HB2 : Aside0 (Below w.heap.size w w2) := ⟨below_step HB1.out hb2⟩; clear hv hg ha hb2; obtain ⟨Av, cv, ev⟩ := Kd.R_slice HV.out; subst ev)
     | (go_at_call 44; with_reducible refine (impl_areItems.calls 100 _ _ t0.items _ _ ?side0 ?side1 HA.out).mono ?_; (case side0 => exact (Kd.R_reads' HV.out).2.2); (case side1 => exact (Kd.R_reads' HV.out).2.1); rintro e w3 ⟨rfl, hb3⟩; have HN3 := Aside0.mk ((HN2.out.below hb3).wide (Nat.le_refl _) hb3.size); have HB3 : Aside0 (Below w.heap.size w w3) := ⟨below_step HB2.out hb3⟩; have HV3 := Aside0.mk (Kd.R_below HV.out hb3); clear hb3)
     | (go_at_call 45; with_reducible refine (isSorted_calls t0.items ordF _ _ _ ?side0 ?side1 ?side2).mono ?_; (case side0 => exact (Kd.R_reads' HV3.out).2.2); (case side1 => exact HIL.out); (case side2 => exact HO.out); rintro e w4 ⟨rfl, hb4⟩; rw [HS.out]; have HN4 := Aside0.mk ((HN3.out.below hb4).wide (Nat.le_refl _) hb4.size); have HB4 : Aside0 (Below w.heap.size w w4) := ⟨below_step HB3.out hb4⟩; clear hb4)
     | (go_at_call 47; with_reducible refine (isFlat_calls t0 u w.heap.size w4.heap.size _ ?side0 ?side1).mono ?_; (case side0 => exact HN4.out); (case side1 => exact HSZ1.out); rintro e w5 ⟨rfl, q, rfl⟩))
     go_ret2
     exact ⟨_, rfl, HN4.out.drewN _, pw_below_drewN HB4.out _⟩
attribute [local go_sem] Oper.semAt_some
abbrev Blk (w : World) (g : Nat) (x : S35) (lu ru : Option Addr) (h : Int) : Prop := w.heap[g]? = some (.cells #[.int .i64 x.f0, .int .i64 x.f1, .int .i64 x.f2, .pointer lu, .pointer ru, .int .i64 h] 91 (0, 0))
def IsT (w : World) : (Nat → Prop) → Option Addr → Tr → Prop
 | _, u, .nil => u = none
 | S, u, .node x l r => ∃ (g : Nat) (A B : Nat → Prop) (lu ru : Option Addr), u = some ⟨g, 0, none⟩ ∧ Blk w g x lu ru ((Tr.node x l r).ht : Nat) ∧ Part S g A B ∧ IsT w A lu l ∧ IsT w B ru r
/-- A node whose height may lag behind. -/
def IsO (w : World) (S : Nat → Prop) (g : Nat) (x : S35) (l r : Tr) : Prop := ∃ (A B : Nat → Prop) (lu ru : Option Addr) (h : Int), Blk w g x lu ru h ∧ Part S g A B ∧ IsT w A lu l ∧ IsT w B ru r
theorem Blk.keep {w w' : World} {S : Nat → Prop} {g : Nat} {x : S35} {lu ru : Option Addr} {h : Int} (b : Blk w g x lu ru h) (k : Wr w w' S) (hg : ¬ S g) : Blk w' g x lu ru h := (k.block g (blk_lt b) hg).trans b
theorem IsT.keep {w w' : World} : ∀ {t : Tr} {S : Nat → Prop} {u : Option Addr}, IsT w S u t → (∀ k, k < w.heap.size → S k → w'.heap[k]? = w.heap[k]?) → IsT w' S u t
 | .nil, _, _, h, _ => h
 | .node _ _ _, S, _, ⟨g, A, B, lu, ru, e, hb, hp, h2, h3⟩, hk =>
  ⟨g, A, B, lu, ru, e, (hk g (blk_lt hb) hp.root).trans hb, hp, h2.keep (fun k a b => hk k a (hp.l k b)), h3.keep (fun k a b => hk k a (hp.r k b))⟩
theorem IsT.far {w w' : World} {t : Tr} {S S' : Nat → Prop} {u : Option Addr} (h : IsT w S u t) (k : Wr w w' S') (hd : ∀ k, S k → ¬ S' k) : IsT w' S u t := h.keep (fun i hi hs => k.block i hi (hd i hs))
theorem IsT.wid_ {w : World} : ∀ {t : Tr} {S S' : Nat → Prop} {u : Option Addr}, IsT w S u t → (∀ k, S k → S' k) → IsT w S' u t
 | .nil, _, _, _, h, _ => h
 | .node _ _ _, _, _, _, ⟨g, A, B, lu, ru, e, hb, hp, h2, h3⟩, hs => ⟨g, A, B, lu, ru, e, hb, ⟨hs g hp.root, fun k a => hs k (hp.l k a), fun k a => hs k (hp.r k a), hp.gl, hp.gr, hp.dj⟩, h2, h3⟩
theorem IsT.of_IsN {w : World} : ∀ {t : Tr} {lo hi : Nat} {u : Option Addr}, IsN w lo hi u t → IsT w (fun k => lo ≤ k ∧ k < hi) u t
 | .nil, _, _, _, h => h.1
 | .node _ _ _, lo, hi, _, ⟨g, m, lu, ru, e, h1, hb, h2, h3⟩ => by
  have e2 := h2.le
  have e3 := h3.le
  exact ⟨g, _, _, lu, ru, e, hb, ⟨⟨by omega, h1⟩, fun k a => ⟨a.1, by omega⟩, fun k a => ⟨by omega, by omega⟩, fun a => by omega, fun a => by omega, fun k a b => by omega⟩, IsT.of_IsN h2, IsT.of_IsN h3⟩
theorem IsO.close {w : World} {S : Nat → Prop} {g : Nat} {x : S35} {l r : Tr} {A B : Nat → Prop} {lu ru : Option Addr} (b : Blk w g x lu ru ((Tr.node x l r).ht : Nat)) (p : Part S g A B) (hl : IsT w A lu l) (hr : IsT w B ru r) : IsT w S (some ⟨g, 0, none⟩) (.node x l r) := ⟨g, A, B, lu, ru, rfl, b, p, hl, hr⟩

set_option maxHeartbeats 4000000 in
theorem heightT (u : Option Addr) (t : Tr) (S : Nat → Prop) (w : World) (h : IsT w S u t) :
  Calls Tryz.prog 69 #[.pointer u] w fun e w' => e = .returned (.int .i64 (t.ht : Nat)) ∧ Drawn0 w w' := by
 cases t with
 | nil =>
  obtain rfl := h
  go_enter Tryz.func69, Tryz.ntmps69
  go_wp2
  go_ret
  exact ⟨rfl, Drawn0.refl _⟩
 | node x l r =>
  obtain ⟨g, A, B, lu, ru, rfl, hb, _, _, _⟩ := h
  have hx := (blk_cell hb 5)
  simp only [List.getElem?_toArray, List.getElem?_cons_zero, List.getElem?_cons_succ] at hx
  generalize ((Tr.node x l r).ht : Nat) = n at hx ⊢
  clear hb
  go_enter Tryz.func69, Tryz.ntmps69
  go_wp2
  go_ret
  exact ⟨rfl, Drawn0.refl _⟩
theorem IsT.drewN {w : World} {t : Tr} {S : Nat → Prop} {u : Option Addr} (h : IsT w S u t) (n : Nat) : IsT (w.drewN n) S u t := h.keep (fun _ _ _ => rfl)
theorem IsT.drawn {w w' : World} {t : Tr} {S : Nat → Prop} {u : Option Addr} (h : IsT w S u t) (hd : Drawn0 w w') : IsT w' S u t := by
 obtain ⟨⟨n, rfl⟩⟩ := hd
 exact h.drewN n
theorem Blk.drawn {w w' : World} {g : Nat} {x : S35} {lu ru : Option Addr} {h : Int} (b : Blk w g x lu ru h) (hd : Drawn0 w w') : Blk w' g x lu ru h := by
 obtain ⟨⟨n, rfl⟩⟩ := hd
 exact b

set_option maxHeartbeats 1000000 in
set_option maxRecDepth 100000 in
theorem tellT (g : Nat) (A B : Nat → Prop) (x : S35) (lu ru : Option Addr) (l r : Tr) (hv : Int) (w : World) (hblk : Blk w g x lu ru hv) (hL : IsT w A lu l) (hR : IsT w B ru r) (hlen : l.sz + r.sz ≤ 1000) :
  Calls Tryz.prog 61 #[.pointer (some ⟨g, 0, none⟩)] w fun e w' => e = .returned (.tuple #[]) ∧ Blk w' g x lu ru ((Tr.node x l r).ht : Nat) ∧ Wr w w' (fun k => k = g) := by
 have hl := Tr.ht_le l
 have hr := Tr.ht_le r
 have hL := Aside0.mk hL
 have hR := Aside0.mk hR
 have hw : wrap64 (1 + (if (l.ht : Int) < (r.ht : Int) then (r.ht : Int) else (l.ht : Int))) = (((Tr.node x l r).ht : Nat) : Int) := by
  show _ = ((1 + max l.ht r.ht : Nat) : Int)
  unfold wrap64
  split <;> omega
 go_enter Tryz.func61, Tryz.ntmps61
 refine start_ (n := 16) (S := fun w' => Drawn0 w w') (ds := [15]) #[false, false, false, false, false, false, false, false, false, false, false, false, false, false, false, false] (by kernel_rfl) rfl rfl ⟨⟨1, rfl⟩⟩ (fun hHeld => ?_)
 refine qu_ 0 2 ?_
 refine qu_ 1 3 ?_
 refine qu_ 2 4 ?_
 refine qu_ 3 5 ?_
 refine qt_ 4 6 hHeld ?_ rfl rfl (by intro w' sb_; obtain ⟨⟨n_, rfl⟩⟩ := sb_; have s0_ : (w.drewN n_).cell? ⟨g, 3, none⟩ = some (.pointer lu) := (blk_cell hblk 3).trans rfl; go_simp; with_reducible rfl)
 refine qu_ 6 8 ?_
 refine qu_ 7 9 ?_
 refine qu_ 8 10 ?_
 refine qt_ 9 11 hHeld ?_ rfl rfl (by intro w' sb_; obtain ⟨⟨n_, rfl⟩⟩ := sb_; have s0_ : (w.drewN n_).cell? ⟨g, 4, none⟩ = some (.pointer ru) := (blk_cell hblk 4).trans rfl; go_simp; with_reducible rfl)
 refine qo_ 5 (some 7) (fun K hK => ?_)
 refine qc_ Tryz.func69 #[.pointer lu] ?_
 with_reducible refine (heightT lu l A _ ?side0).mono ?_
 (case side0 => exact hL.out.drewN 1)
 rintro e w1 ⟨rfl, hd⟩
 refine ⟨_, rfl, ?_⟩
 have HD1 : Drawn0 w w1 := drawn_drew hd
 clear hd
 refine hK.out _ _ HD1 (fun hHeld => ?_)
 clear hK K
 refine qm_ ?_
 refine qo_ 10 (some 12) (fun K hK => ?_)
 refine qc_ Tryz.func69 #[.pointer ru] ?_
 with_reducible refine (heightT ru r B _ ?side0).mono ?_
 (case side0 => exact hR.out.drawn HD1)
 rintro e w2 ⟨rfl, hd⟩
 refine ⟨_, rfl, ?_⟩
 have HD2 : Drawn0 w w2 := drawn_trans HD1 hd
 clear hd HD1
 refine hK.out _ _ HD2 (fun hHeld => ?_)
 clear hK K
 refine qm_ ?_
 refine qu_ 11 13 ?_
 refine qu_ 12 14 ?_
 refine qu_ 13 15 ?_
 refine qu_ 14 16 ?_
 refine ql_ 15 none (fun K hK => ?_)
 obtain ⟨⟨q, rfl⟩⟩ := HD2
 clear hHeld
 have hc : (w.drewN q).cell? ⟨g, 5, none⟩ = some (.int .i64 hv) := (blk_cell hblk 5).trans rfl
 have hf : (w.drewN q).frozen? ⟨g, 5, none⟩ = false := blk_frozen (blk_drewN hblk q) 5
 refine skip_ (w1 := ?_) (by rfl) rfl ?_ ?_
 rotate_left
 ·
  go_simp
  rfl
 refine hK.out _ _ ?_
 clear hK K
 refine done_ (by kernel_rfl) ?_
 clear hc hf
 go_end0
 refine ⟨rfl, ?_, (Wr.drewN w q _).trans (Wr.set _ _ _ rfl)⟩
 have hw' := hw
 refine (blk_put (blk_drewN hblk q) 5 _ ?_)
 rw [← hw]
 simp [wrap64]
 all_goals (first | omega | (split <;> omega))

set_option maxHeartbeats 4000000 in
set_option maxRecDepth 100000 in
theorem turnLT (S : Nat → Prop) (g : Nat) (x y : S35) (a b c : Tr) (w : World) (h : IsO w S g x a (.node y b c)) (hlen : a.sz + b.sz + c.sz ≤ 900) :
  Calls Tryz.prog 70 #[.pointer (some ⟨g, 0, none⟩)] w fun e w' => ∃ u, e = .returned (.pointer u) ∧ IsT w' S u (.node y (.node x a b) c) ∧ Wr w w' S := by
 obtain ⟨A, B, lu, ru, hv, hblk, hp, hl, hr⟩ := h
 obtain ⟨m, B1, C1, bu, cu, rfl, hbm, hq, h1, h2⟩ := hr
 generalize (((Tr.node y b c).ht : Nat) : Int) = hy at hbm
 have T := hp.triL hq
 have HA := Aside0.mk hl
 have HB := Aside0.mk h1
 have HC := Aside0.mk h2
 have HT := Aside0.mk T
 have hn1 := T.ne
 have hn2 := fun e => T.ne (Eq.symm e)
 have cg : w.cell? ⟨g, 4, none⟩ = some (.pointer (some ⟨m, 0, none⟩)) := (blk_cell hblk 4).trans rfl
 have cm : w.cell? ⟨m, 3, none⟩ = some (.pointer bu) := (blk_cell hbm 3).trans rfl
 have fg : w.frozen? ⟨g, 4, none⟩ = false := blk_frozen hblk 4
 have BG := Aside0.mk hblk
 have BM := Aside0.mk hbm
 have HLEN := Aside0.mk hlen
 clear hp hl hq h1 h2 T hlen hblk hbm
 go_enter Tryz.func70, Tryz.ntmps70
 go_wp2_with (first
  | ((with_reducible refine gate_store (t := 56) (p := 16) rfl ?_); refine store_event (t := 56) (p := 16) (v := ?vo_1) (w1 := (w.setCell ⟨g, 4, none⟩ (.pointer bu))) ?hg ?ho ?hn ?hr ?_; (case ho => rfl); (case hg => rfl); (case hn => rfl); (case hr => first | (go_simp; done) | (go_simp; rfl)); intro w1 hw; have BG1 : Aside0 (Blk w1 g x lu bu hv) := ⟨by rw [hw]; exact blk_put BG.out 4 _ rfl⟩; have BM1 : Aside0 (Blk w1 m y bu cu _) := ⟨by rw [hw]; exact blk_far BM.out (fun e => HT.out.ne e.symm) _⟩; have HW1 : Aside0 (Wr w w1 (fun k => k = g ∨ k = m)) := ⟨by rw [hw]; exact Wr.set _ _ _ (.inl rfl)⟩; have cm1 : w1.cell? ⟨m, 3, none⟩ = some (.pointer bu) := (blk_cell BM1.out 3).trans rfl; have fm1 : w1.frozen? ⟨m, 3, none⟩ = false := blk_frozen BM1.out 3; clear hw cg cm fg)
  | ((with_reducible refine gate_store (t := 56) (p := 18) rfl ?_); refine store_event (t := 56) (p := 18) (v := ?vo_2) (w1 := (w1.setCell ⟨m, 3, none⟩ (.pointer (some ⟨g, 0, none⟩)))) ?hg ?ho ?hn ?hr ?_; (case ho => rfl); (case hg => rfl); (case hn => rfl); (case hr => first | (go_simp; done) | (go_simp; rfl)); intro w2 hw; have BG2 : Aside0 (Blk w2 g x lu bu hv) := ⟨by rw [hw]; exact blk_far BG1.out (fun e => HT.out.ne e) _⟩; have BM2 : Aside0 (Blk w2 m y (some ⟨g, 0, none⟩) cu _) := ⟨by rw [hw]; exact blk_put BM1.out 3 _ rfl⟩; have HW2 : Aside0 (Wr w w2 (fun k => k = g ∨ k = m)) := ⟨HW1.out.trans (by rw [hw]; exact Wr.set _ _ _ (.inr rfl))⟩; clear hw cm1 fm1)
  | (go_at_call_of 61 (Value.pointer (some ⟨g, 0, none⟩)); (with_reducible refine (tellT g A B1 x lu bu a b hv w2 ?side0 ?side1 ?side2 ?side3).mono ?_); (case side0 => exact BG2.out); (case side1 => exact HA.out.far HW2.out (fun k hk => by have := HT.out; rintro (rfl | rfl) <;> exact absurd rfl (by first | exact (this.a _ hk).2.1 | exact (this.a _ hk).2.2.1))); (case side2 => exact HB.out.far HW2.out (fun k hk => by have := HT.out; rintro (rfl | rfl) <;> exact absurd rfl (by first | exact (this.b _ hk).2.1 | exact (this.b _ hk).2.2.1))); (case side3 => have := HLEN.out; omega); rintro e w3 ⟨rfl, hb, hw⟩; have BG3 := Aside0.mk hb; have HW3 : Aside0 (Wr w w3 (fun k => k = g ∨ k = m)) := ⟨HW2.out.trans (hw.wid_ (fun k e => .inl e))⟩; have BM3 := Aside0.mk (BM2.out.keep hw (fun e => HT.out.ne e.symm)); have HG3 := Aside0.mk (IsO.close BG3.out HT.out.upL.2 (HA.out.far HW3.out (fun k hk => by have := HT.out; rintro (rfl | rfl) <;> exact absurd rfl (by first | exact (this.a _ hk).2.1 | exact (this.a _ hk).2.2.1))) (HB.out.far HW3.out (fun k hk => by have := HT.out; rintro (rfl | rfl) <;> exact absurd rfl (by first | exact (this.b _ hk).2.1 | exact (this.b _ hk).2.2.1)))); clear hb hw)
  | (go_at_call_of 61 (Value.pointer (some ⟨m, 0, none⟩)); (with_reducible refine (tellT m (fun k => k = g ∨ A k ∨ B1 k) C1 y (some ⟨g, 0, none⟩) cu (.node x a b) c hy w3 ?side0 ?side1 ?side2 ?side3).mono ?_); (case side0 => exact BM3.out); (case side1 => exact HG3.out); (case side2 => exact (HC.out.far HW3.out (fun k hk => by have := HT.out; rintro (rfl | rfl) <;> exact absurd rfl (by first | exact (this.c _ hk).2.1 | exact (this.c _ hk).2.2)))); (case side3 => have := HLEN.out; simp only [Tr.sz]; omega); rintro e w4 ⟨rfl, hb, hw⟩; have BM4 := Aside0.mk hb; have HW4 : Aside0 (Wr w w4 (fun k => k = g ∨ k = m)) := ⟨HW3.out.trans (hw.wid_ (fun k e => .inr e))⟩; have HG4 := Aside0.mk (HG3.out.far hw (fun k hk e => HT.out.upL.1.gl (e ▸ hk))); clear hb hw))
 go_ret
 have HT := HT.out
 refine ⟨_, rfl, IsO.close BM4.out HT.upL.1 HG4.out (HC.out.far HW4.out (fun k hk => by have := HT; rintro (rfl | rfl) <;> exact absurd rfl (by first | exact (this.c _ hk).2.1 | exact (this.c _ hk).2.2))), HW4.out.wid_ (fun k e => e.elim (fun e => e ▸ HT.sg) (fun e => e ▸ HT.sm))⟩

set_option maxHeartbeats 4000000 in
set_option maxRecDepth 100000 in
theorem turnRT (S : Nat → Prop) (g : Nat) (x y : S35) (a b c : Tr) (w : World) (h : IsO w S g x (.node y a b) c) (hlen : a.sz + b.sz + c.sz ≤ 900) :
  Calls Tryz.prog 71 #[.pointer (some ⟨g, 0, none⟩)] w fun e w' => ∃ u, e = .returned (.pointer u) ∧ IsT w' S u (.node y a (.node x b c)) ∧ Wr w w' S := by
 obtain ⟨A, B, lu, ru, hv, hblk, hp, hl, hr⟩ := h
 obtain ⟨m, A1, B1, au, bu, rfl, hbm, hq, h1, h2⟩ := hl
 generalize (((Tr.node y a b).ht : Nat) : Int) = hy at hbm
 have T := hp.triR hq
 have HA := Aside0.mk h1
 have HB := Aside0.mk h2
 have HC := Aside0.mk hr
 have HT := Aside0.mk T
 have hn1 := T.ne
 have hn2 := fun e => T.ne (Eq.symm e)
 have cg : w.cell? ⟨g, 3, none⟩ = some (.pointer (some ⟨m, 0, none⟩)) := (blk_cell hblk 3).trans rfl
 have cm : w.cell? ⟨m, 4, none⟩ = some (.pointer bu) := (blk_cell hbm 4).trans rfl
 have fg : w.frozen? ⟨g, 3, none⟩ = false := blk_frozen hblk 3
 have BG := Aside0.mk hblk
 have BM := Aside0.mk hbm
 have HLEN := Aside0.mk hlen
 clear hp hr hq h1 h2 T hlen hblk hbm
 go_enter Tryz.func71, Tryz.ntmps71
 go_wp2_with (first
  | ((with_reducible refine gate_store (t := 56) (p := 16) rfl ?_); refine store_event (t := 56) (p := 16) (v := ?vo_1) (w1 := (w.setCell ⟨g, 3, none⟩ (.pointer bu))) ?hg ?ho ?hn ?hr ?_; (case ho => rfl); (case hg => rfl); (case hn => rfl); (case hr => first | (go_simp; done) | (go_simp; rfl)); intro w1 hw; have BG1 : Aside0 (Blk w1 g x bu ru hv) := ⟨by rw [hw]; exact blk_put BG.out 3 _ rfl⟩; have BM1 : Aside0 (Blk w1 m y au bu _) := ⟨by rw [hw]; exact blk_far BM.out (fun e => HT.out.ne e.symm) _⟩; have HW1 : Aside0 (Wr w w1 (fun k => k = g ∨ k = m)) := ⟨by rw [hw]; exact Wr.set _ _ _ (.inl rfl)⟩; have cm1 : w1.cell? ⟨m, 4, none⟩ = some (.pointer bu) := (blk_cell BM1.out 4).trans rfl; have fm1 : w1.frozen? ⟨m, 4, none⟩ = false := blk_frozen BM1.out 4; clear hw cg cm fg)
  | ((with_reducible refine gate_store (t := 56) (p := 18) rfl ?_); refine store_event (t := 56) (p := 18) (v := ?vo_2) (w1 := (w1.setCell ⟨m, 4, none⟩ (.pointer (some ⟨g, 0, none⟩)))) ?hg ?ho ?hn ?hr ?_; (case ho => rfl); (case hg => rfl); (case hn => rfl); (case hr => first | (go_simp; done) | (go_simp; rfl)); intro w2 hw; have BG2 : Aside0 (Blk w2 g x bu ru hv) := ⟨by rw [hw]; exact blk_far BG1.out (fun e => HT.out.ne e) _⟩; have BM2 : Aside0 (Blk w2 m y au (some ⟨g, 0, none⟩) _) := ⟨by rw [hw]; exact blk_put BM1.out 4 _ rfl⟩; have HW2 : Aside0 (Wr w w2 (fun k => k = g ∨ k = m)) := ⟨HW1.out.trans (by rw [hw]; exact Wr.set _ _ _ (.inr rfl))⟩; clear hw cm1 fm1)
  | (go_at_call_of 61 (Value.pointer (some ⟨g, 0, none⟩)); (with_reducible refine (tellT g B1 B x bu ru b c hv w2 ?side0 ?side1 ?side2 ?side3).mono ?_); (case side0 => exact BG2.out); (case side1 => exact HB.out.far HW2.out (fun k hk => by have := HT.out; rintro (rfl | rfl) <;> exact absurd rfl (by first | exact (this.b _ hk).2.1 | exact (this.b _ hk).2.2.1))); (case side2 => exact HC.out.far HW2.out (fun k hk => by have := HT.out; rintro (rfl | rfl) <;> exact absurd rfl (by first | exact (this.c _ hk).2.1 | exact (this.c _ hk).2.2))); (case side3 => have := HLEN.out; omega); rintro e w3 ⟨rfl, hb, hw⟩; have BG3 := Aside0.mk hb; have HW3 : Aside0 (Wr w w3 (fun k => k = g ∨ k = m)) := ⟨HW2.out.trans (hw.wid_ (fun k e => .inl e))⟩; have BM3 := Aside0.mk (BM2.out.keep hw (fun e => HT.out.ne e.symm)); have HG3 := Aside0.mk (IsO.close BG3.out HT.out.upR.2 (HB.out.far HW3.out (fun k hk => by have := HT.out; rintro (rfl | rfl) <;> exact absurd rfl (by first | exact (this.b _ hk).2.1 | exact (this.b _ hk).2.2.1))) (HC.out.far HW3.out (fun k hk => by have := HT.out; rintro (rfl | rfl) <;> exact absurd rfl (by first | exact (this.c _ hk).2.1 | exact (this.c _ hk).2.2)))); clear hb hw)
  | (go_at_call_of 61 (Value.pointer (some ⟨m, 0, none⟩)); (with_reducible refine (tellT m A1 (fun k => k = g ∨ B1 k ∨ B k) y au (some ⟨g, 0, none⟩) a (.node x b c) hy w3 ?side0 ?side1 ?side2 ?side3).mono ?_); (case side0 => exact BM3.out); (case side1 => exact (HA.out.far HW3.out (fun k hk => by have := HT.out; rintro (rfl | rfl) <;> exact absurd rfl (by first | exact (this.a _ hk).2.1 | exact (this.a _ hk).2.2.1)))); (case side2 => exact HG3.out); (case side3 => have := HLEN.out; simp only [Tr.sz]; omega); rintro e w4 ⟨rfl, hb, hw⟩; have BM4 := Aside0.mk hb; have HW4 : Aside0 (Wr w w4 (fun k => k = g ∨ k = m)) := ⟨HW3.out.trans (hw.wid_ (fun k e => .inr e))⟩; have HG4 := Aside0.mk (HG3.out.far hw (fun k hk e => HT.out.upR.1.gr (e ▸ hk))); clear hb hw))
 go_ret
 have HT := HT.out
 refine ⟨_, rfl, IsO.close BM4.out HT.upR.1 (HA.out.far HW4.out (fun k hk => by have := HT; rintro (rfl | rfl) <;> exact absurd rfl (by first | exact (this.a _ hk).2.1 | exact (this.a _ hk).2.2.1))) HG4.out, HW4.out.wid_ (fun k e => e.elim (fun e => e ▸ HT.sg) (fun e => e ▸ HT.sm))⟩

set_option maxHeartbeats 4000000 in
set_option maxRecDepth 100000 in
theorem balN (S A B : Nat → Prop) (g : Nat) (x : S35) (l r : Tr) (w : World) (lu ru : Option Addr) (hv : Int) (hblk : Blk w g x lu ru hv) (hp : Part S g A B) (hl : IsT w A lu l) (hr : IsT w B ru r) (hlen : (Tr.node x l r).sz ≤ 800) (h1 : ¬ (l.ht : Int) - r.ht = 2) (h2 : ¬ (l.ht : Int) - r.ht = -2) :
  Calls Tryz.prog 53 #[.pointer (some ⟨g, 0, none⟩)] w fun e w' => ∃ u, e = .returned (.pointer u) ∧ IsT w' S u (.node x l r) ∧ Wr w w' S := by
 have e1 : wrap64 ((l.ht : Int) - r.ht) = (l.ht : Int) - r.ht := by
  have := Tr.ht_le l
  have := Tr.ht_le r
  simp only [Tr.sz] at hlen
  unfold wrap64
  omega
 have HL := Aside0.mk hl
 have HR := Aside0.mk hr
 have BG := Aside0.mk hblk
 have HP := Aside0.mk hp
 have HLEN := Aside0.mk hlen
 clear hl hr hblk hp
 go_enter Tryz.func53, Tryz.ntmps53
 go_wp2_with (first
  | (go_at_call 61; (with_reducible refine (tellT g A B x lu ru l r hv w ?side0 ?side1 ?side2 ?side3).mono ?_); (case side0 => exact BG.out); (case side1 => exact HL.out); (case side2 => exact HR.out); (case side3 => have := HLEN.out; simp only [Tr.sz] at this ⊢; omega); rintro e w1 ⟨rfl, hb, hw⟩; have BG1 := Aside0.mk hb; have HL1 := Aside0.mk (HL.out.far hw (fun k hk e => HP.out.gl (e ▸ hk))); have HR1 := Aside0.mk (HR.out.far hw (fun k hk e => HP.out.gr (e ▸ hk))); have HW1 : Aside0 (Wr w w1 S) := ⟨hw.wid_ (fun k e => e ▸ HP.out.root)⟩; clear hb hw HL HR BG))
 refine start_ (n := 11) (S := fun w' => Drawn0 w1 w') (ds := []) #[false, false, false, false, false, false, false, false, false, false, false] (by kernel_rfl) rfl rfl ⟨⟨1, rfl⟩⟩ (fun hHeld => ?_)
 refine qu_ 0 5 ?_
 refine qu_ 1 6 ?_
 refine qu_ 2 7 ?_
 refine qt_ 3 8 hHeld ?_ rfl rfl (by intro w' sb_; obtain ⟨⟨n_, rfl⟩⟩ := sb_; have s0_ : (w1.drewN n_).cell? ⟨g, 3, none⟩ = some (.pointer lu) := (blk_cell BG1.out 3).trans rfl; go_simp; with_reducible rfl)
 refine qu_ 5 10 ?_
 refine qu_ 6 11 ?_
 refine qu_ 7 12 ?_
 refine qt_ 8 13 hHeld ?_ rfl rfl (by intro w' sb_; obtain ⟨⟨n_, rfl⟩⟩ := sb_; have s0_ : (w1.drewN n_).cell? ⟨g, 4, none⟩ = some (.pointer ru) := (blk_cell BG1.out 4).trans rfl; go_simp; with_reducible rfl)
 refine qo_ 4 (some 9) (fun K hK => ?_)
 refine qc_ Tryz.func69 #[.pointer lu] ?_
 with_reducible refine (heightT lu l A _ ?side0).mono ?_
 (case side0 => exact HL1.out.drewN 1)
 rintro e w2 ⟨rfl, hd⟩
 refine ⟨_, rfl, ?_⟩
 have HDw2 : Drawn0 w1 w2 := drawn_drew hd
 clear hd
 refine hK.out _ _ HDw2 (fun hHeld => ?_)
 clear hK K
 refine qm_ ?_
 refine qo_ 9 (some 14) (fun K hK => ?_)
 refine qc_ Tryz.func69 #[.pointer ru] ?_
 with_reducible refine (heightT ru r B _ ?side0).mono ?_
 (case side0 => exact HR1.out.drawn HDw2)
 rintro e w3 ⟨rfl, hd⟩
 refine ⟨_, rfl, ?_⟩
 have HDw3 : Drawn0 w1 w3 := drawn_trans HDw2 hd
 clear hd
 refine hK.out _ _ HDw3 (fun hHeld => ?_)
 clear hK K
 refine qm_ ?_
 refine qu_ 10 15 ?_
 refine done_ (by kernel_rfl) ?_
 have BG3 := Aside0.mk (BG1.out.drawn HDw3)
 have HL3 := Aside0.mk (HL1.out.drawn HDw3)
 have HR3 := Aside0.mk (HR1.out.drawn HDw3)
 have HW3 : Aside0 (Wr w w3 S) := ⟨by obtain ⟨⟨q, rfl⟩⟩ := HDw3; exact HW1.out.trans (Wr.drewN _ _ _)⟩
 clear hHeld HDw2 HDw3 BG1 HL1 HR1 HW1
 rw [e1]
 clear e1
 generalize (l.ht : Int) - r.ht = d at h1 h2 ⊢
 have c1 : (d == 2) = false := beq_eq_false_iff_ne.2 h1
 have c2 : (d == -2) = false := beq_eq_false_iff_ne.2 h2
 clear h1 h2
 go_wp2
 go_ret
 exact ⟨_, rfl, IsO.close BG3.out HP.out HL3.out HR3.out, HW3.out⟩

set_option maxHeartbeats 4000000 in
set_option maxRecDepth 100000 in
theorem balL1 (S A B : Nat → Prop) (g : Nat) (x y : S35) (a b r : Tr) (w : World) (lu ru : Option Addr) (hv : Int) (hblk : Blk w g x lu ru hv) (hp : Part S g A B) (hl : IsT w A lu (.node y a b)) (hr : IsT w B ru r) (hlen : (Tr.node x (.node y a b) r).sz ≤ 800) (h1 : wrap64 (((Tr.ht (.node y a b) : Nat) : Int) - (Tr.ht r : Nat)) = 2) (h2 : ¬ (Tr.ht a < Tr.ht b)) :
  Calls Tryz.prog 53 #[.pointer (some ⟨g, 0, none⟩)] w fun e w' => ∃ u, e = .returned (.pointer u) ∧ IsT w' S u (.node y a (.node x b r)) ∧ Wr w w' S := by
 have c2 : decide (Tr.ht a < Tr.ht b) = false := decide_eq_false h2
 clear h2
 have HL := Aside0.mk hl
 have HR := Aside0.mk hr
 have BG := Aside0.mk hblk
 have HP := Aside0.mk hp
 have HLEN := Aside0.mk hlen
 clear hl hr hblk hp
 go_enter Tryz.func53, Tryz.ntmps53
 go_wp2_with (first
  | (go_at_call 61; (with_reducible refine (tellT g A B x lu ru (.node y a b) r hv w ?side0 ?side1 ?side2 ?side3).mono ?_); (case side0 => exact BG.out); (case side1 => exact HL.out); (case side2 => exact HR.out); (case side3 => have := HLEN.out; simp only [Tr.sz] at this ⊢; omega); rintro e w1 ⟨rfl, hb, hw⟩; have BG1 := Aside0.mk hb; have HL1 := Aside0.mk (HL.out.far hw (fun k hk e => HP.out.gl (e ▸ hk))); have HR1 := Aside0.mk (HR.out.far hw (fun k hk e => HP.out.gr (e ▸ hk))); have HW1 : Aside0 (Wr w w1 S) := ⟨hw.wid_ (fun k e => e ▸ HP.out.root)⟩; clear hb hw HL HR BG))
 refine start_ (n := 11) (S := fun w' => Drawn0 w1 w') (ds := []) #[false, false, false, false, false, false, false, false, false, false, false] (by kernel_rfl) rfl rfl ⟨⟨1, rfl⟩⟩ (fun hHeld => ?_)
 refine qu_ 0 5 ?_
 refine qu_ 1 6 ?_
 refine qu_ 2 7 ?_
 refine qt_ 3 8 hHeld ?_ rfl rfl (by intro w' sb_; obtain ⟨⟨n_, rfl⟩⟩ := sb_; have s0_ : (w1.drewN n_).cell? ⟨g, 3, none⟩ = some (.pointer lu) := (blk_cell BG1.out 3).trans rfl; go_simp; with_reducible rfl)
 refine qu_ 5 10 ?_
 refine qu_ 6 11 ?_
 refine qu_ 7 12 ?_
 refine qt_ 8 13 hHeld ?_ rfl rfl (by intro w' sb_; obtain ⟨⟨n_, rfl⟩⟩ := sb_; have s0_ : (w1.drewN n_).cell? ⟨g, 4, none⟩ = some (.pointer ru) := (blk_cell BG1.out 4).trans rfl; go_simp; with_reducible rfl)
 refine qo_ 4 (some 9) (fun K hK => ?_)
 refine qc_ Tryz.func69 #[.pointer lu] ?_
 with_reducible refine (heightT lu (.node y a b) A _ ?side0).mono ?_
 (case side0 => exact HL1.out.drewN 1)
 rintro e w2 ⟨rfl, hd⟩
 refine ⟨_, rfl, ?_⟩
 have HDw2 : Drawn0 w1 w2 := drawn_drew hd
 clear hd
 refine hK.out _ _ HDw2 (fun hHeld => ?_)
 clear hK K
 refine qm_ ?_
 refine qo_ 9 (some 14) (fun K hK => ?_)
 refine qc_ Tryz.func69 #[.pointer ru] ?_
 with_reducible refine (heightT ru r B _ ?side0).mono ?_
 (case side0 => exact HR1.out.drawn HDw2)
 rintro e w3 ⟨rfl, hd⟩
 refine ⟨_, rfl, ?_⟩
 have HDw3 : Drawn0 w1 w3 := drawn_trans HDw2 hd
 clear hd
 refine hK.out _ _ HDw3 (fun hHeld => ?_)
 clear hK K
 refine qm_ ?_
 refine qu_ 10 15 ?_
 refine done_ (by kernel_rfl) ?_
 have BG3 := Aside0.mk (BG1.out.drawn HDw3)
 have HL3 := Aside0.mk (HL1.out.drawn HDw3)
 have HR3 := Aside0.mk (HR1.out.drawn HDw3)
 have HW3 : Aside0 (Wr w w3 S) := ⟨by obtain ⟨⟨q, rfl⟩⟩ := HDw3; exact HW1.out.trans (Wr.drewN _ _ _)⟩
 clear hHeld HDw2 HDw3 BG1 HL1 HR1 HW1
 rw [h1]
 clear h1
 go_wp2
 obtain ⟨m, A1, B1, au, bu, em, hbm, hq, h3, h4⟩ := HL3.out
 subst em
 have BM := Aside0.mk hbm
 have HQ := Aside0.mk hq
 have H3 := Aside0.mk h3
 have H4 := Aside0.mk h4
 clear hbm hq h3 h4
 refine start_ (n := 17) (S := fun w' => Drawn0 w3 w') (ds := []) #[false, false, false, false, false, false, false, false, false, false, false, false, false, false, false, false, false] (by kernel_rfl) rfl rfl ⟨⟨1, rfl⟩⟩ (fun hHeld => ?_)
 refine qu_ 0 18 ?_
 refine qu_ 1 19 ?_
 refine qu_ 2 20 ?_
 refine qt_ 3 21 hHeld ?_ rfl rfl (by intro w' sb_; obtain ⟨⟨n_, rfl⟩⟩ := sb_; have s0_ : (w3.drewN n_).cell? ⟨g, 3, none⟩ = some (.pointer (some ⟨m, 0, none⟩)) := (blk_cell BG3.out 3).trans rfl; go_simp; with_reducible rfl)
 refine qu_ 4 22 ?_
 refine qu_ 5 23 ?_
 refine qt_ 6 24 hHeld ?_ rfl rfl (by intro w' sb_; obtain ⟨⟨n_, rfl⟩⟩ := sb_; have s0_ : (w3.drewN n_).cell? ⟨m, 3, none⟩ = some (.pointer au) := (blk_cell BM.out 3).trans rfl; go_simp; with_reducible rfl)
 refine qu_ 8 26 ?_
 refine qu_ 9 27 ?_
 refine qu_ 10 28 ?_
 refine qt_ 11 29 hHeld ?_ rfl rfl (by intro w' sb_; obtain ⟨⟨n_, rfl⟩⟩ := sb_; have s0_ : (w3.drewN n_).cell? ⟨g, 3, none⟩ = some (.pointer (some ⟨m, 0, none⟩)) := (blk_cell BG3.out 3).trans rfl; go_simp; with_reducible rfl)
 refine qu_ 12 30 ?_
 refine qu_ 13 31 ?_
 refine qt_ 14 32 hHeld ?_ rfl rfl (by intro w' sb_; obtain ⟨⟨n_, rfl⟩⟩ := sb_; have s0_ : (w3.drewN n_).cell? ⟨m, 4, none⟩ = some (.pointer bu) := (blk_cell BM.out 4).trans rfl; go_simp; with_reducible rfl)
 refine qo_ 7 (some 25) (fun K hK => ?_)
 refine qc_ Tryz.func69 #[.pointer au] ?_
 with_reducible refine (heightT au a A1 _ ?side0).mono ?_
 (case side0 => exact H3.out.drewN 1)
 rintro e w4 ⟨rfl, hd⟩
 refine ⟨_, rfl, ?_⟩
 have HDw4 : Drawn0 w3 w4 := drawn_drew hd
 clear hd
 refine hK.out _ _ HDw4 (fun hHeld => ?_)
 clear hK K
 refine qm_ ?_
 refine qo_ 15 (some 33) (fun K hK => ?_)
 refine qc_ Tryz.func69 #[.pointer bu] ?_
 with_reducible refine (heightT bu b B1 _ ?side0).mono ?_
 (case side0 => exact H4.out.drawn HDw4)
 rintro e w5 ⟨rfl, hd⟩
 refine ⟨_, rfl, ?_⟩
 have HDw5 : Drawn0 w3 w5 := drawn_trans HDw4 hd
 clear hd
 refine hK.out _ _ HDw5 (fun hHeld => ?_)
 clear hK K
 refine qm_ ?_
 refine qu_ 16 34 ?_
 refine done_ (by kernel_rfl) ?_
 have BG5 := Aside0.mk (BG3.out.drawn HDw5)
 have HL5 := Aside0.mk (HL3.out.drawn HDw5)
 have HR5 := Aside0.mk (HR3.out.drawn HDw5)
 have HM5 : Aside0 (IsO w5 A m y a b) := ⟨A1, B1, au, bu, _, BM.out.drawn HDw5, HQ.out, H3.out.drawn HDw5, H4.out.drawn HDw5⟩
 have HW5 : Aside0 (Wr w w5 S) := ⟨by obtain ⟨⟨q, rfl⟩⟩ := HDw5; exact HW3.out.trans (Wr.drewN _ _ _)⟩
 have cg : w5.cell? ⟨g, 3, none⟩ = some (.pointer (some ⟨m, 0, none⟩)) := (blk_cell BG5.out 3).trans rfl
 clear hHeld HDw4 HDw5 BG3 HL3 HR3 HW3 BM H3 H4
 clear cg
 go_wp2_with (first
  | (go_at_call_of 71 (Value.pointer (some ⟨g, 0, none⟩)); (with_reducible refine (turnRT S g x y a b r _ ?side0 ?side1).mono ?_); (case side0 => exact ⟨A, B, _, _, _, BG5.out, HP.out, HL5.out, HR5.out⟩); (case side1 => have := HLEN.out; simp only [Tr.sz] at this ⊢; omega); rintro e w8 ⟨u8, rfl, ht, hw⟩; have HT8 := Aside0.mk ht; have HW8 : Aside0 (Wr w w8 S) := ⟨HW5.out.trans hw⟩; clear ht hw))
 go_ret
 exact ⟨_, rfl, HT8.out, HW8.out⟩

set_option maxHeartbeats 4000000 in
set_option maxRecDepth 100000 in
theorem balL2 (S A B : Nat → Prop) (g : Nat) (x y z : S35) (a b c r : Tr) (w : World) (lu ru : Option Addr) (hv : Int) (hblk : Blk w g x lu ru hv) (hp : Part S g A B) (hl : IsT w A lu (.node y a (.node z b c))) (hr : IsT w B ru r) (hlen : (Tr.node x (.node y a (.node z b c)) r).sz ≤ 800) (h1 : wrap64 (((Tr.ht (.node y a (.node z b c)) : Nat) : Int) - (Tr.ht r : Nat)) = 2) (h2 : (Tr.ht a < Tr.ht (.node z b c))) :
  Calls Tryz.prog 53 #[.pointer (some ⟨g, 0, none⟩)] w fun e w' => ∃ u, e = .returned (.pointer u) ∧ IsT w' S u (.node z (.node y a b) (.node x c r)) ∧ Wr w w' S := by
 have c2 : decide (Tr.ht a < Tr.ht (.node z b c)) = true := decide_eq_true h2
 clear h2
 have HL := Aside0.mk hl
 have HR := Aside0.mk hr
 have BG := Aside0.mk hblk
 have HP := Aside0.mk hp
 have HLEN := Aside0.mk hlen
 clear hl hr hblk hp
 go_enter Tryz.func53, Tryz.ntmps53
 go_wp2_with (first
  | (go_at_call 61; (with_reducible refine (tellT g A B x lu ru (.node y a (.node z b c)) r hv w ?side0 ?side1 ?side2 ?side3).mono ?_); (case side0 => exact BG.out); (case side1 => exact HL.out); (case side2 => exact HR.out); (case side3 => have := HLEN.out; simp only [Tr.sz] at this ⊢; omega); rintro e w1 ⟨rfl, hb, hw⟩; have BG1 := Aside0.mk hb; have HL1 := Aside0.mk (HL.out.far hw (fun k hk e => HP.out.gl (e ▸ hk))); have HR1 := Aside0.mk (HR.out.far hw (fun k hk e => HP.out.gr (e ▸ hk))); have HW1 : Aside0 (Wr w w1 S) := ⟨hw.wid_ (fun k e => e ▸ HP.out.root)⟩; clear hb hw HL HR BG))
 refine start_ (n := 11) (S := fun w' => Drawn0 w1 w') (ds := []) #[false, false, false, false, false, false, false, false, false, false, false] (by kernel_rfl) rfl rfl ⟨⟨1, rfl⟩⟩ (fun hHeld => ?_)
 refine qu_ 0 5 ?_
 refine qu_ 1 6 ?_
 refine qu_ 2 7 ?_
 refine qt_ 3 8 hHeld ?_ rfl rfl (by intro w' sb_; obtain ⟨⟨n_, rfl⟩⟩ := sb_; have s0_ : (w1.drewN n_).cell? ⟨g, 3, none⟩ = some (.pointer lu) := (blk_cell BG1.out 3).trans rfl; go_simp; with_reducible rfl)
 refine qu_ 5 10 ?_
 refine qu_ 6 11 ?_
 refine qu_ 7 12 ?_
 refine qt_ 8 13 hHeld ?_ rfl rfl (by intro w' sb_; obtain ⟨⟨n_, rfl⟩⟩ := sb_; have s0_ : (w1.drewN n_).cell? ⟨g, 4, none⟩ = some (.pointer ru) := (blk_cell BG1.out 4).trans rfl; go_simp; with_reducible rfl)
 refine qo_ 4 (some 9) (fun K hK => ?_)
 refine qc_ Tryz.func69 #[.pointer lu] ?_
 with_reducible refine (heightT lu (.node y a (.node z b c)) A _ ?side0).mono ?_
 (case side0 => exact HL1.out.drewN 1)
 rintro e w2 ⟨rfl, hd⟩
 refine ⟨_, rfl, ?_⟩
 have HDw2 : Drawn0 w1 w2 := drawn_drew hd
 clear hd
 refine hK.out _ _ HDw2 (fun hHeld => ?_)
 clear hK K
 refine qm_ ?_
 refine qo_ 9 (some 14) (fun K hK => ?_)
 refine qc_ Tryz.func69 #[.pointer ru] ?_
 with_reducible refine (heightT ru r B _ ?side0).mono ?_
 (case side0 => exact HR1.out.drawn HDw2)
 rintro e w3 ⟨rfl, hd⟩
 refine ⟨_, rfl, ?_⟩
 have HDw3 : Drawn0 w1 w3 := drawn_trans HDw2 hd
 clear hd
 refine hK.out _ _ HDw3 (fun hHeld => ?_)
 clear hK K
 refine qm_ ?_
 refine qu_ 10 15 ?_
 refine done_ (by kernel_rfl) ?_
 have BG3 := Aside0.mk (BG1.out.drawn HDw3)
 have HL3 := Aside0.mk (HL1.out.drawn HDw3)
 have HR3 := Aside0.mk (HR1.out.drawn HDw3)
 have HW3 : Aside0 (Wr w w3 S) := ⟨by obtain ⟨⟨q, rfl⟩⟩ := HDw3; exact HW1.out.trans (Wr.drewN _ _ _)⟩
 clear hHeld HDw2 HDw3 BG1 HL1 HR1 HW1
 rw [h1]
 clear h1
 go_wp2
 obtain ⟨m, A1, B1, au, bu, em, hbm, hq, h3, h4⟩ := HL3.out
 subst em
 have BM := Aside0.mk hbm
 have HQ := Aside0.mk hq
 have H3 := Aside0.mk h3
 have H4 := Aside0.mk h4
 clear hbm hq h3 h4
 refine start_ (n := 17) (S := fun w' => Drawn0 w3 w') (ds := []) #[false, false, false, false, false, false, false, false, false, false, false, false, false, false, false, false, false] (by kernel_rfl) rfl rfl ⟨⟨1, rfl⟩⟩ (fun hHeld => ?_)
 refine qu_ 0 18 ?_
 refine qu_ 1 19 ?_
 refine qu_ 2 20 ?_
 refine qt_ 3 21 hHeld ?_ rfl rfl (by intro w' sb_; obtain ⟨⟨n_, rfl⟩⟩ := sb_; have s0_ : (w3.drewN n_).cell? ⟨g, 3, none⟩ = some (.pointer (some ⟨m, 0, none⟩)) := (blk_cell BG3.out 3).trans rfl; go_simp; with_reducible rfl)
 refine qu_ 4 22 ?_
 refine qu_ 5 23 ?_
 refine qt_ 6 24 hHeld ?_ rfl rfl (by intro w' sb_; obtain ⟨⟨n_, rfl⟩⟩ := sb_; have s0_ : (w3.drewN n_).cell? ⟨m, 3, none⟩ = some (.pointer au) := (blk_cell BM.out 3).trans rfl; go_simp; with_reducible rfl)
 refine qu_ 8 26 ?_
 refine qu_ 9 27 ?_
 refine qu_ 10 28 ?_
 refine qt_ 11 29 hHeld ?_ rfl rfl (by intro w' sb_; obtain ⟨⟨n_, rfl⟩⟩ := sb_; have s0_ : (w3.drewN n_).cell? ⟨g, 3, none⟩ = some (.pointer (some ⟨m, 0, none⟩)) := (blk_cell BG3.out 3).trans rfl; go_simp; with_reducible rfl)
 refine qu_ 12 30 ?_
 refine qu_ 13 31 ?_
 refine qt_ 14 32 hHeld ?_ rfl rfl (by intro w' sb_; obtain ⟨⟨n_, rfl⟩⟩ := sb_; have s0_ : (w3.drewN n_).cell? ⟨m, 4, none⟩ = some (.pointer bu) := (blk_cell BM.out 4).trans rfl; go_simp; with_reducible rfl)
 refine qo_ 7 (some 25) (fun K hK => ?_)
 refine qc_ Tryz.func69 #[.pointer au] ?_
 with_reducible refine (heightT au a A1 _ ?side0).mono ?_
 (case side0 => exact H3.out.drewN 1)
 rintro e w4 ⟨rfl, hd⟩
 refine ⟨_, rfl, ?_⟩
 have HDw4 : Drawn0 w3 w4 := drawn_drew hd
 clear hd
 refine hK.out _ _ HDw4 (fun hHeld => ?_)
 clear hK K
 refine qm_ ?_
 refine qo_ 15 (some 33) (fun K hK => ?_)
 refine qc_ Tryz.func69 #[.pointer bu] ?_
 with_reducible refine (heightT bu (.node z b c) B1 _ ?side0).mono ?_
 (case side0 => exact H4.out.drawn HDw4)
 rintro e w5 ⟨rfl, hd⟩
 refine ⟨_, rfl, ?_⟩
 have HDw5 : Drawn0 w3 w5 := drawn_trans HDw4 hd
 clear hd
 refine hK.out _ _ HDw5 (fun hHeld => ?_)
 clear hK K
 refine qm_ ?_
 refine qu_ 16 34 ?_
 refine done_ (by kernel_rfl) ?_
 have BG5 := Aside0.mk (BG3.out.drawn HDw5)
 have HL5 := Aside0.mk (HL3.out.drawn HDw5)
 have HR5 := Aside0.mk (HR3.out.drawn HDw5)
 have HM5 : Aside0 (IsO w5 A m y a (.node z b c)) := ⟨A1, B1, au, bu, _, BM.out.drawn HDw5, HQ.out, H3.out.drawn HDw5, H4.out.drawn HDw5⟩
 have HW5 : Aside0 (Wr w w5 S) := ⟨by obtain ⟨⟨q, rfl⟩⟩ := HDw5; exact HW3.out.trans (Wr.drewN _ _ _)⟩
 have cg : w5.cell? ⟨g, 3, none⟩ = some (.pointer (some ⟨m, 0, none⟩)) := (blk_cell BG5.out 3).trans rfl
 clear hHeld HDw4 HDw5 BG3 HL3 HR3 HW3 BM H3 H4
 go_wp2_with (first
  | (go_at_call_of 70 (Value.pointer (some ⟨m, 0, none⟩)); (with_reducible refine (turnLT A m y z a b c _ ?side0 ?side1).mono ?_); (case side0 => exact HM5.out); (case side1 => have := HLEN.out; simp only [Tr.sz] at this; omega); rintro e w6 ⟨u, rfl, ht, hw⟩; have HM6 := Aside0.mk ht; have BG6 := Aside0.mk (BG5.out.keep hw HP.out.gl); have HK6 := Aside0.mk (HR5.out.far hw (fun k hk c => HP.out.dj k c hk)); have HW6 : Aside0 (Wr w w6 S) := ⟨HW5.out.trans (hw.wid_ HP.out.l)⟩; have cg6 : w6.cell? ⟨g, 3, none⟩ = some (.pointer (some ⟨m, 0, none⟩)) := (blk_cell BG6.out 3).trans rfl; have fg6 : w6.frozen? ⟨g, 3, none⟩ = false := blk_frozen BG6.out 3; clear ht hw cg)
  | ((with_reducible refine gate_store (t := 56) (p := 42) rfl ?_); refine store_event (t := 56) (p := 42) (v := ?vo_balL2) (w1 := (w6.setCell ⟨g, 3, none⟩ (.pointer u))) ?hg ?ho ?hn ?hr ?_; (case ho => rfl); (case hg => rfl); (case hn => rfl); (case hr => first | (go_simp; done) | (go_simp; rfl)); intro w7 hw; have hs : Wr w6 w7 (fun k => k = g) := (by rw [hw]; exact Wr.set _ _ _ rfl); have BG7 : Aside0 (Blk w7 g x u ru _) := ⟨by rw [hw]; exact blk_put BG6.out 3 _ rfl⟩; have HM7 := Aside0.mk (HM6.out.far hs (fun k hk e => HP.out.gl (e ▸ hk))); have HK7 := Aside0.mk (HK6.out.far hs (fun k hk e => HP.out.gr (e ▸ hk))); have HW7 : Aside0 (Wr w w7 S) := ⟨HW6.out.trans (hs.wid_ (fun k e => e ▸ HP.out.root))⟩; clear hw hs cg6 fg6)
  | (go_at_call_of 71 (Value.pointer (some ⟨g, 0, none⟩)); (with_reducible refine (turnRT S g x z (.node y a b) c r _ ?side0 ?side1).mono ?_); (case side0 => exact ⟨A, B, _, _, _, BG7.out, HP.out, HM7.out, HK7.out⟩); (case side1 => have := HLEN.out; simp only [Tr.sz] at this ⊢; omega); rintro e w8 ⟨u8, rfl, ht, hw⟩; have HT8 := Aside0.mk ht; have HW8 : Aside0 (Wr w w8 S) := ⟨HW7.out.trans hw⟩; clear ht hw))
 go_ret
 exact ⟨_, rfl, HT8.out, HW8.out⟩

set_option maxHeartbeats 4000000 in
set_option maxRecDepth 100000 in
theorem balR1 (S A B : Nat → Prop) (g : Nat) (x y : S35) (l a b : Tr) (w : World) (lu ru : Option Addr) (hv : Int) (hblk : Blk w g x lu ru hv) (hp : Part S g A B) (hl : IsT w A lu l) (hr : IsT w B ru (.node y a b)) (hlen : (Tr.node x l (.node y a b)).sz ≤ 800) (h1 : wrap64 (((Tr.ht l : Nat) : Int) - (Tr.ht (.node y a b) : Nat)) = -2) (h2 : ¬ (Tr.ht b < Tr.ht a)) :
  Calls Tryz.prog 53 #[.pointer (some ⟨g, 0, none⟩)] w fun e w' => ∃ u, e = .returned (.pointer u) ∧ IsT w' S u (.node y (.node x l a) b) ∧ Wr w w' S := by
 have c2 : decide (Tr.ht b < Tr.ht a) = false := decide_eq_false h2
 clear h2
 have HL := Aside0.mk hl
 have HR := Aside0.mk hr
 have BG := Aside0.mk hblk
 have HP := Aside0.mk hp
 have HLEN := Aside0.mk hlen
 clear hl hr hblk hp
 go_enter Tryz.func53, Tryz.ntmps53
 go_wp2_with (first
  | (go_at_call 61; (with_reducible refine (tellT g A B x lu ru l (.node y a b) hv w ?side0 ?side1 ?side2 ?side3).mono ?_); (case side0 => exact BG.out); (case side1 => exact HL.out); (case side2 => exact HR.out); (case side3 => have := HLEN.out; simp only [Tr.sz] at this ⊢; omega); rintro e w1 ⟨rfl, hb, hw⟩; have BG1 := Aside0.mk hb; have HL1 := Aside0.mk (HL.out.far hw (fun k hk e => HP.out.gl (e ▸ hk))); have HR1 := Aside0.mk (HR.out.far hw (fun k hk e => HP.out.gr (e ▸ hk))); have HW1 : Aside0 (Wr w w1 S) := ⟨hw.wid_ (fun k e => e ▸ HP.out.root)⟩; clear hb hw HL HR BG))
 refine start_ (n := 11) (S := fun w' => Drawn0 w1 w') (ds := []) #[false, false, false, false, false, false, false, false, false, false, false] (by kernel_rfl) rfl rfl ⟨⟨1, rfl⟩⟩ (fun hHeld => ?_)
 refine qu_ 0 5 ?_
 refine qu_ 1 6 ?_
 refine qu_ 2 7 ?_
 refine qt_ 3 8 hHeld ?_ rfl rfl (by intro w' sb_; obtain ⟨⟨n_, rfl⟩⟩ := sb_; have s0_ : (w1.drewN n_).cell? ⟨g, 3, none⟩ = some (.pointer lu) := (blk_cell BG1.out 3).trans rfl; go_simp; with_reducible rfl)
 refine qu_ 5 10 ?_
 refine qu_ 6 11 ?_
 refine qu_ 7 12 ?_
 refine qt_ 8 13 hHeld ?_ rfl rfl (by intro w' sb_; obtain ⟨⟨n_, rfl⟩⟩ := sb_; have s0_ : (w1.drewN n_).cell? ⟨g, 4, none⟩ = some (.pointer ru) := (blk_cell BG1.out 4).trans rfl; go_simp; with_reducible rfl)
 refine qo_ 4 (some 9) (fun K hK => ?_)
 refine qc_ Tryz.func69 #[.pointer lu] ?_
 with_reducible refine (heightT lu l A _ ?side0).mono ?_
 (case side0 => exact HL1.out.drewN 1)
 rintro e w2 ⟨rfl, hd⟩
 refine ⟨_, rfl, ?_⟩
 have HDw2 : Drawn0 w1 w2 := drawn_drew hd
 clear hd
 refine hK.out _ _ HDw2 (fun hHeld => ?_)
 clear hK K
 refine qm_ ?_
 refine qo_ 9 (some 14) (fun K hK => ?_)
 refine qc_ Tryz.func69 #[.pointer ru] ?_
 with_reducible refine (heightT ru (.node y a b) B _ ?side0).mono ?_
 (case side0 => exact HR1.out.drawn HDw2)
 rintro e w3 ⟨rfl, hd⟩
 refine ⟨_, rfl, ?_⟩
 have HDw3 : Drawn0 w1 w3 := drawn_trans HDw2 hd
 clear hd
 refine hK.out _ _ HDw3 (fun hHeld => ?_)
 clear hK K
 refine qm_ ?_
 refine qu_ 10 15 ?_
 refine done_ (by kernel_rfl) ?_
 have BG3 := Aside0.mk (BG1.out.drawn HDw3)
 have HL3 := Aside0.mk (HL1.out.drawn HDw3)
 have HR3 := Aside0.mk (HR1.out.drawn HDw3)
 have HW3 : Aside0 (Wr w w3 S) := ⟨by obtain ⟨⟨q, rfl⟩⟩ := HDw3; exact HW1.out.trans (Wr.drewN _ _ _)⟩
 clear hHeld HDw2 HDw3 BG1 HL1 HR1 HW1
 rw [h1]
 clear h1
 go_wp2
 obtain ⟨m, A1, B1, au, bu, em, hbm, hq, h3, h4⟩ := HR3.out
 subst em
 have BM := Aside0.mk hbm
 have HQ := Aside0.mk hq
 have H3 := Aside0.mk h3
 have H4 := Aside0.mk h4
 clear hbm hq h3 h4
 refine start_ (n := 17) (S := fun w' => Drawn0 w3 w') (ds := []) #[false, false, false, false, false, false, false, false, false, false, false, false, false, false, false, false, false] (by kernel_rfl) rfl rfl ⟨⟨1, rfl⟩⟩ (fun hHeld => ?_)
 refine qu_ 0 47 ?_
 refine qu_ 1 48 ?_
 refine qu_ 2 49 ?_
 refine qt_ 3 50 hHeld ?_ rfl rfl (by intro w' sb_; obtain ⟨⟨n_, rfl⟩⟩ := sb_; have s0_ : (w3.drewN n_).cell? ⟨g, 4, none⟩ = some (.pointer (some ⟨m, 0, none⟩)) := (blk_cell BG3.out 4).trans rfl; go_simp; with_reducible rfl)
 refine qu_ 4 51 ?_
 refine qu_ 5 52 ?_
 refine qt_ 6 53 hHeld ?_ rfl rfl (by intro w' sb_; obtain ⟨⟨n_, rfl⟩⟩ := sb_; have s0_ : (w3.drewN n_).cell? ⟨m, 4, none⟩ = some (.pointer bu) := (blk_cell BM.out 4).trans rfl; go_simp; with_reducible rfl)
 refine qu_ 8 55 ?_
 refine qu_ 9 56 ?_
 refine qu_ 10 57 ?_
 refine qt_ 11 58 hHeld ?_ rfl rfl (by intro w' sb_; obtain ⟨⟨n_, rfl⟩⟩ := sb_; have s0_ : (w3.drewN n_).cell? ⟨g, 4, none⟩ = some (.pointer (some ⟨m, 0, none⟩)) := (blk_cell BG3.out 4).trans rfl; go_simp; with_reducible rfl)
 refine qu_ 12 59 ?_
 refine qu_ 13 60 ?_
 refine qt_ 14 61 hHeld ?_ rfl rfl (by intro w' sb_; obtain ⟨⟨n_, rfl⟩⟩ := sb_; have s0_ : (w3.drewN n_).cell? ⟨m, 3, none⟩ = some (.pointer au) := (blk_cell BM.out 3).trans rfl; go_simp; with_reducible rfl)
 refine qo_ 7 (some 54) (fun K hK => ?_)
 refine qc_ Tryz.func69 #[.pointer bu] ?_
 with_reducible refine (heightT bu b B1 _ ?side0).mono ?_
 (case side0 => exact H4.out.drewN 1)
 rintro e w4 ⟨rfl, hd⟩
 refine ⟨_, rfl, ?_⟩
 have HDw4 : Drawn0 w3 w4 := drawn_drew hd
 clear hd
 refine hK.out _ _ HDw4 (fun hHeld => ?_)
 clear hK K
 refine qm_ ?_
 refine qo_ 15 (some 62) (fun K hK => ?_)
 refine qc_ Tryz.func69 #[.pointer au] ?_
 with_reducible refine (heightT au a A1 _ ?side0).mono ?_
 (case side0 => exact H3.out.drawn HDw4)
 rintro e w5 ⟨rfl, hd⟩
 refine ⟨_, rfl, ?_⟩
 have HDw5 : Drawn0 w3 w5 := drawn_trans HDw4 hd
 clear hd
 refine hK.out _ _ HDw5 (fun hHeld => ?_)
 clear hK K
 refine qm_ ?_
 refine qu_ 16 63 ?_
 refine done_ (by kernel_rfl) ?_
 have BG5 := Aside0.mk (BG3.out.drawn HDw5)
 have HL5 := Aside0.mk (HL3.out.drawn HDw5)
 have HR5 := Aside0.mk (HR3.out.drawn HDw5)
 have HM5 : Aside0 (IsO w5 B m y a b) := ⟨A1, B1, au, bu, _, BM.out.drawn HDw5, HQ.out, H3.out.drawn HDw5, H4.out.drawn HDw5⟩
 have HW5 : Aside0 (Wr w w5 S) := ⟨by obtain ⟨⟨q, rfl⟩⟩ := HDw5; exact HW3.out.trans (Wr.drewN _ _ _)⟩
 have cg : w5.cell? ⟨g, 4, none⟩ = some (.pointer (some ⟨m, 0, none⟩)) := (blk_cell BG5.out 4).trans rfl
 clear hHeld HDw4 HDw5 BG3 HL3 HR3 HW3 BM H3 H4
 clear cg
 go_wp2_with (first
  | (go_at_call_of 70 (Value.pointer (some ⟨g, 0, none⟩)); (with_reducible refine (turnLT S g x y l a b _ ?side0 ?side1).mono ?_); (case side0 => exact ⟨A, B, _, _, _, BG5.out, HP.out, HL5.out, HR5.out⟩); (case side1 => have := HLEN.out; simp only [Tr.sz] at this ⊢; omega); rintro e w8 ⟨u8, rfl, ht, hw⟩; have HT8 := Aside0.mk ht; have HW8 : Aside0 (Wr w w8 S) := ⟨HW5.out.trans hw⟩; clear ht hw))
 go_ret
 exact ⟨_, rfl, HT8.out, HW8.out⟩

set_option maxHeartbeats 4000000 in
set_option maxRecDepth 100000 in
theorem balR2 (S A B : Nat → Prop) (g : Nat) (x y z : S35) (l a b c : Tr) (w : World) (lu ru : Option Addr) (hv : Int) (hblk : Blk w g x lu ru hv) (hp : Part S g A B) (hl : IsT w A lu l) (hr : IsT w B ru (.node y (.node z a c) b)) (hlen : (Tr.node x l (.node y (.node z a c) b)).sz ≤ 800) (h1 : wrap64 (((Tr.ht l : Nat) : Int) - (Tr.ht (.node y (.node z a c) b) : Nat)) = -2) (h2 : (Tr.ht b < Tr.ht (.node z a c))) :
  Calls Tryz.prog 53 #[.pointer (some ⟨g, 0, none⟩)] w fun e w' => ∃ u, e = .returned (.pointer u) ∧ IsT w' S u (.node z (.node x l a) (.node y c b)) ∧ Wr w w' S := by
 have c2 : decide (Tr.ht b < Tr.ht (.node z a c)) = true := decide_eq_true h2
 clear h2
 have HL := Aside0.mk hl
 have HR := Aside0.mk hr
 have BG := Aside0.mk hblk
 have HP := Aside0.mk hp
 have HLEN := Aside0.mk hlen
 clear hl hr hblk hp
 go_enter Tryz.func53, Tryz.ntmps53
 go_wp2_with (first
  | (go_at_call 61; (with_reducible refine (tellT g A B x lu ru l (.node y (.node z a c) b) hv w ?side0 ?side1 ?side2 ?side3).mono ?_); (case side0 => exact BG.out); (case side1 => exact HL.out); (case side2 => exact HR.out); (case side3 => have := HLEN.out; simp only [Tr.sz] at this ⊢; omega); rintro e w1 ⟨rfl, hb, hw⟩; have BG1 := Aside0.mk hb; have HL1 := Aside0.mk (HL.out.far hw (fun k hk e => HP.out.gl (e ▸ hk))); have HR1 := Aside0.mk (HR.out.far hw (fun k hk e => HP.out.gr (e ▸ hk))); have HW1 : Aside0 (Wr w w1 S) := ⟨hw.wid_ (fun k e => e ▸ HP.out.root)⟩; clear hb hw HL HR BG))
 refine start_ (n := 11) (S := fun w' => Drawn0 w1 w') (ds := []) #[false, false, false, false, false, false, false, false, false, false, false] (by kernel_rfl) rfl rfl ⟨⟨1, rfl⟩⟩ (fun hHeld => ?_)
 refine qu_ 0 5 ?_
 refine qu_ 1 6 ?_
 refine qu_ 2 7 ?_
 refine qt_ 3 8 hHeld ?_ rfl rfl (by intro w' sb_; obtain ⟨⟨n_, rfl⟩⟩ := sb_; have s0_ : (w1.drewN n_).cell? ⟨g, 3, none⟩ = some (.pointer lu) := (blk_cell BG1.out 3).trans rfl; go_simp; with_reducible rfl)
 refine qu_ 5 10 ?_
 refine qu_ 6 11 ?_
 refine qu_ 7 12 ?_
 refine qt_ 8 13 hHeld ?_ rfl rfl (by intro w' sb_; obtain ⟨⟨n_, rfl⟩⟩ := sb_; have s0_ : (w1.drewN n_).cell? ⟨g, 4, none⟩ = some (.pointer ru) := (blk_cell BG1.out 4).trans rfl; go_simp; with_reducible rfl)
 refine qo_ 4 (some 9) (fun K hK => ?_)
 refine qc_ Tryz.func69 #[.pointer lu] ?_
 with_reducible refine (heightT lu l A _ ?side0).mono ?_
 (case side0 => exact HL1.out.drewN 1)
 rintro e w2 ⟨rfl, hd⟩
 refine ⟨_, rfl, ?_⟩
 have HDw2 : Drawn0 w1 w2 := drawn_drew hd
 clear hd
 refine hK.out _ _ HDw2 (fun hHeld => ?_)
 clear hK K
 refine qm_ ?_
 refine qo_ 9 (some 14) (fun K hK => ?_)
 refine qc_ Tryz.func69 #[.pointer ru] ?_
 with_reducible refine (heightT ru (.node y (.node z a c) b) B _ ?side0).mono ?_
 (case side0 => exact HR1.out.drawn HDw2)
 rintro e w3 ⟨rfl, hd⟩
 refine ⟨_, rfl, ?_⟩
 have HDw3 : Drawn0 w1 w3 := drawn_trans HDw2 hd
 clear hd
 refine hK.out _ _ HDw3 (fun hHeld => ?_)
 clear hK K
 refine qm_ ?_
 refine qu_ 10 15 ?_
 refine done_ (by kernel_rfl) ?_
 have BG3 := Aside0.mk (BG1.out.drawn HDw3)
 have HL3 := Aside0.mk (HL1.out.drawn HDw3)
 have HR3 := Aside0.mk (HR1.out.drawn HDw3)
 have HW3 : Aside0 (Wr w w3 S) := ⟨by obtain ⟨⟨q, rfl⟩⟩ := HDw3; exact HW1.out.trans (Wr.drewN _ _ _)⟩
 clear hHeld HDw2 HDw3 BG1 HL1 HR1 HW1
 rw [h1]
 clear h1
 go_wp2
 obtain ⟨m, A1, B1, au, bu, em, hbm, hq, h3, h4⟩ := HR3.out
 subst em
 have BM := Aside0.mk hbm
 have HQ := Aside0.mk hq
 have H3 := Aside0.mk h3
 have H4 := Aside0.mk h4
 clear hbm hq h3 h4
 refine start_ (n := 17) (S := fun w' => Drawn0 w3 w') (ds := []) #[false, false, false, false, false, false, false, false, false, false, false, false, false, false, false, false, false] (by kernel_rfl) rfl rfl ⟨⟨1, rfl⟩⟩ (fun hHeld => ?_)
 refine qu_ 0 47 ?_
 refine qu_ 1 48 ?_
 refine qu_ 2 49 ?_
 refine qt_ 3 50 hHeld ?_ rfl rfl (by intro w' sb_; obtain ⟨⟨n_, rfl⟩⟩ := sb_; have s0_ : (w3.drewN n_).cell? ⟨g, 4, none⟩ = some (.pointer (some ⟨m, 0, none⟩)) := (blk_cell BG3.out 4).trans rfl; go_simp; with_reducible rfl)
 refine qu_ 4 51 ?_
 refine qu_ 5 52 ?_
 refine qt_ 6 53 hHeld ?_ rfl rfl (by intro w' sb_; obtain ⟨⟨n_, rfl⟩⟩ := sb_; have s0_ : (w3.drewN n_).cell? ⟨m, 4, none⟩ = some (.pointer bu) := (blk_cell BM.out 4).trans rfl; go_simp; with_reducible rfl)
 refine qu_ 8 55 ?_
 refine qu_ 9 56 ?_
 refine qu_ 10 57 ?_
 refine qt_ 11 58 hHeld ?_ rfl rfl (by intro w' sb_; obtain ⟨⟨n_, rfl⟩⟩ := sb_; have s0_ : (w3.drewN n_).cell? ⟨g, 4, none⟩ = some (.pointer (some ⟨m, 0, none⟩)) := (blk_cell BG3.out 4).trans rfl; go_simp; with_reducible rfl)
 refine qu_ 12 59 ?_
 refine qu_ 13 60 ?_
 refine qt_ 14 61 hHeld ?_ rfl rfl (by intro w' sb_; obtain ⟨⟨n_, rfl⟩⟩ := sb_; have s0_ : (w3.drewN n_).cell? ⟨m, 3, none⟩ = some (.pointer au) := (blk_cell BM.out 3).trans rfl; go_simp; with_reducible rfl)
 refine qo_ 7 (some 54) (fun K hK => ?_)
 refine qc_ Tryz.func69 #[.pointer bu] ?_
 with_reducible refine (heightT bu b B1 _ ?side0).mono ?_
 (case side0 => exact H4.out.drewN 1)
 rintro e w4 ⟨rfl, hd⟩
 refine ⟨_, rfl, ?_⟩
 have HDw4 : Drawn0 w3 w4 := drawn_drew hd
 clear hd
 refine hK.out _ _ HDw4 (fun hHeld => ?_)
 clear hK K
 refine qm_ ?_
 refine qo_ 15 (some 62) (fun K hK => ?_)
 refine qc_ Tryz.func69 #[.pointer au] ?_
 with_reducible refine (heightT au (.node z a c) A1 _ ?side0).mono ?_
 (case side0 => exact H3.out.drawn HDw4)
 rintro e w5 ⟨rfl, hd⟩
 refine ⟨_, rfl, ?_⟩
 have HDw5 : Drawn0 w3 w5 := drawn_trans HDw4 hd
 clear hd
 refine hK.out _ _ HDw5 (fun hHeld => ?_)
 clear hK K
 refine qm_ ?_
 refine qu_ 16 63 ?_
 refine done_ (by kernel_rfl) ?_
 have BG5 := Aside0.mk (BG3.out.drawn HDw5)
 have HL5 := Aside0.mk (HL3.out.drawn HDw5)
 have HR5 := Aside0.mk (HR3.out.drawn HDw5)
 have HM5 : Aside0 (IsO w5 B m y (.node z a c) b) := ⟨A1, B1, au, bu, _, BM.out.drawn HDw5, HQ.out, H3.out.drawn HDw5, H4.out.drawn HDw5⟩
 have HW5 : Aside0 (Wr w w5 S) := ⟨by obtain ⟨⟨q, rfl⟩⟩ := HDw5; exact HW3.out.trans (Wr.drewN _ _ _)⟩
 have cg : w5.cell? ⟨g, 4, none⟩ = some (.pointer (some ⟨m, 0, none⟩)) := (blk_cell BG5.out 4).trans rfl
 clear hHeld HDw4 HDw5 BG3 HL3 HR3 HW3 BM H3 H4
 go_wp2_with (first
  | (go_at_call_of 71 (Value.pointer (some ⟨m, 0, none⟩)); (with_reducible refine (turnRT B m y z a c b _ ?side0 ?side1).mono ?_); (case side0 => exact HM5.out); (case side1 => have := HLEN.out; simp only [Tr.sz] at this; omega); rintro e w6 ⟨u, rfl, ht, hw⟩; have HM6 := Aside0.mk ht; have BG6 := Aside0.mk (BG5.out.keep hw HP.out.gr); have HK6 := Aside0.mk (HL5.out.far hw (fun k hk c => HP.out.dj k hk c)); have HW6 : Aside0 (Wr w w6 S) := ⟨HW5.out.trans (hw.wid_ HP.out.r)⟩; have cg6 : w6.cell? ⟨g, 4, none⟩ = some (.pointer (some ⟨m, 0, none⟩)) := (blk_cell BG6.out 4).trans rfl; have fg6 : w6.frozen? ⟨g, 4, none⟩ = false := blk_frozen BG6.out 4; clear ht hw cg)
  | ((with_reducible refine gate_store (t := 56) (p := 71) rfl ?_); refine store_event (t := 56) (p := 71) (v := ?vo_balR2) (w1 := (w6.setCell ⟨g, 4, none⟩ (.pointer u))) ?hg ?ho ?hn ?hr ?_; (case ho => rfl); (case hg => rfl); (case hn => rfl); (case hr => first | (go_simp; done) | (go_simp; rfl)); intro w7 hw; have hs : Wr w6 w7 (fun k => k = g) := (by rw [hw]; exact Wr.set _ _ _ rfl); have BG7 : Aside0 (Blk w7 g x lu u _) := ⟨by rw [hw]; exact blk_put BG6.out 4 _ rfl⟩; have HM7 := Aside0.mk (HM6.out.far hs (fun k hk e => HP.out.gr (e ▸ hk))); have HK7 := Aside0.mk (HK6.out.far hs (fun k hk e => HP.out.gl (e ▸ hk))); have HW7 : Aside0 (Wr w w7 S) := ⟨HW6.out.trans (hs.wid_ (fun k e => e ▸ HP.out.root))⟩; clear hw hs cg6 fg6)
  | (go_at_call_of 70 (Value.pointer (some ⟨g, 0, none⟩)); (with_reducible refine (turnLT S g x z l a (.node y c b) _ ?side0 ?side1).mono ?_); (case side0 => exact ⟨A, B, _, _, _, BG7.out, HP.out, HK7.out, HM7.out⟩); (case side1 => have := HLEN.out; simp only [Tr.sz] at this ⊢; omega); rintro e w8 ⟨u8, rfl, ht, hw⟩; have HT8 := Aside0.mk ht; have HW8 : Aside0 (Wr w w8 S) := ⟨HW7.out.trans hw⟩; clear ht hw))
 go_ret
 exact ⟨_, rfl, HT8.out, HW8.out⟩
theorem balanceT (S : Nat → Prop) (g : Nat) (x : S35) (l r : Tr) (w : World) (h : IsO w S g x l r) (hlen : (Tr.node x l r).sz ≤ 800) :
  Calls Tryz.prog 53 #[.pointer (some ⟨g, 0, none⟩)] w fun e w' => ∃ u, e = .returned (.pointer u) ∧ IsT w' S u (balT x l r) ∧ Wr w w' S := by
 obtain ⟨A, B, lu, ru, hv, hblk, hp, hl, hr⟩ := h
 have e1 : wrap64 ((l.ht : Int) - r.ht) = (l.ht : Int) - r.ht := by
  have := Tr.ht_le l
  have := Tr.ht_le r
  simp only [Tr.sz] at hlen
  unfold wrap64
  omega
 by_cases c : (l.ht : Int) - r.ht = 2
 ·
  obtain ⟨y, a, b, rfl⟩ := ht_pos (t := l) (by omega)
  by_cases d : a.ht < b.ht
  ·
   obtain ⟨z, b, c', rfl⟩ := ht_pos (t := b) (by omega)
   refine (balL2 S A B g x y z a b c' r w lu ru hv hblk hp hl hr hlen (e1.trans c) d).mono ?_
   rintro e w' ⟨u, he, ht, hw⟩
   refine ⟨u, he, ?_, hw⟩
   rw [balT, if_pos c, if_pos (by exact d)]
   exact ht
  ·
   refine (balL1 S A B g x y a b r w lu ru hv hblk hp hl hr hlen (e1.trans c) d).mono ?_
   rintro e w' ⟨u, he, ht, hw⟩
   refine ⟨u, he, ?_, hw⟩
   rw [balT, if_pos c, if_neg (by exact d)]
   exact ht
 ·
  by_cases c2 : (l.ht : Int) - r.ht = -2
  ·
   obtain ⟨y, a, b, rfl⟩ := ht_pos (t := r) (by omega)
   by_cases d : b.ht < a.ht
   ·
    obtain ⟨z, a, c', rfl⟩ := ht_pos (t := a) (by omega)
    refine (balR2 S A B g x y z l a b c' w lu ru hv hblk hp hl hr hlen (e1.trans c2) d).mono ?_
    rintro e w' ⟨u, he, ht, hw⟩
    refine ⟨u, he, ?_, hw⟩
    rw [balT, if_neg c, if_pos c2, if_pos (by exact d)]
    exact ht
   ·
    refine (balR1 S A B g x y l a b w lu ru hv hblk hp hl hr hlen (e1.trans c2) d).mono ?_
    rintro e w' ⟨u, he, ht, hw⟩
    refine ⟨u, he, ?_, hw⟩
    rw [balT, if_neg c, if_pos c2, if_neg (by exact d)]
    exact ht
  ·
   refine (balN S A B g x l r w lu ru hv hblk hp hl hr hlen c c2).mono ?_
   rintro e w' ⟨u, he, ht, hw⟩
   refine ⟨u, he, ?_, hw⟩
   rw [balT, if_neg c, if_neg c2]
   exact ht
def set3 (w : World) (g : Nat) (x : S35) : World := ((w.setCell ⟨g, 0, none⟩ (.int .i64 x.f0)).setCell ⟨g, 1, none⟩ (.int .i64 x.f1)).setCell ⟨g, 2, none⟩ (.int .i64 x.f2)
theorem set3_blk {w : World} {g : Nat} {a b c : Value} (h : w.heap[g]? = some (.cells #[a, b, c] 35 (0, 0))) (x : S35) : (set3 w g x).heap[g]? = some (.cells (ci35 x) 35 (0, 0)) := by
 have h1 : (w.setCell ⟨g, 0, none⟩ (.int .i64 x.f0)).heap[g]? = some (.cells #[.int .i64 x.f0, b, c] 35 (0, 0)) := blk_put h 0 _ rfl
 have h2 : ((w.setCell ⟨g, 0, none⟩ (.int .i64 x.f0)).setCell ⟨g, 1, none⟩ (.int .i64 x.f1)).heap[g]? = some (.cells #[.int .i64 x.f0, .int .i64 x.f1, c] 35 (0, 0)) := blk_put h1 1 _ rfl
 exact blk_put h2 2 _ rfl
theorem set3_node {w : World} {g : Nat} {x : S35} {lu ru : Option Addr} {h : Int} (b : Blk w g x lu ru h) (y : S35) : Blk (set3 w g y) g y lu ru h := by
 have h1 : (w.setCell ⟨g, 0, none⟩ (.int .i64 y.f0)).heap[g]? = some (.cells #[.int .i64 y.f0, .int .i64 x.f1, .int .i64 x.f2, .pointer lu, .pointer ru, .int .i64 h] 91 (0, 0)) := blk_put b 0 _ rfl
 have h2 : ((w.setCell ⟨g, 0, none⟩ (.int .i64 y.f0)).setCell ⟨g, 1, none⟩ (.int .i64 y.f1)).heap[g]? = some (.cells #[.int .i64 y.f0, .int .i64 y.f1, .int .i64 x.f2, .pointer lu, .pointer ru, .int .i64 h] 91 (0, 0)) := blk_put h1 1 _ rfl
 exact blk_put h2 2 _ rfl
theorem set3_wr (w : World) (g : Nat) (x : S35) : Wr w (set3 w g x) (fun k => k = g) := by
 unfold set3
 exact ((Wr.set (S := fun k => k = g) w ⟨g, 0, none⟩ _ rfl).trans (Wr.set (S := fun k => k = g) _ ⟨g, 1, none⟩ _ rfl)).trans (Wr.set (S := fun k => k = g) _ ⟨g, 2, none⟩ _ rfl)

set_option maxHeartbeats 4000000 in
set_option maxRecDepth 100000 in
theorem firstT (l : Tr) : ∀ (S A B : Nat → Prop) (g : Nat) (x : S35) (r : Tr) (w : World) (lu ru : Option Addr) (hv : Int) (hblk : Blk w g x lu ru hv) (hp : Part S g A B) (hl : IsT w A lu l) (hr : IsT w B ru r) (hS : ∀ k, S k → k < w.heap.size) (hlen : (Tr.node x l r).sz ≤ 800),
  Calls Tryz.prog 52 #[.pointer (some ⟨g, 0, none⟩)] w fun e w' => ∃ u, e = .returned (.tuple #[.pointer u, .agg (ci35 (tfT x l r).2)]) ∧ IsT w' S u (tfT x l r).1 ∧ Wr w w' S := by
 have hu35 := Tryz.underlying35
 have hi35 : (Tryz.prog.info? 35).map (fun i => (i.zero, i.size, i.bytes)) = some (some (.agg #[(.int .i64 0), (.int .i64 0), (.int .i64 0)]), 3, 24) := by kernel_rfl
 have hs35 : (Tryz.prog.info? 35).map (·.size) = some 3 := by kernel_rfl
 induction l with
 | nil =>
  intro S A B g x r w lu ru hv hblk hp hl hr hS hlen
  obtain rfl := hl
  have BG := Aside0.mk hblk
  have HP := Aside0.mk hp
  have HR := Aside0.mk hr
  have HS := Aside0.mk hS
  clear hblk hp hr hS
  go_enter Tryz.func52, Tryz.ntmps52
  go_wp2_with (first
   | ((with_reducible refine gate_dst (N := 3) rfl ?_); refine box_event ?hg (N := 3) ?hd (cs := #[.int .i64 0, .int .i64 0, .int .i64 0]) (t := 35) ?hr ?_; (case hd => rfl); (case hg => rfl); (case hr => first | (go_simp; done) | (go_simp; rfl)); intro g3 hgb w1 hbox hb1; have HG := Aside0.mk hgb; have BZ1 := Aside0.mk hbox; have BG1 := Aside0.mk (blk_below BG.out hb1); have HW1 : Aside0 (Wr w w1 (fun _ => False)) := ⟨Wr.of_below hb1 _⟩; have cg1 : w1.cell? ⟨g, 3, none⟩ = some (.pointer none) := (blk_cell BG1.out 3).trans rfl; clear hgb hbox hb1))
  refine start_ (n := 10) (S := fun w' => Drawn0 w1 w') (ds := [9]) #[false, false, false, false, false, false, false, false, false, false] (by kernel_rfl) rfl rfl ⟨⟨1, rfl⟩⟩ (fun hHeld => ?_)
  refine qu_ 0 10 ?_
  refine qu_ 1 11 ?_
  refine qu_ 2 12 ?_
  refine qt_ 3 13 hHeld ?_ rfl rfl (by intro w' sb_; obtain ⟨⟨n_, rfl⟩⟩ := sb_; have s0_ : (w1.drewN n_).cell? ⟨g, 4, none⟩ = some (.pointer ru) := (blk_cell BG1.out 4).trans rfl; go_simp; with_reducible rfl)
  refine qu_ 4 14 ?_
  refine qu_ 5 15 ?_
  refine qu_ 6 16 ?_
  refine qt_ 7 17 hHeld ?_ rfl rfl (by intro w' sb_; obtain ⟨⟨n_, rfl⟩⟩ := sb_; have s0_ : (w1.drewN n_).cell? ⟨g, 0, none⟩ = some (.int .i64 x.f0) := (blk_cell BG1.out 0).trans rfl; have s1_ : (w1.drewN n_).cell? ⟨g, 1, none⟩ = some (.int .i64 x.f1) := (blk_cell BG1.out 1).trans rfl; have s2_ : (w1.drewN n_).cell? ⟨g, 2, none⟩ = some (.int .i64 x.f2) := (blk_cell BG1.out 2).trans rfl; go_simp; with_reducible rfl)
  refine qu_ 8 2 ?_
  refine ql_ 9 none (fun K hK => ?_)
  clear hHeld
  have BZ2 : Aside0 (w1.drew.heap[g3]? = some (.cells #[.int .i64 0, .int .i64 0, .int .i64 0] 35 (0, 0))) := ⟨BZ1.out⟩
  have HW2 : Aside0 (Wr w w1.drew (fun _ => False)) := ⟨HW1.out.trans (Wr.drewN w1 1 _)⟩
  generalize w1.drew = w2 at BZ2 HW2 ⊢
  have hc0 : w2.cell? ⟨g3, 0, none⟩ = some (.int .i64 0) := (blk_cell BZ2.out 0).trans rfl
  have hc1 : w2.cell? ⟨g3, 1, none⟩ = some (.int .i64 0) := (blk_cell BZ2.out 1).trans rfl
  have hc2 : w2.cell? ⟨g3, 2, none⟩ = some (.int .i64 0) := (blk_cell BZ2.out 2).trans rfl
  have hf : ∀ j, w2.frozen? ⟨g3, j, none⟩ = false := fun j => blk_frozen BZ2.out j
  refine skip_ (w1 := set3 w2 g3 x) (by rfl) rfl ?_ ?_
  ·
   go_simp
   rfl
  refine hK.out _ _ ?_
  clear hK K
  refine done_ (by kernel_rfl) ?_
  clear hc0 hc1 hc2 hf
  have BZ9 := Aside0.mk (set3_blk BZ2.out x)
  have HW9 : Aside0 (Wr w (set3 w2 g3 x) (fun k => k = g3)) := ⟨(HW2.out.wid_ (fun _ e => e.elim)).trans (set3_wr w2 g3 x)⟩
  generalize set3 w2 g3 x = w9 at BZ9 HW9 ⊢
  go_wp2
  (try simp only [Exit.inBlock, Exit.then])
  refine bodyPost_ret (results_tc rfl _ _ g3 35 _ (0, 0) _ rfl BZ9.out hu35 rfl hs35) rfl ?_
  have hg3 : ∀ k, k < w.heap.size → ¬ k = g3 := fun k h c => by have := HG.out; omega
  have HW9 : Wr w w9 (fun _ => False) := ⟨HW9.out.os, HW9.out.tape, HW9.out.output, HW9.out.size, fun k h _ => HW9.out.block k h (hg3 k h)⟩
  exact ⟨_, rfl, (HR.out.far HW9 (fun k hk c => c)).wid_ HP.out.r, HW9.wid_ (fun _ e => e.elim)⟩
 | node y a b iha ihb =>
  intro S A B g x r w lu ru hv hblk hp hl hr hS hlen
  clear ihb
  obtain ⟨m, A1, B1, au, bu, rfl, hbm, hq, h3, h4⟩ := hl
  have IH := Aside0.mk iha
  have BG := Aside0.mk hblk
  have BM := Aside0.mk hbm
  have HP := Aside0.mk hp
  have HQ := Aside0.mk hq
  have H3 := Aside0.mk h3
  have H4 := Aside0.mk h4
  have HR := Aside0.mk hr
  have HS := Aside0.mk hS
  have HLEN := Aside0.mk hlen
  clear iha hblk hbm hp hq h3 h4 hr hS hlen
  generalize htl : (tfT y a b).1 = tl
  generalize hz : (tfT y a b).2 = z
  have hres : tfT x (.node y a b) r = (balT x tl r, z) := by rw [← htl, ← hz]; rfl
  have HRES := Aside0.mk hres
  have HTL := Aside0.mk htl
  have HZ := Aside0.mk hz
  clear hres htl hz
  go_enter Tryz.func52, Tryz.ntmps52
  go_wp2_with (first
   | ((with_reducible refine gate_dst (N := 3) rfl ?_); refine box_event ?hg (N := 3) ?hd (cs := #[.int .i64 0, .int .i64 0, .int .i64 0]) (t := 35) ?hr ?_; (case hd => rfl); (case hg => rfl); (case hr => first | (go_simp; done) | (go_simp; rfl)); intro g3 hgb w1 hbox hb1; have HG3 := Aside0.mk hgb; have BZ31 := Aside0.mk hbox; have BG1 := Aside0.mk (blk_below BG.out hb1); have HW1 : Aside0 (Wr w w1 (fun _ => False)) := ⟨Wr.of_below hb1 _⟩; have NS3 : Aside0 (¬ S g3) := ⟨fun c => absurd (HS.out _ c) (by omega)⟩; have cg1 : w1.cell? ⟨g, 3, none⟩ = some (.pointer (some ⟨m, 0, none⟩)) := (blk_cell BG1.out 3).trans rfl; clear hgb hbox hb1)
   | ((with_reducible refine gate_dst (N := 4) rfl ?_); refine box_event ?hg (N := 4) ?hd (cs := #[.int .i64 0, .int .i64 0, .int .i64 0]) (t := 35) ?hr ?_; (case hd => rfl); (case hg => rfl); (case hr => first | (go_simp; done) | (go_simp; rfl)); intro g4 hgb w2 hbox hb1; have HG4 := Aside0.mk hgb; have BZ42 := Aside0.mk hbox; have BZ32 := Aside0.mk (blk_below BZ31.out hb1); have HW2 : Aside0 (Wr w w2 (fun _ => False)) := ⟨HW1.out.trans (Wr.of_below hb1 _)⟩; have NS4 : Aside0 (¬ S g4 ∧ g3 ≠ g4 ∧ w.heap.size ≤ g4) := ⟨by have := HG3.out; have := HW1.out.size; have := blk_lt BZ31.out; exact ⟨fun c => absurd (HS.out _ c) (by omega), by omega, by omega⟩⟩; have cz0 : w2.cell? ⟨g4, 0, none⟩ = some (.int .i64 0) := (blk_cell BZ42.out 0).trans rfl; have cz1 : w2.cell? ⟨g4, 1, none⟩ = some (.int .i64 0) := (blk_cell BZ42.out 1).trans rfl; have cz2 : w2.cell? ⟨g4, 2, none⟩ = some (.int .i64 0) := (blk_cell BZ42.out 2).trans rfl; have cf2 : ∀ j, w2.frozen? ⟨g4, j, none⟩ = false := fun j => blk_frozen BZ42.out j; clear cg1; clear hgb hbox hb1)
   | ((with_reducible refine gate_store (t := 35) (p := 4) rfl ?_); refine store_event (t := 35) (p := 4) (v := ?vo_f1) (w1 := (set3 w2 g4 ⟨0, 0, 0⟩)) ?hg ?ho ?hn ?hr ?_; (case ho => rfl); (case hg => rfl); (case hn => rfl); (case hr => first | (go_simp; done) | (go_simp; rfl)); intro w3 hw; have hs : Wr w2 w3 (fun k => k = g4) := (by rw [hw]; exact set3_wr _ _ _); have BZ43 : Aside0 (w3.heap[g4]? = some (.cells (ci35 ⟨0, 0, 0⟩) 35 (0, 0))) := ⟨by rw [hw]; exact set3_blk BZ42.out _⟩; have BZ33 := Aside0.mk (hs.keepC BZ32.out NS4.out.2.1); have HW3 : Aside0 (Wr w w3 (fun _ => False)) := ⟨HW2.out.fresh hs NS4.out.2.2⟩; have BG3 := Aside0.mk (BG.out.keep HW3.out id); have cg3 : w3.cell? ⟨g, 3, none⟩ = some (.pointer (some ⟨m, 0, none⟩)) := (blk_cell BG3.out 3).trans rfl; clear hs hw cz0 cz1 cz2 cf2)
   | (go_at_call 52; (with_reducible refine (IH.out A A1 B1 m y b w3 au bu _ (BM.out.keep HW3.out id) HQ.out (H3.out.far HW3.out (fun _ _ => id)) (H4.out.far HW3.out (fun _ _ => id)) ?side0 ?side1).mono ?_); (case side0 => exact fun k hk => Nat.lt_of_lt_of_le (HS.out k (HP.out.l k hk)) HW3.out.size); (case side1 => have := HLEN.out; simp only [Tr.sz] at this ⊢; omega); rintro e w4 ⟨u, rfl, ht, hw⟩; rw [HTL.out] at ht; rw [HZ.out]; have HL4 := Aside0.mk ht; have BG4 := Aside0.mk (BG3.out.keep hw HP.out.gl); have HR4 := Aside0.mk ((HR.out.far HW3.out (fun _ _ => id)).far hw (fun k hk c => HP.out.dj k c hk)); have BZ34 := Aside0.mk (hw.keepC BZ33.out (fun c => NS3.out (HP.out.l _ c))); have BZ44 := Aside0.mk (hw.keepC BZ43.out (fun c => NS4.out.1 (HP.out.l _ c))); have HW4 : Aside0 (Wr w w4 S) := ⟨(HW3.out.wid_ (fun _ c => c.elim)).trans (hw.wid_ HP.out.l)⟩; have cg4 : w4.cell? ⟨g, 3, none⟩ = some (.pointer (some ⟨m, 0, none⟩)) := (blk_cell BG4.out 3).trans rfl; have fg4 : w4.frozen? ⟨g, 3, none⟩ = false := blk_frozen BG4.out 3; clear ht hw cg3)
   | ((with_reducible refine gate_store (t := 56) (p := 29) rfl ?_); refine store_event (t := 56) (p := 29) (v := ?vo_f2) (w1 := (w4.setCell ⟨g, 3, none⟩ (.pointer u))) ?hg ?ho ?hn ?hr ?_; (case ho => rfl); (case hg => rfl); (case hn => rfl); (case hr => first | (go_simp; done) | (go_simp; rfl)); intro w5 hw; have hs : Wr w4 w5 (fun k => k = g) := (by rw [hw]; exact Wr.set _ _ _ rfl); have BG5 : Aside0 (Blk w5 g x u ru _) := ⟨by rw [hw]; exact blk_put BG4.out 3 _ rfl⟩; have HL5 := Aside0.mk (HL4.out.far hs (fun k hk e => HP.out.gl (e ▸ hk))); have HR5 := Aside0.mk (HR4.out.far hs (fun k hk e => HP.out.gr (e ▸ hk))); have BZ35 := Aside0.mk (hs.keepC BZ34.out (fun e => NS3.out (e ▸ HP.out.root))); have BZ45 := Aside0.mk (hs.keepC BZ44.out (fun e => NS4.out.1 (e ▸ HP.out.root))); have HW5 : Aside0 (Wr w w5 S) := ⟨HW4.out.trans (hs.wid_ (fun k e => e ▸ HP.out.root))⟩; have cz0 : w5.cell? ⟨g4, 0, none⟩ = some (.int .i64 0) := (blk_cell BZ45.out 0).trans rfl; have cz1 : w5.cell? ⟨g4, 1, none⟩ = some (.int .i64 0) := (blk_cell BZ45.out 1).trans rfl; have cz2 : w5.cell? ⟨g4, 2, none⟩ = some (.int .i64 0) := (blk_cell BZ45.out 2).trans rfl; have cf2 : ∀ j, w5.frozen? ⟨g4, j, none⟩ = false := fun j => blk_frozen BZ45.out j; clear hs hw cg4 fg4)
   | ((with_reducible refine gate_store (t := 35) (p := 4) rfl ?_); refine store_event (t := 35) (p := 4) (v := ?vo_f3) (w1 := (set3 w5 g4 z)) ?hg ?ho ?hn ?hr ?_; (case ho => rfl); (case hg => rfl); (case hn => rfl); (case hr => first | (go_simp; done) | (go_simp; rfl)); intro w6 hw; have hs : Wr w5 w6 (fun k => k = g4) := (by rw [hw]; exact set3_wr _ _ _); have BZ46 : Aside0 (w6.heap[g4]? = some (.cells (ci35 z) 35 (0, 0))) := ⟨by rw [hw]; exact set3_blk BZ45.out _⟩; have BZ36 := Aside0.mk (hs.keepC BZ35.out NS4.out.2.1); have HW6 : Aside0 (Wr w w6 S) := ⟨HW5.out.fresh hs NS4.out.2.2⟩; have BG6 := Aside0.mk (BG5.out.keep hs (fun e => NS4.out.1 (e ▸ HP.out.root))); have HL6 := Aside0.mk (HL5.out.far hs (fun k hk e => NS4.out.1 (e ▸ HP.out.l k hk))); have HR6 := Aside0.mk (HR5.out.far hs (fun k hk e => NS4.out.1 (e ▸ HP.out.r k hk))); clear hs hw cz0 cz1 cz2 cf2))
  refine start_ (n := 5) (S := fun w' => w'.heap[g4]? = some (.cells (ci35 z) 35 (0, 0))) (ds := [4]) #[false, false, false, false, false] (by kernel_rfl) rfl rfl BZ46.out (fun hHeld => ?_)
  refine qu_ 0 30 ?_
  refine qt_ 2 32 hHeld ?_ rfl rfl (by intro w' sb_; have s0_ : w'.cell? ⟨g4, 0, none⟩ = some (.int .i64 z.f0) := (blk_cell sb_ 0).trans rfl; have s1_ : w'.cell? ⟨g4, 1, none⟩ = some (.int .i64 z.f1) := (blk_cell sb_ 1).trans rfl; have s2_ : w'.cell? ⟨g4, 2, none⟩ = some (.int .i64 z.f2) := (blk_cell sb_ 2).trans rfl; go_simp; with_reducible rfl)
  refine qo_ 1 (some 31) (fun K hK => ?_)
  refine qc_ Tryz.func53 #[.pointer (some ⟨g, 0, none⟩)] ?_
  with_reducible refine (balanceT S g x tl r _ ?side0 ?side1).mono ?_
  (case side0 => exact ⟨A, B, _, _, _, BG6.out, HP.out, HL6.out.drewN 1, HR6.out.drewN 1⟩)
  (case side1 => have := HLEN.out; have h_ := tfT_sz a b y; rw [HTL.out] at h_; simp only [Tr.sz] at this ⊢; omega)
  rintro e w7 ⟨u7, rfl, ht, hw⟩
  refine ⟨_, rfl, ?_⟩
  have hw : Wr w6 w7 S := (Wr.drewN w6 1 S).trans hw
  have BZ37 := Aside0.mk (hw.keepC BZ36.out NS3.out)
  have BZ47 := Aside0.mk (hw.keepC BZ46.out NS4.out.1)
  have HT7 := Aside0.mk ht
  have HW7 : Aside0 (Wr w w7 S) := ⟨HW6.out.trans hw⟩
  clear ht hw
  refine hK.out _ _ BZ47.out (fun hHeld => ?_)
  clear hK K
  refine qm_ ?_
  refine qu_ 3 2 ?_
  refine ql_ 4 none (fun K hK => ?_)
  clear hHeld
  have hc0 : w7.cell? ⟨g3, 0, none⟩ = some (.int .i64 0) := (blk_cell BZ37.out 0).trans rfl
  have hc1 : w7.cell? ⟨g3, 1, none⟩ = some (.int .i64 0) := (blk_cell BZ37.out 1).trans rfl
  have hc2 : w7.cell? ⟨g3, 2, none⟩ = some (.int .i64 0) := (blk_cell BZ37.out 2).trans rfl
  have hf : ∀ j, w7.frozen? ⟨g3, j, none⟩ = false := fun j => blk_frozen BZ37.out j
  refine skip_ (w1 := set3 w7 g3 z) (by rfl) rfl ?_ ?_
  ·
   go_simp
   rfl
  refine hK.out _ _ ?_
  clear hK K
  refine done_ (by kernel_rfl) ?_
  clear hc0 hc1 hc2 hf
  have BZ9 := Aside0.mk (set3_blk BZ37.out z)
  have HW9 : Aside0 (Wr w (set3 w7 g3 z) S) := ⟨HW7.out.fresh (set3_wr w7 g3 z) (by have := HG3.out; omega)⟩
  have HT9 := Aside0.mk (HT7.out.far (set3_wr w7 g3 z) (fun k hk e => NS3.out (e ▸ hk)))
  generalize set3 w7 g3 z = w9 at BZ9 HW9 HT9 ⊢
  go_wp2
  (try simp only [Exit.inBlock, Exit.then])
  refine bodyPost_ret (results_tc rfl _ _ g3 35 _ (0, 0) _ rfl BZ9.out hu35 rfl hs35) rfl ?_
  rw [HRES.out]
  exact ⟨_, rfl, HT9.out, HW9.out⟩

set_option maxHeartbeats 4000000 in
set_option maxRecDepth 100000 in
theorem takeL (a x : S35) (l r : Tr) (S A B : Nat → Prop) (g : Nat) (w : World) (lu ru : Option Addr) (hv c : Int) (hblk : Blk w g x lu ru hv) (hp : Part S g A B) (hl : IsT w A lu l) (hr : IsT w B ru r) (hS : ∀ k, S k → k < w.heap.size) (hlen : (Tr.node x l r).sz ≤ 700)
  (hc : impl_Item_order.f 100 a.f0 a.f1 a.f2 x.f0 x.f1 x.f2 = some c) (ih : (∀ (S : Nat → Prop) (u : Option Addr) (w : World) (t' : Tr) (n : Int), IsT w S u l → (∀ k, S k → k < w.heap.size) → (l).sz ≤ 700 → tkO (ordF a) l = some (t', n) → (∀ y ∈ (l).items, impl_Item_order.f 100 a.f0 a.f1 a.f2 y.f0 y.f1 y.f2 = some (ordF a y)) → Calls Tryz.prog 25 #[.pointer u, .agg (ci35 a)] w fun e w' => ∃ u, e = .returned (.tuple #[.pointer u, .int .i64 n]) ∧ IsT w' S u t' ∧ Wr w w' S)) (p : Tr) (m : Int) (hk : tkO (ordF a) l = some (p, m)) (ho : ∀ y ∈ (Tr.node x l r).items, impl_Item_order.f 100 a.f0 a.f1 a.f2 y.f0 y.f1 y.f2 = some (ordF a y)) (hc0 : c < 0) :
  Calls Tryz.prog 25 #[.pointer (some ⟨g, 0, none⟩), .agg (ci35 a)] w fun e w' => ∃ u, e = .returned (.tuple #[.pointer u, .int .i64 (m + 1)]) ∧ IsT w' S u (balT x p r) ∧ Wr w w' S := by
  have hu35 := Tryz.underlying35
  have hi35 : (Tryz.prog.info? 35).map (fun i => (i.zero, i.size, i.bytes)) = some (some (.agg #[(.int .i64 0), (.int .i64 0), (.int .i64 0)]), 3, 24) := by kernel_rfl
  have BG := Aside0.mk hblk
  have HP := Aside0.mk hp
  have HL := Aside0.mk hl
  have HR := Aside0.mk hr
  have HS := Aside0.mk hS
  have HLEN := Aside0.mk hlen
  have HC := Aside0.mk hc
  have IH := Aside0.mk ih
  have HK := Aside0.mk hk
  have HO := Aside0.mk ho
  have HSZ : Aside0 (p.sz + 1 = l.sz) := ⟨(tkO_ok _ _ _ _ hk).2.2⟩
  have HN : Aside0 (1 ≤ m ∧ m ≤ 1000) := ⟨by have h_ := tkO_ok _ _ _ _ hk; simp only [Tr.sz] at hlen; omega⟩
  have c1 : decide (c < 0) = true := decide_eq_true hc0
  clear hblk hp hl hr hS hlen hc ih hk ho hc0
  go_enter Tryz.func25, Tryz.ntmps25
  go_wp2_with (first
   | ((with_reducible refine gate_dst (N := 3) rfl ?_); refine box_event ?hg (N := 3) ?hd (cs := (ci35 a)) (t := 35) ?hr ?_; (case hd => rfl); (case hg => rfl); (case hr => first | (go_simp; done) | (go_simp; rfl)); intro g3 hgb w1 hbox hb1; have BX1 := Aside0.mk hbox; have BG1 := Aside0.mk (blk_below BG.out hb1); have HW1 : Aside0 (Wr w w1 (fun _ => False)) := ⟨Wr.of_below hb1 _⟩; have NS3 : Aside0 (¬ S g3) := ⟨fun c => absurd (HS.out _ c) (by omega)⟩; clear hgb hbox hb1))
  refine start_ (n := 7) (S := fun w' => Below w1.heap.size w1 w') (ds := []) #[false, false, false, false, false, false, false] (by kernel_rfl) rfl rfl (below_drew (Below.refl _ _)) (fun hHeld => ?_)
  refine qt_ 0 8 hHeld ?_ rfl rfl (by intro w' sb_; have hq_ := (sb_.block g3 (blk_lt BX1.out)).trans BX1.out; have s0_ : w'.cell? ⟨g3, 0, none⟩ = some (.int .i64 a.f0) := (blk_cell hq_ 0).trans rfl; have s1_ : w'.cell? ⟨g3, 1, none⟩ = some (.int .i64 a.f1) := (blk_cell hq_ 1).trans rfl; have s2_ : w'.cell? ⟨g3, 2, none⟩ = some (.int .i64 a.f2) := (blk_cell hq_ 2).trans rfl; clear sb_ hq_; go_simp; with_reducible rfl)
  refine qu_ 1 9 ?_
  refine qu_ 2 10 ?_
  refine qu_ 3 11 ?_
  refine qt_ 4 12 hHeld ?_ rfl rfl (by intro w' sb_; have hq_ := (sb_.block g (blk_lt BG1.out)).trans BG1.out; have s0_ : w'.cell? ⟨g, 0, none⟩ = some (.int .i64 x.f0) := (blk_cell hq_ 0).trans rfl; have s1_ : w'.cell? ⟨g, 1, none⟩ = some (.int .i64 x.f1) := (blk_cell hq_ 1).trans rfl; have s2_ : w'.cell? ⟨g, 2, none⟩ = some (.int .i64 x.f2) := (blk_cell hq_ 2).trans rfl; clear sb_ hq_; go_simp; with_reducible rfl)
  refine qo_ 5 (some 13) (fun K hK => ?_)
  refine qc_ Tryz.func46 #[.agg (ci35 a), .agg (ci35 x)] ?_
  with_reducible refine (impl_Item_order.calls 100 a.f0 a.f1 a.f2 x.f0 x.f1 x.f2 c _ HC.out).mono ?_
  rintro e w2 ⟨rfl, hb2⟩
  refine ⟨_, rfl, ?_⟩
  have hb2 : Below w1.heap.size w1 w2 := below_step (below_drew (Below.refl w1.heap.size w1)) hb2
  have BX2 := Aside0.mk (blk_below BX1.out hb2)
  have BG2 : Aside0 (Blk w2 g x lu _ hv) := ⟨blk_below BG1.out hb2⟩
  have HW2 : Aside0 (Wr w w2 (fun _ => False)) := ⟨HW1.out.trans (Wr.of_below hb2 _)⟩
  have HL2 := Aside0.mk (HL.out.far HW2.out (fun _ _ => id))
  have HR2 := Aside0.mk (HR.out.far HW2.out (fun _ _ => id))
  refine hK.out _ _ hb2 (fun hHeld => ?_)
  clear hK K
  refine qm_ ?_
  refine qu_ 6 7 ?_
  refine done_ (by kernel_rfl) ?_
  clear hHeld hb2
  go_wp2
  refine start_ (n := 14) (S := fun w' => Drawn0 w2 w') (ds := [6, 12]) #[false, false, false, false, false, false, false, false, false, false, false, false, false, false] (by kernel_rfl) rfl rfl ⟨⟨1, rfl⟩⟩ (fun hHeld => ?_)
  refine qu_ 0 32 ?_
  refine qu_ 1 33 ?_
  refine qu_ 2 34 ?_
  refine qu_ 3 35 ?_
  refine qt_ 4 36 hHeld ?_ rfl rfl (by intro w' sb_; obtain ⟨⟨n_, rfl⟩⟩ := sb_; have s0_ : (w2.drewN n_).cell? ⟨g, 3, none⟩ = some (.pointer lu) := (blk_cell BG2.out 3).trans rfl; go_simp; with_reducible rfl)
  refine qt_ 5 37 hHeld ?_ rfl rfl (by intro w' sb_; obtain ⟨⟨n_, rfl⟩⟩ := sb_; have s0_ : (w2.drewN n_).cell? ⟨g3, 0, none⟩ = some (.int .i64 a.f0) := (blk_cell BX2.out 0).trans rfl; have s1_ : (w2.drewN n_).cell? ⟨g3, 1, none⟩ = some (.int .i64 a.f1) := (blk_cell BX2.out 1).trans rfl; have s2_ : (w2.drewN n_).cell? ⟨g3, 2, none⟩ = some (.int .i64 a.f2) := (blk_cell BX2.out 2).trans rfl; go_simp; with_reducible rfl)
  refine ql_ 6 (some 38) (fun K hK => ?_)
  refine qc_ Tryz.func25 #[.pointer lu, .agg (ci35 a)] ?_
  have HD_ : Aside0 (IsT w2.drew A lu l) := ⟨HL2.out.drewN 1⟩
  with_reducible refine (IH.out A lu w2.drew p m HD_.out ?side0 ?side1 HK.out ?side2).mono ?_
  (case side0 => exact fun k hk => Nat.lt_of_lt_of_le (HS.out k (HP.out.l k hk)) HW2.out.size)
  (case side1 => have := HLEN.out; simp only [Tr.sz] at this ⊢; omega)
  (case side2 => exact fun y hy => HO.out y (items_mem_l hy))
  rintro e w3 ⟨u, rfl, ht, hw⟩
  refine ⟨_, rfl, ?_⟩
  clear hHeld
  have hw : Wr w2 w3 A := (Wr.drewN w2 1 _).trans hw
  have BG3 := Aside0.mk (BG2.out.keep hw HP.out.gl)
  have HK3 := Aside0.mk (HR2.out.far hw (fun k hk c => HP.out.dj k c hk))
  have HT3 := Aside0.mk ht
  have HW3 : Aside0 (Wr w w3 S) := ⟨(HW2.out.wid_ (fun _ c => c.elim)).trans (hw.wid_ HP.out.l)⟩
  clear ht hw
  refine hK.out _ _ ?_
  clear hK K
  refine qm_ ?_
  refine qu_ 7 31 ?_
  refine qu_ 8 39 ?_
  refine qu_ 9 40 ?_
  refine qu_ 10 41 ?_
  refine qu_ 11 42 ?_
  refine ql_ 12 none (fun K hK => ?_)
  have hc : w3.cell? ⟨g, 3, none⟩ = some (.pointer lu) := (blk_cell BG3.out 3).trans rfl
  have hf : w3.frozen? ⟨g, 3, none⟩ = false := blk_frozen BG3.out 3
  refine skip_ (w1 := w3.setCell ⟨g, 3, none⟩ (.pointer u)) (by rfl) rfl ?_ ?_
  ·
   go_simp
  refine hK.out _ _ ?_
  clear hK K hc hf
  have hs : Wr w3 (w3.setCell ⟨g, 3, none⟩ (.pointer u)) (fun k => k = g) := Wr.set _ _ _ rfl
  have BG4 : Aside0 (Blk (w3.setCell ⟨g, 3, none⟩ (.pointer u)) g x u ru _) := ⟨blk_put BG3.out 3 _ rfl⟩
  have HL4 := Aside0.mk (HT3.out.far hs (fun k hk e => HP.out.gl (e ▸ hk)))
  have HR4 := Aside0.mk (HK3.out.far hs (fun k hk e => HP.out.gr (e ▸ hk)))
  have HW4 : Aside0 (Wr w (w3.setCell ⟨g, 3, none⟩ (.pointer u)) S) := ⟨HW3.out.trans (hs.wid_ (fun k e => e ▸ HP.out.root))⟩
  clear hs
  generalize w3.setCell ⟨g, 3, none⟩ (.pointer u) = w4 at BG4 HL4 HR4 HW4 ⊢
  refine qu_ 13 6 ?_
  refine done_ (by kernel_rfl) ?_
  go_wp2_with (first
   | (go_at_call 53; (with_reducible refine (balanceT S g x p r w4 ?side1 ?side0).mono ?_); (case side1 => exact ⟨A, B, _, _, _, BG4.out, HP.out, HL4.out, HR4.out⟩); (case side0 => have h1_ := HLEN.out; have h2_ := HSZ.out; simp only [Tr.sz] at h1_ ⊢; omega); rintro e w5 ⟨u5, rfl, ht, hw⟩; have HT5 := Aside0.mk ht; have HW5 : Aside0 (Wr w w5 S) := ⟨HW4.out.trans hw⟩; clear ht hw))
  go_ret2
  have hn : wrap64 (m + 1) = m + 1 := by
   have := HN.out
   unfold wrap64
   omega
  refine ⟨_, ?_, HT5.out, HW5.out⟩
  first | rfl | simp [hn]

set_option maxHeartbeats 4000000 in
set_option maxRecDepth 100000 in
theorem takeR (a x : S35) (l r : Tr) (S A B : Nat → Prop) (g : Nat) (w : World) (lu ru : Option Addr) (hv c : Int) (hblk : Blk w g x lu ru hv) (hp : Part S g A B) (hl : IsT w A lu l) (hr : IsT w B ru r) (hS : ∀ k, S k → k < w.heap.size) (hlen : (Tr.node x l r).sz ≤ 700)
  (hc : impl_Item_order.f 100 a.f0 a.f1 a.f2 x.f0 x.f1 x.f2 = some c) (ih : (∀ (S : Nat → Prop) (u : Option Addr) (w : World) (t' : Tr) (n : Int), IsT w S u r → (∀ k, S k → k < w.heap.size) → (r).sz ≤ 700 → tkO (ordF a) r = some (t', n) → (∀ y ∈ (r).items, impl_Item_order.f 100 a.f0 a.f1 a.f2 y.f0 y.f1 y.f2 = some (ordF a y)) → Calls Tryz.prog 25 #[.pointer u, .agg (ci35 a)] w fun e w' => ∃ u, e = .returned (.tuple #[.pointer u, .int .i64 n]) ∧ IsT w' S u t' ∧ Wr w w' S)) (p : Tr) (m : Int) (hk : tkO (ordF a) r = some (p, m)) (ho : ∀ y ∈ (Tr.node x l r).items, impl_Item_order.f 100 a.f0 a.f1 a.f2 y.f0 y.f1 y.f2 = some (ordF a y)) (hc0 : ¬ c < 0) (hc1 : 0 < c) :
  Calls Tryz.prog 25 #[.pointer (some ⟨g, 0, none⟩), .agg (ci35 a)] w fun e w' => ∃ u, e = .returned (.tuple #[.pointer u, .int .i64 (m + 1)]) ∧ IsT w' S u (balT x l p) ∧ Wr w w' S := by
  have hu35 := Tryz.underlying35
  have hi35 : (Tryz.prog.info? 35).map (fun i => (i.zero, i.size, i.bytes)) = some (some (.agg #[(.int .i64 0), (.int .i64 0), (.int .i64 0)]), 3, 24) := by kernel_rfl
  have BG := Aside0.mk hblk
  have HP := Aside0.mk hp
  have HL := Aside0.mk hl
  have HR := Aside0.mk hr
  have HS := Aside0.mk hS
  have HLEN := Aside0.mk hlen
  have HC := Aside0.mk hc
  have IH := Aside0.mk ih
  have HK := Aside0.mk hk
  have HO := Aside0.mk ho
  have HSZ : Aside0 (p.sz + 1 = r.sz) := ⟨(tkO_ok _ _ _ _ hk).2.2⟩
  have HN : Aside0 (1 ≤ m ∧ m ≤ 1000) := ⟨by have h_ := tkO_ok _ _ _ _ hk; simp only [Tr.sz] at hlen; omega⟩
  have c1 : decide (c < 0) = false := decide_eq_false hc0
  have c2 : decide (0 < c) = true := decide_eq_true hc1
  clear hblk hp hl hr hS hlen hc ih hk ho hc0 hc1
  go_enter Tryz.func25, Tryz.ntmps25
  go_wp2_with (first
   | ((with_reducible refine gate_dst (N := 3) rfl ?_); refine box_event ?hg (N := 3) ?hd (cs := (ci35 a)) (t := 35) ?hr ?_; (case hd => rfl); (case hg => rfl); (case hr => first | (go_simp; done) | (go_simp; rfl)); intro g3 hgb w1 hbox hb1; have BX1 := Aside0.mk hbox; have BG1 := Aside0.mk (blk_below BG.out hb1); have HW1 : Aside0 (Wr w w1 (fun _ => False)) := ⟨Wr.of_below hb1 _⟩; have NS3 : Aside0 (¬ S g3) := ⟨fun c => absurd (HS.out _ c) (by omega)⟩; clear hgb hbox hb1))
  refine start_ (n := 7) (S := fun w' => Below w1.heap.size w1 w') (ds := []) #[false, false, false, false, false, false, false] (by kernel_rfl) rfl rfl (below_drew (Below.refl _ _)) (fun hHeld => ?_)
  refine qt_ 0 8 hHeld ?_ rfl rfl (by intro w' sb_; have hq_ := (sb_.block g3 (blk_lt BX1.out)).trans BX1.out; have s0_ : w'.cell? ⟨g3, 0, none⟩ = some (.int .i64 a.f0) := (blk_cell hq_ 0).trans rfl; have s1_ : w'.cell? ⟨g3, 1, none⟩ = some (.int .i64 a.f1) := (blk_cell hq_ 1).trans rfl; have s2_ : w'.cell? ⟨g3, 2, none⟩ = some (.int .i64 a.f2) := (blk_cell hq_ 2).trans rfl; clear sb_ hq_; go_simp; with_reducible rfl)
  refine qu_ 1 9 ?_
  refine qu_ 2 10 ?_
  refine qu_ 3 11 ?_
  refine qt_ 4 12 hHeld ?_ rfl rfl (by intro w' sb_; have hq_ := (sb_.block g (blk_lt BG1.out)).trans BG1.out; have s0_ : w'.cell? ⟨g, 0, none⟩ = some (.int .i64 x.f0) := (blk_cell hq_ 0).trans rfl; have s1_ : w'.cell? ⟨g, 1, none⟩ = some (.int .i64 x.f1) := (blk_cell hq_ 1).trans rfl; have s2_ : w'.cell? ⟨g, 2, none⟩ = some (.int .i64 x.f2) := (blk_cell hq_ 2).trans rfl; clear sb_ hq_; go_simp; with_reducible rfl)
  refine qo_ 5 (some 13) (fun K hK => ?_)
  refine qc_ Tryz.func46 #[.agg (ci35 a), .agg (ci35 x)] ?_
  with_reducible refine (impl_Item_order.calls 100 a.f0 a.f1 a.f2 x.f0 x.f1 x.f2 c _ HC.out).mono ?_
  rintro e w2 ⟨rfl, hb2⟩
  refine ⟨_, rfl, ?_⟩
  have hb2 : Below w1.heap.size w1 w2 := below_step (below_drew (Below.refl w1.heap.size w1)) hb2
  have BX2 := Aside0.mk (blk_below BX1.out hb2)
  have BG2 : Aside0 (Blk w2 g x lu _ hv) := ⟨blk_below BG1.out hb2⟩
  have HW2 : Aside0 (Wr w w2 (fun _ => False)) := ⟨HW1.out.trans (Wr.of_below hb2 _)⟩
  have HL2 := Aside0.mk (HL.out.far HW2.out (fun _ _ => id))
  have HR2 := Aside0.mk (HR.out.far HW2.out (fun _ _ => id))
  refine hK.out _ _ hb2 (fun hHeld => ?_)
  clear hK K
  refine qm_ ?_
  refine qu_ 6 7 ?_
  refine done_ (by kernel_rfl) ?_
  clear hHeld hb2
  go_wp2
  refine start_ (n := 14) (S := fun w' => Drawn0 w2 w') (ds := [6, 12]) #[false, false, false, false, false, false, false, false, false, false, false, false, false, false] (by kernel_rfl) rfl rfl ⟨⟨1, rfl⟩⟩ (fun hHeld => ?_)
  refine qu_ 0 47 ?_
  refine qu_ 1 48 ?_
  refine qu_ 2 49 ?_
  refine qu_ 3 50 ?_
  refine qt_ 4 51 hHeld ?_ rfl rfl (by intro w' sb_; obtain ⟨⟨n_, rfl⟩⟩ := sb_; have s0_ : (w2.drewN n_).cell? ⟨g, 4, none⟩ = some (.pointer ru) := (blk_cell BG2.out 4).trans rfl; go_simp; with_reducible rfl)
  refine qt_ 5 52 hHeld ?_ rfl rfl (by intro w' sb_; obtain ⟨⟨n_, rfl⟩⟩ := sb_; have s0_ : (w2.drewN n_).cell? ⟨g3, 0, none⟩ = some (.int .i64 a.f0) := (blk_cell BX2.out 0).trans rfl; have s1_ : (w2.drewN n_).cell? ⟨g3, 1, none⟩ = some (.int .i64 a.f1) := (blk_cell BX2.out 1).trans rfl; have s2_ : (w2.drewN n_).cell? ⟨g3, 2, none⟩ = some (.int .i64 a.f2) := (blk_cell BX2.out 2).trans rfl; go_simp; with_reducible rfl)
  refine ql_ 6 (some 53) (fun K hK => ?_)
  refine qc_ Tryz.func25 #[.pointer ru, .agg (ci35 a)] ?_
  have HD_ : Aside0 (IsT w2.drew B ru r) := ⟨HR2.out.drewN 1⟩
  with_reducible refine (IH.out B ru w2.drew p m HD_.out ?side0 ?side1 HK.out ?side2).mono ?_
  (case side0 => exact fun k hk => Nat.lt_of_lt_of_le (HS.out k (HP.out.r k hk)) HW2.out.size)
  (case side1 => have := HLEN.out; simp only [Tr.sz] at this ⊢; omega)
  (case side2 => exact fun y hy => HO.out y (items_mem_r hy))
  rintro e w3 ⟨u, rfl, ht, hw⟩
  refine ⟨_, rfl, ?_⟩
  clear hHeld
  have hw : Wr w2 w3 B := (Wr.drewN w2 1 _).trans hw
  have BG3 := Aside0.mk (BG2.out.keep hw HP.out.gr)
  have HK3 := Aside0.mk (HL2.out.far hw (fun k hk c => HP.out.dj k hk c))
  have HT3 := Aside0.mk ht
  have HW3 : Aside0 (Wr w w3 S) := ⟨(HW2.out.wid_ (fun _ c => c.elim)).trans (hw.wid_ HP.out.r)⟩
  clear ht hw
  refine hK.out _ _ ?_
  clear hK K
  refine qm_ ?_
  refine qu_ 7 46 ?_
  refine qu_ 8 54 ?_
  refine qu_ 9 55 ?_
  refine qu_ 10 56 ?_
  refine qu_ 11 57 ?_
  refine ql_ 12 none (fun K hK => ?_)
  have hc : w3.cell? ⟨g, 4, none⟩ = some (.pointer ru) := (blk_cell BG3.out 4).trans rfl
  have hf : w3.frozen? ⟨g, 4, none⟩ = false := blk_frozen BG3.out 4
  refine skip_ (w1 := w3.setCell ⟨g, 4, none⟩ (.pointer u)) (by rfl) rfl ?_ ?_
  ·
   go_simp
  refine hK.out _ _ ?_
  clear hK K hc hf
  have hs : Wr w3 (w3.setCell ⟨g, 4, none⟩ (.pointer u)) (fun k => k = g) := Wr.set _ _ _ rfl
  have BG4 : Aside0 (Blk (w3.setCell ⟨g, 4, none⟩ (.pointer u)) g x lu u _) := ⟨blk_put BG3.out 4 _ rfl⟩
  have HR4 := Aside0.mk (HT3.out.far hs (fun k hk e => HP.out.gr (e ▸ hk)))
  have HL4 := Aside0.mk (HK3.out.far hs (fun k hk e => HP.out.gl (e ▸ hk)))
  have HW4 : Aside0 (Wr w (w3.setCell ⟨g, 4, none⟩ (.pointer u)) S) := ⟨HW3.out.trans (hs.wid_ (fun k e => e ▸ HP.out.root))⟩
  clear hs
  generalize w3.setCell ⟨g, 4, none⟩ (.pointer u) = w4 at BG4 HL4 HR4 HW4 ⊢
  refine qu_ 13 6 ?_
  refine done_ (by kernel_rfl) ?_
  go_wp2_with (first
   | (go_at_call 53; (with_reducible refine (balanceT S g x l p w4 ?side1 ?side0).mono ?_); (case side1 => exact ⟨A, B, _, _, _, BG4.out, HP.out, HL4.out, HR4.out⟩); (case side0 => have h1_ := HLEN.out; have h2_ := HSZ.out; simp only [Tr.sz] at h1_ ⊢; omega); rintro e w5 ⟨u5, rfl, ht, hw⟩; have HT5 := Aside0.mk ht; have HW5 : Aside0 (Wr w w5 S) := ⟨HW4.out.trans hw⟩; clear ht hw))
  go_ret2
  have hn : wrap64 (m + 1) = m + 1 := by
   have := HN.out
   unfold wrap64
   omega
  refine ⟨_, ?_, HT5.out, HW5.out⟩
  first | rfl | simp [hn]

set_option maxHeartbeats 4000000 in
set_option maxRecDepth 100000 in
theorem take0 (a x : S35) (l : Tr) (S A B : Nat → Prop) (g : Nat) (w : World) (lu ru : Option Addr) (hv c : Int) (hblk : Blk w g x lu ru hv) (hp : Part S g A B) (hl : IsT w A lu l) (hr : IsT w B ru .nil) (hS : ∀ k, S k → k < w.heap.size) (hlen : (Tr.node x l .nil).sz ≤ 700)
  (hc : impl_Item_order.f 100 a.f0 a.f1 a.f2 x.f0 x.f1 x.f2 = some c) (hc0 : ¬ c < 0) (hc1 : ¬ 0 < c) :
  Calls Tryz.prog 25 #[.pointer (some ⟨g, 0, none⟩), .agg (ci35 a)] w fun e w' => ∃ u, e = .returned (.tuple #[.pointer u, .int .i64 1]) ∧ IsT w' S u l ∧ Wr w w' S := by
  have hu35 := Tryz.underlying35
  have hi35 : (Tryz.prog.info? 35).map (fun i => (i.zero, i.size, i.bytes)) = some (some (.agg #[(.int .i64 0), (.int .i64 0), (.int .i64 0)]), 3, 24) := by kernel_rfl
  have BG := Aside0.mk hblk
  have HP := Aside0.mk hp
  have HL := Aside0.mk hl
  have HR := Aside0.mk hr
  have HS := Aside0.mk hS
  have HLEN := Aside0.mk hlen
  have HC := Aside0.mk hc
  obtain rfl := hr
  have c1 : decide (c < 0) = false := decide_eq_false hc0
  have c2 : decide (0 < c) = false := decide_eq_false hc1
  clear hblk hp hl hS hlen hc hc0 hc1
  go_enter Tryz.func25, Tryz.ntmps25
  go_wp2_with (first
   | ((with_reducible refine gate_dst (N := 3) rfl ?_); refine box_event ?hg (N := 3) ?hd (cs := (ci35 a)) (t := 35) ?hr ?_; (case hd => rfl); (case hg => rfl); (case hr => first | (go_simp; done) | (go_simp; rfl)); intro g3 hgb w1 hbox hb1; have BX1 := Aside0.mk hbox; have BG1 := Aside0.mk (blk_below BG.out hb1); have HW1 : Aside0 (Wr w w1 (fun _ => False)) := ⟨Wr.of_below hb1 _⟩; have NS3 : Aside0 (¬ S g3) := ⟨fun c => absurd (HS.out _ c) (by omega)⟩; clear hgb hbox hb1))
  refine start_ (n := 7) (S := fun w' => Below w1.heap.size w1 w') (ds := []) #[false, false, false, false, false, false, false] (by kernel_rfl) rfl rfl (below_drew (Below.refl _ _)) (fun hHeld => ?_)
  refine qt_ 0 8 hHeld ?_ rfl rfl (by intro w' sb_; have hq_ := (sb_.block g3 (blk_lt BX1.out)).trans BX1.out; have s0_ : w'.cell? ⟨g3, 0, none⟩ = some (.int .i64 a.f0) := (blk_cell hq_ 0).trans rfl; have s1_ : w'.cell? ⟨g3, 1, none⟩ = some (.int .i64 a.f1) := (blk_cell hq_ 1).trans rfl; have s2_ : w'.cell? ⟨g3, 2, none⟩ = some (.int .i64 a.f2) := (blk_cell hq_ 2).trans rfl; clear sb_ hq_; go_simp; with_reducible rfl)
  refine qu_ 1 9 ?_
  refine qu_ 2 10 ?_
  refine qu_ 3 11 ?_
  refine qt_ 4 12 hHeld ?_ rfl rfl (by intro w' sb_; have hq_ := (sb_.block g (blk_lt BG1.out)).trans BG1.out; have s0_ : w'.cell? ⟨g, 0, none⟩ = some (.int .i64 x.f0) := (blk_cell hq_ 0).trans rfl; have s1_ : w'.cell? ⟨g, 1, none⟩ = some (.int .i64 x.f1) := (blk_cell hq_ 1).trans rfl; have s2_ : w'.cell? ⟨g, 2, none⟩ = some (.int .i64 x.f2) := (blk_cell hq_ 2).trans rfl; clear sb_ hq_; go_simp; with_reducible rfl)
  refine qo_ 5 (some 13) (fun K hK => ?_)
  refine qc_ Tryz.func46 #[.agg (ci35 a), .agg (ci35 x)] ?_
  with_reducible refine (impl_Item_order.calls 100 a.f0 a.f1 a.f2 x.f0 x.f1 x.f2 c _ HC.out).mono ?_
  rintro e w2 ⟨rfl, hb2⟩
  refine ⟨_, rfl, ?_⟩
  have hb2 : Below w1.heap.size w1 w2 := below_step (below_drew (Below.refl w1.heap.size w1)) hb2
  have BX2 := Aside0.mk (blk_below BX1.out hb2)
  have BG2 : Aside0 (Blk w2 g x lu _ hv) := ⟨blk_below BG1.out hb2⟩
  have HW2 : Aside0 (Wr w w2 (fun _ => False)) := ⟨HW1.out.trans (Wr.of_below hb2 _)⟩
  have HL2 := Aside0.mk (HL.out.far HW2.out (fun _ _ => id))
  have HR2 := Aside0.mk (HR.out.far HW2.out (fun _ _ => id))
  refine hK.out _ _ hb2 (fun hHeld => ?_)
  clear hK K
  refine qm_ ?_
  refine qu_ 6 7 ?_
  refine done_ (by kernel_rfl) ?_
  clear hHeld hb2
  have cg : w2.cell? ⟨g, 4, none⟩ = some (.pointer none) := (blk_cell BG2.out 4).trans rfl
  have cl : w2.cell? ⟨g, 3, none⟩ = some (.pointer lu) := (blk_cell BG2.out 3).trans rfl
  go_wp2
  go_ret2
  exact ⟨_, rfl, HL2.out.wid_ HP.out.l, HW2.out.wid_ (fun _ c => c.elim)⟩

set_option maxHeartbeats 4000000 in
set_option maxRecDepth 100000 in
theorem take1 (a x y : S35) (l b d : Tr) (S A B : Nat → Prop) (g : Nat) (w : World) (lu ru : Option Addr) (hv c : Int) (hblk : Blk w g x lu ru hv) (hp : Part S g A B) (hl : IsT w A lu l) (hr : IsT w B ru (.node y b d)) (hS : ∀ k, S k → k < w.heap.size) (hlen : (Tr.node x l (.node y b d)).sz ≤ 700)
  (hc : impl_Item_order.f 100 a.f0 a.f1 a.f2 x.f0 x.f1 x.f2 = some c) (hc0 : ¬ c < 0) (hc1 : ¬ 0 < c) :
  Calls Tryz.prog 25 #[.pointer (some ⟨g, 0, none⟩), .agg (ci35 a)] w fun e w' => ∃ u, e = .returned (.tuple #[.pointer u, .int .i64 1]) ∧ IsT w' S u (balT (tfT y b d).2 l (tfT y b d).1) ∧ Wr w w' S := by
  have hu35 := Tryz.underlying35
  have hi35 : (Tryz.prog.info? 35).map (fun i => (i.zero, i.size, i.bytes)) = some (some (.agg #[(.int .i64 0), (.int .i64 0), (.int .i64 0)]), 3, 24) := by kernel_rfl
  have BG := Aside0.mk hblk
  have HP := Aside0.mk hp
  have HL := Aside0.mk hl
  have HR := Aside0.mk hr
  have HS := Aside0.mk hS
  have HLEN := Aside0.mk hlen
  have HC := Aside0.mk hc
  obtain ⟨m, em⟩ : ∃ m, ru = some ⟨m, 0, none⟩ := by obtain ⟨m, _, _, _, _, e, _⟩ := hr; exact ⟨m, e⟩
  subst em
  generalize htl : (tfT y b d).1 = tl
  generalize hz : (tfT y b d).2 = z
  have HTL := Aside0.mk htl
  have HZ := Aside0.mk hz
  have c1 : decide (c < 0) = false := decide_eq_false hc0
  have c2 : decide (0 < c) = false := decide_eq_false hc1
  clear hblk hp hl hr hS hlen hc htl hz hc0 hc1
  go_enter Tryz.func25, Tryz.ntmps25
  go_wp2_with (first
   | ((with_reducible refine gate_dst (N := 3) rfl ?_); refine box_event ?hg (N := 3) ?hd (cs := (ci35 a)) (t := 35) ?hr ?_; (case hd => rfl); (case hg => rfl); (case hr => first | (go_simp; done) | (go_simp; rfl)); intro g3 hgb w1 hbox hb1; have BX1 := Aside0.mk hbox; have BG1 := Aside0.mk (blk_below BG.out hb1); have HW1 : Aside0 (Wr w w1 (fun _ => False)) := ⟨Wr.of_below hb1 _⟩; have NS3 : Aside0 (¬ S g3) := ⟨fun c => absurd (HS.out _ c) (by omega)⟩; clear hgb hbox hb1))
  refine start_ (n := 7) (S := fun w' => Below w1.heap.size w1 w') (ds := []) #[false, false, false, false, false, false, false] (by kernel_rfl) rfl rfl (below_drew (Below.refl _ _)) (fun hHeld => ?_)
  refine qt_ 0 8 hHeld ?_ rfl rfl (by intro w' sb_; have hq_ := (sb_.block g3 (blk_lt BX1.out)).trans BX1.out; have s0_ : w'.cell? ⟨g3, 0, none⟩ = some (.int .i64 a.f0) := (blk_cell hq_ 0).trans rfl; have s1_ : w'.cell? ⟨g3, 1, none⟩ = some (.int .i64 a.f1) := (blk_cell hq_ 1).trans rfl; have s2_ : w'.cell? ⟨g3, 2, none⟩ = some (.int .i64 a.f2) := (blk_cell hq_ 2).trans rfl; clear sb_ hq_; go_simp; with_reducible rfl)
  refine qu_ 1 9 ?_
  refine qu_ 2 10 ?_
  refine qu_ 3 11 ?_
  refine qt_ 4 12 hHeld ?_ rfl rfl (by intro w' sb_; have hq_ := (sb_.block g (blk_lt BG1.out)).trans BG1.out; have s0_ : w'.cell? ⟨g, 0, none⟩ = some (.int .i64 x.f0) := (blk_cell hq_ 0).trans rfl; have s1_ : w'.cell? ⟨g, 1, none⟩ = some (.int .i64 x.f1) := (blk_cell hq_ 1).trans rfl; have s2_ : w'.cell? ⟨g, 2, none⟩ = some (.int .i64 x.f2) := (blk_cell hq_ 2).trans rfl; clear sb_ hq_; go_simp; with_reducible rfl)
  refine qo_ 5 (some 13) (fun K hK => ?_)
  refine qc_ Tryz.func46 #[.agg (ci35 a), .agg (ci35 x)] ?_
  with_reducible refine (impl_Item_order.calls 100 a.f0 a.f1 a.f2 x.f0 x.f1 x.f2 c _ HC.out).mono ?_
  rintro e w2 ⟨rfl, hb2⟩
  refine ⟨_, rfl, ?_⟩
  have hb2 : Below w1.heap.size w1 w2 := below_step (below_drew (Below.refl w1.heap.size w1)) hb2
  have BX2 := Aside0.mk (blk_below BX1.out hb2)
  have BG2 : Aside0 (Blk w2 g x lu _ hv) := ⟨blk_below BG1.out hb2⟩
  have HW2 : Aside0 (Wr w w2 (fun _ => False)) := ⟨HW1.out.trans (Wr.of_below hb2 _)⟩
  have HL2 := Aside0.mk (HL.out.far HW2.out (fun _ _ => id))
  have HR2 := Aside0.mk (HR.out.far HW2.out (fun _ _ => id))
  refine hK.out _ _ hb2 (fun hHeld => ?_)
  clear hK K
  refine qm_ ?_
  refine qu_ 6 7 ?_
  refine done_ (by kernel_rfl) ?_
  clear hHeld hb2
  have cg : w2.cell? ⟨g, 4, none⟩ = some (.pointer (some ⟨m, 0, none⟩)) := (blk_cell BG2.out 4).trans rfl
  obtain ⟨m', B1, D1, bu, du, em, hbm, hq, h3, h4⟩ := HR2.out
  obtain rfl : m = m' := by simpa using em
  have BM2 := Aside0.mk hbm
  have HQ := Aside0.mk hq
  have HB2 := Aside0.mk h3
  have HD2 := Aside0.mk h4
  clear hbm hq h3 h4 em
  go_wp2_with (first
   | (go_at_call 52; (with_reducible refine (firstT b B B1 D1 m y d w2 bu du _ BM2.out HQ.out HB2.out HD2.out ?side0 ?side1).mono ?_); (case side0 => exact fun k hk => Nat.lt_of_lt_of_le (HS.out k (HP.out.r k hk)) HW2.out.size); (case side1 => have := HLEN.out; simp only [Tr.sz] at this ⊢; omega); rintro e w3 ⟨u, rfl, ht, hw⟩; rw [HTL.out] at ht; rw [HZ.out]; have HT3 := Aside0.mk ht; have BG3 := Aside0.mk (BG2.out.keep hw HP.out.gr); have HK3 := Aside0.mk (HL2.out.far hw (fun k hk c => HP.out.dj k hk c)); have HW3 : Aside0 (Wr w w3 S) := ⟨(HW2.out.wid_ (fun _ c => c.elim)).trans (hw.wid_ HP.out.r)⟩; have cg3 : w3.cell? ⟨g, 4, none⟩ = some (.pointer (some ⟨m, 0, none⟩)) := (blk_cell BG3.out 4).trans rfl; have fg3 : w3.frozen? ⟨g, 4, none⟩ = false := blk_frozen BG3.out 4; clear ht hw cg)
   | ((with_reducible refine gate_store (t := 56) (p := 25) rfl ?_); refine store_event (t := 56) (p := 25) (v := ?vo_k1) (w1 := (w3.setCell ⟨g, 4, none⟩ (.pointer u))) ?hg ?ho ?hn ?hr ?_; (case ho => rfl); (case hg => rfl); (case hn => rfl); (case hr => first | (go_simp; done) | (go_simp; rfl)); intro w4 hw; have hs : Wr w3 w4 (fun k => k = g) := (by rw [hw]; exact Wr.set _ _ _ rfl); have BG4 : Aside0 (Blk w4 g x lu u _) := ⟨by rw [hw]; exact blk_put BG3.out 4 _ rfl⟩; have HR4 := Aside0.mk (HT3.out.far hs (fun k hk e => HP.out.gr (e ▸ hk))); have HL4 := Aside0.mk (HK3.out.far hs (fun k hk e => HP.out.gl (e ▸ hk))); have HW4 : Aside0 (Wr w w4 S) := ⟨HW3.out.trans (hs.wid_ (fun k e => e ▸ HP.out.root))⟩; have cz0 : w4.cell? ⟨g, 0, none⟩ = some (.int .i64 x.f0) := (blk_cell BG4.out 0).trans rfl; have cz1 : w4.cell? ⟨g, 1, none⟩ = some (.int .i64 x.f1) := (blk_cell BG4.out 1).trans rfl; have cz2 : w4.cell? ⟨g, 2, none⟩ = some (.int .i64 x.f2) := (blk_cell BG4.out 2).trans rfl; have cf2 : ∀ j, w4.frozen? ⟨g, j, none⟩ = false := fun j => blk_frozen BG4.out j; clear hs hw cg3 fg3)
   | ((with_reducible refine gate_store (t := 35) (p := 27) rfl ?_); refine store_event (t := 35) (p := 27) (v := ?vo_k2) (w1 := (set3 w4 g z)) ?hg ?ho ?hn ?hr ?_; (case ho => rfl); (case hg => rfl); (case hn => rfl); (case hr => first | (go_simp; done) | (go_simp; rfl)); intro w5 hw; have hs : Wr w4 w5 (fun k => k = g) := (by rw [hw]; exact set3_wr _ _ _); have BG5 : Aside0 (Blk w5 g z lu u _) := ⟨by rw [hw]; exact set3_node BG4.out z⟩; have HR5 := Aside0.mk (HR4.out.far hs (fun k hk e => HP.out.gr (e ▸ hk))); have HL5 := Aside0.mk (HL4.out.far hs (fun k hk e => HP.out.gl (e ▸ hk))); have HW5 : Aside0 (Wr w w5 S) := ⟨HW4.out.trans (hs.wid_ (fun k e => e ▸ HP.out.root))⟩; clear hs hw cz0 cz1 cz2 cf2)
   | (go_at_call 53; (with_reducible refine (balanceT S g z l tl w5 ?side1 ?side0).mono ?_); (case side1 => exact ⟨A, B, _, _, _, BG5.out, HP.out, HL5.out, HR5.out⟩); (case side0 => have := HLEN.out; have h_ := tfT_sz b d y; rw [HTL.out] at h_; simp only [Tr.sz] at this ⊢; omega); rintro e w6 ⟨u6, rfl, ht, hw⟩; have HT6 := Aside0.mk ht; have HW6 : Aside0 (Wr w w6 S) := ⟨HW5.out.trans hw⟩; clear ht hw))
  go_ret2
  exact ⟨_, rfl, HT6.out, HW6.out⟩

theorem takeT (a : S35) : ∀ (t : Tr), (∀ (S : Nat → Prop) (u : Option Addr) (w : World) (t' : Tr) (n : Int), IsT w S u t → (∀ k, S k → k < w.heap.size) → (t).sz ≤ 700 → tkO (ordF a) t = some (t', n) → (∀ y ∈ (t).items, impl_Item_order.f 100 a.f0 a.f1 a.f2 y.f0 y.f1 y.f2 = some (ordF a y)) → Calls Tryz.prog 25 #[.pointer u, .agg (ci35 a)] w fun e w' => ∃ u, e = .returned (.tuple #[.pointer u, .int .i64 n]) ∧ IsT w' S u t' ∧ Wr w w' S) := by
 intro t
 induction t with
 | nil => intro S u w t' n h hS hlen hk ho; cases hk
 | node x l r ihl ihr =>
  intro S u w t' n h hS hlen hk ho
  obtain ⟨g, A, B, lu, ru, rfl, hblk, hp, hl, hr⟩ := h
  have hc := ho x items_mem_x
  rw [tkO] at hk
  split at hk
  ·
   rename_i hc0
   obtain ⟨⟨p, m⟩, hp', h⟩ := Option.bind_eq_some_iff.1 hk
   simp only [Option.some.injEq, Prod.mk.injEq] at h
   obtain ⟨rfl, rfl⟩ := h
   exact takeL a x l r S A B g w lu ru _ _ hblk hp hl hr hS hlen hc ihl p m hp' ho hc0
  ·
   rename_i hc0
   split at hk
   ·
    rename_i hc1
    obtain ⟨⟨p, m⟩, hp', h⟩ := Option.bind_eq_some_iff.1 hk
    simp only [Option.some.injEq, Prod.mk.injEq] at h
    obtain ⟨rfl, rfl⟩ := h
    exact takeR a x l r S A B g w lu ru _ _ hblk hp hl hr hS hlen hc ihr p m hp' ho hc0 hc1
   ·
    rename_i hc1
    cases r with
    | nil =>
     simp only [tkTop, Option.some.injEq, Prod.mk.injEq] at hk
     obtain ⟨rfl, rfl⟩ := hk
     exact take0 a x l S A B g w lu ru _ _ hblk hp hl hr hS hlen hc hc0 hc1
    | node y b d =>
     simp only [tkTop, Option.some.injEq, Prod.mk.injEq] at hk
     obtain ⟨rfl, rfl⟩ := hk
     exact take1 a x y l b d S A B g w lu ru _ _ hblk hp hl hr hS hlen hc hc0 hc1
set_option maxHeartbeats 4000000 in
set_option maxRecDepth 100000 in
theorem twigs_calls (t : Tr) : ∀ (S : Nat → Prop) (u : Option Addr) (base : Nat) (v : Value) (out : List S46) (w : World) (h : IsT w S u t) (hib : ∀ k, S k → k < base) (hv : Kd.R k46 46 w base (fun _ => True) v out) (hlen : out.length + t.sz ≤ 1000) (hb : base ≤ w.heap.size),
  Calls Tryz.prog 54 #[.pointer u, v] w fun e w' => ∃ v', e = .returned v' ∧ Kd.R k46 46 w' base (fun _ => True) v' (out ++ twT t) ∧ w.grownBy w' v.ownBlock ∧ Hat w v v' := by
 have hu35 := Tryz.underlying35
 have hu46 := Tryz.underlying46
 have hi46 := info46t
 induction t with
 | nil =>
  intro S u base v out w h hib hv hlen hb
  obtain rfl := h
  obtain ⟨A, c, rfl⟩ := Kd.R_slice hv
  have HV := Aside0.mk hv
  clear hv
  go_enter Tryz.func54, Tryz.ntmps54
  go_wp2
  go_ret
  exact ⟨_, rfl, by simpa [twT] using HV.out, ⟨rfl, rfl, rfl, Nat.le_refl _, fun _ _ _ => rfl⟩, .inl rfl⟩
 | node x l r ihl ihr =>
  intro S u base v out w h hib hv hlen hbs
  obtain ⟨g, A1, B1, lu, ru, rfl, hblk, hp, hL, hR⟩ := h
  obtain ⟨A, c, rfl⟩ := Kd.R_slice hv
  have HV0 := Aside0.mk hv
  generalize hn : out.length = n at hlen ⊢ hv
  have HN := Aside0.mk hn
  have HV := Aside0.mk hv
  clear HV0
  have hgb : g < base := hib g hp.root
  have HP := Aside0.mk hp
  have hib := Aside0.mk hib
  have hL := Aside0.mk hL
  have hR := Aside0.mk hR
  have hlen := Aside0.mk hlen
  have hbs := Aside0.mk hbs
  clear hv hn hp
  go_enter Tryz.func54, Tryz.ntmps54
  go_wp2
  refine start_ (n := 14) (S := fun w' => Below base w w') (ds := []) #[false, false, false, false, false, false, false, false, false, false, false, false, false, false] (by kernel_rfl) rfl rfl (below_drew (Below.refl _ _)) (fun hHeld => ?_)
  refine qu_ 0 11 ?_
  refine qu_ 1 12 ?_
  refine qu_ 2 13 ?_
  refine qt_ 3 14 hHeld ?_ rfl rfl (by intro w' sb_; have hq_ := (sb_.block g hgb).trans hblk; have s0_ : w'.cell? ⟨g, 3, none⟩ = some (.pointer lu) := (blk_cell hq_ 3).trans rfl; clear sb_ hq_; go_simp; with_reducible rfl)
  refine qu_ 4 15 ?_
  refine qu_ 5 16 ?_
  refine qu_ 6 17 ?_
  refine qu_ 7 18 ?_
  refine qt_ 8 19 hHeld ?_ rfl rfl (by intro w' sb_; have hq_ := (sb_.block g hgb).trans hblk; have s0_ : w'.cell? ⟨g, 0, none⟩ = some (.int .i64 x.f0) := (blk_cell hq_ 0).trans rfl; have s1_ : w'.cell? ⟨g, 1, none⟩ = some (.int .i64 x.f1) := (blk_cell hq_ 1).trans rfl; have s2_ : w'.cell? ⟨g, 2, none⟩ = some (.int .i64 x.f2) := (blk_cell hq_ 2).trans rfl; clear sb_ hq_; go_simp; with_reducible rfl)
  refine qu_ 9 20 ?_
  refine qo_ 10 (some 21) (fun K hK => ?_)
  refine Kd.R_lit_step k46 _ 46 ?hg (N := 21) ?hd (xs := [(⟨x, 0⟩ : S46)]) (inner := [.int .i64 x.f0, .int .i64 x.f1, .int .i64 x.f2, .int .i64 0]) (ok := fun _ => True) (okp := fun _ => True) ?hr ?hp (fun _ hk => hk) trivial (Below.refl _ _) (Nat.le_refl _) (by simp) ?_; (case hd => rfl); (case hg => rfl); (case hr => first | (go_simp; done) | (go_simp; rfl)); (case hp => exact (Reps.c4 (show Kd.M k46 _ _ _ (⟨x, 0⟩ : S46) [.int .i64 x.f0, .int .i64 x.f1, .int .i64 x.f2, .int .i64 0] from k46_mkM _ _ _ (⟨x, 0⟩ : S46)) (Reps.none _ _)))
  intro v21 w1 hl hb hg_ hnew_
  clear hnew_
  have n1_ := Aside0.mk (Kd.R_elder' (Kd.R_drew HV.out) (Kd.R_base hl) hb)
  have n2_ := Aside0.mk (Kd.R_lower (Kd.R_new' hl (Kd.R_lt (Kd.R_drew HV.out))) hbs.out)
  have HG := Aside0.mk (grown_new (World.grownBy_refl' w (Value.slice A n c).ownBlock) hg_)
  have HB1 : Aside0 (Below base w w1) := ⟨below_then (below_drew (Below.refl _ _)) hbs.out hb⟩
  clear hl hb hg_
  obtain ⟨A2, c2, e2⟩ := Kd.R_slice n2_.out
  subst e2
  refine hK.out _ _ HB1.out (fun hHeld => ?_)
  clear hK K
  refine qm_ ?_
  refine qo_ 11 (some 22) (fun K hK => ?_)
  refine Kd.R_append_rows_step k46 base (by rfl) (.tmp 15) (.tmp 21) 28 46 (.agg #[(.int .i64 0), (.int .i64 0), (.int .i64 0), (.int .i64 0)]) 32 rfl Tryz.underlying28 hi46 rfl (by decide) (by omega) (.slice A n c) out [(⟨x, 0⟩ : S46)] _ _ _ (fun k_ => some k_ ≠ (.slice A2 [(⟨x, 0⟩ : S46)].length c2 : Value).ownBlock) (fun _ => False) rfl rfl (R46_ok n1_.out (fun k hk he => (n1_.out.1 k hk).2 he)) (Kd.R_reads' n2_.out).2.2 (fun _ _ h => h) (fun _ h => h.elim) (fun k_ hk => Kd.fresh' (Kd.R_lt n2_.out) k_ hk) (Below.refl _ _) (Nat.le_trans hbs.out HG.out.size) ?aL ?_
  (case aL => have := hlen.out; have := HN.out; simp only [List.length_cons, List.length_nil]; simp only [Tr.sz] at *; omega)
  intro v22 w2 ho hb hg hat
  have HG2 := Aside0.mk (grown_then HG.out hg (Or.inl rfl))
  have HA2 := Aside0.mk (hat_then (Or.inl rfl : Hat w (Value.slice A n c) (Value.slice A n c)) hat HG.out.size)
  have HO2 := Aside0.mk (Kd.R_mono (ok' := fun _ => True) ho (fun _ _ => trivial))
  have HB2 : Aside0 (Below base w w2) := ⟨pw_below_grown (Below.refl _ _) _ hbs.out HG2.out (Kd.R_base HV.out)⟩
  clear ho hb hg hat n1_ n2_ HB1
  refine hK.out _ _ HB2.out (fun hHeld => ?_)
  clear hK K
  refine qm_ ?_
  refine qo_ 12 (some 23) (fun K hK => ?_)
  refine qc_ Tryz.func54 #[.pointer lu, v22] ?_
  with_reducible refine (ihl A1 lu base _ (out ++ [(⟨x, 0⟩ : S46)]) _ ?side0 ?side1 ?side2 ?side3 ?side4).mono ?_
  (case side0 => exact hL.out.keep (fun k _ hk => HB2.out.block k (hib.out k (HP.out.l k hk))))
  (case side1 => exact fun k hk => hib.out k (HP.out.l k hk))
  (case side2 => exact HO2.out)
  (case side3 => exact (by have := hlen.out; have := HN.out; simp only [List.length_append, List.length_cons, List.length_nil]; simp only [Tr.sz] at *; omega))
  (case side4 => exact Nat.le_trans hbs.out HG2.out.size)
  rintro e w3 ⟨v23, rfl, h23, hg23, ha23⟩
  refine ⟨_, rfl, ?_⟩
  have HG3 := Aside0.mk (grown_then HG2.out hg23 HA2.out)
  have HA3 := Aside0.mk (hat_then HA2.out ha23 HG2.out.size)
  have HO3 := Aside0.mk h23
  have HB3 : Aside0 (Below base w w3) := ⟨pw_below_grown (Below.refl _ _) _ hbs.out HG3.out (Kd.R_base HV.out)⟩
  clear h23 hg23 ha23
  refine hK.out _ _ HB3.out (fun hHeld => ?_)
  clear hK K
  refine qm_ ?_
  refine qu_ 13 1 ?_
  refine done_ (by kernel_rfl) ?_
  clear hHeld HB2 HO2 HG2 HA2 HG
  generalize hxs : out ++ [(⟨x, 0⟩ : S46)] ++ twT l = xs3 at HO3
  have HX := Aside0.mk hxs
  have HL3 : Aside0 (xs3.length = n + 1 + l.sz) := ⟨by have := HN.out; rw [← hxs]; simp only [List.length_append, List.length_cons, List.length_nil, twT_len]; omega⟩
  obtain ⟨g5, c5, e5, gb5, gl5, cl5, HG5⟩ := Kd.R_form HO3.out (by rw [HL3.out]; omega)
  subst e5
  have hlt : n < xs3.length := by rw [HL3.out]; omega
  obtain ⟨hx5, hf5⟩ := k46_at HO3.out n hlt
  have GB5 := Aside0.mk gb5
  have hw5 : wrap64 (wrap64 ((xs3.length : Int) - n) - 1) = (l.sz : Int) := by
   have := HL3.out
   have := hlen.out
   simp only [Tr.sz] at this
   unfold wrap64
   omega
  clear hxs gb5 gl5 cl5 HG5
  go_wp2_with (first
   | ((with_reducible refine gate_store (t := 2) (p := 32) rfl ?_); refine store_event (t := 2) (p := 32) (v := ?vo_tw) (w1 := (w3.setCell ⟨g5, n * 4 + 3, none⟩ (.int .i64 (l.sz : Nat)))) ?hg ?ho ?hn ?hr ?_; (case ho => rfl); (case hg => rfl); (case hn => rfl); (case hr => first | (go_simp; done) | (go_simp; rfl)); intro w4 hw; have hs := k46_set HO3.out n hlt (l.sz : Nat); have HO4 : Aside0 (Kd.R k46 46 w4 base (fun _ => True) (.slice (some ⟨g5, 0, none⟩) xs3.length c5) (xs3.set n ⟨(rd_T46 xs3 n).f0, (l.sz : Nat)⟩)) := ⟨by rw [hw]; exact hs.1⟩; have HG4 : Aside0 (w.grownBy w4 (Value.slice A n c).ownBlock) := ⟨by rw [hw]; exact grown_then HG3.out hs.2 HA3.out⟩; have HB4 : Aside0 (Below base w w4) := ⟨pw_below_grown (Below.refl _ _) _ hbs.out HG4.out (Kd.R_base HV.out)⟩; have cr4 : w4.cell? ⟨g, 4, none⟩ = some (.pointer ru) := (blk_cell ((HB4.out.block g hgb).trans hblk) 4).trans rfl; clear hs hw hx5 hf5 hw5))
  have hset : xs3.set n ⟨(rd_T46 xs3 n).f0, (l.sz : Nat)⟩ = out ++ [(⟨x, l.sz⟩ : S46)] ++ twT l := by
   have e3 : xs3 = out ++ (⟨x, 0⟩ : S46) :: twT l := by rw [← HX.out]; simp
   have hr : rd_T46 xs3 (n : Int) = ⟨x, 0⟩ := by rw [e3, ← HN.out]; exact rd46_at _ _ _
   rw [hr, e3, ← HN.out]
   simp
  have HF4 : Aside0 (Kd.R k46 46 w4 base (fun _ => True) (.slice (some ⟨g5, 0, none⟩) xs3.length c5) (out ++ [(⟨x, l.sz⟩ : S46)] ++ twT l)) := ⟨by rw [← hset]; exact HO4.out⟩
  clear hset
  go_wp2_with (first
   | (go_at_call 54; (with_reducible refine (ihr B1 ru base _ (out ++ [(⟨x, l.sz⟩ : S46)] ++ twT l) _ ?side0 ?side1 ?side2 ?side3 ?side4).mono ?_); (case side0 => exact hR.out.keep (fun k _ hk => HB4.out.block k (hib.out k (HP.out.r k hk)))); (case side1 => exact fun k hk => hib.out k (HP.out.r k hk)); (case side2 => exact HF4.out); (case side3 => have := hlen.out; have := HN.out; simp only [List.length_append, List.length_cons, List.length_nil, twT_len]; simp only [Tr.sz] at *; omega); (case side4 => exact Nat.le_trans hbs.out HG4.out.size); rintro e w5 ⟨v5, rfl, h5, hg5, ha5⟩; have HG5 := Aside0.mk (grown_then HG4.out hg5 HA3.out); have HA5 := Aside0.mk (hat_then HA3.out ha5 HG4.out.size); have HO5 := Aside0.mk h5; clear h5 hg5 ha5))
  go_ret
  exact ⟨_, rfl, by have := HO5.out; simpa [twT] using this, HG5.out, HA5.out⟩
attribute [local go_sem high] eqT35
def idxI (p : S46 → Bool) (l : List S46) (i : Int) : Prop :=
 (i = -1 ∧ ∀ x ∈ l, p x = false) ∨ ∃ n : Nat, i = n ∧ n < l.length ∧ p (rd_T46 l n) = true ∧ ∀ j : Nat, j < n → p (rd_T46 l j) = false
/-- What a predicate handed in must do. -/
def PredOK (p : S46 → Bool) (g : Nat) (lb : Array Value) (b0 : Nat) (w0 : World) : Prop :=
 ∀ (W : World) (x : S46), Below b0 w0 W → Calls Tryz.prog g (#[.agg #[.int .i64 x.f0.f0, .int .i64 x.f0.f1, .int .i64 x.f0.f2, .int .i64 x.f1]] ++ lb) W fun e w' => e = .returned (.bool (p x)) ∧ Below W.heap.size W w'
set_option maxHeartbeats 4000000 in
set_option maxRecDepth 100000 in
theorem IndexFunc_Twig (p : S46 → Bool) (g : Nat) (lb : Array Value) (b0 : Nat) (w0 : World) (eg : ∀ args w, (callFunc g args).run Tryz.prog w = .ok (.enter g args) w)
  (hp : PredOK p g lb b0 w0) (A : Option Addr) (c : Nat) (l : List S46) (w : World) (hB : Below b0 w0 w) (hs : b0 ≤ w.heap.size) (hr : Kd.C k46 w A l.length l) :
  Calls Tryz.prog 51 #[.slice A l.length c, .func (.func g) #[] lb] w fun e w' => ∃ i, e = .returned (.int .i64 i) ∧ idxI p l i ∧ Below w.heap.size w w' := by
 have hu35 := Tryz.underlying35
 have hu46 := Tryz.underlying46
 have hmx : l.length ≤ 9223372036854775807 := hr.2.1
 have HR := Aside0.mk hr
 have HP := Aside0.mk hp
 have HB0 := Aside0.mk hB
 have HS := Aside0.mk hs
 clear hr hp hB hs
 go_enter Tryz.func51, Tryz.ntmps51
 go_wp2
 go_loopg [5, 8] l.length (fun gg _ s8 wr => ∃ kk : Nat, kk ≤ l.length ∧ l.length - kk ≤ gg ∧ s8 = .int .i64 kk ∧ Aside0 (Below w.heap.size w wr) ∧ Aside0 (∀ j : Nat, j < kk → p (rd_T46 l j) = false))
 case atStart => exact ⟨0, Nat.zero_le _, by omega, rfl, ⟨Below.refl _ w⟩, ⟨fun j hj => absurd hj (Nat.not_lt_zero _)⟩⟩
 case round =>
  obtain ⟨kk, hkk, hg, rfl, BW, NO⟩ := hrel
  by_cases hlt : kk < l.length
  ·
   have hltz : (kk : Int) < (l.length : Int) := by omega
   obtain ⟨ad, e, hx0, hx1, hx2, hx3⟩ := at_T46 HR.out (kk : Int) (by omega) (by omega)
   cases e
   replace hx0 := pw_cell_below BW.out hx0
   replace hx1 := pw_cell_below BW.out hx1
   replace hx2 := pw_cell_below BW.out hx2
   replace hx3 := pw_cell_below BW.out hx3
   simp only [Int.toNat_natCast] at hx0 hx1 hx2 hx3
   have hcall := HP.out wr (rd_T46 l kk) (below_then HB0.out HS.out BW.out)
   cases hq : p (rd_T46 l kk) with
   | true =>
    rw [hq] at hcall
    have HQ := Aside0.mk hq
    clear hq
    go_wp2_with fail
    refine hcall.mono ?_
    clear hcall
    rintro e w' ⟨rfl, hb'⟩
    have HB' := Aside0.mk hb'
    clear hb' eg hx0 hx1 hx2 hx3
    go_wp2
    go_ret
    exact ⟨_, rfl, .inr ⟨kk, rfl, hlt, HQ.out, NO.out⟩, below_then BW.out BW.out.size HB'.out⟩
   | false =>
    rw [hq] at hcall
    have HQ := Aside0.mk hq
    clear hq
    go_wp2_with fail
    refine hcall.mono ?_
    clear hcall
    rintro e w' ⟨rfl, hb'⟩
    have HB' := Aside0.mk hb'
    clear hb' eg hx0 hx1 hx2 hx3
    go_wp2
    go_roundg (l.length - (kk + 1))
    case measure => omega
    case rel =>
     refine ⟨kk + 1, by omega, by omega, by go_num, ⟨below_then BW.out BW.out.size HB'.out⟩, ⟨fun j hj => ?_⟩⟩
     by_cases e : j = kk
     ·
      subst e; exact HQ.out
     ·
      exact NO.out j (by omega)
  ·
   have hltz : ¬ (kk : Int) < (l.length : Int) := by omega
   have : kk = l.length := by omega
   subst this
   go_wp2
   go_ret
   refine ⟨_, rfl, .inl ⟨rfl, fun x hx => ?_⟩, BW.out⟩
   obtain ⟨j, hj, rfl⟩ := List.getElem_of_mem hx
   rw [← rd_mem hj]
   exact NO.out j hj

set_option maxHeartbeats 4000000 in
set_option maxRecDepth 100000 in
theorem isIt_calls (a : S35) (gb : Nat) (x : S46) (W : World) (hc : W.heap[gb]? = some (.cells (ci35 a) 35 (0, 0))) :
  Calls Tryz.prog 24 #[.agg #[.int .i64 x.f0.f0, .int .i64 x.f0.f1, .int .i64 x.f0.f2, .int .i64 x.f1], .pointer (some ⟨gb, 0, none⟩)] W fun e w' => e = .returned (.bool (eqI x.f0 a)) ∧ Below W.heap.size W w' := by
 have hu35 := Tryz.underlying35
 have hu46 := Tryz.underlying46
 have HC := Aside0.mk hc
 clear hc
 go_enter Tryz.func24, Tryz.ntmps24
 go_wp2_with (first
  | ((with_reducible refine gate_dst (N := 2) rfl ?_); refine box_event ?hg (N := 2) ?hd (cs := #[.int .i64 x.f0.f0, .int .i64 x.f0.f1, .int .i64 x.f0.f2, .int .i64 x.f1]) (t := 46) ?hr ?_; (case hd => rfl); (case hg => rfl); (case hr => first | (go_simp; done) | (go_simp; rfl)); intro g2 hgb w1 hbox hb1; have HB1 := Aside0.mk hb1; have cx0 : w1.cell? ⟨g2, 0, none⟩ = some (.int .i64 x.f0.f0) := (blk_cell hbox 0).trans rfl; have cx1 : w1.cell? ⟨g2, 1, none⟩ = some (.int .i64 x.f0.f1) := (blk_cell hbox 1).trans rfl; have cx2 : w1.cell? ⟨g2, 2, none⟩ = some (.int .i64 x.f0.f2) := (blk_cell hbox 2).trans rfl; have hca := blk_below HC.out hb1; have ca0 : w1.cell? ⟨gb, 0, none⟩ = some (.int .i64 a.f0) := (blk_cell hca 0).trans rfl; have ca1 : w1.cell? ⟨gb, 1, none⟩ = some (.int .i64 a.f1) := (blk_cell hca 1).trans rfl; have ca2 : w1.cell? ⟨gb, 2, none⟩ = some (.int .i64 a.f2) := (blk_cell hca 2).trans rfl; clear hca; clear hgb hbox hb1))
 go_ret
 exact ⟨rfl, HB1.out⟩
set_option maxHeartbeats 4000000 in
theorem contains_calls (a : S35) (gb : Nat) (A : Option Addr) (c : Nat) (l : List S46) (w : World) (hc : w.heap[gb]? = some (.cells (ci35 a) 35 (0, 0))) (hr : Kd.C k46 w A l.length l) :
  Calls Tryz.prog 23 #[.slice A l.length c, .func (.func 24) #[] #[.pointer (some ⟨gb, 0, none⟩)]] w fun e w' => e = .returned (.bool (l.any fun x => eqI x.f0 a)) ∧ Below w.heap.size w w' := by
 have eg : ∀ args w, (callFunc 24 args).run Tryz.prog w = .ok (.enter 24 args) w := enters_of Tryz.func24 (by kernel_rfl) rfl
 have hp : PredOK (fun x => eqI x.f0 a) 24 #[.pointer (some ⟨gb, 0, none⟩)] w.heap.size w := fun W x hB => isIt_calls a gb x W (blk_below hc hB)
 have HI := Aside0.mk (IndexFunc_Twig _ 24 _ w.heap.size w eg hp A c l w (Below.refl _ _) (Nat.le_refl _) hr)
 clear hc hr hp eg
 go_enter Tryz.func23, Tryz.ntmps23
 go_wp2_with fail
 refine HI.out.mono ?_
 rintro e w1 ⟨i, rfl, hi, hb⟩
 have HB := Aside0.mk hb
 have hany : (l.any fun x => eqI x.f0 a) = decide (i ≥ 0) := by
  rcases hi with ⟨rfl, hn⟩ | ⟨n, rfl, hn, ht, _⟩
  ·
   rw [List.any_eq_false.2 (fun x hx => by rw [show eqI x.f0 a = false from hn x hx]; simp)]
   rfl
  ·
   have : (l.any fun x => eqI x.f0 a) = true := List.any_eq_true.2 ⟨rd_T46 l n, by rw [rd_mem hn]; exact List.getElem_mem hn, ht⟩
   rw [this]
   exact (decide_eq_true (by omega)).symm
 have HANY := Aside0.mk hany
 clear hany hi hb HI
 go_wp2
 go_ret
 refine ⟨?_, HB.out⟩
 rw [HANY.out]
 rfl

set_option maxHeartbeats 4000000 in
set_option maxRecDepth 100000 in
theorem treeTold_calls (t : Tr) (S : Nat → Prop) (u : Option Addr) (w : World) (h : IsT w S u t) (hS : ∀ k, S k → k < w.heap.size) (hlen : t.sz ≤ 1000) :
  Calls Tryz.prog 26 #[.pointer u] w fun e w' => ∃ v, e = .returned (.agg #[v]) ∧ Kd.R k46 46 w' w.heap.size (fun _ => True) v (twT t) ∧ Below w.heap.size w w' := by
 have hu30 := Tryz.underlying30
 have HT := Aside0.mk h
 have HS := Aside0.mk hS
 have HLEN : Aside0 (([] : List S46).length + t.sz ≤ 1000) := ⟨by simpa using hlen⟩
 clear h hS hlen
 go_enter Tryz.func26, Tryz.ntmps26
 go_wp2_with (first
  | ((with_reducible refine gate_dst (N := 2) rfl ?_); refine box_event ?hg (N := 2) ?hd (cs := #[.slice none 0 0]) (t := 30) ?hr ?_; (case hd => rfl); (case hg => rfl); (case hr => first | (go_simp; done) | (go_simp; rfl)); intro g2 hgb w1 hbox hb1; have B21 := Aside0.mk hbox; have HB1 := Aside0.mk hb1; have HG2 : Aside0 (w.heap.size ≤ g2) := ⟨by omega⟩; clear hgb hbox hb1)
  | (go_at_call 54; (with_reducible refine (twigs_calls t S u w1.heap.size _ [] w1 ?side0 ?side1 ?side2 HLEN.out ?side3).mono ?_); (case side0 => exact HT.out.keep (fun k hk _ => HB1.out.block k hk)); (case side1 => exact fun k hk => Nat.lt_of_lt_of_le (HS.out k hk) HB1.out.size); (case side2 => exact Kd.R_nil _ _ _ _ _); (case side3 => exact Nat.le_refl _); rintro e w2 ⟨v, rfl, hv, hg, ha⟩; rw [List.nil_append] at hv; have HV := Aside0.mk hv; have hb2 : Below w1.heap.size w1 w2 := ⟨hg.os, hg.tape, hg.output, hg.size, fun k hk => hg.block k hk (by simp [Value.ownBlock])⟩; have B22 := Aside0.mk (blk_below B21.out hb2); have HB2 : Aside0 (Below w.heap.size w w2) := ⟨below_step HB1.out hb2⟩; have ct : w2.cell? ⟨g2, 0, none⟩ = some (.slice none 0 0) := (blk_cell B22.out 0).trans rfl; have ft : w2.frozen? ⟨g2, 0, none⟩ = false := blk_frozen B22.out 0; clear hv hg ha hb2; obtain ⟨Av, cv, ev⟩ := Kd.R_slice HV.out; subst ev)
  | ((with_reducible refine gate_store (t := 30) (p := 2) rfl ?_); refine store_event (t := 30) (p := 2) (v := ?vo_told) (w1 := (w2.setCell ⟨g2, 0, none⟩ (.slice Av (twT t).length cv))) ?hg ?ho ?hn ?hr ?_; (case ho => rfl); (case hg => rfl); (case hn => rfl); (case hr => first | (go_simp; done) | (go_simp; rfl)); intro w3 hw; have B23 : Aside0 (w3.heap[g2]? = some (.cells #[.slice Av (twT t).length cv] 30 (0, 0))) := ⟨by rw [hw]; exact blk_put B22.out 0 _ rfl⟩; have HV3 : Aside0 (Kd.R k46 46 w3 w1.heap.size (fun _ => True) (.slice Av (twT t).length cv) (twT t)) := ⟨by rw [hw]; exact Kd.R_set HV.out B22.out (by decide) _ _⟩; have HB3 : Aside0 (Below w.heap.size w w3) := ⟨by rw [hw]; exact below_set HB2.out HG2.out⟩; clear hw ct ft))
 (try simp only [Exit.inBlock, Exit.then])
 refine bodyPost_ret (results_cell_row rfl _ _ g2 30 #[.slice Av (twT t).length cv] (0, 0) _ rfl B23.out hu30 rfl (by kernel_rfl)) rfl ?_
 exact ⟨_, rfl, Kd.R_lower HV3.out HB1.out.size, HB3.out⟩
def aboveO (l : List S35) (a : S35) : Bool := l.all fun y => (impl_Item_order.f 100 a.f0 a.f1 a.f2 y.f0 y.f1 y.f2).isSome
theorem aboveO_ok {l : List S35} {a : S35} (h : aboveO l a = true) : ∀ y ∈ l, impl_Item_order.f 100 a.f0 a.f1 a.f2 y.f0 y.f1 y.f2 = some (ordF a y) := fun y hy => by
 obtain ⟨r, hr⟩ := Option.isSome_iff_exists.1 (List.all_eq_true.1 h y hy)
 unfold ordF
 rw [hr]; rfl
def impl_TreeTake.f (l0 : List S46) (a0 a1 a2 : Int) : Option (List S46 × Int × Int) :=
 (inF l0).bind fun p => if p.2 = true then (impl_ItemRight.f a0 a1 a2).bind fun b => if b = true then
  (if (l0.any fun x => eqI x.f0 ⟨a0, a1, a2⟩) = true then (if aboveO p.1.items ⟨a0, a1, a2⟩ = true ∧ p.1.sz ≤ 700 then (tkO (ordF ⟨a0, a1, a2⟩) p.1).bind fun q => some (twT q.1, q.2, 0) else none)
   else some ([], 0, 4)) else some ([], 0, 1) else some ([], 0, 1)

set_option maxHeartbeats 8000000 in
set_option maxRecDepth 100000 in
theorem impl_TreeTake.calls (A0 : Option Addr) (c0 : Nat) (l0 : List S46) (a0 a1 a2 : Int) (r0 : List S46) (r1 r2 : Int) (w : World) (hr0 : Kd.C k46 w A0 l0.length l0) (hc0 : l0.length ≤ c0) (h : impl_TreeTake.f l0 a0 a1 a2 = some (r0, r1, r2)) :
  Calls Tryz.prog 8 #[.agg #[.slice A0 l0.length c0], .agg #[.int .i64 a0, .int .i64 a1, .int .i64 a2]] w fun e w' => ∃ v0_ : Value, e = .returned (.agg #[v0_, .int .i64 r1, .int .i64 r2]) ∧ Kd.R k46 46 w' w.heap.size (fun _ => True) v0_ r0 ∧ Below w.heap.size w w' := by
 have hu30 := Tryz.underlying30
 have hu35 := Tryz.underlying35
 have hu32 := Tryz.underlying32
 have hi32 : (Tryz.prog.info? 32).map (fun i => (i.zero, i.size, i.bytes)) = some (some (.agg #[.slice none 0 0, (.int .i64 0), (.int .i64 0)]), 3, 40) := by kernel_rfl
 unfold impl_TreeTake.f at h
 obtain ⟨⟨t, b⟩, h1, h2⟩ := Option.bind_eq_some_iff.1 h
 have HR := Aside0.mk hr0
 have HC := Aside0.mk hc0
 have HI := Aside0.mk h1
 clear h h1 hr0 hc0
 cases b with
 | false =>
  rw [if_neg (by simp)] at h2
  simp only [Option.some.injEq, Prod.mk.injEq] at h2
  obtain ⟨rfl, rfl, rfl⟩ := h2
  go_enter Tryz.func8, Tryz.ntmps8
  go_wp2_with (first
   | ((with_reducible refine gate_dst (N := 2) rfl ?_); refine box_event ?hg (N := 2) ?hd (cs := #[.slice A0 l0.length c0]) (t := 30) ?hr ?_; (case hd => rfl); (case hg => rfl); (case hr => first | (go_simp; done) | (go_simp; rfl)); intro g2 hgb w1 hbox hb1; have B21 := Aside0.mk hbox; have HB1 : Aside0 (Below w.heap.size w w1) := ⟨hb1⟩; clear hgb hbox hb1)
   | ((with_reducible refine gate_dst (N := 3) rfl ?_); refine box_event ?hg (N := 3) ?hd (cs := #[.int .i64 a0, .int .i64 a1, .int .i64 a2]) (t := 35) ?hr ?_; (case hd => rfl); (case hg => rfl); (case hr => first | (go_simp; done) | (go_simp; rfl)); intro g3 hgb w2 hbox hb1; have B22 := Aside0.mk (blk_below B21.out hb1); have B32 := Aside0.mk hbox; have HB2 : Aside0 (Below w.heap.size w w2) := ⟨below_step HB1.out hb1⟩; clear hgb hbox hb1)
   | ((with_reducible refine gate_dst (N := 4) rfl ?_); refine box_event ?hg (N := 4) ?hd (cs := #[.slice none 0 0, .int .i64 0, .int .i64 0]) (t := 32) ?hr ?_; (case hd => rfl); (case hg => rfl); (case hr => first | (go_simp; done) | (go_simp; rfl)); intro g4 hgb w3 hbox hb1; have B23 := Aside0.mk (blk_below B22.out hb1); have B33 := Aside0.mk (blk_below B32.out hb1); have B43 := Aside0.mk hbox; have HB3 : Aside0 (Below w.heap.size w w3) := ⟨below_step HB2.out hb1⟩; have G4 : Aside0 (w.heap.size ≤ g4 ∧ g4 < w3.heap.size) := ⟨by have h1_ := HB2.out.size; have h2_ := blk_lt hbox; omega⟩; have c20_ : w3.cell? ⟨g2, 0, none⟩ = some (.slice A0 l0.length c0) := (blk_cell B23.out 0).trans rfl; clear hgb hbox hb1)
   | (go_at_call 21; (with_reducible refine (treeIn_calls _ _ l0 t false _ ?side0 HC.out HI.out).mono ?_); (case side0 => exact Kd.C_below HR.out HB3.out); rintro e w4 ⟨u, rfl, hn1, hb_⟩; have HT4 := Aside0.mk (IsT.of_IsN hn1); have B24 := Aside0.mk (blk_below B23.out hb_); have B34 := Aside0.mk (blk_below B33.out hb_); have B44 := Aside0.mk (blk_below B43.out hb_); have HB4 : Aside0 (Below w.heap.size w w4) := ⟨below_step HB3.out hb_⟩; clear c20_; have c20_ : w4.cell? ⟨g2, 0, none⟩ = some (.slice A0 l0.length c0) := (blk_cell B24.out 0).trans rfl; have c30_ : w4.cell? ⟨g3, 0, none⟩ = some (.int .i64 a0) := (blk_cell B34.out 0).trans rfl; have c31_ : w4.cell? ⟨g3, 1, none⟩ = some (.int .i64 a1) := (blk_cell B34.out 1).trans rfl; have c32_ : w4.cell? ⟨g3, 2, none⟩ = some (.int .i64 a2) := (blk_cell B34.out 2).trans rfl; have c40_ : w4.cell? ⟨g4, 0, none⟩ = some (.slice none 0 0) := (blk_cell B44.out 0).trans rfl; have c41_ : w4.cell? ⟨g4, 1, none⟩ = some (.int .i64 0) := (blk_cell B44.out 1).trans rfl; have c42_ : w4.cell? ⟨g4, 2, none⟩ = some (.int .i64 0) := (blk_cell B44.out 2).trans rfl; have hf4_ : ∀ j, w4.frozen? ⟨g4, j, none⟩ = false := fun j => blk_frozen B44.out j; clear hn1 hb_)
   | ((with_reducible refine gate_store (t := 32) (p := 4) rfl ?_); refine store_event (t := 32) (p := 4) (v := ?vo_e1) (w1 := (set32 w4 g4 (.slice none 0 0) 0 1)) ?hg ?ho ?hn ?hr ?_; (case ho => rfl); (case hg => rfl); (case hn => rfl); (case hr => first | (go_simp; done) | (go_simp; rfl)); intro w9 hw; have B49 : Aside0 (w9.heap[g4]? = some (.cells #[.slice none 0 0, .int .i64 0, .int .i64 1] 32 (0, 0))) := ⟨by rw [hw]; exact set32_blk B44.out _ _ _⟩; have HB9 : Aside0 (Below w.heap.size w w9) := ⟨by rw [hw]; exact set32_below HB4.out G4.out.1 _ _ _⟩; clear hw))
  (try simp only [Exit.inBlock, Exit.then])
  refine bodyPost_ret (results_cell_row rfl _ _ g4 32 #[.slice none 0 0, .int .i64 0, .int .i64 1] (0, 0) _ rfl B49.out hu32 rfl (by kernel_rfl)) rfl ?_
  exact ⟨_, rfl, Kd.R_nil _ _ _ _ _, HB9.out⟩
 | true =>
  rw [if_pos rfl] at h2
  obtain ⟨b, hir, h2⟩ := Option.bind_eq_some_iff.1 h2
  have HIR := Aside0.mk hir
  clear hir
  cases b with
  | false =>
   rw [if_neg (by simp)] at h2
   simp only [Option.some.injEq, Prod.mk.injEq] at h2
   obtain ⟨rfl, rfl, rfl⟩ := h2
   go_enter Tryz.func8, Tryz.ntmps8
   go_wp2_with (first
    | ((with_reducible refine gate_dst (N := 2) rfl ?_); refine box_event ?hg (N := 2) ?hd (cs := #[.slice A0 l0.length c0]) (t := 30) ?hr ?_; (case hd => rfl); (case hg => rfl); (case hr => first | (go_simp; done) | (go_simp; rfl)); intro g2 hgb w1 hbox hb1; have B21 := Aside0.mk hbox; have HB1 : Aside0 (Below w.heap.size w w1) := ⟨hb1⟩; clear hgb hbox hb1)
    | ((with_reducible refine gate_dst (N := 3) rfl ?_); refine box_event ?hg (N := 3) ?hd (cs := #[.int .i64 a0, .int .i64 a1, .int .i64 a2]) (t := 35) ?hr ?_; (case hd => rfl); (case hg => rfl); (case hr => first | (go_simp; done) | (go_simp; rfl)); intro g3 hgb w2 hbox hb1; have B22 := Aside0.mk (blk_below B21.out hb1); have B32 := Aside0.mk hbox; have HB2 : Aside0 (Below w.heap.size w w2) := ⟨below_step HB1.out hb1⟩; clear hgb hbox hb1)
    | ((with_reducible refine gate_dst (N := 4) rfl ?_); refine box_event ?hg (N := 4) ?hd (cs := #[.slice none 0 0, .int .i64 0, .int .i64 0]) (t := 32) ?hr ?_; (case hd => rfl); (case hg => rfl); (case hr => first | (go_simp; done) | (go_simp; rfl)); intro g4 hgb w3 hbox hb1; have B23 := Aside0.mk (blk_below B22.out hb1); have B33 := Aside0.mk (blk_below B32.out hb1); have B43 := Aside0.mk hbox; have HB3 : Aside0 (Below w.heap.size w w3) := ⟨below_step HB2.out hb1⟩; have G4 : Aside0 (w.heap.size ≤ g4 ∧ g4 < w3.heap.size) := ⟨by have h1_ := HB2.out.size; have h2_ := blk_lt hbox; omega⟩; have c20_ : w3.cell? ⟨g2, 0, none⟩ = some (.slice A0 l0.length c0) := (blk_cell B23.out 0).trans rfl; clear hgb hbox hb1)
    | (go_at_call 21; (with_reducible refine (treeIn_calls _ _ l0 t true _ ?side0 HC.out HI.out).mono ?_); (case side0 => exact Kd.C_below HR.out HB3.out); rintro e w4 ⟨u, rfl, hn1, hb_⟩; have HT4 := Aside0.mk (IsT.of_IsN hn1); have B24 := Aside0.mk (blk_below B23.out hb_); have B34 := Aside0.mk (blk_below B33.out hb_); have B44 := Aside0.mk (blk_below B43.out hb_); have HB4 : Aside0 (Below w.heap.size w w4) := ⟨below_step HB3.out hb_⟩; clear c20_; have c20_ : w4.cell? ⟨g2, 0, none⟩ = some (.slice A0 l0.length c0) := (blk_cell B24.out 0).trans rfl; have c30_ : w4.cell? ⟨g3, 0, none⟩ = some (.int .i64 a0) := (blk_cell B34.out 0).trans rfl; have c31_ : w4.cell? ⟨g3, 1, none⟩ = some (.int .i64 a1) := (blk_cell B34.out 1).trans rfl; have c32_ : w4.cell? ⟨g3, 2, none⟩ = some (.int .i64 a2) := (blk_cell B34.out 2).trans rfl; have c40_ : w4.cell? ⟨g4, 0, none⟩ = some (.slice none 0 0) := (blk_cell B44.out 0).trans rfl; have c41_ : w4.cell? ⟨g4, 1, none⟩ = some (.int .i64 0) := (blk_cell B44.out 1).trans rfl; have c42_ : w4.cell? ⟨g4, 2, none⟩ = some (.int .i64 0) := (blk_cell B44.out 2).trans rfl; have hf4_ : ∀ j, w4.frozen? ⟨g4, j, none⟩ = false := fun j => blk_frozen B44.out j; clear hn1 hb_)
    | (go_at_call 22; (with_reducible refine (impl_ItemRight.calls a0 a1 a2 false _ HIR.out).mono ?_); rintro e w5 ⟨rfl, hb_⟩; have HT5 := Aside0.mk (HT4.out.keep (fun k hk _ => hb_.block k hk)); have HS5 : Aside0 (w4.heap.size ≤ w5.heap.size) := ⟨hb_.size⟩; have B25 := Aside0.mk (blk_below B24.out hb_); have B35 := Aside0.mk (blk_below B34.out hb_); have B45 := Aside0.mk (blk_below B44.out hb_); have HB5 : Aside0 (Below w.heap.size w w5) := ⟨below_step HB4.out hb_⟩; clear c20_ c30_ c31_ c32_ c40_ c41_ c42_ hf4_; have c20_ : w5.cell? ⟨g2, 0, none⟩ = some (.slice A0 l0.length c0) := (blk_cell B25.out 0).trans rfl; have c30_ : w5.cell? ⟨g3, 0, none⟩ = some (.int .i64 a0) := (blk_cell B35.out 0).trans rfl; have c31_ : w5.cell? ⟨g3, 1, none⟩ = some (.int .i64 a1) := (blk_cell B35.out 1).trans rfl; have c32_ : w5.cell? ⟨g3, 2, none⟩ = some (.int .i64 a2) := (blk_cell B35.out 2).trans rfl; have c40_ : w5.cell? ⟨g4, 0, none⟩ = some (.slice none 0 0) := (blk_cell B45.out 0).trans rfl; have c41_ : w5.cell? ⟨g4, 1, none⟩ = some (.int .i64 0) := (blk_cell B45.out 1).trans rfl; have c42_ : w5.cell? ⟨g4, 2, none⟩ = some (.int .i64 0) := (blk_cell B45.out 2).trans rfl; have hf4_ : ∀ j, w5.frozen? ⟨g4, j, none⟩ = false := fun j => blk_frozen B45.out j; clear hb_)
    | ((with_reducible refine gate_store (t := 32) (p := 4) rfl ?_); refine store_event (t := 32) (p := 4) (v := ?vo_e2) (w1 := (set32 w5 g4 (.slice none 0 0) 0 1)) ?hg ?ho ?hn ?hr ?_; (case ho => rfl); (case hg => rfl); (case hn => rfl); (case hr => first | (go_simp; done) | (go_simp; rfl)); intro w9 hw; have B49 : Aside0 (w9.heap[g4]? = some (.cells #[.slice none 0 0, .int .i64 0, .int .i64 1] 32 (0, 0))) := ⟨by rw [hw]; exact set32_blk B45.out _ _ _⟩; have HB9 : Aside0 (Below w.heap.size w w9) := ⟨by rw [hw]; exact set32_below HB5.out G4.out.1 _ _ _⟩; clear hw))
   (try simp only [Exit.inBlock, Exit.then])
   refine bodyPost_ret (results_cell_row rfl _ _ g4 32 #[.slice none 0 0, .int .i64 0, .int .i64 1] (0, 0) _ rfl B49.out hu32 rfl (by kernel_rfl)) rfl ?_
   exact ⟨_, rfl, Kd.R_nil _ _ _ _ _, HB9.out⟩
  | true =>
   rw [if_pos rfl] at h2
   by_cases ha : (l0.any fun x => eqI x.f0 ⟨a0, a1, a2⟩) = true
   ·
    rw [if_pos ha] at h2
    have HANY := Aside0.mk ha
    by_cases hh : aboveO t.items ⟨a0, a1, a2⟩ = true ∧ t.sz ≤ 700
    ·
     rw [if_pos (by exact hh)] at h2
     obtain ⟨⟨t', n⟩, htk, h2⟩ := Option.bind_eq_some_iff.1 h2
     simp only [Option.some.injEq, Prod.mk.injEq] at h2
     obtain ⟨rfl, rfl, rfl⟩ := h2
     have HO := Aside0.mk (aboveO_ok hh.1)
     have HSZ := Aside0.mk hh.2
     have HTK := Aside0.mk htk
     clear ha hh htk
     go_enter Tryz.func8, Tryz.ntmps8
     go_wp2_with (first
      | ((with_reducible refine gate_dst (N := 2) rfl ?_); refine box_event ?hg (N := 2) ?hd (cs := #[.slice A0 l0.length c0]) (t := 30) ?hr ?_; (case hd => rfl); (case hg => rfl); (case hr => first | (go_simp; done) | (go_simp; rfl)); intro g2 hgb w1 hbox hb1; have B21 := Aside0.mk hbox; have HB1 : Aside0 (Below w.heap.size w w1) := ⟨hb1⟩; clear hgb hbox hb1)
      | ((with_reducible refine gate_dst (N := 3) rfl ?_); refine box_event ?hg (N := 3) ?hd (cs := #[.int .i64 a0, .int .i64 a1, .int .i64 a2]) (t := 35) ?hr ?_; (case hd => rfl); (case hg => rfl); (case hr => first | (go_simp; done) | (go_simp; rfl)); intro g3 hgb w2 hbox hb1; have B22 := Aside0.mk (blk_below B21.out hb1); have B32 := Aside0.mk hbox; have HB2 : Aside0 (Below w.heap.size w w2) := ⟨below_step HB1.out hb1⟩; clear hgb hbox hb1)
      | ((with_reducible refine gate_dst (N := 4) rfl ?_); refine box_event ?hg (N := 4) ?hd (cs := #[.slice none 0 0, .int .i64 0, .int .i64 0]) (t := 32) ?hr ?_; (case hd => rfl); (case hg => rfl); (case hr => first | (go_simp; done) | (go_simp; rfl)); intro g4 hgb w3 hbox hb1; have B23 := Aside0.mk (blk_below B22.out hb1); have B33 := Aside0.mk (blk_below B32.out hb1); have B43 := Aside0.mk hbox; have HB3 : Aside0 (Below w.heap.size w w3) := ⟨below_step HB2.out hb1⟩; have G4 : Aside0 (w.heap.size ≤ g4 ∧ g4 < w3.heap.size) := ⟨by have h1_ := HB2.out.size; have h2_ := blk_lt hbox; omega⟩; have c20_ : w3.cell? ⟨g2, 0, none⟩ = some (.slice A0 l0.length c0) := (blk_cell B23.out 0).trans rfl; clear hgb hbox hb1)
      | (go_at_call 21; (with_reducible refine (treeIn_calls _ _ l0 t true _ ?side0 HC.out HI.out).mono ?_); (case side0 => exact Kd.C_below HR.out HB3.out); rintro e w4 ⟨u, rfl, hn1, hb_⟩; have HT4 := Aside0.mk (IsT.of_IsN hn1); have B24 := Aside0.mk (blk_below B23.out hb_); have B34 := Aside0.mk (blk_below B33.out hb_); have B44 := Aside0.mk (blk_below B43.out hb_); have HB4 : Aside0 (Below w.heap.size w w4) := ⟨below_step HB3.out hb_⟩; clear c20_; have c20_ : w4.cell? ⟨g2, 0, none⟩ = some (.slice A0 l0.length c0) := (blk_cell B24.out 0).trans rfl; have c30_ : w4.cell? ⟨g3, 0, none⟩ = some (.int .i64 a0) := (blk_cell B34.out 0).trans rfl; have c31_ : w4.cell? ⟨g3, 1, none⟩ = some (.int .i64 a1) := (blk_cell B34.out 1).trans rfl; have c32_ : w4.cell? ⟨g3, 2, none⟩ = some (.int .i64 a2) := (blk_cell B34.out 2).trans rfl; have c40_ : w4.cell? ⟨g4, 0, none⟩ = some (.slice none 0 0) := (blk_cell B44.out 0).trans rfl; have c41_ : w4.cell? ⟨g4, 1, none⟩ = some (.int .i64 0) := (blk_cell B44.out 1).trans rfl; have c42_ : w4.cell? ⟨g4, 2, none⟩ = some (.int .i64 0) := (blk_cell B44.out 2).trans rfl; have hf4_ : ∀ j, w4.frozen? ⟨g4, j, none⟩ = false := fun j => blk_frozen B44.out j; clear hn1 hb_)
      | (go_at_call 22; (with_reducible refine (impl_ItemRight.calls a0 a1 a2 true _ HIR.out).mono ?_); rintro e w5 ⟨rfl, hb_⟩; have HT5 := Aside0.mk (HT4.out.keep (fun k hk _ => hb_.block k hk)); have HS5 : Aside0 (w4.heap.size ≤ w5.heap.size) := ⟨hb_.size⟩; have B25 := Aside0.mk (blk_below B24.out hb_); have B35 := Aside0.mk (blk_below B34.out hb_); have B45 := Aside0.mk (blk_below B44.out hb_); have HB5 : Aside0 (Below w.heap.size w w5) := ⟨below_step HB4.out hb_⟩; clear c20_ c30_ c31_ c32_ c40_ c41_ c42_ hf4_; have c20_ : w5.cell? ⟨g2, 0, none⟩ = some (.slice A0 l0.length c0) := (blk_cell B25.out 0).trans rfl; have c30_ : w5.cell? ⟨g3, 0, none⟩ = some (.int .i64 a0) := (blk_cell B35.out 0).trans rfl; have c31_ : w5.cell? ⟨g3, 1, none⟩ = some (.int .i64 a1) := (blk_cell B35.out 1).trans rfl; have c32_ : w5.cell? ⟨g3, 2, none⟩ = some (.int .i64 a2) := (blk_cell B35.out 2).trans rfl; have c40_ : w5.cell? ⟨g4, 0, none⟩ = some (.slice none 0 0) := (blk_cell B45.out 0).trans rfl; have c41_ : w5.cell? ⟨g4, 1, none⟩ = some (.int .i64 0) := (blk_cell B45.out 1).trans rfl; have c42_ : w5.cell? ⟨g4, 2, none⟩ = some (.int .i64 0) := (blk_cell B45.out 2).trans rfl; have hf4_ : ∀ j, w5.frozen? ⟨g4, j, none⟩ = false := fun j => blk_frozen B45.out j; clear hb_)
      | (go_at_call 23; (with_reducible refine (contains_calls ⟨a0, a1, a2⟩ g3 A0 c0 l0 w5 ?side0 ?side1).mono ?_); (case side0 => exact B35.out); (case side1 => exact Kd.C_below HR.out HB5.out); rintro e w6 ⟨rfl, hb_⟩; have HT6 := Aside0.mk (HT5.out.keep (fun k hk _ => hb_.block k hk)); have HS6 : Aside0 (w4.heap.size ≤ w6.heap.size) := ⟨Nat.le_trans HS5.out hb_.size⟩; have B26 := Aside0.mk (blk_below B25.out hb_); have B36 := Aside0.mk (blk_below B35.out hb_); have B46 := Aside0.mk (blk_below B45.out hb_); have HB6 : Aside0 (Below w.heap.size w w6) := ⟨below_step HB5.out hb_⟩; clear c20_ c30_ c31_ c32_ c40_ c41_ c42_ hf4_; have c30_ : w6.cell? ⟨g3, 0, none⟩ = some (.int .i64 a0) := (blk_cell B36.out 0).trans rfl; have c31_ : w6.cell? ⟨g3, 1, none⟩ = some (.int .i64 a1) := (blk_cell B36.out 1).trans rfl; have c32_ : w6.cell? ⟨g3, 2, none⟩ = some (.int .i64 a2) := (blk_cell B36.out 2).trans rfl; have c40_ : w6.cell? ⟨g4, 0, none⟩ = some (.slice none 0 0) := (blk_cell B46.out 0).trans rfl; have c41_ : w6.cell? ⟨g4, 1, none⟩ = some (.int .i64 0) := (blk_cell B46.out 1).trans rfl; have c42_ : w6.cell? ⟨g4, 2, none⟩ = some (.int .i64 0) := (blk_cell B46.out 2).trans rfl; have hf4_ : ∀ j, w6.frozen? ⟨g4, j, none⟩ = false := fun j => blk_frozen B46.out j; rw [HANY.out]; clear hb_)
      | (go_at_call 25; (with_reducible refine (takeT ⟨a0, a1, a2⟩ t _ u w6 t' n HT6.out ?side0 HSZ.out HTK.out HO.out).mono ?_); (case side0 => exact fun k hk => Nat.lt_of_lt_of_le hk.2 HS6.out); rintro e w7 ⟨u7, rfl, ht, hw⟩; have HT7 := Aside0.mk ht; have HW7 := Aside0.mk hw; have B47 := Aside0.mk (hw.keepC B46.out (fun c => by have h1_ := G4.out.2; omega)); have HB7 : Aside0 (Below w.heap.size w w7) := ⟨hw.below HB6.out (fun k hk => Nat.le_trans HB3.out.size hk.1) HB6.out.size⟩; clear ht hw c30_ c31_ c32_ c40_ c41_ c42_ hf4_)
      | (go_at_call 26; (with_reducible refine (treeTold_calls t' _ u7 w7 HT7.out ?side0 ?side1).mono ?_); (case side0 => exact fun k hk => Nat.lt_of_lt_of_le hk.2 (Nat.le_trans HS6.out HW7.out.size)); (case side1 => have h_ := tkO_ok _ _ _ _ HTK.out; have := HSZ.out; omega); rintro e w8 ⟨v, rfl, hv, hb_⟩; have HV := Aside0.mk hv; have B48 := Aside0.mk (blk_below B47.out hb_); have HB8 : Aside0 (Below w.heap.size w w8) := ⟨below_step HB7.out hb_⟩; have c40_ : w8.cell? ⟨g4, 0, none⟩ = some (.slice none 0 0) := (blk_cell B48.out 0).trans rfl; have c41_ : w8.cell? ⟨g4, 1, none⟩ = some (.int .i64 0) := (blk_cell B48.out 1).trans rfl; have c42_ : w8.cell? ⟨g4, 2, none⟩ = some (.int .i64 0) := (blk_cell B48.out 2).trans rfl; have hf4_ : ∀ j, w8.frozen? ⟨g4, j, none⟩ = false := fun j => blk_frozen B48.out j; clear hv hb_; obtain ⟨Av, cv, ev⟩ := Kd.R_slice HV.out; subst ev)
      | ((with_reducible refine gate_store (t := 32) (p := 4) rfl ?_); refine store_event (t := 32) (p := 4) (v := ?vo_tk) (w1 := (set32 w8 g4 (.slice Av (twT t').length cv) n 0)) ?hg ?ho ?hn ?hr ?_; (case ho => rfl); (case hg => rfl); (case hn => rfl); (case hr => first | (go_simp; done) | (go_simp; rfl)); intro w9 hw; have B49 : Aside0 (w9.heap[g4]? = some (.cells #[.slice Av (twT t').length cv, .int .i64 n, .int .i64 0] 32 (0, 0))) := ⟨by rw [hw]; exact set32_blk B48.out _ _ _⟩; have HV9 : Aside0 (Kd.R k46 46 w9 w7.heap.size (fun _ => True) (.slice Av (twT t').length cv) (twT t')) := ⟨by rw [hw]; exact set32_R B48.out HV.out _ _ _⟩; have HB9 : Aside0 (Below w.heap.size w w9) := ⟨by rw [hw]; exact set32_below HB8.out G4.out.1 _ _ _⟩; clear hw))
     (try simp only [Exit.inBlock, Exit.then])
     refine bodyPost_ret (results_cell_row rfl _ _ g4 32 #[.slice Av (twT t').length cv, .int .i64 n, .int .i64 0] (0, 0) _ rfl B49.out hu32 rfl (by kernel_rfl)) rfl ?_
     exact ⟨_, rfl, Kd.R_lower HV9.out HB7.out.size, HB9.out⟩
    ·
     rw [if_neg (by exact hh)] at h2
     cases h2
   ·
    rw [if_neg ha] at h2
    simp only [Option.some.injEq, Prod.mk.injEq] at h2
    obtain ⟨rfl, rfl, rfl⟩ := h2
    have HANY : Aside0 ((l0.any fun x => eqI x.f0 ⟨a0, a1, a2⟩) = false) := ⟨by simpa using ha⟩
    clear ha
    go_enter Tryz.func8, Tryz.ntmps8
    go_wp2_with (first
     | ((with_reducible refine gate_dst (N := 2) rfl ?_); refine box_event ?hg (N := 2) ?hd (cs := #[.slice A0 l0.length c0]) (t := 30) ?hr ?_; (case hd => rfl); (case hg => rfl); (case hr => first | (go_simp; done) | (go_simp; rfl)); intro g2 hgb w1 hbox hb1; have B21 := Aside0.mk hbox; have HB1 : Aside0 (Below w.heap.size w w1) := ⟨hb1⟩; clear hgb hbox hb1)
     | ((with_reducible refine gate_dst (N := 3) rfl ?_); refine box_event ?hg (N := 3) ?hd (cs := #[.int .i64 a0, .int .i64 a1, .int .i64 a2]) (t := 35) ?hr ?_; (case hd => rfl); (case hg => rfl); (case hr => first | (go_simp; done) | (go_simp; rfl)); intro g3 hgb w2 hbox hb1; have B22 := Aside0.mk (blk_below B21.out hb1); have B32 := Aside0.mk hbox; have HB2 : Aside0 (Below w.heap.size w w2) := ⟨below_step HB1.out hb1⟩; clear hgb hbox hb1)
     | ((with_reducible refine gate_dst (N := 4) rfl ?_); refine box_event ?hg (N := 4) ?hd (cs := #[.slice none 0 0, .int .i64 0, .int .i64 0]) (t := 32) ?hr ?_; (case hd => rfl); (case hg => rfl); (case hr => first | (go_simp; done) | (go_simp; rfl)); intro g4 hgb w3 hbox hb1; have B23 := Aside0.mk (blk_below B22.out hb1); have B33 := Aside0.mk (blk_below B32.out hb1); have B43 := Aside0.mk hbox; have HB3 : Aside0 (Below w.heap.size w w3) := ⟨below_step HB2.out hb1⟩; have G4 : Aside0 (w.heap.size ≤ g4 ∧ g4 < w3.heap.size) := ⟨by have h1_ := HB2.out.size; have h2_ := blk_lt hbox; omega⟩; have c20_ : w3.cell? ⟨g2, 0, none⟩ = some (.slice A0 l0.length c0) := (blk_cell B23.out 0).trans rfl; clear hgb hbox hb1)
     | (go_at_call 21; (with_reducible refine (treeIn_calls _ _ l0 t true _ ?side0 HC.out HI.out).mono ?_); (case side0 => exact Kd.C_below HR.out HB3.out); rintro e w4 ⟨u, rfl, hn1, hb_⟩; have HT4 := Aside0.mk (IsT.of_IsN hn1); have B24 := Aside0.mk (blk_below B23.out hb_); have B34 := Aside0.mk (blk_below B33.out hb_); have B44 := Aside0.mk (blk_below B43.out hb_); have HB4 : Aside0 (Below w.heap.size w w4) := ⟨below_step HB3.out hb_⟩; clear c20_; have c20_ : w4.cell? ⟨g2, 0, none⟩ = some (.slice A0 l0.length c0) := (blk_cell B24.out 0).trans rfl; have c30_ : w4.cell? ⟨g3, 0, none⟩ = some (.int .i64 a0) := (blk_cell B34.out 0).trans rfl; have c31_ : w4.cell? ⟨g3, 1, none⟩ = some (.int .i64 a1) := (blk_cell B34.out 1).trans rfl; have c32_ : w4.cell? ⟨g3, 2, none⟩ = some (.int .i64 a2) := (blk_cell B34.out 2).trans rfl; have c40_ : w4.cell? ⟨g4, 0, none⟩ = some (.slice none 0 0) := (blk_cell B44.out 0).trans rfl; have c41_ : w4.cell? ⟨g4, 1, none⟩ = some (.int .i64 0) := (blk_cell B44.out 1).trans rfl; have c42_ : w4.cell? ⟨g4, 2, none⟩ = some (.int .i64 0) := (blk_cell B44.out 2).trans rfl; have hf4_ : ∀ j, w4.frozen? ⟨g4, j, none⟩ = false := fun j => blk_frozen B44.out j; clear hn1 hb_)
     | (go_at_call 22; (with_reducible refine (impl_ItemRight.calls a0 a1 a2 true _ HIR.out).mono ?_); rintro e w5 ⟨rfl, hb_⟩; have HT5 := Aside0.mk (HT4.out.keep (fun k hk _ => hb_.block k hk)); have HS5 : Aside0 (w4.heap.size ≤ w5.heap.size) := ⟨hb_.size⟩; have B25 := Aside0.mk (blk_below B24.out hb_); have B35 := Aside0.mk (blk_below B34.out hb_); have B45 := Aside0.mk (blk_below B44.out hb_); have HB5 : Aside0 (Below w.heap.size w w5) := ⟨below_step HB4.out hb_⟩; clear c20_ c30_ c31_ c32_ c40_ c41_ c42_ hf4_; have c20_ : w5.cell? ⟨g2, 0, none⟩ = some (.slice A0 l0.length c0) := (blk_cell B25.out 0).trans rfl; have c30_ : w5.cell? ⟨g3, 0, none⟩ = some (.int .i64 a0) := (blk_cell B35.out 0).trans rfl; have c31_ : w5.cell? ⟨g3, 1, none⟩ = some (.int .i64 a1) := (blk_cell B35.out 1).trans rfl; have c32_ : w5.cell? ⟨g3, 2, none⟩ = some (.int .i64 a2) := (blk_cell B35.out 2).trans rfl; have c40_ : w5.cell? ⟨g4, 0, none⟩ = some (.slice none 0 0) := (blk_cell B45.out 0).trans rfl; have c41_ : w5.cell? ⟨g4, 1, none⟩ = some (.int .i64 0) := (blk_cell B45.out 1).trans rfl; have c42_ : w5.cell? ⟨g4, 2, none⟩ = some (.int .i64 0) := (blk_cell B45.out 2).trans rfl; have hf4_ : ∀ j, w5.frozen? ⟨g4, j, none⟩ = false := fun j => blk_frozen B45.out j; clear hb_)
     | (go_at_call 23; (with_reducible refine (contains_calls ⟨a0, a1, a2⟩ g3 A0 c0 l0 w5 ?side0 ?side1).mono ?_); (case side0 => exact B35.out); (case side1 => exact Kd.C_below HR.out HB5.out); rintro e w6 ⟨rfl, hb_⟩; have HT6 := Aside0.mk (HT5.out.keep (fun k hk _ => hb_.block k hk)); have HS6 : Aside0 (w4.heap.size ≤ w6.heap.size) := ⟨Nat.le_trans HS5.out hb_.size⟩; have B26 := Aside0.mk (blk_below B25.out hb_); have B36 := Aside0.mk (blk_below B35.out hb_); have B46 := Aside0.mk (blk_below B45.out hb_); have HB6 : Aside0 (Below w.heap.size w w6) := ⟨below_step HB5.out hb_⟩; clear c20_ c30_ c31_ c32_ c40_ c41_ c42_ hf4_; have c30_ : w6.cell? ⟨g3, 0, none⟩ = some (.int .i64 a0) := (blk_cell B36.out 0).trans rfl; have c31_ : w6.cell? ⟨g3, 1, none⟩ = some (.int .i64 a1) := (blk_cell B36.out 1).trans rfl; have c32_ : w6.cell? ⟨g3, 2, none⟩ = some (.int .i64 a2) := (blk_cell B36.out 2).trans rfl; have c40_ : w6.cell? ⟨g4, 0, none⟩ = some (.slice none 0 0) := (blk_cell B46.out 0).trans rfl; have c41_ : w6.cell? ⟨g4, 1, none⟩ = some (.int .i64 0) := (blk_cell B46.out 1).trans rfl; have c42_ : w6.cell? ⟨g4, 2, none⟩ = some (.int .i64 0) := (blk_cell B46.out 2).trans rfl; have hf4_ : ∀ j, w6.frozen? ⟨g4, j, none⟩ = false := fun j => blk_frozen B46.out j; rw [HANY.out]; clear hb_)
     | ((with_reducible refine gate_store (t := 32) (p := 4) rfl ?_); refine store_event (t := 32) (p := 4) (v := ?vo_e3) (w1 := (set32 w6 g4 (.slice none 0 0) 0 4)) ?hg ?ho ?hn ?hr ?_; (case ho => rfl); (case hg => rfl); (case hn => rfl); (case hr => first | (go_simp; done) | (go_simp; rfl)); intro w9 hw; have B49 : Aside0 (w9.heap[g4]? = some (.cells #[.slice none 0 0, .int .i64 0, .int .i64 4] 32 (0, 0))) := ⟨by rw [hw]; exact set32_blk B46.out _ _ _⟩; have HB9 : Aside0 (Below w.heap.size w w9) := ⟨by rw [hw]; exact set32_below HB6.out G4.out.1 _ _ _⟩; clear hw))
    (try simp only [Exit.inBlock, Exit.then])
    refine bodyPost_ret (results_cell_row rfl _ _ g4 32 #[.slice none 0 0, .int .i64 0, .int .i64 4] (0, 0) _ rfl B49.out hu32 rfl (by kernel_rfl)) rfl ?_
    exact ⟨_, rfl, Kd.R_nil _ _ _ _ _, HB9.out⟩

end Go.Proofs.YtenlceojmjkbkaaGreat.XFnExactTreeTake
