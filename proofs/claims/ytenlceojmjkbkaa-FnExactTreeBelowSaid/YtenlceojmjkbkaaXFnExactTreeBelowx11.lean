/- Functions that FnExactTreeBelow comes to, as Lean functions with their contracts: written by the prover's own program (wip/tpl/myprint.py) over the kit's printer, some contracts by hand. Conditions: none. -/
import Derived.Test.YtenlceojmjkbkaaXFnExactTreeBelowx0
import Derived.Test.YtenlceojmjkbkaaXFnExactTreeBelowx4
import Derived.Test.YtenlceojmjkbkaaXFnExactTreeBelowx7
import Derived.Test.YtenlceojmjkbkaaXFnExactTreeBelowx8
import Derived.Test.YtenlceojmjkbkaaXFnExactTreeBelowx9
import Derived.Test.YtenlceojmjkbkaaXFnExactTreeBelowx10
namespace Go.Proofs.Ytenlceojmjkbkaa.XFnExactTreeBelow
open Go.RowKit Go.Proofs.YtenlceojmjkbkaaW.PrintWords Go.Proofs.YtenlceojmjkbkaaW.PrintLast Go.Proofs.YtenlceojmjkbkaaW.PrintMore
attribute [local go_sem] max2_int min2_int max_two min_two max_three min_three max_four min_four   -- for this text's walks alone
set_option linter.unusedVariables false
set_option linter.unusedSimpArgs false

/-! ### impl_TreeBelow: function 47 -/
attribute [local go_sem] Oper.semAt_some
/-! ### A part of a tree in memory: its nodes' blocks stand in [lo, hi) -/
def IsN (w : World) : Nat → Nat → Option Addr → Tr → Prop
  | lo, hi, u, .nil => u = none ∧ lo ≤ hi
  | lo, hi, u, .node x l r => ∃ (g m : Nat) (lu ru : Option Addr), u = some ⟨g, 0, none⟩ ∧ g < hi ∧
      w.heap[g]? = some (.cells #[.int .i64 x.f0, .int .i64 x.f1, .int .i64 x.f2, .pointer lu, .pointer ru, .int .i64 ((Tr.node x l r).ht : Nat)] 133 (0, 0)) ∧
      IsN w lo m lu l ∧ IsN w m g ru r
theorem IsN.le {w : World} : ∀ {t : Tr} {lo hi : Nat} {u : Option Addr}, IsN w lo hi u t → lo ≤ hi
  | .nil, _, _, _, h => h.2
  | .node _ _ _, _, _, _, ⟨g, m, lu, ru, _, h1, _, h2, h3⟩ => by
    have := h2.le
    have := h3.le
    omega
theorem IsN.keep {w w' : World} : ∀ {t : Tr} {lo hi : Nat} {u : Option Addr}, IsN w lo hi u t → (∀ k, lo ≤ k → k < hi → k < w.heap.size → w'.heap[k]? = w.heap[k]?) → IsN w' lo hi u t
  | .nil, _, _, _, h, _ => h
  | .node _ _ _, lo, hi, _, ⟨g, m, lu, ru, e, h1, hb, h2, h3⟩, hk => by
    have e2 := h2.le
    have e3 := h3.le
    have hlt := blk_lt hb
    exact ⟨g, m, lu, ru, e, h1, (hk g (by omega) h1 hlt).trans hb, h2.keep (fun k a b c => hk k a (by omega) c), h3.keep (fun k a b c => hk k (by omega) (by omega) c)⟩
theorem IsN.below {w w' : World} {t : Tr} {lo hi : Nat} {u : Option Addr} (h : IsN w lo hi u t) (hb : Below w.heap.size w w') : IsN w' lo hi u t := h.keep (fun k _ _ hk => hb.block k hk)
theorem IsN.drewN {w : World} {t : Tr} {lo hi : Nat} {u : Option Addr} (h : IsN w lo hi u t) (n : Nat) : IsN (w.drewN n) lo hi u t := h.keep (fun _ _ _ _ => rfl)
theorem IsN.wide {w : World} : ∀ {t : Tr} {lo lo' hi hi' : Nat} {u : Option Addr}, IsN w lo hi u t → lo' ≤ lo → hi ≤ hi' → IsN w lo' hi' u t
  | .nil, _, _, _, _, _, h, a, b => ⟨h.1, by have := h.2; omega⟩
  | .node _ _ _, _, _, _, _, _, ⟨g, m, lu, ru, e, h1, hb, h2, h3⟩, a, b => ⟨g, m, lu, ru, e, by omega, hb, h2.wide a (Nat.le_refl _), h3⟩

set_option maxHeartbeats 4000000 in
theorem height_calls (u : Option Addr) (t : Tr) (lo hi : Nat) (w : World) (h : IsN w lo hi u t) :
    Calls Try.prog 98 #[.pointer u] w fun e w' => e = .returned (.int .i64 (t.ht : Nat)) ∧ Drawn0 w w' := by
  cases t with
  | nil =>
    obtain ⟨rfl, _⟩ := h
    go_enter Try.func98, Try.ntmps98
    go_wp2
    go_ret
    exact ⟨rfl, Drawn0.refl _⟩
  | node x l r =>
    obtain ⟨g, m, lu, ru, rfl, _, hb, _, _⟩ := h
    have hx := (blk_cell hb 5)
    simp only [List.getElem?_toArray, List.getElem?_cons_zero, List.getElem?_cons_succ] at hx
    generalize ((Tr.node x l r).ht : Nat) = n at hx ⊢
    clear hb
    go_enter Try.func98, Try.ntmps98
    go_wp2
    go_ret
    exact ⟨rfl, Drawn0.refl _⟩

/-- Where a slice may lie behind a call that writes it: in its own block still, or in a new one. -/
def Hat (w : World) (v v1 : Value) : Prop := v1.ownBlock = v.ownBlock ∨ ∃ b, v1.ownBlock = some b ∧ w.heap.size ≤ b
theorem Hat.raw {w : World} {v v1 : Value} (h : Hat w v v1) : v1.ownBlock = v.ownBlock ∨ ∃ b, v1.ownBlock = some b ∧ w.heap.size ≤ b := h
theorem Hat.of_drew {w : World} {v v1 : Value} (h : Hat w.drew v v1) : Hat w v v1 := h
theorem Hat.older {w w1 : World} {v v1 : Value} (h : Hat w1 v v1) (hs : w.heap.size ≤ w1.heap.size) : Hat w v v1 := h.imp_right (fun ⟨b, e, hb⟩ => ⟨b, e, Nat.le_trans hs hb⟩)
theorem World.grownBy_refl' (w : World) (o : Option Nat) : w.grownBy w.drew o := ⟨rfl, rfl, rfl, Nat.le_refl _, fun _ _ _ => rfl⟩
theorem grown_then {w w1 w2 : World} {o o1 : Option Nat} (h : w.grownBy w1 o) (k : w1.grownBy w2 o1) (hat : o1 = o ∨ ∃ b, o1 = some b ∧ w.heap.size ≤ b) : w.grownBy w2 o :=
  ⟨k.os.trans h.os, k.tape.trans h.tape, k.output.trans h.output, Nat.le_trans h.size k.size, fun i hi hne => (k.block i (Nat.lt_of_lt_of_le hi h.size) (by
    rcases hat with rfl | ⟨b, rfl, hb⟩
    · exact hne
    · intro e; cases e; omega)).trans (h.block i hi hne)⟩
theorem grown_new {w w1 w2 : World} {o : Option Nat} (h : w.grownBy w1 o) (k : w1.grownBy w2 none) : w.grownBy w2 o :=
  ⟨k.os.trans h.os, k.tape.trans h.tape, k.output.trans h.output, Nat.le_trans h.size k.size, fun i hi hne => (k.block i (Nat.lt_of_lt_of_le hi h.size) (by simp)).trans (h.block i hi hne)⟩
theorem hat_then {w w1 : World} {v v1 v2 : Value} (h : Hat w v v1) (k : Hat w1 v1 v2) (hs : w.heap.size ≤ w1.heap.size) : Hat w v v2 := by
  rcases k with e | ⟨b, e, hb⟩
  · rcases h with e1 | ⟨b, e1, hb⟩
    · exact .inl (e.trans e1)
    · exact .inr ⟨b, e.trans e1, hb⟩
  · exact .inr ⟨b, e, Nat.le_trans hs hb⟩
theorem R33_ok {e base : Nat} {ok ok' : Nat → Prop} {w : World} {v : Value} {xs : List S33} (h : k33.R e w base ok v xs) (hok : ∀ k, v.ownBlock = some k → ok' k) : k33.R e w base ok' v xs :=
  ⟨hok, h.2.imp fun inner ⟨ho, hr⟩ => ⟨ho, hr.imp_ (fun p c hp => by rw [k33_openM hp]; exact k33_mkM _ _ _ p)⟩⟩

set_option maxHeartbeats 1000000 in
set_option maxRecDepth 100000 in
theorem items_calls (t : Tr) : ∀ (u : Option Addr) (lo hi base : Nat) (v : Value) (out : List S33) (w : World) (h : IsN w lo hi u t) (hib : hi ≤ base) (hv : Kd.R k33 33 w base (fun _ => True) v out) (hlen : out.length + t.sz ≤ 1000) (hb : base ≤ w.heap.size),
    Calls Try.prog 99 #[.pointer u, v] w fun e w' => ∃ v', e = .returned v' ∧ Kd.R k33 33 w' base (fun _ => True) v' (out ++ t.items) ∧ w.grownBy w' v.ownBlock ∧ Hat w v v' := by
  induction t with
  | nil =>
    intro u lo hi base v out w h hib hv hlen hb
    obtain ⟨rfl, _⟩ := h
    obtain ⟨A, c, rfl⟩ := Kd.R_slice hv
    have HV := Aside0.mk hv
    clear hv
    go_enter Try.func99, Try.ntmps99
    go_wp2
    go_ret
    exact ⟨_, rfl, by simpa [Tr.items] using HV.out, ⟨rfl, rfl, rfl, Nat.le_refl _, fun _ _ _ => rfl⟩, .inl rfl⟩
  | node x l r ihl ihr =>
    intro u lo hi base v out w h hib hv hlen hbs
    obtain ⟨g, m, lu, ru, rfl, hgh, hblk, hL, hR⟩ := h
    obtain ⟨A, c, rfl⟩ := Kd.R_slice hv
    have HV0 := Aside0.mk hv
    generalize hn : out.length = n at hlen ⊢ hv
    have HN := Aside0.mk hn
    have HV := Aside0.mk hv
    clear HV0
    have hgb : g < base := Nat.lt_of_lt_of_le hgh hib
    have hmg : Aside0 (m ≤ hi ∧ True) := ⟨by have := hR.le; omega, trivial⟩
    have hib := Aside0.mk hib
    have hL := Aside0.mk hL
    have hR := Aside0.mk hR
    have hlen := Aside0.mk hlen
    have hbs := Aside0.mk hbs
    clear hv hn
    go_enter Try.func99, Try.ntmps99
    go_wp2
    refine start_ (n := 18) (S := fun w' => Below base w w') (ds := []) #[false, false, false, false, false, false, false, false, false, false, false, false, false, false, false, false, false, false] (by kernel_rfl) rfl rfl (below_drew (Below.refl _ _)) (fun hHeld => ?_)
    refine pure_ (i := 0) (N := (some 8)) (v := ?_) (a' := ?_) #[true, false, false, false, false, false, false, false, false, false, false, false, false, false, false, false, false, false] rfl rfl (by kernel_rfl) (fun _ _ _ h => h) (Or.inl ⟨by rfl, ?_⟩) ?_ ?_
    rotate_left
    · intro w'
      go_simp
      with_reducible rfl
    rotate_left
    · simp only [Act.put, List.setIfInBounds_toArray, List.set_cons_zero, List.set_cons_succ, i64_w, i32_w]
      rfl
    refine pure_ (i := 1) (N := (some 9)) (v := ?_) (a' := ?_) #[true, true, false, false, false, false, false, false, false, false, false, false, false, false, false, false, false, false] rfl rfl (by kernel_rfl) (fun _ _ _ h => h) (Or.inl ⟨by rfl, ?_⟩) ?_ ?_
    rotate_left
    · intro w'
      go_simp
      with_reducible rfl
    rotate_left
    · simp only [Act.put, List.setIfInBounds_toArray, List.set_cons_zero, List.set_cons_succ, i64_w, i32_w]
      rfl
    refine pure_ (i := 2) (N := (some 10)) (v := ?_) (a' := ?_) #[true, true, true, false, false, false, false, false, false, false, false, false, false, false, false, false, false, false] rfl rfl (by kernel_rfl) (fun _ _ _ h => h) (Or.inl ⟨by rfl, ?_⟩) ?_ ?_
    rotate_left
    · intro w'
      go_simp
      with_reducible rfl
    rotate_left
    · simp only [Act.put, List.setIfInBounds_toArray, List.set_cons_zero, List.set_cons_succ, i64_w, i32_w]
      rfl
    refine take_ (i := 3) (N := (some 11)) (v := ?_) (a' := ?_) #[true, true, true, true, false, false, false, false, false, false, false, false, false, false, false, false, false, false] rfl rfl (by kernel_rfl) (fun _ _ _ h => h) (Or.inl ⟨by rfl, ?_⟩) hHeld ?_ ?_
    rotate_left
    · intro w' sb_
      have hq_ := (sb_.block g hgb).trans hblk
      have s0_ : w'.cell? ⟨g, 4, none⟩ = some (.pointer ru) := (blk_cell hq_ 4).trans rfl
      clear sb_ hq_
      go_simp
      with_reducible rfl
    rotate_left
    · simp only [Act.put, List.setIfInBounds_toArray, List.set_cons_zero, List.set_cons_succ, i64_w, i32_w]
      rfl
    refine pure_ (i := 4) (N := (some 12)) (v := ?_) (a' := ?_) #[true, true, true, true, true, false, false, false, false, false, false, false, false, false, false, false, false, false] rfl rfl (by kernel_rfl) (fun _ _ _ h => h) (Or.inl ⟨by rfl, ?_⟩) ?_ ?_
    rotate_left
    · intro w'
      go_simp
      with_reducible rfl
    rotate_left
    · simp only [Act.put, List.setIfInBounds_toArray, List.set_cons_zero, List.set_cons_succ, i64_w, i32_w]
      rfl
    refine pure_ (i := 5) (N := (some 13)) (v := ?_) (a' := ?_) #[true, true, true, true, true, true, false, false, false, false, false, false, false, false, false, false, false, false] rfl rfl (by kernel_rfl) (fun _ _ _ h => h) (Or.inl ⟨by rfl, ?_⟩) ?_ ?_
    rotate_left
    · intro w'
      go_simp
      with_reducible rfl
    rotate_left
    · simp only [Act.put, List.setIfInBounds_toArray, List.set_cons_zero, List.set_cons_succ, i64_w, i32_w]
      rfl
    refine pure_ (i := 6) (N := (some 14)) (v := ?_) (a' := ?_) #[true, true, true, true, true, true, true, false, false, false, false, false, false, false, false, false, false, false] rfl rfl (by kernel_rfl) (fun _ _ _ h => h) (Or.inl ⟨by rfl, ?_⟩) ?_ ?_
    rotate_left
    · intro w'
      go_simp
      with_reducible rfl
    rotate_left
    · simp only [Act.put, List.setIfInBounds_toArray, List.set_cons_zero, List.set_cons_succ, i64_w, i32_w]
      rfl
    refine take_ (i := 7) (N := (some 15)) (v := ?_) (a' := ?_) #[true, true, true, true, true, true, true, true, false, false, false, false, false, false, false, false, false, false] rfl rfl (by kernel_rfl) (fun _ _ _ h => h) (Or.inl ⟨by rfl, ?_⟩) hHeld ?_ ?_
    rotate_left
    · intro w' sb_
      have hq_ := (sb_.block g hgb).trans hblk
      have s0_ : w'.cell? ⟨g, 3, none⟩ = some (.pointer lu) := (blk_cell hq_ 3).trans rfl
      clear sb_ hq_
      go_simp
      with_reducible rfl
    rotate_left
    · simp only [Act.put, List.setIfInBounds_toArray, List.set_cons_zero, List.set_cons_succ, i64_w, i32_w]
      rfl
    refine pure_ (i := 8) (N := (some 16)) (v := ?_) (a' := ?_) #[true, true, true, true, true, true, true, true, true, false, false, false, false, false, false, false, false, false] rfl rfl (by kernel_rfl) (fun _ _ _ h => h) (Or.inl ⟨by rfl, ?_⟩) ?_ ?_
    rotate_left
    · intro w'
      go_simp
      with_reducible rfl
    rotate_left
    · simp only [Act.put, List.setIfInBounds_toArray, List.set_cons_zero, List.set_cons_succ, i64_w, i32_w]
      rfl
    refine pure_ (i := 10) (N := (some 18)) (v := ?_) (a' := ?_) #[true, true, true, true, true, true, true, true, true, false, true, false, false, false, false, false, false, false] rfl rfl (by kernel_rfl) (fun _ _ _ h => h) (Or.inl ⟨by rfl, ?_⟩) ?_ ?_
    rotate_left
    · intro w'
      go_simp
      with_reducible rfl
    rotate_left
    · simp only [Act.put, List.setIfInBounds_toArray, List.set_cons_zero, List.set_cons_succ, i64_w, i32_w]
      rfl
    refine pure_ (i := 11) (N := (some 19)) (v := ?_) (a' := ?_) #[true, true, true, true, true, true, true, true, true, false, true, true, false, false, false, false, false, false] rfl rfl (by kernel_rfl) (fun _ _ _ h => h) (Or.inl ⟨by rfl, ?_⟩) ?_ ?_
    rotate_left
    · intro w'
      go_simp
      with_reducible rfl
    rotate_left
    · simp only [Act.put, List.setIfInBounds_toArray, List.set_cons_zero, List.set_cons_succ, i64_w, i32_w]
      rfl
    refine pure_ (i := 12) (N := (some 20)) (v := ?_) (a' := ?_) #[true, true, true, true, true, true, true, true, true, false, true, true, true, false, false, false, false, false] rfl rfl (by kernel_rfl) (fun _ _ _ h => h) (Or.inl ⟨by rfl, ?_⟩) ?_ ?_
    rotate_left
    · intro w'
      go_simp
      with_reducible rfl
    rotate_left
    · simp only [Act.put, List.setIfInBounds_toArray, List.set_cons_zero, List.set_cons_succ, i64_w, i32_w]
      rfl
    refine take_ (i := 13) (N := (some 21)) (v := ?_) (a' := ?_) #[true, true, true, true, true, true, true, true, true, false, true, true, true, true, false, false, false, false] rfl rfl (by kernel_rfl) (fun _ _ _ h => h) (Or.inl ⟨by rfl, ?_⟩) hHeld ?_ ?_
    rotate_left
    · intro w' sb_
      have hq_ := (sb_.block g hgb).trans hblk
      have s0_ : w'.cell? ⟨g, 0, none⟩ = some (.int .i64 x.f0) := (blk_cell hq_ 0).trans rfl
      have s1_ : w'.cell? ⟨g, 1, none⟩ = some (.int .i64 x.f1) := (blk_cell hq_ 1).trans rfl
      have s2_ : w'.cell? ⟨g, 2, none⟩ = some (.int .i64 x.f2) := (blk_cell hq_ 2).trans rfl
      clear sb_ hq_
      go_simp
      with_reducible rfl
    rotate_left
    · simp only [Act.put, List.setIfInBounds_toArray, List.set_cons_zero, List.set_cons_succ, i64_w, i32_w]
      rfl
    refine join_ (σ := Value × Value) 3 #[true, true, true, true, true, true, true, true, true, true, true, true, true, true, true, false, false, false] (fun s_ => [(17, s_.1), (22, s_.2)]) (fun s_ w' => Below base w w' ∧ Kd.R k33 33 w' base (fun k_ => some k_ ≠ (s_.2 : Value).ownBlock) s_.1 (out ++ l.items) ∧ Kd.R k33 33 w' base (fun k_ => some k_ ≠ (s_.1 : Value).ownBlock) s_.2 [x] ∧ w.grownBy w' (Value.slice A n c).ownBlock ∧ Hat w (Value.slice A n c) s_.1) ?_ ?_
    rotate_left
    · intro hCont
      refine two_ (i := 9) (j := 14) (Ni := (some 17)) (Nj := (some 22)) #[true, true, true, true, true, true, true, true, true, true, true, true, true, true, false, false, false, false] #[true, true, true, true, true, true, true, true, true, false, true, true, true, true, true, false, false, false] rfl rfl rfl rfl (by kernel_rfl) (by decide) (by decide) (fun K hK => ?_) (fun K hK => ?_)
      · skip
        refine goes_ Try.func99 (by kernel_rfl) rfl #[.pointer lu, .slice A n c] (by rfl) rfl rfl (by first | rfl | (simp only [List.map_toArray, List.map_cons, List.map_nil]; rfl)) ?_
        with_reducible refine (ihl lu lo m base _ out _ ?side0 ?side1 ?side2 ?side3 ?side4).mono ?_
        (case side0 => exact IsN.keep hL.out (fun _ _ _ _ => rfl))
        (case side1 => exact Nat.le_trans hmg.out.1 hib.out)
        (case side2 => exact Kd.R_drew HV.out)
        (case side3 => exact (by have := hlen.out; have := HN.out; simp only [Tr.sz] at *; omega))
        (case side4 => exact hbs.out)
        rintro e w1 ⟨v17, rfl, h17, hg17, ha17⟩
        refine ⟨_, rfl, ?_⟩
        have HG := Aside0.mk (grown_then (World.grownBy_refl' w _ : w.grownBy w.drew _) hg17 (Or.inl rfl))
        have HA := Aside0.mk (ha17.of_drew)
        have HO := Aside0.mk h17
        clear h17 hg17 ha17
        have HB1 : Aside0 (Below base w w1) := ⟨pw_below_grown (Below.refl _ _) _ hbs.out HG.out (Kd.R_base HV.out)⟩
        refine hK.out _ _ HB1.out (fun hHeld => ?_)
        clear hK K
        refine norm_ (a' := ?_) ?_ ?_
        rotate_left
        · show Act.put _ (some 17) _ = _
          simp only [Act.put, List.setIfInBounds_toArray, List.set_cons_zero, List.set_cons_succ, i64_w, i32_w]
          rfl
        refine one_ (i := 14) (N := (some 22)) #[true, true, true, true, true, true, true, true, true, true, true, true, true, true, true, false, false, false] rfl rfl (by kernel_rfl) (by decide) (fun K hK => ?_)
        refine Kd.R_lit_step k33 _ 33 ?hg (N := 22) ?hd (xs := [x]) (inner := [.int .i64 x.f0, .int .i64 x.f1, .int .i64 x.f2]) (ok := fun _ => True) (okp := fun _ => True) ?hr ?hp (fun _ hk => hk) trivial (Below.refl _ _) (Nat.le_refl _) (by simp) ?_; (case hd => rfl); (case hg => rfl); (case hr => first | (go_simp; done) | (go_simp; rfl)); (case hp => exact (Reps.c3 (show Kd.M k33 _ _ _ x [.int .i64 x.f0, .int .i64 x.f1, .int .i64 x.f2] from k33_mkM _ _ _ x) (Reps.none _ _)))
        intro v22 w2 hl hb hg_ hnew_
        clear hnew_
        have n1_ := Aside0.mk (Kd.R_elder' HO.out (Kd.R_base hl) hb)
        have n2_ := Aside0.mk (Kd.R_lower (Kd.R_new' hl (Kd.R_lt HO.out)) (Nat.le_trans hbs.out HG.out.size))
        have HG2 := Aside0.mk (grown_new HG.out hg_)
        have HB2 : Aside0 (Below base w w2) := ⟨below_then HB1.out (Nat.le_trans hbs.out HG.out.size) hb⟩
        clear hl hb hg_ HO HB1 HG
        refine hK.out _ _ HB2.out (fun hHeld => ?_)
        clear hK K
        refine norm_ (a' := ?_) ?_ ?_
        rotate_left
        · show Act.put _ (some 22) _ = _
          simp only [Act.put, List.setIfInBounds_toArray, List.set_cons_zero, List.set_cons_succ, i64_w, i32_w]
          rfl
        exact norm_ (by simp only [putAll, Act.put, List.setIfInBounds_toArray, List.set_cons_zero, List.set_cons_succ]) (hCont (v17, v22) _ ⟨hHeld, Kd.R_mono n1_.out (fun _ hk => hk.2), Kd.R_mono n2_.out (fun _ hk => hk.2), HG2.out, HA.out⟩)
      · skip
        refine Kd.R_lit_step k33 _ 33 ?hg (N := 22) ?hd (xs := [x]) (inner := [.int .i64 x.f0, .int .i64 x.f1, .int .i64 x.f2]) (ok := fun _ => True) (okp := fun _ => True) ?hr ?hp (fun _ hk => hk) trivial (Below.refl _ _) (Nat.le_refl _) (by simp) ?_; (case hd => rfl); (case hg => rfl); (case hr => first | (go_simp; done) | (go_simp; rfl)); (case hp => exact (Reps.c3 (show Kd.M k33 _ _ _ x [.int .i64 x.f0, .int .i64 x.f1, .int .i64 x.f2] from k33_mkM _ _ _ x) (Reps.none _ _)))
        intro v22 w1 hl hb hg_ hnew_
        clear hnew_
        have n1_ := Aside0.mk (Kd.R_elder' (Kd.R_drew HV.out) (Kd.R_base hl) hb)
        have n2_ := Aside0.mk (Kd.R_lower (Kd.R_new' hl (Kd.R_lt (Kd.R_drew HV.out))) hbs.out)
        have HG := Aside0.mk (grown_new (World.grownBy_refl' w (Value.slice A n c).ownBlock) hg_)
        have HB1 : Aside0 (Below base w w1) := ⟨below_then (below_drew (Below.refl _ _)) hbs.out hb⟩
        clear hl hb hg_
        refine hK.out _ _ HB1.out (fun hHeld => ?_)
        clear hK K
        refine norm_ (a' := ?_) ?_ ?_
        rotate_left
        · show Act.put _ (some 22) _ = _
          simp only [Act.put, List.setIfInBounds_toArray, List.set_cons_zero, List.set_cons_succ, i64_w, i32_w]
          rfl
        refine one_ (i := 9) (N := (some 17)) #[true, true, true, true, true, true, true, true, true, true, true, true, true, true, true, false, false, false] rfl rfl (by kernel_rfl) (by decide) (fun K hK => ?_)
        refine goes_ Try.func99 (by kernel_rfl) rfl #[.pointer lu, .slice A n c] (by rfl) rfl rfl (by first | rfl | (simp only [List.map_toArray, List.map_cons, List.map_nil]; rfl)) ?_
        with_reducible refine (ihl lu lo m base _ out _ ?side0 ?side1 ?side2 ?side3 ?side4).mono ?_
        (case side0 => exact IsN.keep hL.out (fun k _ hk _ => HB1.out.block k (Nat.lt_of_lt_of_le hk (Nat.le_trans hmg.out.1 hib.out))))
        (case side1 => exact Nat.le_trans hmg.out.1 hib.out)
        (case side2 => exact Kd.R_mono n1_.out (fun _ _ => trivial))
        (case side3 => exact (by have := hlen.out; have := HN.out; simp only [Tr.sz] at *; omega))
        (case side4 => exact Nat.le_trans hbs.out HG.out.size)
        rintro e w2 ⟨v17, rfl, h17, hg17, ha17⟩
        refine ⟨_, rfl, ?_⟩
        have n3_ := Aside0.mk (Kd.R_after (ok := fun _ => True) (Kd.R_mono n2_.out (fun _ hk => ⟨trivial, hk.2⟩)) hg17 ha17.raw)
        have HG2 := Aside0.mk (grown_then HG.out hg17 (Or.inl rfl))
        have HA := Aside0.mk (ha17.older HG.out.size)
        have HO : Aside0 (Kd.R k33 33 w2 base (fun k_ => some k_ ≠ (v22 : Value).ownBlock) v17 (out ++ l.items)) := ⟨R33_ok h17 (fun k hk he => (n3_.out.1 k he.symm).2 hk.symm)⟩
        clear h17 hg17 ha17
        have HB2 : Aside0 (Below base w w2) := ⟨pw_below_grown (Below.refl _ _) _ hbs.out HG2.out (Kd.R_base HV.out)⟩
        refine hK.out _ _ HB2.out (fun hHeld => ?_)
        clear hK K
        refine norm_ (a' := ?_) ?_ ?_
        rotate_left
        · show Act.put _ (some 17) _ = _
          simp only [Act.put, List.setIfInBounds_toArray, List.set_cons_zero, List.set_cons_succ, i64_w, i32_w]
          rfl
        exact norm_ (by simp only [putAll, Act.put, List.setIfInBounds_toArray, List.set_cons_zero, List.set_cons_succ]) (hCont (v17, v22) _ ⟨hHeld, HO.out, Kd.R_mono n3_.out (fun _ hk => hk.2), HG2.out, HA.out⟩)
    rintro ⟨v17, v22⟩ w2 ⟨hS_, h0_, h1_, h2_, h3_⟩
    have hHeld : Below base w w2 := hS_
    have HO := Aside0.mk h0_
    have HL := Aside0.mk h1_
    have HG := Aside0.mk h2_
    have HA := Aside0.mk h3_
    clear h0_ h1_ h2_ h3_ hS_
    obtain ⟨A2, c2, e2⟩ := Kd.R_slice HL.out
    subst e2
    refine norm_ (a' := ?_) ?_ ?_
    rotate_left
    · simp only [putAll, Act.put, List.setIfInBounds_toArray, List.set_cons_zero, List.set_cons_succ]
      rfl
    refine one_ (i := 15) (N := (some 23)) #[true, true, true, true, true, true, true, true, true, true, true, true, true, true, true, true, false, false] rfl rfl (by kernel_rfl) (by decide) (fun K hK => ?_)
    refine Kd.R_append_rows_step k33 base (by rfl) (.tmp 17) (.tmp 22) 24 33 (.agg #[(.int .i64 0), (.int .i64 0), (.int .i64 0)]) 24 rfl Try.underlying24 info33t rfl (by decide) (by omega) v17 (out ++ l.items) [x] _ _ _ (fun k_ => some k_ ≠ (.slice A2 [x].length c2 : Value).ownBlock) (fun _ => False) rfl rfl HO.out (Kd.R_reads' HL.out).2.2 (fun _ _ h => h) (fun _ h => h.elim) (fun k_ hk => Kd.fresh' (Kd.R_lt HL.out) k_ hk) (Below.refl _ _) (Nat.le_trans hbs.out HG.out.size) ?aL ?_
    (case aL => have := hlen.out; have := HN.out; have := Tr.items_len l; simp only [List.length_append, List.length_cons, List.length_nil]; simp only [Tr.sz] at *; omega)
    intro v23 w3 ho hb hg hat
    have HG3 := Aside0.mk (grown_then HG.out hg HA.out)
    have HA3 := Aside0.mk (hat_then HA.out hat HG.out.size)
    have HO3 := Aside0.mk (Kd.R_mono (ok' := fun _ => True) ho (fun _ _ => trivial))
    have HB3 : Aside0 (Below base w w3) := ⟨pw_below_grown (Below.refl _ _) _ hbs.out HG3.out (Kd.R_base HV.out)⟩
    clear ho hb hg hat
    refine hK.out _ _ HB3.out (fun hHeld => ?_)
    clear hK K
    refine norm_ (a' := ?_) ?_ ?_
    rotate_left
    · show Act.put _ (some 23) _ = _
      simp only [Act.put, List.setIfInBounds_toArray, List.set_cons_zero, List.set_cons_succ, i64_w, i32_w]
      rfl
    refine one_ (i := 16) (N := (some 24)) #[true, true, true, true, true, true, true, true, true, true, true, true, true, true, true, true, true, false] rfl rfl (by kernel_rfl) (by decide) (fun K hK => ?_)
    refine goes_ Try.func99 (by kernel_rfl) rfl #[.pointer ru, v23] (by rfl) rfl rfl (by first | rfl | (simp only [List.map_toArray, List.map_cons, List.map_nil]; rfl)) ?_
    with_reducible refine (ihr ru m g base _ (out ++ l.items ++ [x]) _ ?side0 ?side1 ?side2 ?side3 ?side4).mono ?_
    (case side0 => exact IsN.keep hR.out (fun k _ hk _ => HB3.out.block k (Nat.lt_trans hk hgb)))
    (case side1 => exact Nat.le_of_lt hgb)
    (case side2 => exact HO3.out)
    (case side3 => exact (by have := hlen.out; have := HN.out; have := Tr.items_len l; simp only [List.length_append, List.length_cons, List.length_nil]; simp only [Tr.sz] at *; omega))
    (case side4 => exact Nat.le_trans hbs.out HG3.out.size)
    rintro e w4 ⟨v24, rfl, h24, hg24, ha24⟩
    refine ⟨_, rfl, ?_⟩
    have HG4 := Aside0.mk (grown_then HG3.out hg24 HA3.out)
    have HA4 := Aside0.mk (hat_then HA3.out ha24.raw HG3.out.size)
    have HO4 := Aside0.mk h24
    have HB4 : Aside0 (Below base w w4) := ⟨pw_below_grown (Below.refl _ _) _ hbs.out HG4.out (Kd.R_base HV.out)⟩
    clear h24 hg24 ha24
    refine hK.out _ _ HB4.out (fun hHeld => ?_)
    clear hK K
    refine norm_ (a' := ?_) ?_ ?_
    rotate_left
    · show Act.put _ (some 24) _ = _
      simp only [Act.put, List.setIfInBounds_toArray, List.set_cons_zero, List.set_cons_succ, i64_w, i32_w]
      rfl
    refine pure_ (i := 17) (N := (some 4)) (v := ?_) (a' := ?_) #[true, true, true, true, true, true, true, true, true, true, true, true, true, true, true, true, true, true] rfl rfl (by kernel_rfl) (fun _ _ _ h => h) (Or.inl ⟨by rfl, ?_⟩) ?_ ?_
    rotate_left
    · intro w'
      go_simp
      with_reducible rfl
    rotate_left
    · simp only [Act.put, List.setIfInBounds_toArray, List.set_cons_zero, List.set_cons_succ, i64_w, i32_w]
      rfl
    refine done_ (by kernel_rfl) ?_
    go_wp2
    go_ret
    exact ⟨_, rfl, by have := HO4.out; simpa [Tr.items] using this, HG4.out, HA4.out⟩
theorem drawn_drew {w w1 : World} (h : Drawn0 w.drew w1) : Drawn0 w w1 := by obtain ⟨⟨q, rfl⟩⟩ := h; exact Drawn0.step (⟨⟨1, rfl⟩⟩ : Drawn0 w w.drew) q
theorem drawn_trans {w w1 w2 : World} (h : Drawn0 w w1) (k : Drawn0 w1 w2) : Drawn0 w w2 := by obtain ⟨⟨q, rfl⟩⟩ := k; exact h.step q
set_option maxHeartbeats 1000000 in
set_option maxRecDepth 100000 in
theorem tell_calls (g lo m hi lo2 : Nat) (x : S33) (lu ru : Option Addr) (l r : Tr) (hv : Int) (w : World) (hblk : w.heap[g]? = some (.cells #[.int .i64 x.f0, .int .i64 x.f1, .int .i64 x.f2, .pointer lu, .pointer ru, .int .i64 hv] 133 (0, 0)))
    (hL : IsN w lo m lu l) (hR : IsN w lo2 hi ru r) (hlen : l.sz + r.sz ≤ 1000) :
    Calls Try.prog 147 #[.pointer (some ⟨g, 0, none⟩)] w fun e w' => e = .returned (.tuple #[]) ∧ ∃ q, w' = (w.drewN q).setCell ⟨g, 5, none⟩ (.int .i64 ((1 + max l.ht r.ht : Nat) : Int)) := by
  have hl := Tr.ht_le l
  have hr := Tr.ht_le r
  have hL := Aside0.mk hL
  have hR := Aside0.mk hR
  have hw : wrap64 (1 + (if (l.ht : Int) < (r.ht : Int) then (r.ht : Int) else (l.ht : Int))) = ((1 + max l.ht r.ht : Nat) : Int) := by
    unfold wrap64
    split <;> omega
  go_enter Try.func147, Try.ntmps147
  refine start_ (n := 16) (S := fun w' => Drawn0 w w') (ds := [15]) #[false, false, false, false, false, false, false, false, false, false, false, false, false, false, false, false] (by kernel_rfl) rfl rfl ⟨⟨1, rfl⟩⟩ (fun hHeld => ?_)
  refine pure_ (i := 0) (N := (some 2)) (v := ?_) (a' := ?_) #[true, false, false, false, false, false, false, false, false, false, false, false, false, false, false, false] rfl rfl (by kernel_rfl) (fun _ _ _ h => h) (Or.inl ⟨by rfl, ?_⟩) ?_ ?_
  rotate_left
  · intro w'
    go_simp
    with_reducible rfl
  rotate_left
  · simp only [Act.put, List.setIfInBounds_toArray, List.set_cons_zero, List.set_cons_succ, i64_w, i32_w]
    rfl
  refine pure_ (i := 1) (N := (some 3)) (v := ?_) (a' := ?_) #[true, true, false, false, false, false, false, false, false, false, false, false, false, false, false, false] rfl rfl (by kernel_rfl) (fun _ _ _ h => h) (Or.inl ⟨by rfl, ?_⟩) ?_ ?_
  rotate_left
  · intro w'
    go_simp
    with_reducible rfl
  rotate_left
  · simp only [Act.put, List.setIfInBounds_toArray, List.set_cons_zero, List.set_cons_succ, i64_w, i32_w]
    rfl
  refine pure_ (i := 2) (N := (some 4)) (v := ?_) (a' := ?_) #[true, true, true, false, false, false, false, false, false, false, false, false, false, false, false, false] rfl rfl (by kernel_rfl) (fun _ _ _ h => h) (Or.inl ⟨by rfl, ?_⟩) ?_ ?_
  rotate_left
  · intro w'
    go_simp
    with_reducible rfl
  rotate_left
  · simp only [Act.put, List.setIfInBounds_toArray, List.set_cons_zero, List.set_cons_succ, i64_w, i32_w]
    rfl
  refine pure_ (i := 3) (N := (some 5)) (v := ?_) (a' := ?_) #[true, true, true, true, false, false, false, false, false, false, false, false, false, false, false, false] rfl rfl (by kernel_rfl) (fun _ _ _ h => h) (Or.inl ⟨by rfl, ?_⟩) ?_ ?_
  rotate_left
  · intro w'
    go_simp
    with_reducible rfl
  rotate_left
  · simp only [Act.put, List.setIfInBounds_toArray, List.set_cons_zero, List.set_cons_succ, i64_w, i32_w]
    rfl
  refine take_ (i := 4) (N := (some 6)) (v := ?_) (a' := ?_) #[true, true, true, true, true, false, false, false, false, false, false, false, false, false, false, false] rfl rfl (by kernel_rfl) (fun _ _ _ h => h) (Or.inl ⟨by rfl, ?_⟩) hHeld ?_ ?_
  rotate_left
  · intro w' sb_
    obtain ⟨⟨n_, rfl⟩⟩ := sb_
    have s0_ : (w.drewN n_).cell? ⟨g, 3, none⟩ = some (.pointer lu) := (blk_cell hblk 3).trans rfl
    go_simp
    with_reducible rfl
  rotate_left
  · simp only [Act.put, List.setIfInBounds_toArray, List.set_cons_zero, List.set_cons_succ, i64_w, i32_w]
    rfl
  refine pure_ (i := 6) (N := (some 8)) (v := ?_) (a' := ?_) #[true, true, true, true, true, false, true, false, false, false, false, false, false, false, false, false] rfl rfl (by kernel_rfl) (fun _ _ _ h => h) (Or.inl ⟨by rfl, ?_⟩) ?_ ?_
  rotate_left
  · intro w'
    go_simp
    with_reducible rfl
  rotate_left
  · simp only [Act.put, List.setIfInBounds_toArray, List.set_cons_zero, List.set_cons_succ, i64_w, i32_w]
    rfl
  refine pure_ (i := 7) (N := (some 9)) (v := ?_) (a' := ?_) #[true, true, true, true, true, false, true, true, false, false, false, false, false, false, false, false] rfl rfl (by kernel_rfl) (fun _ _ _ h => h) (Or.inl ⟨by rfl, ?_⟩) ?_ ?_
  rotate_left
  · intro w'
    go_simp
    with_reducible rfl
  rotate_left
  · simp only [Act.put, List.setIfInBounds_toArray, List.set_cons_zero, List.set_cons_succ, i64_w, i32_w]
    rfl
  refine pure_ (i := 8) (N := (some 10)) (v := ?_) (a' := ?_) #[true, true, true, true, true, false, true, true, true, false, false, false, false, false, false, false] rfl rfl (by kernel_rfl) (fun _ _ _ h => h) (Or.inl ⟨by rfl, ?_⟩) ?_ ?_
  rotate_left
  · intro w'
    go_simp
    with_reducible rfl
  rotate_left
  · simp only [Act.put, List.setIfInBounds_toArray, List.set_cons_zero, List.set_cons_succ, i64_w, i32_w]
    rfl
  refine take_ (i := 9) (N := (some 11)) (v := ?_) (a' := ?_) #[true, true, true, true, true, false, true, true, true, true, false, false, false, false, false, false] rfl rfl (by kernel_rfl) (fun _ _ _ h => h) (Or.inl ⟨by rfl, ?_⟩) hHeld ?_ ?_
  rotate_left
  · intro w' sb_
    obtain ⟨⟨n_, rfl⟩⟩ := sb_
    have s0_ : (w.drewN n_).cell? ⟨g, 4, none⟩ = some (.pointer ru) := (blk_cell hblk 4).trans rfl
    go_simp
    with_reducible rfl
  rotate_left
  · simp only [Act.put, List.setIfInBounds_toArray, List.set_cons_zero, List.set_cons_succ, i64_w, i32_w]
    rfl
  refine one_ (i := 5) (N := (some 7)) #[true, true, true, true, true, true, true, true, true, true, false, false, false, false, false, false] rfl rfl (by kernel_rfl) (by decide) (fun K hK => ?_)
  refine goes_ Try.func98 (by kernel_rfl) rfl #[.pointer lu] (by rfl) rfl rfl (by first | rfl | (simp only [List.map_toArray, List.map_cons, List.map_nil]; rfl)) ?_
  with_reducible refine (height_calls lu l lo m _ ?side0).mono ?_
  (case side0 => exact hL.out.drewN 1)
  rintro e w1 ⟨rfl, hd⟩
  refine ⟨_, rfl, ?_⟩
  have HD1 : Drawn0 w w1 := drawn_drew hd
  clear hd
  refine hK.out _ _ HD1 (fun hHeld => ?_)
  clear hK K
  refine norm_ (a' := ?_) ?_ ?_
  rotate_left
  · show Act.put _ (some 7) _ = _
    simp only [Act.put, List.setIfInBounds_toArray, List.set_cons_zero, List.set_cons_succ, i64_w, i32_w]
    rfl
  refine one_ (i := 10) (N := (some 12)) #[true, true, true, true, true, true, true, true, true, true, true, false, false, false, false, false] rfl rfl (by kernel_rfl) (by decide) (fun K hK => ?_)
  refine goes_ Try.func98 (by kernel_rfl) rfl #[.pointer ru] (by rfl) rfl rfl (by first | rfl | (simp only [List.map_toArray, List.map_cons, List.map_nil]; rfl)) ?_
  with_reducible refine (height_calls ru r lo2 hi _ ?side0).mono ?_
  (case side0 => obtain ⟨⟨q, rfl⟩⟩ := HD1; exact hR.out.drewN q)
  rintro e w2 ⟨rfl, hd⟩
  refine ⟨_, rfl, ?_⟩
  have HD2 : Drawn0 w w2 := drawn_trans HD1 hd
  clear hd HD1
  refine hK.out _ _ HD2 (fun hHeld => ?_)
  clear hK K
  refine norm_ (a' := ?_) ?_ ?_
  rotate_left
  · show Act.put _ (some 12) _ = _
    simp only [Act.put, List.setIfInBounds_toArray, List.set_cons_zero, List.set_cons_succ, i64_w, i32_w]
    rfl
  refine pure_ (i := 11) (N := (some 13)) (v := ?_) (a' := ?_) #[true, true, true, true, true, true, true, true, true, true, true, true, false, false, false, false] rfl rfl (by kernel_rfl) (fun _ _ _ h => h) (Or.inl ⟨by rfl, ?_⟩) ?_ ?_
  rotate_left
  · intro w'
    go_simp
    with_reducible rfl
  rotate_left
  · simp only [Act.put, List.setIfInBounds_toArray, List.set_cons_zero, List.set_cons_succ, i64_w, i32_w]
    rfl
  refine pure_ (i := 12) (N := (some 14)) (v := ?_) (a' := ?_) #[true, true, true, true, true, true, true, true, true, true, true, true, true, false, false, false] rfl rfl (by kernel_rfl) (fun _ _ _ h => h) (Or.inl ⟨by rfl, ?_⟩) ?_ ?_
  rotate_left
  · intro w'
    go_simp
    with_reducible rfl
  rotate_left
  · simp only [Act.put, List.setIfInBounds_toArray, List.set_cons_zero, List.set_cons_succ, i64_w, i32_w]
    rfl
  refine pure_ (i := 13) (N := (some 15)) (v := ?_) (a' := ?_) #[true, true, true, true, true, true, true, true, true, true, true, true, true, true, false, false] rfl rfl (by kernel_rfl) (fun _ _ _ h => h) (Or.inl ⟨by rfl, ?_⟩) ?_ ?_
  rotate_left
  · intro w'
    go_simp
    with_reducible rfl
  rotate_left
  · simp only [Act.put, List.setIfInBounds_toArray, List.set_cons_zero, List.set_cons_succ, i64_w, i32_w]
    rfl
  refine pure_ (i := 14) (N := (some 16)) (v := ?_) (a' := ?_) #[true, true, true, true, true, true, true, true, true, true, true, true, true, true, true, false] rfl rfl (by kernel_rfl) (fun _ _ _ h => h) (Or.inl ⟨by rfl, ?_⟩) ?_ ?_
  rotate_left
  · intro w'
    go_simp
    with_reducible rfl
  rotate_left
  · simp only [Act.put, List.setIfInBounds_toArray, List.set_cons_zero, List.set_cons_succ, i64_w, i32_w]
    rfl
  refine last_ (i := 15) (N := none) #[true, true, true, true, true, true, true, true, true, true, true, true, true, true, true, true] rfl rfl (by kernel_rfl) (by decide) (fun K hK => ?_)
  obtain ⟨⟨q, rfl⟩⟩ := HD2
  clear hHeld
  have hc : (w.drewN q).cell? ⟨g, 5, none⟩ = some (.int .i64 hv) := (blk_cell hblk 5).trans rfl
  have hf : (w.drewN q).frozen? ⟨g, 5, none⟩ = false := blk_frozen (blk_drewN hblk q) 5
  refine skip_ (w1 := ?_) (by rfl) rfl ?_ ?_
  rotate_left
  · go_simp
    rfl
  refine hK.out _ _ ?_
  clear hK K
  refine done_ (by kernel_rfl) ?_
  clear hc hf
  go_end0
  refine ⟨rfl, q, ?_⟩
  simp [wrap64]
  congr 2
  first | omega | (split <;> omega)
theorem height_q (u : Option Addr) (t : Tr) (lo hi : Nat) (w : World) (h : IsN w lo hi u t) : Calls Try.prog 98 #[.pointer u] w fun e w' => e = .returned (.int .i64 (t.ht : Nat)) ∧ ∃ m, w' = w.drewN m :=
  (height_calls u t lo hi w h).mono fun _ _ h_ => ⟨h_.1, h_.2.out⟩
theorem in_q (a b c : Int) (r : Bool) (w : World) (h : impl_in.f a b c = some r) : Calls Try.prog 69 #[.int .i64 a, .int .i64 b, .int .i64 c] w fun e w' => e = .returned (.bool r) ∧ ∃ m, w' = w.drewN m :=
  (impl_in.calls a b c r w h).mono fun _ _ h_ => ⟨h_.1, h_.2.out⟩
set_option maxHeartbeats 1000000 in
set_option maxRecDepth 100000 in
theorem isFlat_calls (t : Tr) : ∀ (u : Option Addr) (lo hi : Nat) (w : World) (h : IsN w lo hi u t) (hlen : t.sz ≤ 1000),
    Calls Try.prog 129 #[.pointer u] w fun e w' => e = .returned (.bool t.flat) ∧ ∃ n, w' = w.drewN n := by
  induction t with
  | nil =>
    intro u lo hi w h hlen
    obtain ⟨rfl, _⟩ := h
    go_enter Try.func129, Try.ntmps129
    go_wp2
    go_quiet (fail)
    go_wp2
    go_ret
    exact ⟨rfl, _, rfl⟩
  | node x l r ihl ihr =>
    intro u lo hi w h hlen
    obtain ⟨g, m, lu, ru, rfl, hgh, hblk, hL, hR⟩ := h
    have hl := Tr.ht_le l
    have hr := Tr.ht_le r
    have hs0 : l.sz ≤ 1000 := by simp only [Tr.sz] at hlen; omega
    have hs1 : r.sz ≤ 1000 := by simp only [Tr.sz] at hlen; omega
    have hx3 := blk_cell hblk 3
    have hx4 := blk_cell hblk 4
    simp only [List.getElem?_toArray, List.getElem?_cons_zero, List.getElem?_cons_succ] at hx3 hx4
    have hw : wrap64 ((l.ht : Int) - r.ht) = (l.ht : Int) - r.ht := by unfold wrap64; simp only [Tr.sz] at hlen; omega
    have hin : impl_in.f (IntKind.i64.wrap ((l.ht : Int) - r.ht)) (-1) 1 = some (decide (-1 ≤ (l.ht : Int) - r.ht ∧ (l.ht : Int) - r.ht ≤ 1)) := by
      rw [i64_w, hw]
      unfold impl_in.f
      by_cases h1 : -1 ≤ (l.ht : Int) - r.ht <;> simp [h1]
    have hL := Aside0.mk hL
    have hR := Aside0.mk hR
    have HIL := Aside0.mk (fun w h => ihl lu lo m w h hs0)
    have HIR := Aside0.mk (fun w h => ihr ru m g w h hs1)
    simp only [Tr.flat]
    generalize decide (-1 ≤ (l.ht : Int) - r.ht ∧ (l.ht : Int) - r.ht ≤ 1) = b at hin ⊢
    have HIN := Aside0.mk hin
    clear hw hblk hin ihl ihr hs0 hs1 hl hr hlen
    cases b with
    | false =>
      go_enter Try.func129, Try.ntmps129
      go_wp2
      go_quiet (first
      | (go_at_call_of 98 lu; refine Calls.quiet_of (height_q lu l lo m _ ?_); exact hL.out.drewN _)
      | (go_at_call_of 98 ru; refine Calls.quiet_of (height_q ru r m g _ ?_); exact hR.out.drewN _)
      | (go_at_call 69; refine Calls.quiet_of (in_q _ _ _ false _ HIN.out))
      | (go_at_call_of 129 lu; refine Calls.quiet_of (HIL.out _ ?_); exact hL.out.drewN _)
      | (go_at_call_of 129 ru; refine Calls.quiet_of (HIR.out _ ?_); exact hR.out.drewN _))
      go_wp2
      go_ret
      exact ⟨rfl, _, rfl⟩
    | true =>
      cases hf : l.flat with
      | false =>
        rw [hf] at HIL
        go_enter Try.func129, Try.ntmps129
        go_wp2
        go_quiet (first
      | (go_at_call_of 98 lu; refine Calls.quiet_of (height_q lu l lo m _ ?_); exact hL.out.drewN _)
      | (go_at_call_of 98 ru; refine Calls.quiet_of (height_q ru r m g _ ?_); exact hR.out.drewN _)
      | (go_at_call 69; refine Calls.quiet_of (in_q _ _ _ true _ HIN.out))
      | (go_at_call_of 129 lu; refine Calls.quiet_of (HIL.out _ ?_); exact hL.out.drewN _)
      | (go_at_call_of 129 ru; refine Calls.quiet_of (HIR.out _ ?_); exact hR.out.drewN _))
        go_wp2
        go_ret
        exact ⟨rfl, _, rfl⟩
      | true =>
        rw [hf] at HIL
        go_enter Try.func129, Try.ntmps129
        go_wp2
        go_quiet (first
      | (go_at_call_of 98 lu; refine Calls.quiet_of (height_q lu l lo m _ ?_); exact hL.out.drewN _)
      | (go_at_call_of 98 ru; refine Calls.quiet_of (height_q ru r m g _ ?_); exact hR.out.drewN _)
      | (go_at_call 69; refine Calls.quiet_of (in_q _ _ _ true _ HIN.out))
      | (go_at_call_of 129 lu; refine Calls.quiet_of (HIL.out _ ?_); exact hL.out.drewN _)
      | (go_at_call_of 129 ru; refine Calls.quiet_of (HIR.out _ ?_); exact hR.out.drewN _))
        go_wp2
        go_ret
        exact ⟨rfl, _, rfl⟩
theorem drewN_size (w : World) (n : Nat) : (w.drewN n).heap.size = w.heap.size := rfl
theorem fin_node {w w1 w2 w3 : World} {u1 u2 : Option Addr} {t1 t2 : Tr} {x : S33} {gb : Nat} (hB : Below w.heap.size w w2) (hz1 : w.heap.size ≤ w1.heap.size) (hz2 : w1.heap.size ≤ w2.heap.size) (h1 : IsN w2 w.heap.size w1.heap.size u1 t1) (h2 : IsN w2 w1.heap.size w2.heap.size u2 t2) (hg : gb = w2.heap.size)
    (bk : w3.heap[gb]? = some (.cells #[.int .i64 x.f0, .int .i64 x.f1, .int .i64 x.f2, .pointer u1, .pointer u2, .int .i64 0] 133 (0, 0))) (hb3 : Below w2.heap.size w2 w3) (q : Nat) :
    IsN ((w3.drewN q).setCell ⟨gb, 5, none⟩ (.int .i64 (1 + ((max t1.ht t2.ht : Nat) : Int)))) w.heap.size ((w3.drewN q).setCell ⟨gb, 5, none⟩ (.int .i64 (1 + ((max t1.ht t2.ht : Nat) : Int)))).heap.size (some ⟨gb, 0, none⟩) (.node x t1 t2) ∧
      Below w.heap.size w ((w3.drewN q).setCell ⟨gb, 5, none⟩ (.int .i64 (1 + ((max t1.ht t2.ht : Nat) : Int)))) := by
  have hk : KeepBut w3 ((w3.drewN q).setCell ⟨gb, 5, none⟩ (.int .i64 (1 + ((max t1.ht t2.ht : Nat) : Int)))) gb none := KeepBut.set_ (keep_drewN (KeepBut.refl _ _ _) q) 5 _
  have hlt := blk_lt bk
  have hs := hk.1
  have hs3 := hb3.size
  have same : ∀ k, k < w2.heap.size → ((w3.drewN q).setCell ⟨gb, 5, none⟩ (.int .i64 (1 + ((max t1.ht t2.ht : Nat) : Int)))).heap[k]? = w2.heap[k]? := fun k hk2 =>
    (hk.2 k (by omega) (by omega) (by simp)).trans (hb3.block k hk2)
  refine ⟨⟨gb, w1.heap.size, u1, u2, rfl, by omega, ?_, h1.keep (fun k _ hk2 _ => same k (by omega)), by rw [hg]; exact h2.keep (fun k _ hk2 _ => by rw [← hg]; exact same k (by omega))⟩, ?_⟩
  · refine (blk_put (blk_drewN bk q) 5 _ ?_)
    simp [Tr.ht]
  · exact below_set (pw_below_drewN (below_step hB hb3) q) (by omega)
set_option maxHeartbeats 2000000 in
set_option maxRecDepth 100000 in
theorem treeRead_calls (k : Nat) : ∀ (A : Option Addr) (c : Nat) (l : List S156) (w : World) (hk : l.length ≤ k) (hm : l.length ≤ 1000) (hr : Kd.C k156 w A l.length l) (hc : l.length ≤ c),
    Calls Try.prog 127 #[.slice A l.length c] w fun e w' => ∃ u, e = .returned (.tuple #[.pointer u, .bool (trd k l).2]) ∧ IsN w' w.heap.size w'.heap.size u (trd k l).1 ∧ Below w.heap.size w w' := by
  have empty : ∀ (A : Option Addr) (c j : Nat) (w : World), Calls Try.prog 127 #[.slice A 0 c] w fun e w' => ∃ u, e = .returned (.tuple #[.pointer u, .bool (trd j []).2]) ∧ IsN w' w.heap.size w'.heap.size u (trd j []).1 ∧ Below w.heap.size w w' := by
    intro A c j w
    have e1 : trd j [] = (.nil, true) := by cases j <;> rfl
    rw [e1]
    go_enter Try.func127, Try.ntmps127
    go_wp2
    go_ret2
    exact ⟨_, rfl, ⟨rfl, Nat.le_refl _⟩, Below.refl _ _⟩
  induction k with
  | zero =>
    intro A c l w hk hm hr hc
    obtain rfl : l = [] := List.length_eq_zero_iff.1 (by omega)
    exact empty A c 0 w
  | succ k ih =>
    intro A c l w hk hm hr hc
    cases l with
    | nil => exact empty A c (k + 1) w
    | cons x l =>
    clear empty
    have hu62 := Try.underlying62
    have hlen : ((x :: l).length : Int) = (l.length : Int) + 1 := by simp
    have hlm : l.length ≤ 999 := by simp at hm; omega
    obtain ⟨ad, e, hx0, hx1, hx2, hx3⟩ := at_T156 hr 0 (by omega) (by omega)
    cases e
    have e0 : rd_T156 (x :: l) 0 = x := rfl
    rw [show ((0 : Int)).toNat = 0 from rfl, show 0 * 4 = 0 from rfl, Addr.add_zero', e0] at hx0 hx1 hx2 hx3
    have hz : ((((x :: l).length : Int)) == 0) = false := beq_eq_false_iff_ne.2 (by omega)
    have hp : (0 : Int) < ((x :: l).length : Int) := by omega
    have hq : (0 < (x :: l).length) = True := eq_true (by simp)
    have hwl : wrap64 (((x :: l).length : Int) - 1) = (l.length : Int) := by rw [hlen]; unfold wrap64; omega
    have hin : impl_in.f x.f1 0 (wrap64 (((x :: l).length : Int) - 1)) = some (decide (0 ≤ x.f1 ∧ x.f1 ≤ l.length)) := by
      rw [hwl]
      unfold impl_in.f
      by_cases h1 : (0 : Int) ≤ x.f1 <;> simp [h1]
    rw [trd]
    have HIN := Aside0.mk hin
    clear hin e0 hwl
    by_cases cc : 0 ≤ x.f1 ∧ x.f1 ≤ l.length
    · rw [if_pos cc]
      rw [decide_eq_true cc] at HIN
      obtain ⟨n, hn⟩ : ∃ n : Nat, x.f1 = n := ⟨x.f1.toNat, by omega⟩
      have hnl : n ≤ l.length := by omega
      rw [hn] at hx3 HIN ⊢
      rw [Int.toNat_natCast]
      have hwe : wrap64 (1 + (n : Int)) = ((n + 1 : Nat) : Int) := by unfold wrap64; omega
      obtain ⟨i0, hi0, _, hsz, _⟩ := info_parts info156t
      have hcut1 := cut_mid (P := Try.prog) 62 156 .i64 .i64 Try.underlying62 hi0 4 hsz (some ad) (x :: l).length c 1 ((n + 1 : Nat) : Int) (by omega) (by omega) (by simp; omega) hc
      have hcut2 := cut_from (P := Try.prog) 62 156 .i64 Try.underlying62 hi0 4 hsz (some ad) (x :: l).length c ((n + 1 : Nat) : Int) (by omega) (by simp; omega)
      have hr1 := Kd.C_mid (lo := (1 : Int).toNat) (hi := (((n + 1 : Nat) : Int)).toNat) (c := c) hr (by omega) (by simp; omega) hc
      have hr2 := Kd.C_drop (m := (((n + 1 : Nat) : Int)).toNat) (c := c) hr (by simp; omega) hc
      simp only [Int.toNat_natCast, show (1 : Int).toNat = 1 from rfl, List.take_succ_cons, List.drop_succ_cons, List.drop_zero, Nat.add_sub_cancel] at hcut1 hcut2 hr1 hr2
      obtain ⟨A1, hA1⟩ : ∃ A1, A1 = (if c = 1 then (some ad) else ((some ad) : Option Addr).map (·.add (1 * 4))) := ⟨_, rfl⟩
      obtain ⟨A2, hA2⟩ : ∃ A1, A1 = (if c = n + 1 then (some ad) else ((some ad) : Option Addr).map (·.add ((n + 1) * 4))) := ⟨_, rfl⟩
      obtain ⟨c1, hc1⟩ : ∃ c1, c1 = c - 1 := ⟨_, rfl⟩
      obtain ⟨c2, hc2⟩ : ∃ c1, c1 = c - (n + 1) := ⟨_, rfl⟩
      obtain ⟨y1, hy1⟩ : ∃ y, y = l.take n := ⟨_, rfl⟩
      obtain ⟨y2, hy2⟩ : ∃ y, y = l.drop n := ⟨_, rfl⟩
      have l1 : y1.length = n := by rw [hy1, List.length_take]; omega
      have l2 : y2.length = (x :: l).length - (n + 1) := by rw [hy2, List.length_drop]; simp
      rw [← hA1, ← hc1] at hcut1
      rw [← hA2, ← hc2, ← l2] at hcut2
      replace hcut2 : ∀ W : World, (Instr.slice 62 (.slice (some ad) (x :: l).length c) (some (.int .i64 (wrap64 (1 + (n : Int))))) none none).run Try.prog W = .ok (.slice A2 y2.length c2) W := by rw [hwe]; exact hcut2
      replace hcut1 : ∀ W : World, (Instr.slice 62 (.slice (some ad) (x :: l).length c) (some (.int .i64 1)) (some (.int .i64 (wrap64 (1 + (n : Int))))) none).run Try.prog W = .ok (.slice A1 y1.length c1) W := by rw [l1, hwe]; exact hcut1
      have C1 : Kd.C k156 w A1 y1.length y1 := by rw [hA1, l1, hy1]; have h_ := hr1; simpa [show k156.sz = 4 from rfl, Nat.min_eq_left hnl] using h_
      have C2 : Kd.C k156 w A2 y2.length y2 := by rw [hA2, l2, hy2]; have h_ := hr2; simpa [show k156.sz = 4 from rfl] using h_
      have s1 := trd_sz k y1
      have s2 := trd_sz k y2
      rw [← hy1, ← hy2]
      have b1 : y1.length ≤ c1 := by rw [l1, hc1]; simp at hc; omega
      have b2 : y2.length ≤ c2 := by rw [l2, hc2]; omega
      have k1 : y1.length ≤ k := by simp at hk; omega
      have k2 : y2.length ≤ k := by simp at hk l2; omega
      have m1 : y1.length ≤ 1000 := by omega
      have m2 : y2.length ≤ 1000 := by simp at l2; omega
      have hs12 : (trd k y1).1.sz + (trd k y2).1.sz ≤ 1000 := by simp at l2; omega
      have IH1 := Aside0.mk (fun W h => ih A1 c1 y1 W k1 m1 h b1)
      have IH2 := Aside0.mk (fun W h => ih A2 c2 y2 W k2 m2 h b2)
      have C1 := Aside0.mk C1
      have C2 := Aside0.mk C2
      have S12 := Aside0.mk hs12
      generalize (x :: l).length = M at *
      clear hwe ih hr hk hm hc hr1 hr2 hA1 hA2 hc1 hc2 hy1 hy2 l1 l2 k1 k2 m1 m2 b1 b2 hi0 hsz hlm hnl cc hn hu62 s1 s2 hs12 hlen
      generalize trd k y1 = t1 at IH1 S12 ⊢
      generalize trd k y2 = t2 at IH2 S12 ⊢
      obtain ⟨t1, o1⟩ := t1
      obtain ⟨t2, o2⟩ := t2
      simp only at S12
      cases o1 with
      | false =>
        go_enter Try.func127, Try.ntmps127
        go_wp2_with (first
          | (go_at_call 69; with_reducible refine (impl_in.calls _ _ _ _ _ HIN.out).mono ?_; rintro e w' ⟨rfl, ⟨nd, rfl⟩⟩)
          | (go_at_call_of 127 y1; with_reducible refine (IH1.out _ ?side0).mono ?_; (case side0 => exact Kd.C_drewN C1.out _); rintro e w1 ⟨u1, rfl, hn1, hb1⟩; rw [drewN_size] at hn1; have HN1 := Aside0.mk (hn1); have HB1 : Aside0 (Below w.heap.size w w1) := ⟨below_step (pw_below_drewN (Below.refl _ _) _) hb1⟩; have HZ1 : Aside0 (w.heap.size ≤ w1.heap.size) := ⟨HB1.out.size⟩; clear hn1 hb1)
          | (go_at_call_of 127 y2; with_reducible refine (IH2.out _ ?side0).mono ?_; (case side0 => exact Kd.C_below C2.out HB1.out); rintro e w2 ⟨u2, rfl, hn2, hb2⟩; have HN2 := Aside0.mk (hn2); have HN3 := Aside0.mk (HN1.out.below hb2); have HZ2 : Aside0 (w1.heap.size ≤ w2.heap.size) := ⟨hb2.size⟩; have HB2 : Aside0 (Below w.heap.size w w2) := ⟨below_step HB1.out hb2⟩; have hy0 := pw_cell_below HB2.out hx0; have hy1 := pw_cell_below HB2.out hx1; have hy2 := pw_cell_below HB2.out hx2; clear hn2 hb2)
          | ((with_reducible refine gate_dst (N := 48) rfl ?_); refine box_event ?hg (N := 48) ?hd (cs := #[.int .i64 x.f0.f0, .int .i64 x.f0.f1, .int .i64 x.f0.f2, .pointer u1, .pointer u2, .int .i64 0]) (t := 133) ?hr ?_; (case hd => rfl); (case hg => rfl); (case hr => first | (go_simp; done) | (go_simp; rfl)); intro gb hgb w3 hbox hb3; have BK := Aside0.mk hbox; have HB3 := Aside0.mk hb3; have HG := Aside0.mk hgb; clear hbox hb3 hgb)
          | (go_at_call 147; with_reducible refine (tell_calls gb _ _ _ _ x.f0 u1 u2 t1 t2 0 _ BK.out (HN3.out.below HB3.out) (HN2.out.below HB3.out) S12.out).mono ?_; rintro e w4 ⟨rfl, q, rfl⟩))
        go_ret2
        exact ⟨_, rfl, (fin_node HB2.out HZ1.out HZ2.out HN3.out HN2.out HG.out BK.out HB3.out q).1, (fin_node HB2.out HZ1.out HZ2.out HN3.out HN2.out HG.out BK.out HB3.out q).2⟩
      | true =>
        go_enter Try.func127, Try.ntmps127
        go_wp2_with (first
          | (go_at_call 69; with_reducible refine (impl_in.calls _ _ _ _ _ HIN.out).mono ?_; rintro e w' ⟨rfl, ⟨nd, rfl⟩⟩)
          | (go_at_call_of 127 y1; with_reducible refine (IH1.out _ ?side0).mono ?_; (case side0 => exact Kd.C_drewN C1.out _); rintro e w1 ⟨u1, rfl, hn1, hb1⟩; rw [drewN_size] at hn1; have HN1 := Aside0.mk (hn1); have HB1 : Aside0 (Below w.heap.size w w1) := ⟨below_step (pw_below_drewN (Below.refl _ _) _) hb1⟩; have HZ1 : Aside0 (w.heap.size ≤ w1.heap.size) := ⟨HB1.out.size⟩; clear hn1 hb1)
          | (go_at_call_of 127 y2; with_reducible refine (IH2.out _ ?side0).mono ?_; (case side0 => exact Kd.C_below C2.out HB1.out); rintro e w2 ⟨u2, rfl, hn2, hb2⟩; have HN2 := Aside0.mk (hn2); have HN3 := Aside0.mk (HN1.out.below hb2); have HZ2 : Aside0 (w1.heap.size ≤ w2.heap.size) := ⟨hb2.size⟩; have HB2 : Aside0 (Below w.heap.size w w2) := ⟨below_step HB1.out hb2⟩; have hy0 := pw_cell_below HB2.out hx0; have hy1 := pw_cell_below HB2.out hx1; have hy2 := pw_cell_below HB2.out hx2; clear hn2 hb2)
          | ((with_reducible refine gate_dst (N := 48) rfl ?_); refine box_event ?hg (N := 48) ?hd (cs := #[.int .i64 x.f0.f0, .int .i64 x.f0.f1, .int .i64 x.f0.f2, .pointer u1, .pointer u2, .int .i64 0]) (t := 133) ?hr ?_; (case hd => rfl); (case hg => rfl); (case hr => first | (go_simp; done) | (go_simp; rfl)); intro gb hgb w3 hbox hb3; have BK := Aside0.mk hbox; have HB3 := Aside0.mk hb3; have HG := Aside0.mk hgb; clear hbox hb3 hgb)
          | (go_at_call 147; with_reducible refine (tell_calls gb _ _ _ _ x.f0 u1 u2 t1 t2 0 _ BK.out (HN3.out.below HB3.out) (HN2.out.below HB3.out) S12.out).mono ?_; rintro e w4 ⟨rfl, q, rfl⟩))
        go_ret2
        exact ⟨_, rfl, (fin_node HB2.out HZ1.out HZ2.out HN3.out HN2.out HG.out BK.out HB3.out q).1, (fin_node HB2.out HZ1.out HZ2.out HN3.out HN2.out HG.out BK.out HB3.out q).2⟩
    · rw [if_neg cc]
      rw [decide_eq_false cc] at HIN
      generalize (x :: l).length = M at *
      clear ih hr hk hm hc hlm hlen cc
      go_enter Try.func127, Try.ntmps127
      go_wp2_with (first
        | (go_at_call 69; with_reducible refine (impl_in.calls _ _ _ _ _ HIN.out).mono ?_; rintro e w' ⟨rfl, ⟨nd, rfl⟩⟩))
      go_ret2
      exact ⟨_, rfl, ⟨rfl, Nat.le_refl _⟩, pw_below_drewN (Below.refl _ _) _⟩

def srt (c : S33 → S33 → Int) (l : List S33) : Bool := (List.range (l.length - 1)).all fun j => decide (0 ≤ c (rd_T33 l ((j + 1 : Nat) : Int)) (rd_T33 l (j : Int)))
theorem srt_no {c : S33 → S33 → Int} {l : List S33} {i j : Nat} (hi : i < l.length) (hj : i = j + 1) (h : c (rd_T33 l (i : Int)) (rd_T33 l (j : Int)) < 0) : srt c l = false := by
  subst hj
  unfold srt
  rw [List.all_eq_false]
  exact ⟨j, List.mem_range.2 (by omega), by rw [decide_eq_true_eq]; exact Int.not_le.2 h⟩
theorem srt_yes {c : S33 → S33 → Int} {l : List S33} (h : ∀ j : Nat, j + 1 < l.length → 0 ≤ c (rd_T33 l ((j + 1 : Nat) : Int)) (rd_T33 l (j : Int))) : srt c l = true := by
  unfold srt
  rw [List.all_eq_true]
  intro j hj
  exact decide_eq_true (h j (by have := List.mem_range.1 hj; omega))
theorem rd33_mem {l : List S33} {i : Nat} (h : i < l.length) : rd_T33 l (i : Int) ∈ l := by
  have : rd_T33 l (i : Int) = l[i] := by simp [rd_T33, List.getD_eq_getElem?_getD, h]
  rw [this]; exact List.getElem_mem h
set_option maxHeartbeats 4000000 in
set_option maxRecDepth 100000 in
theorem isSorted_calls (l : List S33) (c : S33 → S33 → Int) (A : Option Addr) (cap : Nat) (w : World) (hr : Kd.C k33 w A l.length l) (hlen : l.length ≤ 1000)
    (hc : ∀ x ∈ l, ∀ y ∈ l, impl_Item_order.f 100 x.f0 x.f1 x.f2 y.f0 y.f1 y.f2 = some (c x y)) :
    Calls Try.prog 128 #[.slice A l.length cap, .func (.func 59) #[] #[]] w fun e w' => e = .returned (.bool (srt c l)) ∧ Below w.heap.size w w' := by
  have hu33 := Try.underlying33
  have eg : ∀ args w, (callFunc 59 args).run Try.prog w = .ok (.enter 59 args) w := enters_of Try.func59 (by kernel_rfl) rfl
  have HR := Aside0.mk hr
  have HC := Aside0.mk hc
  have HLN := Aside0.mk hlen
  generalize hres : srt c l = res
  have HRES := Aside0.mk hres
  clear hr hc hlen hres
  go_enter Try.func128, Try.ntmps128
  go_wp2
  go_loopg [5] l.length (fun gg s5 wr => ∃ i : Int, s5 = .int .i64 i ∧ -1 ≤ i ∧ i < l.length ∧ i ≤ gg ∧ Aside0 (Below w.heap.size w wr) ∧ Aside0 (∀ j : Nat, i ≤ j → j + 1 < l.length → 0 ≤ c (rd_T33 l ((j + 1 : Nat) : Int)) (rd_T33 l (j : Int))))
  case atStart => exact ⟨(l.length : Int) - 1, by rw [show wrap64 ((l.length : Int) - 1) = (l.length : Int) - 1 from by have := HLN.out; unfold wrap64; omega], by omega, by omega, by omega, ⟨Below.refl _ _⟩, ⟨fun j h1 h2 => by omega⟩⟩
  case round =>
    obtain ⟨i, rfl, hi0, hi1, hig, HB, HS⟩ := hrel
    by_cases hlt : 0 < i
    · obtain ⟨i, rfl⟩ : ∃ n : Nat, i = n := ⟨i.toNat, by omega⟩
      obtain ⟨j, hj⟩ : ∃ j, i = j + 1 := ⟨i - 1, by omega⟩
      have hil : i < l.length := by omega
      have hjw : IntKind.i64.wrap ((i : Int) - 1) = (j : Int) := by rw [i64_w]; have := HLN.out; unfold wrap64; omega
      obtain ⟨ad, e, hx0, hx1, hx2⟩ := at_T33 HR.out (i : Int) (by omega) (by omega)
      cases e
      obtain ⟨ad', e, hy0, hy1, hy2⟩ := at_T33 HR.out (j : Int) (by omega) (by omega)
      obtain rfl : ad = ad' := by injection e
      replace hx0 := pw_cell_below HB.out hx0
      replace hx1 := pw_cell_below HB.out hx1
      replace hx2 := pw_cell_below HB.out hx2
      replace hy0 := pw_cell_below HB.out hy0
      replace hy1 := pw_cell_below HB.out hy1
      replace hy2 := pw_cell_below HB.out hy2
      simp only [Int.toNat_natCast] at hx0 hx1 hx2 hy0 hy1 hy2
      have hcmp := HC.out _ (rd33_mem hil) _ (rd33_mem (show j < l.length by omega))
      have hq := Aside0.mk (show (c (rd_T33 l (i : Int)) (rd_T33 l (j : Int)) < 0 → srt c l = false) ∧ (0 ≤ c (rd_T33 l (i : Int)) (rd_T33 l (j : Int)) → ∀ q : Nat, (j : Int) ≤ q → q + 1 < l.length → 0 ≤ c (rd_T33 l ((q + 1 : Nat) : Int)) (rd_T33 l (q : Int))) from
        ⟨fun h => srt_no hil hj h, fun h q h1 h2 => by
          by_cases hqj : q = j
          · subst hqj; rw [← hj]; exact h
          · exact HS.out q (by omega) h2⟩)
      clear HS
      generalize rd_T33 l (i : Int) = x at hx0 hx1 hx2 hcmp hq
      generalize rd_T33 l (j : Int) = y at hy0 hy1 hy2 hcmp hq
      generalize c x y = r at hcmp hq
      have HCM := Aside0.mk hcmp
      have hi2 := Aside0.mk hi1
      have hj2 := Aside0.mk hj
      have hig2 := Aside0.mk hig
      have hil2 := (eq_true hil : (i < l.length) = True)
      have hjl2 := (eq_true (show j < l.length by omega) : (j < l.length) = True)
      have hltb : decide (0 < (i : Int)) = true := decide_eq_true hlt
      clear hcmp hi1 hi0 hj hig e
      have xf0 : ∀ p : BW wr, p.W.cell? _ = some (.int .i64 x.f0) := fun p => p.cell hx0
      have xf1 : ∀ p : BW wr, p.W.cell? _ = some (.int .i64 x.f1) := fun p => p.cell hx1
      have xf2 : ∀ p : BW wr, p.W.cell? _ = some (.int .i64 x.f2) := fun p => p.cell hx2
      have yf0 : ∀ p : BW wr, p.W.cell? _ = some (.int .i64 y.f0) := fun p => p.cell hy0
      have yf1 : ∀ p : BW wr, p.W.cell? _ = some (.int .i64 y.f1) := fun p => p.cell hy1
      have yf2 : ∀ p : BW wr, p.W.cell? _ = some (.int .i64 y.f2) := fun p => p.cell hy2
      clear hx0 hx1 hx2 hy0 hy1 hy2
      go_wp2
      refine wp_region_bw (by kernel_rfl) (by kernel_rfl) ?_
      repeat (go_big_quiet_step (first | (go_at_call 59; exact Calls.bw (impl_Item_order.calls 100 _ _ _ _ _ _ r _ HCM.out))))
      refine wpQuiet_nil ?_
      intro _ hw'
      obtain ⟨⟨w4, hb4⟩, hw''⟩ := hw'
      subst hw''
      have HB4 := Aside0.mk (below_then HB.out HB.out.size hb4)
      clear hb4 xf0 xf1 xf2 yf0 yf1 yf2
      by_cases hneg : r < 0
      · have HN := Aside0.mk (hq.out.1 hneg)
        go_wp2
        go_ret
        exact ⟨by rw [← HRES.out, HN.out]; rfl, HB4.out⟩
      · have HN := Aside0.mk (hq.out.2 (by omega))
        have hng : 0 ≤ r := by omega
        go_wp2
        go_roundg (gk - 1)
        case measure => have := hig2.out; omega
        case rel => exact ⟨(j : Int), by first | rfl | (rw [i64_w] at hjw; rw [hjw]), by omega, by have := hj2.out; omega, by have := hj2.out; have := hig2.out; omega, HB4, HN⟩
    · have hltb : decide (0 < i) = false := decide_eq_false hlt
      have HH := Aside0.mk hlt
      clear hlt hi1 hig
      go_wp2
      go_ret
      exact ⟨by rw [← HRES.out, srt_yes (fun j h => HS.out j (by have := HH.out; omega) h)]; rfl, HB.out⟩
def ordF (x y : S33) : Int := (impl_Item_order.f 100 x.f0 x.f1 x.f2 y.f0 y.f1 y.f2).getD 0
def sortedO (l : List S33) : Option Bool := if (l.all fun x => l.all fun y => (impl_Item_order.f 100 x.f0 x.f1 x.f2 y.f0 y.f1 y.f2).isSome) = true then some (srt ordF l) else none
theorem sortedO_ok {l : List S33} {s : Bool} (h : sortedO l = some s) : srt ordF l = s ∧ ∀ x ∈ l, ∀ y ∈ l, impl_Item_order.f 100 x.f0 x.f1 x.f2 y.f0 y.f1 y.f2 = some (ordF x y) := by
  unfold sortedO at h
  split at h
  · rename_i hall
    refine ⟨Option.some.inj h, fun x hx y hy => ?_⟩
    have h1 := List.all_eq_true.1 (List.all_eq_true.1 hall x hx) y hy
    obtain ⟨r, hr⟩ := Option.isSome_iff_exists.1 h1
    unfold ordF
    rw [hr]; rfl
  · cases h
/-- What treeIn hands back: the tree, and whether it is right. -/
def inF (l : List S156) : Option (Tr × Bool) :=
  if l.length > 60 then some (.nil, false) else if (trd 60 l).2 = false then some (.nil, false) else
    (impl_areItems.f 100 (trd 60 l).1.items).bind fun b => if b = true then (sortedO (trd 60 l).1.items).bind fun s => some ((trd 60 l).1, s && (trd 60 l).1.flat) else some ((trd 60 l).1, false)
theorem alloc_size (w : World) (o : Obj) : (w.alloc o).heap.size = w.heap.size + 1 := by simp
set_option maxHeartbeats 4000000 in
set_option maxRecDepth 100000 in
theorem treeIn_calls (A : Option Addr) (c : Nat) (l : List S156) (t : Tr) (b : Bool) (w : World) (hr : Kd.C k156 w A l.length l) (hc : l.length ≤ c) (h : inF l = some (t, b)) :
    Calls Try.prog 95 #[.agg #[.slice A l.length c]] w fun e w' => ∃ u, e = .returned (.tuple #[.pointer u, .bool b]) ∧ IsN w' w.heap.size w'.heap.size u t ∧ Below w.heap.size w w' := by
  have hu64 := Try.underlying64
  have HR := Aside0.mk hr
  have HCP := Aside0.mk hc
  clear hr hc
  unfold inF at h
  by_cases c60 : l.length > 60
  · rw [if_pos c60] at h
    simp only [Option.some.injEq, Prod.mk.injEq] at h
    obtain ⟨rfl, rfl⟩ := h
    have cb : decide ((60 : Int) < (l.length : Int)) = true := decide_eq_true (by omega)
    have cb2 : (60 < l.length) = True := eq_true c60
    clear c60
    go_enter Try.func95, Try.ntmps95
    go_wp2
    go_ret2
    exact ⟨_, rfl, ⟨rfl, by simp⟩, below_alloc (Below.refl _ _) _⟩
  · rw [if_neg c60] at h
    have cb : decide ((60 : Int) < (l.length : Int)) = false := decide_eq_false (by omega)
    have cb2 : (60 < l.length) = False := eq_false c60
    have HLN := Aside0.mk (show l.length ≤ 60 by omega)
    have hsz := trd_sz 60 l
    clear c60
    obtain ⟨⟨t0, o0⟩, ht0⟩ : ∃ p, p = trd 60 l := ⟨_, rfl⟩
    rw [← ht0] at h hsz
    have HT0 := Aside0.mk ht0
    simp only at h hsz
    cases o0 with
    | false =>
      rw [if_pos rfl] at h
      simp only [Option.some.injEq, Prod.mk.injEq] at h
      obtain ⟨rfl, rfl⟩ := h
      clear hsz ht0
      go_enter Try.func95, Try.ntmps95
      go_wp2_with (first
          | (go_at_call 127; with_reducible refine (treeRead_calls 60 _ _ l _ ?side0 ?side1 ?side2 ?side3).mono ?_; (case side0 => exact HLN.out); (case side1 => exact Nat.le_trans HLN.out (by decide)); (case side2 => exact Kd.C_alloc HR.out _); (case side3 => exact HCP.out); rintro e w1 ⟨u, rfl, hn1, hb1⟩; rw [alloc_size] at hn1; rw [← HT0.out] at hn1; rw [← HT0.out]; have HN1 := Aside0.mk (hn1.wide (Nat.le_succ _) (Nat.le_refl _)); have HB1 : Aside0 (Below w.heap.size w w1) := ⟨below_step (below_alloc (Below.refl _ _) _) hb1⟩; clear hn1 hb1))
      go_ret2
      exact ⟨_, rfl, ⟨rfl, HB1.out.size⟩, HB1.out⟩
    | true =>
      rw [if_neg (by decide)] at h
      have HSZ1 : Aside0 (t0.sz ≤ 1000) := ⟨by have := HLN.out; omega⟩
      have HSZ : Aside0 (([] : List S33).length + t0.sz ≤ 1000) := ⟨by have := HLN.out; simp; omega⟩
      have HIL : Aside0 (t0.items.length ≤ 1000) := ⟨by rw [Tr.items_len]; exact HSZ1.out⟩
      clear hsz ht0
      obtain ⟨b0, hA, h⟩ := Option.bind_eq_some_iff.1 h
      have HA := Aside0.mk hA
      clear hA
      cases b0 with
      | false =>
        rw [if_neg (by decide)] at h
        simp only [Option.some.injEq, Prod.mk.injEq] at h
        obtain ⟨rfl, rfl⟩ := h
        go_enter Try.func95, Try.ntmps95
        go_wp2_with (first
          | (go_at_call 127; with_reducible refine (treeRead_calls 60 _ _ l _ ?side0 ?side1 ?side2 ?side3).mono ?_; (case side0 => exact HLN.out); (case side1 => exact Nat.le_trans HLN.out (by decide)); (case side2 => exact Kd.C_alloc HR.out _); (case side3 => exact HCP.out); rintro e w1 ⟨u, rfl, hn1, hb1⟩; rw [alloc_size] at hn1; rw [← HT0.out] at hn1; rw [← HT0.out]; have HN1 := Aside0.mk (hn1.wide (Nat.le_succ _) (Nat.le_refl _)); have HB1 : Aside0 (Below w.heap.size w w1) := ⟨below_step (below_alloc (Below.refl _ _) _) hb1⟩; clear hn1 hb1)
          | (go_at_call 99; with_reducible refine (items_calls t0 u w.heap.size w1.heap.size w1.heap.size _ [] _ ?side0 ?side1 ?side2 ?side3 ?side4).mono ?_; (case side0 => exact HN1.out); (case side1 => exact Nat.le_refl _); (case side2 => exact Kd.R_nil _ _ _ _ _); (case side3 => exact HSZ.out); (case side4 => exact Nat.le_refl _); rintro e w2 ⟨v, rfl, hv, hg, ha⟩; rw [List.nil_append] at hv; have HV := Aside0.mk hv; have hb2 : Below w1.heap.size w1 w2 := ⟨hg.os, hg.tape, hg.output, hg.size, fun k hk => hg.block k hk (by simp [Value.ownBlock])⟩; have HN2 := Aside0.mk ((HN1.out.below hb2).wide (Nat.le_refl _) hb2.size); have HB2 : Aside0 (Below w.heap.size w w2) := ⟨below_step HB1.out hb2⟩; clear hv hg ha hb2; obtain ⟨Av, cv, ev⟩ := Kd.R_slice HV.out; subst ev)
          | (go_at_call 51; with_reducible refine (impl_areItems.calls 100 _ _ t0.items _ _ ?side0 ?side1 HA.out).mono ?_; (case side0 => exact (Kd.R_reads' HV.out).2.2); (case side1 => exact (Kd.R_reads' HV.out).2.1); rintro e w3 ⟨rfl, hb3⟩; have HN3 := Aside0.mk ((HN2.out.below hb3).wide (Nat.le_refl _) hb3.size); have HB3 : Aside0 (Below w.heap.size w w3) := ⟨below_step HB2.out hb3⟩; have HV3 := Aside0.mk (Kd.R_below HV.out hb3); clear hb3))
        go_ret2
        exact ⟨_, rfl, HN3.out, HB3.out⟩
      | true =>
        rw [if_pos rfl] at h
        obtain ⟨s, hs, h⟩ := Option.bind_eq_some_iff.1 h
        obtain ⟨hs1, hs2⟩ := sortedO_ok hs
        have HS := Aside0.mk hs1
        have HO := Aside0.mk hs2
        simp only [Option.some.injEq, Prod.mk.injEq] at h
        obtain ⟨rfl, rfl⟩ := h
        clear hs hs1 hs2
        cases s with
        | false =>
          go_enter Try.func95, Try.ntmps95
          go_wp2_with (first
          | (go_at_call 127; with_reducible refine (treeRead_calls 60 _ _ l _ ?side0 ?side1 ?side2 ?side3).mono ?_; (case side0 => exact HLN.out); (case side1 => exact Nat.le_trans HLN.out (by decide)); (case side2 => exact Kd.C_alloc HR.out _); (case side3 => exact HCP.out); rintro e w1 ⟨u, rfl, hn1, hb1⟩; rw [alloc_size] at hn1; rw [← HT0.out] at hn1; rw [← HT0.out]; have HN1 := Aside0.mk (hn1.wide (Nat.le_succ _) (Nat.le_refl _)); have HB1 : Aside0 (Below w.heap.size w w1) := ⟨below_step (below_alloc (Below.refl _ _) _) hb1⟩; clear hn1 hb1)
          | (go_at_call 99; with_reducible refine (items_calls t0 u w.heap.size w1.heap.size w1.heap.size _ [] _ ?side0 ?side1 ?side2 ?side3 ?side4).mono ?_; (case side0 => exact HN1.out); (case side1 => exact Nat.le_refl _); (case side2 => exact Kd.R_nil _ _ _ _ _); (case side3 => exact HSZ.out); (case side4 => exact Nat.le_refl _); rintro e w2 ⟨v, rfl, hv, hg, ha⟩; rw [List.nil_append] at hv; have HV := Aside0.mk hv; have hb2 : Below w1.heap.size w1 w2 := ⟨hg.os, hg.tape, hg.output, hg.size, fun k hk => hg.block k hk (by simp [Value.ownBlock])⟩; have HN2 := Aside0.mk ((HN1.out.below hb2).wide (Nat.le_refl _) hb2.size); have HB2 : Aside0 (Below w.heap.size w w2) := ⟨below_step HB1.out hb2⟩; clear hv hg ha hb2; obtain ⟨Av, cv, ev⟩ := Kd.R_slice HV.out; subst ev)
          | (go_at_call 51; with_reducible refine (impl_areItems.calls 100 _ _ t0.items _ _ ?side0 ?side1 HA.out).mono ?_; (case side0 => exact (Kd.R_reads' HV.out).2.2); (case side1 => exact (Kd.R_reads' HV.out).2.1); rintro e w3 ⟨rfl, hb3⟩; have HN3 := Aside0.mk ((HN2.out.below hb3).wide (Nat.le_refl _) hb3.size); have HB3 : Aside0 (Below w.heap.size w w3) := ⟨below_step HB2.out hb3⟩; have HV3 := Aside0.mk (Kd.R_below HV.out hb3); clear hb3)
          | (go_at_call 128; with_reducible refine (isSorted_calls t0.items ordF _ _ _ ?side0 ?side1 ?side2).mono ?_; (case side0 => exact (Kd.R_reads' HV3.out).2.2); (case side1 => exact HIL.out); (case side2 => exact HO.out); rintro e w4 ⟨rfl, hb4⟩; rw [HS.out]; have HN4 := Aside0.mk ((HN3.out.below hb4).wide (Nat.le_refl _) hb4.size); have HB4 : Aside0 (Below w.heap.size w w4) := ⟨below_step HB3.out hb4⟩; clear hb4))
          go_ret2
          exact ⟨_, rfl, HN4.out, HB4.out⟩
        | true =>
          go_enter Try.func95, Try.ntmps95
          go_wp2_with (first
          | (go_at_call 127; with_reducible refine (treeRead_calls 60 _ _ l _ ?side0 ?side1 ?side2 ?side3).mono ?_; (case side0 => exact HLN.out); (case side1 => exact Nat.le_trans HLN.out (by decide)); (case side2 => exact Kd.C_alloc HR.out _); (case side3 => exact HCP.out); rintro e w1 ⟨u, rfl, hn1, hb1⟩; rw [alloc_size] at hn1; rw [← HT0.out] at hn1; rw [← HT0.out]; have HN1 := Aside0.mk (hn1.wide (Nat.le_succ _) (Nat.le_refl _)); have HB1 : Aside0 (Below w.heap.size w w1) := ⟨below_step (below_alloc (Below.refl _ _) _) hb1⟩; clear hn1 hb1)
          | (go_at_call 99; with_reducible refine (items_calls t0 u w.heap.size w1.heap.size w1.heap.size _ [] _ ?side0 ?side1 ?side2 ?side3 ?side4).mono ?_; (case side0 => exact HN1.out); (case side1 => exact Nat.le_refl _); (case side2 => exact Kd.R_nil _ _ _ _ _); (case side3 => exact HSZ.out); (case side4 => exact Nat.le_refl _); rintro e w2 ⟨v, rfl, hv, hg, ha⟩; rw [List.nil_append] at hv; have HV := Aside0.mk hv; have hb2 : Below w1.heap.size w1 w2 := ⟨hg.os, hg.tape, hg.output, hg.size, fun k hk => hg.block k hk (by simp [Value.ownBlock])⟩; have HN2 := Aside0.mk ((HN1.out.below hb2).wide (Nat.le_refl _) hb2.size); have HB2 : Aside0 (Below w.heap.size w w2) := ⟨below_step HB1.out hb2⟩; clear hv hg ha hb2; obtain ⟨Av, cv, ev⟩ := Kd.R_slice HV.out; subst ev)
          | (go_at_call 51; with_reducible refine (impl_areItems.calls 100 _ _ t0.items _ _ ?side0 ?side1 HA.out).mono ?_; (case side0 => exact (Kd.R_reads' HV.out).2.2); (case side1 => exact (Kd.R_reads' HV.out).2.1); rintro e w3 ⟨rfl, hb3⟩; have HN3 := Aside0.mk ((HN2.out.below hb3).wide (Nat.le_refl _) hb3.size); have HB3 : Aside0 (Below w.heap.size w w3) := ⟨below_step HB2.out hb3⟩; have HV3 := Aside0.mk (Kd.R_below HV.out hb3); clear hb3)
          | (go_at_call 128; with_reducible refine (isSorted_calls t0.items ordF _ _ _ ?side0 ?side1 ?side2).mono ?_; (case side0 => exact (Kd.R_reads' HV3.out).2.2); (case side1 => exact HIL.out); (case side2 => exact HO.out); rintro e w4 ⟨rfl, hb4⟩; rw [HS.out]; have HN4 := Aside0.mk ((HN3.out.below hb4).wide (Nat.le_refl _) hb4.size); have HB4 : Aside0 (Below w.heap.size w w4) := ⟨below_step HB3.out hb4⟩; clear hb4)
          | (go_at_call 129; with_reducible refine (isFlat_calls t0 u w.heap.size w4.heap.size _ ?side0 ?side1).mono ?_; (case side0 => exact HN4.out); (case side1 => exact HSZ1.out); rintro e w5 ⟨rfl, q, rfl⟩))
          go_ret2
          exact ⟨_, rfl, HN4.out.drewN _, pw_below_drewN HB4.out _⟩
attribute [local go_sem] Oper.semAt_some
set_option maxHeartbeats 4000000 in
set_option maxRecDepth 100000 in
theorem below1_calls (g ga : Nat) (x a : S33) (lu ru : Option Addr) (h0 c v q m d : Int) (r : Int) (w : World) (hb : w.heap[g]? = some (.cells #[.int .i64 x.f0, .int .i64 x.f1, .int .i64 x.f2, .pointer lu, .pointer ru, .int .i64 h0] 133 (0, 0)))
    (ha : w.heap[ga]? = some (.cells #[.int .i64 a.f0, .int .i64 a.f1, .int .i64 a.f2] 33 (0, 0))) (hr : impl_Item_order.f 100 x.f0 x.f1 x.f2 a.f0 a.f1 a.f2 = some r) :
    Calls Try.prog 102 #[.pointer (some ⟨g, 0, none⟩), .agg #[.int .i64 c, .int .i64 v, .int .i64 q, .int .i64 m, .int .i64 d], .pointer (some ⟨ga, 0, none⟩)] w fun e w' => e = .returned (.bool (decide (r < 0))) ∧ Below w.heap.size w w' := by
  have hu33 := Try.underlying33
  have hu73 := Try.underlying73
  have BG := Aside0.mk hb
  have BA := Aside0.mk ha
  have HRR := Aside0.mk hr
  clear hb ha hr
  go_enter Try.func102, Try.ntmps102
  go_wp2_with (first
    | ((with_reducible refine gate_dst (N := 4) rfl ?_); refine box_event ?hg (N := 4) ?hd (cs := #[.int .i64 c, .int .i64 v, .int .i64 q, .int .i64 m, .int .i64 d]) (t := 73) ?hr ?_; (case hd => rfl); (case hg => rfl); (case hr => first | (go_simp; done) | (go_simp; rfl)); intro gb hgb w1 hbox hb1; have HB1 := Aside0.mk hb1; have BG1 := Aside0.mk (blk_below BG.out hb1); have BA1 := Aside0.mk (blk_below BA.out hb1); clear hbox hb1 hgb))
  have xf0 : ∀ p : BW w1, p.W.cell? ⟨g, 0, none⟩ = some (.int .i64 x.f0) := fun p => p.cell (blk_cell BG1.out 0)
  have xf1 : ∀ p : BW w1, p.W.cell? ⟨g, 1, none⟩ = some (.int .i64 x.f1) := fun p => p.cell (blk_cell BG1.out 1)
  have xf2 : ∀ p : BW w1, p.W.cell? ⟨g, 2, none⟩ = some (.int .i64 x.f2) := fun p => p.cell (blk_cell BG1.out 2)
  have yf0 : ∀ p : BW w1, p.W.cell? ⟨ga, 0, none⟩ = some (.int .i64 a.f0) := fun p => p.cell (blk_cell BA1.out 0)
  have yf1 : ∀ p : BW w1, p.W.cell? ⟨ga, 1, none⟩ = some (.int .i64 a.f1) := fun p => p.cell (blk_cell BA1.out 1)
  have yf2 : ∀ p : BW w1, p.W.cell? ⟨ga, 2, none⟩ = some (.int .i64 a.f2) := fun p => p.cell (blk_cell BA1.out 2)
  refine wp_region_bw (by kernel_rfl) (by kernel_rfl) ?_
  repeat (go_big_quiet_step (first | (go_at_call 59; exact Calls.bw (impl_Item_order.calls 100 _ _ _ _ _ _ r _ HRR.out))))
  refine wpQuiet_nil ?_
  intro _ hw'
  obtain ⟨⟨w4, hb4⟩, hw''⟩ := hw'
  subst hw''
  have HB4 := Aside0.mk (below_then HB1.out HB1.out.size hb4)
  clear hb4 xf0 xf1 xf2 yf0 yf1 yf2
  go_wp2
  go_ret
  exact ⟨rfl, HB4.out⟩
/-- How far the search goes down: what stands ahead, how many nodes are met. -/
def downF (a : S33) : Tr → SumT → Int → SumT × Int
  | .nil, s, n => (s, n)
  | .node x l r, s, n => if ordF x a < 0 then downF a r ((l.items.foldl SumT.put s).put x) (wrap64 (n + 1)) else downF a l s (wrap64 (n + 1))
set_option maxHeartbeats 4000000 in
set_option maxRecDepth 100000 in
theorem down_calls (t0 : Tr) (u0 : Option Addr) (lo0 hi0 ga : Nat) (a : S33) (w : World) (h : IsN w lo0 hi0 u0 t0) (hhi : hi0 ≤ w.heap.size) (ha : w.heap[ga]? = some (.cells #[.int .i64 a.f0, .int .i64 a.f1, .int .i64 a.f2] 33 (0, 0)))
    (ho : ∀ x ∈ t0.items, impl_Item_order.f 100 x.f0 x.f1 x.f2 a.f0 a.f1 a.f2 = some (ordF x a)) (hlen : t0.sz ≤ 1000) (R : SumT × Int) (hR : downF a t0 ⟨0, 0, 0⟩ 0 = R) :
    Calls Try.prog 101 #[.pointer u0, .func (.func 102) #[] #[.pointer (some ⟨ga, 0, none⟩)]] w fun e w' => e = .returned (.agg #[.int .i64 R.1.c, .int .i64 R.1.v, .int .i64 R.1.q, .int .i64 R.2, .int .i64 0]) ∧ Below w.heap.size w w' := by
  have hu33 := Try.underlying33
  have hu73 := Try.underlying73
  have eg : ∀ args w, (callFunc 102 args).run Try.prog w = .ok (.enter 102 args) w := enters_of Try.func102 (by kernel_rfl) rfl
  have HN := Aside0.mk h
  have HHI := Aside0.mk hhi
  have HA := Aside0.mk ha
  have HO := Aside0.mk ho
  have HLN := Aside0.mk hlen
  have HRR := Aside0.mk hR
  clear h hhi ha ho hlen hR
  go_enter Try.func101, Try.ntmps101
  go_wp2_with (first
    | ((with_reducible refine gate_dst (N := 4) rfl ?_); refine box_event ?hg (N := 4) ?hd (cs := #[.int .i64 0, .int .i64 0, .int .i64 0, .int .i64 0, .int .i64 0]) (t := 73) ?hr ?_; (case hd => rfl); (case hg => rfl); (case hr => first | (go_simp; done) | (go_simp; rfl)); intro g4 hg4 w1 hbox hb1; have B4 := Aside0.mk hbox; have HB1 : Aside0 (Below w.heap.size w w1) := ⟨hb1⟩; have G4 : Aside0 (w.heap.size ≤ g4) := ⟨by rw [hg4]; exact Nat.le_refl _⟩; clear hbox hb1 hg4)
    | ((with_reducible refine gate_dst (N := 5) rfl ?_); refine box_event ?hg (N := 5) ?hd (cs := #[.int .i64 0, .int .i64 0, .int .i64 0, .int .i64 0, .int .i64 0]) (t := 73) ?hr ?_; (case hd => rfl); (case hg => rfl); (case hr => first | (go_simp; done) | (go_simp; rfl)); intro g5 hg5 w2 hbox hb2; have B5 := Aside0.mk hbox; have B4b := Aside0.mk (blk_below B4.out hb2); have HB2 : Aside0 (Below w.heap.size w w2) := ⟨below_step HB1.out hb2⟩; have G5 : Aside0 (w.heap.size ≤ g5) := ⟨by rw [hg5]; exact HB1.out.size⟩; have N45 : Aside0 (g4 ≠ g5) := ⟨fun e_ => by have := blk_lt B4.out; omega⟩; have c5_0 := blk_cell hbox 0; have c5_1 := blk_cell hbox 1; have c5_2 := blk_cell hbox 2; have c5_3 := blk_cell hbox 3; have c5_4 := blk_cell hbox 4; have f5_0 := blk_frozen hbox 0; have f5_1 := blk_frozen hbox 1; have f5_2 := blk_frozen hbox 2; have f5_3 := blk_frozen hbox 3; have f5_4 := blk_frozen hbox 4; simp only [List.getElem?_toArray, List.getElem?_cons_zero, List.getElem?_cons_succ] at c5_0 c5_1 c5_2 c5_3 c5_4; clear hbox hb2 hg5))
  have B5c : Aside0 ((((((w2.setCell ⟨g5, 0, none⟩ (.int .i64 0)).setCell ⟨g5, 1, none⟩ (.int .i64 0)).setCell ⟨g5, 2, none⟩ (.int .i64 0)).setCell ⟨g5, 3, none⟩ (.int .i64 0)).setCell ⟨g5, 4, none⟩ (.int .i64 0)).heap[g5]? = some (.cells #[.int .i64 0, .int .i64 0, .int .i64 0, .int .i64 0, .int .i64 0] 73 (0, 0))) := ⟨(blk_put (blk_put (blk_put (blk_put (blk_put B5.out 0 _ rfl) 1 _ rfl) 2 _ rfl) 3 _ rfl) 4 _ rfl)⟩
  have B4c : Aside0 ((((((w2.setCell ⟨g5, 0, none⟩ (.int .i64 0)).setCell ⟨g5, 1, none⟩ (.int .i64 0)).setCell ⟨g5, 2, none⟩ (.int .i64 0)).setCell ⟨g5, 3, none⟩ (.int .i64 0)).setCell ⟨g5, 4, none⟩ (.int .i64 0)).heap[g4]? = some (.cells #[.int .i64 0, .int .i64 0, .int .i64 0, .int .i64 0, .int .i64 0] 73 (0, 0))) := ⟨(blk_far (blk_far (blk_far (blk_far (blk_far B4b.out N45.out _) N45.out _) N45.out _) N45.out _) N45.out _)⟩
  have HB3 : Aside0 (Below w.heap.size w (((((w2.setCell ⟨g5, 0, none⟩ (.int .i64 0)).setCell ⟨g5, 1, none⟩ (.int .i64 0)).setCell ⟨g5, 2, none⟩ (.int .i64 0)).setCell ⟨g5, 3, none⟩ (.int .i64 0)).setCell ⟨g5, 4, none⟩ (.int .i64 0))) := ⟨(below_set (below_set (below_set (below_set (below_set HB2.out G5.out) G5.out) G5.out) G5.out) G5.out)⟩
  clear B4 B5 B4b HB1 HB2 c5_0 c5_1 c5_2 c5_3 c5_4 f5_0 f5_1 f5_2 f5_3 f5_4
  generalize (((((w2.setCell ⟨g5, 0, none⟩ (.int .i64 0)).setCell ⟨g5, 1, none⟩ (.int .i64 0)).setCell ⟨g5, 2, none⟩ (.int .i64 0)).setCell ⟨g5, 3, none⟩ (.int .i64 0)).setCell ⟨g5, 4, none⟩ (.int .i64 0)) = w3 at B5c B4c HB3 ⊢
  go_loopg [0] t0.sz (fun gg s0 wr => ∃ (u : Option Addr) (t : Tr) (lo hi : Nat) (s : SumT) (n : Int), s0 = .pointer u ∧ t.sz ≤ gg ∧ Aside0 (IsN w lo hi u t ∧ hi ≤ w.heap.size) ∧ Aside0 (wr.heap[g5]? = some (.cells #[.int .i64 s.c, .int .i64 s.v, .int .i64 s.q, .int .i64 n, .int .i64 0] 73 (0, 0))) ∧ Aside0 (wr.heap[g4]? = some (.cells #[.int .i64 0, .int .i64 0, .int .i64 0, .int .i64 0, .int .i64 0] 73 (0, 0))) ∧ Aside0 (Below w.heap.size w wr) ∧ Aside0 (downF a t s n = R) ∧ Aside0 (∀ x ∈ t.items, impl_Item_order.f 100 x.f0 x.f1 x.f2 a.f0 a.f1 a.f2 = some (ordF x a)) ∧ Aside0 (t.sz ≤ 1000))
  case atStart => exact ⟨u0, t0, lo0, hi0, ⟨0, 0, 0⟩, 0, rfl, Nat.le_refl _, ⟨HN.out, HHI.out⟩, B5c, B4c, HB3, HRR, HO, HLN⟩
  case round =>
    clear B5c B4c HB3 HN HHI HRR HO HLN w3
    obtain ⟨u, t, lo, hi, s, n, rfl, hgg, HN, B5, B4, HB, HD, HO, HLN⟩ := hrel
    cases t with
    | nil =>
      obtain ⟨⟨rfl, _⟩, _⟩ := HN.out
      have c5_0 := blk_cell B5.out 0
      have c5_1 := blk_cell B5.out 1
      have c5_2 := blk_cell B5.out 2
      have c5_3 := blk_cell B5.out 3
      have c5_4 := blk_cell B5.out 4
      have c4_0 := blk_cell B4.out 0
      have c4_1 := blk_cell B4.out 1
      have c4_2 := blk_cell B4.out 2
      have c4_3 := blk_cell B4.out 3
      have c4_4 := blk_cell B4.out 4
      have f4_0 := blk_frozen B4.out 0
      have f4_1 := blk_frozen B4.out 1
      have f4_2 := blk_frozen B4.out 2
      have f4_3 := blk_frozen B4.out 3
      have f4_4 := blk_frozen B4.out 4
      simp only [List.getElem?_toArray, List.getElem?_cons_zero, List.getElem?_cons_succ] at c5_0 c5_1 c5_2 c5_3 c5_4 c4_0 c4_1 c4_2 c4_3 c4_4
      go_wp2
      refine bodyPost_ret (results_cell_row rfl _ _ g4 73 #[.int .i64 s.c, .int .i64 s.v, .int .i64 s.q, .int .i64 n, .int .i64 0] (0, 0) _ rfl (blk_put (blk_put (blk_put (blk_put (blk_put B4.out 0 _ rfl) 1 _ rfl) 2 _ rfl) 3 _ rfl) 4 _ rfl) Try.underlying73 rfl (by kernel_rfl)) rfl ?_
      have hd := HD.out
      simp only [downF] at hd
      subst hd
      exact ⟨rfl, (below_set (below_set (below_set (below_set (below_set HB.out G4.out) G4.out) G4.out) G4.out) G4.out)⟩
    | node x l r =>
      obtain ⟨⟨g, mm, lu, ru, rfl, hgh, hblk, hL, hR⟩, hhi⟩ := HN.out
      have BN := Aside0.mk hblk
      have HL := Aside0.mk hL
      have HR_ := Aside0.mk hR
      have hml : Aside0 (mm ≤ w.heap.size ∧ g < w.heap.size) := ⟨by have := hR.le; omega, by omega⟩
      have hox := Aside0.mk (HO.out x items_mem_x)
      have HOL := Aside0.mk (fun y hy => HO.out y (items_mem_l hy))
      have HOR := Aside0.mk (fun y hy => HO.out y (items_mem_r hy))
      have HLL : Aside0 (l.sz ≤ 1000 ∧ r.sz ≤ 1000 ∧ l.sz + 1 ≤ gk ∧ r.sz + 1 ≤ gk) := ⟨by have := HLN.out; simp only [Tr.sz] at this hgg; omega⟩
      have hd := HD.out
      rw [downF] at hd
      have HD2 := Aside0.mk hd
      clear hblk hL hR HN HO HLN hd HD hgh hhi hgg
      generalize ((Tr.node x l r).ht : Nat) = ht at BN
      obtain ⟨c, v, q⟩ := s
      simp only at B5
      have c5_0 := blk_cell B5.out 0
      have c5_1 := blk_cell B5.out 1
      have c5_2 := blk_cell B5.out 2
      have c5_3 := blk_cell B5.out 3
      have c5_4 := blk_cell B5.out 4
      have f5_3 := blk_frozen B5.out 3
      simp only [List.getElem?_toArray, List.getElem?_cons_zero, List.getElem?_cons_succ] at c5_0 c5_1 c5_2 c5_3 c5_4
      have hbn3 := blk_cell ((HB.out.block g hml.out.2).trans BN.out) 3
      simp only [List.getElem?_toArray, List.getElem?_cons_zero, List.getElem?_cons_succ] at hbn3
      go_wp2_with (first
        | ((with_reducible refine gate_dst (N := 6) rfl ?_); refine box_event ?hg (N := 6) ?hd (cs := #[.int .i64 0, .int .i64 0, .int .i64 0, .int .i64 0, .int .i64 0]) (t := 73) ?hr ?_; (case hd => rfl); (case hg => rfl); (case hr => first | (go_simp; done) | (go_simp; rfl)); intro g6 hg6 w5 hbox hb5; have B6 := Aside0.mk hbox; have B5b := Aside0.mk (blk_below (blk_put (cs' := #[.int .i64 c, .int .i64 v, .int .i64 q, .int .i64 (wrap64 (n + 1)), .int .i64 0]) B5.out 3 _ rfl) hb5); have B4b := Aside0.mk (blk_below (blk_far B4.out N45.out _) hb5); have HB5 : Aside0 (Below w.heap.size w w5) := ⟨below_step (below_set HB.out G5.out) hb5⟩; have G6 : Aside0 (w.heap.size ≤ g6) := ⟨by rw [hg6]; exact (below_set HB.out G5.out (j := 3) (v := .int .i64 (wrap64 (n + 1)))).size⟩; have N56 : Aside0 (g5 ≠ g6 ∧ g4 ≠ g6) := ⟨fun e_ => by have := blk_lt (blk_put (cs' := #[.int .i64 c, .int .i64 v, .int .i64 q, .int .i64 (wrap64 (n + 1)), .int .i64 0]) B5.out 3 (.int .i64 (wrap64 (n + 1))) rfl); omega, fun e_ => by have := blk_lt (blk_far (p := ⟨g5, 3, none⟩) B4.out N45.out (.int .i64 (wrap64 (n + 1)))); omega⟩; have c6_0 := blk_cell hbox 0; have c6_1 := blk_cell hbox 1; have c6_2 := blk_cell hbox 2; have c6_3 := blk_cell hbox 3; have c6_4 := blk_cell hbox 4; have f6_0 := blk_frozen hbox 0; have f6_1 := blk_frozen hbox 1; have f6_2 := blk_frozen hbox 2; have f6_3 := blk_frozen hbox 3; have f6_4 := blk_frozen hbox 4; simp only [List.getElem?_toArray, List.getElem?_cons_zero, List.getElem?_cons_succ] at c6_0 c6_1 c6_2 c6_3 c6_4; have hbn3 : w5.cell? ⟨g, 3, none⟩ = some (.pointer lu) := (blk_cell ((HB5.out.block g hml.out.2).trans BN.out) 3).trans rfl; have hng1 : g6 ≠ g := (fun e_ => by have := hml.out; have := G6.out; omega); have hng2 : g ≠ g6 := (fun e_ => hng1 e_.symm); clear hbox hb5 hg6 c5_0 c5_1 c5_2 c5_3 c5_4 f5_3))
      have B6c : Aside0 ((((((w5.setCell ⟨g6, 0, none⟩ (.int .i64 c)).setCell ⟨g6, 1, none⟩ (.int .i64 v)).setCell ⟨g6, 2, none⟩ (.int .i64 q)).setCell ⟨g6, 3, none⟩ (.int .i64 (wrap64 (n + 1)))).setCell ⟨g6, 4, none⟩ (.int .i64 0)).heap[g6]? = some (.cells #[.int .i64 c, .int .i64 v, .int .i64 q, .int .i64 (wrap64 (n + 1)), .int .i64 0] 73 (0, 0))) := ⟨(blk_put (blk_put (blk_put (blk_put (blk_put B6.out 0 _ rfl) 1 _ rfl) 2 _ rfl) 3 _ rfl) 4 _ rfl)⟩
      have B5c : Aside0 ((((((w5.setCell ⟨g6, 0, none⟩ (.int .i64 c)).setCell ⟨g6, 1, none⟩ (.int .i64 v)).setCell ⟨g6, 2, none⟩ (.int .i64 q)).setCell ⟨g6, 3, none⟩ (.int .i64 (wrap64 (n + 1)))).setCell ⟨g6, 4, none⟩ (.int .i64 0)).heap[g5]? = some (.cells #[.int .i64 c, .int .i64 v, .int .i64 q, .int .i64 (wrap64 (n + 1)), .int .i64 0] 73 (0, 0))) := ⟨(blk_far (blk_far (blk_far (blk_far (blk_far B5b.out N56.out.1 _) N56.out.1 _) N56.out.1 _) N56.out.1 _) N56.out.1 _)⟩
      have B4c : Aside0 ((((((w5.setCell ⟨g6, 0, none⟩ (.int .i64 c)).setCell ⟨g6, 1, none⟩ (.int .i64 v)).setCell ⟨g6, 2, none⟩ (.int .i64 q)).setCell ⟨g6, 3, none⟩ (.int .i64 (wrap64 (n + 1)))).setCell ⟨g6, 4, none⟩ (.int .i64 0)).heap[g4]? = some (.cells #[.int .i64 0, .int .i64 0, .int .i64 0, .int .i64 0, .int .i64 0] 73 (0, 0))) := ⟨(blk_far (blk_far (blk_far (blk_far (blk_far B4b.out N56.out.2 _) N56.out.2 _) N56.out.2 _) N56.out.2 _) N56.out.2 _)⟩
      have HB6 : Aside0 (Below w.heap.size w (((((w5.setCell ⟨g6, 0, none⟩ (.int .i64 c)).setCell ⟨g6, 1, none⟩ (.int .i64 v)).setCell ⟨g6, 2, none⟩ (.int .i64 q)).setCell ⟨g6, 3, none⟩ (.int .i64 (wrap64 (n + 1)))).setCell ⟨g6, 4, none⟩ (.int .i64 0))) := ⟨(below_set (below_set (below_set (below_set (below_set HB5.out G6.out) G6.out) G6.out) G6.out) G6.out)⟩
      clear B6 B5b B4b HB5 c6_0 c6_1 c6_2 c6_3 c6_4 f6_0 f6_1 f6_2 f6_3 f6_4 hbn3 B5 B4 HB hng1 hng2
      generalize (((((w5.setCell ⟨g6, 0, none⟩ (.int .i64 c)).setCell ⟨g6, 1, none⟩ (.int .i64 v)).setCell ⟨g6, 2, none⟩ (.int .i64 q)).setCell ⟨g6, 3, none⟩ (.int .i64 (wrap64 (n + 1)))).setCell ⟨g6, 4, none⟩ (.int .i64 0)) = w6 at B6c B5c B4c HB6 ⊢
      clear w5
      with_reducible refine (items_calls l lu lo mm w6.heap.size _ [] _ ?side0 ?side1 ?side2 ?side3 ?side4).mono ?_
      (case side0 => exact HL.out.keep (fun k _ hk _ => HB6.out.block k (Nat.lt_of_lt_of_le hk hml.out.1)))
      (case side1 => exact Nat.le_trans hml.out.1 HB6.out.size)
      (case side2 => exact Kd.R_nil _ _ _ _ _)
      (case side3 => have := HLL.out; simp; omega)
      (case side4 => exact Nat.le_refl _)
      rintro e w7 ⟨vl, rfl, hv, hgr, ha_⟩
      rw [List.nil_append] at hv
      have HV := Aside0.mk hv
      have hb7 : Below w6.heap.size w6 w7 := ⟨hgr.os, hgr.tape, hgr.output, hgr.size, fun k hk => hgr.block k hk (by simp [Value.ownBlock])⟩
      have B6d := Aside0.mk (blk_below B6c.out hb7)
      have B5d := Aside0.mk (blk_below B5c.out hb7)
      have B4d := Aside0.mk (blk_below B4c.out hb7)
      have HB7 : Aside0 (Below w.heap.size w w7) := ⟨below_step HB6.out hb7⟩
      clear hv hgr ha_ hb7 B6c B5c B4c HB6
      go_wp2_with fail
      with_reducible refine (add_calls g6 w6.heap.size vl l.items ⟨c, v, q⟩ (wrap64 (n + 1)) 0 _ B6d.out HV.out).mono ?_
      rintro e w8 ⟨rfl, hb8, hf8, hk8⟩
      have B6e := Aside0.mk hb8
      have B5e := Aside0.mk (KeepBut.blk hk8 B5d.out N56.out.1 (by simp))
      have B4e := Aside0.mk (KeepBut.blk hk8 B4d.out N56.out.2 (by simp))
      have HB8 : Aside0 (Below w.heap.size w w8) := ⟨HB7.out.trans (hf8.mono G6.out)⟩
      have BN8 := Aside0.mk ((HB8.out.block g hml.out.2).trans BN.out)
      have BA8 := Aside0.mk ((HB8.out.block ga (blk_lt HA.out)).trans HA.out)
      clear hb8 hf8 hk8 B6d B5d B4d HB7 HV
      generalize l.items.foldl SumT.put ⟨c, v, q⟩ = s at B6e HD2
      obtain ⟨c1, v1, q1⟩ := s
      simp only at B6e
      have c6_0 := blk_cell B6e.out 0
      have c6_1 := blk_cell B6e.out 1
      have c6_2 := blk_cell B6e.out 2
      have c6_3 := blk_cell B6e.out 3
      have c6_4 := blk_cell B6e.out 4
      simp only [List.getElem?_toArray, List.getElem?_cons_zero, List.getElem?_cons_succ] at c6_0 c6_1 c6_2 c6_3 c6_4
      go_wp2_with fail
      with_reducible refine (below1_calls g ga x a lu ru ht c1 v1 q1 (wrap64 (n + 1)) 0 (ordF x a) _ BN8.out BA8.out hox.out).mono ?_
      rintro e w9 ⟨rfl, hb9⟩
      have B6f := Aside0.mk (blk_below B6e.out hb9)
      have B5f := Aside0.mk (blk_below B5e.out hb9)
      have B4f := Aside0.mk (blk_below B4e.out hb9)
      have HB9 : Aside0 (Below w.heap.size w w9) := ⟨below_step HB8.out hb9⟩
      have BN9 := Aside0.mk ((HB9.out.block g hml.out.2).trans BN.out)
      clear hb9 B6e B5e B4e HB8 BN8 BA8 c6_0 c6_1 c6_2 c6_3 c6_4
      have n0_ := blk_cell BN9.out 0
      have n1_ := blk_cell BN9.out 1
      have n2_ := blk_cell BN9.out 2
      have n3_ := blk_cell BN9.out 3
      have n4_ := blk_cell BN9.out 4
      simp only [List.getElem?_toArray, List.getElem?_cons_zero, List.getElem?_cons_succ] at n0_ n1_ n2_ n3_ n4_
      by_cases hneg : ordF x a < 0
      · rw [if_pos hneg] at HD2
        have c6_0 := blk_cell B6f.out 0
        have c6_1 := blk_cell B6f.out 1
        have c6_2 := blk_cell B6f.out 2
        have c6_3 := blk_cell B6f.out 3
        have c6_4 := blk_cell B6f.out 4
        have c5_0 := blk_cell B5f.out 0
        have c5_1 := blk_cell B5f.out 1
        have c5_2 := blk_cell B5f.out 2
        have c5_3 := blk_cell B5f.out 3
        have c5_4 := blk_cell B5f.out 4
        have f5_0 := blk_frozen B5f.out 0
        have f5_1 := blk_frozen B5f.out 1
        have f5_2 := blk_frozen B5f.out 2
        have f5_3 := blk_frozen B5f.out 3
        have f5_4 := blk_frozen B5f.out 4
        simp only [List.getElem?_toArray, List.getElem?_cons_zero, List.getElem?_cons_succ] at c6_0 c6_1 c6_2 c6_3 c6_4 c5_0 c5_1 c5_2 c5_3 c5_4
        have hb9n : ∀ W : World, Below w.heap.size w W → W.cell? ⟨g, 0, none⟩ = some (.int .i64 x.f0) ∧ W.cell? ⟨g, 1, none⟩ = some (.int .i64 x.f1) ∧ W.cell? ⟨g, 2, none⟩ = some (.int .i64 x.f2) ∧ W.cell? ⟨g, 4, none⟩ = some (.pointer ru) := fun W hW => by
          have hq := (hW.block g hml.out.2).trans BN.out
          exact ⟨(blk_cell hq 0).trans rfl, (blk_cell hq 1).trans rfl, (blk_cell hq 2).trans rfl, (blk_cell hq 4).trans rfl⟩
        have H9N := Aside0.mk hb9n
        clear hb9n
        have BB : Aside0 (Below w.heap.size w (((((w9.setCell ⟨g5, 0, none⟩ (.int .i64 c1)).setCell ⟨g5, 1, none⟩ (.int .i64 v1)).setCell ⟨g5, 2, none⟩ (.int .i64 q1)).setCell ⟨g5, 3, none⟩ (.int .i64 (wrap64 (n + 1)))).setCell ⟨g5, 4, none⟩ (.int .i64 0)) ∧ (((((w9.setCell ⟨g5, 0, none⟩ (.int .i64 c1)).setCell ⟨g5, 1, none⟩ (.int .i64 v1)).setCell ⟨g5, 2, none⟩ (.int .i64 q1)).setCell ⟨g5, 3, none⟩ (.int .i64 (wrap64 (n + 1)))).setCell ⟨g5, 4, none⟩ (.int .i64 0)).heap[g5]? = some (.cells #[.int .i64 c1, .int .i64 v1, .int .i64 q1, .int .i64 (wrap64 (n + 1)), .int .i64 0] 73 (0, 0)) ∧ (((((w9.setCell ⟨g5, 0, none⟩ (.int .i64 c1)).setCell ⟨g5, 1, none⟩ (.int .i64 v1)).setCell ⟨g5, 2, none⟩ (.int .i64 q1)).setCell ⟨g5, 3, none⟩ (.int .i64 (wrap64 (n + 1)))).setCell ⟨g5, 4, none⟩ (.int .i64 0)).heap[g4]? = some (.cells #[.int .i64 0, .int .i64 0, .int .i64 0, .int .i64 0, .int .i64 0] 73 (0, 0))) := ⟨(below_set (below_set (below_set (below_set (below_set HB9.out G5.out) G5.out) G5.out) G5.out) G5.out), (blk_put (blk_put (blk_put (blk_put (blk_put B5f.out 0 _ rfl) 1 _ rfl) 2 _ rfl) 3 _ rfl) 4 _ rfl), (blk_far (blk_far (blk_far (blk_far (blk_far B4f.out N45.out _) N45.out _) N45.out _) N45.out _) N45.out _)⟩
        obtain ⟨m0_, m1_, m2_, m4_⟩ := H9N.out _ BB.out.1
        go_wp2_with (first
          | ((with_reducible refine gate_dst (N := 30) rfl ?_); refine Kd.R_lit k33 _ 33 ?hg (N := 30) ?hd (xs := [x]) (inner := [.int .i64 x.f0, .int .i64 x.f1, .int .i64 x.f2]) (ok := fun _ => True) (okp := fun _ => True) ?hr ?hp (fun _ hk => hk) trivial (Below.refl _ _) (Nat.le_refl _) (by simp) ?_; (case hd => rfl); (case hg => rfl); (case hr => first | (go_simp; done) | (go_simp; rfl)); (case hp => exact (Reps.c3 (show Kd.M k33 _ _ _ x [.int .i64 x.f0, .int .i64 x.f1, .int .i64 x.f2] from k33_mkM _ _ _ x) (Reps.none _ _))); intro v30 w10 hl hb10 hg_ hnew_; have HL10 := Aside0.mk hl; have B5g := Aside0.mk (blk_below BB.out.2.1 hb10); have B4g := Aside0.mk (blk_below BB.out.2.2 hb10); have HB10 : Aside0 (Below w.heap.size w w10) := ⟨below_step BB.out.1 hb10⟩; clear hl hb10 hg_ hnew_)
          | (go_at_call 132; with_reducible refine (add_calls g5 _ v30 [x] ⟨c1, v1, q1⟩ (wrap64 (n + 1)) 0 _ B5g.out HL10.out).mono ?_; rintro e w11 ⟨rfl, hb11, hf11, hk11⟩; have B5h := Aside0.mk hb11; have B4h := Aside0.mk (KeepBut.blk hk11 B4g.out N45.out (by simp)); have HB11 : Aside0 (Below w.heap.size w w11) := ⟨HB10.out.trans (hf11.mono G5.out)⟩; obtain ⟨p0_, p1_, p2_, p4_⟩ := H9N.out _ HB11.out; clear hb11 hf11 hk11))
        go_roundg r.sz
        case measure => have := HLL.out; omega
        case rel => exact ⟨ru, r, mm, g, _, _, by go_num, Nat.le_refl _, ⟨HR_.out, Nat.le_of_lt hml.out.2⟩, B5h, B4h, HB11, HD2, HOR, ⟨HLL.out.2.1⟩⟩
      · rw [if_neg hneg] at HD2
        have hneg2 : 0 ≤ ordF x a := by omega
        go_wp2
        go_roundg l.sz
        case measure => have := HLL.out; omega
        case rel => exact ⟨lu, l, lo, mm, ⟨c, v, q⟩, _, by go_num, Nat.le_refl _, ⟨HL.out, hml.out.1⟩, B5f, B4f, HB9, HD2, HOL, ⟨HLL.out.1⟩⟩
def belowO (l : List S33) (a : S33) : Bool := l.all fun x => (impl_Item_order.f 100 x.f0 x.f1 x.f2 a.f0 a.f1 a.f2).isSome
theorem belowO_ok {l : List S33} {a : S33} (h : belowO l a = true) : ∀ x ∈ l, impl_Item_order.f 100 x.f0 x.f1 x.f2 a.f0 a.f1 a.f2 = some (ordF x a) := fun x hx => by
  obtain ⟨r, hr⟩ := Option.isSome_iff_exists.1 (List.all_eq_true.1 h x hx)
  unfold ordF
  rw [hr]; rfl
def impl_TreeBelow.f (l0_0 : List S156) (a1_0 a1_1 a1_2 : Int) : Option (Int × Int × Int × Int × Int) :=
  (inF l0_0).bind fun p => if p.2 = true then (impl_ItemRight.f a1_0 a1_1 a1_2).bind fun b => if b = true then (if belowO p.1.items ⟨a1_0, a1_1, a1_2⟩ = true ∧ p.1.sz ≤ 1000 then
    some ((downF ⟨a1_0, a1_1, a1_2⟩ p.1 ⟨0, 0, 0⟩ 0).1.c, (downF ⟨a1_0, a1_1, a1_2⟩ p.1 ⟨0, 0, 0⟩ 0).1.v, (downF ⟨a1_0, a1_1, a1_2⟩ p.1 ⟨0, 0, 0⟩ 0).1.q, (downF ⟨a1_0, a1_1, a1_2⟩ p.1 ⟨0, 0, 0⟩ 0).2, 0) else none) else some (0, 0, 0, 0, 1) else some (0, 0, 0, 0, 1)
set_option maxHeartbeats 4000000 in
set_option maxRecDepth 100000 in
theorem impl_TreeBelow.calls (A0_0 : Option Addr) (c0_0 : Nat) (l0_0 : List S156) (a1_0 a1_1 a1_2 : Int) (r1 r2 r3 r4 r5 : Int) (w : World) (hr0_0 : Kd.C k156 w A0_0 l0_0.length l0_0) (hc0_0 : l0_0.length ≤ c0_0) (h : impl_TreeBelow.f l0_0 a1_0 a1_1 a1_2 = some (r1, r2, r3, r4, r5)) :
    Calls Try.prog 47 #[.agg #[.slice A0_0 l0_0.length c0_0], .agg #[.int .i64 a1_0, .int .i64 a1_1, .int .i64 a1_2]] w fun e w' => e = .returned (.agg #[.int .i64 r1, .int .i64 r2, .int .i64 r3, .int .i64 r4, .int .i64 r5]) ∧ Below w.heap.size w w' := by
  have hu64 := Try.underlying64
  have hu33 := Try.underlying33
  have hu73 := Try.underlying73
  unfold impl_TreeBelow.f at h
  obtain ⟨⟨t, b⟩, h1, h2⟩ := Option.bind_eq_some_iff.1 h
  have HR := Aside0.mk hr0_0
  have HC := Aside0.mk hc0_0
  have HI := Aside0.mk h1
  clear h h1 hr0_0 hc0_0
  cases b with
  | false =>
    rw [if_neg (by simp)] at h2
    simp only [Option.some.injEq, Prod.mk.injEq] at h2
    obtain ⟨rfl, rfl, rfl, rfl, rfl⟩ := h2
    go_enter Try.func47, Try.ntmps47
    go_wp2_with (first
      | ((with_reducible refine gate_dst (N := 2) rfl ?_); refine box_event ?hg (N := 2) ?hd (cs := #[.slice A0_0 l0_0.length c0_0]) (t := 64) ?hr ?_; (case hd => rfl); (case hg => rfl); (case hr => first | (go_simp; done) | (go_simp; rfl)); intro g2 hg2 w1 hbox hb_; have B2 := Aside0.mk hbox; have HB1 : Aside0 (Below w.heap.size w w1) := ⟨hb_⟩; have c2_0 := blk_cell hbox 0; simp only [List.getElem?_toArray, List.getElem?_cons_zero, List.getElem?_cons_succ] at c2_0; clear hbox hb_ hg2)
      | ((with_reducible refine gate_dst (N := 3) rfl ?_); refine box_event ?hg (N := 3) ?hd (cs := #[.int .i64 a1_0, .int .i64 a1_1, .int .i64 a1_2]) (t := 33) ?hr ?_; (case hd => rfl); (case hg => rfl); (case hr => first | (go_simp; done) | (go_simp; rfl)); intro g3 hg3 w2 hbox hb_; have B2b := Aside0.mk (blk_below B2.out hb_); have B3 := Aside0.mk hbox; have HB2 : Aside0 (Below w.heap.size w w2) := ⟨below_step HB1.out hb_⟩; have c2_0 := blk_cell B2b.out 0; simp only [List.getElem?_toArray, List.getElem?_cons_zero] at c2_0; have G3 : Aside0 (w.heap.size ≤ g3) := ⟨by rw [hg3]; exact HB1.out.size⟩; clear hbox hb_ hg3)
      | ((with_reducible refine gate_dst (N := 4) rfl ?_); refine box_event ?hg (N := 4) ?hd (cs := #[.int .i64 0, .int .i64 0, .int .i64 0, .int .i64 0, .int .i64 0]) (t := 73) ?hr ?_; (case hd => rfl); (case hg => rfl); (case hr => first | (go_simp; done) | (go_simp; rfl)); intro g4 hg4 w3 hbox hb_; have B2c := Aside0.mk (blk_below B2b.out hb_); have B3c := Aside0.mk (blk_below B3.out hb_); have B4 := Aside0.mk hbox; have HB3 : Aside0 (Below w.heap.size w w3) := ⟨below_step HB2.out hb_⟩; have c2_0 := blk_cell B2c.out 0; simp only [List.getElem?_toArray, List.getElem?_cons_zero] at c2_0; have G4 : Aside0 (w.heap.size ≤ g4) := ⟨by rw [hg4]; exact HB2.out.size⟩; have N34 : Aside0 (g4 ≠ g3) := ⟨fun e_ => by have := blk_lt B3.out; omega⟩; clear hbox hb_ hg4)
      | (go_at_call 95; with_reducible refine (treeIn_calls _ _ l0_0 t false _ ?side0 HC.out HI.out).mono ?_; (case side0 => exact Kd.C_below HR.out HB3.out); rintro e w4 ⟨u, rfl, hn1, hb_⟩; have HN := Aside0.mk hn1; have B3d := Aside0.mk (blk_below B3c.out hb_); have B4d := Aside0.mk (blk_below B4.out hb_); have HB4 : Aside0 (Below w.heap.size w w4) := ⟨below_step HB3.out hb_⟩; have c3_0 := blk_cell B3d.out 0; have c3_1 := blk_cell B3d.out 1; have c3_2 := blk_cell B3d.out 2; simp only [List.getElem?_toArray, List.getElem?_cons_zero, List.getElem?_cons_succ] at c3_0 c3_1 c3_2; have c4_0 := blk_cell B4d.out 0; have c4_1 := blk_cell B4d.out 1; have c4_2 := blk_cell B4d.out 2; have c4_3 := blk_cell B4d.out 3; have c4_4 := blk_cell B4d.out 4; simp only [List.getElem?_toArray, List.getElem?_cons_zero, List.getElem?_cons_succ] at c4_0 c4_1 c4_2 c4_3 c4_4; have f4_0 := blk_frozen B4d.out 0; have f4_1 := blk_frozen B4d.out 1; have f4_2 := blk_frozen B4d.out 2; have f4_3 := blk_frozen B4d.out 3; have f4_4 := blk_frozen B4d.out 4; clear hn1 hb_))
    refine bodyPost_ret (results_cell_row rfl _ _ g4 73 #[.int .i64 0, .int .i64 0, .int .i64 0, .int .i64 0, .int .i64 1] (0, 0) _ rfl (blk_put (blk_put (blk_put (blk_put (blk_put B4d.out 0 _ rfl) 1 _ rfl) 2 _ rfl) 3 _ rfl) 4 _ rfl) Try.underlying73 rfl (by kernel_rfl)) rfl ?_
    exact ⟨rfl, (below_set (below_set (below_set (below_set (below_set HB4.out G4.out) G4.out) G4.out) G4.out) G4.out)⟩
  | true =>
    rw [if_pos rfl] at h2
    obtain ⟨b, hir, h2⟩ := Option.bind_eq_some_iff.1 h2
    have HIR := Aside0.mk hir
    clear hir
    cases b with
    | false =>
      rw [if_neg (by simp)] at h2
      simp only [Option.some.injEq, Prod.mk.injEq] at h2
      obtain ⟨rfl, rfl, rfl, rfl, rfl⟩ := h2
      go_enter Try.func47, Try.ntmps47
      go_wp2_with (first
        | ((with_reducible refine gate_dst (N := 2) rfl ?_); refine box_event ?hg (N := 2) ?hd (cs := #[.slice A0_0 l0_0.length c0_0]) (t := 64) ?hr ?_; (case hd => rfl); (case hg => rfl); (case hr => first | (go_simp; done) | (go_simp; rfl)); intro g2 hg2 w1 hbox hb_; have B2 := Aside0.mk hbox; have HB1 : Aside0 (Below w.heap.size w w1) := ⟨hb_⟩; have c2_0 := blk_cell hbox 0; simp only [List.getElem?_toArray, List.getElem?_cons_zero, List.getElem?_cons_succ] at c2_0; clear hbox hb_ hg2)
        | ((with_reducible refine gate_dst (N := 3) rfl ?_); refine box_event ?hg (N := 3) ?hd (cs := #[.int .i64 a1_0, .int .i64 a1_1, .int .i64 a1_2]) (t := 33) ?hr ?_; (case hd => rfl); (case hg => rfl); (case hr => first | (go_simp; done) | (go_simp; rfl)); intro g3 hg3 w2 hbox hb_; have B2b := Aside0.mk (blk_below B2.out hb_); have B3 := Aside0.mk hbox; have HB2 : Aside0 (Below w.heap.size w w2) := ⟨below_step HB1.out hb_⟩; have c2_0 := blk_cell B2b.out 0; simp only [List.getElem?_toArray, List.getElem?_cons_zero] at c2_0; have G3 : Aside0 (w.heap.size ≤ g3) := ⟨by rw [hg3]; exact HB1.out.size⟩; clear hbox hb_ hg3)
        | ((with_reducible refine gate_dst (N := 4) rfl ?_); refine box_event ?hg (N := 4) ?hd (cs := #[.int .i64 0, .int .i64 0, .int .i64 0, .int .i64 0, .int .i64 0]) (t := 73) ?hr ?_; (case hd => rfl); (case hg => rfl); (case hr => first | (go_simp; done) | (go_simp; rfl)); intro g4 hg4 w3 hbox hb_; have B2c := Aside0.mk (blk_below B2b.out hb_); have B3c := Aside0.mk (blk_below B3.out hb_); have B4 := Aside0.mk hbox; have HB3 : Aside0 (Below w.heap.size w w3) := ⟨below_step HB2.out hb_⟩; have c2_0 := blk_cell B2c.out 0; simp only [List.getElem?_toArray, List.getElem?_cons_zero] at c2_0; have G4 : Aside0 (w.heap.size ≤ g4) := ⟨by rw [hg4]; exact HB2.out.size⟩; have N34 : Aside0 (g4 ≠ g3) := ⟨fun e_ => by have := blk_lt B3.out; omega⟩; clear hbox hb_ hg4)
        | (go_at_call 95; with_reducible refine (treeIn_calls _ _ l0_0 t true _ ?side0 HC.out HI.out).mono ?_; (case side0 => exact Kd.C_below HR.out HB3.out); rintro e w4 ⟨u, rfl, hn1, hb_⟩; have HN := Aside0.mk hn1; have B3d := Aside0.mk (blk_below B3c.out hb_); have B4d := Aside0.mk (blk_below B4.out hb_); have HB4 : Aside0 (Below w.heap.size w w4) := ⟨below_step HB3.out hb_⟩; have c3_0 := blk_cell B3d.out 0; have c3_1 := blk_cell B3d.out 1; have c3_2 := blk_cell B3d.out 2; simp only [List.getElem?_toArray, List.getElem?_cons_zero, List.getElem?_cons_succ] at c3_0 c3_1 c3_2; have c4_0 := blk_cell B4d.out 0; have c4_1 := blk_cell B4d.out 1; have c4_2 := blk_cell B4d.out 2; have c4_3 := blk_cell B4d.out 3; have c4_4 := blk_cell B4d.out 4; simp only [List.getElem?_toArray, List.getElem?_cons_zero, List.getElem?_cons_succ] at c4_0 c4_1 c4_2 c4_3 c4_4; have f4_0 := blk_frozen B4d.out 0; have f4_1 := blk_frozen B4d.out 1; have f4_2 := blk_frozen B4d.out 2; have f4_3 := blk_frozen B4d.out 3; have f4_4 := blk_frozen B4d.out 4; clear hn1 hb_)
        | (go_at_call 58; with_reducible refine (impl_ItemRight.calls a1_0 a1_1 a1_2 false _ HIR.out).mono ?_; rintro e w5 ⟨rfl, hb_⟩; have HN5 := Aside0.mk (HN.out.below hb_); have HS5 := Aside0.mk (hb_.size); have B3e := Aside0.mk (blk_below B3d.out hb_); have B4e := Aside0.mk (blk_below B4d.out hb_); have HB5 : Aside0 (Below w.heap.size w w5) := ⟨below_step HB4.out hb_⟩; have d4_0 := blk_cell B4e.out 0; have d4_1 := blk_cell B4e.out 1; have d4_2 := blk_cell B4e.out 2; have d4_3 := blk_cell B4e.out 3; have d4_4 := blk_cell B4e.out 4; simp only [List.getElem?_toArray, List.getElem?_cons_zero, List.getElem?_cons_succ] at d4_0 d4_1 d4_2 d4_3 d4_4; have h4_0 := blk_frozen B4e.out 0; have h4_1 := blk_frozen B4e.out 1; have h4_2 := blk_frozen B4e.out 2; have h4_3 := blk_frozen B4e.out 3; have h4_4 := blk_frozen B4e.out 4; clear hb_))
      refine bodyPost_ret (results_cell_row rfl _ _ g4 73 #[.int .i64 0, .int .i64 0, .int .i64 0, .int .i64 0, .int .i64 1] (0, 0) _ rfl (blk_put (blk_put (blk_put (blk_put (blk_put B4e.out 0 _ rfl) 1 _ rfl) 2 _ rfl) 3 _ rfl) 4 _ rfl) Try.underlying73 rfl (by kernel_rfl)) rfl ?_
      exact ⟨rfl, (below_set (below_set (below_set (below_set (below_set HB5.out G4.out) G4.out) G4.out) G4.out) G4.out)⟩
    | true =>
      rw [if_pos rfl] at h2
      by_cases hh : belowO t.items ⟨a1_0, a1_1, a1_2⟩ = true ∧ t.sz ≤ 1000
      · simp only at h2
        rw [if_pos hh] at h2
        have HO := Aside0.mk (belowO_ok hh.1)
        have HSZ := Aside0.mk hh.2
        obtain ⟨R, hR⟩ : ∃ R, downF ⟨a1_0, a1_1, a1_2⟩ t ⟨0, 0, 0⟩ 0 = R := ⟨_, rfl⟩
        rw [hR] at h2
        have HRR := Aside0.mk hR
        simp only [Option.some.injEq, Prod.mk.injEq] at h2
        obtain ⟨rfl, rfl, rfl, rfl, rfl⟩ := h2
        clear hR hh
        go_enter Try.func47, Try.ntmps47
        go_wp2_with (first
          | ((with_reducible refine gate_dst (N := 2) rfl ?_); refine box_event ?hg (N := 2) ?hd (cs := #[.slice A0_0 l0_0.length c0_0]) (t := 64) ?hr ?_; (case hd => rfl); (case hg => rfl); (case hr => first | (go_simp; done) | (go_simp; rfl)); intro g2 hg2 w1 hbox hb_; have B2 := Aside0.mk hbox; have HB1 : Aside0 (Below w.heap.size w w1) := ⟨hb_⟩; have c2_0 := blk_cell hbox 0; simp only [List.getElem?_toArray, List.getElem?_cons_zero, List.getElem?_cons_succ] at c2_0; clear hbox hb_ hg2)
          | ((with_reducible refine gate_dst (N := 3) rfl ?_); refine box_event ?hg (N := 3) ?hd (cs := #[.int .i64 a1_0, .int .i64 a1_1, .int .i64 a1_2]) (t := 33) ?hr ?_; (case hd => rfl); (case hg => rfl); (case hr => first | (go_simp; done) | (go_simp; rfl)); intro g3 hg3 w2 hbox hb_; have B2b := Aside0.mk (blk_below B2.out hb_); have B3 := Aside0.mk hbox; have HB2 : Aside0 (Below w.heap.size w w2) := ⟨below_step HB1.out hb_⟩; have c2_0 := blk_cell B2b.out 0; simp only [List.getElem?_toArray, List.getElem?_cons_zero] at c2_0; have G3 : Aside0 (w.heap.size ≤ g3) := ⟨by rw [hg3]; exact HB1.out.size⟩; clear hbox hb_ hg3)
          | ((with_reducible refine gate_dst (N := 4) rfl ?_); refine box_event ?hg (N := 4) ?hd (cs := #[.int .i64 0, .int .i64 0, .int .i64 0, .int .i64 0, .int .i64 0]) (t := 73) ?hr ?_; (case hd => rfl); (case hg => rfl); (case hr => first | (go_simp; done) | (go_simp; rfl)); intro g4 hg4 w3 hbox hb_; have B2c := Aside0.mk (blk_below B2b.out hb_); have B3c := Aside0.mk (blk_below B3.out hb_); have B4 := Aside0.mk hbox; have HB3 : Aside0 (Below w.heap.size w w3) := ⟨below_step HB2.out hb_⟩; have c2_0 := blk_cell B2c.out 0; simp only [List.getElem?_toArray, List.getElem?_cons_zero] at c2_0; have G4 : Aside0 (w.heap.size ≤ g4) := ⟨by rw [hg4]; exact HB2.out.size⟩; have N34 : Aside0 (g4 ≠ g3) := ⟨fun e_ => by have := blk_lt B3.out; omega⟩; clear hbox hb_ hg4)
          | (go_at_call 95; with_reducible refine (treeIn_calls _ _ l0_0 t true _ ?side0 HC.out HI.out).mono ?_; (case side0 => exact Kd.C_below HR.out HB3.out); rintro e w4 ⟨u, rfl, hn1, hb_⟩; have HN := Aside0.mk hn1; have B3d := Aside0.mk (blk_below B3c.out hb_); have B4d := Aside0.mk (blk_below B4.out hb_); have HB4 : Aside0 (Below w.heap.size w w4) := ⟨below_step HB3.out hb_⟩; have c3_0 := blk_cell B3d.out 0; have c3_1 := blk_cell B3d.out 1; have c3_2 := blk_cell B3d.out 2; simp only [List.getElem?_toArray, List.getElem?_cons_zero, List.getElem?_cons_succ] at c3_0 c3_1 c3_2; have c4_0 := blk_cell B4d.out 0; have c4_1 := blk_cell B4d.out 1; have c4_2 := blk_cell B4d.out 2; have c4_3 := blk_cell B4d.out 3; have c4_4 := blk_cell B4d.out 4; simp only [List.getElem?_toArray, List.getElem?_cons_zero, List.getElem?_cons_succ] at c4_0 c4_1 c4_2 c4_3 c4_4; have f4_0 := blk_frozen B4d.out 0; have f4_1 := blk_frozen B4d.out 1; have f4_2 := blk_frozen B4d.out 2; have f4_3 := blk_frozen B4d.out 3; have f4_4 := blk_frozen B4d.out 4; clear hn1 hb_)
          | (go_at_call 58; with_reducible refine (impl_ItemRight.calls a1_0 a1_1 a1_2 true _ HIR.out).mono ?_; rintro e w5 ⟨rfl, hb_⟩; have HN5 := Aside0.mk (HN.out.below hb_); have HS5 := Aside0.mk (hb_.size); have B3e := Aside0.mk (blk_below B3d.out hb_); have B4e := Aside0.mk (blk_below B4d.out hb_); have HB5 : Aside0 (Below w.heap.size w w5) := ⟨below_step HB4.out hb_⟩; have d4_0 := blk_cell B4e.out 0; have d4_1 := blk_cell B4e.out 1; have d4_2 := blk_cell B4e.out 2; have d4_3 := blk_cell B4e.out 3; have d4_4 := blk_cell B4e.out 4; simp only [List.getElem?_toArray, List.getElem?_cons_zero, List.getElem?_cons_succ] at d4_0 d4_1 d4_2 d4_3 d4_4; have h4_0 := blk_frozen B4e.out 0; have h4_1 := blk_frozen B4e.out 1; have h4_2 := blk_frozen B4e.out 2; have h4_3 := blk_frozen B4e.out 3; have h4_4 := blk_frozen B4e.out 4; clear hb_)
          | (go_at_call 101; with_reducible refine (down_calls t u w3.heap.size w4.heap.size g3 ⟨a1_0, a1_1, a1_2⟩ _ HN5.out HS5.out B3e.out HO.out HSZ.out R HRR.out).mono ?_; rintro e w6 ⟨rfl, hb_⟩; have B4f := Aside0.mk (blk_below B4e.out hb_); have HB6 : Aside0 (Below w.heap.size w w6) := ⟨below_step HB5.out hb_⟩; have e4_0 := blk_cell B4f.out 0; have e4_1 := blk_cell B4f.out 1; have e4_2 := blk_cell B4f.out 2; have e4_3 := blk_cell B4f.out 3; have e4_4 := blk_cell B4f.out 4; simp only [List.getElem?_toArray, List.getElem?_cons_zero, List.getElem?_cons_succ] at e4_0 e4_1 e4_2 e4_3 e4_4; have i4_0 := blk_frozen B4f.out 0; have i4_1 := blk_frozen B4f.out 1; have i4_2 := blk_frozen B4f.out 2; have i4_3 := blk_frozen B4f.out 3; have i4_4 := blk_frozen B4f.out 4; clear hb_))
        refine bodyPost_ret (results_cell_row rfl _ _ g4 73 #[.int .i64 R.1.c, .int .i64 R.1.v, .int .i64 R.1.q, .int .i64 R.2, .int .i64 0] (0, 0) _ rfl (blk_put (blk_put (blk_put (blk_put (blk_put B4f.out 0 _ rfl) 1 _ rfl) 2 _ rfl) 3 _ rfl) 4 _ rfl) Try.underlying73 rfl (by kernel_rfl)) rfl ?_
        exact ⟨rfl, (below_set (below_set (below_set (below_set (below_set HB6.out G4.out) G4.out) G4.out) G4.out) G4.out)⟩
      · simp only at h2
        rw [if_neg hh] at h2
        cases h2

end Go.Proofs.Ytenlceojmjkbkaa.XFnExactTreeBelow
