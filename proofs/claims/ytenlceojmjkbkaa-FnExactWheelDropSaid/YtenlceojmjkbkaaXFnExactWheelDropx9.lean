/- Functions that FnExactWheelDrop comes to, as Lean functions with their contracts: written by the prover's own program (wip/tpl/myprint.py) over the kit's printer, some contracts by hand. Conditions: none. -/
import Derived.Test.YtenlceojmjkbkaaXFnExactWheelDropx0
import Derived.Test.YtenlceojmjkbkaaXFnExactWheelDropx1
import Derived.Test.YtenlceojmjkbkaaXFnExactWheelDropx2
import Derived.Test.YtenlceojmjkbkaaXFnExactWheelDropx4
import Derived.Test.YtenlceojmjkbkaaXFnExactWheelDropx5
import Derived.Test.YtenlceojmjkbkaaXFnExactWheelDropx6
import Derived.Test.YtenlceojmjkbkaaXFnExactWheelDropx7
import Derived.Test.YtenlceojmjkbkaaXFnExactWheelDropx8
namespace Go.Proofs.Ytenlceojmjkbkaa.XFnExactWheelDrop
open Go.RowKit Go.Proofs.YtenlceojmjkbkaaW.PrintWords Go.Proofs.YtenlceojmjkbkaaW.PrintLast Go.Proofs.YtenlceojmjkbkaaW.PrintMore
attribute [local go_sem] max2_int min2_int max_two min_two max_three min_three max_four min_four   -- for this text's walks alone
set_option linter.unusedVariables false
set_option linter.unusedSimpArgs false

/-! ### impl_Timer_84: function 84 -/
/-- A block of cells lies on while blocks that are no cells turn. -/
theorem R_tail {α : Type} {d : Kd α} {e base g n cap : Nat} {ok : Nat → Prop} {W : World} {xs : List α} (h : d.R e W base ok (.slice (some ⟨g, 0, none⟩) n cap) xs) (i : Nat) (hi : i ≤ n) (seg : List Value) (hl : i * d.sz + seg.length ≤ n * d.sz) :
  d.R e (W.setCells g (i * d.sz) seg) base ok (.slice (some ⟨g, 0, none⟩) i cap) (xs.take i) ∧ W.grownBy (W.setCells g (i * d.sz) seg) (some g) := by
 obtain ⟨hn, hnc, _⟩ := Kd.R_reads' h
 have h2 := Kd.R_take h (m := i) (by omega)
 obtain ⟨hok, inner, ho, hr⟩ := h2
 obtain ⟨ho1, ho2⟩ := ho
 rcases ho2 with ⟨hv, _⟩ | ⟨g', cap', cur, hv, hb, hh, hnc', hcm, hcs, ht⟩
 ·
  cases hv
 injection hv with ha hlen hc
 injection ha with ha
 injection ha with hg
 subst hg; subst hc
 have hfit : i * d.sz + seg.length ≤ cur.size := by
  have : n * d.sz ≤ cap * d.sz := Nat.mul_le_mul_right _ hnc
  omega
 obtain ⟨cur', h3, h4, h5⟩ := setCells_row seg (i * d.sz) W cur hh hfit
 obtain ⟨s1, s2, s3, s4⟩ := setCells_same g seg (i * d.sz) W
 have hfar : ∀ k, k ≠ g → (W.setCells g (i * d.sz) seg).heap[k]? = W.heap[k]? := fun k hk => setCells_far seg _ k hk
 refine ⟨⟨hok, inner, ⟨ho1, .inr ⟨g, cap, cur', by rw [← hlen], hb, h3, hnc', hcm, by rw [h4, hcs], ?_⟩⟩, hr.imp_ (fun _ _ hp => d.M_move (fun k hk => hfar k (fun he => hk.2 (by rw [he]; simp [Value.ownBlock]))) hp)⟩,
  ⟨s1, s2, s3, by rw [s4]; exact Nat.le_refl _, fun k _ hk => hfar k (fun he => hk (by rw [he]))⟩⟩
 rw [← ht, ← hlen]
 apply List.ext_getElem?
 intro q
 rw [List.getElem?_take, List.getElem?_take, h5]
 by_cases hq : q < i * d.sz
 ·
  rw [if_pos hq, if_pos hq, seg_get cur.toList seg (i * d.sz) (by rw [Array.length_toList]; omega) q, if_pos hq]
 ·
  rw [if_neg hq, if_neg hq]

/-- 'clear(s[i:])' at elements of three cells. -/
theorem clear_rec {α : Type} {d : Kd α} {base g n cap : Nat} {ok : Nat → Prop} {W : World} {xs : List α} {P : Program} (t e ty : TypeId) (z : Value) (ht : P.underlying t = some (.slice e)) (hv : ∀ w, (zeroValue e).run P w = .ok z w) (hz : z.cells.size = d.sz) (h1 : ∀ u ∈ z.cells.toList, u.oneCell' = true)
  (h : d.R e W base ok (.slice (some ⟨g, 0, none⟩) n cap) xs) (i : Nat) (hi : i < n) (hz0 : 0 < d.sz) :
  ∃ Z : List Value, Z.length = (n - i) * d.sz ∧ (Builtin.clear_ #[t] ty #[.slice (some ⟨g, i * d.sz, none⟩) (n - i) (cap - i)]).run P W = .ok (.tuple #[]) (W.setCells g (i * d.sz) Z) := by
 obtain ⟨hn, hnc, _⟩ := Kd.R_reads' h
 obtain ⟨hok, inner, ho, hr⟩ := h
 obtain ⟨ho1, ho2⟩ := ho
 rcases ho2 with ⟨hv, _⟩ | ⟨g', cap', cur, hv', hb, hh, hnc', hcm, hcs, ht'⟩
 ·
  cases hv
 injection hv' with ha hlen hc
 injection ha with ha
 injection ha with hg
 subst hg; subst hc
 have hle : n * d.sz ≤ cap * d.sz := Nat.mul_le_mul_right _ hnc
 have hsum : i * d.sz + (n - i) * d.sz = n * d.sz := by rw [← Nat.add_mul]; congr 1; omega
 have hZl : (Builtin.zeroCells z.cells (n - i)).toList.length = (n - i) * d.sz := by simp [Builtin.zeroCells, hz]
 refine ⟨(Builtin.zeroCells z.cells (n - i)).toList, hZl, ?_⟩
 have hst := run_storeCells_cells (P := P) g (i * d.sz) (Builtin.zeroCells z.cells (n - i)).toList 0 W
  (by
    intro j hj
    rw [hZl] at hj
    have hb' : i * d.sz + 0 + j < cur.size := by omega
    rw [cell_of_row W g _ cur e (0, 0) hh, Array.getElem?_eq_getElem hb']
    rfl)
  (by intro j hj; simp [World.frozen?, hh])
  (by
   intro u hu
   simp only [Builtin.zeroCells, Array.toList_map, List.mem_map, Array.toList_range, List.mem_range] at hu
   obtain ⟨q, hq, rfl⟩ := hu
   have : q % z.cells.size < z.cells.size := Nat.mod_lt _ (by omega)
   rw [getElem!_pos z.cells (q % z.cells.size) this]
   exact h1 _ (by simp))
 simp only [Nat.add_zero] at hst
 obtain ⟨m, hm⟩ : ∃ m, n - i = m + 1 := ⟨n - i - 1, by omega⟩
 rw [hm] at hst ⊢
 simp [Builtin.clear_, run_underlying ht, hv, hst]

theorem setCells_two {w : World} {g : Nat} {e : TypeId} {cur : Array Value} (h : w.heap[g]? = some (.cells cur e (0, 0))) (seg : List Value) (o : Nat) (ho : o + seg.length ≤ cur.size) :
  ∃ cur' : Array Value, (w.setCells g o seg).heap[g]? = some (.cells cur' e (0, 0)) ∧ cur'.size = cur.size ∧ cur'.toList = cur.toList.take o ++ seg ++ cur.toList.drop (o + seg.length) := setCells_row seg o w cur h ho


theorem flat91_append (l m : List S91) : flat91 (l ++ m) = flat91 l ++ flat91 m := by simp [flat91]
theorem flat91_one (l : List S91) : ∀ u ∈ flat91 l, u.oneCell' = true := by
 intro u hu
 obtain ⟨x, _, hx⟩ := List.mem_flatMap.1 hu
 exact enc_one x u hx
set_option maxHeartbeats 8000000 in
set_option maxRecDepth 100000 in
/-- slices.Delete of one element of a row of one's own. -/
theorem delete_calls (base g cap : Nat) (l : List S91) (i : Nat) (w : World) (ho : k91.R 91 w base (fun _ => True) (.slice (some ⟨g, 0, none⟩) l.length cap) l) (hi : i < l.length) (hl : l.length ≤ 1000) :
  Calls Try.prog 84 #[.slice (some ⟨g, 0, none⟩) l.length cap, .int .i64 (i : Nat), .int .i64 ((i : Int) + 1)] w fun e w' => ∃ m, e = .returned (.slice (some ⟨g, 0, none⟩) m cap) ∧ k91.R 91 w' base (fun _ => True) (.slice (some ⟨g, 0, none⟩) m cap) (l.take i ++ l.drop (i + 1)) ∧ w.grownBy w' (some g) := by
 have hu43 := Try.underlying43
 have hO := R_flat ho
 obtain ⟨_, ho2⟩ := hO
 rcases ho2 with ⟨hv, _⟩ | ⟨g', cap', cur, hv, hb, hh, hnc, hcm, hcs, ht⟩
 ·
  cases hv
 injection hv with ha _ hc
 injection ha with ha
 injection ha with hg
 subst hg; subst hc
 obtain ⟨news, hnews⟩ : ∃ news, news = flat91 (l.drop (i + 1)) := ⟨_, rfl⟩
 have hnl : news.length = (l.length - (i + 1)) * 2 := by rw [hnews, flat91_length, List.length_drop]
 have hft : (flat91 (l.take i)).length = i * 2 := by rw [flat91_length, List.length_take, Nat.min_eq_left (by omega)]
 have hf1 : (flat91 (l.take (i + 1))).length = (i + 1) * 2 := by rw [flat91_length, List.length_take, Nat.min_eq_left (by omega)]
 have hcw : w.drew.heap[g]? = some (.cells cur 91 (0, 0)) := hh
 obtain ⟨i0, hi0, hz⟩ := Option.map_eq_some_iff.1 info91
 simp only [Prod.mk.injEq] at hz
 have hcell : ∀ j u, news[j]? = some u → w.drew.cell? ((⟨g, (i + 1) * 2, none⟩ : Addr).add j) = some u := fun j u hj => by
  rw [Addr.add_lit, blk_cell hcw]
  have h1 : (flat91 l)[(i + 1) * 2 + j]? = some u := by
   have := List.take_append_drop (i + 1) l
   rw [← this, flat91_append, List.getElem?_append_right (by rw [hf1]; omega), hf1, Nat.add_sub_cancel_left, ← hnews]
   exact hj
  have hlt := (List.getElem?_eq_some_iff.1 hj).1
  rw [← ht, List.getElem?_take_of_lt (by omega)] at h1
  simpa using h1
 have hspare : ∀ j, j < news.length → (w.drew.cell? ⟨g, 0 + i * 2 + j, none⟩).isSome = true ∧ w.drew.frozen? ⟨g, 0 + i * 2 + j, none⟩ = false := fun j hj => by
  refine ⟨?_, blk_frozen hcw _⟩
  rw [blk_cell hcw, Array.getElem?_eq_getElem (by rw [hcs]; omega)]
  rfl
 obtain ⟨cur1, h1a, h1b, h1c⟩ := setCells_two hcw news (0 + i * 2) (by rw [hcs]; omega)
 obtain ⟨W1, hW1⟩ : ∃ W1, W1 = w.drew.setCells g (0 + i * 2) news := ⟨_, rfl⟩
 have hB1 : w.grownBy W1 (some g) := by
  obtain ⟨s1, s2, s3, s4⟩ := setCells_same g news (0 + i * 2) w.drew
  rw [hW1]
  refine ⟨s1, s2, s3, by rw [s4]; exact Nat.le_refl _, fun k hk hn => ?_⟩
  rw [setCells_far _ _ k (fun e => hn (by rw [e]))]
  rfl
 obtain ⟨xs, hxs⟩ : ∃ xs, xs = (l.take i ++ l.drop (i + 1)) ++ l.drop (l.length - 1) := ⟨_, rfl⟩
 have hlen : xs.length = l.length := by rw [hxs]; simp; omega
 have hfl := flat91_length l
 have hA : cur.toList.take (0 + i * 2) = flat91 (l.take i) := by
  have h1 : (cur.toList.take (l.length * 2)).take (i * 2) = (flat91 l).take (i * 2) := by rw [ht]
  rw [List.take_take, Nat.min_eq_left (by omega)] at h1
  rw [Nat.zero_add, h1]
  have := congrArg (List.take (i * 2)) (congrArg flat91 (List.take_append_drop i l))
  rw [flat91_append, List.take_append_of_le_length (by rw [hft]; exact Nat.le_refl _), List.take_of_length_le (by rw [hft]; exact Nat.le_refl _)] at this
  exact this.symm
 have hfd : (flat91 (l.take (l.length - 1))).length = (l.length - 1) * 2 := by rw [flat91_length, List.length_take, Nat.min_eq_left (by omega)]
 have hD : (cur.toList.drop ((l.length - 1) * 2)).take 2 = flat91 (l.drop (l.length - 1)) := by
  have h1 : (cur.toList.take (l.length * 2)).drop ((l.length - 1) * 2) = (flat91 l).drop ((l.length - 1) * 2) := by rw [ht]
  rw [List.drop_take, show l.length * 2 - (l.length - 1) * 2 = 2 by omega] at h1
  rw [h1]
  have := congrArg (List.drop ((l.length - 1) * 2)) (congrArg flat91 (List.take_append_drop (l.length - 1) l))
  rw [flat91_append, ← hfd, List.drop_append_of_le_length (Nat.le_refl _), List.drop_length, List.nil_append, hfd] at this
  exact this.symm
 have hR1 : k91.R 91 W1 base (fun _ => True) (.slice (some ⟨g, 0, none⟩) l.length cap) xs := by
  rw [hW1, ← hlen]
  refine flat_R ⟨by rw [flat91_length], .inr ⟨g, cap, cur1, rfl, hb, h1a, by omega, hcm, by rw [h1b, hcs], ?_⟩⟩ (fun _ _ => trivial)
  rw [h1c, hA, hlen, hxs, flat91_append, flat91_append, ← hnews]
  have hAl : (flat91 (l.take i) ++ news).length = (l.length - 1) * 2 := by rw [List.length_append, hft, hnl]; omega
  rw [List.take_append, List.take_of_length_le (by rw [hAl]; omega), hAl, show l.length * 2 - (l.length - 1) * 2 = 2 by omega, show 0 + i * 2 + news.length = (l.length - 1) * 2 by omega, hD]
 obtain ⟨Z, hZl, hclr⟩ := clear_rec 43 91 0 _ Try.underlying43 Try.zeroValue91 rfl (by decide) hR1 (l.length - 1) (by omega) (show 0 < 2 by decide)
 rw [show k91.sz = 2 from rfl] at hZl hclr
 have hR2 := (R_tail hR1 (l.length - 1) (by omega) Z (by rw [hZl, show k91.sz = 2 from rfl]; omega)).1
 have hxt : xs.take (l.length - 1) = l.take i ++ l.drop (i + 1) := by
  rw [hxs, List.take_append_of_le_length (by simp; omega), List.take_of_length_le (by simp; omega)]
 rw [hxt, show k91.sz = 2 from rfl] at hR2
 have hB2 : w.grownBy (W1.setCells g ((l.length - 1) * 2) Z) (some g) := by
  obtain ⟨s1, s2, s3, s4⟩ := setCells_same g Z ((l.length - 1) * 2) W1
  refine ⟨s1.trans hB1.os, s2.trans hB1.tape, s3.trans hB1.output, by rw [s4]; exact hB1.size, fun k hk hn => ?_⟩
  rw [setCells_far _ _ k (fun e => hn (by rw [e]))]
  exact hB1.block k hk hn
 have HF := Aside0.mk hR2
 have HB := Aside0.mk hB2
 have hone : ∀ u ∈ news, u.oneCell' = true := by rw [hnews]; exact flat91_one _
 have hroom : i + (l.length - (i + 1)) ≤ cap := by omega
 have hsum : i + (l.length - (i + 1)) = l.length - 1 := by omega
 have hsz := hz.2.1
 clear ho hh ht hcs hz hR1 hR2 hB1 hB2 hxt hA hD hfl hft hf1 hfd hcw h1a h1b h1c hxs hZl hlen
 have e1 : ¬ ((i : Int) = (i : Int) + 1) := by omega
 have e2 : (i : Int) + 1 ≤ (l.length : Int) := by omega
 have e3 : ((i : Int) + 1).toNat = i + 1 := by omega
 have e4 : i ≤ l.length := by omega
 have e5 : i ≤ cap := by omega
 have e6 : i + 1 ≤ l.length := by omega
 have e7 : l.length ≤ cap := by omega
 have e8 : ¬ cap = l.length - 1 := by omega
 have e9 : l.length - 1 ≤ l.length := by omega
 have e10 : (i : Int) ≤ (i : Int) + 1 := by omega
 have e11 : (0 : Int) ≤ (i : Int) + 1 := by omega
 by_cases hcap : cap = i + 1
 ·
  have hn0 : news = [] := List.length_eq_zero_iff.1 (by rw [hnl]; omega)
  have hl1 : l.length = i + 1 := by omega
  have hW2 : W1 = w.drew := by rw [hW1, hn0]; rfl
  subst hcap
  rw [hW2] at hclr HF HB
  rw [hl1] at hclr HF HB hnc ⊢
  rw [Nat.add_sub_cancel] at hclr HF HB
  rw [show i + 1 - i = 1 by omega] at hclr
  clear hcell hspare hone hroom hnl hnews hW1 hW2 hn0 e1 e2 e3 e4 e5 e6 e7 e8 e9 e10 e11 hsum hi0 hsz
  have f1 : ¬ ((i : Int) = (i : Int) + 1) := by omega
  have f2 : i ≤ i + 1 := by omega
  have f3 : (i : Int) ≤ (i : Int) + 1 := by omega
  have f4 : ((i : Int) + 1).toNat = i + 1 := by omega
  have f5 : (0 : Int) ≤ (i : Int) + 1 := by omega
  have f6 : i + 1 - i = 1 := by omega
  go_enter Try.func84, Try.ntmps84
  go_wp2
  go_region_law (fail)
  go_wp2
  go_ret
  exact ⟨_, rfl, HF.out, HB.out⟩
 ·
  skip
  go_enter Try.func84, Try.ntmps84
  go_wp2
  go_region_law (refine step_append_room (by rfl) (.tmp 22) (.tmp 25) 43 (by rfl) 91 i0 2 Try.underlying43 hi0 hsz g 0 i cap (by rfl) ⟨g, (i + 1) * 2, none⟩ (l.length - (i + 1)) (cap - (i + 1)) news (by rfl) hnl hcell hone hroom hspare ?_)
  have hW1' : w.drew.setCells g (i * 2) (flat91 (List.drop (i + 1) l)) = W1 := by rw [hW1, hnews, Nat.zero_add]
  rw [hW1']
  clear hcell hspare hone hroom hnl hnews hW1 hW1' hi0 hsz
  go_wp2
  go_ret
  exact ⟨_, rfl, HF.out, HB.out⟩
def impl_Timer_84.f (l0 : List S91) (a1 a2 : Int) : Option (List S91) := if 0 ≤ a1 ∧ a1 < l0.length ∧ a2 = a1 + 1 ∧ l0.length ≤ 1000 then some (l0.take a1.toNat ++ l0.drop (a1.toNat + 1)) else none
theorem impl_Timer_84.calls (P0_ : Nat → Prop) (u9000_ : Value) (l0 : List S91) (a1 a2 : Int) (r : List S91) (w0 w : World) (hB : Below w0.heap.size w0 w) (ho0 : Kd.R k91 91 w w0.heap.size P0_ u9000_ l0) (h : impl_Timer_84.f l0 a1 a2 = some r) :
  Calls Try.prog 84 #[u9000_, .int .i64 a1, .int .i64 a2] w fun e w' => ∃ v0_ : Value, e = .returned v0_ ∧ Kd.R k91 91 w' w0.heap.size (fun k_ => (P0_ k_ ∨ w.heap.size ≤ k_)) v0_ r ∧ Below w0.heap.size w0 w' ∧ Kept w w' (fun k_ => P0_ k_) := by
 unfold impl_Timer_84.f at h
 split at h
 ·
  rename_i hc
  obtain ⟨h0, h1, rfl, h3⟩ := hc
  obtain rfl := Option.some.inj h
  obtain ⟨i, rfl⟩ : ∃ i : Nat, a1 = i := ⟨a1.toNat, by omega⟩
  obtain ⟨g, cap, rfl, gb, gl, _⟩ := Kd.R_form ho0 (by omega)
  refine (delete_calls w0.heap.size g cap l0 i w (Kd.R_mono ho0 (fun _ _ => trivial)) (by omega) h3).mono ?_
  rintro e w' ⟨m, rfl, hR, hg⟩
  have hPg : P0_ g := ho0.1 g (by simp [Value.ownBlock])
  refine ⟨_, rfl, flat_R (R_flat hR) (fun k hk => .inl ?_), pw_below_grown hB _ hB.size hg (fun k hk => by cases hk; exact gb), ⟨hg.size, fun k hk hn => hg.block k hk (fun he => hn (by cases he; exact hPg))⟩⟩
  have : g = k := by simpa [Value.ownBlock] using hk
  rw [← this]; exact hPg
 ·
  cases h

/-! ### impl_WheelDrop: function 30 -/
theorem alloc_sz (w : World) (o : Obj) : (w.alloc o).heap.size = w.heap.size + 1 := by simp
def idxW (id : Int) : List S91 → Option Nat
 | [] => none
 | x :: l => if x.f0 = id then some 0 else (idxW id l).map (· + 1)
theorem idxW_none {id : Int} : ∀ {l : List S91}, (∀ x ∈ l, (x.f0 == id) = false) → idxW id l = none
 | [], _ => rfl
 | x :: l, h => by
  have h1 : ¬ x.f0 = id := by have := h x (List.mem_cons_self ..); simpa using this
  rw [idxW, if_neg h1, idxW_none (fun y hy => h y (List.mem_cons_of_mem _ hy))]
  rfl
theorem idxW_some {id : Int} : ∀ {l : List S91} {n : Nat} (hn : n < l.length), (l[n].f0 == id) = true → (∀ j (hj : j < n), (l[j].f0 == id) = false) → idxW id l = some n
 | [], _, hn, _, _ => by simp at hn
 | x :: l, 0, hn, h, _ => by
  have h1 : x.f0 = id := by simpa using h
  rw [idxW, if_pos h1]
 | x :: l, n + 1, hn, h, hj => by
  have h1 : ¬ x.f0 = id := by have := hj 0 (by omega); simpa using this
  have hn' : n < l.length := by simpa using hn
  rw [idxW, if_neg h1, idxW_some hn' (by simpa using h) (fun j hj' => by have := hj (j + 1) (by omega); simpa using this)]
  rfl
theorem idxW_of {id : Int} {l : List S91} {ix : Int} (h : idxI (fun t => t.f0 == id) l ix) : ix = (match idxW id l with | none => -1 | some n => (n : Int)) := by
 rcases h with ⟨rfl, h⟩ | ⟨n, rfl, hn, h, hj⟩
 ·
  rw [idxW_none h]
 ·
  rw [rd_mem hn] at h
  rw [idxW_some hn h (fun j hj' => by have := hj j hj'; rwa [rd_mem (by omega)] at this)]
set_option maxHeartbeats 4000000 in
theorem wdfun_calls (id : Int) (gb : Nat) (x : S91) (W : World) (hc : W.heap[gb]? = some (.cells #[.int .i64 id] 2 (0, 0))) : Calls Try.prog 82 #[.agg #[.int .i64 x.f0, .int .i64 x.f1], .pointer (some ⟨gb, 0, none⟩)] W fun e w' => e = .returned (.bool (x.f0 == id)) ∧ Below W.heap.size W w' := by
 have hu91 := Try.underlying91
 have hx := blk_cell hc 0
 simp only [List.getElem?_toArray, List.getElem?_cons_zero] at hx
 have hlt := blk_lt hc
 have hne : ¬ gb = W.heap.size := by omega
 clear hc
 go_enter Try.func82, Try.ntmps82
 go_wp2
 go_ret
 exact ⟨rfl, by repeat (first | exact Below.refl _ _ | apply below_alloc)⟩
theorem wdfun_ok (id : Int) (gb : Nat) (w0 : World) (hc : w0.heap[gb]? = some (.cells #[.int .i64 id] 2 (0, 0))) : PredOK (fun t => t.f0 == id) 82 #[.pointer (some ⟨gb, 0, none⟩)] w0.heap.size w0 :=
 fun W x hB => wdfun_calls id gb x W (blk_below hc hB)
def impl_WheelDrop.f (k : Nat) (a0 : Int) (l1 : List (List S91)) (l2 : List S91) (a1 : Int) : Option (Int × List (List S91) × List S91 × Int) :=
 (impl_WheelRight.f k a0 l1 l2).bind fun b => if b = false then some (0, [], [], 1) else
  (impl_Wheel_all.f a0 l1 l2).bind fun all => match idxW a1 all with
   | none => some (0, [], [], 4)
   | some i => (impl_Timer_84.f all (i : Nat) ((i : Int) + 1)).bind fun rest => (impl_wheelOf.f k a0 rest).bind fun x => some (x.1, x.2.1, x.2.2, 0)
set_option maxHeartbeats 8000000 in
set_option maxRecDepth 100000 in
theorem impl_WheelDrop.calls (k : Nat) (a0_0 : Int) (A0_1 : Option Addr) (c0_1 : Nat) (l0_1 : List (List S91)) (A0_2 : Option Addr) (c0_2 : Nat) (l0_2 : List S91) (a1 : Int) (r1 : Int) (r2 : List (List S91)) (r3 : List S91) (r5 : Int) (w : World) (hr0_1 : Kd.C (Kd.slice 91 k91) w A0_1 l0_1.length l0_1) (hc0_1 : l0_1.length ≤ c0_1) (hr0_2 : Kd.C k91 w A0_2 l0_2.length l0_2) (hc0_2 : l0_2.length ≤ c0_2) (h : impl_WheelDrop.f k a0_0 l0_1 l0_2 a1 = some (r1, r2, r3, r5)) :
  Calls Try.prog 30 #[.agg #[.int .i64 a0_0, .slice A0_1 l0_1.length c0_1, .slice A0_2 l0_2.length c0_2], .int .i64 a1] w fun e w' => ∃ v1_ v2_ : Value, e = .returned (.agg #[.int .i64 r1, v1_, v2_, .slice none 0 0, .int .i64 r5]) ∧ Kd.S (Kd.slice 91 k91) 43 w' w.heap.size (fun k_ => some k_ ≠ (v2_ : Value).ownBlock) v1_ r2 ∧ Kd.R k91 91 w' w.heap.size (fun _ => True) v2_ r3 ∧ Below w.heap.size w w' := by
 have hu45 := Try.underlying45
 have hu51 := Try.underlying51
 unfold impl_WheelDrop.f at h
 obtain ⟨b, hb, h⟩ := Option.bind_eq_some_iff.1 h
 have HR1 := Aside0.mk hr0_1
 have HC1 := Aside0.mk hc0_1
 have HR2 := Aside0.mk hr0_2
 have HC2 := Aside0.mk hc0_2
 have HRIGHT := Aside0.mk hb
 clear hr0_1 hc0_1 hr0_2 hc0_2 hb
 cases b with
 | false =>
  rw [if_pos rfl] at h
  simp only [Option.some.injEq, Prod.mk.injEq] at h
  obtain ⟨rfl, rfl, rfl, rfl⟩ := h
  go_enter Try.func30, Try.ntmps30
  go_wp2_with (go_at_call 25; with_reducible refine (impl_WheelRight.calls k a0_0 _ _ l0_1 _ _ l0_2 false _ ?side0 HC1.out ?side1 HC2.out HRIGHT.out).mono ?_; (case side0 => exact Kd.C_alloc (Kd.C_alloc (Kd.C_alloc HR1.out _) _) _); (case side1 => exact Kd.C_alloc (Kd.C_alloc (Kd.C_alloc HR2.out _) _) _); rintro e w1 ⟨rfl, hb1⟩; have HN : Aside0 (w.heap.size + 3 ≤ w1.heap.size) := ⟨by have := hb1.size; simpa using this⟩; have hbk := blk_below (blk_alloc (blk_alloc (heap_alloc_new w (.cells #[.int .i64 a0_0, .slice A0_1 l0_1.length c0_1, .slice A0_2 l0_2.length c0_2] 45 (0, 0))) (.cells #[.int .i64 a1] 2 (0, 0))) (.cells #[.int .i64 0, .slice none 0 0, .slice none 0 0, .slice none 0 0, .int .i64 0] 51 (0, 0))) hb1; have hbi := blk_below (blk_alloc (heap_alloc_new (w.alloc (.cells #[.int .i64 a0_0, .slice A0_1 l0_1.length c0_1, .slice A0_2 l0_2.length c0_2] 45 (0, 0))) (.cells #[.int .i64 a1] 2 (0, 0))) (.cells #[.int .i64 0, .slice none 0 0, .slice none 0 0, .slice none 0 0, .int .i64 0] 51 (0, 0))) hb1; have hbo := blk_below (heap_alloc_new ((w.alloc (.cells #[.int .i64 a0_0, .slice A0_1 l0_1.length c0_1, .slice A0_2 l0_2.length c0_2] 45 (0, 0))).alloc (.cells #[.int .i64 a1] 2 (0, 0))) (.cells #[.int .i64 0, .slice none 0 0, .slice none 0 0, .slice none 0 0, .int .i64 0] 51 (0, 0))) hb1; simp only [alloc_sz] at hbi hbo; have BK1 := Aside0.mk hbk; have BI1 := Aside0.mk hbi; have BO1 := Aside0.mk hbo; have HB01 := Aside0.mk (below_step (below_alloc (below_alloc (below_alloc (Below.refl _ _) _) _) _) hb1 : Below w.heap.size w w1); clear hb1 hbk hbi hbo; have hk0 := blk_cell BK1.out 0; have hk1 := blk_cell BK1.out 1; have hk2 := blk_cell BK1.out 2; have ho0 := blk_cell BO1.out 0; have ho1 := blk_cell BO1.out 1; have ho2 := blk_cell BO1.out 2; have ho3 := blk_cell BO1.out 3; have ho4 := blk_cell BO1.out 4; have hg0 := blk_frozen BO1.out 0; have hg1 := blk_frozen BO1.out 1; have hg2 := blk_frozen BO1.out 2; have hg3 := blk_frozen BO1.out 3; have hg4 := blk_frozen BO1.out 4; simp only [List.getElem?_toArray, List.getElem?_cons_zero, List.getElem?_cons_succ] at hk0 hk1 hk2 ho0 ho1 ho2 ho3 ho4)
  refine bodyPost_ret (results_cell_row rfl _ _ (w.heap.size + 1 + 1) 51 #[.int .i64 0, .slice none 0 0, .slice none 0 0, .slice none 0 0, .int .i64 1] (0, 0) _ rfl (blk_put (cs := #[.int .i64 0, .slice none 0 0, .slice none 0 0, .slice none 0 0, .int .i64 0]) (cs' := #[.int .i64 0, .slice none 0 0, .slice none 0 0, .slice none 0 0, .int .i64 1]) (blk_put (cs := #[.int .i64 0, .slice none 0 0, .slice none 0 0, .slice none 0 0, .int .i64 0]) (cs' := #[.int .i64 0, .slice none 0 0, .slice none 0 0, .slice none 0 0, .int .i64 0]) (blk_put (cs := #[.int .i64 0, .slice none 0 0, .slice none 0 0, .slice none 0 0, .int .i64 0]) (cs' := #[.int .i64 0, .slice none 0 0, .slice none 0 0, .slice none 0 0, .int .i64 0]) (blk_put (cs := #[.int .i64 0, .slice none 0 0, .slice none 0 0, .slice none 0 0, .int .i64 0]) (cs' := #[.int .i64 0, .slice none 0 0, .slice none 0 0, .slice none 0 0, .int .i64 0]) (blk_put (cs := #[.int .i64 0, .slice none 0 0, .slice none 0 0, .slice none 0 0, .int .i64 0]) (cs' := #[.int .i64 0, .slice none 0 0, .slice none 0 0, .slice none 0 0, .int .i64 0]) BO1.out 0 (.int .i64 0) rfl) 1 (.slice none 0 0) rfl) 2 (.slice none 0 0) rfl) 3 (.slice none 0 0) rfl) 4 (.int .i64 1) rfl) Try.underlying51 rfl (by kernel_rfl)) rfl ?_
  exact ⟨_, _, rfl, Kd.S_nil _ _ _ _ _, Kd.R_nil _ _ _ _ _, (below_set (below_set (below_set (below_set (below_set HB01.out (by show w.heap.size ≤ w.heap.size + 1 + 1; omega)) (by show w.heap.size ≤ w.heap.size + 1 + 1; omega)) (by show w.heap.size ≤ w.heap.size + 1 + 1; omega)) (by show w.heap.size ≤ w.heap.size + 1 + 1; omega)) (by show w.heap.size ≤ w.heap.size + 1 + 1; omega))⟩
 | true =>
  rw [if_neg (by decide)] at h
  obtain ⟨all, hall, h⟩ := Option.bind_eq_some_iff.1 h
  have HALLF := Aside0.mk hall
  have ENT : Aside0 (∀ args w, (callFunc 82 args).run Try.prog w = .ok (.enter 82 args) w) := ⟨enters_of Try.func82 (by kernel_rfl) rfl⟩
  clear hall
  cases hidx : idxW a1 all with
  | none =>
   rw [hidx] at h
   simp only [Option.some.injEq, Prod.mk.injEq] at h
   obtain ⟨rfl, rfl, rfl, rfl⟩ := h
   have HIDX : Aside0 (∀ ix, idxI (fun t => t.f0 == a1) all ix → ix = -1) := ⟨fun ix hix => by rw [idxW_of hix, hidx]⟩
   clear hidx
   go_enter Try.func30, Try.ntmps30
   go_wp2_with (first
    | (go_at_call 25; with_reducible refine (impl_WheelRight.calls k a0_0 _ _ l0_1 _ _ l0_2 true _ ?side0 HC1.out ?side1 HC2.out HRIGHT.out).mono ?_; (case side0 => exact Kd.C_alloc (Kd.C_alloc (Kd.C_alloc HR1.out _) _) _); (case side1 => exact Kd.C_alloc (Kd.C_alloc (Kd.C_alloc HR2.out _) _) _); rintro e w1 ⟨rfl, hb1⟩; have HN : Aside0 (w.heap.size + 3 ≤ w1.heap.size) := ⟨by have := hb1.size; simpa using this⟩; have hbk := blk_below (blk_alloc (blk_alloc (heap_alloc_new w (.cells #[.int .i64 a0_0, .slice A0_1 l0_1.length c0_1, .slice A0_2 l0_2.length c0_2] 45 (0, 0))) (.cells #[.int .i64 a1] 2 (0, 0))) (.cells #[.int .i64 0, .slice none 0 0, .slice none 0 0, .slice none 0 0, .int .i64 0] 51 (0, 0))) hb1; have hbi := blk_below (blk_alloc (heap_alloc_new (w.alloc (.cells #[.int .i64 a0_0, .slice A0_1 l0_1.length c0_1, .slice A0_2 l0_2.length c0_2] 45 (0, 0))) (.cells #[.int .i64 a1] 2 (0, 0))) (.cells #[.int .i64 0, .slice none 0 0, .slice none 0 0, .slice none 0 0, .int .i64 0] 51 (0, 0))) hb1; have hbo := blk_below (heap_alloc_new ((w.alloc (.cells #[.int .i64 a0_0, .slice A0_1 l0_1.length c0_1, .slice A0_2 l0_2.length c0_2] 45 (0, 0))).alloc (.cells #[.int .i64 a1] 2 (0, 0))) (.cells #[.int .i64 0, .slice none 0 0, .slice none 0 0, .slice none 0 0, .int .i64 0] 51 (0, 0))) hb1; simp only [alloc_sz] at hbi hbo; have BK1 := Aside0.mk hbk; have BI1 := Aside0.mk hbi; have BO1 := Aside0.mk hbo; have HB01 := Aside0.mk (below_step (below_alloc (below_alloc (below_alloc (Below.refl _ _) _) _) _) hb1 : Below w.heap.size w w1); clear hb1 hbk hbi hbo; have hk0 := blk_cell BK1.out 0; have hk1 := blk_cell BK1.out 1; have hk2 := blk_cell BK1.out 2;  simp only [List.getElem?_toArray, List.getElem?_cons_zero, List.getElem?_cons_succ] at hk0 hk1 hk2 )
    | (go_at_call 73; with_reducible refine (impl_Wheel_all.calls a0_0 _ _ l0_1 _ _ l0_2 all _ ?side0 HC1.out ?side1 HC2.out HALLF.out).mono ?_; (case side0 => exact Kd.C_below HR1.out HB01.out); (case side1 => exact Kd.C_below HR2.out HB01.out); rintro e w2 ⟨v5, rfl, hr2, hb2⟩; obtain ⟨A5, c5, rfl⟩ := Kd.R_slice hr2; have HALL2 := Aside0.mk hr2; have HB12 := Aside0.mk hb2; clear hr2 hb2 hk0 hk1 hk2)
    | (go_at_call 81; with_reducible refine (IndexFunc_Timer (fun t => t.f0 == a1) 82 #[.pointer (some ⟨w.heap.size + 1, 0, none⟩)] w2.heap.size w2 ENT.out ?side0 A5 c5 all _ (Below.refl _ _) (Nat.le_refl _) (Kd.R_reads' HALL2.out).2.2).mono ?_; (case side0 => exact wdfun_ok a1 _ w2 (blk_below BI1.out HB12.out)); rintro e w3 ⟨ix, rfl, hix, hb3⟩; obtain rfl := HIDX.out ix hix; have HALL := Aside0.mk (Kd.R_below HALL2.out hb3); have HB13 := Aside0.mk (below_then HB12.out HB12.out.size hb3); have BK3 := Aside0.mk ((HB13.out.block w.heap.size (by have := HN.out; omega)).trans BK1.out); have BO3 := Aside0.mk ((HB13.out.block (w.heap.size + 1 + 1) (by have := HN.out; omega)).trans BO1.out); clear hb3 hix; have ho0 := blk_cell BO3.out 0; have ho1 := blk_cell BO3.out 1; have ho2 := blk_cell BO3.out 2; have ho3 := blk_cell BO3.out 3; have ho4 := blk_cell BO3.out 4; have hg0 := blk_frozen BO3.out 0; have hg1 := blk_frozen BO3.out 1; have hg2 := blk_frozen BO3.out 2; have hg3 := blk_frozen BO3.out 3; have hg4 := blk_frozen BO3.out 4; simp only [List.getElem?_toArray, List.getElem?_cons_zero, List.getElem?_cons_succ] at ho0 ho1 ho2 ho3 ho4))
   have HBW : Aside0 (Below w.heap.size w w3) := ⟨below_then HB01.out (by have := HN.out; omega) HB13.out⟩
   refine bodyPost_ret (results_cell_row rfl _ _ (w.heap.size + 1 + 1) 51 #[.int .i64 0, .slice none 0 0, .slice none 0 0, .slice none 0 0, .int .i64 4] (0, 0) _ rfl (blk_put (cs := #[.int .i64 0, .slice none 0 0, .slice none 0 0, .slice none 0 0, .int .i64 0]) (cs' := #[.int .i64 0, .slice none 0 0, .slice none 0 0, .slice none 0 0, .int .i64 4]) (blk_put (cs := #[.int .i64 0, .slice none 0 0, .slice none 0 0, .slice none 0 0, .int .i64 0]) (cs' := #[.int .i64 0, .slice none 0 0, .slice none 0 0, .slice none 0 0, .int .i64 0]) (blk_put (cs := #[.int .i64 0, .slice none 0 0, .slice none 0 0, .slice none 0 0, .int .i64 0]) (cs' := #[.int .i64 0, .slice none 0 0, .slice none 0 0, .slice none 0 0, .int .i64 0]) (blk_put (cs := #[.int .i64 0, .slice none 0 0, .slice none 0 0, .slice none 0 0, .int .i64 0]) (cs' := #[.int .i64 0, .slice none 0 0, .slice none 0 0, .slice none 0 0, .int .i64 0]) (blk_put (cs := #[.int .i64 0, .slice none 0 0, .slice none 0 0, .slice none 0 0, .int .i64 0]) (cs' := #[.int .i64 0, .slice none 0 0, .slice none 0 0, .slice none 0 0, .int .i64 0]) BO3.out 0 (.int .i64 0) rfl) 1 (.slice none 0 0) rfl) 2 (.slice none 0 0) rfl) 3 (.slice none 0 0) rfl) 4 (.int .i64 4) rfl) Try.underlying51 rfl (by kernel_rfl)) rfl ?_
   exact ⟨_, _, rfl, Kd.S_nil _ _ _ _ _, Kd.R_nil _ _ _ _ _, (below_set (below_set (below_set (below_set (below_set HBW.out (by show w.heap.size ≤ w.heap.size + 1 + 1; omega)) (by show w.heap.size ≤ w.heap.size + 1 + 1; omega)) (by show w.heap.size ≤ w.heap.size + 1 + 1; omega)) (by show w.heap.size ≤ w.heap.size + 1 + 1; omega)) (by show w.heap.size ≤ w.heap.size + 1 + 1; omega))⟩
  | some i =>
   rw [hidx] at h
   obtain ⟨rest, hdel, h⟩ := Option.bind_eq_some_iff.1 h
   obtain ⟨⟨x1, x2, x3⟩, hwof, h⟩ := Option.bind_eq_some_iff.1 h
   simp only [Option.some.injEq, Prod.mk.injEq] at h
   obtain ⟨rfl, rfl, rfl, rfl⟩ := h
   have HIDX : Aside0 (∀ ix, idxI (fun t => t.f0 == a1) all ix → ix = (i : Int)) := ⟨fun ix hix => by rw [idxW_of hix, hidx]⟩
   have HDEL := Aside0.mk hdel
   have HWOF := Aside0.mk hwof
   have hi : i < 1000 := by
    unfold impl_Timer_84.f at hdel
    split at hdel
    ·
     omega
    ·
     cases hdel
   have WI : Aside0 (wrap64 ((i : Int) + 1) = (i : Int) + 1) := ⟨by unfold wrap64; omega⟩
   clear hidx hdel hwof hi
   have hnn : ¬ ((i : Int) < 0) := by omega
   go_enter Try.func30, Try.ntmps30
   go_wp2_with (first
    | (go_at_call 25; with_reducible refine (impl_WheelRight.calls k a0_0 _ _ l0_1 _ _ l0_2 true _ ?side0 HC1.out ?side1 HC2.out HRIGHT.out).mono ?_; (case side0 => exact Kd.C_alloc (Kd.C_alloc (Kd.C_alloc HR1.out _) _) _); (case side1 => exact Kd.C_alloc (Kd.C_alloc (Kd.C_alloc HR2.out _) _) _); rintro e w1 ⟨rfl, hb1⟩; have HN : Aside0 (w.heap.size + 3 ≤ w1.heap.size) := ⟨by have := hb1.size; simpa using this⟩; have hbk := blk_below (blk_alloc (blk_alloc (heap_alloc_new w (.cells #[.int .i64 a0_0, .slice A0_1 l0_1.length c0_1, .slice A0_2 l0_2.length c0_2] 45 (0, 0))) (.cells #[.int .i64 a1] 2 (0, 0))) (.cells #[.int .i64 0, .slice none 0 0, .slice none 0 0, .slice none 0 0, .int .i64 0] 51 (0, 0))) hb1; have hbi := blk_below (blk_alloc (heap_alloc_new (w.alloc (.cells #[.int .i64 a0_0, .slice A0_1 l0_1.length c0_1, .slice A0_2 l0_2.length c0_2] 45 (0, 0))) (.cells #[.int .i64 a1] 2 (0, 0))) (.cells #[.int .i64 0, .slice none 0 0, .slice none 0 0, .slice none 0 0, .int .i64 0] 51 (0, 0))) hb1; have hbo := blk_below (heap_alloc_new ((w.alloc (.cells #[.int .i64 a0_0, .slice A0_1 l0_1.length c0_1, .slice A0_2 l0_2.length c0_2] 45 (0, 0))).alloc (.cells #[.int .i64 a1] 2 (0, 0))) (.cells #[.int .i64 0, .slice none 0 0, .slice none 0 0, .slice none 0 0, .int .i64 0] 51 (0, 0))) hb1; simp only [alloc_sz] at hbi hbo; have BK1 := Aside0.mk hbk; have BI1 := Aside0.mk hbi; have BO1 := Aside0.mk hbo; have HB01 := Aside0.mk (below_step (below_alloc (below_alloc (below_alloc (Below.refl _ _) _) _) _) hb1 : Below w.heap.size w w1); clear hb1 hbk hbi hbo; have hk0 := blk_cell BK1.out 0; have hk1 := blk_cell BK1.out 1; have hk2 := blk_cell BK1.out 2;  simp only [List.getElem?_toArray, List.getElem?_cons_zero, List.getElem?_cons_succ] at hk0 hk1 hk2 )
    | (go_at_call 73; with_reducible refine (impl_Wheel_all.calls a0_0 _ _ l0_1 _ _ l0_2 all _ ?side0 HC1.out ?side1 HC2.out HALLF.out).mono ?_; (case side0 => exact Kd.C_below HR1.out HB01.out); (case side1 => exact Kd.C_below HR2.out HB01.out); rintro e w2 ⟨v5, rfl, hr2, hb2⟩; obtain ⟨A5, c5, rfl⟩ := Kd.R_slice hr2; have HALL2 := Aside0.mk hr2; have HB12 := Aside0.mk hb2; clear hr2 hb2 hk0 hk1 hk2)
    | (go_at_call 81; with_reducible refine (IndexFunc_Timer (fun t => t.f0 == a1) 82 #[.pointer (some ⟨w.heap.size + 1, 0, none⟩)] w2.heap.size w2 ENT.out ?side0 A5 c5 all _ (Below.refl _ _) (Nat.le_refl _) (Kd.R_reads' HALL2.out).2.2).mono ?_; (case side0 => exact wdfun_ok a1 _ w2 (blk_below BI1.out HB12.out)); rintro e w3 ⟨ix, rfl, hix, hb3⟩; obtain rfl := HIDX.out ix hix; have HALL := Aside0.mk (Kd.R_below HALL2.out hb3); have HB13 := Aside0.mk (below_then HB12.out HB12.out.size hb3); have BK3 := Aside0.mk ((HB13.out.block w.heap.size (by have := HN.out; omega)).trans BK1.out); have BO3 := Aside0.mk ((HB13.out.block (w.heap.size + 1 + 1) (by have := HN.out; omega)).trans BO1.out); clear hb3 hix; skip))
   refine start_ (n := 10) (S := fun w' => w'.cell? ⟨w.heap.size, 0, none⟩ = some (.int .i64 a0_0)) (ds := [9]) #[false, false, false, false, false, false, false, false, false, false] (by kernel_rfl) rfl rfl ((blk_cell (blk_drew BK3.out) 0).trans rfl) (fun hHeld => ?_)
   refine qu_ 0 19 ?_
   refine qt_ 1 20 hHeld ?_ rfl rfl (by intro w' sb_; have s0_ := sb_; clear sb_; go_simp; with_reducible rfl)
   refine qu_ 2 21 ?_
   refine qu_ 3 22 ?_
   refine qu_ 4 23 ?_
   refine qu_ 5 24 ?_
   refine qo_ 6 (some 25) (fun K hK => ?_)
   refine qc_ Try.func84 #[.slice A5 all.length c5, .int .i64 (i : Nat), .int .i64 (wrap64 ((i : Int) + 1))] ?_
   rw [WI.out]
   refine (impl_Timer_84.calls (fun k_ => some k_ = (.slice A5 all.length c5 : Value).ownBlock) _ all (i : Nat) ((i : Int) + 1) rest w1 _ ?side0 ?side1 HDEL.out).mono ?_
   (case side0 => exact below_drew1 HB13.out)
   (case side1 => exact Kd.R_drew (Kd.R_tight rfl HALL.out))
   rintro e w5 ⟨v25, rfl, hR5, hB5, hK5⟩
   obtain ⟨A25, c25, rfl⟩ := Kd.R_slice hR5
   refine ⟨_, rfl, ?_⟩
   have HR5 := Aside0.mk (Kd.R_reads' hR5).2
   have HB5 := Aside0.mk hB5
   have BK5 := Aside0.mk ((hB5.block w.heap.size (by have := HN.out; omega)).trans BK1.out)
   have BO5 := Aside0.mk ((hB5.block (w.heap.size + 1 + 1) (by have := HN.out; omega)).trans BO1.out)
   clear hR5 hB5 hK5
   refine hK.out _ _ ((blk_cell BK5.out 0).trans rfl) (fun hHeld => ?_)
   clear hK K
   refine qm_ ?_
   refine qo_ 7 (some 26) (fun K hK => ?_)
   refine qc_ Try.func83 #[.int .i64 a0_0, .slice A25 rest.length c25] ?_
   refine (impl_wheelOf.calls k a0_0 A25 c25 rest x1 x2 x3 _ HR5.out.2 HR5.out.1 HWOF.out).mono ?_
   rintro e w6 ⟨v1, v2, rfl, hS6, hR6, hB6⟩
   obtain ⟨AN, cN, rfl⟩ := Kd.S_slice hS6
   obtain ⟨AF, cF, rfl⟩ := Kd.R_slice hR6
   refine ⟨_, rfl, ?_⟩
   have HS6 := Aside0.mk hS6
   have HR6 := Aside0.mk hR6
   have HB6 := Aside0.mk hB6
   have BK6 := Aside0.mk (blk_below BK5.out hB6)
   have BO6 := Aside0.mk (blk_below BO5.out hB6)
   clear hS6 hR6 hB6
   refine hK.out _ _ ((blk_cell BK6.out 0).trans rfl) (fun hHeld => ?_)
   clear hK K
   refine qm_ ?_
   refine qu_ 8 27 ?_
   refine ql_ 9 none (fun K hK => ?_)
   clear hHeld
   have hc0 : w6.cell? ⟨w.heap.size + 1 + 1, 0, none⟩ = some (.int .i64 0) := (blk_cell BO6.out 0).trans rfl
   have hf0 : w6.frozen? ⟨w.heap.size + 1 + 1, 0, none⟩ = false := blk_frozen BO6.out 0
   have hc1 : w6.cell? ⟨w.heap.size + 1 + 1, 1, none⟩ = some (.slice none 0 0) := (blk_cell BO6.out 1).trans rfl
   have hf1 : w6.frozen? ⟨w.heap.size + 1 + 1, 1, none⟩ = false := blk_frozen BO6.out 1
   have hc2 : w6.cell? ⟨w.heap.size + 1 + 1, 2, none⟩ = some (.slice none 0 0) := (blk_cell BO6.out 2).trans rfl
   have hf2 : w6.frozen? ⟨w.heap.size + 1 + 1, 2, none⟩ = false := blk_frozen BO6.out 2
   have hc3 : w6.cell? ⟨w.heap.size + 1 + 1, 3, none⟩ = some (.slice none 0 0) := (blk_cell BO6.out 3).trans rfl
   have hf3 : w6.frozen? ⟨w.heap.size + 1 + 1, 3, none⟩ = false := blk_frozen BO6.out 3
   have hc4 : w6.cell? ⟨w.heap.size + 1 + 1, 4, none⟩ = some (.int .i64 0) := (blk_cell BO6.out 4).trans rfl
   have hf4 : w6.frozen? ⟨w.heap.size + 1 + 1, 4, none⟩ = false := blk_frozen BO6.out 4
   refine skip_ (w1 := (((((w6.setCell ⟨w.heap.size + 1 + 1, 0, none⟩ (.int .i64 x1)).setCell ⟨w.heap.size + 1 + 1, 1, none⟩ (.slice AN x2.length cN)).setCell ⟨w.heap.size + 1 + 1, 2, none⟩ (.slice AF x3.length cF)).setCell ⟨w.heap.size + 1 + 1, 3, none⟩ (.slice none 0 0)).setCell ⟨w.heap.size + 1 + 1, 4, none⟩ (.int .i64 0))) (by rfl) rfl (by go_simp; try rfl) ?_
   refine hK.out _ _ ?_
   clear hK K
   refine done_ (by kernel_rfl) ?_
   clear hc0 hc1 hc2 hc3 hc4 hf0 hf1 hf2 hf3 hf4
   have HNE : Aside0 (w.heap.size + 1 + 1 < w5.heap.size) := ⟨by have := HN.out; have := HB5.out.size; omega⟩
   have HBW : Aside0 (Below w.heap.size w w6) := ⟨below_then HB01.out (by have := HN.out; omega) (below_then HB5.out HB5.out.size HB6.out)⟩
   have hS7 : Kd.S (Kd.slice 91 k91) 43 (((((w6.setCell ⟨w.heap.size + 1 + 1, 0, none⟩ (.int .i64 x1)).setCell ⟨w.heap.size + 1 + 1, 1, none⟩ (.slice AN x2.length cN)).setCell ⟨w.heap.size + 1 + 1, 2, none⟩ (.slice AF x3.length cF)).setCell ⟨w.heap.size + 1 + 1, 3, none⟩ (.slice none 0 0)).setCell ⟨w.heap.size + 1 + 1, 4, none⟩ (.int .i64 0)) w.heap.size (fun k_ => some k_ ≠ (.slice AF x3.length cF : Value).ownBlock) (.slice AN x2.length cN) x2 := by
    have h0 := Kd.S_bound HS6.out
    have h1 : Kd.S (Kd.slice 91 k91) 43 w6 w5.heap.size (fun k_ => some k_ ≠ (.slice AF x3.length cF : Value).ownBlock ∧ k_ ≠ w.heap.size + 1 + 1) (.slice AN x2.length cN) x2 := Kd.S_mono h0 (fun k hk => ⟨hk.1, by have := hk.2.1; have := HNE.out; omega⟩)
    have HX := Aside0.mk h1
    exact Kd.S_lower (Kd.S_mono (Kd.S_far (p := ⟨w.heap.size + 1 + 1, 4, none⟩) (Kd.S_far (p := ⟨w.heap.size + 1 + 1, 3, none⟩) (Kd.S_far (p := ⟨w.heap.size + 1 + 1, 2, none⟩) (Kd.S_far (p := ⟨w.heap.size + 1 + 1, 1, none⟩) (Kd.S_far (p := ⟨w.heap.size + 1 + 1, 0, none⟩) HX.out (fun _ hk => hk.2) (.int .i64 x1)) (fun _ hk => hk.2) (.slice AN x2.length cN)) (fun _ hk => hk.2) (.slice AF x3.length cF)) (fun _ hk => hk.2) (.slice none 0 0)) (fun _ hk => hk.2) (.int .i64 0)) (fun _ hk => hk.1)) (by have := HNE.out; omega)
   have hR7 : Kd.R k91 91 (((((w6.setCell ⟨w.heap.size + 1 + 1, 0, none⟩ (.int .i64 x1)).setCell ⟨w.heap.size + 1 + 1, 1, none⟩ (.slice AN x2.length cN)).setCell ⟨w.heap.size + 1 + 1, 2, none⟩ (.slice AF x3.length cF)).setCell ⟨w.heap.size + 1 + 1, 3, none⟩ (.slice none 0 0)).setCell ⟨w.heap.size + 1 + 1, 4, none⟩ (.int .i64 0)) w.heap.size (fun _ => True) (.slice AF x3.length cF) x3 := by
    have h1 : Kd.R k91 91 w6 w5.heap.size (fun k_ => k_ ≠ w.heap.size + 1 + 1) (.slice AF x3.length cF) x3 := R91_ok HR6.out (fun k hk => by have := Kd.R_base HR6.out k hk; have := HNE.out; omega)
    have HX := Aside0.mk h1
    exact Kd.R_lower (Kd.R_mono (Kd.R_far (p := ⟨w.heap.size + 1 + 1, 4, none⟩) (Kd.R_far (p := ⟨w.heap.size + 1 + 1, 3, none⟩) (Kd.R_far (p := ⟨w.heap.size + 1 + 1, 2, none⟩) (Kd.R_far (p := ⟨w.heap.size + 1 + 1, 1, none⟩) (Kd.R_far (p := ⟨w.heap.size + 1 + 1, 0, none⟩) HX.out (fun _ hk => hk) (.int .i64 x1)) (fun _ hk => hk) (.slice AN x2.length cN)) (fun _ hk => hk) (.slice AF x3.length cF)) (fun _ hk => hk) (.slice none 0 0)) (fun _ hk => hk) (.int .i64 0)) (fun _ _ => trivial)) (by have := HNE.out; omega)
   have hB7 : Below w.heap.size w (((((w6.setCell ⟨w.heap.size + 1 + 1, 0, none⟩ (.int .i64 x1)).setCell ⟨w.heap.size + 1 + 1, 1, none⟩ (.slice AN x2.length cN)).setCell ⟨w.heap.size + 1 + 1, 2, none⟩ (.slice AF x3.length cF)).setCell ⟨w.heap.size + 1 + 1, 3, none⟩ (.slice none 0 0)).setCell ⟨w.heap.size + 1 + 1, 4, none⟩ (.int .i64 0)) := (below_set (below_set (below_set (below_set (below_set HBW.out (by show w.heap.size ≤ w.heap.size + 1 + 1; omega)) (by show w.heap.size ≤ w.heap.size + 1 + 1; omega)) (by show w.heap.size ≤ w.heap.size + 1 + 1; omega)) (by show w.heap.size ≤ w.heap.size + 1 + 1; omega)) (by show w.heap.size ≤ w.heap.size + 1 + 1; omega))
   have hO7 : ((((((w6.setCell ⟨w.heap.size + 1 + 1, 0, none⟩ (.int .i64 x1)).setCell ⟨w.heap.size + 1 + 1, 1, none⟩ (.slice AN x2.length cN)).setCell ⟨w.heap.size + 1 + 1, 2, none⟩ (.slice AF x3.length cF)).setCell ⟨w.heap.size + 1 + 1, 3, none⟩ (.slice none 0 0)).setCell ⟨w.heap.size + 1 + 1, 4, none⟩ (.int .i64 0))).heap[w.heap.size + 1 + 1]? = some (.cells #[.int .i64 x1, .slice AN x2.length cN, .slice AF x3.length cF, .slice none 0 0, .int .i64 0] 51 (0, 0)) := (blk_put (cs := #[.int .i64 x1, .slice AN x2.length cN, .slice AF x3.length cF, .slice none 0 0, .int .i64 0]) (cs' := #[.int .i64 x1, .slice AN x2.length cN, .slice AF x3.length cF, .slice none 0 0, .int .i64 0]) (blk_put (cs := #[.int .i64 x1, .slice AN x2.length cN, .slice AF x3.length cF, .slice none 0 0, .int .i64 0]) (cs' := #[.int .i64 x1, .slice AN x2.length cN, .slice AF x3.length cF, .slice none 0 0, .int .i64 0]) (blk_put (cs := #[.int .i64 x1, .slice AN x2.length cN, .slice none 0 0, .slice none 0 0, .int .i64 0]) (cs' := #[.int .i64 x1, .slice AN x2.length cN, .slice AF x3.length cF, .slice none 0 0, .int .i64 0]) (blk_put (cs := #[.int .i64 x1, .slice none 0 0, .slice none 0 0, .slice none 0 0, .int .i64 0]) (cs' := #[.int .i64 x1, .slice AN x2.length cN, .slice none 0 0, .slice none 0 0, .int .i64 0]) (blk_put (cs := #[.int .i64 0, .slice none 0 0, .slice none 0 0, .slice none 0 0, .int .i64 0]) (cs' := #[.int .i64 x1, .slice none 0 0, .slice none 0 0, .slice none 0 0, .int .i64 0]) BO6.out 0 (.int .i64 x1) rfl) 1 (.slice AN x2.length cN) rfl) 2 (.slice AF x3.length cF) rfl) 3 (.slice none 0 0) rfl) 4 (.int .i64 0) rfl)
   generalize (((((w6.setCell ⟨w.heap.size + 1 + 1, 0, none⟩ (.int .i64 x1)).setCell ⟨w.heap.size + 1 + 1, 1, none⟩ (.slice AN x2.length cN)).setCell ⟨w.heap.size + 1 + 1, 2, none⟩ (.slice AF x3.length cF)).setCell ⟨w.heap.size + 1 + 1, 3, none⟩ (.slice none 0 0)).setCell ⟨w.heap.size + 1 + 1, 4, none⟩ (.int .i64 0)) = w7 at hS7 hR7 hB7 hO7 ⊢
   have HS7 := Aside0.mk hS7
   have HR7 := Aside0.mk hR7
   have HB7 := Aside0.mk hB7
   have HO7 := Aside0.mk hO7
   clear hS7 hR7 hB7 hO7
   go_wp2
   refine bodyPost_ret (results_cell_row rfl _ _ (w.heap.size + 1 + 1) 51 #[.int .i64 x1, .slice AN x2.length cN, .slice AF x3.length cF, .slice none 0 0, .int .i64 0] (0, 0) _ rfl HO7.out Try.underlying51 rfl (by kernel_rfl)) rfl ?_
   exact ⟨_, _, rfl, HS7.out, HR7.out, HB7.out⟩

/-! ### laws_eqWheelOut: function 31 -/
def laws_eqWheelOut.f (k : Nat) (a0_0 : Int) (l0_1 : List (List (S91))) (l0_2 : List (S91)) (l0_3 : List (S91)) (a0_4 : Int) (a1_0 : Int) (l1_1 : List (List (S91))) (l1_2 : List (S91)) (l1_3 : List (S91)) (a1_4 : Int) : Option (Bool) := (laws_eqWheel.f k a0_0 l0_1 l0_2 a1_0 l1_1 l1_2).bind fun t304 => (if t304 = true then ((laws_eqTimerS.f k l0_3 l1_3).bind fun t305 => (if t305 = true then (if a0_4 = a1_4 then (some true) else (some false)) else (some false))) else (some false))
set_option maxHeartbeats 8000000 in
set_option maxRecDepth 100000 in
theorem laws_eqWheelOut.calls (k : Nat) (a0_0 : Int) (A0_1 : Option Addr) (c0_1 : Nat) (l0_1 : List (List (S91))) (A0_2 : Option Addr) (c0_2 : Nat) (l0_2 : List (S91)) (A0_3 : Option Addr) (c0_3 : Nat) (l0_3 : List (S91)) (a0_4 : Int) (a1_0 : Int) (A1_1 : Option Addr) (c1_1 : Nat) (l1_1 : List (List (S91))) (A1_2 : Option Addr) (c1_2 : Nat) (l1_2 : List (S91)) (A1_3 : Option Addr) (c1_3 : Nat) (l1_3 : List (S91)) (a1_4 : Int) (r : Bool) (w : World) (hr0_1 : Kd.C (Kd.slice 91 k91) w A0_1 l0_1.length l0_1) (hc0_1 : l0_1.length ≤ c0_1) (hr0_2 : Kd.C k91 w A0_2 l0_2.length l0_2) (hc0_2 : l0_2.length ≤ c0_2) (hr0_3 : Kd.C k91 w A0_3 l0_3.length l0_3) (hc0_3 : l0_3.length ≤ c0_3) (hr1_1 : Kd.C (Kd.slice 91 k91) w A1_1 l1_1.length l1_1) (hc1_1 : l1_1.length ≤ c1_1) (hr1_2 : Kd.C k91 w A1_2 l1_2.length l1_2) (hc1_2 : l1_2.length ≤ c1_2) (hr1_3 : Kd.C k91 w A1_3 l1_3.length l1_3) (hc1_3 : l1_3.length ≤ c1_3) (h : laws_eqWheelOut.f k a0_0 l0_1 l0_2 l0_3 a0_4 a1_0 l1_1 l1_2 l1_3 a1_4 = some r) :
  Calls Try.prog 31 #[.agg #[.int .i64 a0_0, .slice A0_1 l0_1.length c0_1, .slice A0_2 l0_2.length c0_2, .slice A0_3 l0_3.length c0_3, .int .i64 a0_4], .agg #[.int .i64 a1_0, .slice A1_1 l1_1.length c1_1, .slice A1_2 l1_2.length c1_2, .slice A1_3 l1_3.length c1_3, .int .i64 a1_4]] w fun e w' => e = .returned (.bool r) ∧ Below w.heap.size w w' := by
 have hu51 := Try.underlying51
 have hu45 := Try.underlying45
 have HR0_1 := Aside0.mk hr0_1
 have HC0_1 := Aside0.mk hc0_1
 clear hr0_1 hc0_1
 have HR0_2 := Aside0.mk hr0_2
 have HC0_2 := Aside0.mk hc0_2
 clear hr0_2 hc0_2
 have HR0_3 := Aside0.mk hr0_3
 have HC0_3 := Aside0.mk hc0_3
 clear hr0_3 hc0_3
 have HR1_1 := Aside0.mk hr1_1
 have HC1_1 := Aside0.mk hc1_1
 clear hr1_1 hc1_1
 have HR1_2 := Aside0.mk hr1_2
 have HC1_2 := Aside0.mk hc1_2
 clear hr1_2 hc1_2
 have HR1_3 := Aside0.mk hr1_3
 have HC1_3 := Aside0.mk hc1_3
 clear hr1_3 hc1_3
 have HB := Aside0.mk (Below.refl w.heap.size w)
 have H : ((laws_eqWheel.f k a0_0 l0_1 l0_2 a1_0 l1_1 l1_2).bind fun t304 => (if t304 = true then ((laws_eqTimerS.f k l0_3 l1_3).bind fun t305 => (if t305 = true then (if a0_4 = a1_4 then (some true) else (some false)) else (some false))) else (some false))) = some r := h
 clear h
 replace H := Option.bind_eq_some_iff.mp H
 obtain ⟨t304, A30, H⟩ := H
 replace H : (if t304 = true then ((laws_eqTimerS.f k l0_3 l1_3).bind fun t305 => (if t305 = true then (if a0_4 = a1_4 then (some true) else (some false)) else (some false))) else (some false)) = some r := H
 have A3 := Aside0.mk A30
 clear A30
 by_cases c4 : t304 = true
 ·
  subst c4
  have H1 : ((laws_eqTimerS.f k l0_3 l1_3).bind fun t305 => (if t305 = true then (if a0_4 = a1_4 then (some true) else (some false)) else (some false))) = some r := by rw [if_pos rfl] at H; exact H
  clear H
  have H := H1
  clear H1
  replace H := Option.bind_eq_some_iff.mp H
  obtain ⟨t305, A50, H⟩ := H
  replace H : (if t305 = true then (if a0_4 = a1_4 then (some true) else (some false)) else (some false)) = some r := H
  have A5 := Aside0.mk A50
  clear A50
  by_cases c6 : t305 = true
  ·
   subst c6
   have H1 : (if a0_4 = a1_4 then (some true) else (some false)) = some r := by rw [if_pos rfl] at H; exact H
   clear H
   have H := H1
   clear H1
   by_cases c7 : a0_4 = a1_4
   ·
    rw [if_pos c7] at H
    have c7b0 : (a0_4 == a1_4) = true := beq_iff_eq.mpr c7
    have c7b1 : (a0_4 != a1_4) = false := bne_eq_false_iff_eq.mpr c7
    clear c7
    obtain rfl := Option.some.inj H
    go_enter Try.func31, Try.ntmps31
    go_wp2_with (first | ((with_reducible refine gate_dst (N := 2) rfl ?_); refine box_event ?hg (N := 2) ?hd (cs := #[.int .i64 a0_0, .slice A0_1 l0_1.length c0_1, .slice A0_2 l0_2.length c0_2, .slice A0_3 l0_3.length c0_3, .int .i64 a0_4]) (t := 51) ?hr ?_; (case hd => rfl); (case hg => rfl); (case hr => first | (go_simp; done) | (go_simp; rfl)); intro gb302 hg w8 hbox hb; have n0_ := Aside0.mk (below_step bl_ hb); have n1_ := Aside0.mk (hbox); have n2_ := Aside0.mk ((by rw [hg]; exact (below_size bl_) : w.heap.size ≤ gb302)); have n3_ := Aside0.mk ((by rw [hg]; exact (below_size bl_) : w.heap.size ≤ gb302)); clear HB; have HB := n0_; have BK302 := n1_; have GW302 := n2_; have GE302 := n3_; clear n0_ n1_ n2_ n3_; clear hb hbox hg) | ((with_reducible refine gate_dst (N := 3) rfl ?_); refine box_event ?hg (N := 3) ?hd (cs := #[.int .i64 a1_0, .slice A1_1 l1_1.length c1_1, .slice A1_2 l1_2.length c1_2, .slice A1_3 l1_3.length c1_3, .int .i64 a1_4]) (t := 51) ?hr ?_; (case hd => rfl); (case hg => rfl); (case hr => first | (go_simp; done) | (go_simp; rfl)); intro gb303 hg w9 hbox hb; have n0_ := Aside0.mk (blk_below (up_ BK302.out) hb); have n1_ := Aside0.mk (below_step bl_ hb); have n2_ := Aside0.mk (hbox); have n3_ := Aside0.mk ((by rw [hg]; exact (below_size bl_) : w.heap.size ≤ gb303)); have n4_ := Aside0.mk ((by rw [hg]; exact (below_size bl_) : w.heap.size ≤ gb303)); have n5_ := Aside0.mk ((by rw [hg]; exact Nat.ne_of_lt (blk_lt (up_ BK302.out)) : gb302 ≠ gb303)); have n6_ := Aside0.mk ((by rw [hg]; exact Nat.ne_of_gt (blk_lt (up_ BK302.out)) : gb303 ≠ gb302)); clear BK302; clear HB; have BK302 := n0_; have HB := n1_; have BK303 := n2_; have GW303 := n3_; have GE303 := n4_; have NB302_303 := n5_; have NB303_302 := n6_; clear n0_ n1_ n2_ n3_ n4_ n5_ n6_; clear hb hbox hg; have hnb10 := NB302_303.out; have hnc10 := NB303_302.out; have hcz11_0 : w9.cell? ⟨gb302, 0, none⟩ = some (.int .i64 a0_0) := (blk_cell BK302.out 0).trans rfl; have hcz11_1 : w9.cell? ⟨gb302, 1, none⟩ = some (.slice A0_1 l0_1.length c0_1) := (blk_cell BK302.out 1).trans rfl; have hcz11_2 : w9.cell? ⟨gb302, 2, none⟩ = some (.slice A0_2 l0_2.length c0_2) := (blk_cell BK302.out 2).trans rfl; have hcz11_3 : w9.cell? ⟨gb302, 3, none⟩ = some (.slice A0_3 l0_3.length c0_3) := (blk_cell BK302.out 3).trans rfl; have hcz11_4 : w9.cell? ⟨gb302, 4, none⟩ = some (.int .i64 a0_4) := (blk_cell BK302.out 4).trans rfl; have hfz11_0 := blk_frozen BK302.out 0; have hfz11_1 := blk_frozen BK302.out 1; have hfz11_2 := blk_frozen BK302.out 2; have hfz11_3 := blk_frozen BK302.out 3; have hfz11_4 := blk_frozen BK302.out 4; have hcz12_0 : w9.cell? ⟨gb303, 0, none⟩ = some (.int .i64 a1_0) := (blk_cell BK303.out 0).trans rfl; have hcz12_1 : w9.cell? ⟨gb303, 1, none⟩ = some (.slice A1_1 l1_1.length c1_1) := (blk_cell BK303.out 1).trans rfl; have hcz12_2 : w9.cell? ⟨gb303, 2, none⟩ = some (.slice A1_2 l1_2.length c1_2) := (blk_cell BK303.out 2).trans rfl; have hcz12_3 : w9.cell? ⟨gb303, 3, none⟩ = some (.slice A1_3 l1_3.length c1_3) := (blk_cell BK303.out 3).trans rfl; have hcz12_4 : w9.cell? ⟨gb303, 4, none⟩ = some (.int .i64 a1_4) := (blk_cell BK303.out 4).trans rfl; have hfz12_0 := blk_frozen BK303.out 0; have hfz12_1 := blk_frozen BK303.out 1; have hfz12_2 := blk_frozen BK303.out 2; have hfz12_3 := blk_frozen BK303.out 3; have hfz12_4 := blk_frozen BK303.out 4) | ((with_reducible refine gate_callee (f := 26) rfl ?_); refine gL_ (some 9) Try.func26 #[.agg #[.int .i64 a0_0, .slice A0_1 l0_1.length c0_1, .slice A0_2 l0_2.length c0_2], .agg #[.int .i64 a1_0, .slice A1_1 l1_1.length c1_1, .slice A1_2 l1_2.length c1_2]] ?_; (with_reducible refine (laws_eqWheel.calls k a0_0 _ _ l0_1 _ _ l0_2 a1_0 _ _ l1_1 _ _ l1_2 true _ ?side1 ?side2 ?side3 ?side4 ?side5 ?side6 ?side7 ?side8 A3.out).mono ?_); (case side1 => exact Kd.C_below HR0_1.out bl_); (case side2 => exact HC0_1.out); (case side3 => exact Kd.C_below HR0_2.out bl_); (case side4 => exact HC0_2.out); (case side5 => exact Kd.C_below HR1_1.out bl_); (case side6 => exact HC1_1.out); (case side7 => exact Kd.C_below HR1_2.out bl_); (case side8 => exact HC1_2.out); rintro e w13 ⟨rfl, hb⟩; refine ⟨_, rfl, ?_⟩; have n0_ := Aside0.mk (blk_below (up_ BK302.out) hb); have n1_ := Aside0.mk (blk_below (up_ BK303.out) hb); have n2_ := Aside0.mk (below_step bl_ hb); clear BK302; clear BK303; clear HB; have BK302 := n0_; have BK303 := n1_; have HB := n2_; clear n0_ n1_ n2_; (try clear hb); (try clear hb2); (try clear hk); (try clear hi); have hcz14_0 : w13.cell? ⟨gb302, 0, none⟩ = some (.int .i64 a0_0) := (blk_cell BK302.out 0).trans rfl; have hcz14_1 : w13.cell? ⟨gb302, 1, none⟩ = some (.slice A0_1 l0_1.length c0_1) := (blk_cell BK302.out 1).trans rfl; have hcz14_2 : w13.cell? ⟨gb302, 2, none⟩ = some (.slice A0_2 l0_2.length c0_2) := (blk_cell BK302.out 2).trans rfl; have hcz14_3 : w13.cell? ⟨gb302, 3, none⟩ = some (.slice A0_3 l0_3.length c0_3) := (blk_cell BK302.out 3).trans rfl; have hcz14_4 : w13.cell? ⟨gb302, 4, none⟩ = some (.int .i64 a0_4) := (blk_cell BK302.out 4).trans rfl; have hfz14_0 := blk_frozen BK302.out 0; have hfz14_1 := blk_frozen BK302.out 1; have hfz14_2 := blk_frozen BK302.out 2; have hfz14_3 := blk_frozen BK302.out 3; have hfz14_4 := blk_frozen BK302.out 4; have hcz15_0 : w13.cell? ⟨gb303, 0, none⟩ = some (.int .i64 a1_0) := (blk_cell BK303.out 0).trans rfl; have hcz15_1 : w13.cell? ⟨gb303, 1, none⟩ = some (.slice A1_1 l1_1.length c1_1) := (blk_cell BK303.out 1).trans rfl; have hcz15_2 : w13.cell? ⟨gb303, 2, none⟩ = some (.slice A1_2 l1_2.length c1_2) := (blk_cell BK303.out 2).trans rfl; have hcz15_3 : w13.cell? ⟨gb303, 3, none⟩ = some (.slice A1_3 l1_3.length c1_3) := (blk_cell BK303.out 3).trans rfl; have hcz15_4 : w13.cell? ⟨gb303, 4, none⟩ = some (.int .i64 a1_4) := (blk_cell BK303.out 4).trans rfl; have hfz15_0 := blk_frozen BK303.out 0; have hfz15_1 := blk_frozen BK303.out 1; have hfz15_2 := blk_frozen BK303.out 2; have hfz15_3 := blk_frozen BK303.out 3; have hfz15_4 := blk_frozen BK303.out 4) | ((with_reducible refine gate_callee (f := 77) rfl ?_); refine gL_ (some 15) Try.func77 #[.slice A0_3 l0_3.length c0_3, .slice A1_3 l1_3.length c1_3] ?_; (with_reducible refine (laws_eqTimerS.calls k _ _ l0_3 _ _ l1_3 true _ ?side1 ?side2 ?side3 ?side4 A5.out).mono ?_); (case side1 => exact Kd.C_below HR0_3.out bl_); (case side2 => exact HC0_3.out); (case side3 => exact Kd.C_below HR1_3.out bl_); (case side4 => exact HC1_3.out); rintro e w16 ⟨rfl, hb⟩; refine ⟨_, rfl, ?_⟩; have n0_ := Aside0.mk (blk_below (up_ BK302.out) hb); have n1_ := Aside0.mk (blk_below (up_ BK303.out) hb); have n2_ := Aside0.mk (below_step bl_ hb); clear BK302; clear BK303; clear HB; have BK302 := n0_; have BK303 := n1_; have HB := n2_; clear n0_ n1_ n2_; (try clear hb); (try clear hb2); (try clear hk); (try clear hi); have hcz17_0 : w16.cell? ⟨gb302, 0, none⟩ = some (.int .i64 a0_0) := (blk_cell BK302.out 0).trans rfl; have hcz17_1 : w16.cell? ⟨gb302, 1, none⟩ = some (.slice A0_1 l0_1.length c0_1) := (blk_cell BK302.out 1).trans rfl; have hcz17_2 : w16.cell? ⟨gb302, 2, none⟩ = some (.slice A0_2 l0_2.length c0_2) := (blk_cell BK302.out 2).trans rfl; have hcz17_3 : w16.cell? ⟨gb302, 3, none⟩ = some (.slice A0_3 l0_3.length c0_3) := (blk_cell BK302.out 3).trans rfl; have hcz17_4 : w16.cell? ⟨gb302, 4, none⟩ = some (.int .i64 a0_4) := (blk_cell BK302.out 4).trans rfl; have hfz17_0 := blk_frozen BK302.out 0; have hfz17_1 := blk_frozen BK302.out 1; have hfz17_2 := blk_frozen BK302.out 2; have hfz17_3 := blk_frozen BK302.out 3; have hfz17_4 := blk_frozen BK302.out 4; have hcz18_0 : w16.cell? ⟨gb303, 0, none⟩ = some (.int .i64 a1_0) := (blk_cell BK303.out 0).trans rfl; have hcz18_1 : w16.cell? ⟨gb303, 1, none⟩ = some (.slice A1_1 l1_1.length c1_1) := (blk_cell BK303.out 1).trans rfl; have hcz18_2 : w16.cell? ⟨gb303, 2, none⟩ = some (.slice A1_2 l1_2.length c1_2) := (blk_cell BK303.out 2).trans rfl; have hcz18_3 : w16.cell? ⟨gb303, 3, none⟩ = some (.slice A1_3 l1_3.length c1_3) := (blk_cell BK303.out 3).trans rfl; have hcz18_4 : w16.cell? ⟨gb303, 4, none⟩ = some (.int .i64 a1_4) := (blk_cell BK303.out 4).trans rfl; have hfz18_0 := blk_frozen BK303.out 0; have hfz18_1 := blk_frozen BK303.out 1; have hfz18_2 := blk_frozen BK303.out 2; have hfz18_3 := blk_frozen BK303.out 3; have hfz18_4 := blk_frozen BK303.out 4))
    go_ret
    exact ⟨by first | rfl | (simp [errW_none, errW_some] <;> rfl) | (simp [*, errW_none, errW_some] <;> rfl), bl_⟩
   ·
    rw [if_neg c7] at H
    have c7b0 : (a0_4 == a1_4) = false := beq_eq_false_iff_ne.mpr c7
    have c7b1 : (a0_4 != a1_4) = true := bne_iff_ne.mpr c7
    obtain rfl := Option.some.inj H
    go_enter Try.func31, Try.ntmps31
    go_wp2_with (first | ((with_reducible refine gate_dst (N := 2) rfl ?_); refine box_event ?hg (N := 2) ?hd (cs := #[.int .i64 a0_0, .slice A0_1 l0_1.length c0_1, .slice A0_2 l0_2.length c0_2, .slice A0_3 l0_3.length c0_3, .int .i64 a0_4]) (t := 51) ?hr ?_; (case hd => rfl); (case hg => rfl); (case hr => first | (go_simp; done) | (go_simp; rfl)); intro gb302 hg w19 hbox hb; have n0_ := Aside0.mk (below_step bl_ hb); have n1_ := Aside0.mk (hbox); have n2_ := Aside0.mk ((by rw [hg]; exact (below_size bl_) : w.heap.size ≤ gb302)); have n3_ := Aside0.mk ((by rw [hg]; exact (below_size bl_) : w.heap.size ≤ gb302)); clear HB; have HB := n0_; have BK302 := n1_; have GW302 := n2_; have GE302 := n3_; clear n0_ n1_ n2_ n3_; clear hb hbox hg) | ((with_reducible refine gate_dst (N := 3) rfl ?_); refine box_event ?hg (N := 3) ?hd (cs := #[.int .i64 a1_0, .slice A1_1 l1_1.length c1_1, .slice A1_2 l1_2.length c1_2, .slice A1_3 l1_3.length c1_3, .int .i64 a1_4]) (t := 51) ?hr ?_; (case hd => rfl); (case hg => rfl); (case hr => first | (go_simp; done) | (go_simp; rfl)); intro gb303 hg w20 hbox hb; have n0_ := Aside0.mk (blk_below (up_ BK302.out) hb); have n1_ := Aside0.mk (below_step bl_ hb); have n2_ := Aside0.mk (hbox); have n3_ := Aside0.mk ((by rw [hg]; exact (below_size bl_) : w.heap.size ≤ gb303)); have n4_ := Aside0.mk ((by rw [hg]; exact (below_size bl_) : w.heap.size ≤ gb303)); have n5_ := Aside0.mk ((by rw [hg]; exact Nat.ne_of_lt (blk_lt (up_ BK302.out)) : gb302 ≠ gb303)); have n6_ := Aside0.mk ((by rw [hg]; exact Nat.ne_of_gt (blk_lt (up_ BK302.out)) : gb303 ≠ gb302)); clear BK302; clear HB; have BK302 := n0_; have HB := n1_; have BK303 := n2_; have GW303 := n3_; have GE303 := n4_; have NB302_303 := n5_; have NB303_302 := n6_; clear n0_ n1_ n2_ n3_ n4_ n5_ n6_; clear hb hbox hg; have hnb21 := NB302_303.out; have hnc21 := NB303_302.out; have hcz22_0 : w20.cell? ⟨gb302, 0, none⟩ = some (.int .i64 a0_0) := (blk_cell BK302.out 0).trans rfl; have hcz22_1 : w20.cell? ⟨gb302, 1, none⟩ = some (.slice A0_1 l0_1.length c0_1) := (blk_cell BK302.out 1).trans rfl; have hcz22_2 : w20.cell? ⟨gb302, 2, none⟩ = some (.slice A0_2 l0_2.length c0_2) := (blk_cell BK302.out 2).trans rfl; have hcz22_3 : w20.cell? ⟨gb302, 3, none⟩ = some (.slice A0_3 l0_3.length c0_3) := (blk_cell BK302.out 3).trans rfl; have hcz22_4 : w20.cell? ⟨gb302, 4, none⟩ = some (.int .i64 a0_4) := (blk_cell BK302.out 4).trans rfl; have hfz22_0 := blk_frozen BK302.out 0; have hfz22_1 := blk_frozen BK302.out 1; have hfz22_2 := blk_frozen BK302.out 2; have hfz22_3 := blk_frozen BK302.out 3; have hfz22_4 := blk_frozen BK302.out 4; have hcz23_0 : w20.cell? ⟨gb303, 0, none⟩ = some (.int .i64 a1_0) := (blk_cell BK303.out 0).trans rfl; have hcz23_1 : w20.cell? ⟨gb303, 1, none⟩ = some (.slice A1_1 l1_1.length c1_1) := (blk_cell BK303.out 1).trans rfl; have hcz23_2 : w20.cell? ⟨gb303, 2, none⟩ = some (.slice A1_2 l1_2.length c1_2) := (blk_cell BK303.out 2).trans rfl; have hcz23_3 : w20.cell? ⟨gb303, 3, none⟩ = some (.slice A1_3 l1_3.length c1_3) := (blk_cell BK303.out 3).trans rfl; have hcz23_4 : w20.cell? ⟨gb303, 4, none⟩ = some (.int .i64 a1_4) := (blk_cell BK303.out 4).trans rfl; have hfz23_0 := blk_frozen BK303.out 0; have hfz23_1 := blk_frozen BK303.out 1; have hfz23_2 := blk_frozen BK303.out 2; have hfz23_3 := blk_frozen BK303.out 3; have hfz23_4 := blk_frozen BK303.out 4) | ((with_reducible refine gate_callee (f := 26) rfl ?_); refine gL_ (some 9) Try.func26 #[.agg #[.int .i64 a0_0, .slice A0_1 l0_1.length c0_1, .slice A0_2 l0_2.length c0_2], .agg #[.int .i64 a1_0, .slice A1_1 l1_1.length c1_1, .slice A1_2 l1_2.length c1_2]] ?_; (with_reducible refine (laws_eqWheel.calls k a0_0 _ _ l0_1 _ _ l0_2 a1_0 _ _ l1_1 _ _ l1_2 true _ ?side1 ?side2 ?side3 ?side4 ?side5 ?side6 ?side7 ?side8 A3.out).mono ?_); (case side1 => exact Kd.C_below HR0_1.out bl_); (case side2 => exact HC0_1.out); (case side3 => exact Kd.C_below HR0_2.out bl_); (case side4 => exact HC0_2.out); (case side5 => exact Kd.C_below HR1_1.out bl_); (case side6 => exact HC1_1.out); (case side7 => exact Kd.C_below HR1_2.out bl_); (case side8 => exact HC1_2.out); rintro e w24 ⟨rfl, hb⟩; refine ⟨_, rfl, ?_⟩; have n0_ := Aside0.mk (blk_below (up_ BK302.out) hb); have n1_ := Aside0.mk (blk_below (up_ BK303.out) hb); have n2_ := Aside0.mk (below_step bl_ hb); clear BK302; clear BK303; clear HB; have BK302 := n0_; have BK303 := n1_; have HB := n2_; clear n0_ n1_ n2_; (try clear hb); (try clear hb2); (try clear hk); (try clear hi); have hcz25_0 : w24.cell? ⟨gb302, 0, none⟩ = some (.int .i64 a0_0) := (blk_cell BK302.out 0).trans rfl; have hcz25_1 : w24.cell? ⟨gb302, 1, none⟩ = some (.slice A0_1 l0_1.length c0_1) := (blk_cell BK302.out 1).trans rfl; have hcz25_2 : w24.cell? ⟨gb302, 2, none⟩ = some (.slice A0_2 l0_2.length c0_2) := (blk_cell BK302.out 2).trans rfl; have hcz25_3 : w24.cell? ⟨gb302, 3, none⟩ = some (.slice A0_3 l0_3.length c0_3) := (blk_cell BK302.out 3).trans rfl; have hcz25_4 : w24.cell? ⟨gb302, 4, none⟩ = some (.int .i64 a0_4) := (blk_cell BK302.out 4).trans rfl; have hfz25_0 := blk_frozen BK302.out 0; have hfz25_1 := blk_frozen BK302.out 1; have hfz25_2 := blk_frozen BK302.out 2; have hfz25_3 := blk_frozen BK302.out 3; have hfz25_4 := blk_frozen BK302.out 4; have hcz26_0 : w24.cell? ⟨gb303, 0, none⟩ = some (.int .i64 a1_0) := (blk_cell BK303.out 0).trans rfl; have hcz26_1 : w24.cell? ⟨gb303, 1, none⟩ = some (.slice A1_1 l1_1.length c1_1) := (blk_cell BK303.out 1).trans rfl; have hcz26_2 : w24.cell? ⟨gb303, 2, none⟩ = some (.slice A1_2 l1_2.length c1_2) := (blk_cell BK303.out 2).trans rfl; have hcz26_3 : w24.cell? ⟨gb303, 3, none⟩ = some (.slice A1_3 l1_3.length c1_3) := (blk_cell BK303.out 3).trans rfl; have hcz26_4 : w24.cell? ⟨gb303, 4, none⟩ = some (.int .i64 a1_4) := (blk_cell BK303.out 4).trans rfl; have hfz26_0 := blk_frozen BK303.out 0; have hfz26_1 := blk_frozen BK303.out 1; have hfz26_2 := blk_frozen BK303.out 2; have hfz26_3 := blk_frozen BK303.out 3; have hfz26_4 := blk_frozen BK303.out 4) | ((with_reducible refine gate_callee (f := 77) rfl ?_); refine gL_ (some 15) Try.func77 #[.slice A0_3 l0_3.length c0_3, .slice A1_3 l1_3.length c1_3] ?_; (with_reducible refine (laws_eqTimerS.calls k _ _ l0_3 _ _ l1_3 true _ ?side1 ?side2 ?side3 ?side4 A5.out).mono ?_); (case side1 => exact Kd.C_below HR0_3.out bl_); (case side2 => exact HC0_3.out); (case side3 => exact Kd.C_below HR1_3.out bl_); (case side4 => exact HC1_3.out); rintro e w27 ⟨rfl, hb⟩; refine ⟨_, rfl, ?_⟩; have n0_ := Aside0.mk (blk_below (up_ BK302.out) hb); have n1_ := Aside0.mk (blk_below (up_ BK303.out) hb); have n2_ := Aside0.mk (below_step bl_ hb); clear BK302; clear BK303; clear HB; have BK302 := n0_; have BK303 := n1_; have HB := n2_; clear n0_ n1_ n2_; (try clear hb); (try clear hb2); (try clear hk); (try clear hi); have hcz28_0 : w27.cell? ⟨gb302, 0, none⟩ = some (.int .i64 a0_0) := (blk_cell BK302.out 0).trans rfl; have hcz28_1 : w27.cell? ⟨gb302, 1, none⟩ = some (.slice A0_1 l0_1.length c0_1) := (blk_cell BK302.out 1).trans rfl; have hcz28_2 : w27.cell? ⟨gb302, 2, none⟩ = some (.slice A0_2 l0_2.length c0_2) := (blk_cell BK302.out 2).trans rfl; have hcz28_3 : w27.cell? ⟨gb302, 3, none⟩ = some (.slice A0_3 l0_3.length c0_3) := (blk_cell BK302.out 3).trans rfl; have hcz28_4 : w27.cell? ⟨gb302, 4, none⟩ = some (.int .i64 a0_4) := (blk_cell BK302.out 4).trans rfl; have hfz28_0 := blk_frozen BK302.out 0; have hfz28_1 := blk_frozen BK302.out 1; have hfz28_2 := blk_frozen BK302.out 2; have hfz28_3 := blk_frozen BK302.out 3; have hfz28_4 := blk_frozen BK302.out 4; have hcz29_0 : w27.cell? ⟨gb303, 0, none⟩ = some (.int .i64 a1_0) := (blk_cell BK303.out 0).trans rfl; have hcz29_1 : w27.cell? ⟨gb303, 1, none⟩ = some (.slice A1_1 l1_1.length c1_1) := (blk_cell BK303.out 1).trans rfl; have hcz29_2 : w27.cell? ⟨gb303, 2, none⟩ = some (.slice A1_2 l1_2.length c1_2) := (blk_cell BK303.out 2).trans rfl; have hcz29_3 : w27.cell? ⟨gb303, 3, none⟩ = some (.slice A1_3 l1_3.length c1_3) := (blk_cell BK303.out 3).trans rfl; have hcz29_4 : w27.cell? ⟨gb303, 4, none⟩ = some (.int .i64 a1_4) := (blk_cell BK303.out 4).trans rfl; have hfz29_0 := blk_frozen BK303.out 0; have hfz29_1 := blk_frozen BK303.out 1; have hfz29_2 := blk_frozen BK303.out 2; have hfz29_3 := blk_frozen BK303.out 3; have hfz29_4 := blk_frozen BK303.out 4))
    go_ret
    exact ⟨by first | rfl | (simp [errW_none, errW_some] <;> rfl) | (simp [*, errW_none, errW_some] <;> rfl), bl_⟩
  ·
   replace c6 := Bool.eq_false_iff.mpr c6
   subst c6
   have H1 : (some false) = some r := by rw [if_neg (show ¬ (false = true) by decide)] at H; exact H
   clear H
   have H := H1
   clear H1
   obtain rfl := Option.some.inj H
   go_enter Try.func31, Try.ntmps31
   go_wp2_with (first | ((with_reducible refine gate_dst (N := 2) rfl ?_); refine box_event ?hg (N := 2) ?hd (cs := #[.int .i64 a0_0, .slice A0_1 l0_1.length c0_1, .slice A0_2 l0_2.length c0_2, .slice A0_3 l0_3.length c0_3, .int .i64 a0_4]) (t := 51) ?hr ?_; (case hd => rfl); (case hg => rfl); (case hr => first | (go_simp; done) | (go_simp; rfl)); intro gb302 hg w30 hbox hb; have n0_ := Aside0.mk (below_step bl_ hb); have n1_ := Aside0.mk (hbox); have n2_ := Aside0.mk ((by rw [hg]; exact (below_size bl_) : w.heap.size ≤ gb302)); have n3_ := Aside0.mk ((by rw [hg]; exact (below_size bl_) : w.heap.size ≤ gb302)); clear HB; have HB := n0_; have BK302 := n1_; have GW302 := n2_; have GE302 := n3_; clear n0_ n1_ n2_ n3_; clear hb hbox hg) | ((with_reducible refine gate_dst (N := 3) rfl ?_); refine box_event ?hg (N := 3) ?hd (cs := #[.int .i64 a1_0, .slice A1_1 l1_1.length c1_1, .slice A1_2 l1_2.length c1_2, .slice A1_3 l1_3.length c1_3, .int .i64 a1_4]) (t := 51) ?hr ?_; (case hd => rfl); (case hg => rfl); (case hr => first | (go_simp; done) | (go_simp; rfl)); intro gb303 hg w31 hbox hb; have n0_ := Aside0.mk (blk_below (up_ BK302.out) hb); have n1_ := Aside0.mk (below_step bl_ hb); have n2_ := Aside0.mk (hbox); have n3_ := Aside0.mk ((by rw [hg]; exact (below_size bl_) : w.heap.size ≤ gb303)); have n4_ := Aside0.mk ((by rw [hg]; exact (below_size bl_) : w.heap.size ≤ gb303)); have n5_ := Aside0.mk ((by rw [hg]; exact Nat.ne_of_lt (blk_lt (up_ BK302.out)) : gb302 ≠ gb303)); have n6_ := Aside0.mk ((by rw [hg]; exact Nat.ne_of_gt (blk_lt (up_ BK302.out)) : gb303 ≠ gb302)); clear BK302; clear HB; have BK302 := n0_; have HB := n1_; have BK303 := n2_; have GW303 := n3_; have GE303 := n4_; have NB302_303 := n5_; have NB303_302 := n6_; clear n0_ n1_ n2_ n3_ n4_ n5_ n6_; clear hb hbox hg; have hnb32 := NB302_303.out; have hnc32 := NB303_302.out; have hcz33_0 : w31.cell? ⟨gb302, 0, none⟩ = some (.int .i64 a0_0) := (blk_cell BK302.out 0).trans rfl; have hcz33_1 : w31.cell? ⟨gb302, 1, none⟩ = some (.slice A0_1 l0_1.length c0_1) := (blk_cell BK302.out 1).trans rfl; have hcz33_2 : w31.cell? ⟨gb302, 2, none⟩ = some (.slice A0_2 l0_2.length c0_2) := (blk_cell BK302.out 2).trans rfl; have hcz33_3 : w31.cell? ⟨gb302, 3, none⟩ = some (.slice A0_3 l0_3.length c0_3) := (blk_cell BK302.out 3).trans rfl; have hcz33_4 : w31.cell? ⟨gb302, 4, none⟩ = some (.int .i64 a0_4) := (blk_cell BK302.out 4).trans rfl; have hfz33_0 := blk_frozen BK302.out 0; have hfz33_1 := blk_frozen BK302.out 1; have hfz33_2 := blk_frozen BK302.out 2; have hfz33_3 := blk_frozen BK302.out 3; have hfz33_4 := blk_frozen BK302.out 4; have hcz34_0 : w31.cell? ⟨gb303, 0, none⟩ = some (.int .i64 a1_0) := (blk_cell BK303.out 0).trans rfl; have hcz34_1 : w31.cell? ⟨gb303, 1, none⟩ = some (.slice A1_1 l1_1.length c1_1) := (blk_cell BK303.out 1).trans rfl; have hcz34_2 : w31.cell? ⟨gb303, 2, none⟩ = some (.slice A1_2 l1_2.length c1_2) := (blk_cell BK303.out 2).trans rfl; have hcz34_3 : w31.cell? ⟨gb303, 3, none⟩ = some (.slice A1_3 l1_3.length c1_3) := (blk_cell BK303.out 3).trans rfl; have hcz34_4 : w31.cell? ⟨gb303, 4, none⟩ = some (.int .i64 a1_4) := (blk_cell BK303.out 4).trans rfl; have hfz34_0 := blk_frozen BK303.out 0; have hfz34_1 := blk_frozen BK303.out 1; have hfz34_2 := blk_frozen BK303.out 2; have hfz34_3 := blk_frozen BK303.out 3; have hfz34_4 := blk_frozen BK303.out 4) | ((with_reducible refine gate_callee (f := 26) rfl ?_); refine gL_ (some 9) Try.func26 #[.agg #[.int .i64 a0_0, .slice A0_1 l0_1.length c0_1, .slice A0_2 l0_2.length c0_2], .agg #[.int .i64 a1_0, .slice A1_1 l1_1.length c1_1, .slice A1_2 l1_2.length c1_2]] ?_; (with_reducible refine (laws_eqWheel.calls k a0_0 _ _ l0_1 _ _ l0_2 a1_0 _ _ l1_1 _ _ l1_2 true _ ?side1 ?side2 ?side3 ?side4 ?side5 ?side6 ?side7 ?side8 A3.out).mono ?_); (case side1 => exact Kd.C_below HR0_1.out bl_); (case side2 => exact HC0_1.out); (case side3 => exact Kd.C_below HR0_2.out bl_); (case side4 => exact HC0_2.out); (case side5 => exact Kd.C_below HR1_1.out bl_); (case side6 => exact HC1_1.out); (case side7 => exact Kd.C_below HR1_2.out bl_); (case side8 => exact HC1_2.out); rintro e w35 ⟨rfl, hb⟩; refine ⟨_, rfl, ?_⟩; have n0_ := Aside0.mk (blk_below (up_ BK302.out) hb); have n1_ := Aside0.mk (blk_below (up_ BK303.out) hb); have n2_ := Aside0.mk (below_step bl_ hb); clear BK302; clear BK303; clear HB; have BK302 := n0_; have BK303 := n1_; have HB := n2_; clear n0_ n1_ n2_; (try clear hb); (try clear hb2); (try clear hk); (try clear hi); have hcz36_0 : w35.cell? ⟨gb302, 0, none⟩ = some (.int .i64 a0_0) := (blk_cell BK302.out 0).trans rfl; have hcz36_1 : w35.cell? ⟨gb302, 1, none⟩ = some (.slice A0_1 l0_1.length c0_1) := (blk_cell BK302.out 1).trans rfl; have hcz36_2 : w35.cell? ⟨gb302, 2, none⟩ = some (.slice A0_2 l0_2.length c0_2) := (blk_cell BK302.out 2).trans rfl; have hcz36_3 : w35.cell? ⟨gb302, 3, none⟩ = some (.slice A0_3 l0_3.length c0_3) := (blk_cell BK302.out 3).trans rfl; have hcz36_4 : w35.cell? ⟨gb302, 4, none⟩ = some (.int .i64 a0_4) := (blk_cell BK302.out 4).trans rfl; have hfz36_0 := blk_frozen BK302.out 0; have hfz36_1 := blk_frozen BK302.out 1; have hfz36_2 := blk_frozen BK302.out 2; have hfz36_3 := blk_frozen BK302.out 3; have hfz36_4 := blk_frozen BK302.out 4; have hcz37_0 : w35.cell? ⟨gb303, 0, none⟩ = some (.int .i64 a1_0) := (blk_cell BK303.out 0).trans rfl; have hcz37_1 : w35.cell? ⟨gb303, 1, none⟩ = some (.slice A1_1 l1_1.length c1_1) := (blk_cell BK303.out 1).trans rfl; have hcz37_2 : w35.cell? ⟨gb303, 2, none⟩ = some (.slice A1_2 l1_2.length c1_2) := (blk_cell BK303.out 2).trans rfl; have hcz37_3 : w35.cell? ⟨gb303, 3, none⟩ = some (.slice A1_3 l1_3.length c1_3) := (blk_cell BK303.out 3).trans rfl; have hcz37_4 : w35.cell? ⟨gb303, 4, none⟩ = some (.int .i64 a1_4) := (blk_cell BK303.out 4).trans rfl; have hfz37_0 := blk_frozen BK303.out 0; have hfz37_1 := blk_frozen BK303.out 1; have hfz37_2 := blk_frozen BK303.out 2; have hfz37_3 := blk_frozen BK303.out 3; have hfz37_4 := blk_frozen BK303.out 4) | ((with_reducible refine gate_callee (f := 77) rfl ?_); refine gL_ (some 15) Try.func77 #[.slice A0_3 l0_3.length c0_3, .slice A1_3 l1_3.length c1_3] ?_; (with_reducible refine (laws_eqTimerS.calls k _ _ l0_3 _ _ l1_3 false _ ?side1 ?side2 ?side3 ?side4 A5.out).mono ?_); (case side1 => exact Kd.C_below HR0_3.out bl_); (case side2 => exact HC0_3.out); (case side3 => exact Kd.C_below HR1_3.out bl_); (case side4 => exact HC1_3.out); rintro e w38 ⟨rfl, hb⟩; refine ⟨_, rfl, ?_⟩; have n0_ := Aside0.mk (blk_below (up_ BK302.out) hb); have n1_ := Aside0.mk (blk_below (up_ BK303.out) hb); have n2_ := Aside0.mk (below_step bl_ hb); clear BK302; clear BK303; clear HB; have BK302 := n0_; have BK303 := n1_; have HB := n2_; clear n0_ n1_ n2_; (try clear hb); (try clear hb2); (try clear hk); (try clear hi)))
   go_ret
   exact ⟨by first | rfl | (simp [errW_none, errW_some] <;> rfl) | (simp [*, errW_none, errW_some] <;> rfl), bl_⟩
 ·
  replace c4 := Bool.eq_false_iff.mpr c4
  subst c4
  have H1 : (some false) = some r := by rw [if_neg (show ¬ (false = true) by decide)] at H; exact H
  clear H
  have H := H1
  clear H1
  obtain rfl := Option.some.inj H
  go_enter Try.func31, Try.ntmps31
  go_wp2_with (first | ((with_reducible refine gate_dst (N := 2) rfl ?_); refine box_event ?hg (N := 2) ?hd (cs := #[.int .i64 a0_0, .slice A0_1 l0_1.length c0_1, .slice A0_2 l0_2.length c0_2, .slice A0_3 l0_3.length c0_3, .int .i64 a0_4]) (t := 51) ?hr ?_; (case hd => rfl); (case hg => rfl); (case hr => first | (go_simp; done) | (go_simp; rfl)); intro gb302 hg w39 hbox hb; have n0_ := Aside0.mk (below_step bl_ hb); have n1_ := Aside0.mk (hbox); have n2_ := Aside0.mk ((by rw [hg]; exact (below_size bl_) : w.heap.size ≤ gb302)); have n3_ := Aside0.mk ((by rw [hg]; exact (below_size bl_) : w.heap.size ≤ gb302)); clear HB; have HB := n0_; have BK302 := n1_; have GW302 := n2_; have GE302 := n3_; clear n0_ n1_ n2_ n3_; clear hb hbox hg) | ((with_reducible refine gate_dst (N := 3) rfl ?_); refine box_event ?hg (N := 3) ?hd (cs := #[.int .i64 a1_0, .slice A1_1 l1_1.length c1_1, .slice A1_2 l1_2.length c1_2, .slice A1_3 l1_3.length c1_3, .int .i64 a1_4]) (t := 51) ?hr ?_; (case hd => rfl); (case hg => rfl); (case hr => first | (go_simp; done) | (go_simp; rfl)); intro gb303 hg w40 hbox hb; have n0_ := Aside0.mk (blk_below (up_ BK302.out) hb); have n1_ := Aside0.mk (below_step bl_ hb); have n2_ := Aside0.mk (hbox); have n3_ := Aside0.mk ((by rw [hg]; exact (below_size bl_) : w.heap.size ≤ gb303)); have n4_ := Aside0.mk ((by rw [hg]; exact (below_size bl_) : w.heap.size ≤ gb303)); have n5_ := Aside0.mk ((by rw [hg]; exact Nat.ne_of_lt (blk_lt (up_ BK302.out)) : gb302 ≠ gb303)); have n6_ := Aside0.mk ((by rw [hg]; exact Nat.ne_of_gt (blk_lt (up_ BK302.out)) : gb303 ≠ gb302)); clear BK302; clear HB; have BK302 := n0_; have HB := n1_; have BK303 := n2_; have GW303 := n3_; have GE303 := n4_; have NB302_303 := n5_; have NB303_302 := n6_; clear n0_ n1_ n2_ n3_ n4_ n5_ n6_; clear hb hbox hg; have hnb41 := NB302_303.out; have hnc41 := NB303_302.out; have hcz42_0 : w40.cell? ⟨gb302, 0, none⟩ = some (.int .i64 a0_0) := (blk_cell BK302.out 0).trans rfl; have hcz42_1 : w40.cell? ⟨gb302, 1, none⟩ = some (.slice A0_1 l0_1.length c0_1) := (blk_cell BK302.out 1).trans rfl; have hcz42_2 : w40.cell? ⟨gb302, 2, none⟩ = some (.slice A0_2 l0_2.length c0_2) := (blk_cell BK302.out 2).trans rfl; have hcz42_3 : w40.cell? ⟨gb302, 3, none⟩ = some (.slice A0_3 l0_3.length c0_3) := (blk_cell BK302.out 3).trans rfl; have hcz42_4 : w40.cell? ⟨gb302, 4, none⟩ = some (.int .i64 a0_4) := (blk_cell BK302.out 4).trans rfl; have hfz42_0 := blk_frozen BK302.out 0; have hfz42_1 := blk_frozen BK302.out 1; have hfz42_2 := blk_frozen BK302.out 2; have hfz42_3 := blk_frozen BK302.out 3; have hfz42_4 := blk_frozen BK302.out 4; have hcz43_0 : w40.cell? ⟨gb303, 0, none⟩ = some (.int .i64 a1_0) := (blk_cell BK303.out 0).trans rfl; have hcz43_1 : w40.cell? ⟨gb303, 1, none⟩ = some (.slice A1_1 l1_1.length c1_1) := (blk_cell BK303.out 1).trans rfl; have hcz43_2 : w40.cell? ⟨gb303, 2, none⟩ = some (.slice A1_2 l1_2.length c1_2) := (blk_cell BK303.out 2).trans rfl; have hcz43_3 : w40.cell? ⟨gb303, 3, none⟩ = some (.slice A1_3 l1_3.length c1_3) := (blk_cell BK303.out 3).trans rfl; have hcz43_4 : w40.cell? ⟨gb303, 4, none⟩ = some (.int .i64 a1_4) := (blk_cell BK303.out 4).trans rfl; have hfz43_0 := blk_frozen BK303.out 0; have hfz43_1 := blk_frozen BK303.out 1; have hfz43_2 := blk_frozen BK303.out 2; have hfz43_3 := blk_frozen BK303.out 3; have hfz43_4 := blk_frozen BK303.out 4) | ((with_reducible refine gate_callee (f := 26) rfl ?_); refine gL_ (some 9) Try.func26 #[.agg #[.int .i64 a0_0, .slice A0_1 l0_1.length c0_1, .slice A0_2 l0_2.length c0_2], .agg #[.int .i64 a1_0, .slice A1_1 l1_1.length c1_1, .slice A1_2 l1_2.length c1_2]] ?_; (with_reducible refine (laws_eqWheel.calls k a0_0 _ _ l0_1 _ _ l0_2 a1_0 _ _ l1_1 _ _ l1_2 false _ ?side1 ?side2 ?side3 ?side4 ?side5 ?side6 ?side7 ?side8 A3.out).mono ?_); (case side1 => exact Kd.C_below HR0_1.out bl_); (case side2 => exact HC0_1.out); (case side3 => exact Kd.C_below HR0_2.out bl_); (case side4 => exact HC0_2.out); (case side5 => exact Kd.C_below HR1_1.out bl_); (case side6 => exact HC1_1.out); (case side7 => exact Kd.C_below HR1_2.out bl_); (case side8 => exact HC1_2.out); rintro e w44 ⟨rfl, hb⟩; refine ⟨_, rfl, ?_⟩; have n0_ := Aside0.mk (blk_below (up_ BK302.out) hb); have n1_ := Aside0.mk (blk_below (up_ BK303.out) hb); have n2_ := Aside0.mk (below_step bl_ hb); clear BK302; clear BK303; clear HB; have BK302 := n0_; have BK303 := n1_; have HB := n2_; clear n0_ n1_ n2_; (try clear hb); (try clear hb2); (try clear hk); (try clear hi)))
  go_ret
  exact ⟨by first | rfl | (simp [errW_none, errW_some] <;> rfl) | (simp [*, errW_none, errW_some] <;> rfl), bl_⟩

/-! ### laws_markTimerS: function 86 -/
def laws_markTimerS.l0 : Nat → List (S91) → Int → Int → Option (Int × (List (S91)))
 | 0, _, _, _ => none
 | k + 1, x0, x1, x5 => if x5 < (x0.length : Int) then (if 0 ≤ x5 then ((some (x0.set (x5 : Int).toNat (⟨x1, (rd_T91 x0 x5).f1⟩ : S91) : List (S91))).bind fun y306 => (laws_markTimerS.l0 k (y306.set (x5 : Int).toNat (⟨(rd_T91 y306 x5).f0, wrap64 (x1 + 1)⟩ : S91)) (wrap64 ((wrap64 (x1 + 1)) + 1)) (wrap64 (x5 + 1)))) else (none)) else (some (x1, x0))
def laws_markTimerS.f (k : Nat) (l0 : List (S91)) (a1 : Int) : Option (Int × (List (S91))) := laws_markTimerS.l0 k l0 a1 0
set_option maxHeartbeats 8000000 in
set_option maxRecDepth 100000 in
theorem laws_markTimerS.calls (k : Nat) (P0_ : Nat → Prop) (u9000_ : Value) (l0 : List (S91)) (a1 : Int) (r1 : Int) (r2 : List (S91)) (w0 w : World) (hB : Below w0.heap.size w0 w) (ho0 : Kd.R k91 91 w w0.heap.size P0_ u9000_ l0) (h : laws_markTimerS.f k l0 a1 = some (r1, r2)) :
  Calls Try.prog 86 #[u9000_, .int .i64 a1] w fun e w' => e = .returned (.int .i64 r1) ∧ Kd.R k91 91 w' w0.heap.size (fun k_ => (P0_ k_ ∨ w.heap.size ≤ k_)) u9000_ r2 ∧ Below w0.heap.size w0 w' ∧ Kept w w' (fun k_ => P0_ k_) := by
 have HO0 := Aside0.mk (show Kd.R k91 91 w w0.heap.size (fun k_ => (P0_ k_ ∨ w.heap.size ≤ k_)) u9000_ l0 from Kd.R_mono ho0 (fun k_ hk => (.inl hk)))
 have HK := Aside0.mk (Kept.refl w (fun k_ => P0_ k_))
 have HW0 := Aside0.mk hB.size
 have HB := Aside0.mk hB
 clear hB
 have H : (laws_markTimerS.l0 k l0 a1 0) = some (r1, r2) := h
 clear h
 have H' := Aside0.mk H
 clear H
 go_enter Try.func86, Try.ntmps86
 go_wp2
 go_loopg [1, 5] k (fun kq v1 v5 w' => ∃ (x0_1 : List (S91)) (x1_1 : Int) (x5_1 : Int), v1 = .int .i64 x1_1 ∧ v5 = .int .i64 x5_1 ∧ Aside0 (laws_markTimerS.l0 kq x0_1 x1_1 x5_1 = some (r1, r2)) ∧ Aside0 (kq ≤ k) ∧ Aside0 (Kd.R k91 91 w' w0.heap.size (fun k_ => (P0_ k_ ∨ w.heap.size ≤ k_)) u9000_ x0_1) ∧ Aside0 (Kept w w' (fun k_ => P0_ k_)) ∧ Aside0 (Below w0.heap.size w0 w'))
 case atStart => exact ⟨(l0), (a1), (0), (by first | rfl | (simp; done) | (simp [*]; done)), (by first | rfl | (simp; done) | (simp [*]; done)), H', ⟨Nat.le_refl _⟩, ⟨rU_ HO0.out⟩, ⟨by repeat (first | (with_reducible first | exact HK.out | apply Kept.alloc | apply Kept.drewN | apply Kept.drew) | exact HK.out)⟩, ⟨bl_⟩⟩
 case round =>
  clear H'
  try clear p2
  obtain ⟨x0_1, x1_1, x5_1, rfl, rfl, HA, HK1, HO_0, HK, HB⟩ := hrel
  cases gk with
  | zero => exact absurd HA.out (by simp [laws_markTimerS.l0])
  | succ k1 =>
   have H := HA.out
   clear HA
   simp only [laws_markTimerS.l0] at H
   by_cases c3 : x5_1 < (x0_1.length : Int)
   ·
    rw [if_pos c3] at H
    have c3b0 : decide (x5_1 < (x0_1.length : Int)) = true := decide_eq_true c3
    clear c3
    by_cases c4 : 0 ≤ x5_1
    ·
     rw [if_pos c4] at H
     have c4b0 : decide (0 ≤ x5_1) = true := decide_eq_true c4
     clear c4
     obtain ⟨y306, hy306⟩ : ∃ y_ : List (S91), y_ = (x0_1.set (x5_1 : Int).toNat (⟨x1_1, (rd_T91 x0_1 x5_1).f1⟩ : S91)) := ⟨_, rfl⟩
     replace H : (laws_markTimerS.l0 k1 (y306.set (x5_1 : Int).toNat (⟨(rd_T91 y306 x5_1).f0, wrap64 (x1_1 + 1)⟩ : S91)) (wrap64 ((wrap64 (x1_1 + 1)) + 1)) (wrap64 (x5_1 + 1))) = some (r1, r2) := by first | (rw [hy306]; with_reducible exact H) | (have H2_ := (Option.bind_some _ _).symm.trans H; rw [hy306]; with_reducible exact H2_) | (have H2_ := (Option.bind_some _ _).symm.trans H; with_reducible exact H2_) | with_reducible exact H | (rw [hy306]; exact H) | exact H
     have Ny306 := Aside0.mk hy306
     clear hy306
     obtain ⟨y307, hy307⟩ : ∃ y_ : List (S91), y_ = (y306.set (x5_1 : Int).toNat (⟨(rd_T91 y306 x5_1).f0, wrap64 (x1_1 + 1)⟩ : S91)) := ⟨_, rfl⟩
     replace H : (laws_markTimerS.l0 k1 y307 (wrap64 ((wrap64 (x1_1 + 1)) + 1)) (wrap64 (x5_1 + 1))) = some (r1, r2) := by first | (rw [hy307]; with_reducible exact H) | (have H2_ := (Option.bind_some _ _).symm.trans H; rw [hy307]; with_reducible exact H2_) | (have H2_ := (Option.bind_some _ _).symm.trans H; with_reducible exact H2_) | with_reducible exact H | (rw [hy307]; exact H) | exact H
     have Ny307 := Aside0.mk hy307
     clear hy307
     have H' := Aside0.mk H
     clear H
     obtain ⟨Ao7, co7, eo7⟩ := Kd.R_slice HO_0.out
     subst eo7
     have p5 : 0 ≤ (x5_1 : Int) := ds_
     have q5 : (x5_1 : Int) < ((x0_1.length : Int) : Int) := ds_
     obtain ⟨go5, co5, eo5, gb5, gl5, cl5, HG5⟩ := Kd.R_form HO_0.out (by omega)
     (first | cases eo5 | (injection eo5 with ea_ en_ ec_; (first | subst ea_ | (injection ea_ with ea_; subst ea_)); subst ec_; clear en_))
     have GB5 := Aside0.mk gb5
     have GG5 := Aside0.mk HG5
     clear gb5 gl5 HG5
     have HMgo5 := Aside0.mk (show (P0_ go5 ∨ w.heap.size ≤ go5) from (HO_0.out.1 _ rfl))
     obtain ⟨ce5, hcl5, hM5, hcc5, hfr5⟩ := Kd.R_elem HO_0.out z91 (x5_1 : Int) p5 q5
     obtain rfl := k91_openM hM5
     have hx5_0 : wr.cell? ⟨go5, (x5_1 : Int).toNat * 2, none⟩ = some (.int .i64 ((rd_T91 x0_1 x5_1).f0)) := hcc5 0 _ rfl
     have hx5_1 : wr.cell? ⟨go5, (x5_1 : Int).toNat * 2 + 1, none⟩ = some (.int .i64 ((rd_T91 x0_1 x5_1).f1)) := hcc5 1 _ rfl
     have hf5_0 : wr.frozen? ⟨go5, (x5_1 : Int).toNat * 2, none⟩ = false := hfr5 0
     have hf5_1 : wr.frozen? ⟨go5, (x5_1 : Int).toNat * 2 + 1, none⟩ = false := hfr5 1
     clear hcl5 hcc5 hfr5; (try clear hM5)
     replace p5 := eq_true p5
     replace q5 := eq_true q5
     have HX8 := Aside0.mk (show Kd.R k91 91 wr w0.heap.size (fun k_ => (P0_ k_ ∨ w.heap.size ≤ k_)) (.slice (some ⟨go5, 0, none⟩) x0_1.length co7) x0_1 from (by exact rU_ HO_0.out))
     obtain ⟨ce8, hcl8, hM8, hcc8, hfr8⟩ := Kd.R_elem HX8.out z91 (x5_1 : Int) (ds_) (by have h_ : (x5_1 : Int) < ((x0_1.length : Int) : Int) := ds_; first | exact h_ | (have e_ := (Kd.R_reads' HO_0.out).1; omega) | simpa using h_)
     obtain rfl := k91_openM hM8
     have HP8 := Kd.R_seg HX8.out (x5_1 : Int) (ds_) (by have h_ : (x5_1 : Int) < ((x0_1.length : Int) : Int) := ds_; first | exact h_ | (have e_ := (Kd.R_reads' HO_0.out).1; omega) | simpa using h_) (seg := [.int .i64 x1_1]) (j := 0) hcl8 hcc8 (show 1 ≤ 2 from by decide) (x' := (⟨x1_1, (rd_T91 x0_1 x5_1).f1⟩ : S91)) (k91_mkM _ _ _ (⟨x1_1, (rd_T91 x0_1 x5_1).f1⟩ : S91) ) (fun _ hk => hk)
     have hx8_0 := hcc8 0 _ rfl
     (try simp only [show (k91).sz = 2 from rfl, Nat.mul_one, Nat.add_zero] at hx8_0)
     have hf8_0 := hfr8 0
     (try simp only [show (k91).sz = 2 from rfl, Nat.mul_one, Nat.add_zero] at hf8_0)
     clear hcl8 hcc8 hfr8; (try clear hM8)
     go_wp2_with (first | ((with_reducible refine gate_store (t := 2) (p := 16) rfl ?_); refine store_event (t := 2) (p := 16) (v := ?vo_w9) (w1 := (wr.setCell ⟨go5, (x5_1 : Int).toNat * 2, none⟩ (.int .i64 x1_1))) ?hg ?ho ?hn ?hr ?_; (case ho => rfl); (case hg => rfl); (case hn => rfl); (case hr => first | (go_simp; done) | (go_simp; rfl)); intro w9 hw; have hg : wr.grownBy w9 (some go5) := (by rw [hw]; exact HP8.2); have hp_ : Kd.R k91 91 w9 w0.heap.size (fun k_ => (P0_ k_ ∨ w.heap.size ≤ k_)) (.slice (some ⟨go5, 0, none⟩) x0_1.length co7) y306 := (by rw [hw, Ny306.out]; exact HP8.1); clear HP8; have n0_ := Aside0.mk (hp_); have n1_ := Aside0.mk ((by rw [hw]; exact below_set (HB.out) GB5.out : Below w0.heap.size w0 w9)); have n2_ := Aside0.mk (Kept.of_grown (S := (fun k_ => P0_ k_)) hg (by repeat (first | (with_reducible first | exact HK.out | apply Kept.alloc | apply Kept.drewN | apply Kept.drew) | exact HK.out)) (fun k_ e_ => (HO_0.out.1 k_ e_))); clear HO_0; clear HB; clear HK; have HO_0 := n0_; have HB := n1_; have HK := n2_; clear n0_ n1_ n2_; clear hg hw hp_; have p6 : 0 ≤ (x5_1 : Int) := ds_; have q6 : (x5_1 : Int) < ((x0_1.length : Int) : Int) := ds_; obtain ⟨ce6, hcl6, hM6, hcc6, hfr6⟩ := Kd.R_elem HO_0.out z91 (x5_1 : Int) p6 q6; obtain rfl := k91_openM hM6; have hx6_0 : w9.cell? ⟨go5, (x5_1 : Int).toNat * 2, none⟩ = some (.int .i64 ((rd_T91 y306 x5_1).f0)) := hcc6 0 _ rfl; have hx6_1 : w9.cell? ⟨go5, (x5_1 : Int).toNat * 2 + 1, none⟩ = some (.int .i64 ((rd_T91 y306 x5_1).f1)) := hcc6 1 _ rfl; have hf6_0 : w9.frozen? ⟨go5, (x5_1 : Int).toNat * 2, none⟩ = false := hfr6 0; have hf6_1 : w9.frozen? ⟨go5, (x5_1 : Int).toNat * 2 + 1, none⟩ = false := hfr6 1; clear hcl6 hcc6 hfr6; (try clear hM6); replace p6 := eq_true p6; replace q6 := eq_true q6; have HX10 := Aside0.mk (show Kd.R k91 91 w9 w0.heap.size (fun k_ => (P0_ k_ ∨ w.heap.size ≤ k_)) (.slice (some ⟨go5, 0, none⟩) x0_1.length co7) y306 from (by exact rU_ HO_0.out)); obtain ⟨ce10, hcl10, hM10, hcc10, hfr10⟩ := Kd.R_elem HX10.out z91 (x5_1 : Int) (ds_) (by have h_ : (x5_1 : Int) < ((x0_1.length : Int) : Int) := ds_; first | exact h_ | (have e_ := (Kd.R_reads' HO_0.out).1; omega) | simpa using h_); obtain rfl := k91_openM hM10; have HP10 := Kd.R_seg HX10.out (x5_1 : Int) (ds_) (by have h_ : (x5_1 : Int) < ((x0_1.length : Int) : Int) := ds_; first | exact h_ | (have e_ := (Kd.R_reads' HO_0.out).1; omega) | simpa using h_) (seg := [.int .i64 (wrap64 (x1_1 + 1))]) (j := 1) hcl10 hcc10 (show 2 ≤ 2 from by decide) (x' := (⟨(rd_T91 y306 x5_1).f0, wrap64 (x1_1 + 1)⟩ : S91)) (k91_mkM _ _ _ (⟨(rd_T91 y306 x5_1).f0, wrap64 (x1_1 + 1)⟩ : S91) ) (fun _ hk => hk); have hx10_1 := hcc10 1 _ rfl; (try simp only [show (k91).sz = 2 from rfl, Nat.mul_one, Nat.add_zero] at hx10_1); have hf10_1 := hfr10 1; (try simp only [show (k91).sz = 2 from rfl, Nat.mul_one, Nat.add_zero] at hf10_1); clear hcl10 hcc10 hfr10; (try clear hM10)) | ((with_reducible refine gate_store (t := 2) (p := 23) rfl ?_); refine store_event (t := 2) (p := 23) (v := ?vo_w11) (w1 := (w9.setCell ⟨go5, (x5_1 : Int).toNat * 2 + 1, none⟩ (.int .i64 (wrap64 (x1_1 + 1))))) ?hg ?ho ?hn ?hr ?_; (case ho => rfl); (case hg => rfl); (case hn => rfl); (case hr => first | (go_simp; done) | (go_simp; rfl)); intro w11 hw; have hg : w9.grownBy w11 (some go5) := (by rw [hw]; exact HP10.2); have hp_ : Kd.R k91 91 w11 w0.heap.size (fun k_ => (P0_ k_ ∨ w.heap.size ≤ k_)) (.slice (some ⟨go5, 0, none⟩) x0_1.length co7) y307 := (by rw [hw, Ny307.out]; exact HP10.1); clear HP10; have n0_ := Aside0.mk (hp_); have n1_ := Aside0.mk ((by rw [hw]; exact below_set (HB.out) GB5.out : Below w0.heap.size w0 w11)); have n2_ := Aside0.mk (Kept.of_grown (S := (fun k_ => P0_ k_)) hg (by repeat (first | (with_reducible first | exact HK.out | apply Kept.alloc | apply Kept.drewN | apply Kept.drew) | exact HK.out)) (fun k_ e_ => (HO_0.out.1 k_ e_))); clear HO_0; clear HB; clear HK; have HO_0 := n0_; have HB := n1_; have HK := n2_; clear n0_ n1_ n2_; clear hg hw hp_))
     go_roundg k1
     case measure => have := HK1.out; omega
     case rel => exact ⟨(y307), (wrap64 ((wrap64 (x1_1 + 1)) + 1)), (wrap64 (x5_1 + 1)), (by first | rfl | (simp; done) | (simp [*]; done)), (by first | rfl | (simp; done) | (simp [*]; done)), H', ⟨by have := HK1.out; omega⟩, ⟨rU_ HO_0.out⟩, ⟨by repeat (first | (with_reducible first | exact HK.out | apply Kept.alloc | apply Kept.drewN | apply Kept.drew) | exact HK.out)⟩, ⟨bl_⟩⟩
    ·
     rw [if_neg c4] at H
     exact absurd H (by simp)
   ·
    rw [if_neg c3] at H
    have c3b0 : decide (x5_1 < (x0_1.length : Int)) = false := decide_eq_false c3
    clear c3
    simp only [Option.some.injEq, Prod.mk.injEq] at H
    obtain ⟨rfl, rfl⟩ := H
    obtain ⟨Ao12, co12, eo12⟩ := Kd.R_slice HO_0.out
    subst eo12
    go_wp2
    go_ret
    exact ⟨by first | rfl | (simp [errW_none, errW_some] <;> rfl) | (simp [*, errW_none, errW_some] <;> rfl), by (with_reducible repeat (first | apply Kd.R_alloc | apply Kd.R_drewN | apply Kd.R_drew)); exact HO_0.out, by repeat (first | (with_reducible first | exact HB.out | apply below_alloc | apply pw_below_drewN | apply below_drew1) | exact HB.out), by repeat (first | (with_reducible first | exact HK.out | apply Kept.alloc | apply Kept.drewN | apply Kept.drew) | exact HK.out)⟩

/-! ### laws_markTimerSS: function 85 -/
def markSS (k : Nat) : List (List S91) → Int → Option (Int × List (List S91))
 | [], a => some (a, [])
 | l :: ls, a => (laws_markTimerS.f k l a).bind fun p => (markSS k ls p.1).bind fun q => some (q.1, p.2 :: q.2)
set_option maxHeartbeats 8000000 in
set_option maxRecDepth 100000 in
/-- laws.markTimerSS: rows of rows are written; no two rows lie in one block. -/
theorem markSS_calls (k : Nat) (P : Nat → Prop) (u : Value) (l0 : List (List S91)) (a1 r1 : Int) (r2 : List (List S91)) (w0 w : World) (hB : Below w0.heap.size w0 w) (ho : Kd.S (Kd.slice 91 k91) 43 w w0.heap.size P u l0) (hf : markSS k l0 a1 = some (r1, r2)) :
  Calls Try.prog 85 #[u, .int .i64 a1] w fun e w' => e = .returned (.int .i64 r1) ∧ Kd.S (Kd.slice 91 k91) 43 w' w0.heap.size P u r2 ∧ Below w0.heap.size w0 w' ∧ Kept w w' P := by
 obtain ⟨A, c, rfl, hc, hC⟩ := Kd.S_reads ho
 have hmx : l0.length ≤ 9223372036854775807 := hC.2.1
 have HO := Aside0.mk ho
 have HF := Aside0.mk hf
 have HB0 := Aside0.mk hB
 clear ho hf hB hC
 go_enter Try.func85, Try.ntmps85
 go_wp2
 go_loopg [1, 5] l0.length (fun gg s1 s5 wr => ∃ (i : Nat) (a : Int) (don rest out : List (List S91)), s1 = .int .i64 a ∧ s5 = .int .i64 i ∧ i ≤ l0.length ∧ l0.length - i ≤ gg ∧ Aside0 (don.length = i) ∧ Aside0 (i + rest.length = l0.length) ∧ Aside0 (markSS k rest a = some (r1, out)) ∧ Aside0 (r2 = don ++ out) ∧ Aside0 (Kd.S (Kd.slice 91 k91) 43 wr w0.heap.size P (.slice A l0.length c) (don ++ rest)) ∧ Aside0 (Below w0.heap.size w0 wr) ∧ Aside0 (Kept w wr P))
 case atStart => exact ⟨0, a1, [], l0, r2, rfl, rfl, Nat.zero_le _, by omega, ⟨rfl⟩, ⟨by omega⟩, HF, ⟨rfl⟩, HO, HB0, ⟨Kept.refl _ _⟩⟩
 case round =>
  clear HO HF HB0
  obtain ⟨i, a, don, rest, out, rfl, rfl, hi, hg, HD, HSUM, HF, HR2, HO, HB, HK⟩ := hrel
  by_cases hlt : i < l0.length
  ·
   cases rest with
   | nil => have := HSUM.out; simp at this; omega
   | cons x rest =>
    have hf := HF.out
    rw [markSS] at hf
    obtain ⟨p, hp, hf⟩ := Option.bind_eq_some_iff.1 hf
    obtain ⟨q, hq, hf⟩ := Option.bind_eq_some_iff.1 hf
    simp only [Option.some.injEq, Prod.mk.injEq] at hf
    obtain ⟨hf1, rfl⟩ := hf
    obtain ⟨a2, x2⟩ := p
    obtain ⟨a3, rest2⟩ := q
    simp only at hf1 hq
    subst hf1
    have HP := Aside0.mk hp
    have HQ := Aside0.mk hq
    clear hp hq HF
    obtain ⟨g, cap, eo, gb, gl, _⟩ := Kd.S_form HO.out (by simp; omega)
    injection eo with ea eb ec
    subst ea
    subst ec
    clear eb gb gl
    obtain ⟨oki, cs, hcl, hM, hcell, hoki, hH⟩ := Kd.S_lend HO.out [] (i : Int) (by omega) (by omega)
    obtain ⟨v, rfl, hrow⟩ := hM
    have hx : (don ++ x :: rest).getD (i : Int).toNat [] = x := by
     rw [Int.toNat_natCast, ← HD.out, List.getD_eq_getElem?_getD]
     simp
    rw [hx] at hrow
    obtain ⟨A1, c1, rfl⟩ := Kd.R_slice hrow
    have hx0 := hcell 0 _ rfl
    simp only [Int.toNat_natCast, show (Kd.slice 91 k91).sz = 1 from rfl, Nat.mul_one, Nat.add_zero] at hx0
    have hcall := laws_markTimerS.calls k oki (.slice A1 x.length c1) x a a2 x2 w0 wr HB.out hrow HP.out
    have HROW := Aside0.mk hrow
    have HH := Aside0.mk hH
    have HOK := Aside0.mk hoki
    clear hrow hH hoki hcell hcl hx HO
    have hltz : (i : Int) < (l0.length : Int) := by omega
    go_wp2_with (go_at_call 86; refine hcall.mono ?_; clear hcall; rintro e w1 ⟨rfl, hr1, hb1, hk1⟩; have HR1 := Aside0.mk hr1; have HB1 := Aside0.mk hb1; have HK1 := Aside0.mk hk1; clear hr1 hb1 hk1)
    go_roundg (l0.length - (i + 1))
    case measure => omega
    case rel =>
     refine ⟨i + 1, a2, don ++ [x2], rest, rest2, rfl, by go_num, by omega, by omega, ⟨by simp [HD.out]⟩, ⟨by have := HSUM.out; simp at this; omega⟩, HQ, ⟨by rw [HR2.out]; simp⟩, ⟨?_⟩, HB1, ⟨HK.out.then_ HK1.out (fun k hk => .inl (HOK.out k hk).1)⟩⟩
     have hb := Kd.H_back (x' := x2) (okp := oki) (Kd.H_kept HH.out HK1.out (fun _ _ hn hs => hn hs)) ⟨_, rfl, R91_ok HR1.out (fun k hk => HROW.out.1 k hk)⟩ (fun _ hk => hk)
     rw [Int.toNat_natCast, ← HD.out, List.set_append_right _ _ (Nat.le_refl _), Nat.sub_self, List.set_cons_zero] at hb
     rw [List.append_assoc]
     exact hb
  ·
   have hz : rest = [] := List.length_eq_zero_iff.1 (by have := HSUM.out; omega)
   subst hz
   have hf := HF.out
   rw [markSS] at hf
   simp only [Option.some.injEq, Prod.mk.injEq] at hf
   obtain ⟨rfl, rfl⟩ := hf
   have hltz : ¬ (i : Int) < (l0.length : Int) := by omega
   go_wp2
   go_ret
   exact ⟨rfl, by rw [HR2.out]; exact HO.out, HB.out, HK.out⟩

/-! ### laws_markWheel: function 32 -/
set_option maxHeartbeats 8000000 in
set_option maxRecDepth 100000 in
theorem markWheel_calls (k : Nat) (P Q : Nat → Prop) (a0 : Int) (u v : Value) (l1 l1' : List (List S91)) (l2 l2' : List S91) (a b c : Int) (w0 w : World) (hB : Below w0.heap.size w0 w)
  (hS : Kd.S (Kd.slice 91 k91) 43 w w0.heap.size P u l1) (hR : Kd.R k91 91 w w0.heap.size Q v l2) (hPQ : ∀ k, P k → ¬ Q k) (h1 : markSS k l1 a = some (b, l1')) (h2 : laws_markTimerS.f k l2 b = some (c, l2')) :
  Calls Try.prog 32 #[.agg #[.int .i64 a0, u, v], .int .i64 a] w fun e w' => e = .returned (.int .i64 c) ∧ Kd.S (Kd.slice 91 k91) 43 w' w0.heap.size P u l1' ∧ Kd.R k91 91 w' w0.heap.size Q v l2' ∧ Below w0.heap.size w0 w' ∧ Kept w w' (fun k => P k ∨ Q k) := by
 have hu45 := Try.underlying45
 have hQ := hR.1
 have HS := Aside0.mk (show Kd.S (Kd.slice 91 k91) 43 w w0.heap.size (fun k => P k ∧ k < w.heap.size) u l1 from Kd.S_mono (Kd.S_bound hS) (fun k hk => ⟨hk.1, hk.2.2.1⟩))
 have HR := Aside0.mk (show Kd.R k91 91 w w0.heap.size (fun k => Q k ∧ k < w.heap.size) v l2 from R91_ok hR (fun k hk => ⟨hQ k hk, Kd.R_lt hR k hk⟩))
 obtain ⟨A1, c1, rfl, _, _⟩ := Kd.S_reads hS
 obtain ⟨A2, c2, rfl⟩ := Kd.R_slice hR
 have HB := Aside0.mk hB
 have HPQ := Aside0.mk hPQ
 have H1 := Aside0.mk h1
 have H2 := Aside0.mk h2
 have HQ := Aside0.mk hQ
 clear hS hR hB hPQ h1 h2 hQ
 go_enter Try.func32, Try.ntmps32
 go_wp2_with (first
  | (go_at_call 85; refine (markSS_calls k (fun k => P k ∧ k < w.heap.size) _ l1 a b l1' w0 _ ?s0 ?s1 H1.out).mono ?_; (case s0 => exact HB.out.alloc HB.out.size _); (case s1 => exact Kd.S_alloc HS.out _); rintro e w1 ⟨rfl, hs1, hb1, hk1⟩; have HS1 := Aside0.mk hs1; have hx2 : w1.cell? ⟨w.heap.size, 2, none⟩ = some (.slice A2 l2.length c2) := (blk_cell (blk_kept (heap_alloc_new w _) hk1 (fun h => Nat.lt_irrefl _ h.2)) 2).trans rfl; have HR1 := Aside0.mk (Kd.R_kept (Kd.R_alloc HR.out _) hk1 (fun k hq hp => HPQ.out k hp.1 hq.1)); have HB1 := Aside0.mk hb1; have HK1 := Aside0.mk ((Kept.alloc (Kept.refl w (fun k => P k ∨ Q k)) _).then_ hk1 (fun k hk => .inl (.inl hk.1))); clear hs1 hb1 hk1)
  | (go_at_call 86; refine (laws_markTimerS.calls k (fun k => Q k ∧ k < w.heap.size) _ l2 b c l2' w0 _ ?s0 ?s1 H2.out).mono ?_; (case s0 => exact HB1.out); (case s1 => exact HR1.out); rintro e w2 ⟨rfl, hr2, hb2, hk2⟩; have HS2 := Aside0.mk (Kd.S_kept HS1.out hk2 (fun k hp hq => HPQ.out k hp.1 hq.1)); have HR2 := Aside0.mk (R91_ok (ok' := Q) hr2 (fun k hk => (HR1.out.1 k hk).1)); have HB2 := Aside0.mk hb2; have HK2 := Aside0.mk (HK1.out.then_ hk2 (fun k hk => .inl (.inr hk.1))); clear hr2 hb2 hk2))
 go_ret
 exact ⟨rfl, Kd.S_mono HS2.out (fun _ hk => hk.1), HR2.out, HB2.out, HK2.out⟩
set_option maxHeartbeats 8000000 in
set_option maxRecDepth 100000 in
theorem markTimerS_nil (a : Int) (w0 w : World) : Calls Try.prog 86 #[.slice none 0 0, .int .i64 a] w fun e w' => e = .returned (.int .i64 a) ∧ Below w.heap.size w w' := by
 go_enter Try.func86, Try.ntmps86
 go_wp2
 go_loopg [1, 5] 1 (fun kq v1 v5 w' => v1 = .int .i64 a ∧ v5 = .int .i64 0 ∧ Aside0 (Below w.heap.size w w'))
 case atStart => exact ⟨rfl, rfl, ⟨Below.refl _ _⟩⟩
 case round =>
  obtain ⟨rfl, rfl, HB⟩ := hrel
  go_wp2
  go_ret
  exact ⟨rfl, HB.out⟩
set_option maxHeartbeats 8000000 in
set_option maxRecDepth 100000 in
theorem markWheelOut_calls (k : Nat) (P Q : Nat → Prop) (a0 a4 : Int) (u v : Value) (l1 l1' : List (List S91)) (l2 l2' : List S91) (a b c : Int) (w0 w : World) (hB : Below w0.heap.size w0 w)
  (hS : Kd.S (Kd.slice 91 k91) 43 w w0.heap.size P u l1) (hR : Kd.R k91 91 w w0.heap.size Q v l2) (hPQ : ∀ k, P k → ¬ Q k) (h1 : markSS k l1 a = some (b, l1')) (h2 : laws_markTimerS.f k l2 b = some (c, l2')) :
  Calls Try.prog 33 #[.agg #[.int .i64 a0, u, v, .slice none 0 0, .int .i64 a4], .int .i64 a] w fun e w' => e = .returned (.int .i64 c) ∧ Kd.S (Kd.slice 91 k91) 43 w' w0.heap.size P u l1' ∧ Kd.R k91 91 w' w0.heap.size Q v l2' ∧ Below w0.heap.size w0 w' ∧ Kept w w' (fun k => P k ∨ Q k) := by
 have hu45 := Try.underlying45
 have hu51 := Try.underlying51
 have hQ := hR.1
 have HS := Aside0.mk (show Kd.S (Kd.slice 91 k91) 43 w w0.heap.size (fun k => P k ∧ k < w.heap.size) u l1 from Kd.S_mono (Kd.S_bound hS) (fun k hk => ⟨hk.1, hk.2.2.1⟩))
 have HR := Aside0.mk (show Kd.R k91 91 w w0.heap.size (fun k => Q k ∧ k < w.heap.size) v l2 from R91_ok hR (fun k hk => ⟨hQ k hk, Kd.R_lt hR k hk⟩))
 obtain ⟨A1, c1, rfl, _, _⟩ := Kd.S_reads hS
 obtain ⟨A2, c2, rfl⟩ := Kd.R_slice hR
 have HB := Aside0.mk hB
 have HPQ := Aside0.mk hPQ
 have H1 := Aside0.mk h1
 have H2 := Aside0.mk h2
 clear hS hR hB hPQ h1 h2 hQ
 go_enter Try.func33, Try.ntmps33
 go_wp2_with (first
  | (go_at_call 32; refine (markWheel_calls k (fun k => P k ∧ k < w.heap.size) (fun k => Q k ∧ k < w.heap.size) a0 _ _ l1 l1' l2 l2' a b c w0 _ ?s0 ?s1 ?s2 (fun k hp hq => HPQ.out k hp.1 hq.1) H1.out H2.out).mono ?_; (case s0 => exact HB.out.alloc HB.out.size _); (case s1 => exact Kd.S_alloc HS.out _); (case s2 => exact Kd.R_alloc HR.out _); rintro e w1 ⟨rfl, hs1, hr1, hb1, hk1⟩; have hx3 : w1.cell? ⟨w.heap.size, 3, none⟩ = some (.slice none 0 0) := (blk_cell (blk_kept (heap_alloc_new w _) hk1 (fun h => h.elim (fun h => Nat.lt_irrefl _ h.2) (fun h => Nat.lt_irrefl _ h.2))) 3).trans rfl; have HS1 := Aside0.mk hs1; have HR1 := Aside0.mk hr1; have HB1 := Aside0.mk hb1; have HK1 := Aside0.mk ((Kept.alloc (Kept.refl w (fun k => P k ∨ Q k)) _).then_ hk1 (fun k hk => .inl (hk.imp (fun h => h.1) (fun h => h.1)))); clear hs1 hr1 hb1 hk1)
  | (go_at_call 86; refine (markTimerS_nil c w0 _).mono ?_; rintro e w2 ⟨rfl, hb2⟩; have HS2 := Aside0.mk (Kd.S_below HS1.out hb2); have HR2 := Aside0.mk (Kd.R_below HR1.out hb2); have HB2 := Aside0.mk (below_then HB1.out HB1.out.size hb2); have HK2 := Aside0.mk (HK1.out.below hb2); clear hb2))
 go_ret
 exact ⟨rfl, Kd.S_mono HS2.out (fun _ hk => hk.1), R91_ok HR2.out (fun k hk => (HR2.out.1 k hk).1), HB2.out, HK2.out⟩

/-! ### laws_markWheelOut: function 33 -/


end Go.Proofs.Ytenlceojmjkbkaa.XFnExactWheelDrop
