/- Functions that FnExactTreeTake comes to, as Lean functions with their contracts: written by the prover's own program (wip/tpl/myprint.py) over the kit's printer, some contracts by hand. Conditions: none. -/
import Derived.Test.YtenlceojmjkbkaaGreatXFnExactTreeTakex0
import Derived.Test.YtenlceojmjkbkaaGreatXFnExactTreeTakex1
import Derived.Test.YtenlceojmjkbkaaGreatXFnExactTreeTakex7
import Derived.Test.YtenlceojmjkbkaaGreatXFnExactTreeTakex8
namespace Go.Proofs.YtenlceojmjkbkaaGreat.XFnExactTreeTake
open Go.RowKit Go.Proofs.YtenlceojmjkbkaaGreatW.PrintWords Go.Proofs.YtenlceojmjkbkaaGreatW.PrintLast Go.Proofs.YtenlceojmjkbkaaGreatW.PrintMore
attribute [local go_sem] max2_int min2_int max_two min_two max_three min_three max_four min_four   -- for this text's walks alone
set_option linter.unusedVariables false
set_option linter.unusedSimpArgs false

/-! ### impl_areItems: function 44 -/
theorem info35s : (Tryz.prog.info? 35).map (fun i => (i.zero, i.size, i.bytes)) = some (some (.agg #[(.int .i64 0), (.int .i64 0), (.int .i64 0)]), 3, 24) := by kernel_rfl
section
open Go.Shelf Go.Sort
attribute [local go_sem] Oper.semAt_some

def encI (x : S35) : Array Value := #[.agg #[.int .i64 x.f0, .int .i64 x.f1, .int .i64 x.f2]]

set_option maxRecDepth 100000 in
set_option maxHeartbeats 4000000 in
/-- slices.Values's closure: each element in its turn, for every loop body that keeps what lay below n₀. -/
theorem values1_in (F : Fence) (n : Nat) (h7 : F.fn 78) (hro : F.round = none) (hn : 1 ≤ n) (l Bs n₀ cap : Nat) (A : Option Addr) (zs : List S35) (J Jx : List S35 → World → Prop)
  (hY : ∀ pre x W, J pre W → pre.length < zs.length → YieldAt F (n - 1) Tryz.prog l (encI x) W fun e W' =>
   (e = .returned (.bool true) ∧ J (pre ++ [x]) W' ∧ Below n₀ W W') ∨ (e = .returned (.bool false) ∧ Jx (pre ++ [x]) W'))
  (w0 W : World) (hJ : AbidesFrom W.heap.size J) (hBs : W.cell? ⟨Bs, 0, none⟩ = some (.slice A zs.length cap)) (hc : Kd.C k35 w0 A zs.length zs) (hw0 : ∀ a v, w0.cell? a = some v → a.block < n₀ → W.cell? a = some v) (hn1 : n₀ ≤ W.heap.size) (hlow : ∀ a v, w0.cell? a = some v → a.block < n₀) (h0 : J [] W) :
  CallsIn F n Tryz.prog 78 #[.func (.yield l) #[] #[], .pointer (some ⟨Bs, 0, none⟩)] W fun e W' => (∃ v, e = .returned v) ∧
   ((∃ ys, ys = zs ∧ J ys W') ∨ (∃ pre, pre <+: zs ∧ Jx pre W')) := by
 have hmx : zs.length ≤ 9223372036854775807 := hc.2.1
 refine callsIn_of_wp Tryz.func78 rfl h7 ?_ hro
 simp only [Tryz.ntmps78, List.size_toArray, List.length_cons, List.length_nil, Nat.reduceAdd, Nat.reduceSub, Array.replicate_succ, Array.replicate_zero, List.push_toArray, List.append_toArray, List.nil_append, List.cons_append]
 have HC := Aside0.mk hc
 have HW := Aside0.mk hw0
 have HL := Aside0.mk hlow
 have HJ0 := Aside0.mk hJ
 have HY := Aside0.mk hY
 clear hc hw0 hlow hJ hY
 gi_wp2
 gi_loopw [4, 7] (fun _ i wr => ∃ k : Nat, k ≤ zs.length ∧ i = .int .i64 k ∧ J (zs.take k) wr ∧ Aside0 (Below n₀ W wr)) (fun _ i _ => zs.length - (intOf i).toNat)
 case atStart => exact ⟨0, Nat.zero_le _, rfl, h0, ⟨Below.refl _ _⟩⟩
 case round =>
  obtain ⟨k, hk, rfl, hJs, HB⟩ := hrel
  by_cases hlt : k < zs.length
  ·
   have hltz : (k : Int) < (zs.length : Int) := by omega
   obtain ⟨ad, e, hx0, hx1, hx2⟩ := at_T35 HC.out (k : Int) (by omega) (by omega)
   cases e
   have cellK : ∀ a v, w0.cell? a = some v → wr.cell? a = some v := fun a v h => (HB.out.cell (HL.out a v h)).trans (HW.out a v h (HL.out a v h))
   replace hx0 := cellK _ _ hx0
   replace hx1 := cellK _ _ hx1
   replace hx2 := cellK _ _ hx2
   clear cellK
   simp only [Int.toNat_natCast] at hx0 hx1 hx2
   have hrd : rd_T35 zs (k : Int) = zs[k] := by simp [rd_T35, List.getD_eq_getElem?_getD, hlt]
   rw [hrd] at hx0 hx1 hx2
   have hsz : n₀ ≤ wr.heap.size := Nat.le_trans hn1 HB.out.size
   obtain ⟨x, hx⟩ : ∃ x, x = zs[k] := ⟨_, rfl⟩
   rw [← hx] at hx0 hx1 hx2
   have hJa := HJ0.out _ wr _ none hJs (World.grownBy_alloc wr (.cells #[.int .i64 x.f0, .int .i64 x.f1, .int .i64 x.f2] 35) none) (fun r h => by cases h)
   have hJl : (zs.take k).length < zs.length := by simp; omega
   obtain ⟨fn, tmps, assign, body, hy, hR⟩ := HY.out _ x _ hJa hJl
   unfold encI at hy
   have HX := Aside0.mk hx
   clear hx hrd
   gi_wp2
   refine hR.mono ?_
   clear hR hx0 hx1 hx2
   rintro e W3 (⟨rfl, hJ3, hk3⟩ | ⟨rfl, hJx3⟩)
   ·
    have HK3 := Aside0.mk hk3
    clear hk3
    gi_wp2
    go_roundw
    case rel => exact ⟨k + 1, by omega, by go_num, by rw [List.take_succ_eq_append_getElem hlt, ← HX.out]; exact hJ3, ⟨(HB.out.alloc hsz _).trans HK3.out⟩⟩
    case measure => simp [intOf]; omega
   ·
    gi_wp2
    refine bodyPost_ret (results_none rfl _ _ _) rfl ?_
    exact ⟨⟨_, rfl⟩, .inr ⟨_, ⟨zs.drop (k + 1), by rw [HX.out, ← List.take_succ_eq_append_getElem hlt, List.take_append_drop]⟩, hJx3⟩⟩
  ·
   obtain rfl : k = zs.length := by omega
   have hltz : ¬ (zs.length : Int) < (zs.length : Int) := by omega
   rw [List.take_length] at hJs
   gi_wp2
   go_end0
   first | exact ⟨⟨_, rfl⟩, .inl ⟨zs, rfl, hJs⟩⟩ | exact ⟨⟨_, rfl⟩, .inl hJs⟩

set_option maxHeartbeats 1000000 in
/-- slices.Values(s): the slice value is boxed; the function value captures the box. -/
theorem values_in (F : Fence) (n : Nat) (h5 : F.fn 63) (hro : F.round = none) (a : Option Addr) (len cap : Nat) (w : World) :
  CallsIn F n Tryz.prog 63 #[.slice a len cap] w fun e w' => e = .returned (.func (.func 78) #[] #[.pointer (some ⟨w.heap.size, 0, none⟩)]) ∧ w' = w.alloc (.cells #[.slice a len cap] 67) := by
 refine callsIn_of_wp Tryz.func63 rfl h5 ?_ hro
 simp only [Tryz.ntmps63, List.size_toArray, List.length_cons, List.length_nil, Nat.reduceAdd, Nat.reduceSub, Array.replicate_succ, Array.replicate_zero, List.push_toArray, List.append_toArray, List.nil_append, List.cons_append]
 gi_wp2
 go_ret
 exact ⟨rfl, rfl⟩
/-- .. hands back a value that gives all elements in order, or a prefix. w0: the world of the slice. -/
theorem values_stops (F : Fence) (n : Nat) (h7 : F.fn 78) (hro : F.round = none) (hn : 1 ≤ n) (Bs cap : Nat) (A : Option Addr) (zs : List S35) (w0 w : World) (hb : Below w0.heap.size w0 w) (hBs : Bs < w.heap.size) 
  (hcell : w.cell? ⟨Bs, 0, none⟩ = some (.slice A zs.length cap)) (hc : Kd.C k35 w0 A zs.length zs) :
  SeqStopsK F n Tryz.prog 78 #[.pointer (some ⟨Bs, 0, none⟩)] encI (Below w0.heap.size) (fun ys => ys = zs) (fun pre => pre <+: zs) zs.length w := fun l J Jx W hW hJ _ hY h0 =>
 values1_in F n h7 hro hn l Bs w0.heap.size cap A zs J Jx hY w0 W hJ ((hW.cell (p := ⟨Bs, 0, none⟩) hBs).trans hcell) hc
  (fun a v h hl => (hW.cell (p := a) (by have := hb.size; omega)).trans ((hb.cell (p := a) hl).trans h)) (by have := hb.size; have := hW.size; omega) (fun a v h => World.block_lt_of_cell? w0 a h) h0

end
section
open Go.Shelf Go.Sort
attribute [local go_sem] Oper.semAt_some

def enc33 (x : S35) : List Value := [.int .i64 x.f0, .int .i64 x.f1, .int .i64 x.f2]
def flat33 (l : List S35) : List Value := l.flatMap enc33
theorem flat33_length (l : List S35) : (flat33 l).length = l.length * 3 := by
 induction l with
 | nil => rfl
 | cons x l ih => simp [flat33, enc33] at ih ⊢; omega
theorem flat33_snoc (l : List S35) (x : S35) : flat33 (l ++ [x]) = flat33 l ++ enc33 x := by simp [flat33]
theorem reps_flat {R : S35 → List Value → Prop} (hR : ∀ x cs, R x cs → cs = enc33 x) : ∀ (l : List S35) (cs : List Value), Reps R 3 l cs → cs = flat33 l
 | [], cs, h => List.eq_nil_of_length_eq_zero (by simpa using h.1)
 | x :: l, cs, h => by
  have h0 := hR _ _ (h.2 0 x rfl)
  simp only [Nat.zero_mul, List.drop_zero] at h0
  have ht : Reps R 3 l (cs.drop 3) := ⟨by rw [List.length_drop, h.1]; simp; omega, fun j p hj => by
   have := h.2 (j + 1) p (by simpa using hj)
   rwa [List.drop_drop, show 3 + j * 3 = (j + 1) * 3 by omega]⟩
  have h1 := reps_flat hR l _ ht
  rw [show flat33 (x :: l) = enc33 x ++ flat33 l from rfl, ← h0, ← h1, List.take_append_drop]
theorem flat_reps {R : S35 → List Value → Prop} (hR : ∀ x, R x (enc33 x)) : ∀ (l : List S35), Reps R 3 l (flat33 l)
 | [] => Reps.none _ _
 | x :: l => Reps.c3 (hR x) (flat_reps hR l)
theorem R_flat {e base : Nat} {ok : Nat → Prop} {w : World} {v : Value} {l : List S35} (h : k35.R e w base ok v l) : w.ownsRow base e 3 v l.length (flat33 l) := by
 obtain ⟨_, inner, ho, hr⟩ := h
 rwa [reps_flat (fun x cs h => k35_openM h) l inner hr] at ho
theorem flat_R {e base : Nat} {ok : Nat → Prop} {w : World} {v : Value} {l : List S35} (h : w.ownsRow base e 3 v l.length (flat33 l)) (hok : ∀ k, v.ownBlock = some k → ok k) : k35.R e w base ok v l :=
 ⟨hok, flat33 l, h, flat_reps (fun x => k35_mkM _ _ _ x) l⟩
theorem enc_one (x : S35) : ∀ u ∈ enc33 x, u.oneCell' = true := by
 intro u hu
 simp only [enc33, List.mem_cons, List.not_mem_nil, or_false] at hu
 rcases hu with rfl | rfl | rfl <;> rfl
/-- A block of cells lies on while blocks that are no cells turn. -/
theorem blk_own {β : Type} (b t : Nat) (cs : Array Value) : Own (fun (_ : β) W => W.heap[b]? = some (.cells cs t (0, 0))) := by
 intro s A B row h hg hr
 refine (hg.block b (blk_lt h) (fun e => ?_)).trans h
 obtain ⟨o, ho, hc⟩ := hr b e.symm
 rw [h] at ho; cases ho; cases hc

set_option maxRecDepth 100000 in
set_option maxHeartbeats 4000000 in
/-- slices.AppendSeq onto nil: a row of the call's own, of all that has come. -/
theorem appendseq_in (F : Fence) (n : Nat) (h3 : F.fn 84) (h137 : F.fn 78) (hro : F.round = none) (hn : 3 ≤ n) (Bs n₀ : Nat) (zs : List S35) (hlen : zs.length ≤ 1000) (w0 w : World) (hn₀ : n₀ ≤ w.heap.size) (hw : Below w0.heap.size w0 w)
  (hseq : SeqStopsK F (n - 1) Tryz.prog 78 #[.pointer (some ⟨Bs, 0, none⟩)] encI (Below n₀) (fun ys => ys = zs) (fun pre => pre <+: zs) zs.length w0) :
  CallsIn F n Tryz.prog 84 #[.slice none 0 0, .func (.func 78) #[] #[.pointer (some ⟨Bs, 0, none⟩)]] w fun e W' => ∃ v, e = .returned v ∧ W'.ownsRow w.heap.size 35 3 v zs.length (flat33 zs) ∧ Below w.heap.size w W' := by
 have h1 : 1 ≤ n := by omega
 obtain ⟨i0, hi, hz0, hz1, hz2⟩ := info_parts info35s
 refine callsIn_of_wp_marks Tryz.func84 rfl h3 ?_ hro
 simp only [Tryz.ntmps84, List.size_toArray, List.length_cons, List.length_nil, Nat.reduceAdd, Nat.reduceSub, Array.replicate_succ, Array.replicate_zero, List.push_toArray, List.append_toArray, List.nil_append, List.cons_append]
 gi_wp2
 have bO := Boxed.new w 67 (.slice none 0 0)
 have hB0 : Below w.heap.size w (w.alloc (.cells #[.slice none 0 0] 67)) := (Below.refl _ w).alloc (Nat.le_refl _) _
 refine wpIn_rangeFunc_ownH hro h1 (gf := 78) (lb := #[.pointer (some ⟨Bs, 0, none⟩)]) rfl h137 (enters_of Tryz.func78 (by kernel_rfl) rfl)
  hseq belowK_t (belowK_b (by simp; omega)) (hw.alloc hw.size _) (fun _ => rfl)
  (fun pre W => (∃ v, Boxed W w.heap.size 67 v ∧ W.ownsRow w.heap.size 35 3 v pre.length (flat33 pre) ∧ True) ∧ Below w.heap.size w W)
  (fun _ _ _ => False)
  (OwnFrom.and (Own.from (holdsRow_own w.heap.size w.heap.size 67 35 3 (fun pre => pre.length) (fun pre => flat33 pre) (fun _ _ => True)) _) (ownFrom_below (Nat.le_refl _) (by simp)))
  (fun _ _ _ _ _ hs _ _ => hs)
  ⟨⟨_, bO, World.ownsRow_nil _ _ _ _, trivial⟩, hB0⟩
  (fun x a' W => ∃ Bx, (w.heap.size < Bx ∧ a' = { tmps := #[.slice none 0 0, .func (.func 78) #[] #[.pointer (some ⟨Bs, 0, none⟩)], .pointer (some ⟨w.heap.size, 0, none⟩), undef, .slice none 0 0, .pointer (some ⟨Bx, 0, none⟩), .func (.func 78) #[] #[.pointer (some ⟨Bs, 0, none⟩)], .agg #[.int .i64 x.f0, .int .i64 x.f1, .int .i64 x.f2], undef, undef, undef, undef, undef], defers := [] }) ∧ W.heap[Bx]? = some (.cells #[.int .i64 x.f0, .int .i64 x.f1, .int .i64 x.f2] 35 (0, 0)))
  ?hAx ?assign ?body ?done ?stop
 case hAx =>
  rintro x a' s A B row ⟨Bx, hp, hb⟩ hg hr
  exact ⟨Bx, hp, Own.from (blk_own (β := Unit) Bx 35 _) _ () A B row hb hg hr⟩
 case assign =>
  rintro l pre x W K ⟨⟨v, hv, hrow, _⟩, hB⟩ hK
  dsimp only [encI]
  gi_wp2
  exact hK _ _ ((KeepsOthers.alloc _ _).from _) ((Below.refl _ W).alloc (Nat.le_trans hn₀ hB.size) _) ⟨⟨v, hv.alloc _, hrow.alloc _, trivial⟩, hB.alloc hB.size _⟩ ⟨W.heap.size, ⟨hv.lt, rfl⟩, heap_alloc_new W _⟩
 case body =>
  rintro l pre x a' W hl ⟨r, hr⟩ ⟨⟨v, hv, hrow, _⟩, hB⟩ ⟨Bx, ⟨hBx, rfl⟩, bX⟩ hlt
  have hc := hv.cell
  have hx0 := blk_cell bX 0
  have hx1 := blk_cell bX 1
  have hx2 := blk_cell bX 2
  simp only [List.getElem?_toArray, List.getElem?_cons_zero, List.getElem?_cons_succ] at hx0 hx1 hx2
  gi_wp2_with (gi_at_builtin; refine wpListIn_append_own _ rfl _ _ 67 rfl w.heap.size 35 i0 _ 3 24 Tryz.underlying67 hi hz0 hz1 hz2 rfl (by decide) _ _ _ rfl (hrow.alloc _) ⟨W.heap.size, 0, none⟩ 1 1 (enc33 x) rfl rfl (World.news_of_block (cs := #[.int .i64 x.f0, .int .i64 x.f1, .int .i64 x.f2]) (t := 35) (fr := (0, 0)) (heap_alloc_new W _)) (enc_one x) (by simp only [maxLen]; omega) (by omega) (by have := hB.size; simp; omega) ?_; intro v' w1 hown' hgrow _; obtain ⟨g', cap', rfl⟩ := ownsRow_succ hown'; obtain ⟨hv1, hv2, hr2, hk2, hb2⟩ := hv.appended (by decide) hrow hB.size (Nat.le_refl _) hown' hgrow; have hc1 := hv1.cell; have hf1 := hv1.frozen)
  exact ⟨hk2.from _, hb2.mono hn₀, ⟨⟨_, hv2, by rw [flat33_snoc, List.length_append]; exact hr2, trivial⟩, hB.trans hb2⟩⟩
 case done =>
  rintro D ys W hD rfl ⟨⟨v, hv, hrow, _⟩, hB⟩ hK
  have hc := hv.cell
  gi_wp2
  refine ⟨by simp, .inl ⟨_, _, rfl, run_takeDeferred hK, ?_⟩⟩
  exact ⟨_, results_tmp rfl _ _ _, v, rfl, ownsRow_putObj hrow _ hK rfl, hB.trans (belowK_b (w := w) (Nat.le_refl _) W D _ _ (by simp at hD; omega) hK rfl rfl)⟩
 case stop =>
  rintro D c pre W _ _ h _
  exact h.elim

set_option maxRecDepth 100000 in
set_option maxHeartbeats 4000000 in
/-- slices.Collect. -/
theorem collect_in (F : Fence) (n : Nat) (h2 : F.fn 76) (h3 : F.fn 84) (h137 : F.fn 78) (hro : F.round = none) (hn : 4 ≤ n) (Bs n₀ : Nat) (zs : List S35) (hlen : zs.length ≤ 1000) (w : World) (hn₀ : n₀ ≤ w.heap.size)
  (hseq : SeqStopsK F (n - 1 - 1) Tryz.prog 78 #[.pointer (some ⟨Bs, 0, none⟩)] encI (Below n₀) (fun ys => ys = zs) (fun pre => pre <+: zs) zs.length w) :
  CallsIn F n Tryz.prog 76 #[.func (.func 78) #[] #[.pointer (some ⟨Bs, 0, none⟩)]] w fun e W' => ∃ v, e = .returned v ∧ W'.ownsRow w.heap.size 35 3 v zs.length (flat33 zs) ∧ Below w.heap.size w W' := by
 refine callsIn_of_wp Tryz.func76 rfl h2 ?_ hro
 simp only [Tryz.ntmps76, List.size_toArray, List.length_cons, List.length_nil, Nat.reduceAdd, Nat.reduceSub, Array.replicate_succ, Array.replicate_zero, List.push_toArray, List.append_toArray, List.nil_append, List.cons_append]
 have h1 : 1 ≤ n := by omega
 gi_wp2_with (gi_at_call 84; refine (appendseq_in F (n - 1) h3 h137 hro (by omega) Bs n₀ zs hlen w w hn₀ (Below.refl _ _) hseq).mono ?_; rintro e w' ⟨v, rfl, hown, hb⟩; have HO := Aside0.mk hown; have HB := Aside0.mk hb; clear hown hb)
 go_ret
 exact ⟨_, rfl, HO.out, HB.out⟩

end
section
open Go.Shelf Go.Sort

/-! ### A row of Items as the sort's kit holds it -/
instance : Inhabited S35 := ⟨z35⟩
theorem flat33_get : ∀ (l : List S35) (j : Nat), j < l.length * 3 → (flat33 l)[j]? = some ((enc33 ((l.toArray)[j / 3]!))[j % 3]!)
 | [], j, h => by simp at h
 | x :: l, j, h => by
  have e : flat33 (x :: l) = enc33 x ++ flat33 l := by simp [flat33]
  have hx : (enc33 x).length = 3 := rfl
  rw [e]
  by_cases h3 : j < 3
  ·
   rw [List.getElem?_append_left (by omega)]
   have h0 : j / 3 = 0 := by omega
   rw [h0, show j % 3 = j by omega]
   have : j = 0 ∨ j = 1 ∨ j = 2 := by omega
   rcases this with rfl | rfl | rfl <;> rfl
  ·
   rw [List.getElem?_append_right (by omega), hx, flat33_get l (j - 3) (by simp at h; omega)]
   have e1 : (j - 3) % 3 = j % 3 := by omega
   have e2 : j / 3 = (j - 3) / 3 + 1 := by omega
   rw [e1, e2]
   congr 2
   simp
section
variable {α : Type} [Inhabited α] (f : α → S35)
theorem flatK_get (d : Array α) (j : Nat) (h : j < d.size * 3) : (flat33 (d.toList.map f))[j]? = some ((flatK (fun x => enc33 (f x)) 3 d)[j]!) := by
 rw [get_flatK (fun x => enc33 (f x)) 3 d j h, flat33_get (d.toList.map f) j (by simpa using h)]
 have hj : j / 3 < d.size := by omega
 simp [hj]
theorem own_holds {w : World} {base g cap n : Nat} {l : List α} (h : w.ownsRow base 35 3 (.slice (some ⟨g, 0, none⟩) n cap) l.length (flat33 (l.map f))) : HoldsK (fun x => enc33 (f x)) 3 w g 0 l.toArray ∧ g < w.heap.size ∧ base ≤ g ∧ n = l.length := by
 obtain ⟨_, h | ⟨g', cap', cur, hv, hg, hc, _, _, hs, hp⟩⟩ := h
 ·
  cases h.1
 ·
  cases hv
  refine ⟨fun j hj => ?_, blk_lt hc, hg, rfl⟩
  simp only [size_flatK, List.size_toArray] at hj
  rw [Nat.zero_add]
  refine ⟨?_, blk_frozen hc j⟩
  rw [blk_cell hc j]
  have h1 := flatK_get f l.toArray j (by simpa using hj)
  rw [← hp, List.getElem?_take_of_lt hj, Array.getElem?_toList] at h1
  exact h1
theorem sorted_own {w : World} {base g cap n m : Nat} {l : List α} {d : Array α} {os : Array Obj} (h : w.ownsRow base 35 3 (.slice (some ⟨g, 0, none⟩) n cap) l.length (flat33 (l.map f))) (hd : d.size = l.length) :
  (sortWorldK (fun x => enc33 (f x)) 3 w g 0 m d os).ownsRow base 35 3 (.slice (some ⟨g, 0, none⟩) n cap) (d.toList.map f).length (flat33 (d.toList.map f)) := by
 obtain ⟨_, h | ⟨g', cap', cur, hv, hg, hc, h1, h2, hs, hp⟩⟩ := h
 ·
  cases h.1
 ·
  cases hv
  have hlt := blk_lt hc
  have hdl : (d.toList.map f).length = l.length := by simpa using hd
  refine ⟨flat33_length _, .inr ⟨g, cap, putCells id 0 (flatK (fun x => enc33 (f x)) 3 d) cur, by rw [hdl], hg, ?_, by omega, h2, ?_, ?_⟩⟩
  ·
   unfold sortWorldK grow putRowK putRow mapBlock Sort.ahead
   simp only
   rw [Array.getElem?_append, if_pos (by simpa using hlt), Array.getElem?_modify, if_pos rfl, hc]
   rfl
  ·
   simp [putCells, hs]
  ·
   apply List.ext_getElem?
   intro j
   by_cases hj : j < d.size * 3
   ·
    rw [List.getElem?_take_of_lt (by simpa using hj), flatK_get f d j hj, Array.getElem?_toList]
    have hj2 : j < cur.size := by rw [hs]; have := Nat.mul_le_mul_right 3 h1; omega
    unfold putCells
    rw [Array.getElem?_mapIdx, Array.getElem?_eq_getElem hj2]
    simp [hj]
   ·
    rw [List.getElem?_take_eq_none (by simpa using hj), List.getElem?_eq_none (by rw [flat33_length]; simpa using hj)]
theorem sorted_below {w0 w : World} {B g m : Nat} {d : Array α} {os : Array Obj} (h : Below B w0 w) (hg : B ≤ g) (hB : B ≤ w.heap.size) : Below B w0 (sortWorldK (fun x => enc33 (f x)) 3 w g 0 m d os) := by
 refine ⟨h.os, h.tape, h.output, ?_, fun k hk => ?_⟩
 ·
  have := h.size
  unfold sortWorldK grow putRowK putRow mapBlock Sort.ahead
  simp; omega
 ·
  rw [← h.block k hk]
  unfold sortWorldK grow putRowK putRow mapBlock Sort.ahead
  simp only
  rw [Array.getElem?_append, if_pos (by simp; omega), Array.getElem?_modify, if_neg (by omega)]
end

end
/-! ### What a call lays behind the heap, and that it turns no draw back -/
def BelowD (B : Nat) (w w' : World) : Prop := Below B w w' ∧ w.drawn ≤ w'.drawn
theorem BelowD.refl (B : Nat) (w : World) : BelowD B w w := ⟨Below.refl _ _, Nat.le_refl _⟩
theorem dB_alloc {w W : World} (h : BelowD w.heap.size w W) (o : Obj) : BelowD w.heap.size w (W.alloc o) := ⟨below_alloc h.1 o, h.2⟩
theorem dB_drewN {B : Nat} {w W : World} (h : BelowD B w W) (n : Nat) : BelowD B w (W.drewN n) := ⟨pw_below_drewN h.1 n, Nat.le_trans h.2 (Nat.le_add_right _ _)⟩
theorem dB_drew1 {B : Nat} {w W : World} (h : BelowD B w W) : BelowD B w W.drew := ⟨below_drew1 h.1, Nat.le_trans h.2 (Nat.le_add_right _ _)⟩
theorem dB_set {w W : World} {g j : Nat} {v : Value} (h : BelowD w.heap.size w W) (hg : w.heap.size ≤ g) : BelowD w.heap.size w (W.setCell ⟨g, j, none⟩ v) := ⟨below_set h.1 hg, h.2⟩
theorem dB_step {w W w2 : World} (h : BelowD w.heap.size w W) (k : BelowD W.heap.size W w2) : BelowD w.heap.size w w2 := ⟨below_step h.1 k.1, Nat.le_trans h.2 k.2⟩
theorem dB_size {w W : World} (h : BelowD w.heap.size w W) : w.heap.size ≤ W.heap.size := below_size h.1
theorem dB_blk {w w1 : World} {g : Nat} {o : Obj} (h : w.heap[g]? = some o) (hb : BelowD w.heap.size w w1) : w1.heap[g]? = some o := blk_below h hb.1
section
variable {P : Program} {ops : Array Oper} {o : Oper} {a : Act} {Q : Exit → Act → World → Prop} {Kc : Act → World → Prop}
theorem dB_lit {α : Type} (d : Kd α) {w0 W : World} (base e : Nat) (hw : Region.wanted o (yielded ops a.tmps) = true) {N : Tmp} (hd : o.dst = some N) {xs : List α} {inner : List Value} {ok okp : Nat → Prop}
  (hrun : (execOp a.eval o).run P W = .ok (.value (.slice (some ⟨W.heap.size, 0, none⟩) xs.length xs.length)) (W.alloc (.cells inner.toArray e)))
  (hrep : Reps (d.M W base okp) d.sz xs inner) (hok : ∀ k, okp k → ok k) (hfresh : ok W.heap.size) (HB : BelowD base w0 W) (hbase : base ≤ W.heap.size) (hm : xs.length ≤ 9223372036854775807)
  (h : ∀ v1 w1, d.R e w1 base ok v1 xs → BelowD base w0 w1 → W.grownBy w1 none → (∃ b, v1.ownBlock = some b ∧ W.heap.size ≤ b) → Kc (a.put o.dst v1) w1) : if Region.wanted o (yielded ops a.tmps) = true then Oper.wp P o a W Kc Q else Kc (a.put o.dst undef) W := by
 refine event_step hw hrun (h _ _ ⟨fun k hk => ?_, inner, ?_, ?_⟩ ⟨HB.1.alloc hbase _, HB.2⟩ (World.grownBy_alloc W _ none) ⟨W.heap.size, by simp [Value.ownBlock], Nat.le_refl _⟩)
 ·
  have : W.heap.size = k := by simpa [Value.ownBlock] using hk
  subst this
  exact hfresh
 ·
  have h2 := World.ownsRow_lit (base := base) (e := e) (size := d.sz) W inner.toArray xs.length hbase (by simpa [maxLen] using hm) (by simpa using hrep.1)
  simpa using h2
 ·
  refine hrep.imp_ (fun p c hp => d.M_mono (fun k hk => ⟨hok k hk.1, fun he => ?_⟩) (Kd.M_below (d.M_bound hp) (below_alloc (Below.refl _ _) _)))
  have h3 : k = W.heap.size := by simpa [Value.ownBlock] using he
  have := hk.2.2.1
  omega
end
section
variable {P : Program} {ops : Array Oper} {rest : List Oper} {o : Oper} {a : Act} {Q : Exit → Act → World → Prop}
theorem dB_box {W : World} (hgd : o.guard = none) {N : Tmp} (_hd : o.dst = some N) {cs : Array Value} {t : TypeId}
  (hrun : (execOp a.eval o).run P W = .ok (.value (.pointer (some ⟨W.heap.size, 0, none⟩))) (W.alloc (.cells cs t (0, 0))))
  (h : ∀ g, g = W.heap.size → ∀ w1, w1.heap[g]? = some (.cells cs t (0, 0)) → BelowD W.heap.size W w1 → wpList P ops Q rest (a.put o.dst (.pointer (some ⟨g, 0, none⟩))) w1) : wpList P ops Q (o :: rest) a W :=
 Kd.event_run hgd hrun (h _ rfl _ (blk_new W _) (dB_alloc (BelowD.refl _ _) _))
end
open Go.Sort in
/-- So much is an equation. -/
theorem grow_of {w w' : World} (h : BelowD w.heap.size w w') : ∃ q os, w' = grow (w.drewN q) os := by
 obtain ⟨h, hd⟩ := h
 refine ⟨w'.drawn - w.drawn, w'.heap.extract w.heap.size w'.heap.size, ?_⟩
 have hh : w'.heap = w.heap ++ w'.heap.extract w.heap.size w'.heap.size := by
  apply Array.ext_getElem?
  intro i
  rw [Array.getElem?_append]
  by_cases hi : i < w.heap.size
  ·
   rw [if_pos hi]; exact h.block i hi
  ·
   rw [if_neg hi, Array.getElem?_extract]
   by_cases h2 : i < w'.heap.size
   ·
    rw [if_pos (by omega)]; congr 1; omega
   ·
    rw [if_neg (by omega)]; simp; omega
 cases w with | mk hp tp dr os out =>
 cases w' with | mk hp' tp' dr' os' out' =>
 have h1 := h.os; have h2 := h.tape; have h3 := h.output
 simp only at h1 h2 h3 hh hd
 unfold grow World.drewN
 simp only [World.mk.injEq]
 exact ⟨hh, h2, by omega, h1, h3⟩
section
open Go.Shelf Go.Sort
open Go.Lib
section
variable {α : Type} [Inhabited α]
/-- The sort's own order of a list. -/
def sortL (cf : α → α → Int) (zs : List α) : List α := (pdq (ltOf cf) zs.toArray 0 zs.toArray.size (Lib.bitLen zs.toArray.size) true true).toList
theorem sortL_facts (cf : α → α → Int) (hO : SWO (ltOf cf)) (zs : List α) : PermIn 0 zs.toArray.size zs.toArray (pdq (ltOf cf) zs.toArray 0 zs.toArray.size (Lib.bitLen zs.toArray.size) true true) ∧ SortedIn (ltOf cf) 0 zs.toArray.size (pdq (ltOf cf) zs.toArray 0 zs.toArray.size (Lib.bitLen zs.toArray.size) true true) :=
 pdq_sorts (ltOf cf) hO zs.toArray 0 zs.toArray.size (Lib.bitLen zs.toArray.size) true true (Nat.zero_le _) (Nat.le_refl _) (Or.inl rfl)
theorem sortL_length (cf : α → α → Int) (hO : SWO (ltOf cf)) (zs : List α) : (sortL cf zs).length = zs.length := by
 have h := (sortL_facts cf hO zs).1.1
 simpa [sortL] using h
set_option maxHeartbeats 4000000 in
theorem SortedFunc_of (f : α → S35) (cf : α → α → Int) (hO : SWO (ltOf cf)) (g : Nat) (eg : ∀ args w, (callFunc g args).run Tryz.prog w = .ok (.enter g args) w)
  (hcmp : ∀ x y W, Calls Tryz.prog g #[.agg (enc33 (f x)).toArray, .agg (enc33 (f y)).toArray] W fun e w' => e = .returned (.int .i64 (cf x y)) ∧ ∃ q os', w' = grow (W.drewN q) os')
  (A : Option Addr) (cap : Nat) (zs : List α) (hlen : zs.length ≤ 1000) (Bs : Nat) (w0 w : World) (hb : Below w0.heap.size w0 w) (hBs : Bs < w.heap.size) (hcell : w.cell? ⟨Bs, 0, none⟩ = some (.slice A zs.length cap)) (hc : Kd.C k35 w0 A zs.length (zs.map f)) :
  Calls Tryz.prog 62 #[.func (.func 78) #[] #[.pointer (some ⟨Bs, 0, none⟩)], .func (.func g) #[] #[]] w fun e w' => ∃ v, e = .returned v ∧ k35.R 35 w' w.heap.size (fun _ => True) v ((sortL cf zs).map f) ∧ Below w.heap.size w w' := by
 have hl2 : (zs.map f).length = zs.length := by simp
 have hcol := callsIn_wide.1 (collect_in Fence.wide 10 trivial trivial trivial rfl (by omega) Bs w0.heap.size (zs.map f) (by omega) w hb.size
  (values_stops Fence.wide 8 trivial rfl (by omega) Bs cap A (zs.map f) w0 w hb hBs (by rw [hl2]; exact hcell) (by rw [hl2]; exact hc)))
 have hsort : ∀ v w1, w1.ownsRow w.heap.size 35 3 v zs.length (flat33 (zs.map f)) → Below w.heap.size w w1 → Calls Tryz.prog 77 #[v, .func (.func g) #[] #[]] w1 fun e w' => e = .returned (.tuple #[]) ∧ w'.ownsRow w.heap.size 35 3 v ((sortL cf zs).map f).length (flat33 ((sortL cf zs).map f)) ∧ Below w.heap.size w w' := by
  intro v w1 hown hb1
  by_cases h0 : zs.length = 0
  ·
   have hz : zs = [] := List.length_eq_zero_iff.1 h0
   have hs : sortL cf zs = [] := List.length_eq_zero_iff.1 (by rw [sortL_length cf hO, h0])
   have hv : ∃ p c, v = .slice p 0 c := by
    rcases hown.2 with h | ⟨g', c, cur, hv, _⟩
    ·
     exact ⟨none, 0, h.1⟩
    ·
     exact ⟨some ⟨g', 0, none⟩, c, by rw [hv, h0]⟩
   obtain ⟨p, c, rfl⟩ := hv
   have hcon := AnyF.slices_SortFunc_none Tryz.sortItem p c (.func (.func g) #[] #[]) w1
   change Calls Tryz.prog 77 _ _ _ at hcon
   refine hcon.mono ?_
   rintro e w' ⟨rfl, rfl⟩
   refine ⟨rfl, ?_, hb1⟩
   rw [hs]
   rw [hz] at hown
   exact hown
  ·
   have hv : ∃ gb c, v = .slice (some ⟨gb, 0, none⟩) zs.length c := by
    rcases hown.2 with h | ⟨g', c, cur, hv, _⟩
    ·
     exact absurd h.2 h0
    ·
     exact ⟨g', c, hv⟩
   obtain ⟨gb, c, rfl⟩ := hv
   obtain ⟨hH, hlt, hge, _⟩ := own_holds f hown
   have hcon := AnyQ.slices_SortFunc_eq Tryz.sortItem 3 Tryz.isAgg35 Tryz.sizeOf35 (fun x => enc33 (f x)) (fun _ => rfl) (fun x u hu => enc_one (f x) u hu) cf hO g #[] gb 0 c zs.toArray w1 eg
    (fun m os dk _ x y => by rw [Array.append_empty]; exact hcmp x y _) hH hlt (by simp; omega)
   change Calls Tryz.prog 77 _ _ _ at hcon
   refine Calls.mono (by simpa using hcon) ?_
   rintro e w' ⟨rfl, n, os, rfl⟩
   exact ⟨rfl, sorted_own f hown (by have := (sortL_facts cf hO zs).1.1; simpa using this), sorted_below f hb1 hge (by have := hb1.size; omega)⟩
 clear hcmp hcell hc
 generalize (sortL cf zs).map f = out at hsort ⊢
 go_enter Tryz.func62, Tryz.ntmps62
 go_wp2_with (first | (go_at_call 76; refine hcol.mono ?_; rintro e w1 ⟨v, rfl, hown, hb1⟩; have HO := Aside0.mk hown; have HB := Aside0.mk hb1; clear hown hb1) | (go_at_call 77; refine (hsort _ _ (by simpa using HO.out) HB.out).mono ?_; rintro e w2 ⟨rfl, hown2, hb2⟩; have HO2 := Aside0.mk hown2; have HB2 := Aside0.mk hb2; clear hown2 hb2))
 go_ret
 exact ⟨_, rfl, flat_R HO2.out (fun _ _ => trivial), HB2.out⟩
end

end
section
open Go.Shelf Go.Sort
def cmpI (x y : Int) : Int := if x < y then -1 else if x > y then 1 else 0
theorem cmpI_eq (x y : Int) : cmp_Compare_int64.f x y = some (cmpI x y) := by
 unfold cmp_Compare_int64.f cmpI cmp_isNaN_int64.f
 by_cases h1 : x < y
 ·
  simp [h1]
 ·
  by_cases h2 : y < x <;> simp [h1, h2]
def cfId (x y : S35) : Int := cmpI x.f0 y.f0
set_option maxHeartbeats 4000000 in
theorem areItems1_calls (x y : S35) (W : World) : Calls Tryz.prog 64 #[.agg (enc33 x).toArray, .agg (enc33 y).toArray] W fun e w' => e = .returned (.int .i64 (cfId x y)) ∧ ∃ q os', w' = grow (W.drewN q) os' := by
 have hu35 := Tryz.underlying35
 have hcmp := fun W' => cmp_Compare_int64.calls x.f0 y.f0 (cfId x y) W' (cmpI_eq _ _)
 simp only [enc33]
 generalize cfId x y = r at hcmp ⊢
 go_enter Tryz.func64, Tryz.ntmps64
 go_wp2_with (go_at_call 65; refine (hcmp _).mono ?_; rintro e w' ⟨rfl, ⟨nd, rfl⟩⟩)
 go_ret
 exact ⟨rfl, grow_of (by repeat (first | exact BelowD.refl _ _ | apply dB_drewN | apply dB_drew1 | apply dB_alloc))⟩
theorem cmpLays_of {g : Nat} {cf : S35 → S35 → Int} (h : ∀ x y W, Calls Tryz.prog g #[.agg (enc33 x).toArray, .agg (enc33 y).toArray] W fun e w' => e = .returned (.int .i64 (cf x y)) ∧ ∃ q os', w' = grow (W.drewN q) os') : ∀ x y W, Calls Tryz.prog g (#[.agg (enc33 x).toArray, .agg (enc33 y).toArray] ++ #[]) W fun e w' => e = .returned (.int .i64 (cf x y)) ∧ ∃ q os', w' = grow (W.drewN q) os' := fun x y W => by
 rw [Array.append_empty]; exact h x y W
theorem ltOf_id (x y : S35) : ltOf cfId x y = decide (x.f0 < y.f0) := by
 unfold ltOf cfId cmpI
 by_cases h1 : x.f0 < y.f0
 ·
  simp [h1]
 ·
  by_cases h2 : y.f0 < x.f0 <;> simp [h1, h2]
theorem swo_id : SWO (ltOf cfId) where
 irrefl x := by rw [ltOf_id]; simp
 trans x y z h1 h2 := by rw [ltOf_id] at *; simp at *; omega
 ntrans x y z h1 h2 := by rw [ltOf_id] at *; simp at *; omega

end
section
open Go.Shelf Go.Sort
def impl_areItems.f (k : Nat) (l0 : List S35) : Option Bool := if (l0.length : Int) > 60 then some false else impl_ItemsRight.f k (sortL cfId l0)
set_option maxHeartbeats 8000000 in
set_option maxRecDepth 100000 in
theorem impl_areItems.calls (k : Nat) (A0 : Option Addr) (c0 : Nat) (l0 : List S35) (r : Bool) (w : World) (hr0 : Kd.C k35 w A0 l0.length l0) (hc0 : l0.length ≤ c0) (h : impl_areItems.f k l0 = some r) :
  Calls Tryz.prog 44 #[.slice A0 l0.length c0] w fun e w' => e = .returned (.bool r) ∧ Below w.heap.size w w' := by
 have HR := Aside0.mk hr0
 clear hr0
 unfold impl_areItems.f at h
 by_cases c : (l0.length : Int) > 60
 ·
  rw [if_pos c] at h
  obtain rfl := Option.some.inj h
  have cb : decide ((l0.length : Int) > 60) = true := decide_eq_true c
  go_enter Tryz.func44, Tryz.ntmps44
  go_wp2
  go_ret
  exact ⟨rfl, by repeat (first | exact Below.refl _ _ | apply pw_below_drewN | apply below_drew1 | apply below_alloc)⟩
 ·
  rw [if_neg c] at h
  have cb : decide ((l0.length : Int) > 60) = false := decide_eq_false c
  have hlen : l0.length ≤ 1000 := by omega
  have eg : ∀ args w, (callFunc 64 args).run Tryz.prog w = .ok (.enter 64 args) w := enters_of Tryz.func64 (by kernel_rfl) rfl
  have HK := Aside0.mk h
  clear h c
  go_enter Tryz.func44, Tryz.ntmps44
  go_wp2_with (first | (go_at_call 63; refine (callsIn_wide.1 (values_in Fence.wide 5 trivial rfl A0 l0.length c0 _)).mono ?_; rintro e w1 ⟨rfl, rfl⟩) | (go_at_call 62; refine (SortedFunc_of id cfId swo_id 64 eg areItems1_calls A0 c0 l0 hlen _ w _ (by repeat (first | exact Below.refl _ _ | apply pw_below_drewN | apply below_drew1 | apply below_alloc)) (blk_lt (blk_new _ _)) ((blk_cell (blk_new _ _) 0).trans rfl) (by rw [List.map_id]; exact HR.out)).mono ?_; rintro e w2 ⟨v, rfl, hR, hB⟩; rw [List.map_id] at hR; have HO := Aside0.mk hR; have HB := Aside0.mk hB; clear hR hB; obtain ⟨Ao, co, eo⟩ := Kd.R_slice HO.out; subst eo) | (go_at_call 66; refine (impl_ItemsRight.calls k Ao co (sortL cfId l0) r _ (by repeat (first | exact (Kd.R_reads' HO.out).2.2 | (with_reducible refine Kd.C_alloc ?_ _) | (with_reducible refine Kd.C_drewN ?_ _) | (with_reducible refine Kd.C_drew ?_))) (Kd.R_reads' HO.out).2.1 HK.out).mono ?_; rintro e w3 ⟨rfl, hB3⟩; have HB3 := Aside0.mk hB3; clear hB3))
  go_ret
  refine ⟨rfl, ?_⟩
  repeat (first | exact below_step (below_step (below_alloc (Below.refl _ _) _) HB.out) HB3.out | apply pw_below_drewN | apply below_drew1 | apply below_alloc)

end

/-! ### cmp_Or_int: function 67 -/
def cmp_Or_int.l0 : Nat → Int → List Int → Int → Int → Option (Int)
 | 0, _, _, _, _ => none
 | k + 1, x3, x6, x7, x8 => if x8 < x7 then (if 0 ≤ x8 then (if x8 < (x6.length : Int) then (if (rd x6 x8) = x3 then (cmp_Or_int.l0 k x3 x6 x7 (wrap64 (x8 + 1))) else (some (rd x6 x8))) else (none)) else (none)) else (some x3)
def cmp_Or_int.f (k : Nat) (l0 : List Int) : Option (Int) := cmp_Or_int.l0 k 0 l0 (l0.length : Int) 0
set_option maxHeartbeats 8000000 in
set_option maxRecDepth 100000 in
theorem cmp_Or_int.calls (k : Nat) (A0 : Option Addr) (c0 : Nat) (l0 : List Int) (r : Int) (w : World) (hr0 : Kd.C (Kd.int .i64) w A0 l0.length l0) (hc0 : l0.length ≤ c0) (h : cmp_Or_int.f k l0 = some r) :
  Calls Tryz.prog 67 #[.slice A0 l0.length c0] w fun e w' => e = .returned (.int .i64 r) ∧ Drawn0 w w' := by
 have HR0 := Aside0.mk hr0
 have HC0 := Aside0.mk hc0
 clear hr0 hc0
 have H : (cmp_Or_int.l0 k 0 l0 (l0.length : Int) 0) = some r := h
 clear h
 have H' := Aside0.mk H
 clear H
 go_enter Tryz.func67, Tryz.ntmps67
 go_wp2
 go_loopg [8] k (fun kq v8 w' => ∃ (x8_1 : Int), v8 = .int .i64 x8_1 ∧ Aside0 (cmp_Or_int.l0 kq 0 l0 (l0.length : Int) x8_1 = some r) ∧ Aside0 (kq ≤ k) ∧ Drawn0 w w')
 case atStart => exact ⟨(0), (by first | rfl | (simp; done) | (simp [*]; done)), H', ⟨Nat.le_refl _⟩, by repeat (first | exact Drawn0.refl _ | apply Drawn0.step)⟩
 case round =>
  clear H'
  obtain ⟨x8_1, rfl, HA, HK1, ⟨m1, rfl⟩⟩ := hrel
  cases gk with
  | zero => exact absurd HA.out (by simp [cmp_Or_int.l0])
  | succ k1 =>
   have H := HA.out
   clear HA
   simp only [cmp_Or_int.l0] at H
   by_cases c2 : x8_1 < (l0.length : Int)
   ·
    rw [if_pos c2] at H
    have c2b0 : decide (x8_1 < (l0.length : Int)) = true := decide_eq_true c2
    clear c2
    by_cases c3 : 0 ≤ x8_1
    ·
     rw [if_pos c3] at H
     have c3b0 : decide (0 ≤ x8_1) = true := decide_eq_true c3
     clear c3
     by_cases c4 : x8_1 < (l0.length : Int)
     ·
      rw [if_pos c4] at H
      have c4b0 : decide (x8_1 < (l0.length : Int)) = true := decide_eq_true c4
      clear c4
      by_cases c5 : (rd l0 x8_1) = 0
      ·
       rw [if_pos c5] at H
       have c5b0 : ((rd l0 x8_1) == 0) = true := beq_iff_eq.mpr c5
       have c5b1 : ((rd l0 x8_1) != 0) = false := bne_eq_false_iff_eq.mpr c5
       clear c5
       have H' := Aside0.mk H
       clear H
       have p204 : 0 ≤ (x8_1 : Int) := ds_
       have q204 : x8_1 < (l0.length : Int) := ds_
       obtain ⟨ad204, e204, hx204_0⟩ := Kd.at_int HR0.out x8_1 p204 q204
       cases e204
       replace p204 := eq_true p204
       replace q204 := eq_true q204
       go_wp2
       go_roundg k1
       case measure => have := HK1.out; omega
       case rel => exact ⟨(wrap64 (x8_1 + 1)), (by first | rfl | (simp; done) | (simp [*]; done)), H', ⟨by have := HK1.out; omega⟩, by repeat (first | exact Drawn0.refl _ | apply Drawn0.step)⟩
      ·
       rw [if_neg c5] at H
       have c5b0 : ((rd l0 x8_1) == 0) = false := beq_eq_false_iff_ne.mpr c5
       have c5b1 : ((rd l0 x8_1) != 0) = true := bne_iff_ne.mpr c5
       obtain rfl := Option.some.inj H
       have p204 : 0 ≤ (x8_1 : Int) := ds_
       have q204 : x8_1 < (l0.length : Int) := ds_
       obtain ⟨ad204, e204, hx204_0⟩ := Kd.at_int HR0.out x8_1 p204 q204
       cases e204
       replace p204 := eq_true p204
       replace q204 := eq_true q204
       go_wp2
       go_ret
       exact ⟨by first | rfl | (simp; done) | (simp [*]; done), by repeat (first | exact Drawn0.refl _ | apply Drawn0.step)⟩
     ·
      rw [if_neg c4] at H
      exact absurd H (by simp)
    ·
     rw [if_neg c3] at H
     exact absurd H (by simp)
   ·
    rw [if_neg c2] at H
    have c2b0 : decide (x8_1 < (l0.length : Int)) = false := decide_eq_false c2
    clear c2
    obtain rfl := Option.some.inj H
    go_wp2
    go_ret
    exact ⟨by first | rfl | (simp; done) | (simp [*]; done), by repeat (first | exact Drawn0.refl _ | apply Drawn0.step)⟩

/-! ### cmp_isNaN_uint64: function 99 -/
def cmp_isNaN_uint64.f (a0 : Int) : Option (Bool) := some (a0 != a0)
set_option maxHeartbeats 8000000 in
set_option maxRecDepth 100000 in
theorem cmp_isNaN_uint64.calls (a0 : Int) (r : Bool) (w : World) (h : cmp_isNaN_uint64.f a0 = some r) :
  Calls Tryz.prog 99 #[.int .u64 a0] w fun e w' => e = .returned (.bool r) ∧ Drawn0 w w' := by
 have H : (some (a0 != a0)) = some r := h
 clear h
 obtain rfl := Option.some.inj H
 go_enter Tryz.func99, Tryz.ntmps99
 go_wp2
 go_ret
 exact ⟨by first | rfl | (simp; done) | (simp [*]; done), by repeat (first | exact Drawn0.refl _ | apply Drawn0.step)⟩

/-! ### cmp_Compare_uint64: function 87 -/
def cmp_Compare_uint64.f (a0 : Int) (a1 : Int) : Option (Int) := (cmp_isNaN_uint64.f a0).bind fun t205 => ((cmp_isNaN_uint64.f a1).bind fun t206 => (if t205 = true then (if t206 = true then (some 0) else (some (-1))) else (if t206 = true then (some 1) else (if a0 < a1 then (some (-1)) else (if a0 > a1 then (some 1) else (some 0))))))
set_option maxHeartbeats 8000000 in
set_option maxRecDepth 100000 in
theorem cmp_Compare_uint64.calls (a0 : Int) (a1 : Int) (r : Int) (w : World) (h : cmp_Compare_uint64.f a0 a1 = some r) :
  Calls Tryz.prog 87 #[.int .u64 a0, .int .u64 a1] w fun e w' => e = .returned (.int .i64 r) ∧ Drawn0 w w' := by
 have H : ((cmp_isNaN_uint64.f a0).bind fun t205 => ((cmp_isNaN_uint64.f a1).bind fun t206 => (if t205 = true then (if t206 = true then (some 0) else (some (-1))) else (if t206 = true then (some 1) else (if a0 < a1 then (some (-1)) else (if a0 > a1 then (some 1) else (some 0))))))) = some r := h
 clear h
 replace H := Option.bind_eq_some_iff.mp H
 obtain ⟨t205, A30, H⟩ := H
 replace H : ((cmp_isNaN_uint64.f a1).bind fun t206 => (if t205 = true then (if t206 = true then (some 0) else (some (-1))) else (if t206 = true then (some 1) else (if a0 < a1 then (some (-1)) else (if a0 > a1 then (some 1) else (some 0)))))) = some r := H
 have A3 := Aside0.mk A30
 clear A30
 replace H := Option.bind_eq_some_iff.mp H
 obtain ⟨t206, A40, H⟩ := H
 replace H : (if t205 = true then (if t206 = true then (some 0) else (some (-1))) else (if t206 = true then (some 1) else (if a0 < a1 then (some (-1)) else (if a0 > a1 then (some 1) else (some 0))))) = some r := H
 have A4 := Aside0.mk A40
 clear A40
 by_cases c5 : t205 = true
 ·
  subst c5
  have H1 : (if t206 = true then (some 0) else (some (-1))) = some r := by rw [if_pos rfl] at H; exact H
  clear H
  have H := H1
  clear H1
  by_cases c6 : t206 = true
  ·
   subst c6
   have H1 : (some 0) = some r := by rw [if_pos rfl] at H; exact H
   clear H
   have H := H1
   clear H1
   obtain rfl := Option.some.inj H
   go_enter Tryz.func87, Tryz.ntmps87
   go_wp2_with (first | ((with_reducible refine gate_callee (f := 99) rfl ?_); refine gL_ (some 8) Tryz.func99 #[.int .u64 a0] ?_; (with_reducible refine (cmp_isNaN_uint64.calls a0 true _ A3.out).mono ?_); rintro e w' ⟨rfl, ⟨nd, rfl⟩⟩; refine ⟨_, rfl, ?_⟩) | ((with_reducible refine gate_callee (f := 99) rfl ?_); refine gL_ (some 10) Tryz.func99 #[.int .u64 a1] ?_; (with_reducible refine (cmp_isNaN_uint64.calls a1 true _ A4.out).mono ?_); rintro e w' ⟨rfl, ⟨nd, rfl⟩⟩; refine ⟨_, rfl, ?_⟩))
   go_ret
   exact ⟨by first | rfl | (simp; done) | (simp [*]; done), by repeat (first | exact Drawn0.refl _ | apply Drawn0.step)⟩
  ·
   replace c6 := Bool.eq_false_iff.mpr c6
   subst c6
   have H1 : (some (-1)) = some r := by rw [if_neg (show ¬ (false = true) by decide)] at H; exact H
   clear H
   have H := H1
   clear H1
   obtain rfl := Option.some.inj H
   go_enter Tryz.func87, Tryz.ntmps87
   go_wp2_with (first | ((with_reducible refine gate_callee (f := 99) rfl ?_); refine gL_ (some 8) Tryz.func99 #[.int .u64 a0] ?_; (with_reducible refine (cmp_isNaN_uint64.calls a0 true _ A3.out).mono ?_); rintro e w' ⟨rfl, ⟨nd, rfl⟩⟩; refine ⟨_, rfl, ?_⟩) | ((with_reducible refine gate_callee (f := 99) rfl ?_); refine gL_ (some 10) Tryz.func99 #[.int .u64 a1] ?_; (with_reducible refine (cmp_isNaN_uint64.calls a1 false _ A4.out).mono ?_); rintro e w' ⟨rfl, ⟨nd, rfl⟩⟩; refine ⟨_, rfl, ?_⟩))
   go_ret
   exact ⟨by first | rfl | (simp; done) | (simp [*]; done), by repeat (first | exact Drawn0.refl _ | apply Drawn0.step)⟩
 ·
  replace c5 := Bool.eq_false_iff.mpr c5
  subst c5
  have H1 : (if t206 = true then (some 1) else (if a0 < a1 then (some (-1)) else (if a0 > a1 then (some 1) else (some 0)))) = some r := by rw [if_neg (show ¬ (false = true) by decide)] at H; exact H
  clear H
  have H := H1
  clear H1
  by_cases c7 : t206 = true
  ·
   subst c7
   have H1 : (some 1) = some r := by rw [if_pos rfl] at H; exact H
   clear H
   have H := H1
   clear H1
   obtain rfl := Option.some.inj H
   go_enter Tryz.func87, Tryz.ntmps87
   go_wp2_with (first | ((with_reducible refine gate_callee (f := 99) rfl ?_); refine gL_ (some 8) Tryz.func99 #[.int .u64 a0] ?_; (with_reducible refine (cmp_isNaN_uint64.calls a0 false _ A3.out).mono ?_); rintro e w' ⟨rfl, ⟨nd, rfl⟩⟩; refine ⟨_, rfl, ?_⟩) | ((with_reducible refine gate_callee (f := 99) rfl ?_); refine gL_ (some 10) Tryz.func99 #[.int .u64 a1] ?_; (with_reducible refine (cmp_isNaN_uint64.calls a1 true _ A4.out).mono ?_); rintro e w' ⟨rfl, ⟨nd, rfl⟩⟩; refine ⟨_, rfl, ?_⟩))
   go_ret
   exact ⟨by first | rfl | (simp; done) | (simp [*]; done), by repeat (first | exact Drawn0.refl _ | apply Drawn0.step)⟩
  ·
   replace c7 := Bool.eq_false_iff.mpr c7
   subst c7
   have H1 : (if a0 < a1 then (some (-1)) else (if a0 > a1 then (some 1) else (some 0))) = some r := by rw [if_neg (show ¬ (false = true) by decide)] at H; exact H
   clear H
   have H := H1
   clear H1
   by_cases c8 : a0 < a1
   ·
    rw [if_pos c8] at H
    have c8b0 : decide (a0 < a1) = true := decide_eq_true c8
    clear c8
    obtain rfl := Option.some.inj H
    go_enter Tryz.func87, Tryz.ntmps87
    go_wp2_with (first | ((with_reducible refine gate_callee (f := 99) rfl ?_); refine gL_ (some 8) Tryz.func99 #[.int .u64 a0] ?_; (with_reducible refine (cmp_isNaN_uint64.calls a0 false _ A3.out).mono ?_); rintro e w' ⟨rfl, ⟨nd, rfl⟩⟩; refine ⟨_, rfl, ?_⟩) | ((with_reducible refine gate_callee (f := 99) rfl ?_); refine gL_ (some 10) Tryz.func99 #[.int .u64 a1] ?_; (with_reducible refine (cmp_isNaN_uint64.calls a1 false _ A4.out).mono ?_); rintro e w' ⟨rfl, ⟨nd, rfl⟩⟩; refine ⟨_, rfl, ?_⟩))
    go_ret
    exact ⟨by first | rfl | (simp; done) | (simp [*]; done), by repeat (first | exact Drawn0.refl _ | apply Drawn0.step)⟩
   ·
    rw [if_neg c8] at H
    have c8b0 : decide (a0 < a1) = false := decide_eq_false c8
    clear c8
    by_cases c9 : a0 > a1
    ·
     rw [if_pos c9] at H
     have c9b0 : decide (a1 < a0) = true := decide_eq_true c9
     clear c9
     obtain rfl := Option.some.inj H
     go_enter Tryz.func87, Tryz.ntmps87
     go_wp2_with (first | ((with_reducible refine gate_callee (f := 99) rfl ?_); refine gL_ (some 8) Tryz.func99 #[.int .u64 a0] ?_; (with_reducible refine (cmp_isNaN_uint64.calls a0 false _ A3.out).mono ?_); rintro e w' ⟨rfl, ⟨nd, rfl⟩⟩; refine ⟨_, rfl, ?_⟩) | ((with_reducible refine gate_callee (f := 99) rfl ?_); refine gL_ (some 10) Tryz.func99 #[.int .u64 a1] ?_; (with_reducible refine (cmp_isNaN_uint64.calls a1 false _ A4.out).mono ?_); rintro e w' ⟨rfl, ⟨nd, rfl⟩⟩; refine ⟨_, rfl, ?_⟩))
     go_ret
     exact ⟨by first | rfl | (simp; done) | (simp [*]; done), by repeat (first | exact Drawn0.refl _ | apply Drawn0.step)⟩
    ·
     rw [if_neg c9] at H
     have c9b0 : decide (a1 < a0) = false := decide_eq_false c9
     clear c9
     obtain rfl := Option.some.inj H
     go_enter Tryz.func87, Tryz.ntmps87
     go_wp2_with (first | ((with_reducible refine gate_callee (f := 99) rfl ?_); refine gL_ (some 8) Tryz.func99 #[.int .u64 a0] ?_; (with_reducible refine (cmp_isNaN_uint64.calls a0 false _ A3.out).mono ?_); rintro e w' ⟨rfl, ⟨nd, rfl⟩⟩; refine ⟨_, rfl, ?_⟩) | ((with_reducible refine gate_callee (f := 99) rfl ?_); refine gL_ (some 10) Tryz.func99 #[.int .u64 a1] ?_; (with_reducible refine (cmp_isNaN_uint64.calls a1 false _ A4.out).mono ?_); rintro e w' ⟨rfl, ⟨nd, rfl⟩⟩; refine ⟨_, rfl, ?_⟩))
     go_ret
     exact ⟨by first | rfl | (simp; done) | (simp [*]; done), by repeat (first | exact Drawn0.refl _ | apply Drawn0.step)⟩

/-! ### impl_WideCmp: function 80 -/
def impl_WideCmp.f (k : Nat) (a0_0 : Int) (a0_1 : Int) (a1_0 : Int) (a1_1 : Int) : Option (Int) := (cmp_Compare_uint64.f a0_0 a1_0).bind fun t209 => ((cmp_Compare_uint64.f a0_1 a1_1).bind fun t210 => ((cmp_Or_int.f k (([t209, t210] : List Int))).bind fun t214 => (some t214)))
def impl_WideCmp.T1 : Bool × List (List Nat × List Nat) := (true, [([], []), ([0], [0]), ([], []), ([2], [2]), ([1, 3], [1, 3]), ([], []), ([5], [5]), ([], []), ([7], [7]), ([6, 8, 4], [6, 8]), ([4, 9], [4, 9]), ([10, 9], [10]), ([11, 11, 0, 1, 2, 3, 4, 5, 6, 7, 8, 9, 10, 11], [11])])
def impl_WideCmp.B1 : List Nat := [0, 1, 0, 4, 15, 0, 32, 0, 128, 511, 1023, 2047, 4095]
theorem impl_WideCmp.tab1 : rtab .any (opsOf Tryz.f80 1) = impl_WideCmp.T1 := by kernel_rfl
theorem impl_WideCmp.bits1 : waitsOk impl_WideCmp.T1.2 impl_WideCmp.B1 = true := by kernel_rfl
set_option maxHeartbeats 8000000 in
set_option maxRecDepth 100000 in
theorem impl_WideCmp.calls (k : Nat) (a0_0 : Int) (a0_1 : Int) (a1_0 : Int) (a1_1 : Int) (r : Int) (w : World) (h : impl_WideCmp.f k a0_0 a0_1 a1_0 a1_1 = some r) :
  Calls Tryz.prog 80 #[.agg #[.int .u64 a0_0, .int .u64 a0_1], .agg #[.int .u64 a1_0, .int .u64 a1_1]] w fun e w' => e = .returned (.int .i64 r) ∧ Below w.heap.size w w' := by
 have hu112 := Tryz.underlying112
 have HB := Aside0.mk (Below.refl w.heap.size w)
 have H : ((cmp_Compare_uint64.f a0_0 a1_0).bind fun t209 => ((cmp_Compare_uint64.f a0_1 a1_1).bind fun t210 => ((cmp_Or_int.f k (([t209, t210] : List Int))).bind fun t214 => (some t214)))) = some r := h
 clear h
 replace H := Option.bind_eq_some_iff.mp H
 obtain ⟨t209, A30, H⟩ := H
 replace H : ((cmp_Compare_uint64.f a0_1 a1_1).bind fun t210 => ((cmp_Or_int.f k (([t209, t210] : List Int))).bind fun t214 => (some t214))) = some r := H
 have A3 := Aside0.mk A30
 clear A30
 replace H := Option.bind_eq_some_iff.mp H
 obtain ⟨t210, A40, H⟩ := H
 replace H : ((cmp_Or_int.f k (([t209, t210] : List Int))).bind fun t214 => (some t214)) = some r := H
 have A4 := Aside0.mk A40
 clear A40
 obtain ⟨y211, hy211⟩ : ∃ y_ : List Int, y_ = (([t209, t210] : List Int)) := ⟨_, rfl⟩
 replace H : ((cmp_Or_int.f k y211).bind fun t214 => (some t214)) = some r := by first | (rw [hy211]; with_reducible exact H) | (have H2_ := (Option.bind_some _ _).symm.trans H; rw [hy211]; with_reducible exact H2_) | (have H2_ := (Option.bind_some _ _).symm.trans H; with_reducible exact H2_) | with_reducible exact H | (rw [hy211]; exact H) | exact H
 have Ny211 := Aside0.mk hy211
 clear hy211
 replace H := Option.bind_eq_some_iff.mp H
 obtain ⟨t214, A50, H⟩ := H
 replace H : (some t214) = some r := H
 have A5 := Aside0.mk A50
 clear A50
 obtain rfl := Option.some.inj H
 go_enter Tryz.func80, Tryz.ntmps80
 try go_wp2_with (first | ((with_reducible refine gate_dst (N := 2) rfl ?_); refine box_event ?hg (N := 2) ?hd (cs := #[.int .u64 a0_0, .int .u64 a0_1]) (t := 112) ?hr ?_; (case hd => rfl); (case hg => rfl); (case hr => first | (go_simp; done) | (go_simp; rfl)); intro gb207 hg w6 hbox hb; have n0_ := Aside0.mk (below_step bl_ hb); have n1_ := Aside0.mk (hbox); have n2_ := Aside0.mk ((by rw [hg]; exact (below_size bl_) : w.heap.size ≤ gb207)); have n3_ := Aside0.mk ((by rw [hg]; exact (below_size bl_) : w.heap.size ≤ gb207)); clear HB; have HB := n0_; have BK207 := n1_; have GW207 := n2_; have GE207 := n3_; clear n0_ n1_ n2_ n3_; clear hb hbox hg) | ((with_reducible refine gate_dst (N := 3) rfl ?_); refine box_event ?hg (N := 3) ?hd (cs := #[.int .u64 a1_0, .int .u64 a1_1]) (t := 112) ?hr ?_; (case hd => rfl); (case hg => rfl); (case hr => first | (go_simp; done) | (go_simp; rfl)); intro gb208 hg w7 hbox hb; have n0_ := Aside0.mk (blk_below (up_ BK207.out) hb); have n1_ := Aside0.mk (below_step bl_ hb); have n2_ := Aside0.mk (hbox); have n3_ := Aside0.mk ((by rw [hg]; exact (below_size bl_) : w.heap.size ≤ gb208)); have n4_ := Aside0.mk ((by rw [hg]; exact (below_size bl_) : w.heap.size ≤ gb208)); have n5_ := Aside0.mk ((by rw [hg]; exact Nat.ne_of_lt (blk_lt (up_ BK207.out)) : gb207 ≠ gb208)); have n6_ := Aside0.mk ((by rw [hg]; exact Nat.ne_of_gt (blk_lt (up_ BK207.out)) : gb208 ≠ gb207)); clear BK207; clear HB; have BK207 := n0_; have HB := n1_; have BK208 := n2_; have GW208 := n3_; have GE208 := n4_; have NB207_208 := n5_; have NB208_207 := n6_; clear n0_ n1_ n2_ n3_ n4_ n5_ n6_; clear hb hbox hg))
 replace BK207 := Aside0.mk (blk_drew BK207.out)
 replace BK208 := Aside0.mk (blk_drew BK208.out)
 replace HB := Aside0.mk (below_drew1 HB.out)
 refine start_ (n := 13) (S := fun w' => w'.cell? ⟨gb207, 0, none⟩ = some (.int .u64 a0_0) ∧ w'.cell? ⟨gb207, 1, none⟩ = some (.int .u64 a0_1) ∧ w'.cell? ⟨gb208, 0, none⟩ = some (.int .u64 a1_0) ∧ w'.cell? ⟨gb208, 1, none⟩ = some (.int .u64 a1_1)) (ds := []) #[false, false, false, false, false, false, false, false, false, false, false, false, false] (by kernel_rfl) rfl rfl ⟨(blk_cell BK207.out 0).trans rfl, (blk_cell BK207.out 1).trans rfl, (blk_cell BK208.out 0).trans rfl, (blk_cell BK208.out 1).trans rfl⟩ (fun hHeld => ?_); refine with_tabW impl_WideCmp.tab1 impl_WideCmp.bits1 (fun HT_ HW_ => ?_)
 generalize w7.drew = w8 at BK207 BK208 HB hHeld ⊢
 refine pu_ 0 5 HT_ ?_
 refine pu_ 2 7 HT_ ?_
 refine pu_ 5 10 HT_ ?_
 refine pu_ 7 12 HT_ ?_
 refine tk_ 1 6 HT_ HW_ hHeld ?_ rfl rfl (by rintro w' ⟨s0, s1, s2, s3⟩; go_simp; with_reducible rfl)
 refine tk_ 3 8 HT_ HW_ hHeld ?_ rfl rfl (by rintro w' ⟨s0, s1, s2, s3⟩; go_simp; with_reducible rfl)
 refine tk_ 6 11 HT_ HW_ hHeld ?_ rfl rfl (by rintro w' ⟨s0, s1, s2, s3⟩; go_simp; with_reducible rfl)
 refine tk_ 8 13 HT_ HW_ hHeld ?_ rfl rfl (by rintro w' ⟨s0, s1, s2, s3⟩; go_simp; with_reducible rfl)
 refine one_ (i := 4) (N := some 9) #[o_,o_,o_,o_,o_,o_,o_,o_,o_,x_,x_,x_,x_] rfl rfl (one_of HT_.out (by kernel_rfl)) (by decide) (fun K hK => ?_)
 refine goes_ Tryz.func87 (by kernel_rfl) rfl #[.int .u64 a0_0, .int .u64 a1_0] (by rfl) rfl rfl (by (try simp only [List.map_toArray, List.map_cons, List.map_nil]); first | done | rfl | (simp only [List.length_drop, List.length_take]; rfl)) ?_
 with_reducible refine (cmp_Compare_uint64.calls a0_0 a1_0 t209 _ A3.out).mono ?_
 rintro e w' ⟨rfl, ⟨nd, rfl⟩⟩
 refine ⟨_, rfl, ?_⟩
 refine hK.out _ _ ⟨(blk_cell BK207.out 0).trans rfl, (blk_cell BK207.out 1).trans rfl, (blk_cell BK208.out 0).trans rfl, (blk_cell BK208.out 1).trans rfl⟩ (fun hHeld => ?_)
 clear hK K
 refine norm_ (a' := ?_) ?_ ?_
 rotate_left
 ·
  show Act.put _ (some 9) _ = _
  simp only [Act.put, List.setIfInBounds_toArray, List.set_cons_zero, List.set_cons_succ, i64_w, i32_w]
  rfl
 refine one_ (i := 9) (N := some 14) #[o_,o_,o_,o_,o_,o_,o_,o_,o_,o_,x_,x_,x_] rfl rfl (one_of HT_.out (by kernel_rfl)) (by decide) (fun K hK => ?_)
 refine goes_ Tryz.func87 (by kernel_rfl) rfl #[.int .u64 a0_1, .int .u64 a1_1] (by rfl) rfl rfl (by (try simp only [List.map_toArray, List.map_cons, List.map_nil]); first | done | rfl | (simp only [List.length_drop, List.length_take]; rfl)) ?_
 with_reducible refine (cmp_Compare_uint64.calls a0_1 a1_1 t210 _ A4.out).mono ?_
 rintro e w' ⟨rfl, ⟨nd, rfl⟩⟩
 refine ⟨_, rfl, ?_⟩
 refine hK.out _ _ ⟨(blk_cell BK207.out 0).trans rfl, (blk_cell BK207.out 1).trans rfl, (blk_cell BK208.out 0).trans rfl, (blk_cell BK208.out 1).trans rfl⟩ (fun hHeld => ?_)
 clear hK K
 refine norm_ (a' := ?_) ?_ ?_
 rotate_left
 ·
  show Act.put _ (some 14) _ = _
  simp only [Act.put, List.setIfInBounds_toArray, List.set_cons_zero, List.set_cons_succ, i64_w, i32_w]
  rfl
 refine one_ (i := 10) (N := some 15) #[o_,o_,o_,o_,o_,o_,o_,o_,o_,o_,o_,x_,x_] rfl rfl (one_of HT_.out (by kernel_rfl)) (by decide) (fun K hK => ?_)
 refine Kd.R_lit_step (Kd.int .i64) _ 3 ?hg (N := 15) ?hd (xs := ([t209, t210] : List Int)) (inner := [.int .i64 t209, .int .i64 t210]) (ok := fun _ => True) (okp := fun _ => True) ?hr ?hp (fun _ hk => hk) trivial (Below.refl _ _) (Nat.le_refl _) (by simp) ?_; (case hd => rfl); (case hg => rfl); (case hr => first | (go_simp; done) | (go_simp; rfl)); (case hp => exact (Reps.one (show Kd.M (Kd.int .i64) _ _ _ t209 [.int .i64 t209] from rfl) (Reps.one (show Kd.M (Kd.int .i64) _ _ _ t210 [.int .i64 t210] from rfl) (Reps.none _ _))))
 intro v212 w9 ho10 hb hg_ hnew_
 clear hg_ hnew_
 (first | rw [← Ny211.out] at ho10 | (simp only [Int.reduceToNat] at ho10; rw [← Ny211.out] at ho10))
 have n0_ := Aside0.mk (Kd.R_lower ho10 (below_size bl_))
 have n1_ := Aside0.mk (blk_below (up_ BK207.out) hb)
 have n2_ := Aside0.mk (blk_below (up_ BK208.out) hb)
 have n3_ := Aside0.mk (below_step bl_ hb)
 clear BK207
 clear BK208
 clear HB
 have HO213 := n0_
 have BK207 := n1_
 have BK208 := n2_
 have HB := n3_
 clear n0_ n1_ n2_ n3_
 clear hb ho10
 obtain ⟨Ao11, co11, eo11⟩ := Kd.R_slice HO213.out
 (first | subst eo11 | (injection eo11 with f1_ f2_ f3_; have f4_ := f1_.symm; have f5_ := f3_.symm; clear f1_ f2_ f3_; subst f4_; subst f5_))
 refine hK.out _ _ ⟨(blk_cell BK207.out 0).trans rfl, (blk_cell BK207.out 1).trans rfl, (blk_cell BK208.out 0).trans rfl, (blk_cell BK208.out 1).trans rfl⟩ (fun hHeld => ?_)
 clear hK K
 refine norm_ (a' := ?_) ?_ ?_
 rotate_left
 ·
  show Act.put _ (some 15) _ = _
  simp only [Act.put, List.setIfInBounds_toArray, List.set_cons_zero, List.set_cons_succ, i64_w, i32_w]
  rfl
 refine one_ (i := 11) (N := some 16) #[o_,o_,o_,o_,o_,o_,o_,o_,o_,o_,o_,o_,x_] rfl rfl (one_of HT_.out (by kernel_rfl)) (by decide) (fun K hK => ?_)
 refine goes_ Tryz.func67 (by kernel_rfl) rfl #[.slice Ao11 y211.length co11] (by rfl) rfl rfl (by (try simp only [List.map_toArray, List.map_cons, List.map_nil]); first | done | rfl | (simp only [List.length_drop, List.length_take]; rfl)) ?_
 with_reducible refine (cmp_Or_int.calls k _ _ y211 t214 _ ?side1 ?side2 A5.out).mono ?_
 (case side1 => repeat (first | exact (Kd.R_reads' HO213.out).2.2 | (with_reducible refine Kd.C_alloc ?_ _) | (with_reducible refine Kd.C_drewN ?_ _) | (with_reducible refine Kd.C_drew ?_)))
 (case side2 => exact (Kd.R_reads' HO213.out).2.1)
 rintro e w' ⟨rfl, ⟨nd, rfl⟩⟩
 refine ⟨_, rfl, ?_⟩
 refine hK.out _ _ ⟨(blk_cell BK207.out 0).trans rfl, (blk_cell BK207.out 1).trans rfl, (blk_cell BK208.out 0).trans rfl, (blk_cell BK208.out 1).trans rfl⟩ (fun hHeld => ?_)
 clear hK K
 refine norm_ (a' := ?_) ?_ ?_
 rotate_left
 ·
  show Act.put _ (some 16) _ = _
  simp only [Act.put, List.setIfInBounds_toArray, List.set_cons_zero, List.set_cons_succ, i64_w, i32_w]
  rfl
 refine pu_ 12 4 HT_ ?_
 refine done_ (done_of HT_.out (by kernel_rfl)) ?_
 try go_wp2
 go_ret
 exact ⟨by first | rfl | (simp [errW_none, errW_some] <;> rfl) | (simp [*, errW_none, errW_some] <;> rfl), bl_⟩

/-! ### bits_Mul64: function 100 -/
def bits_Mul64.f (a0 : Int) (a1 : Int) : Option (Int × Int) := some (IntKind.u64.wrap ((IntKind.u64.wrap ((IntKind.u64.wrap ((a0 / 4294967296) * (a1 / 4294967296))) + ((IntKind.u64.wrap ((IntKind.u64.wrap ((a0 / 4294967296) * (Go.bits .and .u64 a1 4294967295))) + ((IntKind.u64.wrap ((Go.bits .and .u64 a0 4294967295) * (Go.bits .and .u64 a1 4294967295))) / 4294967296))) / 4294967296))) + ((IntKind.u64.wrap ((Go.bits .and .u64 (IntKind.u64.wrap ((IntKind.u64.wrap ((a0 / 4294967296) * (Go.bits .and .u64 a1 4294967295))) + ((IntKind.u64.wrap ((Go.bits .and .u64 a0 4294967295) * (Go.bits .and .u64 a1 4294967295))) / 4294967296))) 4294967295) + (IntKind.u64.wrap ((Go.bits .and .u64 a0 4294967295) * (a1 / 4294967296))))) / 4294967296)), IntKind.u64.wrap (a0 * a1))
set_option maxHeartbeats 8000000 in
set_option maxRecDepth 100000 in
theorem bits_Mul64.calls (a0 : Int) (a1 : Int) (r1 : Int) (r2 : Int) (w : World) (h : bits_Mul64.f a0 a1 = some (r1, r2)) :
  Calls Tryz.prog 100 #[.int .u64 a0, .int .u64 a1] w fun e w' => e = .returned (.tuple #[.int .u64 r1, .int .u64 r2]) ∧ Drawn0 w w' := by
 have H : (some (IntKind.u64.wrap ((IntKind.u64.wrap ((IntKind.u64.wrap ((a0 / 4294967296) * (a1 / 4294967296))) + ((IntKind.u64.wrap ((IntKind.u64.wrap ((a0 / 4294967296) * (Go.bits .and .u64 a1 4294967295))) + ((IntKind.u64.wrap ((Go.bits .and .u64 a0 4294967295) * (Go.bits .and .u64 a1 4294967295))) / 4294967296))) / 4294967296))) + ((IntKind.u64.wrap ((Go.bits .and .u64 (IntKind.u64.wrap ((IntKind.u64.wrap ((a0 / 4294967296) * (Go.bits .and .u64 a1 4294967295))) + ((IntKind.u64.wrap ((Go.bits .and .u64 a0 4294967295) * (Go.bits .and .u64 a1 4294967295))) / 4294967296))) 4294967295) + (IntKind.u64.wrap ((Go.bits .and .u64 a0 4294967295) * (a1 / 4294967296))))) / 4294967296)), IntKind.u64.wrap (a0 * a1))) = some (r1, r2) := h
 clear h
 simp only [Option.some.injEq, Prod.mk.injEq] at H
 obtain ⟨rfl, rfl⟩ := H
 go_enter Tryz.func100, Tryz.ntmps100
 go_wp2
 go_ret2
 exact ⟨by first | rfl | (simp; done) | (simp [*]; done), by repeat (first | exact Drawn0.refl _ | apply Drawn0.step)⟩

/-! ### impl_WideMul: function 88 -/
def impl_WideMul.f (a0 : Int) (a1 : Int) : Option (Int × Int) := (bits_Mul64.f a0 a1).bind fun bt216 => (some (bt216.1, bt216.2))
set_option maxHeartbeats 8000000 in
set_option maxRecDepth 100000 in
theorem impl_WideMul.calls (a0 : Int) (a1 : Int) (r1 : Int) (r2 : Int) (w : World) (h : impl_WideMul.f a0 a1 = some (r1, r2)) :
  Calls Tryz.prog 88 #[.int .u64 a0, .int .u64 a1] w fun e w' => e = .returned (.agg #[.int .u64 r1, .int .u64 r2]) ∧ Below w.heap.size w w' := by
 have hu112 := Tryz.underlying112
 have HB := Aside0.mk (Below.refl w.heap.size w)
 have H : ((bits_Mul64.f a0 a1).bind fun bt216 => (some (bt216.1, bt216.2))) = some (r1, r2) := h
 clear h
 replace H := Option.bind_eq_some_iff.mp H
 obtain ⟨⟨t216, t217⟩, A30, H⟩ := H
 replace H : (some (t216, t217)) = some (r1, r2) := H
 have A3 := Aside0.mk A30
 clear A30
 simp only [Option.some.injEq, Prod.mk.injEq] at H
 obtain ⟨rfl, rfl⟩ := H
 go_enter Tryz.func88, Tryz.ntmps88
 go_wp2_with (first | ((with_reducible refine gate_dst (N := 4) rfl ?_); refine box_event ?hg (N := 4) ?hd (cs := #[.int .u64 0, .int .u64 0]) (t := 112) ?hr ?_; (case hd => rfl); (case hg => rfl); (case hr => first | (go_simp; done) | (go_simp; rfl)); intro gb215 hg w4 hbox hb; have n0_ := Aside0.mk (below_step bl_ hb); have n1_ := Aside0.mk (hbox); have n2_ := Aside0.mk ((by rw [hg]; exact (below_size bl_) : w.heap.size ≤ gb215)); have n3_ := Aside0.mk ((by rw [hg]; exact (below_size bl_) : w.heap.size ≤ gb215)); clear HB; have HB := n0_; have BK215 := n1_; have GW215 := n2_; have GE215 := n3_; clear n0_ n1_ n2_ n3_; clear hb hbox hg) | ((with_reducible refine gate_callee (f := 100) rfl ?_); refine gL_ (some 10) Tryz.func100 #[.int .u64 a0, .int .u64 a1] ?_; (with_reducible refine (bits_Mul64.calls a0 a1 t216 t217 _ A3.out).mono ?_); rintro e w' ⟨rfl, ⟨nd, rfl⟩⟩; refine ⟨_, rfl, ?_⟩; (try (rw [drewN_self w4]; generalize hq_ : World.drewN w4 _ = w4; have n0_ : Aside0 (w4.heap[gb215]? = some (.cells #[.int .u64 0, .int .u64 0] 112 (0, 0))) := ⟨by rw [← hq_]; exact (by exact up_ BK215.out)⟩; have n1_ : Aside0 (Below w.heap.size w w4) := ⟨by rw [← hq_]; exact bl_⟩; clear BK215 HB hq_; have BK215 := n0_; have HB := n1_; clear n0_ n1_)); have hcz5_0 : w4.cell? ⟨gb215, 0, none⟩ = some (.int .u64 0) := (blk_cell BK215.out 0).trans rfl; have hcz5_1 : w4.cell? ⟨gb215, 1, none⟩ = some (.int .u64 0) := (blk_cell BK215.out 1).trans rfl; have hfz5_0 := blk_frozen BK215.out 0; have hfz5_1 := blk_frozen BK215.out 1))
 refine bodyPost_ret (results_cell_row rfl _ _ gb215 112 #[.int .u64 t216, .int .u64 t217] (0, 0) _ rfl (by (with_reducible repeat (first | refine blk_drewN ?_ _ | refine blk_drew ?_ | refine blk_alloc ?_ _)); refine blk_put (cs := #[.int .u64 t216, .int .u64 0]) ?_ 1 _ rfl; (with_reducible repeat (first | refine blk_drewN ?_ _ | refine blk_drew ?_ | refine blk_alloc ?_ _)); refine blk_put (cs := #[.int .u64 0, .int .u64 0]) ?_ 0 _ rfl; (with_reducible repeat (first | refine blk_drewN ?_ _ | refine blk_drew ?_ | refine blk_alloc ?_ _)); exact BK215.out) Tryz.underlying112 rfl (by kernel_rfl)) rfl ?_
 exact ⟨by first | rfl | (simp [errW_none, errW_some] <;> rfl) | (simp [*, errW_none, errW_some] <;> rfl), bl_⟩

/-! ### impl_product: function 81 -/
def impl_product.f (a0 : Int) (a1 : Int) : Option (Int × Int) := (impl_WideMul.f (IntKind.u64.wrap (a0)) (IntKind.u64.wrap (a1))).bind fun bt219 => (some (bt219.1, bt219.2))
set_option maxHeartbeats 8000000 in
set_option maxRecDepth 100000 in
theorem impl_product.calls (a0 : Int) (a1 : Int) (r1 : Int) (r2 : Int) (w : World) (h : impl_product.f a0 a1 = some (r1, r2)) :
  Calls Tryz.prog 81 #[.int .i64 a0, .int .i64 a1] w fun e w' => e = .returned (.agg #[.int .u64 r1, .int .u64 r2]) ∧ Below w.heap.size w w' := by
 have hu112 := Tryz.underlying112
 have HB := Aside0.mk (Below.refl w.heap.size w)
 have H : ((impl_WideMul.f (IntKind.u64.wrap (a0)) (IntKind.u64.wrap (a1))).bind fun bt219 => (some (bt219.1, bt219.2))) = some (r1, r2) := h
 clear h
 replace H := Option.bind_eq_some_iff.mp H
 obtain ⟨⟨t219, t220⟩, A30, H⟩ := H
 replace H : (some (t219, t220)) = some (r1, r2) := H
 have A3 := Aside0.mk A30
 clear A30
 simp only [Option.some.injEq, Prod.mk.injEq] at H
 obtain ⟨rfl, rfl⟩ := H
 go_enter Tryz.func81, Tryz.ntmps81
 go_wp2_with (first | ((with_reducible refine gate_dst (N := 4) rfl ?_); refine box_event ?hg (N := 4) ?hd (cs := #[.int .u64 0, .int .u64 0]) (t := 112) ?hr ?_; (case hd => rfl); (case hg => rfl); (case hr => first | (go_simp; done) | (go_simp; rfl)); intro gb218 hg w4 hbox hb; have n0_ := Aside0.mk (below_step bl_ hb); have n1_ := Aside0.mk (hbox); have n2_ := Aside0.mk ((by rw [hg]; exact (below_size bl_) : w.heap.size ≤ gb218)); have n3_ := Aside0.mk ((by rw [hg]; exact (below_size bl_) : w.heap.size ≤ gb218)); clear HB; have HB := n0_; have BK218 := n1_; have GW218 := n2_; have GE218 := n3_; clear n0_ n1_ n2_ n3_; clear hb hbox hg) | ((with_reducible refine gate_callee (f := 88) rfl ?_); refine gL_ (some 9) Tryz.func88 #[.int .u64 (IntKind.u64.wrap (a0)), .int .u64 (IntKind.u64.wrap (a1))] ?_; (with_reducible refine (impl_WideMul.calls (IntKind.u64.wrap (a0)) (IntKind.u64.wrap (a1)) t219 t220 _ A3.out).mono ?_); rintro e w5 ⟨rfl, hb⟩; refine ⟨_, rfl, ?_⟩; have n0_ := Aside0.mk (blk_below (up_ BK218.out) hb); have n1_ := Aside0.mk (below_step bl_ hb); clear BK218; clear HB; have BK218 := n0_; have HB := n1_; clear n0_ n1_; (try clear hb); (try clear hb2); (try clear hk); (try clear hi); have hcz6_0 : w5.cell? ⟨gb218, 0, none⟩ = some (.int .u64 0) := (blk_cell BK218.out 0).trans rfl; have hcz6_1 : w5.cell? ⟨gb218, 1, none⟩ = some (.int .u64 0) := (blk_cell BK218.out 1).trans rfl; have hfz6_0 := blk_frozen BK218.out 0; have hfz6_1 := blk_frozen BK218.out 1))
 refine bodyPost_ret (results_cell_row rfl _ _ gb218 112 #[.int .u64 t219, .int .u64 t220] (0, 0) _ rfl (by (with_reducible repeat (first | refine blk_drewN ?_ _ | refine blk_drew ?_ | refine blk_alloc ?_ _)); refine blk_put (cs := #[.int .u64 t219, .int .u64 0]) ?_ 1 _ rfl; (with_reducible repeat (first | refine blk_drewN ?_ _ | refine blk_drew ?_ | refine blk_alloc ?_ _)); refine blk_put (cs := #[.int .u64 0, .int .u64 0]) ?_ 0 _ rfl; (with_reducible repeat (first | refine blk_drewN ?_ _ | refine blk_drew ?_ | refine blk_alloc ?_ _)); exact BK218.out) Tryz.underlying112 rfl (by kernel_rfl)) rfl ?_
 exact ⟨by first | rfl | (simp [errW_none, errW_some] <;> rfl) | (simp [*, errW_none, errW_some] <;> rfl), bl_⟩

end Go.Proofs.YtenlceojmjkbkaaGreat.XFnExactTreeTake
