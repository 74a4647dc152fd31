/- Functions that FnExactWheelNext comes to, as Lean functions with their contracts: written by the prover's own program (wip/tpl/myprint.py) over the kit's printer, some contracts by hand. Conditions: none. -/
import Derived.Test.YtenlceojmjkbkaaXFnExactWheelNextx0
import Derived.Test.YtenlceojmjkbkaaXFnExactWheelNextx4
namespace Go.Proofs.Ytenlceojmjkbkaa.XFnExactWheelNext
open Go.RowKit Go.Proofs.YtenlceojmjkbkaaW.PrintWords Go.Proofs.YtenlceojmjkbkaaW.PrintLast Go.Proofs.YtenlceojmjkbkaaW.PrintMore
attribute [local go_sem] max2_int min2_int max_two min_two max_three min_three max_four min_four   -- for this text's walks alone
set_option linter.unusedVariables false
set_option linter.unusedSimpArgs false

/-! ### impl_Timer_71: function 71 -/
section
open Go.Shelf Go.Sort
attribute [local go_sem] Oper.semAt_some

def encT (x : S91) : Array Value := #[.agg #[.int .i64 x.f0, .int .i64 x.f1]]

set_option maxRecDepth 100000 in
set_option maxHeartbeats 4000000 in
/-- slices.Values's closure: each element in its turn, for every loop body that keeps what lay below n₀. -/
theorem values1_in (F : Fence) (n : Nat) (h7 : F.fn 119) (hro : F.round = none) (hn : 1 ≤ n) (l Bs n₀ cap : Nat) (A : Option Addr) (zs : List S91) (J Jx : List S91 → World → Prop)
    (hY : ∀ pre x W, J pre W → pre.length < zs.length → YieldAt F (n - 1) Try.prog l (encT x) W fun e W' =>
      (e = .returned (.bool true) ∧ J (pre ++ [x]) W' ∧ Below n₀ W W') ∨ (e = .returned (.bool false) ∧ Jx (pre ++ [x]) W'))
    (w0 W : World) (hJ : AbidesFrom W.heap.size J) (hBs : W.cell? ⟨Bs, 0, none⟩ = some (.slice A zs.length cap)) (hc : Kd.C k91 w0 A zs.length zs) (hw0 : ∀ a v, w0.cell? a = some v → a.block < n₀ → W.cell? a = some v) (hn1 : n₀ ≤ W.heap.size) (hlow : ∀ a v, w0.cell? a = some v → a.block < n₀) (h0 : J [] W) :
    CallsIn F n Try.prog 119 #[.func (.yield l) #[] #[], .pointer (some ⟨Bs, 0, none⟩)] W fun e W' => (∃ v, e = .returned v) ∧
      ((∃ ys, ys = zs ∧ J ys W') ∨ (∃ pre, pre <+: zs ∧ Jx pre W')) := by
  have hmx : zs.length ≤ 9223372036854775807 := hc.2.1
  refine callsIn_of_wp Try.func119 rfl h7 ?_ hro
  simp only [Try.ntmps119, List.size_toArray, List.length_cons, List.length_nil, Nat.reduceAdd, Nat.reduceSub, Array.replicate_succ, Array.replicate_zero, List.push_toArray, List.append_toArray, List.nil_append, List.cons_append]
  have HC := Aside0.mk hc
  have HW := Aside0.mk hw0
  have HL := Aside0.mk hlow
  have HJ0 := Aside0.mk hJ
  have HY := Aside0.mk hY
  clear hc hw0 hlow hJ hY
  gi_wp2
  gi_loopw [4, 7] (fun _ i wr => ∃ k : Nat, k ≤ zs.length ∧ i = .int .i64 k ∧ J (zs.take k) wr ∧ Aside0 (Below n₀ W wr)) (fun _ i _ => zs.length - (intOf i).toNat)
  case atStart => exact ⟨0, Nat.zero_le _, rfl, h0, ⟨Below.refl _ _⟩⟩
  case round =>
    obtain ⟨k, hk, rfl, hJs, HB⟩ := hrel
    by_cases hlt : k < zs.length
    · have hltz : (k : Int) < (zs.length : Int) := by omega
      obtain ⟨ad, e, hx0, hx1⟩ := at_T91 HC.out (k : Int) (by omega) (by omega)
      cases e
      have cellK : ∀ a v, w0.cell? a = some v → wr.cell? a = some v := fun a v h => (HB.out.cell (HL.out a v h)).trans (HW.out a v h (HL.out a v h))
      replace hx0 := cellK _ _ hx0
      replace hx1 := cellK _ _ hx1
      clear cellK
      simp only [Int.toNat_natCast] at hx0 hx1
      have hrd : rd_T91 zs (k : Int) = zs[k] := by simp [rd_T91, List.getD_eq_getElem?_getD, hlt]
      rw [hrd] at hx0 hx1
      have hsz : n₀ ≤ wr.heap.size := Nat.le_trans hn1 HB.out.size
      obtain ⟨x, hx⟩ : ∃ x, x = zs[k] := ⟨_, rfl⟩
      rw [← hx] at hx0 hx1
      have hJa := HJ0.out _ wr _ none hJs (World.grownBy_alloc wr (.cells #[.int .i64 x.f0, .int .i64 x.f1] 91) none) (fun r h => by cases h)
      have hJl : (zs.take k).length < zs.length := by simp; omega
      obtain ⟨fn, tmps, assign, body, hy, hR⟩ := HY.out _ x _ hJa hJl
      unfold encT at hy
      have HX := Aside0.mk hx
      clear hx hrd
      gi_wp2
      refine hR.mono ?_
      clear hR hx0 hx1
      rintro e W3 (⟨rfl, hJ3, hk3⟩ | ⟨rfl, hJx3⟩)
      · have HK3 := Aside0.mk hk3
        clear hk3
        gi_wp2
        go_roundw
        case rel => exact ⟨k + 1, by omega, by go_num, by rw [List.take_succ_eq_append_getElem hlt, ← HX.out]; exact hJ3, ⟨(HB.out.alloc hsz _).trans HK3.out⟩⟩
        case measure => simp [intOf]; omega
      · gi_wp2
        refine bodyPost_ret (results_none rfl _ _ _) rfl ?_
        exact ⟨⟨_, rfl⟩, .inr ⟨_, ⟨zs.drop (k + 1), by rw [HX.out, ← List.take_succ_eq_append_getElem hlt, List.take_append_drop]⟩, hJx3⟩⟩
    · obtain rfl : k = zs.length := by omega
      have hltz : ¬ (zs.length : Int) < (zs.length : Int) := by omega
      rw [List.take_length] at hJs
      gi_wp2
      go_end0
      first | exact ⟨⟨_, rfl⟩, .inl ⟨zs, rfl, hJs⟩⟩ | exact ⟨⟨_, rfl⟩, .inl hJs⟩

set_option maxHeartbeats 1000000 in
/-- slices.Values(s): the slice value is boxed; the function value captures the box. -/
theorem values_in (F : Fence) (n : Nat) (h5 : F.fn 72) (hro : F.round = none) (a : Option Addr) (len cap : Nat) (w : World) :
    CallsIn F n Try.prog 72 #[.slice a len cap] w fun e w' => e = .returned (.func (.func 119) #[] #[.pointer (some ⟨w.heap.size, 0, none⟩)]) ∧ w' = w.alloc (.cells #[.slice a len cap] 43) := by
  refine callsIn_of_wp Try.func72 rfl h5 ?_ hro
  simp only [Try.ntmps72, List.size_toArray, List.length_cons, List.length_nil, Nat.reduceAdd, Nat.reduceSub, Array.replicate_succ, Array.replicate_zero, List.push_toArray, List.append_toArray, List.nil_append, List.cons_append]
  gi_wp2
  go_ret
  exact ⟨rfl, rfl⟩
/-- .. hands back a value that gives all elements in order, or a prefix. w0: the world of the slice. -/
theorem values_stops (F : Fence) (n : Nat) (h7 : F.fn 119) (hro : F.round = none) (hn : 1 ≤ n) (Bs cap : Nat) (A : Option Addr) (zs : List S91) (w0 w : World) (hb : Below w0.heap.size w0 w) (hBs : Bs < w.heap.size) 
    (hcell : w.cell? ⟨Bs, 0, none⟩ = some (.slice A zs.length cap)) (hc : Kd.C k91 w0 A zs.length zs) :
    SeqStopsK F n Try.prog 119 #[.pointer (some ⟨Bs, 0, none⟩)] encT (Below w0.heap.size) (fun ys => ys = zs) (fun pre => pre <+: zs) zs.length w := fun l J Jx W hW hJ _ hY h0 =>
  values1_in F n h7 hro hn l Bs w0.heap.size cap A zs J Jx hY w0 W hJ ((hW.cell (p := ⟨Bs, 0, none⟩) hBs).trans hcell) hc
    (fun a v h hl => (hW.cell (p := a) (by have := hb.size; omega)).trans ((hb.cell (p := a) hl).trans h)) (by have := hb.size; have := hW.size; omega) (fun a v h => World.block_lt_of_cell? w0 a h) h0

end
section
open Go.Shelf Go.Sort
attribute [local go_sem] Oper.semAt_some

def enc91 (x : S91) : List Value := [.int .i64 x.f0, .int .i64 x.f1]
def flat91 (l : List S91) : List Value := l.flatMap enc91
theorem flat91_length (l : List S91) : (flat91 l).length = l.length * 2 := by
  induction l with
  | nil => rfl
  | cons x l ih => simp [flat91, enc91] at ih ⊢; omega
theorem flat91_snoc (l : List S91) (x : S91) : flat91 (l ++ [x]) = flat91 l ++ enc91 x := by simp [flat91]
theorem reps_flat {R : S91 → List Value → Prop} (hR : ∀ x cs, R x cs → cs = enc91 x) : ∀ (l : List S91) (cs : List Value), Reps R 2 l cs → cs = flat91 l
  | [], cs, h => List.eq_nil_of_length_eq_zero (by simpa using h.1)
  | x :: l, cs, h => by
    have h0 := hR _ _ (h.2 0 x rfl)
    simp only [Nat.zero_mul, List.drop_zero] at h0
    have ht : Reps R 2 l (cs.drop 2) := ⟨by rw [List.length_drop, h.1]; simp; omega, fun j p hj => by
      have := h.2 (j + 1) p (by simpa using hj)
      rwa [List.drop_drop, show 2 + j * 2 = (j + 1) * 2 by omega]⟩
    have h1 := reps_flat hR l _ ht
    rw [show flat91 (x :: l) = enc91 x ++ flat91 l from rfl, ← h0, ← h1, List.take_append_drop]
theorem flat_reps {R : S91 → List Value → Prop} (hR : ∀ x, R x (enc91 x)) : ∀ (l : List S91), Reps R 2 l (flat91 l)
  | [] => Reps.none _ _
  | x :: l => Reps.c2 (hR x) (flat_reps hR l)
theorem R_flat {e base : Nat} {ok : Nat → Prop} {w : World} {v : Value} {l : List S91} (h : k91.R e w base ok v l) : w.ownsRow base e 2 v l.length (flat91 l) := by
  obtain ⟨_, inner, ho, hr⟩ := h
  rwa [reps_flat (fun x cs h => k91_openM h) l inner hr] at ho
theorem flat_R {e base : Nat} {ok : Nat → Prop} {w : World} {v : Value} {l : List S91} (h : w.ownsRow base e 2 v l.length (flat91 l)) (hok : ∀ k, v.ownBlock = some k → ok k) : k91.R e w base ok v l :=
  ⟨hok, flat91 l, h, flat_reps (fun x => k91_mkM _ _ _ x) l⟩
theorem enc_one (x : S91) : ∀ u ∈ enc91 x, u.oneCell' = true := by
  intro u hu
  simp only [enc91, List.mem_cons, List.not_mem_nil, or_false] at hu
  rcases hu with rfl | rfl | rfl <;> rfl
/-- A block of cells lies on while blocks that are no cells turn. -/
theorem blk_own {β : Type} (b t : Nat) (cs : Array Value) : Own (fun (_ : β) W => W.heap[b]? = some (.cells cs t (0, 0))) := by
  intro s A B row h hg hr
  refine (hg.block b (blk_lt h) (fun e => ?_)).trans h
  obtain ⟨o, ho, hc⟩ := hr b e.symm
  rw [h] at ho; cases ho; cases hc

set_option maxRecDepth 100000 in
set_option maxHeartbeats 4000000 in
/-- slices.AppendSeq onto nil: a row of the call's own, of all that has come. -/
theorem appendseq_in (F : Fence) (n : Nat) (h3 : F.fn 143) (hVal : F.fn 119) (hro : F.round = none) (hn : 3 ≤ n) (Bs n₀ : Nat) (zs : List S91) (hlen : zs.length ≤ 1000) (w0 w : World) (hn₀ : n₀ ≤ w.heap.size) (hw : Below w0.heap.size w0 w)
    (hseq : SeqStopsK F (n - 1) Try.prog 119 #[.pointer (some ⟨Bs, 0, none⟩)] encT (Below n₀) (fun ys => ys = zs) (fun pre => pre <+: zs) zs.length w0) :
    CallsIn F n Try.prog 143 #[.slice none 0 0, .func (.func 119) #[] #[.pointer (some ⟨Bs, 0, none⟩)]] w fun e W' => ∃ v, e = .returned v ∧ W'.ownsRow w.heap.size 91 2 v zs.length (flat91 zs) ∧ Below w.heap.size w W' := by
  have h1 : 1 ≤ n := by omega
  obtain ⟨i0, hi, hz0, hz1, hz2⟩ := info_parts info91
  refine callsIn_of_wp_marks Try.func143 rfl h3 ?_ hro
  simp only [Try.ntmps143, List.size_toArray, List.length_cons, List.length_nil, Nat.reduceAdd, Nat.reduceSub, Array.replicate_succ, Array.replicate_zero, List.push_toArray, List.append_toArray, List.nil_append, List.cons_append]
  gi_wp2
  have bO := Boxed.new w 43 (.slice none 0 0)
  have hB0 : Below w.heap.size w (w.alloc (.cells #[.slice none 0 0] 43)) := (Below.refl _ w).alloc (Nat.le_refl _) _
  refine wpIn_rangeFunc_ownH hro h1 (gf := 119) (lb := #[.pointer (some ⟨Bs, 0, none⟩)]) rfl hVal (enters_of Try.func119 (by kernel_rfl) rfl)
    hseq belowK_t (belowK_b (by simp; omega)) (hw.alloc hw.size _) (fun _ => rfl)
    (fun pre W => (∃ v, Boxed W w.heap.size 43 v ∧ W.ownsRow w.heap.size 91 2 v pre.length (flat91 pre) ∧ True) ∧ Below w.heap.size w W)
    (fun _ _ _ => False)
    (OwnFrom.and (Own.from (holdsRow_own w.heap.size w.heap.size 43 91 2 (fun pre => pre.length) (fun pre => flat91 pre) (fun _ _ => True)) _) (ownFrom_below (Nat.le_refl _) (by simp)))
    (fun _ _ _ _ _ hs _ _ => hs)
    ⟨⟨_, bO, World.ownsRow_nil _ _ _ _, trivial⟩, hB0⟩
    (fun x a' W => ∃ Bx, (w.heap.size < Bx ∧ a' = { tmps := #[.slice none 0 0, .func (.func 119) #[] #[.pointer (some ⟨Bs, 0, none⟩)], .pointer (some ⟨w.heap.size, 0, none⟩), undef, .slice none 0 0, .pointer (some ⟨Bx, 0, none⟩), .func (.func 119) #[] #[.pointer (some ⟨Bs, 0, none⟩)], .agg #[.int .i64 x.f0, .int .i64 x.f1], undef, undef, undef, undef, undef], defers := [] }) ∧ W.heap[Bx]? = some (.cells #[.int .i64 x.f0, .int .i64 x.f1] 91 (0, 0)))
    ?hAx ?assign ?body ?done ?stop
  case hAx =>
    rintro x a' s A B row ⟨Bx, hp, hb⟩ hg hr
    exact ⟨Bx, hp, Own.from (blk_own (β := Unit) Bx 91 _) _ () A B row hb hg hr⟩
  case assign =>
    rintro l pre x W K ⟨⟨v, hv, hrow, _⟩, hB⟩ hK
    dsimp only [encT]
    gi_wp2
    exact hK _ _ ((KeepsOthers.alloc _ _).from _) ((Below.refl _ W).alloc (Nat.le_trans hn₀ hB.size) _) ⟨⟨v, hv.alloc _, hrow.alloc _, trivial⟩, hB.alloc hB.size _⟩ ⟨W.heap.size, ⟨hv.lt, rfl⟩, heap_alloc_new W _⟩
  case body =>
    rintro l pre x a' W hl ⟨r, hr⟩ ⟨⟨v, hv, hrow, _⟩, hB⟩ ⟨Bx, ⟨hBx, rfl⟩, bX⟩ hlt
    have hc := hv.cell
    have hx0 := blk_cell bX 0
    have hx1 := blk_cell bX 1
    simp only [List.getElem?_toArray, List.getElem?_cons_zero, List.getElem?_cons_succ] at hx0 hx1
    gi_wp2_with (gi_at_builtin; refine wpListIn_append_own _ rfl _ _ 43 rfl w.heap.size 91 i0 _ 2 16 Try.underlying43 hi hz0 hz1 hz2 rfl (by decide) _ _ _ rfl (hrow.alloc _) ⟨W.heap.size, 0, none⟩ 1 1 (enc91 x) rfl rfl (World.news_of_block (cs := #[.int .i64 x.f0, .int .i64 x.f1]) (t := 91) (fr := (0, 0)) (heap_alloc_new W _)) (enc_one x) (by simp only [maxLen]; omega) (by omega) (by have := hB.size; simp; omega) ?_; intro v' w1 hown' hgrow _; obtain ⟨g', cap', rfl⟩ := ownsRow_succ hown'; obtain ⟨hv1, hv2, hr2, hk2, hb2⟩ := hv.appended (by decide) hrow hB.size (Nat.le_refl _) hown' hgrow; have hc1 := hv1.cell; have hf1 := hv1.frozen)
    exact ⟨hk2.from _, hb2.mono hn₀, ⟨⟨_, hv2, by rw [flat91_snoc, List.length_append]; exact hr2, trivial⟩, hB.trans hb2⟩⟩
  case done =>
    rintro D ys W hD rfl ⟨⟨v, hv, hrow, _⟩, hB⟩ hK
    have hc := hv.cell
    gi_wp2
    refine ⟨by simp, .inl ⟨_, _, rfl, run_takeDeferred hK, ?_⟩⟩
    exact ⟨_, results_tmp rfl _ _ _, v, rfl, ownsRow_putObj hrow _ hK rfl, hB.trans (belowK_b (w := w) (Nat.le_refl _) W D _ _ (by simp at hD; omega) hK rfl rfl)⟩
  case stop =>
    rintro D c pre W _ _ h _
    exact h.elim

set_option maxRecDepth 100000 in
set_option maxHeartbeats 4000000 in
/-- slices.Collect. -/
theorem collect_in (F : Fence) (n : Nat) (h2 : F.fn 117) (h3 : F.fn 143) (hVal : F.fn 119) (hro : F.round = none) (hn : 4 ≤ n) (Bs n₀ : Nat) (zs : List S91) (hlen : zs.length ≤ 1000) (w : World) (hn₀ : n₀ ≤ w.heap.size)
    (hseq : SeqStopsK F (n - 1 - 1) Try.prog 119 #[.pointer (some ⟨Bs, 0, none⟩)] encT (Below n₀) (fun ys => ys = zs) (fun pre => pre <+: zs) zs.length w) :
    CallsIn F n Try.prog 117 #[.func (.func 119) #[] #[.pointer (some ⟨Bs, 0, none⟩)]] w fun e W' => ∃ v, e = .returned v ∧ W'.ownsRow w.heap.size 91 2 v zs.length (flat91 zs) ∧ Below w.heap.size w W' := by
  refine callsIn_of_wp Try.func117 rfl h2 ?_ hro
  simp only [Try.ntmps117, List.size_toArray, List.length_cons, List.length_nil, Nat.reduceAdd, Nat.reduceSub, Array.replicate_succ, Array.replicate_zero, List.push_toArray, List.append_toArray, List.nil_append, List.cons_append]
  have h1 : 1 ≤ n := by omega
  gi_wp2_with (gi_at_call 143; refine (appendseq_in F (n - 1) h3 hVal hro (by omega) Bs n₀ zs hlen w w hn₀ (Below.refl _ _) hseq).mono ?_; rintro e w' ⟨v, rfl, hown, hb⟩; have HO := Aside0.mk hown; have HB := Aside0.mk hb; clear hown hb)
  go_ret
  exact ⟨_, rfl, HO.out, HB.out⟩

end
section
open Go.Shelf Go.Sort
/-! ### A row of Items as the sort's kit holds it -/
instance : Inhabited S91 := ⟨z91⟩
theorem flat91_get : ∀ (l : List S91) (j : Nat), j < l.length * 2 → (flat91 l)[j]? = some ((enc91 ((l.toArray)[j / 2]!))[j % 2]!)
  | [], j, h => by simp at h
  | x :: l, j, h => by
    have e : flat91 (x :: l) = enc91 x ++ flat91 l := by simp [flat91]
    have hx : (enc91 x).length = 2 := rfl
    rw [e]
    by_cases h3 : j < 2
    · rw [List.getElem?_append_left (by omega)]
      have h0 : j / 2 = 0 := by omega
      rw [h0, show j % 2 = j by omega]
      have : j = 0 ∨ j = 1 := by omega
      rcases this with rfl | rfl <;> rfl
    · rw [List.getElem?_append_right (by omega), hx, flat91_get l (j - 2) (by simp at h; omega)]
      have e1 : (j - 2) % 2 = j % 2 := by omega
      have e2 : j / 2 = (j - 2) / 2 + 1 := by omega
      rw [e1, e2]
      congr 2
      simp
section
variable {α : Type} [Inhabited α] (f : α → S91)
theorem flatK_get (d : Array α) (j : Nat) (h : j < d.size * 2) : (flat91 (d.toList.map f))[j]? = some ((flatK (fun x => enc91 (f x)) 2 d)[j]!) := by
  rw [get_flatK (fun x => enc91 (f x)) 2 d j h, flat91_get (d.toList.map f) j (by simpa using h)]
  have hj : j / 2 < d.size := by omega
  simp [hj]
theorem own_holds {w : World} {base g cap n : Nat} {l : List α} (h : w.ownsRow base 91 2 (.slice (some ⟨g, 0, none⟩) n cap) l.length (flat91 (l.map f))) : HoldsK (fun x => enc91 (f x)) 2 w g 0 l.toArray ∧ g < w.heap.size ∧ base ≤ g ∧ n = l.length := by
  obtain ⟨_, h | ⟨g', cap', cur, hv, hg, hc, _, _, hs, hp⟩⟩ := h
  · cases h.1
  · cases hv
    refine ⟨fun j hj => ?_, blk_lt hc, hg, rfl⟩
    simp only [size_flatK, List.size_toArray] at hj
    rw [Nat.zero_add]
    refine ⟨?_, blk_frozen hc j⟩
    rw [blk_cell hc j]
    have h1 := flatK_get f l.toArray j (by simpa using hj)
    rw [← hp, List.getElem?_take_of_lt hj, Array.getElem?_toList] at h1
    exact h1
theorem sorted_own {w : World} {base g cap n m : Nat} {l : List α} {d : Array α} {os : Array Obj} (h : w.ownsRow base 91 2 (.slice (some ⟨g, 0, none⟩) n cap) l.length (flat91 (l.map f))) (hd : d.size = l.length) :
    (sortWorldK (fun x => enc91 (f x)) 2 w g 0 m d os).ownsRow base 91 2 (.slice (some ⟨g, 0, none⟩) n cap) (d.toList.map f).length (flat91 (d.toList.map f)) := by
  obtain ⟨_, h | ⟨g', cap', cur, hv, hg, hc, h1, h2, hs, hp⟩⟩ := h
  · cases h.1
  · cases hv
    have hlt := blk_lt hc
    have hdl : (d.toList.map f).length = l.length := by simpa using hd
    refine ⟨flat91_length _, .inr ⟨g, cap, putCells id 0 (flatK (fun x => enc91 (f x)) 2 d) cur, by rw [hdl], hg, ?_, by omega, h2, ?_, ?_⟩⟩
    · unfold sortWorldK grow putRowK putRow mapBlock Sort.ahead
      simp only
      rw [Array.getElem?_append, if_pos (by simpa using hlt), Array.getElem?_modify, if_pos rfl, hc]
      rfl
    · simp [putCells, hs]
    · apply List.ext_getElem?
      intro j
      by_cases hj : j < d.size * 2
      · rw [List.getElem?_take_of_lt (by simpa using hj), flatK_get f d j hj, Array.getElem?_toList]
        have hj2 : j < cur.size := by rw [hs]; have := Nat.mul_le_mul_right 2 h1; omega
        unfold putCells
        rw [Array.getElem?_mapIdx, Array.getElem?_eq_getElem hj2]
        simp [hj]
      · rw [List.getElem?_take_eq_none (by simpa using hj), List.getElem?_eq_none (by rw [flat91_length]; simpa using hj)]
theorem sorted_below {w0 w : World} {B g m : Nat} {d : Array α} {os : Array Obj} (h : Below B w0 w) (hg : B ≤ g) (hB : B ≤ w.heap.size) : Below B w0 (sortWorldK (fun x => enc91 (f x)) 2 w g 0 m d os) := by
  refine ⟨h.os, h.tape, h.output, ?_, fun k hk => ?_⟩
  · have := h.size
    unfold sortWorldK grow putRowK putRow mapBlock Sort.ahead
    simp; omega
  · rw [← h.block k hk]
    unfold sortWorldK grow putRowK putRow mapBlock Sort.ahead
    simp only
    rw [Array.getElem?_append, if_pos (by simp; omega), Array.getElem?_modify, if_neg (by omega)]
end

end
/-! ### What a call lays behind the heap, and that it turns no draw back -/
def BelowD (B : Nat) (w w' : World) : Prop := Below B w w' ∧ w.drawn ≤ w'.drawn
theorem BelowD.refl (B : Nat) (w : World) : BelowD B w w := ⟨Below.refl _ _, Nat.le_refl _⟩
theorem dB_alloc {w W : World} (h : BelowD w.heap.size w W) (o : Obj) : BelowD w.heap.size w (W.alloc o) := ⟨below_alloc h.1 o, h.2⟩
theorem dB_drewN {B : Nat} {w W : World} (h : BelowD B w W) (n : Nat) : BelowD B w (W.drewN n) := ⟨pw_below_drewN h.1 n, Nat.le_trans h.2 (Nat.le_add_right _ _)⟩
theorem dB_drew1 {B : Nat} {w W : World} (h : BelowD B w W) : BelowD B w W.drew := ⟨below_drew1 h.1, Nat.le_trans h.2 (Nat.le_add_right _ _)⟩
theorem dB_set {w W : World} {g j : Nat} {v : Value} (h : BelowD w.heap.size w W) (hg : w.heap.size ≤ g) : BelowD w.heap.size w (W.setCell ⟨g, j, none⟩ v) := ⟨below_set h.1 hg, h.2⟩
theorem dB_step {w W w2 : World} (h : BelowD w.heap.size w W) (k : BelowD W.heap.size W w2) : BelowD w.heap.size w w2 := ⟨below_step h.1 k.1, Nat.le_trans h.2 k.2⟩
theorem dB_size {w W : World} (h : BelowD w.heap.size w W) : w.heap.size ≤ W.heap.size := below_size h.1
theorem dB_blk {w w1 : World} {g : Nat} {o : Obj} (h : w.heap[g]? = some o) (hb : BelowD w.heap.size w w1) : w1.heap[g]? = some o := blk_below h hb.1
section
variable {P : Program} {ops : Array Oper} {o : Oper} {a : Act} {Q : Exit → Act → World → Prop} {Kc : Act → World → Prop}
theorem dB_lit {α : Type} (d : Kd α) {w0 W : World} (base e : Nat) (hw : Region.wanted o (yielded ops a.tmps) = true) {N : Tmp} (hd : o.dst = some N) {xs : List α} {inner : List Value} {ok okp : Nat → Prop}
    (hrun : (execOp a.eval o).run P W = .ok (.value (.slice (some ⟨W.heap.size, 0, none⟩) xs.length xs.length)) (W.alloc (.cells inner.toArray e)))
    (hrep : Reps (d.M W base okp) d.sz xs inner) (hok : ∀ k, okp k → ok k) (hfresh : ok W.heap.size) (HB : BelowD base w0 W) (hbase : base ≤ W.heap.size) (hm : xs.length ≤ 9223372036854775807)
    (h : ∀ v1 w1, d.R e w1 base ok v1 xs → BelowD base w0 w1 → W.grownBy w1 none → (∃ b, v1.ownBlock = some b ∧ W.heap.size ≤ b) → Kc (a.put o.dst v1) w1) : if Region.wanted o (yielded ops a.tmps) = true then Oper.wp P o a W Kc Q else Kc (a.put o.dst undef) W := by
  refine event_step hw hrun (h _ _ ⟨fun k hk => ?_, inner, ?_, ?_⟩ ⟨HB.1.alloc hbase _, HB.2⟩ (World.grownBy_alloc W _ none) ⟨W.heap.size, by simp [Value.ownBlock], Nat.le_refl _⟩)
  · have : W.heap.size = k := by simpa [Value.ownBlock] using hk
    subst this
    exact hfresh
  · have h2 := World.ownsRow_lit (base := base) (e := e) (size := d.sz) W inner.toArray xs.length hbase (by simpa [maxLen] using hm) (by simpa using hrep.1)
    simpa using h2
  · refine hrep.imp_ (fun p c hp => d.M_mono (fun k hk => ⟨hok k hk.1, fun he => ?_⟩) (Kd.M_below (d.M_bound hp) (below_alloc (Below.refl _ _) _)))
    have h3 : k = W.heap.size := by simpa [Value.ownBlock] using he
    have := hk.2.2.1
    omega
end
section
variable {P : Program} {ops : Array Oper} {rest : List Oper} {o : Oper} {a : Act} {Q : Exit → Act → World → Prop}
theorem dB_box {W : World} (hgd : o.guard = none) {N : Tmp} (_hd : o.dst = some N) {cs : Array Value} {t : TypeId}
    (hrun : (execOp a.eval o).run P W = .ok (.value (.pointer (some ⟨W.heap.size, 0, none⟩))) (W.alloc (.cells cs t (0, 0))))
    (h : ∀ g, g = W.heap.size → ∀ w1, w1.heap[g]? = some (.cells cs t (0, 0)) → BelowD W.heap.size W w1 → wpList P ops Q rest (a.put o.dst (.pointer (some ⟨g, 0, none⟩))) w1) : wpList P ops Q (o :: rest) a W :=
  Kd.event_run hgd hrun (h _ rfl _ (blk_new W _) (dB_alloc (BelowD.refl _ _) _))
end
open Go.Sort in
/-- So much is an equation. -/
theorem grow_of {w w' : World} (h : BelowD w.heap.size w w') : ∃ q os, w' = grow (w.drewN q) os := by
  obtain ⟨h, hd⟩ := h
  refine ⟨w'.drawn - w.drawn, w'.heap.extract w.heap.size w'.heap.size, ?_⟩
  have hh : w'.heap = w.heap ++ w'.heap.extract w.heap.size w'.heap.size := by
    apply Array.ext_getElem?
    intro i
    rw [Array.getElem?_append]
    by_cases hi : i < w.heap.size
    · rw [if_pos hi]; exact h.block i hi
    · rw [if_neg hi, Array.getElem?_extract]
      by_cases h2 : i < w'.heap.size
      · rw [if_pos (by omega)]; congr 1; omega
      · rw [if_neg (by omega)]; simp; omega
  cases w with | mk hp tp dr os out =>
  cases w' with | mk hp' tp' dr' os' out' =>
  have h1 := h.os; have h2 := h.tape; have h3 := h.output
  simp only at h1 h2 h3 hh hd
  unfold grow World.drewN
  simp only [World.mk.injEq]
  exact ⟨hh, h2, by omega, h1, h3⟩


section
open Go.Shelf Go.Sort
open Go.Lib
open Go.Shelf Go.RowKit Go.Lib Go.Sort
section
variable {α : Type} [Inhabited α]
/-- The sort's own order of a list. -/
def sortL (cf : α → α → Int) (zs : List α) : List α := (pdq (ltOf cf) zs.toArray 0 zs.toArray.size (Lib.bitLen zs.toArray.size) true true).toList
theorem sortL_facts (cf : α → α → Int) (hO : SWO (ltOf cf)) (zs : List α) : PermIn 0 zs.toArray.size zs.toArray (pdq (ltOf cf) zs.toArray 0 zs.toArray.size (Lib.bitLen zs.toArray.size) true true) ∧ SortedIn (ltOf cf) 0 zs.toArray.size (pdq (ltOf cf) zs.toArray 0 zs.toArray.size (Lib.bitLen zs.toArray.size) true true) :=
  pdq_sorts (ltOf cf) hO zs.toArray 0 zs.toArray.size (Lib.bitLen zs.toArray.size) true true (Nat.zero_le _) (Nat.le_refl _) (Or.inl rfl)
theorem sortL_length (cf : α → α → Int) (hO : SWO (ltOf cf)) (zs : List α) : (sortL cf zs).length = zs.length := by
  have h := (sortL_facts cf hO zs).1.1
  simpa [sortL] using h
set_option maxHeartbeats 4000000 in
theorem SortedFunc_of (f : α → S91) (cf : α → α → Int) (hO : SWO (ltOf cf)) (g : Nat) (eg : ∀ args w, (callFunc g args).run Try.prog w = .ok (.enter g args) w)
    (hcmp : ∀ x y W, Calls Try.prog g #[.agg (enc91 (f x)).toArray, .agg (enc91 (f y)).toArray] W fun e w' => e = .returned (.int .i64 (cf x y)) ∧ ∃ q os', w' = grow (W.drewN q) os')
    (A : Option Addr) (cap : Nat) (zs : List α) (hlen : zs.length ≤ 1000) (Bs : Nat) (w0 w : World) (hb : Below w0.heap.size w0 w) (hBs : Bs < w.heap.size) (hcell : w.cell? ⟨Bs, 0, none⟩ = some (.slice A zs.length cap)) (hc : Kd.C k91 w0 A zs.length (zs.map f)) :
    Calls Try.prog 71 #[.func (.func 119) #[] #[.pointer (some ⟨Bs, 0, none⟩)], .func (.func g) #[] #[]] w fun e w' => ∃ v, e = .returned v ∧ k91.R 91 w' w.heap.size (fun _ => True) v ((sortL cf zs).map f) ∧ Below w.heap.size w w' := by
  have hl2 : (zs.map f).length = zs.length := by simp
  have hcol := callsIn_wide.1 (collect_in Fence.wide 10 trivial trivial trivial rfl (by omega) Bs w0.heap.size (zs.map f) (by omega) w hb.size
    (values_stops Fence.wide 8 trivial rfl (by omega) Bs cap A (zs.map f) w0 w hb hBs (by rw [hl2]; exact hcell) (by rw [hl2]; exact hc)))
  have hsort : ∀ v w1, w1.ownsRow w.heap.size 91 2 v zs.length (flat91 (zs.map f)) → Below w.heap.size w w1 → Calls Try.prog 118 #[v, .func (.func g) #[] #[]] w1 fun e w' => e = .returned (.tuple #[]) ∧ w'.ownsRow w.heap.size 91 2 v ((sortL cf zs).map f).length (flat91 ((sortL cf zs).map f)) ∧ Below w.heap.size w w' := by
    intro v w1 hown hb1
    by_cases h0 : zs.length = 0
    · have hz : zs = [] := List.length_eq_zero_iff.1 h0
      have hs : sortL cf zs = [] := List.length_eq_zero_iff.1 (by rw [sortL_length cf hO, h0])
      have hv : ∃ p c, v = .slice p 0 c := by
        rcases hown.2 with h | ⟨g', c, cur, hv, _⟩
        · exact ⟨none, 0, h.1⟩
        · exact ⟨some ⟨g', 0, none⟩, c, by rw [hv, h0]⟩
      obtain ⟨p, c, rfl⟩ := hv
      have hcon := AnyF.slices_SortFunc_none Try.sortTimer p c (.func (.func g) #[] #[]) w1
      change Calls Try.prog 118 _ _ _ at hcon
      refine hcon.mono ?_
      rintro e w' ⟨rfl, rfl⟩
      refine ⟨rfl, ?_, hb1⟩
      rw [hs]
      rw [hz] at hown
      exact hown
    · have hv : ∃ gb c, v = .slice (some ⟨gb, 0, none⟩) zs.length c := by
        rcases hown.2 with h | ⟨g', c, cur, hv, _⟩
        · exact absurd h.2 h0
        · exact ⟨g', c, hv⟩
      obtain ⟨gb, c, rfl⟩ := hv
      obtain ⟨hH, hlt, hge, _⟩ := own_holds f hown
      have hcon := AnyQ.slices_SortFunc_eq Try.sortTimer 2 Try.isAgg91 Try.sizeOf91 (fun x => enc91 (f x)) (fun _ => rfl) (fun x u hu => enc_one (f x) u hu) cf hO g #[] gb 0 c zs.toArray w1 eg
        (fun m os dk _ x y => by rw [Array.append_empty]; exact hcmp x y _) hH hlt (by simp; omega)
      change Calls Try.prog 118 _ _ _ at hcon
      refine Calls.mono (by simpa using hcon) ?_
      rintro e w' ⟨rfl, n, os, rfl⟩
      exact ⟨rfl, sorted_own f hown (by have := (sortL_facts cf hO zs).1.1; simpa using this), sorted_below f hb1 hge (by have := hb1.size; omega)⟩
  clear hcmp hcell hc
  generalize (sortL cf zs).map f = out at hsort ⊢
  go_enter Try.func71, Try.ntmps71
  go_wp2_with (first | (go_at_call 117; refine hcol.mono ?_; rintro e w1 ⟨v, rfl, hown, hb1⟩; have HO := Aside0.mk hown; have HB := Aside0.mk hb1; clear hown hb1) | (go_at_call 118; refine (hsort _ _ (by simpa using HO.out) HB.out).mono ?_; rintro e w2 ⟨rfl, hown2, hb2⟩; have HO2 := Aside0.mk hown2; have HB2 := Aside0.mk hb2; clear hown2 hb2))
  go_ret
  exact ⟨_, rfl, flat_R HO2.out (fun _ _ => trivial), HB2.out⟩
end

end
section
open Go.Shelf Go.Sort
def cmpI (x y : Int) : Int := if x < y then -1 else if x > y then 1 else 0
theorem cmpI_eq (x y : Int) : cmp_Compare_int64.f x y = some (cmpI x y) := by
  unfold cmp_Compare_int64.f cmpI cmp_isNaN_int64.f
  by_cases h1 : x < y
  · simp [h1]
  · by_cases h2 : y < x <;> simp [h1, h2]
def cfId (x y : S91) : Int := cmpI x.f0 y.f0
theorem ltOf_id (x y : S91) : ltOf cfId x y = decide (x.f0 < y.f0) := by
  unfold ltOf cfId cmpI
  by_cases h1 : x.f0 < y.f0
  · simp [h1]
  · by_cases h2 : y.f0 < x.f0 <;> simp [h1, h2]
theorem swo_id : SWO (ltOf cfId) where
  irrefl x := by rw [ltOf_id]; simp
  trans x y z h1 h2 := by rw [ltOf_id] at *; simp at *; omega
  ntrans x y z h1 h2 := by rw [ltOf_id] at *; simp at *; omega
set_option maxHeartbeats 4000000 in
theorem byId_calls (x y : S91) (W : World) : Calls Try.prog 74 #[.agg (enc91 x).toArray, .agg (enc91 y).toArray] W fun e w' => e = .returned (.int .i64 (cfId x y)) ∧ ∃ q os', w' = grow (W.drewN q) os' := by
  have hu91 := Try.underlying91
  have hcmp := fun W' => cmp_Compare_int64.calls x.f0 y.f0 (cfId x y) W' (cmpI_eq _ _)
  simp only [enc91]
  generalize cfId x y = r at hcmp ⊢
  go_enter Try.func74, Try.ntmps74
  go_wp2_with (go_at_call 109; refine (hcmp _).mono ?_; rintro e w' ⟨rfl, ⟨nd, rfl⟩⟩)
  go_ret
  exact ⟨rfl, grow_of (by repeat (first | exact BelowD.refl _ _ | apply dB_drewN | apply dB_drew1 | apply dB_alloc))⟩
theorem values_calls (A : Option Addr) (n c : Nat) (w : World) : Calls Try.prog 72 #[.slice A n c] w fun e w' => e = .returned (.func (.func 119) #[] #[.pointer (some ⟨w.heap.size, 0, none⟩)]) ∧ w' = w.alloc (.cells #[.slice A n c] 43) :=
  callsIn_wide.1 (values_in Fence.wide 10 trivial rfl A n c w)
def impl_Timer_71.f (l0 : List S91) : Option (List S91) := if l0.length ≤ 1000 then some (sortL cfId l0) else none
set_option maxHeartbeats 4000000 in
/-- slices.SortedFunc of slices.Values, by Id: told at the world ahead of Values. -/
theorem impl_Timer_71.calls (A0 : Option Addr) (c0 : Nat) (l0 : List S91) (r : List S91) (w : World) (hr0 : Kd.C k91 w A0 l0.length l0) (hc0 : l0.length ≤ c0) (h : impl_Timer_71.f l0 = some r) :
    Calls Try.prog 71 #[.func (.func 119) #[] #[.pointer (some ⟨w.heap.size, 0, none⟩)], .func (.func 74) #[] #[]] (w.alloc (.cells #[.slice A0 l0.length c0] 43)) fun e w' => ∃ v0_ : Value, e = .returned v0_ ∧ Kd.R k91 91 w' w.heap.size (fun _ => True) v0_ r ∧ Below w.heap.size w w' := by
  unfold impl_Timer_71.f at h
  by_cases c : l0.length ≤ 1000
  · rw [if_pos c] at h
    obtain rfl := Option.some.inj h
    have eg : ∀ args w, (callFunc 74 args).run Try.prog w = .ok (.enter 74 args) w := enters_of Try.func74 (by kernel_rfl) rfl
    have hb : Below w.heap.size w (w.alloc (.cells #[.slice A0 l0.length c0] 43)) := (Below.refl _ w).alloc (Nat.le_refl _) _
    have hs := SortedFunc_of (fun x : S91 => x) cfId swo_id 74 eg byId_calls A0 c0 l0 c w.heap.size w (w.alloc (.cells #[.slice A0 l0.length c0] 43)) hb (by simp) ((blk_cell (heap_alloc_new w _) 0).trans rfl) (by simpa using hr0)
    refine hs.mono ?_
    rintro e w' ⟨v, rfl, hR, hb2⟩
    refine ⟨v, rfl, Kd.R_lower (by simpa using hR) (by simp), below_step hb hb2⟩
  · rw [if_neg c] at h
    cases h
end

-- NOT PRINTED: function 72 (impl_Timer_72)

/-! ### impl_Timer_120: function 120 -/
/-- append(s, make([]T, m)...) where there is no room: a new row. -/
theorem run_zeros_grow {P : Program} (w : World) (t ti ty e : TypeId) (i : TypeInfo) (z : Value) (size bytes : Nat) (ht : P.underlying t = some (.slice e)) {k : IntKind} (hti : P.underlying ti = some (.int k)) (hi : P.info? e = some i) (hz : i.zero = some z)
    (hsize : i.size = size) (hby : i.bytes = bytes) (hzs : z.cells.size = size) (hsz : 0 < size) (hb0 : 0 < bytes)
    (A : Option Addr) (n cap : Nat) (xs : List Value) (kx : IntKind) (m : Nat) (hm : 0 < m) (hcap : cap < n + m) (hbytes : (n + m) * bytes ≤ 140737488355328) (hfo : (Builtin.firstCells size n (.slice A n cap)).run P w.drew = .ok xs.toArray w.drew) :
    (Builtin.append_ #[t, ti] ty #[.slice A n cap, .int kx m]).run P w =
      .ok (.slice (some ⟨w.heap.size, 0, none⟩) (n + m) (grownCap w (n + m) cap e)) (w.drew.alloc (.cells (xs.toArray ++ Builtin.zeroCells z.cells m ++ Builtin.zeroCells z.cells (grownCap w (n + m) cap e - (n + m))) e)) := by
  subst hsize
  subst hby
  have hle : n + m ≤ 140737488355328 := Nat.le_trans (Nat.le_mul_of_pos_right _ hb0) hbytes
  have hw : IntKind.i64.wrap (m : Int) = m := by rw [IntKind.wrap_i64]; omega
  have hneg : ¬ ((m : Int) < 0) := by omega
  have hmb : m * i.bytes ≤ 140737488355328 := Nat.le_trans (Nat.mul_le_mul_right _ (Nat.le_add_left m n)) hbytes
  have hbig : ¬ (281474976710656 < (m : Int) * (i.bytes : Int)) := by
    rw [← Int.natCast_mul]
    omega
  have hsn : i.size ≠ 0 := by omega
  have hn : ¬ (n + m ≤ cap) := by omega
  have h63' : ¬ (9223372036854775807 < ((n : Int) + (m : Int))) := by omega
  have hfit := growslice_fits hcap hbytes
  have h48' : ¬ (281474976710656 < Builtin.nextslicecap (n + m) cap * i.bytes) := by omega
  have hmz : ¬ (m * i.size = 0) := Nat.mul_ne_zero (by omega) hsn
  obtain ⟨news, hnews⟩ : ∃ news, news = (Builtin.zeroCells z.cells m).toList := ⟨_, rfl⟩
  have hna : Builtin.zeroCells z.cells m = news.toArray := by rw [hnews]
  simp [Builtin.append_, run_underlying ht, run_underlying hti, sizeOf, typeInfo, zeroValue, hi, hz, asInt, asIntOf, hw, hneg, hbig, hn, h63', h48', Question.forced, hfo, newRow, grownCap, hmz, hna]
  congr 2
  apply Array.ext'
  simp [List.append_assoc]
set_option maxHeartbeats 8000000 in
set_option maxRecDepth 100000 in
/-- slices.Grow of no row. -/
theorem grow_calls (m : Nat) (hm : m ≤ 5000000000000) (w : World) :
    Calls Try.prog 146 #[.slice none 0 0, .int .i64 (m : Int)] w fun e w' => ∃ v, e = .returned v ∧ k91.R 91 w' w.heap.size (fun _ => True) v [] ∧ Below w.heap.size w w' := by
  have hu43 := Try.underlying43
  by_cases h0 : m = 0
  · subst h0
    go_enter Try.func146, Try.ntmps146
    go_wp2
    go_ret
    exact ⟨_, rfl, Kd.R_nil _ _ _ _ _, Below.refl _ _⟩
  · obtain ⟨i0, hi0, hz⟩ := Option.map_eq_some_iff.1 info91
    simp only [Prod.mk.injEq] at hz
    have hfo : (Builtin.firstCells 2 0 (.slice none 0 0)).run Try.prog w.drew = .ok ([] : List Value).toArray w.drew := by
      simp [Builtin.firstCells]
    have hap := fun ty => run_zeros_grow w 43 3 ty 91 i0 _ 2 16 Try.underlying43 Try.underlying3 hi0 hz.1 hz.2.1 hz.2.2 rfl (by omega) (by omega) none 0 0 [] .i64 m (by omega) (by omega) (by omega) hfo
    rw [Nat.zero_add] at hap
    have hgc : m ≤ grownCap w m 0 91 := grownCap_ge w _ _ _
    have hgm : grownCap w m 0 91 ≤ maxLen := grownCap_le_maxLen w _ _ _ (by simp only [maxLen]; omega)
    generalize grownCap w m 0 91 = gc at hap hgc hgm
    obtain ⟨cur0, hcur0⟩ : ∃ cur0, cur0 = ([] : List Value).toArray ++ Builtin.zeroCells (Value.agg #[Value.int IntKind.i64 0, Value.int IntKind.i64 0]).cells m ++ Builtin.zeroCells (Value.agg #[Value.int IntKind.i64 0, Value.int IntKind.i64 0]).cells (gc - m) := ⟨_, rfl⟩
    rw [← hcur0] at hap
    have hc0s : cur0.size = gc * 2 := by
      rw [hcur0]
      simp [size_zeroCells, Value.cells]
      omega
    clear hcur0
    have HR := Aside0.mk (show k91.R 91 (w.drew.alloc (.cells cur0 91)) w.heap.size (fun _ => True) (.slice (some ⟨w.heap.size, 0, none⟩) 0 gc) [] from
      ⟨fun _ _ => trivial, [], ⟨rfl, .inr ⟨w.heap.size, gc, cur0, rfl, Nat.le_refl _, heap_alloc_new w.drew _, Nat.zero_le _, hgm, hc0s, by simp⟩⟩, Reps.none _ _⟩)
    have HB := Aside0.mk (show Below w.heap.size w (w.drew.alloc (.cells cur0 91)) from (below_drew (Below.refl _ w)).alloc (Nat.le_refl _) _)
    clear hz hi0 hfo hgm hc0s
    have hp : (0 : Int) < (m : Int) := by omega
    go_enter Try.func146, Try.ntmps146
    go_wp2_with (at_builtin; go_loud (refine Lib.wpList_append_run _ rfl _ _ 43 3 rfl _ _ rfl rfl _ _ (hap _) ?_))
    go_ret
    exact ⟨_, rfl, HR.out, HB.out⟩

theorem flat_take (ls : List (List S91)) {i : Nat} (h : i < ls.length) : (ls.take (i + 1)).flatten = (ls.take i).flatten ++ rd_L4 ls (i : Int) := by
  rw [List.take_succ_eq_append_getElem h, List.flatten_append]
  simp [rd_L4, List.getD_eq_getElem?_getD, h]
theorem flat_le (ls : List (List S91)) (i : Nat) : (ls.take i).flatten.length ≤ ls.flatten.length := by
  have h := congrArg List.length (congrArg List.flatten (List.take_append_drop i ls))
  rw [List.flatten_append, List.length_append] at h
  omega
set_option maxHeartbeats 8000000 in
set_option maxRecDepth 100000 in
/-- slices.Concat of rows. -/
theorem concat_calls (A : Option Addr) (c : Nat) (ls : List (List S91)) (w : World) (hr : Kd.C (Kd.slice 91 k91) w A ls.length ls) (hl : ls.flatten.length ≤ 5000000000000) :
    Calls Try.prog 120 #[.slice A ls.length c] w fun e w' => ∃ v, e = .returned v ∧ k91.R 91 w' w.heap.size (fun _ => True) v ls.flatten ∧ Below w.heap.size w w' := by
  have hu43 := Try.underlying43
  have hu42 := Try.underlying42
  have hmx : ls.length ≤ 9223372036854775807 := hr.2.1
  have HR := Aside0.mk hr
  have HL := Aside0.mk hl
  clear hr hl
  go_enter Try.func120, Try.ntmps120
  go_wp2
  go_loopg [3, 11] ls.length (fun gg s3 s11 wr => ∃ i : Nat, s3 = .int .i64 ((ls.take i).flatten.length : Nat) ∧ s11 = .int .i64 i ∧ i ≤ ls.length ∧ ls.length - i ≤ gg ∧ Aside0 (Below w.heap.size w wr))
  case atStart => exact ⟨0, rfl, rfl, Nat.zero_le _, by omega, ⟨Below.refl _ _⟩⟩
  case round =>
    obtain ⟨i, rfl, rfl, hi, hg, HB⟩ := hrel
    by_cases hlt : i < ls.length
    · obtain ⟨ad, A1, c1, e, hx, hc1, hC1⟩ := at_L4 (Kd.C_below HR.out HB.out) (i : Int) (by omega) (by omega)
      cases e
      have hT : (ls.take (i + 1)).flatten.length = (ls.take i).flatten.length + (rd_L4 ls (i : Int)).length := by rw [flat_take ls hlt, List.length_append]
      have hb2 := flat_le ls (i + 1)
      have hltz : (i : Int) < (ls.length : Int) := by omega
      simp only [Int.toNat_natCast] at hx
      have HT := Aside0.mk hT
      have HB2 := Aside0.mk hb2
      clear hC1 hT hb2
      generalize (ls.take i).flatten.length = a at HT ⊢
      generalize (rd_L4 ls (i : Int)).length = b at hx hc1 HT
      have hw : wrap64 ((a : Int) + (b : Int)) = ((a + b : Nat) : Int) := by have := HT.out; have := HB2.out; have := HL.out; unfold wrap64; omega
      have hnn : ¬ wrap64 ((a : Int) + (b : Int)) < 0 := by rw [hw]; omega
      go_wp2
      go_roundg (ls.length - (i + 1))
      case measure => omega
      case rel => exact ⟨i + 1, by rw [HT.out]; first | (rw [hw]; done) | rfl, by first | rfl | rw [show wrap64 ((i : Int) + 1) = ((i + 1 : Nat) : Int) by unfold wrap64; omega], by omega, by omega, HB⟩
    · have hltz : ¬ (i : Int) < (ls.length : Int) := by omega
      obtain rfl : i = ls.length := by omega
      rw [List.take_length]
      have HG := HL.out
      generalize hG : ls.flatten.length = tot at HG ⊢
      have HG2 := Aside0.mk HG
      clear hG HG
      go_wp2_with (go_at_call 146; (refine (grow_calls _ (by exact HG2.out) _).mono ?_; rintro e w1 ⟨v, rfl, hv, hb⟩; have HV := Aside0.mk (Kd.R_lower hv HB.out.size); have HB1 := Aside0.mk (below_step HB.out hb); clear hv hb HB))
      go_loopg [6, 27] ls.length (fun gg s6 s27 wr => ∃ i : Nat, s27 = .int .i64 i ∧ i ≤ ls.length ∧ ls.length - i ≤ gg ∧ Aside0 (Below w.heap.size w wr) ∧ Aside0 (k91.R 91 wr w.heap.size (fun _ => True) s6 (ls.take i).flatten))
      case atStart => exact ⟨0, rfl, Nat.zero_le _, by omega, HB1, by simpa using HV⟩
      case round =>
        clear HB1 HV
        obtain ⟨i, rfl, hi, hg, HB, HV⟩ := hrel
        by_cases hlt : i < ls.length
        · obtain ⟨ad, A1, c1, e, hx, hc1, hC1⟩ := at_L4 (Kd.C_below HR.out HB.out) (i : Int) (by omega) (by omega)
          cases e
          have HT := Aside0.mk (flat_take ls hlt)
          have HB2 := Aside0.mk (flat_le ls (i + 1))
          have HLEN := Aside0.mk (show ((ls.take i).flatten ++ rd_L4 ls (i : Int)).length ≤ 5000000000000 by have := HB2.out; rw [HT.out] at this; have := HL.out; omega)
          have hltz : (i : Int) < (ls.length : Int) := by omega
          simp only [Int.toNat_natCast] at hx
          have HC1 := Aside0.mk hC1
          clear hC1
          obtain ⟨A6, c6, rfl⟩ := Kd.R_slice HV.out
          generalize (ls.take i).flatten = la at HT HV HLEN ⊢
          generalize rd_L4 ls (i : Int) = lb at hx hc1 HT HC1 HLEN
          go_wp2_with (at_builtin; (refine Kd.R_append_rows k91 (w0 := w) w.heap.size rfl (.tmp 31) (.tmp 32) 43 91 _ 16 rfl Try.underlying43 info91 rfl (by decide) (by decide) (.slice A6 la.length c6) la lb A1 lb.length c1 (fun _ => True) (fun _ => False) rfl rfl HV.out HC1.out (fun x cs h => by rw [k91_open h]; exact k91_mkM _ _ _ _) (fun k hk => hk.elim) (fun _ _ => trivial) HB.out (by exact HB.out.size) (by have := HLEN.out; rw [List.length_append] at this; omega) ?_; intro v1 w1 hR hB _ _; have HR1 := Aside0.mk hR; have HB1 := Aside0.mk hB; clear hR hB))
          go_roundg (ls.length - (i + 1))
          case measure => omega
          case rel => exact ⟨i + 1, by first | rfl | rw [show wrap64 ((i : Int) + 1) = ((i + 1 : Nat) : Int) by unfold wrap64; omega], by omega, by omega, HB1, ⟨by rw [HT.out]; exact HR1.out⟩⟩
        · have hltz : ¬ (i : Int) < (ls.length : Int) := by omega
          obtain rfl : i = ls.length := by omega
          go_wp2
          go_ret
          have := HV.out
          rw [List.take_length] at this
          exact ⟨_, rfl, this, HB.out⟩
def impl_Timer_120.f (l0 : List (List S91)) : Option (List S91) := if l0.flatten.length ≤ 5000000000000 then some l0.flatten else none
theorem impl_Timer_120.calls (A0 : Option Addr) (c0 : Nat) (l0 : List (List S91)) (r : List S91) (w : World) (hr0 : Kd.C (Kd.slice 91 k91) w A0 l0.length l0) (hc0 : l0.length ≤ c0) (h : impl_Timer_120.f l0 = some r) :
    Calls Try.prog 120 #[.slice A0 l0.length c0] w fun e w' => ∃ v0_ : Value, e = .returned v0_ ∧ Kd.R k91 91 w' w.heap.size (fun _ => True) v0_ r ∧ Below w.heap.size w w' := by
  unfold impl_Timer_120.f at h
  by_cases hl : l0.flatten.length ≤ 5000000000000
  · rw [if_pos hl] at h
    obtain rfl := Option.some.inj h
    exact concat_calls A0 c0 l0 w hr0 hl
  · rw [if_neg hl] at h
    cases h

/-! ### impl_Wheel_all: function 73 -/
def impl_Wheel_all.f (a0_0 : Int) (l0_1 : List (List (S91))) (l0_2 : List (S91)) : Option ((List (S91))) := (impl_Timer_120.f l0_1).bind fun t201 => (if t201.length + l0_2.length < 8796093022208 then (some (t201 ++ l0_2)) else (none))
set_option maxHeartbeats 8000000 in
set_option maxRecDepth 100000 in
theorem impl_Wheel_all.calls (a0_0 : Int) (A0_1 : Option Addr) (c0_1 : Nat) (l0_1 : List (List (S91))) (A0_2 : Option Addr) (c0_2 : Nat) (l0_2 : List (S91)) (r : List (S91)) (w : World) (hr0_1 : Kd.C (Kd.slice 91 k91) w A0_1 l0_1.length l0_1) (hc0_1 : l0_1.length ≤ c0_1) (hr0_2 : Kd.C k91 w A0_2 l0_2.length l0_2) (hc0_2 : l0_2.length ≤ c0_2) (h : impl_Wheel_all.f a0_0 l0_1 l0_2 = some r) :
    Calls Try.prog 73 #[.agg #[.int .i64 a0_0, .slice A0_1 l0_1.length c0_1, .slice A0_2 l0_2.length c0_2]] w fun e w' => ∃ v0_ : Value, e = .returned (v0_) ∧ Kd.R k91 91 w' w.heap.size (fun _ => True) v0_ r ∧ Below w.heap.size w w' := by
  have hu45 := Try.underlying45
  have HR0_1 := Aside0.mk hr0_1
  have HC0_1 := Aside0.mk hc0_1
  clear hr0_1 hc0_1
  have HR0_2 := Aside0.mk hr0_2
  have HC0_2 := Aside0.mk hc0_2
  clear hr0_2 hc0_2
  have HB := Aside0.mk (Below.refl w.heap.size w)
  have H : ((impl_Timer_120.f l0_1).bind fun t201 => (if t201.length + l0_2.length < 8796093022208 then (some (t201 ++ l0_2)) else (none))) = some r := h
  clear h
  replace H := Option.bind_eq_some_iff.mp H
  obtain ⟨t201, A20, H⟩ := H
  replace H : (if t201.length + l0_2.length < 8796093022208 then (some (t201 ++ l0_2)) else (none)) = some r := H
  have A2 := Aside0.mk A20
  clear A20
  by_cases c3 : t201.length + l0_2.length < 8796093022208
  · rw [if_pos c3] at H
    have LMc3 := Aside0.mk c3
    clear c3
    obtain ⟨y204, hy204⟩ : ∃ y_ : List (S91), y_ = (t201 ++ l0_2) := ⟨_, rfl⟩
    replace H : (some y204) = some r := by first | (rw [hy204]; with_reducible exact H) | (have H2_ := (Option.bind_some _ _).symm.trans H; rw [hy204]; with_reducible exact H2_) | (have H2_ := (Option.bind_some _ _).symm.trans H; with_reducible exact H2_) | with_reducible exact H | (rw [hy204]; exact H) | exact H
    have Ny204 := Aside0.mk hy204
    clear hy204
    obtain rfl := Option.some.inj H
    go_enter Try.func73, Try.ntmps73
    try go_wp2_with (first | ((with_reducible refine gate_dst (N := 1) rfl ?_); refine box_event ?hg (N := 1) ?hd (cs := #[.int .i64 a0_0, .slice A0_1 l0_1.length c0_1, .slice A0_2 l0_2.length c0_2]) (t := 45) ?hr ?_; (case hd => rfl); (case hg => rfl); (case hr => first | (go_simp; done) | (go_simp; rfl)); intro gb200 hg w4 hbox hb; have n0_ := Aside0.mk (below_step (by repeat (first | (with_reducible first | exact HB.out | apply below_alloc | apply pw_below_drewN | apply below_drew1) | exact HB.out)) hb); have n1_ := Aside0.mk (hbox); have n2_ := Aside0.mk ((by rw [hg]; exact (below_size (by repeat (first | (with_reducible first | exact HB.out | apply below_alloc | apply pw_below_drewN | apply below_drew1) | exact HB.out))) : w.heap.size ≤ gb200)); have n3_ := Aside0.mk ((by rw [hg]; exact (below_size (by repeat (first | (with_reducible first | exact HB.out | apply below_alloc | apply pw_below_drewN | apply below_drew1) | exact HB.out))) : w.heap.size ≤ gb200)); clear HB; have HB := n0_; have BK200 := n1_; have GW200 := n2_; have GE200 := n3_; clear n0_ n1_ n2_ n3_; clear hb hbox hg))
    have n0_ := Aside0.mk (blk_drew BK200.out)
    have n1_ := Aside0.mk (below_drew1 HB.out)
    clear BK200
    clear HB
    have BK200 := n0_
    have HB := n1_
    clear n0_ n1_
    refine start_ (n := 7) (S := fun w' => w'.cell? ⟨gb200, 0, none⟩ = some (.int .i64 a0_0) ∧ w'.cell? ⟨gb200, 1, none⟩ = some (.slice A0_1 l0_1.length c0_1) ∧ w'.cell? ⟨gb200, 2, none⟩ = some (.slice A0_2 l0_2.length c0_2)) (ds := []) #[false, false, false, false, false, false, false] (by kernel_rfl) rfl rfl ⟨(blk_cell BK200.out 0).trans rfl, (blk_cell BK200.out 1).trans rfl, (blk_cell BK200.out 2).trans rfl⟩ (fun hHeld => ?_)
    generalize w4.drew = w5 at BK200 HB hHeld ⊢
    refine pure_ (i := 0) (N := some 3) (v := ?_) (a' := ?_) #[true, false, false, false, false, false, false] rfl rfl (by kernel_rfl) (fun _ _ _ h => h) (Or.inl ⟨by rfl, ?_⟩) ?_ ?_; rotate_left; (intro w'; go_simp; with_reducible rfl); rotate_left; (simp only [Act.put, List.setIfInBounds_toArray, List.set_cons_zero, List.set_cons_succ, i64_w, i32_w]; rfl)
    refine pure_ (i := 3) (N := some 6) (v := ?_) (a' := ?_) #[true, false, false, true, false, false, false] rfl rfl (by kernel_rfl) (fun _ _ _ h => h) (Or.inl ⟨by rfl, ?_⟩) ?_ ?_; rotate_left; (intro w'; go_simp; with_reducible rfl); rotate_left; (simp only [Act.put, List.setIfInBounds_toArray, List.set_cons_zero, List.set_cons_succ, i64_w, i32_w]; rfl)
    refine take_ (i := 1) (N := some 4) (v := ?_) (a' := ?_) #[true, true, false, true, false, false, false] rfl rfl (by kernel_rfl) (fun _ _ _ h => h) (Or.inl ⟨by rfl, ?_⟩) hHeld ?_ ?_; rotate_left; (rintro w' ⟨s0, s1, s2⟩; go_simp; with_reducible rfl); rotate_left; (simp only [Act.put, List.setIfInBounds_toArray, List.set_cons_zero, List.set_cons_succ, i64_w, i32_w]; rfl)
    refine take_ (i := 4) (N := some 7) (v := ?_) (a' := ?_) #[true, true, false, true, true, false, false] rfl rfl (by kernel_rfl) (fun _ _ _ h => h) (Or.inl ⟨by rfl, ?_⟩) hHeld ?_ ?_; rotate_left; (rintro w' ⟨s0, s1, s2⟩; go_simp; with_reducible rfl); rotate_left; (simp only [Act.put, List.setIfInBounds_toArray, List.set_cons_zero, List.set_cons_succ, i64_w, i32_w]; rfl)
    refine one_ (i := 2) (N := some 5) #[true, true, true, true, true, false, false] rfl rfl (by kernel_rfl) (by decide) (fun K hK => ?_)
    refine goes_ Try.func120 (by kernel_rfl) rfl #[.slice A0_1 l0_1.length c0_1] (by rfl) rfl rfl (by (try simp only [List.map_toArray, List.map_cons, List.map_nil]); first | done | rfl | (simp only [List.length_drop, List.length_take]; rfl)) ?_
    with_reducible refine (impl_Timer_120.calls _ _ l0_1 t201 _ ?side1 ?side2 A2.out).mono ?_
    (case side1 => repeat (first | exact (Kd.C_below HR0_1.out HB.out) | (with_reducible refine Kd.C_alloc ?_ _) | (with_reducible refine Kd.C_drewN ?_ _) | (with_reducible refine Kd.C_drew ?_)))
    (case side2 => exact HC0_1.out)
    rintro e w6 ⟨v202, rfl, ho0, hb⟩
    refine ⟨_, rfl, ?_⟩
    have n0_ := Aside0.mk (Kd.R_lower ho0 (below_size (by repeat (first | (with_reducible first | exact HB.out | apply below_alloc | apply pw_below_drewN | apply below_drew1 | refine below_set ?_ GE200.out) | exact HB.out))))
    have n1_ := Aside0.mk (blk_below (g := gb200) (o := .cells #[.int .i64 a0_0, .slice A0_1 l0_1.length c0_1, .slice A0_2 l0_2.length c0_2] 45 (0, 0)) (by (with_reducible repeat (first | refine blk_drewN ?_ _ | refine blk_drew ?_ | refine blk_alloc ?_ _)); exact BK200.out) hb)
    have n2_ := Aside0.mk (below_step (by repeat (first | (with_reducible first | exact HB.out | apply below_alloc | apply pw_below_drewN | apply below_drew1 | refine below_set ?_ GE200.out) | exact HB.out)) hb)
    clear BK200
    clear HB
    have HO203 := n0_
    have BK200 := n1_
    have HB := n2_
    clear n0_ n1_ n2_
    (try clear hb)
    (try clear hb2)
    (try clear hk)
    (try clear hi)
    (try clear ho0)
    refine hK.out _ _ ⟨(blk_cell BK200.out 0).trans rfl, (blk_cell BK200.out 1).trans rfl, (blk_cell BK200.out 2).trans rfl⟩ (fun hHeld => ?_)
    clear hK K
    refine norm_ (a' := ?_) ?_ ?_
    rotate_left
    · show Act.put _ (some 5) _ = _
      simp only [Act.put, List.setIfInBounds_toArray, List.set_cons_zero, List.set_cons_succ, i64_w, i32_w]
      rfl
    refine one_ (i := 5) (N := some 8) #[true, true, true, true, true, true, false] rfl rfl (by kernel_rfl) (by decide) (fun K hK => ?_)
    refine Kd.R_append_rows_step k91 (w0 := w) w.heap.size (by rfl) (.tmp 5) (.tmp 7) 43 91 (.agg #[(.int .i64 0), (.int .i64 0)]) 16 rfl Try.underlying43 info91 rfl (by decide) (by omega) v202 t201 l0_2 _ _ _ (fun _ => True) (fun _ => False) rfl rfl ?aO ?aR (fun _ _ h => h) (fun _ h => h.elim) ?aF ?aB ?aS ?aL ?_
    (case aR => repeat (first | exact (Kd.C_below HR0_2.out HB.out) | (with_reducible refine Kd.C_alloc ?_ _) | (with_reducible refine Kd.C_drewN ?_ _) | (with_reducible refine Kd.C_drew ?_)))
    (case aB => exact (by repeat (first | (with_reducible first | exact HB.out | apply below_alloc | apply pw_below_drewN | apply below_drew1 | refine below_set ?_ GE200.out) | exact HB.out)))
    (case aF => exact (fun _ _ => trivial))
    (case aO => exact (by (with_reducible repeat (first | apply Kd.R_alloc | apply Kd.R_drewN | apply Kd.R_drew)); exact HO203.out))
    (case aS => exact (below_size (by repeat (first | (with_reducible first | exact HB.out | apply below_alloc | apply pw_below_drewN | apply below_drew1 | refine below_set ?_ GE200.out) | exact HB.out))))
    (case aL => have := LMc3.out; omega)
    intro v205 w7 ho hb hg hat
    rw [← Ny204.out] at ho
    have n0_ := Aside0.mk (blk_grown (g := gb200) (o := .cells #[.int .i64 a0_0, .slice A0_1 l0_1.length c0_1, .slice A0_2 l0_2.length c0_2] 45 (0, 0)) (by (with_reducible repeat (first | refine blk_drewN ?_ _ | refine blk_drew ?_ | refine blk_alloc ?_ _)); exact BK200.out) hg (Kd.R_ne HO203.out BK200.out (by decide)))
    have n1_ := Aside0.mk (hb)
    have n2_ := Aside0.mk (ho)
    clear BK200
    clear HB
    clear HO203
    have BK200 := n0_
    have HB := n1_
    have HO206 := n2_
    clear n0_ n1_ n2_
    clear ho hb hg hat
    refine hK.out _ _ ⟨(blk_cell BK200.out 0).trans rfl, (blk_cell BK200.out 1).trans rfl, (blk_cell BK200.out 2).trans rfl⟩ (fun hHeld => ?_)
    clear hK K
    refine norm_ (a' := ?_) ?_ ?_
    rotate_left
    · show Act.put _ (some 8) _ = _
      simp only [Act.put, List.setIfInBounds_toArray, List.set_cons_zero, List.set_cons_succ, i64_w, i32_w]
      rfl
    refine pure_ (i := 6) (N := some 2) (v := ?_) (a' := ?_) #[true, true, true, true, true, true, true] rfl rfl (by kernel_rfl) (fun _ _ _ h => h) (Or.inl ⟨by rfl, ?_⟩) ?_ ?_; rotate_left; (intro w'; go_simp; with_reducible rfl); rotate_left; (simp only [Act.put, List.setIfInBounds_toArray, List.set_cons_zero, List.set_cons_succ, i64_w, i32_w]; rfl)
    refine done_ (by kernel_rfl) ?_
    try go_wp2
    go_ret
    exact ⟨_, by first | rfl | (simp [errW_none, errW_some] <;> rfl) | (simp [*, errW_none, errW_some] <;> rfl), by (with_reducible repeat (first | apply Kd.R_alloc | apply Kd.R_drewN | apply Kd.R_drew)); exact HO206.out, by repeat (first | (with_reducible first | exact HB.out | apply below_alloc | apply pw_below_drewN | apply below_drew1 | refine below_set ?_ GE200.out) | exact HB.out)⟩
  · rw [if_neg c3] at H
    exact absurd H (by simp)

/-! ### impl_byId: function 74 -/
def impl_byId.f (a0_0 : Int) (a0_1 : Int) (a1_0 : Int) (a1_1 : Int) : Option (Int) := (cmp_Compare_int64.f a0_0 a1_0).bind fun t209 => (some t209)
set_option maxHeartbeats 8000000 in
set_option maxRecDepth 100000 in
theorem impl_byId.calls (a0_0 : Int) (a0_1 : Int) (a1_0 : Int) (a1_1 : Int) (r : Int) (w : World) (h : impl_byId.f a0_0 a0_1 a1_0 a1_1 = some r) :
    Calls Try.prog 74 #[.agg #[.int .i64 a0_0, .int .i64 a0_1], .agg #[.int .i64 a1_0, .int .i64 a1_1]] w fun e w' => e = .returned (.int .i64 r) ∧ Below w.heap.size w w' := by
  have hu91 := Try.underlying91
  have HB := Aside0.mk (Below.refl w.heap.size w)
  have H : ((cmp_Compare_int64.f a0_0 a1_0).bind fun t209 => (some t209)) = some r := h
  clear h
  replace H := Option.bind_eq_some_iff.mp H
  obtain ⟨t209, A30, H⟩ := H
  replace H : (some t209) = some r := H
  have A3 := Aside0.mk A30
  clear A30
  obtain rfl := Option.some.inj H
  go_enter Try.func74, Try.ntmps74
  go_wp2_with (first | ((with_reducible refine gate_dst (N := 2) rfl ?_); refine box_event ?hg (N := 2) ?hd (cs := #[.int .i64 a0_0, .int .i64 a0_1]) (t := 91) ?hr ?_; (case hd => rfl); (case hg => rfl); (case hr => first | (go_simp; done) | (go_simp; rfl)); intro gb207 hg w4 hbox hb; have n0_ := Aside0.mk (below_step (by repeat (first | (with_reducible first | exact HB.out | apply below_alloc | apply pw_below_drewN | apply below_drew1) | exact HB.out)) hb); have n1_ := Aside0.mk (hbox); have n2_ := Aside0.mk ((by rw [hg]; exact (below_size (by repeat (first | (with_reducible first | exact HB.out | apply below_alloc | apply pw_below_drewN | apply below_drew1) | exact HB.out))) : w.heap.size ≤ gb207)); have n3_ := Aside0.mk ((by rw [hg]; exact (below_size (by repeat (first | (with_reducible first | exact HB.out | apply below_alloc | apply pw_below_drewN | apply below_drew1) | exact HB.out))) : w.heap.size ≤ gb207)); clear HB; have HB := n0_; have BK207 := n1_; have GW207 := n2_; have GE207 := n3_; clear n0_ n1_ n2_ n3_; clear hb hbox hg) | ((with_reducible refine gate_dst (N := 3) rfl ?_); refine box_event ?hg (N := 3) ?hd (cs := #[.int .i64 a1_0, .int .i64 a1_1]) (t := 91) ?hr ?_; (case hd => rfl); (case hg => rfl); (case hr => first | (go_simp; done) | (go_simp; rfl)); intro gb208 hg w5 hbox hb; have n0_ := Aside0.mk (blk_below (g := gb207) (o := .cells #[.int .i64 a0_0, .int .i64 a0_1] 91 (0, 0)) (by (with_reducible repeat (first | refine blk_drewN ?_ _ | refine blk_drew ?_ | refine blk_alloc ?_ _)); exact BK207.out) hb); have n1_ := Aside0.mk (below_step (by repeat (first | (with_reducible first | exact HB.out | apply below_alloc | apply pw_below_drewN | apply below_drew1 | refine below_set ?_ GE207.out) | exact HB.out)) hb); have n2_ := Aside0.mk (hbox); have n3_ := Aside0.mk ((by rw [hg]; exact (below_size (by repeat (first | (with_reducible first | exact HB.out | apply below_alloc | apply pw_below_drewN | apply below_drew1 | refine below_set ?_ GE207.out) | exact HB.out))) : w.heap.size ≤ gb208)); have n4_ := Aside0.mk ((by rw [hg]; exact (below_size (by repeat (first | (with_reducible first | exact HB.out | apply below_alloc | apply pw_below_drewN | apply below_drew1 | refine below_set ?_ GE207.out) | exact HB.out))) : w.heap.size ≤ gb208)); have n5_ := Aside0.mk ((by rw [hg]; exact Nat.ne_of_lt (blk_lt (g := gb207) (o := .cells #[.int .i64 a0_0, .int .i64 a0_1] 91 (0, 0)) (by (with_reducible repeat (first | refine blk_drewN ?_ _ | refine blk_drew ?_ | refine blk_alloc ?_ _)); exact BK207.out)) : gb207 ≠ gb208)); have n6_ := Aside0.mk ((by rw [hg]; exact Nat.ne_of_gt (blk_lt (g := gb207) (o := .cells #[.int .i64 a0_0, .int .i64 a0_1] 91 (0, 0)) (by (with_reducible repeat (first | refine blk_drewN ?_ _ | refine blk_drew ?_ | refine blk_alloc ?_ _)); exact BK207.out)) : gb208 ≠ gb207)); clear BK207; clear HB; have BK207 := n0_; have HB := n1_; have BK208 := n2_; have GW208 := n3_; have GE208 := n4_; have NB207_208 := n5_; have NB208_207 := n6_; clear n0_ n1_ n2_ n3_ n4_ n5_ n6_; clear hb hbox hg; have hnb6 := NB207_208.out; have hnc6 := NB208_207.out; have hcz7_0 : w5.cell? ⟨gb207, 0, none⟩ = some (.int .i64 a0_0) := (blk_cell BK207.out 0).trans rfl; have hcz7_1 : w5.cell? ⟨gb207, 1, none⟩ = some (.int .i64 a0_1) := (blk_cell BK207.out 1).trans rfl; have hfz7_0 := blk_frozen BK207.out 0; have hfz7_1 := blk_frozen BK207.out 1; have hcz8_0 : w5.cell? ⟨gb208, 0, none⟩ = some (.int .i64 a1_0) := (blk_cell BK208.out 0).trans rfl; have hcz8_1 : w5.cell? ⟨gb208, 1, none⟩ = some (.int .i64 a1_1) := (blk_cell BK208.out 1).trans rfl; have hfz8_0 := blk_frozen BK208.out 0; have hfz8_1 := blk_frozen BK208.out 1) | ((with_reducible refine gate_callee (f := 109) rfl ?_); refine goesL_ (some 9) rfl rfl Try.func109 (by kernel_rfl) rfl #[.int .i64 a0_0, .int .i64 a1_0] rfl (by (try simp only [List.map_toArray, List.map_cons, List.map_nil]); first | done | rfl | (simp only [List.length_drop, List.length_take]; rfl)) ?_; (with_reducible refine (cmp_Compare_int64.calls a0_0 a1_0 t209 _ A3.out).mono ?_); rintro e w' ⟨rfl, ⟨nd, rfl⟩⟩; refine ⟨_, rfl, ?_⟩))
  go_ret
  exact ⟨by first | rfl | (simp [errW_none, errW_some] <;> rfl) | (simp [*, errW_none, errW_some] <;> rfl), by repeat (first | (with_reducible first | exact HB.out | apply below_alloc | apply pw_below_drewN | apply below_drew1 | refine below_set ?_ GE207.out | refine below_set ?_ GE208.out) | exact HB.out)⟩

/-! ### impl_isId: function 75 -/
def impl_isId.f (a0 : Int) : Option (Bool) := (impl_in.f a0 1 1000000).bind fun t210 => (some t210)
set_option maxHeartbeats 8000000 in
set_option maxRecDepth 100000 in
theorem impl_isId.calls (a0 : Int) (r : Bool) (w : World) (h : impl_isId.f a0 = some r) :
    Calls Try.prog 75 #[.int .i64 a0] w fun e w' => e = .returned (.bool r) ∧ Drawn0 w w' := by
  have H : ((impl_in.f a0 1 1000000).bind fun t210 => (some t210)) = some r := h
  clear h
  replace H := Option.bind_eq_some_iff.mp H
  obtain ⟨t210, A20, H⟩ := H
  replace H : (some t210) = some r := H
  have A2 := Aside0.mk A20
  clear A20
  obtain rfl := Option.some.inj H
  go_enter Try.func75, Try.ntmps75
  go_wp2_with (first | ((with_reducible refine gate_callee (f := 69) rfl ?_); refine goesL_ (some 4) rfl rfl Try.func69 (by kernel_rfl) rfl #[.int .i64 a0, .int .i64 1, .int .i64 1000000] rfl (by (try simp only [List.map_toArray, List.map_cons, List.map_nil]); first | done | rfl | (simp only [List.length_drop, List.length_take]; rfl)) ?_; (with_reducible refine (impl_in.calls a0 1 1000000 t210 _ A2.out).mono ?_); rintro e w' ⟨rfl, ⟨nd, rfl⟩⟩; refine ⟨_, rfl, ?_⟩))
  go_ret
  exact ⟨by first | rfl | (simp; done) | (simp [*]; done), by repeat (first | exact Drawn0.refl _ | apply Drawn0.step)⟩

end Go.Proofs.Ytenlceojmjkbkaa.XFnExactWheelNext
