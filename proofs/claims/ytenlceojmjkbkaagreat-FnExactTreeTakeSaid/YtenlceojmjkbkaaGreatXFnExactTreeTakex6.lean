/- Functions that FnExactTreeTake comes to, as Lean functions with their contracts: written by the prover's own program (wip/tpl/myprint.py) over the kit's printer, some contracts by hand. Conditions: none. -/
import Derived.Test.YtenlceojmjkbkaaGreatXFnExactTreeTakex0
import Derived.Test.YtenlceojmjkbkaaGreatXFnExactTreeTakex1
import Derived.Test.YtenlceojmjkbkaaGreatXFnExactTreeTakex3
import Derived.Test.YtenlceojmjkbkaaGreatXFnExactTreeTakex5
namespace Go.Proofs.YtenlceojmjkbkaaGreat.XFnExactTreeTake
open Go.RowKit Go.Proofs.YtenlceojmjkbkaaGreatW.PrintWords Go.Proofs.YtenlceojmjkbkaaGreatW.PrintLast Go.Proofs.YtenlceojmjkbkaaGreatW.PrintMore
attribute [local go_sem] max2_int min2_int max_two min_two max_three min_three max_four min_four   -- for this text's walks alone
set_option linter.unusedVariables false
set_option linter.unusedSimpArgs false

/-! ### spec_TreeTake: function 5 -/
attribute [local go_sem] Oper.semAt_some
theorem drew0_ {w w1 : World} (h : Drawn0 w.drew w1) : Drawn0 w w1 := by obtain ⟨⟨q, rfl⟩⟩ := h; exact Drawn0.step (⟨⟨1, rfl⟩⟩ : Drawn0 w w.drew) q
theorem trans0_ {w w1 w2 : World} (h : Drawn0 w w1) (k : Drawn0 w1 w2) : Drawn0 w w2 := by obtain ⟨⟨q, rfl⟩⟩ := k; exact h.step q

/-! ### Trees whose nodes are written -/
structure Wr (w w' : World) (S : Nat → Prop) : Prop where
 os : w'.os = w.os
 tape : w'.tape = w.tape
 output : w'.output = w.output
 size : w.heap.size ≤ w'.heap.size
 block : ∀ k, k < w.heap.size → ¬ S k → w'.heap[k]? = w.heap[k]?
section
variable {w w1 w2 : World} {S S' : Nat → Prop}
theorem Wr.refl (w : World) (S : Nat → Prop) : Wr w w S := ⟨rfl, rfl, rfl, Nat.le_refl _, fun _ _ _ => rfl⟩
theorem Wr.trans (h : Wr w w1 S) (k : Wr w1 w2 S) : Wr w w2 S := ⟨k.os.trans h.os, k.tape.trans h.tape, k.output.trans h.output, Nat.le_trans h.size k.size, fun i hi hn => (k.block i (Nat.lt_of_lt_of_le hi h.size) hn).trans (h.block i hi hn)⟩
theorem Wr.wid_ (h : Wr w w1 S) (hs : ∀ k, S k → S' k) : Wr w w1 S' := ⟨h.os, h.tape, h.output, h.size, fun i hi hn => h.block i hi (fun c => hn (hs i c))⟩
theorem Wr.of_below (h : Below w.heap.size w w1) (S : Nat → Prop) : Wr w w1 S := ⟨h.os, h.tape, h.output, h.size, fun i hi _ => h.block i hi⟩
theorem Wr.drewN (w : World) (n : Nat) (S : Nat → Prop) : Wr w (w.drewN n) S := ⟨rfl, rfl, rfl, Nat.le_refl _, fun _ _ _ => rfl⟩
theorem Wr.set (w : World) (p : Addr) (u : Value) (hp : S p.block) : Wr w (w.setCell p u) S := ⟨rfl, rfl, rfl, by simp [World.setCell], fun k _ hn => Below.heap_setCell w p u k (fun c => hn (c ▸ hp))⟩
theorem Wr.below {base : Nat} {w0 : World} (h : Wr w w1 S) (hb : Below base w0 w) (hs : ∀ k, S k → base ≤ k) (hz : base ≤ w.heap.size) : Below base w0 w1 :=
 ⟨h.os.trans hb.os, h.tape.trans hb.tape, h.output.trans hb.output, Nat.le_trans hb.size h.size, fun k hk => (h.block k (Nat.lt_of_lt_of_le hk hz) (fun c => absurd (hs k c) (by omega))).trans (hb.block k hk)⟩
end
structure Part (S : Nat → Prop) (g : Nat) (A B : Nat → Prop) : Prop where
 root : S g
 l : ∀ k, A k → S k
 r : ∀ k, B k → S k
 gl : ¬ A g
 gr : ¬ B g
 dj : ∀ k, A k → ¬ B k

/-- Two nodes g, m and three parts, all apart. -/
structure Tri (S : Nat → Prop) (g m : Nat) (A B C : Nat → Prop) : Prop where
 sg : S g
 sm : S m
 ne : g ≠ m
 a : ∀ k, A k → S k ∧ k ≠ g ∧ k ≠ m ∧ ¬ B k ∧ ¬ C k
 b : ∀ k, B k → S k ∧ k ≠ g ∧ k ≠ m ∧ ¬ C k
 c : ∀ k, C k → S k ∧ k ≠ g ∧ k ≠ m
theorem Tri.upL {S A B C : Nat → Prop} {g m : Nat} (t : Tri S g m A B C) : Part S m (fun k => k = g ∨ A k ∨ B k) C ∧ Part (fun k => k = g ∨ A k ∨ B k) g A B :=
 ⟨⟨t.sm, fun k h => h.elim (fun e => e ▸ t.sg) (fun h => h.elim (fun h => (t.a k h).1) (fun h => (t.b k h).1)), fun k h => (t.c k h).1, fun h => h.elim (fun h => t.ne h.symm) (fun h => h.elim (fun h => (t.a m h).2.2.1 rfl) (fun h => (t.b m h).2.2.1 rfl)), fun h => (t.c m h).2.2 rfl,
  fun k h hc => h.elim (fun e => (t.c k hc).2.1 e) (fun h => h.elim (fun h => (t.a k h).2.2.2.2 hc) (fun h => (t.b k h).2.2.2 hc))⟩,
  ⟨.inl rfl, fun k h => .inr (.inl h), fun k h => .inr (.inr h), fun h => (t.a g h).2.1 rfl, fun h => (t.b g h).2.1 rfl, fun k h hb => (t.a k h).2.2.2.1 hb⟩⟩
theorem Tri.upR {S A B C : Nat → Prop} {g m : Nat} (t : Tri S g m A B C) : Part S m A (fun k => k = g ∨ B k ∨ C k) ∧ Part (fun k => k = g ∨ B k ∨ C k) g B C :=
 ⟨⟨t.sm, fun k h => (t.a k h).1, fun k h => h.elim (fun e => e ▸ t.sg) (fun h => h.elim (fun h => (t.b k h).1) (fun h => (t.c k h).1)), fun h => (t.a m h).2.2.1 rfl, fun h => h.elim (fun h => t.ne h.symm) (fun h => h.elim (fun h => (t.b m h).2.2.1 rfl) (fun h => (t.c m h).2.2 rfl)),
  fun k h hc => hc.elim (fun e => (t.a k h).2.1 e) (fun hc => hc.elim (fun hc => (t.a k h).2.2.2.1 hc) (fun hc => (t.a k h).2.2.2.2 hc))⟩,
  ⟨.inl rfl, fun k h => .inr (.inl h), fun k h => .inr (.inr h), fun h => (t.b g h).2.1 rfl, fun h => (t.c g h).2.1 rfl, fun k h hb => (t.b k h).2.2.2 hb⟩⟩
theorem Part.triL {S A D B C : Nat → Prop} {g m : Nat} (p : Part S g A D) (q : Part D m B C) : Tri S g m A B C :=
 ⟨p.root, p.r m q.root, fun e => p.gr (e ▸ q.root), fun k h => ⟨p.l k h, fun e => p.gl (e ▸ h), fun e => p.dj k h (e ▸ q.root), fun c => p.dj k h (q.l k c), fun c => p.dj k h (q.r k c)⟩,
  fun k h => ⟨p.r k (q.l k h), fun e => p.gr (e ▸ q.l k h), fun e => q.gl (e ▸ h), q.dj k h⟩, fun k h => ⟨p.r k (q.r k h), fun e => p.gr (e ▸ q.r k h), fun e => q.gr (e ▸ h)⟩⟩
theorem Part.triR {S D A B C : Nat → Prop} {g m : Nat} (p : Part S g D C) (q : Part D m A B) : Tri S g m A B C :=
 ⟨p.root, p.l m q.root, fun e => p.gl (e ▸ q.root), fun k h => ⟨p.l k (q.l k h), fun e => p.gl (e ▸ q.l k h), fun e => q.gl (e ▸ h), q.dj k h, p.dj k (q.l k h)⟩,
  fun k h => ⟨p.l k (q.r k h), fun e => p.gl (e ▸ q.r k h), fun e => q.gr (e ▸ h), p.dj k (q.r k h)⟩, fun k h => ⟨p.r k h, fun e => p.gr (e ▸ h), fun e => p.dj m q.root (e ▸ h)⟩⟩

def Tr.lf : Tr → Tr
 | .nil => .nil
 | .node _ l _ => l
def Tr.rt : Tr → Tr
 | .nil => .nil
 | .node _ _ r => r
def rotR : Tr → Tr
 | .node x (.node y a b) c => .node y a (.node x b c)
 | t => t
def rotL : Tr → Tr
 | .node x a (.node y b c) => .node y (.node x a b) c
 | t => t
def balT (x : S35) (l r : Tr) : Tr :=
 if (l.ht : Int) - r.ht = 2 then rotR (.node x (if l.lf.ht < l.rt.ht then rotL l else l) r)
 else if (l.ht : Int) - r.ht = -2 then rotL (.node x l (if r.rt.ht < r.lf.ht then rotR r else r))
 else .node x l r
theorem ht_pos {t : Tr} (h : 0 < t.ht) : ∃ y a b, t = .node y a b := by
 cases t with
 | nil => exact absurd h (by simp [Tr.ht])
 | node y a b => exact ⟨y, a, b, rfl⟩

abbrev ci35 (x : S35) : Array Value := #[.int .i64 x.f0, .int .i64 x.f1, .int .i64 x.f2]
theorem Wr.fresh {w w1 w2 : World} {S : Nat → Prop} {g : Nat} (h : Wr w w1 S) (k : Wr w1 w2 (fun i => i = g)) (hg : w.heap.size ≤ g) : Wr w w2 S :=
 ⟨k.os.trans h.os, k.tape.trans h.tape, k.output.trans h.output, Nat.le_trans h.size k.size, fun i hi hn => (k.block i (Nat.lt_of_lt_of_le hi h.size) (by omega)).trans (h.block i hi hn)⟩
theorem Wr.keepC {w w1 : World} {S : Nat → Prop} {g t : Nat} {cs : Array Value} (h : Wr w w1 S) (b : w.heap[g]? = some (.cells cs t (0, 0))) (hg : ¬ S g) : w1.heap[g]? = some (.cells cs t (0, 0)) := (h.block g (blk_lt b) hg).trans b
theorem rotR_sz (t : Tr) : (rotR t).sz = t.sz := by
 unfold rotR
 split <;> simp [Tr.sz] <;> omega
theorem rotL_sz (t : Tr) : (rotL t).sz = t.sz := by
 unfold rotL
 split <;> simp [Tr.sz] <;> omega
theorem balT_sz (x : S35) (l r : Tr) : (balT x l r).sz = l.sz + r.sz + 1 := by
 unfold balT
 split
 ·
  rw [rotR_sz]; simp only [Tr.sz]; split <;> simp [rotL_sz]
 ·
  split
  ·
   rw [rotL_sz]; simp only [Tr.sz]; split <;> simp [rotR_sz]
  ·
   rfl
def tfT : S35 → Tr → Tr → Tr × S35
 | x, .nil, r => (r, x)
 | x, .node y a b, r => (balT x (tfT y a b).1 r, (tfT y a b).2)
theorem tfT_sz : ∀ (l r : Tr) (x : S35), (tfT x l r).1.sz = l.sz + r.sz
 | .nil, r, x => by simp [tfT, Tr.sz]
 | .node y a b, r, x => by
  have := tfT_sz a b y
  simp only [tfT, balT_sz, Tr.sz]
  omega

def tkTop (l : Tr) : Tr → Tr × Int
 | .nil => (l, 1)
 | .node y b d => (balT (tfT y b d).2 l (tfT y b d).1, 1)
def tkO (c : S35 → Int) : Tr → Option (Tr × Int)
 | .nil => none
 | .node x l r => if c x < 0 then (tkO c l).bind fun p => some (balT x p.1 r, p.2 + 1)
  else if 0 < c x then (tkO c r).bind fun p => some (balT x l p.1, p.2 + 1)
  else some (tkTop l r)
theorem tkTop_ok (l r : Tr) : (tkTop l r).2 = 1 ∧ (tkTop l r).1.sz = l.sz + r.sz := by
 cases r with
 | nil => exact ⟨rfl, rfl⟩
 | node y b d => exact ⟨rfl, by simp only [tkTop, balT_sz, tfT_sz, Tr.sz]; omega⟩
theorem tkO_ok (c : S35 → Int) : ∀ (t t' : Tr) (n : Int), tkO c t = some (t', n) → 1 ≤ n ∧ n ≤ t.sz ∧ t'.sz + 1 = t.sz
 | .nil, _, _, h => by cases h
 | .node x l r, t', n, h => by
  rw [tkO] at h
  split at h
  ·
   obtain ⟨⟨p, m⟩, hp, h⟩ := Option.bind_eq_some_iff.1 h
   have := tkO_ok c l p m hp
   simp only [Option.some.injEq, Prod.mk.injEq] at h
   obtain ⟨rfl, rfl⟩ := h
   simp only [balT_sz, Tr.sz]
   omega
  ·
   split at h
   ·
    obtain ⟨⟨p, m⟩, hp, h⟩ := Option.bind_eq_some_iff.1 h
    have := tkO_ok c r p m hp
    simp only [Option.some.injEq, Prod.mk.injEq] at h
    obtain ⟨rfl, rfl⟩ := h
    simp only [balT_sz, Tr.sz]
    omega
   ·
    have hT := tkTop_ok l r
    simp only [Option.some.injEq] at h
    rw [h] at hT
    simp only [Tr.sz] at hT ⊢
    omega

def twT : Tr → List S46
 | .nil => []
 | .node x l r => ⟨x, l.sz⟩ :: (twT l ++ twT r)
theorem twT_len : ∀ t : Tr, (twT t).length = t.sz
 | .nil => rfl
 | .node x l r => by
  have := twT_len l
  have := twT_len r
  simp only [twT, Tr.sz, List.length_cons, List.length_append]
  omega
theorem rd46_at (p : List S46) (y : S46) (q : List S46) : rd_T46 (p ++ y :: q) (p.length : Int) = y := by simp [rd_T46]
theorem k46_at {W : World} {base g n cap : Nat} {ok : Nat → Prop} {xs : List S46} (h : Kd.R k46 46 W base ok (.slice (some ⟨g, 0, none⟩) n cap) xs) (i : Nat) (hi : i < n) :
  W.cell? ⟨g, i * 4 + 3, none⟩ = some (.int .i64 (rd_T46 xs i).f1) ∧ W.frozen? ⟨g, i * 4 + 3, none⟩ = false := by
 obtain ⟨ce, hcl, hM, hcc, hfr⟩ := Kd.R_elem h z46 (i : Int) (by omega) (by omega)
 obtain rfl := k46_openM hM
 exact ⟨hcc 3 _ rfl, hfr 3⟩
theorem k46_set {W : World} {base g n cap : Nat} {ok : Nat → Prop} {xs : List S46} (h : Kd.R k46 46 W base ok (.slice (some ⟨g, 0, none⟩) n cap) xs) (i : Nat) (hi : i < n) (u : Int) :
  Kd.R k46 46 (W.setCell ⟨g, i * 4 + 3, none⟩ (.int .i64 u)) base ok (.slice (some ⟨g, 0, none⟩) n cap) (xs.set i ⟨(rd_T46 xs i).f0, u⟩) ∧ W.grownBy (W.setCell ⟨g, i * 4 + 3, none⟩ (.int .i64 u)) (some g) := by
 obtain ⟨ce, hcl, hM, hcc, hfr⟩ := Kd.R_elem h z46 (i : Int) (by omega) (by omega)
 obtain rfl := k46_openM hM
 refine ⟨(Kd.R_seg h (i : Int) (by omega) (by omega) (seg := [.int .i64 u]) (j := 3) hcl hcc (show 3 + 1 ≤ 4 by decide) (x' := (⟨(rd_T46 xs i).f0, u⟩ : S46)) (k46_mkM _ _ _ _) (fun _ hk => hk)).1, rfl, rfl, rfl, by simp [World.setCell], fun k hk hn => Below.heap_setCell W _ _ k (fun c => hn (by rw [c]))⟩

theorem R46_ok {e base : Nat} {ok ok' : Nat → Prop} {w : World} {v : Value} {xs : List S46} (h : k46.R e w base ok v xs) (hok : ∀ k, v.ownBlock = some k → ok' k) : k46.R e w base ok' v xs :=
 ⟨hok, h.2.imp fun inner ⟨ho, hr⟩ => ⟨ho, hr.imp_ (fun p c hp => by rw [k46_openM hp]; exact k46_mkM _ _ _ p)⟩⟩
theorem eqT35 (d : Nat) (w : World) (x0 y0 : Int) (x1 y1 : Int) (x2 y2 : Int) :
  (Op.equalIn (d + 2) 35 (.agg #[.int .i64 x0, .int .i64 x1, .int .i64 x2]) (.agg #[.int .i64 y0, .int .i64 y1, .int .i64 y2])).run Tryz.prog w = .ok (x0 == y0 && (x1 == y1 && (x2 == y2))) w := by
 refine eqA_of Tryz.underlying35 (by kernel_rfl) ?_
 refine eqf_cons (by rfl) (by go_simp; rfl) (by go_simp; rfl) (by go_simp) ?_
 refine eqf_cons (by rfl) (by go_simp; rfl) (by go_simp; rfl) (by go_simp) ?_
 exact eqf_last (by rfl) (by go_simp; rfl) (by go_simp; rfl) (by go_simp)
def eqI (x a : S35) : Bool := x.f0 == a.f0 && (x.f1 == a.f1 && (x.f2 == a.f2))
theorem rd_mem {l : List S46} {i : Nat} (h : i < l.length) : rd_T46 l i = l[i] := by simp [rd_T46, List.getD_eq_getElem?_getD, h]

def set32 (w : World) (g : Nat) (v : Value) (c e : Int) : World := ((w.setCell ⟨g, 0, none⟩ v).setCell ⟨g, 1, none⟩ (.int .i64 c)).setCell ⟨g, 2, none⟩ (.int .i64 e)
theorem set32_blk {w : World} {g : Nat} {a b d : Value} (h : w.heap[g]? = some (.cells #[a, b, d] 32 (0, 0))) (v : Value) (c e : Int) : (set32 w g v c e).heap[g]? = some (.cells #[v, .int .i64 c, .int .i64 e] 32 (0, 0)) := by
 have h1 : (w.setCell ⟨g, 0, none⟩ v).heap[g]? = some (.cells #[v, b, d] 32 (0, 0)) := blk_put h 0 _ rfl
 have h2 : ((w.setCell ⟨g, 0, none⟩ v).setCell ⟨g, 1, none⟩ (.int .i64 c)).heap[g]? = some (.cells #[v, .int .i64 c, d] 32 (0, 0)) := blk_put h1 1 _ rfl
 exact blk_put h2 2 _ rfl
theorem set32_below {w0 w : World} {g : Nat} (h : Below w0.heap.size w0 w) (hg : w0.heap.size ≤ g) (v : Value) (c e : Int) : Below w0.heap.size w0 (set32 w g v c e) := below_set (below_set (below_set h hg) hg) hg
theorem set32_R {w : World} {g base : Nat} {a b d u : Value} {xs : List S46} (h : w.heap[g]? = some (.cells #[a, b, d] 32 (0, 0))) (hR : Kd.R k46 46 w base (fun _ => True) u xs) (v : Value) (c e : Int) : Kd.R k46 46 (set32 w g v c e) base (fun _ => True) u xs := by
 have h1 : (w.setCell ⟨g, 0, none⟩ v).heap[g]? = some (.cells #[v, b, d] 32 (0, 0)) := blk_put h 0 _ rfl
 have h2 : ((w.setCell ⟨g, 0, none⟩ v).setCell ⟨g, 1, none⟩ (.int .i64 c)).heap[g]? = some (.cells #[v, .int .i64 c, d] 32 (0, 0)) := blk_put h1 1 _ rfl
 exact Kd.R_set (Kd.R_set (Kd.R_set hR h (by decide) 0 v) h1 (by decide) 1 _) h2 (by decide) 2 _
attribute [local go_sem] Oper.semAt_some
attribute [local go_sem high] eqT35

/-! ### The wood whose nodes are written -/
theorem R74_ok {e base : Nat} {ok ok' : Nat → Prop} {w : World} {v : Value} {xs : List S74} (h : k74.R e w base ok v xs) (hok : ∀ k, v.ownBlock = some k → ok' k) : k74.R e w base ok' v xs :=
 ⟨hok, h.2.imp fun inner ⟨ho, hr⟩ => ⟨ho, hr.imp_ (fun p c hp => by rw [k74_openM hp]; exact k74_mkM _ _ _ p)⟩⟩
theorem rd74_of {ns : List S74} {i : Nat} {y : S74} (h : ns[i]? = some y) : rd_T74 ns (i : Int) = y := by simp [rd_T74, h]
def Wd (w0 w : World) (g gs n c : Nat) (top : Int) (ns : List S74) : Prop := w.heap[g]? = some (.cells #[.slice (some ⟨gs, 0, none⟩) n c, .int .i64 top] 53 (0, 0)) ∧ w0.heap.size ≤ g ∧ g ≠ gs ∧ Kd.R k74 74 w w0.heap.size (fun _ => True) (.slice (some ⟨gs, 0, none⟩) n c) ns
section
variable {w0 w w1 : World} {g gs n c : Nat} {top : Int} {ns : List S74} {S : Nat → Prop}
theorem Wd.len (h : Wd w0 w g gs n c top ns) : ns.length = n := (Kd.R_reads' h.2.2.2).1.symm
theorem Wd.isS (h : Wd w0 w g gs n c top ns) : IsS53 w0 w g ns top := by
 have e := h.len
 subst e
 exact ⟨_, c, h.1, h.2.1, h.2.2.2⟩
theorem Wd.head (h : Wd w0 w g gs n c top ns) : w.cell? ⟨g, 0, none⟩ = some (.slice (some ⟨gs, 0, none⟩) n c) := (blk_cell h.1 0).trans rfl
theorem Wd.keep (h : Wd w0 w g gs n c top ns) (k : Wr w w1 S) (hg : ¬ S g) (hs : ¬ S gs) : Wd w0 w1 g gs n c top ns :=
 ⟨k.keepC h.1 hg, h.2.1, h.2.2.1, Kd.R_mono (ok' := fun _ => True) (Kd.R_step (R74_ok (ok' := fun k => k = gs) h.2.2.2 (fun k e => by simpa [Value.ownBlock] using e.symm)) (fun i e hi => k.block i hi (e ▸ hs))) (fun _ _ => trivial)⟩
theorem Wd.below (h : Wd w0 w g gs n c top ns) (hb : Below w.heap.size w w1) : Wd w0 w1 g gs n c top ns := h.keep (Wr.of_below hb (fun _ => False)) id id
theorem Wd.drewN (h : Wd w0 w g gs n c top ns) (m : Nat) : Wd w0 (w.drewN m) g gs n c top ns := h.keep (Wr.drewN w m (fun _ => False)) id id
theorem Wd.drawn (h : Wd w0 w g gs n c top ns) (hd : Drawn0 w w1) : Wd w0 w1 g gs n c top ns := by
 obtain ⟨⟨q, rfl⟩⟩ := hd
 exact h.drewN q
theorem Wd.gs_ge (h : Wd w0 w g gs n c top ns) : w0.heap.size ≤ gs := Kd.R_base h.2.2.2 gs rfl
theorem Wd.gs_lt (h : Wd w0 w g gs n c top ns) : gs < w.heap.size := Kd.R_lt h.2.2.2 gs rfl
theorem Wd.g_lt (h : Wd w0 w g gs n c top ns) : g < w.heap.size := blk_lt h.1
structure NodeAt (w : World) (gs n i : Nat) (y : S74) : Prop where
 lt : i < n
 c0 : w.cell? ⟨gs, i * 5, none⟩ = some (.int .i64 y.f0.f0)
 c1 : w.cell? ⟨gs, i * 5 + 1, none⟩ = some (.int .i64 y.f0.f1)
 c2 : w.cell? ⟨gs, i * 5 + 2, none⟩ = some (.int .i64 y.f0.f2)
 c3 : w.cell? ⟨gs, i * 5 + 3, none⟩ = some (.int .i64 y.f1)
 c4 : w.cell? ⟨gs, i * 5 + 4, none⟩ = some (.int .i64 y.f2)
 f3 : w.frozen? ⟨gs, i * 5 + 3, none⟩ = false
 f4 : w.frozen? ⟨gs, i * 5 + 4, none⟩ = false
theorem Wd.node (h : Wd w0 w g gs n c top ns) {i : Nat} {y : S74} (hi : ns[i]? = some y) : NodeAt w gs n i y := by
 have hlt : i < n := by rw [← h.len]; exact (List.getElem?_eq_some_iff.1 hi).1
 obtain ⟨ce, hcl, hM, hcc, hfr⟩ := Kd.R_elem h.2.2.2 z74 (i : Int) (by omega) (by omega)
 obtain rfl := k74_openM hM
 have e : rd_T74 ns (i : Int) = y := rd74_of hi
 have e' : ns.getD ((i : Int)).toNat z74 = y := e
 rw [e'] at hcc
 exact ⟨hlt, hcc 0 _ rfl, hcc 1 _ rfl, hcc 2 _ rfl, hcc 3 _ rfl, hcc 4 _ rfl, hfr 3, hfr 4⟩
theorem Wd.setL (h : Wd w0 w g gs n c top ns) {i : Nat} {y : S74} (hi : ns[i]? = some y) (u : Int) : Wd w0 (w.setCell ⟨gs, i * 5 + 3, none⟩ (.int .i64 u)) g gs n c top (ns.set i ⟨y.f0, u, y.f2⟩) ∧ Wr w (w.setCell ⟨gs, i * 5 + 3, none⟩ (.int .i64 u)) (fun k => k = gs) := by
 have hs := k74_set1 h.2.2.2 i (h.node hi).lt u
 rw [rd74_of hi] at hs
 exact ⟨⟨blk_far h.1 h.2.2.1 _, h.2.1, h.2.2.1, hs⟩, Wr.set _ _ _ rfl⟩
theorem Wd.setR (h : Wd w0 w g gs n c top ns) {i : Nat} {y : S74} (hi : ns[i]? = some y) (u : Int) : Wd w0 (w.setCell ⟨gs, i * 5 + 4, none⟩ (.int .i64 u)) g gs n c top (ns.set i ⟨y.f0, y.f1, u⟩) ∧ Wr w (w.setCell ⟨gs, i * 5 + 4, none⟩ (.int .i64 u)) (fun k => k = gs) := by
 have hs := k74_set2 h.2.2.2 i (h.node hi).lt u
 rw [rd74_of hi] at hs
 exact ⟨⟨blk_far h.1 h.2.2.1 _, h.2.1, h.2.2.1, hs⟩, Wr.set _ _ _ rfl⟩
end
structure Nw (ns ns' : List S74) (S : Nat → Prop) : Prop where
 len : ns'.length = ns.length
 keep : ∀ k, ¬ S k → ns'[k]? = ns[k]?
section
variable {ns ns1 ns2 : List S74} {S S' : Nat → Prop}
theorem Nw.refl (ns : List S74) (S : Nat → Prop) : Nw ns ns S := ⟨rfl, fun _ _ => rfl⟩
theorem Nw.trans (h : Nw ns ns1 S) (k : Nw ns1 ns2 S) : Nw ns ns2 S := ⟨k.len.trans h.len, fun i hi => (k.keep i hi).trans (h.keep i hi)⟩
theorem Nw.wid_ (h : Nw ns ns1 S) (hs : ∀ k, S k → S' k) : Nw ns ns1 S' := ⟨h.len, fun i hi => h.keep i (fun c => hi (hs i c))⟩
theorem Nw.set (ns : List S74) (i : Nat) (y : S74) : Nw ns (ns.set i y) (fun k => k = i) := ⟨by simp, fun k hk => by rw [List.getElem?_set_ne (fun e => hk e.symm)]⟩
theorem set_at {ns : List S74} {i : Nat} {y z : S74} (h : ns[i]? = some y) : (ns.set i z)[i]? = some z := by
 have := (List.getElem?_eq_some_iff.1 h).1
 simp [List.getElem?_set_self, this]
end
def RepF (ns : List S74) : (Nat → Prop) → Int → Tr → Prop
 | _, a, .nil => a < 0
 | S, a, .node x l r => ∃ (i : Nat) (A B : Nat → Prop) (al ar : Int), a = i ∧ ns[i]? = some ⟨x, al, ar⟩ ∧ Part S i A B ∧ RepF ns A al l ∧ RepF ns B ar r
theorem RepF.keep {ns ns' : List S74} : ∀ {t : Tr} {S : Nat → Prop} {a : Int}, RepF ns S a t → (∀ k, S k → ns'[k]? = ns[k]?) → RepF ns' S a t
 | .nil, _, _, h, _ => h
 | .node _ _ _, _, _, ⟨i, A, B, al, ar, e, hi, hp, h1, h2⟩, hk => ⟨i, A, B, al, ar, e, (hk i hp.root).trans hi, hp, h1.keep (fun k a => hk k (hp.l k a)), h2.keep (fun k a => hk k (hp.r k a))⟩
theorem RepF.far {ns ns' : List S74} {t : Tr} {S S' : Nat → Prop} {a : Int} (h : RepF ns S a t) (k : Nw ns ns' S') (hd : ∀ k, S k → ¬ S' k) : RepF ns' S a t := h.keep (fun i hs => k.keep i (hd i hs))
theorem RepF.wid_ {ns : List S74} : ∀ {t : Tr} {S S' : Nat → Prop} {a : Int}, RepF ns S a t → (∀ k, S k → S' k) → RepF ns S' a t
 | .nil, _, _, _, h, _ => h
 | .node _ _ _, _, _, _, ⟨i, A, B, al, ar, e, hi, hp, h1, h2⟩, hs => ⟨i, A, B, al, ar, e, hi, ⟨hs i hp.root, fun k a => hs k (hp.l k a), fun k a => hs k (hp.r k a), hp.gl, hp.gr, hp.dj⟩, h1, h2⟩
theorem RepF.rep {ns : List S74} : ∀ {t : Tr} {S : Nat → Prop} {a : Int}, RepF ns S a t → Rep ns t a
 | .nil, _, _, h => h
 | .node x l r, _, _, ⟨i, A, B, al, ar, e, hi, hp, h1, h2⟩ => by
  subst e
  have h := (List.getElem?_eq_some_iff.1 hi).1
  have e := rd74_of hi
  refine ⟨by omega, by omega, by rw [e], ?_, ?_⟩
  ·
   rw [e]; exact h1.rep
  ·
   rw [e]; exact h2.rep
theorem RepF_lay : ∀ (t : Tr) (p q : List S74), RepF (p ++ lay p.length t ++ q) (fun k => p.length ≤ k ∧ k < p.length + t.sz) (topO p.length t) t
 | .nil, _, _ => by simp [RepF, topO]
 | .node x l r, p, q => by
  have e1 : p ++ lay p.length (.node x l r) ++ q = (p ++ [⟨x, topO (p.length + 1) l, topO (p.length + 1 + l.sz) r⟩]) ++ lay (p ++ [(⟨x, topO (p.length + 1) l, topO (p.length + 1 + l.sz) r⟩ : S74)]).length l ++ (lay (p.length + 1 + l.sz) r ++ q) := by simp [lay]
  have hn : (p ++ [(⟨x, topO (p.length + 1) l, topO (p.length + 1 + l.sz) r⟩ : S74)] ++ lay (p.length + 1) l).length = p.length + 1 + l.sz := by simp [lay_len]; omega
  have e2 : p ++ lay p.length (.node x l r) ++ q = (p ++ [⟨x, topO (p.length + 1) l, topO (p.length + 1 + l.sz) r⟩] ++ lay (p.length + 1) l) ++ lay (p ++ [(⟨x, topO (p.length + 1) l, topO (p.length + 1 + l.sz) r⟩ : S74)] ++ lay (p.length + 1) l).length r ++ q := by
   rw [hn]
   simp [lay]
  have h1 := RepF_lay l (p ++ [⟨x, topO (p.length + 1) l, topO (p.length + 1 + l.sz) r⟩]) (lay (p.length + 1 + l.sz) r ++ q)
  have h2 := RepF_lay r (p ++ [⟨x, topO (p.length + 1) l, topO (p.length + 1 + l.sz) r⟩] ++ lay (p.length + 1) l) q
  rw [← e1] at h1
  rw [← e2, hn] at h2
  have hl1 : (p ++ [(⟨x, topO (p.length + 1) l, topO (p.length + 1 + l.sz) r⟩ : S74)]).length = p.length + 1 := by simp
  rw [hl1] at h1
  refine ⟨p.length, _, _, _, _, rfl, ?_, ?_, h1, h2⟩
  ·
   simp [lay]
  ·
   exact ⟨by simp only [Tr.sz]; omega, fun k hk => by simp only [Tr.sz]; omega, fun k hk => by simp only [Tr.sz]; omega, fun h => by omega, fun h => by omega, fun k h h' => by omega⟩

set_option maxHeartbeats 4000000 in
set_option maxRecDepth 100000 in
theorem turnRS (x y : S35) (a b d : Tr) (S : Nat → Prop) (ia : Int) (g gs n c : Nat) (top : Int) (ns : List S74) (w0 w : World) (hD : Wd w0 w g gs n c top ns) (h : RepF ns S ia (.node x (.node y a b) d)) :
  Calls Tryz.prog 59 #[.pointer (some ⟨g, 0, none⟩), .int .i64 ia, .bool true] w fun e w' => ∃ (u : Int) (ns' : List S74), e = .returned (.int .i64 u) ∧ Wd w0 w' g gs n c top ns' ∧ RepF ns' S u (.node y a (.node x b d)) ∧ Nw ns ns' S ∧ Wr w w' (fun k => k = gs) := by
 obtain ⟨i, Q, C, mi, dr, ei, hi, hp, h1, h2⟩ := h
 obtain ⟨m, A, B, ar, br, em, hm, hq, h3, h4⟩ := h1
 subst ei
 subst em
 have HT := Aside0.mk (hp.triR hq)
 have HD := Aside0.mk hD
 have HI := Aside0.mk hi
 have HM := Aside0.mk hm
 have HA := Aside0.mk h3
 have HB := Aside0.mk h4
 have HC := Aside0.mk h2
 have hlt : i < n := (hD.node hi).lt
 have hlm : m < n := (hD.node hm).lt
 have hh := hD.head
 have hn1 := (hD.node hi).c3
 have hn2 := (hD.node hm).c4
 clear hp hq h2 h3 h4 hi hm hD
 go_enter Tryz.func59, Tryz.ntmps59
 go_wp2
 refine start_ (n := 16) (S := fun w' => Drawn0 w w') (ds := [15]) #[false, false, false, false, false, false, false, false, false, false, false, false, false, false, false, false] (by kernel_rfl) rfl rfl ⟨⟨1, rfl⟩⟩ (fun hHeld => ?_)
 refine qu_ 0 18 ?_
 refine qu_ 1 19 ?_
 refine qu_ 2 20 ?_
 refine qt_ 3 21 hHeld ?_ rfl rfl (by intro w' sb_; obtain ⟨⟨n_, rfl⟩⟩ := sb_; have s0_ : (w.drewN n_).cell? ⟨g, 0, none⟩ = some (.slice (some ⟨gs, 0, none⟩) n c) := HD.out.head; go_simp; with_reducible rfl)
 refine qu_ 4 22 ?_
 refine qu_ 5 23 ?_
 refine qu_ 6 24 ?_
 refine qu_ 7 25 ?_
 refine qt_ 8 26 hHeld ?_ rfl rfl (by intro w' sb_; obtain ⟨⟨n_, rfl⟩⟩ := sb_; have s0_ : (w.drewN n_).cell? ⟨g, 0, none⟩ = some (.slice (some ⟨gs, 0, none⟩) n c) := HD.out.head; go_simp; with_reducible rfl)
 refine qu_ 9 27 ?_
 refine qu_ 10 28 ?_
 refine qu_ 11 29 ?_
 refine qt_ 12 30 hHeld ?_ rfl rfl (by intro w' sb_; obtain ⟨⟨n_, rfl⟩⟩ := sb_; have s0_ : (w.drewN n_).cell? ⟨gs, m * 5 + 4, none⟩ = some (.int .i64 br) := (HD.out.node HM.out).c4; go_simp; with_reducible rfl)
 refine qu_ 13 31 ?_
 refine qu_ 14 32 ?_
 refine ql_ 15 none (fun K hK => ?_)
 clear hHeld
 have hc : (w.drewN 1).cell? ⟨gs, i * 5 + 3, none⟩ = some (.int .i64 (m : Int)) := (HD.out.node HI.out).c3
 have hf : (w.drewN 1).frozen? ⟨gs, i * 5 + 3, none⟩ = false := ((HD.out.drewN 1).node HI.out).f3
 have hc2 : w.cell? ⟨gs, i * 5 + 3, none⟩ = some (.int .i64 (m : Int)) := hc
 have hf2 : w.frozen? ⟨gs, i * 5 + 3, none⟩ = false := hf
 refine skip_ (w1 := (w.drewN 1).setCell ⟨gs, i * 5 + 3, none⟩ (.int .i64 br)) (by rfl) rfl ?_ ?_
 ·
  go_simp
  rfl
 refine hK.out _ _ ?_
 clear hK K
 refine done_ (by kernel_rfl) ?_
 have hs := (HD.out.drewN 1).setL HI.out br
 have HD1 := Aside0.mk hs.1
 have HW1 : Aside0 (Wr w ((w.drewN 1).setCell ⟨gs, i * 5 + 3, none⟩ (.int .i64 br)) (fun k => k = gs)) := ⟨(Wr.drewN w 1 _).trans hs.2⟩
 clear hc hf hc2 hf2 hs
 generalize (w.drewN 1).setCell ⟨gs, i * 5 + 3, none⟩ (.int .i64 br) = w1 at HD1 HW1 ⊢
 have HM1 : Aside0 ((ns.set i ⟨x, br, dr⟩)[m]? = some ⟨y, ar, br⟩) := ⟨((Nw.set ns i _).keep m (fun e => HT.out.ne e.symm)).trans HM.out⟩
 have hh1 := HD1.out.head
 have hm1 := (HD1.out.node HM1.out).c4
 have hf1 := (HD1.out.node HM1.out).f4
 go_wp2_with (first
  | ((with_reducible refine gate_store (t := 3) (p := 40) rfl ?_); refine store_event (t := 3) (p := 40) (v := ?vo_tr) (w1 := (w1.setCell ⟨gs, m * 5 + 4, none⟩ (.int .i64 (i : Nat)))) ?hg ?ho ?hn ?hr ?_; (case ho => rfl); (case hg => rfl); (case hn => rfl); (case hr => first | (go_simp; done) | (go_simp; rfl)); intro w2 hw; have hs := HD1.out.setR HM1.out (i : Nat); have HD2 : Aside0 (Wd w0 w2 g gs n c top ((ns.set i ⟨x, br, dr⟩).set m ⟨y, ar, (i : Int)⟩)) := ⟨by rw [hw]; exact hs.1⟩; have HW2 : Aside0 (Wr w w2 (fun k => k = gs)) := ⟨HW1.out.trans (by rw [hw]; exact hs.2)⟩; clear hs hw hh1 hm1 hf1))
 go_ret
 have e1 : (ns.set i ⟨x, br, dr⟩)[i]? = some ⟨x, br, dr⟩ := set_at HI.out
 have N1 := Nw.set ns i ⟨x, br, dr⟩
 have N2 := Nw.set (ns.set i ⟨x, br, dr⟩) m ⟨y, ar, (i : Int)⟩
 have N : Nw ns ((ns.set i ⟨x, br, dr⟩).set m ⟨y, ar, (i : Int)⟩) (fun k => k = i ∨ k = m) := (N1.wid_ (fun k e => .inl e)).trans (N2.wid_ (fun k e => .inr e))
 have T := HT.out
 have U := T.upR
 have fA := HA.out.far N (fun k hk e => e.elim (T.a k hk).2.1 (T.a k hk).2.2.1)
 have fB := HB.out.far N (fun k hk e => e.elim (T.b k hk).2.1 (T.b k hk).2.2.1)
 have fC := HC.out.far N (fun k hk e => e.elim (T.c k hk).2.1 (T.c k hk).2.2)
 have fi : ((ns.set i ⟨x, br, dr⟩).set m ⟨y, ar, (i : Int)⟩)[i]? = some ⟨x, br, dr⟩ := (N2.keep i T.ne).trans e1
 refine ⟨_, rfl, _, HD2.out, ?_, N.wid_ (fun k e => e.elim (fun e => e ▸ T.sg) (fun e => e ▸ T.sm)), HW2.out⟩
 exact ⟨m, _, _, _, _, rfl, set_at HM1.out, U.1, fA, ⟨i, _, _, _, _, rfl, fi, U.2, fB, fC⟩⟩

set_option maxHeartbeats 4000000 in
set_option maxRecDepth 100000 in
theorem turnLS (x y : S35) (a b d : Tr) (S : Nat → Prop) (ia : Int) (g gs n c : Nat) (top : Int) (ns : List S74) (w0 w : World) (hD : Wd w0 w g gs n c top ns) (h : RepF ns S ia (.node x a (.node y b d))) :
  Calls Tryz.prog 59 #[.pointer (some ⟨g, 0, none⟩), .int .i64 ia, .bool false] w fun e w' => ∃ (u : Int) (ns' : List S74), e = .returned (.int .i64 u) ∧ Wd w0 w' g gs n c top ns' ∧ RepF ns' S u (.node y (.node x a b) d) ∧ Nw ns ns' S ∧ Wr w w' (fun k => k = gs) := by
 obtain ⟨i, A, Q, ar, mi, ei, hi, hp, h1, h2⟩ := h
 obtain ⟨m, B, C, br, dr, em, hm, hq, h3, h4⟩ := h2
 subst ei
 subst em
 have HT := Aside0.mk (hp.triL hq)
 have HD := Aside0.mk hD
 have HI := Aside0.mk hi
 have HM := Aside0.mk hm
 have HA := Aside0.mk h1
 have HB := Aside0.mk h3
 have HC := Aside0.mk h4
 have hlt : i < n := (hD.node hi).lt
 have hlm : m < n := (hD.node hm).lt
 have hh := hD.head
 have hn1 := (hD.node hi).c4
 have hn2 := (hD.node hm).c3
 clear hp hq h1 h3 h4 hi hm hD
 go_enter Tryz.func59, Tryz.ntmps59
 go_wp2
 refine start_ (n := 16) (S := fun w' => Drawn0 w w') (ds := [15]) #[false, false, false, false, false, false, false, false, false, false, false, false, false, false, false, false] (by kernel_rfl) rfl rfl ⟨⟨1, rfl⟩⟩ (fun hHeld => ?_)
 refine qu_ 0 50 ?_
 refine qu_ 1 51 ?_
 refine qu_ 2 52 ?_
 refine qt_ 3 53 hHeld ?_ rfl rfl (by intro w' sb_; obtain ⟨⟨n_, rfl⟩⟩ := sb_; have s0_ : (w.drewN n_).cell? ⟨g, 0, none⟩ = some (.slice (some ⟨gs, 0, none⟩) n c) := HD.out.head; go_simp; with_reducible rfl)
 refine qu_ 4 54 ?_
 refine qu_ 5 55 ?_
 refine qu_ 6 56 ?_
 refine qu_ 7 57 ?_
 refine qt_ 8 58 hHeld ?_ rfl rfl (by intro w' sb_; obtain ⟨⟨n_, rfl⟩⟩ := sb_; have s0_ : (w.drewN n_).cell? ⟨g, 0, none⟩ = some (.slice (some ⟨gs, 0, none⟩) n c) := HD.out.head; go_simp; with_reducible rfl)
 refine qu_ 9 59 ?_
 refine qu_ 10 60 ?_
 refine qu_ 11 61 ?_
 refine qt_ 12 62 hHeld ?_ rfl rfl (by intro w' sb_; obtain ⟨⟨n_, rfl⟩⟩ := sb_; have s0_ : (w.drewN n_).cell? ⟨gs, m * 5 + 3, none⟩ = some (.int .i64 br) := (HD.out.node HM.out).c3; go_simp; with_reducible rfl)
 refine qu_ 13 63 ?_
 refine qu_ 14 64 ?_
 refine ql_ 15 none (fun K hK => ?_)
 clear hHeld
 have hc : (w.drewN 1).cell? ⟨gs, i * 5 + 4, none⟩ = some (.int .i64 (m : Int)) := (HD.out.node HI.out).c4
 have hf : (w.drewN 1).frozen? ⟨gs, i * 5 + 4, none⟩ = false := ((HD.out.drewN 1).node HI.out).f4
 have hc2 : w.cell? ⟨gs, i * 5 + 4, none⟩ = some (.int .i64 (m : Int)) := hc
 have hf2 : w.frozen? ⟨gs, i * 5 + 4, none⟩ = false := hf
 refine skip_ (w1 := (w.drewN 1).setCell ⟨gs, i * 5 + 4, none⟩ (.int .i64 br)) (by rfl) rfl ?_ ?_
 ·
  go_simp
  rfl
 refine hK.out _ _ ?_
 clear hK K
 refine done_ (by kernel_rfl) ?_
 have hs := (HD.out.drewN 1).setR HI.out br
 have HD1 := Aside0.mk hs.1
 have HW1 : Aside0 (Wr w ((w.drewN 1).setCell ⟨gs, i * 5 + 4, none⟩ (.int .i64 br)) (fun k => k = gs)) := ⟨(Wr.drewN w 1 _).trans hs.2⟩
 clear hc hf hc2 hf2 hs
 generalize (w.drewN 1).setCell ⟨gs, i * 5 + 4, none⟩ (.int .i64 br) = w1 at HD1 HW1 ⊢
 have HM1 : Aside0 ((ns.set i ⟨x, ar, br⟩)[m]? = some ⟨y, br, dr⟩) := ⟨((Nw.set ns i _).keep m (fun e => HT.out.ne e.symm)).trans HM.out⟩
 have hh1 := HD1.out.head
 have hm1 := (HD1.out.node HM1.out).c3
 have hf1 := (HD1.out.node HM1.out).f3
 go_wp2_with (first
  | ((with_reducible refine gate_store (t := 3) (p := 72) rfl ?_); refine store_event (t := 3) (p := 72) (v := ?vo_tl) (w1 := (w1.setCell ⟨gs, m * 5 + 3, none⟩ (.int .i64 (i : Nat)))) ?hg ?ho ?hn ?hr ?_; (case ho => rfl); (case hg => rfl); (case hn => rfl); (case hr => first | (go_simp; done) | (go_simp; rfl)); intro w2 hw; have hs := HD1.out.setL HM1.out (i : Nat); have HD2 : Aside0 (Wd w0 w2 g gs n c top ((ns.set i ⟨x, ar, br⟩).set m ⟨y, (i : Int), dr⟩)) := ⟨by rw [hw]; exact hs.1⟩; have HW2 : Aside0 (Wr w w2 (fun k => k = gs)) := ⟨HW1.out.trans (by rw [hw]; exact hs.2)⟩; clear hs hw hh1 hm1 hf1))
 go_ret
 have e1 : (ns.set i ⟨x, ar, br⟩)[i]? = some ⟨x, ar, br⟩ := set_at HI.out
 have N1 := Nw.set ns i ⟨x, ar, br⟩
 have N2 := Nw.set (ns.set i ⟨x, ar, br⟩) m ⟨y, (i : Int), dr⟩
 have N : Nw ns ((ns.set i ⟨x, ar, br⟩).set m ⟨y, (i : Int), dr⟩) (fun k => k = i ∨ k = m) := (N1.wid_ (fun k e => .inl e)).trans (N2.wid_ (fun k e => .inr e))
 have T := HT.out
 have U := T.upL
 have fA := HA.out.far N (fun k hk e => e.elim (T.a k hk).2.1 (T.a k hk).2.2.1)
 have fB := HB.out.far N (fun k hk e => e.elim (T.b k hk).2.1 (T.b k hk).2.2.1)
 have fC := HC.out.far N (fun k hk e => e.elim (T.c k hk).2.1 (T.c k hk).2.2)
 have fi : ((ns.set i ⟨x, ar, br⟩).set m ⟨y, (i : Int), dr⟩)[i]? = some ⟨x, ar, br⟩ := (N2.keep i T.ne).trans e1
 refine ⟨_, rfl, _, HD2.out, ?_, N.wid_ (fun k e => e.elim (fun e => e ▸ T.sg) (fun e => e ▸ T.sm)), HW2.out⟩
 exact ⟨m, _, _, _, _, rfl, set_at HM1.out, U.1, ⟨i, _, _, _, _, rfl, fi, U.2, fA, fB⟩, fC⟩

set_option maxHeartbeats 4000000 in
set_option maxRecDepth 100000 in
theorem balNS (x : S35) (l r : Tr) (S A B : Nat → Prop) (i : Nat) (al ar : Int) (g gs n c : Nat) (top : Int) (ns : List S74) (w0 w : World) (hD : Wd w0 w g gs n c top ns) (hi : ns[i]? = some ⟨x, al, ar⟩) (hp : Part S i A B) (hl : RepF ns A al l) (hr : RepF ns B ar r) (hlen : (Tr.node x l r).sz ≤ 800) (h1 : ¬ (l.ht : Int) - r.ht = 2) (h2 : ¬ (l.ht : Int) - r.ht = -2) :
  Calls Tryz.prog 38 #[.pointer (some ⟨g, 0, none⟩), .int .i64 (i : Nat)] w fun e w' => ∃ (u : Int) (ns' : List S74), e = .returned (.int .i64 u) ∧ Wd w0 w' g gs n c top ns' ∧ RepF ns' S u (.node x l r) ∧ Nw ns ns' S ∧ Wr w w' (fun k => k = gs) := by
 have e1 : wrap64 ((l.ht : Int) - r.ht) = (l.ht : Int) - r.ht := by
  have := Tr.ht_le l
  have := Tr.ht_le r
  simp only [Tr.sz] at hlen
  unfold wrap64
  omega
 obtain ⟨d, hd⟩ : ∃ d, d = (l.ht : Int) - r.ht := ⟨_, rfl⟩
 have c1 : (d == 2) = false := beq_eq_false_iff_ne.2 (by rw [hd]; exact h1)
 have c2 : (d == -2) = false := beq_eq_false_iff_ne.2 (by rw [hd]; exact h2)
 have e1 : wrap64 ((l.ht : Int) - r.ht) = d := by rw [hd]; exact e1
 clear h1 h2 hd
 have HD := Aside0.mk hD
 have HI := Aside0.mk hi
 have HP := Aside0.mk hp
 have HL := Aside0.mk hl
 have HR := Aside0.mk hr
 have HLEN := Aside0.mk hlen
 have hlt : i < n := (hD.node hi).lt
 have hh := hD.head
 have hn3 := (hD.node hi).c3
 have hn4 := (hD.node hi).c4
 have TL : Aside0 (∀ w, Wd w0 w g gs n c top ns → Calls Tryz.prog 58 #[.pointer (some ⟨g, 0, none⟩), .int .i64 al] w fun e w' => e = .returned (.int .i64 (Tr.ht l : Nat)) ∧ ∃ q, w' = w.drewN q) := ⟨fun w h => wheight_calls l g ns top al w0 w h.isS hl.rep (by simp only [Tr.sz] at hlen ⊢; omega)⟩
 have TR : Aside0 (∀ w, Wd w0 w g gs n c top ns → Calls Tryz.prog 58 #[.pointer (some ⟨g, 0, none⟩), .int .i64 ar] w fun e w' => e = .returned (.int .i64 (Tr.ht r : Nat)) ∧ ∃ q, w' = w.drewN q) := ⟨fun w h => wheight_calls r g ns top ar w0 w h.isS hr.rep (by simp only [Tr.sz] at hlen ⊢; omega)⟩
 clear hD hi hp hl hr hlen
 go_enter Tryz.func38, Tryz.ntmps38
 generalize (l.ht : Int) = hl_ at e1 TL
 generalize (r.ht : Int) = hr_ at e1 TR
 go_wp2_with (first
  | (go_at_call_of 58 (Value.int .i64 al); (with_reducible refine (TL.out _ ?side0).mono ?_); (case side0 => exact HD.out); rintro e w1 ⟨rfl, q_, hq⟩; have HD1 : Aside0 (Wd w0 w1 g gs n c top ns) := ⟨by rw [hq]; exact HD.out.drewN q_⟩; have HW1 : Aside0 (Wr w w1 (fun k => k = gs)) := ⟨by rw [hq]; exact Wr.drewN _ _ _⟩; clear hq)
  | (go_at_call_of 58 (Value.int .i64 ar); (with_reducible refine (TR.out _ ?side0).mono ?_); (case side0 => exact HD1.out); rintro e w2 ⟨rfl, q_, hq⟩; have HD2 : Aside0 (Wd w0 w2 g gs n c top ns) := ⟨by rw [hq]; exact HD1.out.drewN q_⟩; have HW2 : Aside0 (Wr w w2 (fun k => k = gs)) := ⟨by rw [hq]; exact HW1.out.trans (Wr.drewN _ _ _)⟩; clear hq))
 go_ret
 first | exact ⟨_, rfl, _, HD2.out, ⟨i, A, B, al, ar, rfl, HI.out, HP.out, HL.out, HR.out⟩, Nw.refl _ _, HW2.out⟩ | exact ⟨_, _, rfl, HD2.out, ⟨i, A, B, al, ar, rfl, HI.out, HP.out, HL.out, HR.out⟩, Nw.refl _ _, HW2.out⟩

set_option maxHeartbeats 4000000 in
set_option maxRecDepth 100000 in
theorem balL1S (x y : S35) (a b r : Tr) (S A B : Nat → Prop) (i : Nat) (al ar : Int) (g gs n c : Nat) (top : Int) (ns : List S74) (w0 w : World) (hD : Wd w0 w g gs n c top ns) (hi : ns[i]? = some ⟨x, al, ar⟩) (hp : Part S i A B) (hl : RepF ns A al (.node y a b)) (hr : RepF ns B ar r) (hlen : (Tr.node x (.node y a b) r).sz ≤ 800) (h1 : wrap64 (((Tr.ht (.node y a b) : Nat) : Int) - (Tr.ht r : Nat)) = 2) (h2 : ¬ (Tr.ht a < Tr.ht b)) :
  Calls Tryz.prog 38 #[.pointer (some ⟨g, 0, none⟩), .int .i64 (i : Nat)] w fun e w' => ∃ (u : Int) (ns' : List S74), e = .returned (.int .i64 u) ∧ Wd w0 w' g gs n c top ns' ∧ RepF ns' S u (.node y a (.node x b r)) ∧ Nw ns ns' S ∧ Wr w w' (fun k => k = gs) := by
 have c2 : decide (Tr.ht a < Tr.ht b) = false := decide_eq_false h2
 clear h2
 obtain ⟨m, A1, B1, a1, b1, em, hm, hq, h3, h4⟩ := id hl
 subst em
 have HD := Aside0.mk hD
 have HI := Aside0.mk hi
 have HP := Aside0.mk hp
 have HL := Aside0.mk hl
 have HR := Aside0.mk hr
 have HLEN := Aside0.mk hlen
 have hlt : i < n := (hD.node hi).lt
 have hh := hD.head
 have hn3 := (hD.node hi).c3
 have hn4 := (hD.node hi).c4
 have TL : Aside0 (∀ w, Wd w0 w g gs n c top ns → Calls Tryz.prog 58 #[.pointer (some ⟨g, 0, none⟩), .int .i64 (m : Nat)] w fun e w' => e = .returned (.int .i64 (Tr.ht (.node y a b) : Nat)) ∧ ∃ q, w' = w.drewN q) := ⟨fun w h => wheight_calls (.node y a b) g ns top (m : Nat) w0 w h.isS hl.rep (by simp only [Tr.sz] at hlen ⊢; omega)⟩
 have TR : Aside0 (∀ w, Wd w0 w g gs n c top ns → Calls Tryz.prog 58 #[.pointer (some ⟨g, 0, none⟩), .int .i64 ar] w fun e w' => e = .returned (.int .i64 (Tr.ht r : Nat)) ∧ ∃ q, w' = w.drewN q) := ⟨fun w h => wheight_calls r g ns top ar w0 w h.isS hr.rep (by simp only [Tr.sz] at hlen ⊢; omega)⟩
 have TA : Aside0 (∀ w, Wd w0 w g gs n c top ns → Calls Tryz.prog 58 #[.pointer (some ⟨g, 0, none⟩), .int .i64 a1] w fun e w' => e = .returned (.int .i64 (Tr.ht a : Nat)) ∧ ∃ q, w' = w.drewN q) := ⟨fun w h => wheight_calls a g ns top a1 w0 w h.isS h3.rep (by simp only [Tr.sz] at hlen ⊢; omega)⟩
 have TB : Aside0 (∀ w, Wd w0 w g gs n c top ns → Calls Tryz.prog 58 #[.pointer (some ⟨g, 0, none⟩), .int .i64 b1] w fun e w' => e = .returned (.int .i64 (Tr.ht b : Nat)) ∧ ∃ q, w' = w.drewN q) := ⟨fun w h => wheight_calls b g ns top b1 w0 w h.isS h4.rep (by simp only [Tr.sz] at hlen ⊢; omega)⟩
 have HM := Aside0.mk hm
 have hlm : m < n := (hD.node hm).lt
 have E1 := h1
 clear h1
 clear hD hi hp hl hr hlen hq h3 h4 hm
 go_enter Tryz.func38, Tryz.ntmps38
 obtain ⟨dl, hdl⟩ : ∃ dl : Int, dl = (Tr.ht (.node y a b) : Nat) := ⟨_, rfl⟩
 obtain ⟨dr, hdr⟩ : ∃ dr : Int, dr = (Tr.ht r : Nat) := ⟨_, rfl⟩
 rw [← hdl, ← hdr] at E1
 rw [← hdl] at TL
 rw [← hdr] at TR
 clear hdl hdr
 go_wp2_with (first
  | (go_at_call_of 58 (Value.int .i64 (m : Nat)); (with_reducible refine (TL.out _ ?side0).mono ?_); (case side0 => exact HD.out); rintro e w1 ⟨rfl, q_, hq⟩; have HD1 : Aside0 (Wd w0 w1 g gs n c top ns) := ⟨by rw [hq]; exact HD.out.drewN q_⟩; have HW1 : Aside0 (Wr w w1 (fun k => k = gs)) := ⟨by rw [hq]; exact Wr.drewN _ _ _⟩; clear hq)
  | (go_at_call_of 58 (Value.int .i64 ar); (with_reducible refine (TR.out _ ?side0).mono ?_); (case side0 => exact HD1.out); rintro e w2 ⟨rfl, q_, hq⟩; have HD2 : Aside0 (Wd w0 w2 g gs n c top ns) := ⟨by rw [hq]; exact HD1.out.drewN q_⟩; have HW2 : Aside0 (Wr w w2 (fun k => k = gs)) := ⟨by rw [hq]; exact HW1.out.trans (Wr.drewN _ _ _)⟩; clear hq))
 have hh2 := HD2.out.head
 refine start_ (n := 21) (S := fun w' => Drawn0 w2 w') (ds := []) #[false, false, false, false, false, false, false, false, false, false, false, false, false, false, false, false, false, false, false, false, false] (by kernel_rfl) rfl rfl ⟨⟨1, rfl⟩⟩ (fun hHeld => ?_)
 refine qu_ 0 33 ?_
 refine qu_ 1 34 ?_
 refine qu_ 2 35 ?_
 refine qu_ 3 36 ?_
 refine qt_ 4 37 hHeld ?_ rfl rfl (by intro w' sb_; obtain ⟨⟨n_, rfl⟩⟩ := sb_; have s0_ : (w2.drewN n_).cell? ⟨g, 0, none⟩ = some (.slice (some ⟨gs, 0, none⟩) n c) := HD2.out.head; go_simp; with_reducible rfl)
 refine qu_ 5 38 ?_
 refine qu_ 6 39 ?_
 refine qu_ 7 40 ?_
 refine qt_ 8 41 hHeld ?_ rfl rfl (by intro w' sb_; obtain ⟨⟨n_, rfl⟩⟩ := sb_; have s0_ : (w2.drewN n_).cell? ⟨gs, m * 5 + 3, none⟩ = some (.int .i64 a1) := (HD2.out.node HM.out).c3; go_simp; with_reducible rfl)
 refine qu_ 10 43 ?_
 refine qu_ 11 44 ?_
 refine qu_ 12 45 ?_
 refine qu_ 13 46 ?_
 refine qt_ 14 47 hHeld ?_ rfl rfl (by intro w' sb_; obtain ⟨⟨n_, rfl⟩⟩ := sb_; have s0_ : (w2.drewN n_).cell? ⟨g, 0, none⟩ = some (.slice (some ⟨gs, 0, none⟩) n c) := HD2.out.head; go_simp; with_reducible rfl)
 refine qu_ 15 48 ?_
 refine qu_ 16 49 ?_
 refine qu_ 17 50 ?_
 refine qt_ 18 51 hHeld ?_ rfl rfl (by intro w' sb_; obtain ⟨⟨n_, rfl⟩⟩ := sb_; have s0_ : (w2.drewN n_).cell? ⟨gs, m * 5 + 4, none⟩ = some (.int .i64 b1) := (HD2.out.node HM.out).c4; go_simp; with_reducible rfl)
 refine qo_ 9 (some 42) (fun K hK => ?_)
 refine qc_ Tryz.func58 #[.pointer (some ⟨g, 0, none⟩), .int .i64 a1] ?_
 with_reducible refine (TA.out _ ?side0).mono ?_
 (case side0 => exact HD2.out.drewN 1)
 rintro e w3 ⟨rfl, q_, hq⟩
 refine ⟨_, rfl, ?_⟩
 have HD_w3 : Drawn0 w2 w3 := drew0_ ⟨⟨q_, hq⟩⟩
 clear hq
 refine hK.out _ _ HD_w3 (fun hHeld => ?_)
 clear hK K
 refine qm_ ?_
 refine qo_ 19 (some 52) (fun K hK => ?_)
 refine qc_ Tryz.func58 #[.pointer (some ⟨g, 0, none⟩), .int .i64 b1] ?_
 with_reducible refine (TB.out _ ?side0).mono ?_
 (case side0 => exact HD2.out.drawn HD_w3)
 rintro e w4 ⟨rfl, q_, hq⟩
 refine ⟨_, rfl, ?_⟩
 have HD_w4 : Drawn0 w2 w4 := trans0_ HD_w3 ⟨⟨q_, hq⟩⟩
 clear hq
 refine hK.out _ _ HD_w4 (fun hHeld => ?_)
 clear hK K
 refine qm_ ?_
 refine qu_ 20 53 ?_
 refine done_ (by kernel_rfl) ?_
 have HD4 := Aside0.mk (HD2.out.drawn HD_w4)
 have HW4 : Aside0 (Wr w w4 (fun k => k = gs)) := ⟨by obtain ⟨⟨q, rfl⟩⟩ := HD_w4; exact HW2.out.trans (Wr.drewN _ _ _)⟩
 clear hHeld HD_w3 HD_w4 hh2 hh hn3 hn4
 have HX6 : Aside0 (RepF ns S (i : Nat) (.node x (.node y a b) r)) := ⟨⟨i, A, B, _, _, rfl, HI.out, HP.out, HL.out, HR.out⟩⟩
 go_wp2_with (first
  | (go_at_call 59; (with_reducible refine (turnRS x y a b r S (i : Nat) g gs n c top ns w0 _ HD4.out HX6.out).mono ?_); rintro e w7 ⟨u7, ns7, rfl, hd7, hr7, hN, hw7⟩; have HD7 := Aside0.mk hd7; have HU7 := Aside0.mk hr7; have HN7 : Aside0 (Nw ns ns7 S) := ⟨hN⟩; have HW7 : Aside0 (Wr w w7 (fun k => k = gs)) := ⟨HW4.out.trans hw7⟩; clear hd7 hr7 hN hw7))
 go_ret
 first | exact ⟨_, rfl, _, HD7.out, HU7.out, HN7.out, HW7.out⟩ | exact ⟨_, _, rfl, HD7.out, HU7.out, HN7.out, HW7.out⟩

set_option maxHeartbeats 4000000 in
set_option maxRecDepth 100000 in
theorem balL2S (x y z : S35) (a b d r : Tr) (S A B : Nat → Prop) (i : Nat) (al ar : Int) (g gs n c : Nat) (top : Int) (ns : List S74) (w0 w : World) (hD : Wd w0 w g gs n c top ns) (hi : ns[i]? = some ⟨x, al, ar⟩) (hp : Part S i A B) (hl : RepF ns A al (.node y a (.node z b d))) (hr : RepF ns B ar r) (hlen : (Tr.node x (.node y a (.node z b d)) r).sz ≤ 800) (h1 : wrap64 (((Tr.ht (.node y a (.node z b d)) : Nat) : Int) - (Tr.ht r : Nat)) = 2) (h2 : (Tr.ht a < Tr.ht (.node z b d))) :
  Calls Tryz.prog 38 #[.pointer (some ⟨g, 0, none⟩), .int .i64 (i : Nat)] w fun e w' => ∃ (u : Int) (ns' : List S74), e = .returned (.int .i64 u) ∧ Wd w0 w' g gs n c top ns' ∧ RepF ns' S u (.node z (.node y a b) (.node x d r)) ∧ Nw ns ns' S ∧ Wr w w' (fun k => k = gs) := by
 have c2 : decide (Tr.ht a < Tr.ht (.node z b d)) = true := decide_eq_true h2
 clear h2
 obtain ⟨m, A1, B1, a1, b1, em, hm, hq, h3, h4⟩ := id hl
 subst em
 have HD := Aside0.mk hD
 have HI := Aside0.mk hi
 have HP := Aside0.mk hp
 have HL := Aside0.mk hl
 have HR := Aside0.mk hr
 have HLEN := Aside0.mk hlen
 have hlt : i < n := (hD.node hi).lt
 have hh := hD.head
 have hn3 := (hD.node hi).c3
 have hn4 := (hD.node hi).c4
 have TL : Aside0 (∀ w, Wd w0 w g gs n c top ns → Calls Tryz.prog 58 #[.pointer (some ⟨g, 0, none⟩), .int .i64 (m : Nat)] w fun e w' => e = .returned (.int .i64 (Tr.ht (.node y a (.node z b d)) : Nat)) ∧ ∃ q, w' = w.drewN q) := ⟨fun w h => wheight_calls (.node y a (.node z b d)) g ns top (m : Nat) w0 w h.isS hl.rep (by simp only [Tr.sz] at hlen ⊢; omega)⟩
 have TR : Aside0 (∀ w, Wd w0 w g gs n c top ns → Calls Tryz.prog 58 #[.pointer (some ⟨g, 0, none⟩), .int .i64 ar] w fun e w' => e = .returned (.int .i64 (Tr.ht r : Nat)) ∧ ∃ q, w' = w.drewN q) := ⟨fun w h => wheight_calls r g ns top ar w0 w h.isS hr.rep (by simp only [Tr.sz] at hlen ⊢; omega)⟩
 have TA : Aside0 (∀ w, Wd w0 w g gs n c top ns → Calls Tryz.prog 58 #[.pointer (some ⟨g, 0, none⟩), .int .i64 a1] w fun e w' => e = .returned (.int .i64 (Tr.ht a : Nat)) ∧ ∃ q, w' = w.drewN q) := ⟨fun w h => wheight_calls a g ns top a1 w0 w h.isS h3.rep (by simp only [Tr.sz] at hlen ⊢; omega)⟩
 have TB : Aside0 (∀ w, Wd w0 w g gs n c top ns → Calls Tryz.prog 58 #[.pointer (some ⟨g, 0, none⟩), .int .i64 b1] w fun e w' => e = .returned (.int .i64 (Tr.ht (.node z b d) : Nat)) ∧ ∃ q, w' = w.drewN q) := ⟨fun w h => wheight_calls (.node z b d) g ns top b1 w0 w h.isS h4.rep (by simp only [Tr.sz] at hlen ⊢; omega)⟩
 have HM := Aside0.mk hm
 have hlm : m < n := (hD.node hm).lt
 have E1 := h1
 clear h1
 clear hD hi hp hl hr hlen hq h3 h4 hm
 go_enter Tryz.func38, Tryz.ntmps38
 obtain ⟨dl, hdl⟩ : ∃ dl : Int, dl = (Tr.ht (.node y a (.node z b d)) : Nat) := ⟨_, rfl⟩
 obtain ⟨dr, hdr⟩ : ∃ dr : Int, dr = (Tr.ht r : Nat) := ⟨_, rfl⟩
 rw [← hdl, ← hdr] at E1
 rw [← hdl] at TL
 rw [← hdr] at TR
 clear hdl hdr
 go_wp2_with (first
  | (go_at_call_of 58 (Value.int .i64 (m : Nat)); (with_reducible refine (TL.out _ ?side0).mono ?_); (case side0 => exact HD.out); rintro e w1 ⟨rfl, q_, hq⟩; have HD1 : Aside0 (Wd w0 w1 g gs n c top ns) := ⟨by rw [hq]; exact HD.out.drewN q_⟩; have HW1 : Aside0 (Wr w w1 (fun k => k = gs)) := ⟨by rw [hq]; exact Wr.drewN _ _ _⟩; clear hq)
  | (go_at_call_of 58 (Value.int .i64 ar); (with_reducible refine (TR.out _ ?side0).mono ?_); (case side0 => exact HD1.out); rintro e w2 ⟨rfl, q_, hq⟩; have HD2 : Aside0 (Wd w0 w2 g gs n c top ns) := ⟨by rw [hq]; exact HD1.out.drewN q_⟩; have HW2 : Aside0 (Wr w w2 (fun k => k = gs)) := ⟨by rw [hq]; exact HW1.out.trans (Wr.drewN _ _ _)⟩; clear hq))
 have hh2 := HD2.out.head
 refine start_ (n := 21) (S := fun w' => Drawn0 w2 w') (ds := []) #[false, false, false, false, false, false, false, false, false, false, false, false, false, false, false, false, false, false, false, false, false] (by kernel_rfl) rfl rfl ⟨⟨1, rfl⟩⟩ (fun hHeld => ?_)
 refine qu_ 0 33 ?_
 refine qu_ 1 34 ?_
 refine qu_ 2 35 ?_
 refine qu_ 3 36 ?_
 refine qt_ 4 37 hHeld ?_ rfl rfl (by intro w' sb_; obtain ⟨⟨n_, rfl⟩⟩ := sb_; have s0_ : (w2.drewN n_).cell? ⟨g, 0, none⟩ = some (.slice (some ⟨gs, 0, none⟩) n c) := HD2.out.head; go_simp; with_reducible rfl)
 refine qu_ 5 38 ?_
 refine qu_ 6 39 ?_
 refine qu_ 7 40 ?_
 refine qt_ 8 41 hHeld ?_ rfl rfl (by intro w' sb_; obtain ⟨⟨n_, rfl⟩⟩ := sb_; have s0_ : (w2.drewN n_).cell? ⟨gs, m * 5 + 3, none⟩ = some (.int .i64 a1) := (HD2.out.node HM.out).c3; go_simp; with_reducible rfl)
 refine qu_ 10 43 ?_
 refine qu_ 11 44 ?_
 refine qu_ 12 45 ?_
 refine qu_ 13 46 ?_
 refine qt_ 14 47 hHeld ?_ rfl rfl (by intro w' sb_; obtain ⟨⟨n_, rfl⟩⟩ := sb_; have s0_ : (w2.drewN n_).cell? ⟨g, 0, none⟩ = some (.slice (some ⟨gs, 0, none⟩) n c) := HD2.out.head; go_simp; with_reducible rfl)
 refine qu_ 15 48 ?_
 refine qu_ 16 49 ?_
 refine qu_ 17 50 ?_
 refine qt_ 18 51 hHeld ?_ rfl rfl (by intro w' sb_; obtain ⟨⟨n_, rfl⟩⟩ := sb_; have s0_ : (w2.drewN n_).cell? ⟨gs, m * 5 + 4, none⟩ = some (.int .i64 b1) := (HD2.out.node HM.out).c4; go_simp; with_reducible rfl)
 refine qo_ 9 (some 42) (fun K hK => ?_)
 refine qc_ Tryz.func58 #[.pointer (some ⟨g, 0, none⟩), .int .i64 a1] ?_
 with_reducible refine (TA.out _ ?side0).mono ?_
 (case side0 => exact HD2.out.drewN 1)
 rintro e w3 ⟨rfl, q_, hq⟩
 refine ⟨_, rfl, ?_⟩
 have HD_w3 : Drawn0 w2 w3 := drew0_ ⟨⟨q_, hq⟩⟩
 clear hq
 refine hK.out _ _ HD_w3 (fun hHeld => ?_)
 clear hK K
 refine qm_ ?_
 refine qo_ 19 (some 52) (fun K hK => ?_)
 refine qc_ Tryz.func58 #[.pointer (some ⟨g, 0, none⟩), .int .i64 b1] ?_
 with_reducible refine (TB.out _ ?side0).mono ?_
 (case side0 => exact HD2.out.drawn HD_w3)
 rintro e w4 ⟨rfl, q_, hq⟩
 refine ⟨_, rfl, ?_⟩
 have HD_w4 : Drawn0 w2 w4 := trans0_ HD_w3 ⟨⟨q_, hq⟩⟩
 clear hq
 refine hK.out _ _ HD_w4 (fun hHeld => ?_)
 clear hK K
 refine qm_ ?_
 refine qu_ 20 53 ?_
 refine done_ (by kernel_rfl) ?_
 have HD4 := Aside0.mk (HD2.out.drawn HD_w4)
 have HW4 : Aside0 (Wr w w4 (fun k => k = gs)) := ⟨by obtain ⟨⟨q, rfl⟩⟩ := HD_w4; exact HW2.out.trans (Wr.drewN _ _ _)⟩
 clear hHeld HD_w3 HD_w4 hh2 hh hn3 hn4
 go_wp2
 refine start_ (n := 11) (S := fun w' => w'.cell? ⟨g, 0, none⟩ = some (.slice (some ⟨gs, 0, none⟩) n c)) (ds := [10]) #[false, false, false, false, false, false, false, false, false, false, false] (by kernel_rfl) rfl rfl (HD4.out.drewN 1).head (fun hHeld => ?_)
 refine qu_ 0 54 ?_
 refine qu_ 1 55 ?_
 refine qu_ 2 56 ?_
 refine qt_ 3 57 hHeld ?_ rfl rfl (by intro w' sb_; have s0_ : w'.cell? ⟨g, 0, none⟩ = some (.slice (some ⟨gs, 0, none⟩) n c) := sb_; go_simp; with_reducible rfl)
 refine qu_ 4 58 ?_
 refine qu_ 5 59 ?_
 refine qu_ 6 60 ?_
 refine qo_ 7 (some 61) (fun K hK => ?_)
 refine qc_ Tryz.func59 #[.pointer (some ⟨g, 0, none⟩), .int .i64 (m : Nat), .bool false] ?_
 have HD_ : Aside0 (Wd w0 w4.drew g gs n c top ns) := ⟨HD4.out.drewN 1⟩
 with_reducible refine (turnLS y z a b d A (m : Nat) g gs n c top ns w0 _ HD_.out HL.out).mono ?_
 rintro e w5 ⟨u, ns1, rfl, hd5, hr5, hN, hw5⟩
 refine ⟨_, rfl, ?_⟩
 clear hHeld HD_
 have HD5 := Aside0.mk hd5
 have HU5 := Aside0.mk hr5
 have HN5 := Aside0.mk hN
 have HW5 : Aside0 (Wr w w5 (fun k => k = gs)) := ⟨(HW4.out.trans (Wr.drewN w4 1 _)).trans hw5⟩
 have HI5 : Aside0 (ns1[i]? = some ⟨x, (m : Nat), ar⟩) := ⟨(hN.keep i HP.out.gl).trans HI.out⟩
 have HK5 := Aside0.mk (HR.out.far hN (fun k hk e => HP.out.dj k e hk))
 clear hd5 hr5 hN hw5
 refine hK.out _ _ HD5.out.head (fun hHeld => ?_)
 clear hK K
 refine qm_ ?_
 refine qu_ 8 62 ?_
 refine qu_ 9 63 ?_
 refine ql_ 10 none (fun K hK => ?_)
 have hc : w5.cell? ⟨gs, i * 5 + 3, none⟩ = some (.int .i64 (m : Int)) := (HD5.out.node HI5.out).c3
 have hf : w5.frozen? ⟨gs, i * 5 + 3, none⟩ = false := (HD5.out.node HI5.out).f3
 refine skip_ (w1 := w5.setCell ⟨gs, i * 5 + 3, none⟩ (.int .i64 u)) (by rfl) rfl ?_ ?_
 ·
  go_simp
 refine hK.out _ _ ?_
 clear hK K
 refine done_ (by kernel_rfl) ?_
 have hs := HD5.out.setL HI5.out u
 have HD6 := Aside0.mk hs.1
 have HW6 : Aside0 (Wr w (w5.setCell ⟨gs, i * 5 + 3, none⟩ (.int .i64 u)) (fun k => k = gs)) := ⟨HW5.out.trans hs.2⟩
 clear hc hf hs
 generalize w5.setCell ⟨gs, i * 5 + 3, none⟩ (.int .i64 u) = w6 at HD6 HW6 ⊢
 have HN6 := Aside0.mk (Nw.set ns1 i ⟨x, u, ar⟩)
 have HU6 := Aside0.mk (HU5.out.far HN6.out (fun k hk e => HP.out.gl (e ▸ hk)))
 have HK6 := Aside0.mk (HK5.out.far HN6.out (fun k hk e => HP.out.gr (e ▸ hk)))
 have HX6 : Aside0 (RepF (ns1.set i ⟨x, u, ar⟩) S (i : Nat) (.node x (.node z (.node y a b) d) r)) := ⟨⟨i, A, B, _, _, rfl, set_at HI5.out, HP.out, HU6.out, HK6.out⟩⟩
 have HNN : Aside0 (Nw ns (ns1.set i ⟨x, u, ar⟩) S) := ⟨(HN5.out.wid_ HP.out.l).trans (HN6.out.wid_ (fun k e => e ▸ HP.out.root))⟩
 clear HN5 HN6 HU5 HK5 HU6 HK6
 go_wp2_with (first
  | (go_at_call 59; (with_reducible refine (turnRS x z (.node y a b) d r S (i : Nat) g gs n c top (ns1.set i ⟨x, u, ar⟩) w0 _ HD6.out HX6.out).mono ?_); rintro e w7 ⟨u7, ns7, rfl, hd7, hr7, hN, hw7⟩; have HD7 := Aside0.mk hd7; have HU7 := Aside0.mk hr7; have HN7 : Aside0 (Nw ns ns7 S) := ⟨HNN.out.trans hN⟩; have HW7 : Aside0 (Wr w w7 (fun k => k = gs)) := ⟨HW6.out.trans hw7⟩; clear hd7 hr7 hN hw7))
 go_ret
 first | exact ⟨_, rfl, _, HD7.out, HU7.out, HN7.out, HW7.out⟩ | exact ⟨_, _, rfl, HD7.out, HU7.out, HN7.out, HW7.out⟩

set_option maxHeartbeats 4000000 in
set_option maxRecDepth 100000 in
theorem balR1S (x y : S35) (l a b : Tr) (S A B : Nat → Prop) (i : Nat) (al ar : Int) (g gs n c : Nat) (top : Int) (ns : List S74) (w0 w : World) (hD : Wd w0 w g gs n c top ns) (hi : ns[i]? = some ⟨x, al, ar⟩) (hp : Part S i A B) (hl : RepF ns A al l) (hr : RepF ns B ar (.node y a b)) (hlen : (Tr.node x l (.node y a b)).sz ≤ 800) (h1 : wrap64 (((Tr.ht l : Nat) : Int) - (Tr.ht (.node y a b) : Nat)) = -2) (h2 : ¬ (Tr.ht b < Tr.ht a)) :
  Calls Tryz.prog 38 #[.pointer (some ⟨g, 0, none⟩), .int .i64 (i : Nat)] w fun e w' => ∃ (u : Int) (ns' : List S74), e = .returned (.int .i64 u) ∧ Wd w0 w' g gs n c top ns' ∧ RepF ns' S u (.node y (.node x l a) b) ∧ Nw ns ns' S ∧ Wr w w' (fun k => k = gs) := by
 have c2 : decide (Tr.ht b < Tr.ht a) = false := decide_eq_false h2
 clear h2
 obtain ⟨m, A1, B1, a1, b1, em, hm, hq, h3, h4⟩ := id hr
 subst em
 have HD := Aside0.mk hD
 have HI := Aside0.mk hi
 have HP := Aside0.mk hp
 have HL := Aside0.mk hl
 have HR := Aside0.mk hr
 have HLEN := Aside0.mk hlen
 have hlt : i < n := (hD.node hi).lt
 have hh := hD.head
 have hn3 := (hD.node hi).c3
 have hn4 := (hD.node hi).c4
 have TL : Aside0 (∀ w, Wd w0 w g gs n c top ns → Calls Tryz.prog 58 #[.pointer (some ⟨g, 0, none⟩), .int .i64 al] w fun e w' => e = .returned (.int .i64 (Tr.ht l : Nat)) ∧ ∃ q, w' = w.drewN q) := ⟨fun w h => wheight_calls l g ns top al w0 w h.isS hl.rep (by simp only [Tr.sz] at hlen ⊢; omega)⟩
 have TR : Aside0 (∀ w, Wd w0 w g gs n c top ns → Calls Tryz.prog 58 #[.pointer (some ⟨g, 0, none⟩), .int .i64 (m : Nat)] w fun e w' => e = .returned (.int .i64 (Tr.ht (.node y a b) : Nat)) ∧ ∃ q, w' = w.drewN q) := ⟨fun w h => wheight_calls (.node y a b) g ns top (m : Nat) w0 w h.isS hr.rep (by simp only [Tr.sz] at hlen ⊢; omega)⟩
 have TA : Aside0 (∀ w, Wd w0 w g gs n c top ns → Calls Tryz.prog 58 #[.pointer (some ⟨g, 0, none⟩), .int .i64 a1] w fun e w' => e = .returned (.int .i64 (Tr.ht a : Nat)) ∧ ∃ q, w' = w.drewN q) := ⟨fun w h => wheight_calls a g ns top a1 w0 w h.isS h3.rep (by simp only [Tr.sz] at hlen ⊢; omega)⟩
 have TB : Aside0 (∀ w, Wd w0 w g gs n c top ns → Calls Tryz.prog 58 #[.pointer (some ⟨g, 0, none⟩), .int .i64 b1] w fun e w' => e = .returned (.int .i64 (Tr.ht b : Nat)) ∧ ∃ q, w' = w.drewN q) := ⟨fun w h => wheight_calls b g ns top b1 w0 w h.isS h4.rep (by simp only [Tr.sz] at hlen ⊢; omega)⟩
 have HM := Aside0.mk hm
 have hlm : m < n := (hD.node hm).lt
 have E1 := h1
 clear h1
 clear hD hi hp hl hr hlen hq h3 h4 hm
 go_enter Tryz.func38, Tryz.ntmps38
 obtain ⟨dl, hdl⟩ : ∃ dl : Int, dl = (Tr.ht l : Nat) := ⟨_, rfl⟩
 obtain ⟨dr, hdr⟩ : ∃ dr : Int, dr = (Tr.ht (.node y a b) : Nat) := ⟨_, rfl⟩
 rw [← hdl, ← hdr] at E1
 rw [← hdl] at TL
 rw [← hdr] at TR
 clear hdl hdr
 go_wp2_with (first
  | (go_at_call_of 58 (Value.int .i64 al); (with_reducible refine (TL.out _ ?side0).mono ?_); (case side0 => exact HD.out); rintro e w1 ⟨rfl, q_, hq⟩; have HD1 : Aside0 (Wd w0 w1 g gs n c top ns) := ⟨by rw [hq]; exact HD.out.drewN q_⟩; have HW1 : Aside0 (Wr w w1 (fun k => k = gs)) := ⟨by rw [hq]; exact Wr.drewN _ _ _⟩; clear hq)
  | (go_at_call_of 58 (Value.int .i64 (m : Nat)); (with_reducible refine (TR.out _ ?side0).mono ?_); (case side0 => exact HD1.out); rintro e w2 ⟨rfl, q_, hq⟩; have HD2 : Aside0 (Wd w0 w2 g gs n c top ns) := ⟨by rw [hq]; exact HD1.out.drewN q_⟩; have HW2 : Aside0 (Wr w w2 (fun k => k = gs)) := ⟨by rw [hq]; exact HW1.out.trans (Wr.drewN _ _ _)⟩; clear hq))
 have hh2 := HD2.out.head
 refine start_ (n := 21) (S := fun w' => Drawn0 w2 w') (ds := []) #[false, false, false, false, false, false, false, false, false, false, false, false, false, false, false, false, false, false, false, false, false] (by kernel_rfl) rfl rfl ⟨⟨1, rfl⟩⟩ (fun hHeld => ?_)
 refine qu_ 0 69 ?_
 refine qu_ 1 70 ?_
 refine qu_ 2 71 ?_
 refine qu_ 3 72 ?_
 refine qt_ 4 73 hHeld ?_ rfl rfl (by intro w' sb_; obtain ⟨⟨n_, rfl⟩⟩ := sb_; have s0_ : (w2.drewN n_).cell? ⟨g, 0, none⟩ = some (.slice (some ⟨gs, 0, none⟩) n c) := HD2.out.head; go_simp; with_reducible rfl)
 refine qu_ 5 74 ?_
 refine qu_ 6 75 ?_
 refine qu_ 7 76 ?_
 refine qt_ 8 77 hHeld ?_ rfl rfl (by intro w' sb_; obtain ⟨⟨n_, rfl⟩⟩ := sb_; have s0_ : (w2.drewN n_).cell? ⟨gs, m * 5 + 4, none⟩ = some (.int .i64 b1) := (HD2.out.node HM.out).c4; go_simp; with_reducible rfl)
 refine qu_ 10 79 ?_
 refine qu_ 11 80 ?_
 refine qu_ 12 81 ?_
 refine qu_ 13 82 ?_
 refine qt_ 14 83 hHeld ?_ rfl rfl (by intro w' sb_; obtain ⟨⟨n_, rfl⟩⟩ := sb_; have s0_ : (w2.drewN n_).cell? ⟨g, 0, none⟩ = some (.slice (some ⟨gs, 0, none⟩) n c) := HD2.out.head; go_simp; with_reducible rfl)
 refine qu_ 15 84 ?_
 refine qu_ 16 85 ?_
 refine qu_ 17 86 ?_
 refine qt_ 18 87 hHeld ?_ rfl rfl (by intro w' sb_; obtain ⟨⟨n_, rfl⟩⟩ := sb_; have s0_ : (w2.drewN n_).cell? ⟨gs, m * 5 + 3, none⟩ = some (.int .i64 a1) := (HD2.out.node HM.out).c3; go_simp; with_reducible rfl)
 refine qo_ 9 (some 78) (fun K hK => ?_)
 refine qc_ Tryz.func58 #[.pointer (some ⟨g, 0, none⟩), .int .i64 b1] ?_
 with_reducible refine (TB.out _ ?side0).mono ?_
 (case side0 => exact HD2.out.drewN 1)
 rintro e w3 ⟨rfl, q_, hq⟩
 refine ⟨_, rfl, ?_⟩
 have HD_w3 : Drawn0 w2 w3 := drew0_ ⟨⟨q_, hq⟩⟩
 clear hq
 refine hK.out _ _ HD_w3 (fun hHeld => ?_)
 clear hK K
 refine qm_ ?_
 refine qo_ 19 (some 88) (fun K hK => ?_)
 refine qc_ Tryz.func58 #[.pointer (some ⟨g, 0, none⟩), .int .i64 a1] ?_
 with_reducible refine (TA.out _ ?side0).mono ?_
 (case side0 => exact HD2.out.drawn HD_w3)
 rintro e w4 ⟨rfl, q_, hq⟩
 refine ⟨_, rfl, ?_⟩
 have HD_w4 : Drawn0 w2 w4 := trans0_ HD_w3 ⟨⟨q_, hq⟩⟩
 clear hq
 refine hK.out _ _ HD_w4 (fun hHeld => ?_)
 clear hK K
 refine qm_ ?_
 refine qu_ 20 89 ?_
 refine done_ (by kernel_rfl) ?_
 have HD4 := Aside0.mk (HD2.out.drawn HD_w4)
 have HW4 : Aside0 (Wr w w4 (fun k => k = gs)) := ⟨by obtain ⟨⟨q, rfl⟩⟩ := HD_w4; exact HW2.out.trans (Wr.drewN _ _ _)⟩
 clear hHeld HD_w3 HD_w4 hh2 hh hn3 hn4
 have HX6 : Aside0 (RepF ns S (i : Nat) (.node x l (.node y a b))) := ⟨⟨i, A, B, _, _, rfl, HI.out, HP.out, HL.out, HR.out⟩⟩
 go_wp2_with (first
  | (go_at_call 59; (with_reducible refine (turnLS x y l a b S (i : Nat) g gs n c top ns w0 _ HD4.out HX6.out).mono ?_); rintro e w7 ⟨u7, ns7, rfl, hd7, hr7, hN, hw7⟩; have HD7 := Aside0.mk hd7; have HU7 := Aside0.mk hr7; have HN7 : Aside0 (Nw ns ns7 S) := ⟨hN⟩; have HW7 : Aside0 (Wr w w7 (fun k => k = gs)) := ⟨HW4.out.trans hw7⟩; clear hd7 hr7 hN hw7))
 go_ret
 first | exact ⟨_, rfl, _, HD7.out, HU7.out, HN7.out, HW7.out⟩ | exact ⟨_, _, rfl, HD7.out, HU7.out, HN7.out, HW7.out⟩

set_option maxHeartbeats 4000000 in
set_option maxRecDepth 100000 in
theorem balR2S (x y z : S35) (l a b d : Tr) (S A B : Nat → Prop) (i : Nat) (al ar : Int) (g gs n c : Nat) (top : Int) (ns : List S74) (w0 w : World) (hD : Wd w0 w g gs n c top ns) (hi : ns[i]? = some ⟨x, al, ar⟩) (hp : Part S i A B) (hl : RepF ns A al l) (hr : RepF ns B ar (.node y (.node z a d) b)) (hlen : (Tr.node x l (.node y (.node z a d) b)).sz ≤ 800) (h1 : wrap64 (((Tr.ht l : Nat) : Int) - (Tr.ht (.node y (.node z a d) b) : Nat)) = -2) (h2 : (Tr.ht b < Tr.ht (.node z a d))) :
  Calls Tryz.prog 38 #[.pointer (some ⟨g, 0, none⟩), .int .i64 (i : Nat)] w fun e w' => ∃ (u : Int) (ns' : List S74), e = .returned (.int .i64 u) ∧ Wd w0 w' g gs n c top ns' ∧ RepF ns' S u (.node z (.node x l a) (.node y d b)) ∧ Nw ns ns' S ∧ Wr w w' (fun k => k = gs) := by
 have c2 : decide (Tr.ht b < Tr.ht (.node z a d)) = true := decide_eq_true h2
 clear h2
 obtain ⟨m, A1, B1, a1, b1, em, hm, hq, h3, h4⟩ := id hr
 subst em
 have HD := Aside0.mk hD
 have HI := Aside0.mk hi
 have HP := Aside0.mk hp
 have HL := Aside0.mk hl
 have HR := Aside0.mk hr
 have HLEN := Aside0.mk hlen
 have hlt : i < n := (hD.node hi).lt
 have hh := hD.head
 have hn3 := (hD.node hi).c3
 have hn4 := (hD.node hi).c4
 have TL : Aside0 (∀ w, Wd w0 w g gs n c top ns → Calls Tryz.prog 58 #[.pointer (some ⟨g, 0, none⟩), .int .i64 al] w fun e w' => e = .returned (.int .i64 (Tr.ht l : Nat)) ∧ ∃ q, w' = w.drewN q) := ⟨fun w h => wheight_calls l g ns top al w0 w h.isS hl.rep (by simp only [Tr.sz] at hlen ⊢; omega)⟩
 have TR : Aside0 (∀ w, Wd w0 w g gs n c top ns → Calls Tryz.prog 58 #[.pointer (some ⟨g, 0, none⟩), .int .i64 (m : Nat)] w fun e w' => e = .returned (.int .i64 (Tr.ht (.node y (.node z a d) b) : Nat)) ∧ ∃ q, w' = w.drewN q) := ⟨fun w h => wheight_calls (.node y (.node z a d) b) g ns top (m : Nat) w0 w h.isS hr.rep (by simp only [Tr.sz] at hlen ⊢; omega)⟩
 have TA : Aside0 (∀ w, Wd w0 w g gs n c top ns → Calls Tryz.prog 58 #[.pointer (some ⟨g, 0, none⟩), .int .i64 a1] w fun e w' => e = .returned (.int .i64 (Tr.ht (.node z a d) : Nat)) ∧ ∃ q, w' = w.drewN q) := ⟨fun w h => wheight_calls (.node z a d) g ns top a1 w0 w h.isS h3.rep (by simp only [Tr.sz] at hlen ⊢; omega)⟩
 have TB : Aside0 (∀ w, Wd w0 w g gs n c top ns → Calls Tryz.prog 58 #[.pointer (some ⟨g, 0, none⟩), .int .i64 b1] w fun e w' => e = .returned (.int .i64 (Tr.ht b : Nat)) ∧ ∃ q, w' = w.drewN q) := ⟨fun w h => wheight_calls b g ns top b1 w0 w h.isS h4.rep (by simp only [Tr.sz] at hlen ⊢; omega)⟩
 have HM := Aside0.mk hm
 have hlm : m < n := (hD.node hm).lt
 have E1 := h1
 clear h1
 clear hD hi hp hl hr hlen hq h3 h4 hm
 go_enter Tryz.func38, Tryz.ntmps38
 obtain ⟨dl, hdl⟩ : ∃ dl : Int, dl = (Tr.ht l : Nat) := ⟨_, rfl⟩
 obtain ⟨dr, hdr⟩ : ∃ dr : Int, dr = (Tr.ht (.node y (.node z a d) b) : Nat) := ⟨_, rfl⟩
 rw [← hdl, ← hdr] at E1
 rw [← hdl] at TL
 rw [← hdr] at TR
 clear hdl hdr
 go_wp2_with (first
  | (go_at_call_of 58 (Value.int .i64 al); (with_reducible refine (TL.out _ ?side0).mono ?_); (case side0 => exact HD.out); rintro e w1 ⟨rfl, q_, hq⟩; have HD1 : Aside0 (Wd w0 w1 g gs n c top ns) := ⟨by rw [hq]; exact HD.out.drewN q_⟩; have HW1 : Aside0 (Wr w w1 (fun k => k = gs)) := ⟨by rw [hq]; exact Wr.drewN _ _ _⟩; clear hq)
  | (go_at_call_of 58 (Value.int .i64 (m : Nat)); (with_reducible refine (TR.out _ ?side0).mono ?_); (case side0 => exact HD1.out); rintro e w2 ⟨rfl, q_, hq⟩; have HD2 : Aside0 (Wd w0 w2 g gs n c top ns) := ⟨by rw [hq]; exact HD1.out.drewN q_⟩; have HW2 : Aside0 (Wr w w2 (fun k => k = gs)) := ⟨by rw [hq]; exact HW1.out.trans (Wr.drewN _ _ _)⟩; clear hq))
 have hh2 := HD2.out.head
 refine start_ (n := 21) (S := fun w' => Drawn0 w2 w') (ds := []) #[false, false, false, false, false, false, false, false, false, false, false, false, false, false, false, false, false, false, false, false, false] (by kernel_rfl) rfl rfl ⟨⟨1, rfl⟩⟩ (fun hHeld => ?_)
 refine qu_ 0 69 ?_
 refine qu_ 1 70 ?_
 refine qu_ 2 71 ?_
 refine qu_ 3 72 ?_
 refine qt_ 4 73 hHeld ?_ rfl rfl (by intro w' sb_; obtain ⟨⟨n_, rfl⟩⟩ := sb_; have s0_ : (w2.drewN n_).cell? ⟨g, 0, none⟩ = some (.slice (some ⟨gs, 0, none⟩) n c) := HD2.out.head; go_simp; with_reducible rfl)
 refine qu_ 5 74 ?_
 refine qu_ 6 75 ?_
 refine qu_ 7 76 ?_
 refine qt_ 8 77 hHeld ?_ rfl rfl (by intro w' sb_; obtain ⟨⟨n_, rfl⟩⟩ := sb_; have s0_ : (w2.drewN n_).cell? ⟨gs, m * 5 + 4, none⟩ = some (.int .i64 b1) := (HD2.out.node HM.out).c4; go_simp; with_reducible rfl)
 refine qu_ 10 79 ?_
 refine qu_ 11 80 ?_
 refine qu_ 12 81 ?_
 refine qu_ 13 82 ?_
 refine qt_ 14 83 hHeld ?_ rfl rfl (by intro w' sb_; obtain ⟨⟨n_, rfl⟩⟩ := sb_; have s0_ : (w2.drewN n_).cell? ⟨g, 0, none⟩ = some (.slice (some ⟨gs, 0, none⟩) n c) := HD2.out.head; go_simp; with_reducible rfl)
 refine qu_ 15 84 ?_
 refine qu_ 16 85 ?_
 refine qu_ 17 86 ?_
 refine qt_ 18 87 hHeld ?_ rfl rfl (by intro w' sb_; obtain ⟨⟨n_, rfl⟩⟩ := sb_; have s0_ : (w2.drewN n_).cell? ⟨gs, m * 5 + 3, none⟩ = some (.int .i64 a1) := (HD2.out.node HM.out).c3; go_simp; with_reducible rfl)
 refine qo_ 9 (some 78) (fun K hK => ?_)
 refine qc_ Tryz.func58 #[.pointer (some ⟨g, 0, none⟩), .int .i64 b1] ?_
 with_reducible refine (TB.out _ ?side0).mono ?_
 (case side0 => exact HD2.out.drewN 1)
 rintro e w3 ⟨rfl, q_, hq⟩
 refine ⟨_, rfl, ?_⟩
 have HD_w3 : Drawn0 w2 w3 := drew0_ ⟨⟨q_, hq⟩⟩
 clear hq
 refine hK.out _ _ HD_w3 (fun hHeld => ?_)
 clear hK K
 refine qm_ ?_
 refine qo_ 19 (some 88) (fun K hK => ?_)
 refine qc_ Tryz.func58 #[.pointer (some ⟨g, 0, none⟩), .int .i64 a1] ?_
 with_reducible refine (TA.out _ ?side0).mono ?_
 (case side0 => exact HD2.out.drawn HD_w3)
 rintro e w4 ⟨rfl, q_, hq⟩
 refine ⟨_, rfl, ?_⟩
 have HD_w4 : Drawn0 w2 w4 := trans0_ HD_w3 ⟨⟨q_, hq⟩⟩
 clear hq
 refine hK.out _ _ HD_w4 (fun hHeld => ?_)
 clear hK K
 refine qm_ ?_
 refine qu_ 20 89 ?_
 refine done_ (by kernel_rfl) ?_
 have HD4 := Aside0.mk (HD2.out.drawn HD_w4)
 have HW4 : Aside0 (Wr w w4 (fun k => k = gs)) := ⟨by obtain ⟨⟨q, rfl⟩⟩ := HD_w4; exact HW2.out.trans (Wr.drewN _ _ _)⟩
 clear hHeld HD_w3 HD_w4 hh2 hh hn3 hn4
 go_wp2
 refine start_ (n := 11) (S := fun w' => w'.cell? ⟨g, 0, none⟩ = some (.slice (some ⟨gs, 0, none⟩) n c)) (ds := [10]) #[false, false, false, false, false, false, false, false, false, false, false] (by kernel_rfl) rfl rfl (HD4.out.drewN 1).head (fun hHeld => ?_)
 refine qu_ 0 90 ?_
 refine qu_ 1 91 ?_
 refine qu_ 2 92 ?_
 refine qt_ 3 93 hHeld ?_ rfl rfl (by intro w' sb_; have s0_ : w'.cell? ⟨g, 0, none⟩ = some (.slice (some ⟨gs, 0, none⟩) n c) := sb_; go_simp; with_reducible rfl)
 refine qu_ 4 94 ?_
 refine qu_ 5 95 ?_
 refine qu_ 6 96 ?_
 refine qo_ 7 (some 97) (fun K hK => ?_)
 refine qc_ Tryz.func59 #[.pointer (some ⟨g, 0, none⟩), .int .i64 (m : Nat), .bool true] ?_
 have HD_ : Aside0 (Wd w0 w4.drew g gs n c top ns) := ⟨HD4.out.drewN 1⟩
 with_reducible refine (turnRS y z a d b B (m : Nat) g gs n c top ns w0 _ HD_.out HR.out).mono ?_
 rintro e w5 ⟨u, ns1, rfl, hd5, hr5, hN, hw5⟩
 refine ⟨_, rfl, ?_⟩
 clear hHeld HD_
 have HD5 := Aside0.mk hd5
 have HU5 := Aside0.mk hr5
 have HN5 := Aside0.mk hN
 have HW5 : Aside0 (Wr w w5 (fun k => k = gs)) := ⟨(HW4.out.trans (Wr.drewN w4 1 _)).trans hw5⟩
 have HI5 : Aside0 (ns1[i]? = some ⟨x, al, (m : Nat)⟩) := ⟨(hN.keep i HP.out.gr).trans HI.out⟩
 have HK5 := Aside0.mk (HL.out.far hN (fun k hk e => HP.out.dj k hk e))
 clear hd5 hr5 hN hw5
 refine hK.out _ _ HD5.out.head (fun hHeld => ?_)
 clear hK K
 refine qm_ ?_
 refine qu_ 8 98 ?_
 refine qu_ 9 99 ?_
 refine ql_ 10 none (fun K hK => ?_)
 have hc : w5.cell? ⟨gs, i * 5 + 4, none⟩ = some (.int .i64 (m : Int)) := (HD5.out.node HI5.out).c4
 have hf : w5.frozen? ⟨gs, i * 5 + 4, none⟩ = false := (HD5.out.node HI5.out).f4
 refine skip_ (w1 := w5.setCell ⟨gs, i * 5 + 4, none⟩ (.int .i64 u)) (by rfl) rfl ?_ ?_
 ·
  go_simp
 refine hK.out _ _ ?_
 clear hK K
 refine done_ (by kernel_rfl) ?_
 have hs := HD5.out.setR HI5.out u
 have HD6 := Aside0.mk hs.1
 have HW6 : Aside0 (Wr w (w5.setCell ⟨gs, i * 5 + 4, none⟩ (.int .i64 u)) (fun k => k = gs)) := ⟨HW5.out.trans hs.2⟩
 clear hc hf hs
 generalize w5.setCell ⟨gs, i * 5 + 4, none⟩ (.int .i64 u) = w6 at HD6 HW6 ⊢
 have HN6 := Aside0.mk (Nw.set ns1 i ⟨x, al, u⟩)
 have HU6 := Aside0.mk (HU5.out.far HN6.out (fun k hk e => HP.out.gr (e ▸ hk)))
 have HK6 := Aside0.mk (HK5.out.far HN6.out (fun k hk e => HP.out.gl (e ▸ hk)))
 have HX6 : Aside0 (RepF (ns1.set i ⟨x, al, u⟩) S (i : Nat) (.node x l (.node z a (.node y d b)))) := ⟨⟨i, A, B, _, _, rfl, set_at HI5.out, HP.out, HK6.out, HU6.out⟩⟩
 have HNN : Aside0 (Nw ns (ns1.set i ⟨x, al, u⟩) S) := ⟨(HN5.out.wid_ HP.out.r).trans (HN6.out.wid_ (fun k e => e ▸ HP.out.root))⟩
 clear HN5 HN6 HU5 HK5 HU6 HK6
 go_wp2_with (first
  | (go_at_call 59; (with_reducible refine (turnLS x z l a (.node y d b) S (i : Nat) g gs n c top (ns1.set i ⟨x, al, u⟩) w0 _ HD6.out HX6.out).mono ?_); rintro e w7 ⟨u7, ns7, rfl, hd7, hr7, hN, hw7⟩; have HD7 := Aside0.mk hd7; have HU7 := Aside0.mk hr7; have HN7 : Aside0 (Nw ns ns7 S) := ⟨HNN.out.trans hN⟩; have HW7 : Aside0 (Wr w w7 (fun k => k = gs)) := ⟨HW6.out.trans hw7⟩; clear hd7 hr7 hN hw7))
 go_ret
 first | exact ⟨_, rfl, _, HD7.out, HU7.out, HN7.out, HW7.out⟩ | exact ⟨_, _, rfl, HD7.out, HU7.out, HN7.out, HW7.out⟩

theorem balanceS (x : S35) (l r : Tr) (S : Nat → Prop) (ia : Int) (g gs n c : Nat) (top : Int) (ns : List S74) (w0 w : World) (hD : Wd w0 w g gs n c top ns) (h : RepF ns S ia (.node x l r)) (hlen : (Tr.node x l r).sz ≤ 800) :
  Calls Tryz.prog 38 #[.pointer (some ⟨g, 0, none⟩), .int .i64 ia] w fun e w' => ∃ (u : Int) (ns' : List S74), e = .returned (.int .i64 u) ∧ Wd w0 w' g gs n c top ns' ∧ RepF ns' S u (balT x l r) ∧ Nw ns ns' S ∧ Wr w w' (fun k => k = gs) := by
 obtain ⟨i, A, B, al, ar, rfl, hi, hp, hl, hr⟩ := h
 have e1 : wrap64 ((l.ht : Int) - r.ht) = (l.ht : Int) - r.ht := by
  have := Tr.ht_le l
  have := Tr.ht_le r
  simp only [Tr.sz] at hlen
  unfold wrap64
  omega
 have fin : ∀ t, t = balT x l r → (Calls Tryz.prog 38 #[.pointer (some ⟨g, 0, none⟩), .int .i64 (i : Nat)] w fun e w' => ∃ (u : Int) (ns' : List S74), e = .returned (.int .i64 u) ∧ Wd w0 w' g gs n c top ns' ∧ RepF ns' S u t ∧ Nw ns ns' S ∧ Wr w w' (fun k => k = gs)) → (Calls Tryz.prog 38 #[.pointer (some ⟨g, 0, none⟩), .int .i64 (i : Nat)] w fun e w' => ∃ (u : Int) (ns' : List S74), e = .returned (.int .i64 u) ∧ Wd w0 w' g gs n c top ns' ∧ RepF ns' S u (balT x l r) ∧ Nw ns ns' S ∧ Wr w w' (fun k => k = gs)) := fun t e h => e ▸ h
 by_cases c1 : (l.ht : Int) - r.ht = 2
 ·
  obtain ⟨y, a, b, rfl⟩ := ht_pos (t := l) (by omega)
  by_cases d : a.ht < b.ht
  ·
   obtain ⟨z, b, c', rfl⟩ := ht_pos (t := b) (by omega)
   exact fin _ (by rw [balT, if_pos c1, if_pos (by exact d)]; rfl) (balL2S x y z a b c' r S A B i al ar g gs n c top ns w0 w hD hi hp hl hr hlen (e1.trans c1) d)
  ·
   exact fin _ (by rw [balT, if_pos c1, if_neg (by exact d)]; rfl) (balL1S x y a b r S A B i al ar g gs n c top ns w0 w hD hi hp hl hr hlen (e1.trans c1) d)
 ·
  by_cases c2 : (l.ht : Int) - r.ht = -2
  ·
   obtain ⟨y, a, b, rfl⟩ := ht_pos (t := r) (by omega)
   by_cases d : b.ht < a.ht
   ·
    obtain ⟨z, a, c', rfl⟩ := ht_pos (t := a) (by omega)
    exact fin _ (by rw [balT, if_neg c1, if_pos c2, if_pos (by exact d)]; rfl) (balR2S x y z l a b c' S A B i al ar g gs n c top ns w0 w hD hi hp hl hr hlen (e1.trans c2) d)
   ·
    exact fin _ (by rw [balT, if_neg c1, if_pos c2, if_neg (by exact d)]; rfl) (balR1S x y l a b S A B i al ar g gs n c top ns w0 w hD hi hp hl hr hlen (e1.trans c2) d)
  ·
   exact fin _ (by rw [balT, if_neg c1, if_neg c2]) (balNS x l r S A B i al ar g gs n c top ns w0 w hD hi hp hl hr hlen c1 c2)

set_option maxHeartbeats 4000000 in
set_option maxRecDepth 100000 in
theorem firstS (l : Tr) : ∀ (x : S35) (r : Tr) (S : Nat → Prop) (ia : Int) (g gs n c : Nat) (top : Int) (ns : List S74) (w0 w : World) (hD : Wd w0 w g gs n c top ns) (h : RepF ns S ia (.node x l r)) (hlen : (Tr.node x l r).sz ≤ 800),
  Calls Tryz.prog 39 #[.pointer (some ⟨g, 0, none⟩), .int .i64 ia] w fun e w' => ∃ (u : Int) (j : Nat) (ns' : List S74) (S' : Nat → Prop) (aj bj : Int), e = .returned (.tuple #[.int .i64 u, .int .i64 (j : Nat)]) ∧ Wd w0 w' g gs n c top ns' ∧ RepF ns' S' u (tfT x l r).1 ∧ ns'[j]? = some ⟨(tfT x l r).2, aj, bj⟩ ∧ (∀ k, S' k → S k) ∧ S j ∧ ¬ S' j ∧ Nw ns ns' S ∧ Wr w w' (fun k => k = gs) := by
 induction l with
 | nil =>
  intro x r S ia g gs n c top ns w0 w hD h hlen
  obtain ⟨i, A, B, al, ar, rfl, hi, hp, hl, hr⟩ := h
  have HD := Aside0.mk hD
  have HI := Aside0.mk hi
  have HP := Aside0.mk hp
  have HR := Aside0.mk hr
  have hlt : i < n := (hD.node hi).lt
  have hh := hD.head
  have hn3 := (hD.node hi).c3
  have hn4 := (hD.node hi).c4
  have c1 : decide (al < 0) = true := decide_eq_true hl
  clear hD hi hp hl hr hlen
  go_enter Tryz.func39, Tryz.ntmps39
  go_wp2
  go_ret2
  have fin : ∃ (u : Int) (j : Nat) (ns' : List S74) (S' : Nat → Prop) (aj bj : Int), (Value.tuple #[.int .i64 ar, .int .i64 (i : Nat)]) = (Value.tuple #[.int .i64 u, .int .i64 (j : Nat)]) ∧ Wd w0 w g gs n c top ns' ∧ RepF ns' S' u (tfT x .nil r).1 ∧ ns'[j]? = some ⟨(tfT x .nil r).2, aj, bj⟩ ∧ (∀ k, S' k → S k) ∧ S j ∧ ¬ S' j ∧ Nw ns ns' S ∧ Wr w w (fun k => k = gs) :=
   ⟨ar, i, ns, B, al, ar, rfl, HD.out, HR.out, HI.out, HP.out.r, HP.out.root, HP.out.gr, Nw.refl _ _, Wr.refl _ _⟩
  simpa using fin
 | node y a b iha ihb =>
  intro x r S ia g gs n c top ns w0 w hD h hlen
  clear ihb
  obtain ⟨i, A, B, al, ar, rfl, hi, hp, hl, hr⟩ := h
  obtain ⟨m, em⟩ : ∃ m : Nat, al = (m : Nat) := by obtain ⟨m, _, _, _, _, e, _⟩ := hl; exact ⟨m, e⟩
  subst em
  have IH := Aside0.mk iha
  have HD := Aside0.mk hD
  have HI := Aside0.mk hi
  have HP := Aside0.mk hp
  have HL := Aside0.mk hl
  have HR := Aside0.mk hr
  have HLEN := Aside0.mk hlen
  have hlt : i < n := (hD.node hi).lt
  have hh := hD.head
  have hn3 := (hD.node hi).c3
  have c1 : decide ((m : Int) < 0) = false := decide_eq_false (by omega)
  generalize htl : (tfT y a b).1 = tl
  generalize hz : (tfT y a b).2 = z
  have hres : tfT x (.node y a b) r = (balT x tl r, z) := by rw [← htl, ← hz]; rfl
  have HRES := Aside0.mk hres
  have HTL := Aside0.mk htl
  have HZ := Aside0.mk hz
  clear hD hi hp hl hr hlen iha hres htl hz
  go_enter Tryz.func39, Tryz.ntmps39
  go_wp2_with (first
   | (go_at_call 39; (with_reducible refine (IH.out y b A (m : Nat) g gs n c top ns w0 w HD.out HL.out ?side0).mono ?_); (case side0 => have := HLEN.out; simp only [Tr.sz] at this ⊢; omega); rintro e w1 ⟨u, j, ns1, S1, aj, bj, rfl, hd1, hr1, hj1, hs1, hsj, hnj, hN1, hw1⟩; rw [HTL.out] at hr1; rw [HZ.out] at hj1; have HD1 := Aside0.mk hd1; have HU1 := Aside0.mk hr1; have HJ1 := Aside0.mk hj1; have HS1 := Aside0.mk hs1; have HSJ := Aside0.mk hsj; have HNJ := Aside0.mk hnj; have HN1 := Aside0.mk hN1; have HW1 := Aside0.mk hw1; have HI1 : Aside0 (ns1[i]? = some ⟨x, (m : Nat), ar⟩) := ⟨(hN1.keep i HP.out.gl).trans HI.out⟩; have hh1 := hd1.head; have hq3 := (hd1.node HI1.out).c3; have hq4 := (hd1.node HI1.out).f3; clear hd1 hr1 hj1 hs1 hsj hnj hN1 hw1 hh hn3)
   | ((with_reducible refine gate_store (t := 3) (p := 46) rfl ?_); refine store_event (t := 3) (p := 46) (v := ?vo_sf) (w1 := (w1.setCell ⟨gs, i * 5 + 3, none⟩ (.int .i64 u))) ?hg ?ho ?hn ?hr ?_; (case ho => rfl); (case hg => rfl); (case hn => rfl); (case hr => first | (go_simp; done) | (go_simp; rfl)); intro w2 hw; have hs := HD1.out.setL HI1.out u; have HD2 : Aside0 (Wd w0 w2 g gs n c top (ns1.set i ⟨x, u, ar⟩)) := ⟨by rw [hw]; exact hs.1⟩; have HW2 : Aside0 (Wr w w2 (fun k => k = gs)) := ⟨HW1.out.trans (by rw [hw]; exact hs.2)⟩; clear hs hw hh1 hq3 hq4)
   | (go_at_call 38; (with_reducible refine (balanceS x tl r (fun k => k = i ∨ S1 k ∨ B k) (i : Nat) g gs n c top (ns1.set i ⟨x, u, ar⟩) w0 w2 HD2.out ?side0 ?side1).mono ?_); (case side0 => exact ⟨i, S1, B, u, ar, rfl, set_at HI1.out, ⟨.inl rfl, fun k hk => .inr (.inl hk), fun k hk => .inr (.inr hk), fun h => HP.out.gl (HS1.out i h), HP.out.gr, fun k hk hb => HP.out.dj k (HS1.out k hk) hb⟩, HU1.out.far (Nw.set ns1 i _) (fun k hk e => HP.out.gl (e ▸ HS1.out k hk)), (HR.out.far HN1.out (fun k hk ha => HP.out.dj k ha hk)).far (Nw.set ns1 i _) (fun k hk e => HP.out.gr (e ▸ hk))⟩); (case side1 => have := HLEN.out; have h_ := tfT_sz a b y; rw [HTL.out] at h_; simp only [Tr.sz] at this ⊢; omega); rintro e w3 ⟨u3, ns3, rfl, hd3, hr3, hN3, hw3⟩; have HD3 := Aside0.mk hd3; have HU3 := Aside0.mk hr3; have HN3 := Aside0.mk hN3; have HW3 : Aside0 (Wr w w3 (fun k => k = gs)) := ⟨HW2.out.trans hw3⟩; clear hd3 hr3 hN3 hw3))
  go_ret2
  have ji : j ≠ i := fun e => HP.out.gl (e ▸ HSJ.out)
  have nj : ¬ (j = i ∨ S1 j ∨ B j) := fun h => h.elim ji (fun h => h.elim HNJ.out (fun hb => HP.out.dj j HSJ.out hb))
  have fj : ns3[j]? = some ⟨z, aj, bj⟩ := (HN3.out.keep j nj).trans (((Nw.set ns1 i _).keep j ji).trans HJ1.out)
  have sub : ∀ k, (k = i ∨ S1 k ∨ B k) → S k := fun k h => h.elim (fun e => e ▸ HP.out.root) (fun h => h.elim (fun h => HP.out.l k (HS1.out k h)) (fun h => HP.out.r k h))
  have NN : Nw ns ns3 S := ((HN1.out.wid_ HP.out.l).trans ((Nw.set ns1 i ⟨x, u, ar⟩).wid_ (fun k e => e ▸ HP.out.root))).trans (HN3.out.wid_ sub)
  have fin : ∃ (u_ : Int) (j_ : Nat) (ns' : List S74) (S' : Nat → Prop) (aj bj : Int), (Value.tuple #[.int .i64 u3, .int .i64 (j : Nat)]) = (Value.tuple #[.int .i64 u_, .int .i64 (j_ : Nat)]) ∧ Wd w0 w3 g gs n c top ns' ∧ RepF ns' S' u_ (tfT x (.node y a b) r).1 ∧ ns'[j_]? = some ⟨(tfT x (.node y a b) r).2, aj, bj⟩ ∧ (∀ k, S' k → S k) ∧ S j_ ∧ ¬ S' j_ ∧ Nw ns ns' S ∧ Wr w w3 (fun k => k = gs) := by
   rw [HRES.out]
   exact ⟨u3, j, ns3, _, aj, bj, rfl, HD3.out, HU3.out, fj, sub, HP.out.l j HSJ.out, nj, NN, HW3.out⟩
  simpa using fin

def cmpR (x y : S35) : Int := (spec_RatioCmp.f 7000 x.f0 x.f1 x.f2 y.f0 y.f1 y.f2).getD 0

set_option maxHeartbeats 4000000 in
set_option maxRecDepth 100000 in
theorem takeLS (a x : S35) (l r : Tr) (S A B : Nat → Prop) (i : Nat) (al ar : Int) (cv : Int) (g gs n c : Nat) (top : Int) (ns : List S74) (w0 w : World) (hD : Wd w0 w g gs n c top ns) (hi : ns[i]? = some ⟨x, al, ar⟩) (hp : Part S i A B) (hl : RepF ns A al l) (hr : RepF ns B ar r) (hlen : (Tr.node x l r).sz ≤ 700)
  (hc : spec_RatioCmp.f 7000 a.f0 a.f1 a.f2 x.f0 x.f1 x.f2 = some cv) (ih : (∀ (S : Nat → Prop) (ia : Int) (g gs n c : Nat) (top : Int) (ns : List S74) (w0 w : World) (t' : Tr) (m : Int), Wd w0 w g gs n c top ns → RepF ns S ia l → (Tr.sz l) ≤ 700 → tkO (cmpR a) l = some (t', m) → (∀ y ∈ Tr.items l, spec_RatioCmp.f 7000 a.f0 a.f1 a.f2 y.f0 y.f1 y.f2 = some (cmpR a y)) → Calls Tryz.prog 18 #[.pointer (some ⟨g, 0, none⟩), .int .i64 ia, .agg (ci35 a)] w fun e w' => ∃ (u : Int) (ns' : List S74), e = .returned (.tuple #[.int .i64 u, .int .i64 m]) ∧ Wd w0 w' g gs n c top ns' ∧ RepF ns' S u t' ∧ Nw ns ns' S ∧ Wr w w' (fun k => k = gs))) (p : Tr) (m : Int) (hk : tkO (cmpR a) l = some (p, m)) (ho : ∀ y ∈ (Tr.node x l r).items, spec_RatioCmp.f 7000 a.f0 a.f1 a.f2 y.f0 y.f1 y.f2 = some (cmpR a y)) (hc0 : cv < 0) :
  Calls Tryz.prog 18 #[.pointer (some ⟨g, 0, none⟩), .int .i64 (i : Nat), .agg (ci35 a)] w fun e w' => ∃ (u : Int) (ns' : List S74), e = .returned (.tuple #[.int .i64 u, .int .i64 (m + 1)]) ∧ Wd w0 w' g gs n c top ns' ∧ RepF ns' S u (balT x p r) ∧ Nw ns ns' S ∧ Wr w w' (fun k => k = gs) := by
  have hu35 := Tryz.underlying35
  have hi35 : (Tryz.prog.info? 35).map (fun i => (i.zero, i.size, i.bytes)) = some (some (.agg #[(.int .i64 0), (.int .i64 0), (.int .i64 0)]), 3, 24) := by kernel_rfl
  have HD := Aside0.mk hD
  have HI := Aside0.mk hi
  have HP := Aside0.mk hp
  have HL := Aside0.mk hl
  have HR := Aside0.mk hr
  have HLEN := Aside0.mk hlen
  have HC := Aside0.mk hc
  have hlt : i < n := (hD.node hi).lt
  have IH := Aside0.mk ih
  have HK := Aside0.mk hk
  have HO := Aside0.mk ho
  have HSZ : Aside0 (p.sz + 1 = Tr.sz l) := ⟨(tkO_ok _ _ _ _ hk).2.2⟩
  have HN : Aside0 (1 ≤ m ∧ m ≤ 1000) := ⟨by have h_ := tkO_ok _ _ _ _ hk; simp only [Tr.sz] at hlen; omega⟩
  have c1 : decide (cv < 0) = true := decide_eq_true hc0
  clear hD hi hp hl hr hlen hc ih hk ho hc0
  go_enter Tryz.func18, Tryz.ntmps18
  go_wp2_with (first
   | ((with_reducible refine gate_dst (N := 5) rfl ?_); refine box_event ?hg (N := 5) ?hd (cs := (ci35 a)) (t := 35) ?hr ?_; (case hd => rfl); (case hg => rfl); (case hr => first | (go_simp; done) | (go_simp; rfl)); intro g5 hgb w1 hbox hb1; have BX1 := Aside0.mk hbox; have HD1 := Aside0.mk (HD.out.below hb1); have HW1 : Aside0 (Wr w w1 (fun _ => False)) := ⟨Wr.of_below hb1 _⟩; have NS5 : Aside0 (g5 ≠ gs) := ⟨fun e => absurd HD.out.gs_lt (by omega)⟩; clear hgb hbox hb1))
  refine start_ (n := 11) (S := fun w' => Below w1.heap.size w1 w') (ds := []) #[false, false, false, false, false, false, false, false, false, false, false] (by kernel_rfl) rfl rfl (below_drew (Below.refl _ _)) (fun hHeld => ?_)
  refine qt_ 0 15 hHeld ?_ rfl rfl (by intro w' sb_; have hq_ := blk_below BX1.out sb_; have s0_ : w'.cell? ⟨g5, 0, none⟩ = some (.int .i64 a.f0) := (blk_cell hq_ 0).trans rfl; have s1_ : w'.cell? ⟨g5, 1, none⟩ = some (.int .i64 a.f1) := (blk_cell hq_ 1).trans rfl; have s2_ : w'.cell? ⟨g5, 2, none⟩ = some (.int .i64 a.f2) := (blk_cell hq_ 2).trans rfl; clear sb_ hq_; go_simp; with_reducible rfl)
  refine qu_ 1 16 ?_
  refine qu_ 2 17 ?_
  refine qu_ 3 18 ?_
  refine qt_ 4 19 hHeld ?_ rfl rfl (by intro w' sb_; have s0_ : w'.cell? ⟨g, 0, none⟩ = some (.slice (some ⟨gs, 0, none⟩) n c) := (HD1.out.below sb_).head; clear sb_; go_simp; with_reducible rfl)
  refine qu_ 5 20 ?_
  refine qu_ 6 21 ?_
  refine qu_ 7 22 ?_
  refine qt_ 8 23 hHeld ?_ rfl rfl (by intro w' sb_; have hq_ := (HD1.out.below sb_).node HI.out; have s0_ := hq_.c0; have s1_ := hq_.c1; have s2_ := hq_.c2; clear sb_ hq_; go_simp; with_reducible rfl)
  refine qo_ 9 (some 24) (fun K hK => ?_)
  refine qc_ Tryz.func32 #[.agg (ci35 a), .agg (ci35 x)] ?_
  with_reducible refine (spec_RatioCmp.calls 7000 a.f0 a.f1 a.f2 x.f0 x.f1 x.f2 cv _ HC.out).mono ?_
  rintro e w2 ⟨rfl, hb2⟩
  refine ⟨_, rfl, ?_⟩
  have hb2 : Below w1.heap.size w1 w2 := below_step (below_drew (Below.refl w1.heap.size w1)) hb2
  have BX2 := Aside0.mk (blk_below BX1.out hb2)
  have HD2 := Aside0.mk (HD1.out.below hb2)
  have HW2 : Aside0 (Wr w w2 (fun _ => False)) := ⟨HW1.out.trans (Wr.of_below hb2 _)⟩
  refine hK.out _ _ hb2 (fun hHeld => ?_)
  clear hK K
  refine qm_ ?_
  refine qu_ 10 8 ?_
  refine done_ (by kernel_rfl) ?_
  clear hHeld hb2
  go_wp2
  refine start_ (n := 16) (S := fun w' => Drawn0 w2 w') (ds := [10]) #[false, false, false, false, false, false, false, false, false, false, false, false, false, false, false, false] (by kernel_rfl) rfl rfl ⟨⟨1, rfl⟩⟩ (fun hHeld => ?_)
  refine qu_ 0 28 ?_
  refine qu_ 1 29 ?_
  refine qu_ 2 30 ?_
  refine qu_ 3 31 ?_
  refine qt_ 4 32 hHeld ?_ rfl rfl (by intro w' sb_; obtain ⟨⟨n_, rfl⟩⟩ := sb_; have s0_ : (w2.drewN n_).cell? ⟨g, 0, none⟩ = some (.slice (some ⟨gs, 0, none⟩) n c) := HD2.out.head; go_simp; with_reducible rfl)
  refine qu_ 5 33 ?_
  refine qu_ 6 34 ?_
  refine qu_ 7 35 ?_
  refine qt_ 8 36 hHeld ?_ rfl rfl (by intro w' sb_; obtain ⟨⟨n_, rfl⟩⟩ := sb_; have s0_ : (w2.drewN n_).cell? ⟨gs, i * 5 + 3, none⟩ = some (.int .i64 al) := (HD2.out.node HI.out).c3; go_simp; with_reducible rfl)
  refine qt_ 9 37 hHeld ?_ rfl rfl (by intro w' sb_; obtain ⟨⟨n_, rfl⟩⟩ := sb_; have s0_ : (w2.drewN n_).cell? ⟨g5, 0, none⟩ = some (.int .i64 a.f0) := (blk_cell BX2.out 0).trans rfl; have s1_ : (w2.drewN n_).cell? ⟨g5, 1, none⟩ = some (.int .i64 a.f1) := (blk_cell BX2.out 1).trans rfl; have s2_ : (w2.drewN n_).cell? ⟨g5, 2, none⟩ = some (.int .i64 a.f2) := (blk_cell BX2.out 2).trans rfl; go_simp; with_reducible rfl)
  refine ql_ 10 (some 38) (fun K hK => ?_)
  refine qc_ Tryz.func18 #[.pointer (some ⟨g, 0, none⟩), .int .i64 al, .agg (ci35 a)] ?_
  have HD_ : Aside0 (Wd w0 w2.drew g gs n c top ns) := ⟨HD2.out.drewN 1⟩
  with_reducible refine (IH.out A al g gs n c top ns w0 w2.drew p m HD_.out HL.out ?side1 HK.out ?side2).mono ?_
  (case side1 => have := HLEN.out; simp only [Tr.sz] at this ⊢; omega)
  (case side2 => exact fun y hy => HO.out y (items_mem_l hy))
  rintro e w3 ⟨u, ns1, rfl, hd3, hr3, hN3, hw3⟩
  refine ⟨_, rfl, ?_⟩
  clear hHeld
  have HD3 := Aside0.mk hd3
  have HU3 := Aside0.mk hr3
  have HN3 := Aside0.mk hN3
  have HW3 : Aside0 (Wr w w3 (fun k => k = gs)) := ⟨((HW2.out.trans (Wr.drewN w2 1 _)).wid_ (fun _ e => e.elim)).trans hw3⟩
  have HI3 : Aside0 (ns1[i]? = some ⟨x, al, ar⟩) := ⟨(hN3.keep i HP.out.gl).trans HI.out⟩
  have HK3 := Aside0.mk (HR.out.far hN3 (fun k hk e => HP.out.dj k e hk))
  clear hd3 hr3 hN3 hw3 HD_
  refine hK.out _ _ ?_
  clear hK K
  refine qm_ ?_
  refine qu_ 11 27 ?_
  refine qu_ 12 39 ?_
  refine qu_ 13 40 ?_
  refine qu_ 14 9 ?_
  refine qu_ 15 10 ?_
  refine done_ (by kernel_rfl) ?_
  have hh3 := HD3.out.head
  have hq3 := (HD3.out.node HI3.out).c3
  have hq4 := (HD3.out.node HI3.out).f3
  go_wp2_with (first
   | ((with_reducible refine gate_store (t := 3) (p := 48) rfl ?_); refine store_event (t := 3) (p := 48) (v := ?vo_skl) (w1 := (w3.setCell ⟨gs, i * 5 + 3, none⟩ (.int .i64 u))) ?hg ?ho ?hn ?hr ?_; (case ho => rfl); (case hg => rfl); (case hn => rfl); (case hr => first | (go_simp; done) | (go_simp; rfl)); intro w4 hw; have hs := HD3.out.setL HI3.out u; have HD4 : Aside0 (Wd w0 w4 g gs n c top (ns1.set i ⟨x, u, ar⟩)) := ⟨by rw [hw]; exact hs.1⟩; have HW4 : Aside0 (Wr w w4 (fun k => k = gs)) := ⟨HW3.out.trans (by rw [hw]; exact hs.2)⟩; clear hs hw hh3 hq3 hq4; have HN4 := Aside0.mk (Nw.set ns1 i ⟨x, u, ar⟩); have HU4 := Aside0.mk (HU3.out.far HN4.out (fun k hk e => HP.out.gl (e ▸ hk))); have HK4 := Aside0.mk (HK3.out.far HN4.out (fun k hk e => HP.out.gr (e ▸ hk))); have HX4 : Aside0 (RepF (ns1.set i ⟨x, u, ar⟩) S (i : Nat) (.node x p r)) := ⟨⟨i, A, B, _, _, rfl, set_at HI3.out, HP.out, HU4.out, HK4.out⟩⟩; have HNN : Aside0 (Nw ns (ns1.set i ⟨x, u, ar⟩) S) := ⟨(HN3.out.wid_ HP.out.l).trans (HN4.out.wid_ (fun k e => e ▸ HP.out.root))⟩)
   | (go_at_call 38; (with_reducible refine (balanceS x p r S (i : Nat) g gs n c top (ns1.set i ⟨x, u, ar⟩) w0 w4 HD4.out HX4.out ?side0).mono ?_); (case side0 => have h1_ := HLEN.out; have h2_ := HSZ.out; simp only [Tr.sz] at h1_ ⊢; omega); rintro e w5 ⟨u5, ns5, rfl, hd5, hr5, hN5, hw5⟩; have HD5 := Aside0.mk hd5; have HU5 := Aside0.mk hr5; have HN5 : Aside0 (Nw ns ns5 S) := ⟨HNN.out.trans hN5⟩; have HW5 : Aside0 (Wr w w5 (fun k => k = gs)) := ⟨HW4.out.trans hw5⟩; clear hd5 hr5 hN5 hw5))
  go_ret2
  have hn : wrap64 (m + 1) = m + 1 := by
   have := HN.out
   unfold wrap64
   omega
  first
   | (refine ⟨_, ?_, _, HD5.out, HU5.out, HN5.out, HW5.out⟩; first | rfl | (simp [hn]; done))
   | (refine ⟨_, _, ?_, HD5.out, HU5.out, HN5.out, HW5.out⟩; first | rfl | (simp [hn]; done))

set_option maxHeartbeats 4000000 in
set_option maxRecDepth 100000 in
theorem takeRS (a x : S35) (l r : Tr) (S A B : Nat → Prop) (i : Nat) (al ar : Int) (cv : Int) (g gs n c : Nat) (top : Int) (ns : List S74) (w0 w : World) (hD : Wd w0 w g gs n c top ns) (hi : ns[i]? = some ⟨x, al, ar⟩) (hp : Part S i A B) (hl : RepF ns A al l) (hr : RepF ns B ar r) (hlen : (Tr.node x l r).sz ≤ 700)
  (hc : spec_RatioCmp.f 7000 a.f0 a.f1 a.f2 x.f0 x.f1 x.f2 = some cv) (ih : (∀ (S : Nat → Prop) (ia : Int) (g gs n c : Nat) (top : Int) (ns : List S74) (w0 w : World) (t' : Tr) (m : Int), Wd w0 w g gs n c top ns → RepF ns S ia r → (Tr.sz r) ≤ 700 → tkO (cmpR a) r = some (t', m) → (∀ y ∈ Tr.items r, spec_RatioCmp.f 7000 a.f0 a.f1 a.f2 y.f0 y.f1 y.f2 = some (cmpR a y)) → Calls Tryz.prog 18 #[.pointer (some ⟨g, 0, none⟩), .int .i64 ia, .agg (ci35 a)] w fun e w' => ∃ (u : Int) (ns' : List S74), e = .returned (.tuple #[.int .i64 u, .int .i64 m]) ∧ Wd w0 w' g gs n c top ns' ∧ RepF ns' S u t' ∧ Nw ns ns' S ∧ Wr w w' (fun k => k = gs))) (p : Tr) (m : Int) (hk : tkO (cmpR a) r = some (p, m)) (ho : ∀ y ∈ (Tr.node x l r).items, spec_RatioCmp.f 7000 a.f0 a.f1 a.f2 y.f0 y.f1 y.f2 = some (cmpR a y)) (hc0 : ¬ cv < 0) (hc1 : 0 < cv) :
  Calls Tryz.prog 18 #[.pointer (some ⟨g, 0, none⟩), .int .i64 (i : Nat), .agg (ci35 a)] w fun e w' => ∃ (u : Int) (ns' : List S74), e = .returned (.tuple #[.int .i64 u, .int .i64 (m + 1)]) ∧ Wd w0 w' g gs n c top ns' ∧ RepF ns' S u (balT x l p) ∧ Nw ns ns' S ∧ Wr w w' (fun k => k = gs) := by
  have hu35 := Tryz.underlying35
  have hi35 : (Tryz.prog.info? 35).map (fun i => (i.zero, i.size, i.bytes)) = some (some (.agg #[(.int .i64 0), (.int .i64 0), (.int .i64 0)]), 3, 24) := by kernel_rfl
  have HD := Aside0.mk hD
  have HI := Aside0.mk hi
  have HP := Aside0.mk hp
  have HL := Aside0.mk hl
  have HR := Aside0.mk hr
  have HLEN := Aside0.mk hlen
  have HC := Aside0.mk hc
  have hlt : i < n := (hD.node hi).lt
  have IH := Aside0.mk ih
  have HK := Aside0.mk hk
  have HO := Aside0.mk ho
  have HSZ : Aside0 (p.sz + 1 = Tr.sz r) := ⟨(tkO_ok _ _ _ _ hk).2.2⟩
  have HN : Aside0 (1 ≤ m ∧ m ≤ 1000) := ⟨by have h_ := tkO_ok _ _ _ _ hk; simp only [Tr.sz] at hlen; omega⟩
  have c1 : decide (cv < 0) = false := decide_eq_false hc0
  have c2 : decide (0 < cv) = true := decide_eq_true hc1
  clear hD hi hp hl hr hlen hc ih hk ho hc0 hc1
  go_enter Tryz.func18, Tryz.ntmps18
  go_wp2_with (first
   | ((with_reducible refine gate_dst (N := 5) rfl ?_); refine box_event ?hg (N := 5) ?hd (cs := (ci35 a)) (t := 35) ?hr ?_; (case hd => rfl); (case hg => rfl); (case hr => first | (go_simp; done) | (go_simp; rfl)); intro g5 hgb w1 hbox hb1; have BX1 := Aside0.mk hbox; have HD1 := Aside0.mk (HD.out.below hb1); have HW1 : Aside0 (Wr w w1 (fun _ => False)) := ⟨Wr.of_below hb1 _⟩; have NS5 : Aside0 (g5 ≠ gs) := ⟨fun e => absurd HD.out.gs_lt (by omega)⟩; clear hgb hbox hb1))
  refine start_ (n := 11) (S := fun w' => Below w1.heap.size w1 w') (ds := []) #[false, false, false, false, false, false, false, false, false, false, false] (by kernel_rfl) rfl rfl (below_drew (Below.refl _ _)) (fun hHeld => ?_)
  refine qt_ 0 15 hHeld ?_ rfl rfl (by intro w' sb_; have hq_ := blk_below BX1.out sb_; have s0_ : w'.cell? ⟨g5, 0, none⟩ = some (.int .i64 a.f0) := (blk_cell hq_ 0).trans rfl; have s1_ : w'.cell? ⟨g5, 1, none⟩ = some (.int .i64 a.f1) := (blk_cell hq_ 1).trans rfl; have s2_ : w'.cell? ⟨g5, 2, none⟩ = some (.int .i64 a.f2) := (blk_cell hq_ 2).trans rfl; clear sb_ hq_; go_simp; with_reducible rfl)
  refine qu_ 1 16 ?_
  refine qu_ 2 17 ?_
  refine qu_ 3 18 ?_
  refine qt_ 4 19 hHeld ?_ rfl rfl (by intro w' sb_; have s0_ : w'.cell? ⟨g, 0, none⟩ = some (.slice (some ⟨gs, 0, none⟩) n c) := (HD1.out.below sb_).head; clear sb_; go_simp; with_reducible rfl)
  refine qu_ 5 20 ?_
  refine qu_ 6 21 ?_
  refine qu_ 7 22 ?_
  refine qt_ 8 23 hHeld ?_ rfl rfl (by intro w' sb_; have hq_ := (HD1.out.below sb_).node HI.out; have s0_ := hq_.c0; have s1_ := hq_.c1; have s2_ := hq_.c2; clear sb_ hq_; go_simp; with_reducible rfl)
  refine qo_ 9 (some 24) (fun K hK => ?_)
  refine qc_ Tryz.func32 #[.agg (ci35 a), .agg (ci35 x)] ?_
  with_reducible refine (spec_RatioCmp.calls 7000 a.f0 a.f1 a.f2 x.f0 x.f1 x.f2 cv _ HC.out).mono ?_
  rintro e w2 ⟨rfl, hb2⟩
  refine ⟨_, rfl, ?_⟩
  have hb2 : Below w1.heap.size w1 w2 := below_step (below_drew (Below.refl w1.heap.size w1)) hb2
  have BX2 := Aside0.mk (blk_below BX1.out hb2)
  have HD2 := Aside0.mk (HD1.out.below hb2)
  have HW2 : Aside0 (Wr w w2 (fun _ => False)) := ⟨HW1.out.trans (Wr.of_below hb2 _)⟩
  refine hK.out _ _ hb2 (fun hHeld => ?_)
  clear hK K
  refine qm_ ?_
  refine qu_ 10 8 ?_
  refine done_ (by kernel_rfl) ?_
  clear hHeld hb2
  go_wp2
  refine start_ (n := 16) (S := fun w' => Drawn0 w2 w') (ds := [10]) #[false, false, false, false, false, false, false, false, false, false, false, false, false, false, false, false] (by kernel_rfl) rfl rfl ⟨⟨1, rfl⟩⟩ (fun hHeld => ?_)
  refine qu_ 0 57 ?_
  refine qu_ 1 58 ?_
  refine qu_ 2 59 ?_
  refine qu_ 3 60 ?_
  refine qt_ 4 61 hHeld ?_ rfl rfl (by intro w' sb_; obtain ⟨⟨n_, rfl⟩⟩ := sb_; have s0_ : (w2.drewN n_).cell? ⟨g, 0, none⟩ = some (.slice (some ⟨gs, 0, none⟩) n c) := HD2.out.head; go_simp; with_reducible rfl)
  refine qu_ 5 62 ?_
  refine qu_ 6 63 ?_
  refine qu_ 7 64 ?_
  refine qt_ 8 65 hHeld ?_ rfl rfl (by intro w' sb_; obtain ⟨⟨n_, rfl⟩⟩ := sb_; have s0_ : (w2.drewN n_).cell? ⟨gs, i * 5 + 4, none⟩ = some (.int .i64 ar) := (HD2.out.node HI.out).c4; go_simp; with_reducible rfl)
  refine qt_ 9 66 hHeld ?_ rfl rfl (by intro w' sb_; obtain ⟨⟨n_, rfl⟩⟩ := sb_; have s0_ : (w2.drewN n_).cell? ⟨g5, 0, none⟩ = some (.int .i64 a.f0) := (blk_cell BX2.out 0).trans rfl; have s1_ : (w2.drewN n_).cell? ⟨g5, 1, none⟩ = some (.int .i64 a.f1) := (blk_cell BX2.out 1).trans rfl; have s2_ : (w2.drewN n_).cell? ⟨g5, 2, none⟩ = some (.int .i64 a.f2) := (blk_cell BX2.out 2).trans rfl; go_simp; with_reducible rfl)
  refine ql_ 10 (some 67) (fun K hK => ?_)
  refine qc_ Tryz.func18 #[.pointer (some ⟨g, 0, none⟩), .int .i64 ar, .agg (ci35 a)] ?_
  have HD_ : Aside0 (Wd w0 w2.drew g gs n c top ns) := ⟨HD2.out.drewN 1⟩
  with_reducible refine (IH.out B ar g gs n c top ns w0 w2.drew p m HD_.out HR.out ?side1 HK.out ?side2).mono ?_
  (case side1 => have := HLEN.out; simp only [Tr.sz] at this ⊢; omega)
  (case side2 => exact fun y hy => HO.out y (items_mem_r hy))
  rintro e w3 ⟨u, ns1, rfl, hd3, hr3, hN3, hw3⟩
  refine ⟨_, rfl, ?_⟩
  clear hHeld
  have HD3 := Aside0.mk hd3
  have HU3 := Aside0.mk hr3
  have HN3 := Aside0.mk hN3
  have HW3 : Aside0 (Wr w w3 (fun k => k = gs)) := ⟨((HW2.out.trans (Wr.drewN w2 1 _)).wid_ (fun _ e => e.elim)).trans hw3⟩
  have HI3 : Aside0 (ns1[i]? = some ⟨x, al, ar⟩) := ⟨(hN3.keep i HP.out.gr).trans HI.out⟩
  have HK3 := Aside0.mk (HL.out.far hN3 (fun k hk e => HP.out.dj k hk e))
  clear hd3 hr3 hN3 hw3 HD_
  refine hK.out _ _ ?_
  clear hK K
  refine qm_ ?_
  refine qu_ 11 56 ?_
  refine qu_ 12 68 ?_
  refine qu_ 13 69 ?_
  refine qu_ 14 11 ?_
  refine qu_ 15 12 ?_
  refine done_ (by kernel_rfl) ?_
  have hh3 := HD3.out.head
  have hq3 := (HD3.out.node HI3.out).c4
  have hq4 := (HD3.out.node HI3.out).f4
  go_wp2_with (first
   | ((with_reducible refine gate_store (t := 3) (p := 77) rfl ?_); refine store_event (t := 3) (p := 77) (v := ?vo_skr) (w1 := (w3.setCell ⟨gs, i * 5 + 4, none⟩ (.int .i64 u))) ?hg ?ho ?hn ?hr ?_; (case ho => rfl); (case hg => rfl); (case hn => rfl); (case hr => first | (go_simp; done) | (go_simp; rfl)); intro w4 hw; have hs := HD3.out.setR HI3.out u; have HD4 : Aside0 (Wd w0 w4 g gs n c top (ns1.set i ⟨x, al, u⟩)) := ⟨by rw [hw]; exact hs.1⟩; have HW4 : Aside0 (Wr w w4 (fun k => k = gs)) := ⟨HW3.out.trans (by rw [hw]; exact hs.2)⟩; clear hs hw hh3 hq3 hq4; have HN4 := Aside0.mk (Nw.set ns1 i ⟨x, al, u⟩); have HU4 := Aside0.mk (HU3.out.far HN4.out (fun k hk e => HP.out.gr (e ▸ hk))); have HK4 := Aside0.mk (HK3.out.far HN4.out (fun k hk e => HP.out.gl (e ▸ hk))); have HX4 : Aside0 (RepF (ns1.set i ⟨x, al, u⟩) S (i : Nat) (.node x l p)) := ⟨⟨i, A, B, _, _, rfl, set_at HI3.out, HP.out, HK4.out, HU4.out⟩⟩; have HNN : Aside0 (Nw ns (ns1.set i ⟨x, al, u⟩) S) := ⟨(HN3.out.wid_ HP.out.r).trans (HN4.out.wid_ (fun k e => e ▸ HP.out.root))⟩)
   | (go_at_call 38; (with_reducible refine (balanceS x l p S (i : Nat) g gs n c top (ns1.set i ⟨x, al, u⟩) w0 w4 HD4.out HX4.out ?side0).mono ?_); (case side0 => have h1_ := HLEN.out; have h2_ := HSZ.out; simp only [Tr.sz] at h1_ ⊢; omega); rintro e w5 ⟨u5, ns5, rfl, hd5, hr5, hN5, hw5⟩; have HD5 := Aside0.mk hd5; have HU5 := Aside0.mk hr5; have HN5 : Aside0 (Nw ns ns5 S) := ⟨HNN.out.trans hN5⟩; have HW5 : Aside0 (Wr w w5 (fun k => k = gs)) := ⟨HW4.out.trans hw5⟩; clear hd5 hr5 hN5 hw5))
  go_ret2
  have hn : wrap64 (m + 1) = m + 1 := by
   have := HN.out
   unfold wrap64
   omega
  first
   | (refine ⟨_, ?_, _, HD5.out, HU5.out, HN5.out, HW5.out⟩; first | rfl | (simp [hn]; done))
   | (refine ⟨_, _, ?_, HD5.out, HU5.out, HN5.out, HW5.out⟩; first | rfl | (simp [hn]; done))

set_option maxHeartbeats 4000000 in
set_option maxRecDepth 100000 in
theorem take0S (a x : S35) (l : Tr) (S A B : Nat → Prop) (i : Nat) (al ar : Int) (cv : Int) (g gs n c : Nat) (top : Int) (ns : List S74) (w0 w : World) (hD : Wd w0 w g gs n c top ns) (hi : ns[i]? = some ⟨x, al, ar⟩) (hp : Part S i A B) (hl : RepF ns A al l) (hr : RepF ns B ar .nil) (hlen : (Tr.node x l .nil).sz ≤ 700)
  (hc : spec_RatioCmp.f 7000 a.f0 a.f1 a.f2 x.f0 x.f1 x.f2 = some cv) (hc0 : ¬ cv < 0) (hc1 : ¬ 0 < cv) :
  Calls Tryz.prog 18 #[.pointer (some ⟨g, 0, none⟩), .int .i64 (i : Nat), .agg (ci35 a)] w fun e w' => ∃ (u : Int) (ns' : List S74), e = .returned (.tuple #[.int .i64 u, .int .i64 1]) ∧ Wd w0 w' g gs n c top ns' ∧ RepF ns' S u l ∧ Nw ns ns' S ∧ Wr w w' (fun k => k = gs) := by
  have hu35 := Tryz.underlying35
  have hi35 : (Tryz.prog.info? 35).map (fun i => (i.zero, i.size, i.bytes)) = some (some (.agg #[(.int .i64 0), (.int .i64 0), (.int .i64 0)]), 3, 24) := by kernel_rfl
  have HD := Aside0.mk hD
  have HI := Aside0.mk hi
  have HP := Aside0.mk hp
  have HL := Aside0.mk hl
  have HR := Aside0.mk hr
  have HLEN := Aside0.mk hlen
  have HC := Aside0.mk hc
  have hlt : i < n := (hD.node hi).lt
  have c1 : decide (cv < 0) = false := decide_eq_false hc0
  have c2 : decide (0 < cv) = false := decide_eq_false hc1
  have c3 : decide (ar < 0) = true := decide_eq_true hr
  clear hD hi hp hl hr hlen hc hc0 hc1
  go_enter Tryz.func18, Tryz.ntmps18
  go_wp2_with (first
   | ((with_reducible refine gate_dst (N := 5) rfl ?_); refine box_event ?hg (N := 5) ?hd (cs := (ci35 a)) (t := 35) ?hr ?_; (case hd => rfl); (case hg => rfl); (case hr => first | (go_simp; done) | (go_simp; rfl)); intro g5 hgb w1 hbox hb1; have BX1 := Aside0.mk hbox; have HD1 := Aside0.mk (HD.out.below hb1); have HW1 : Aside0 (Wr w w1 (fun _ => False)) := ⟨Wr.of_below hb1 _⟩; have NS5 : Aside0 (g5 ≠ gs) := ⟨fun e => absurd HD.out.gs_lt (by omega)⟩; clear hgb hbox hb1))
  refine start_ (n := 11) (S := fun w' => Below w1.heap.size w1 w') (ds := []) #[false, false, false, false, false, false, false, false, false, false, false] (by kernel_rfl) rfl rfl (below_drew (Below.refl _ _)) (fun hHeld => ?_)
  refine qt_ 0 15 hHeld ?_ rfl rfl (by intro w' sb_; have hq_ := blk_below BX1.out sb_; have s0_ : w'.cell? ⟨g5, 0, none⟩ = some (.int .i64 a.f0) := (blk_cell hq_ 0).trans rfl; have s1_ : w'.cell? ⟨g5, 1, none⟩ = some (.int .i64 a.f1) := (blk_cell hq_ 1).trans rfl; have s2_ : w'.cell? ⟨g5, 2, none⟩ = some (.int .i64 a.f2) := (blk_cell hq_ 2).trans rfl; clear sb_ hq_; go_simp; with_reducible rfl)
  refine qu_ 1 16 ?_
  refine qu_ 2 17 ?_
  refine qu_ 3 18 ?_
  refine qt_ 4 19 hHeld ?_ rfl rfl (by intro w' sb_; have s0_ : w'.cell? ⟨g, 0, none⟩ = some (.slice (some ⟨gs, 0, none⟩) n c) := (HD1.out.below sb_).head; clear sb_; go_simp; with_reducible rfl)
  refine qu_ 5 20 ?_
  refine qu_ 6 21 ?_
  refine qu_ 7 22 ?_
  refine qt_ 8 23 hHeld ?_ rfl rfl (by intro w' sb_; have hq_ := (HD1.out.below sb_).node HI.out; have s0_ := hq_.c0; have s1_ := hq_.c1; have s2_ := hq_.c2; clear sb_ hq_; go_simp; with_reducible rfl)
  refine qo_ 9 (some 24) (fun K hK => ?_)
  refine qc_ Tryz.func32 #[.agg (ci35 a), .agg (ci35 x)] ?_
  with_reducible refine (spec_RatioCmp.calls 7000 a.f0 a.f1 a.f2 x.f0 x.f1 x.f2 cv _ HC.out).mono ?_
  rintro e w2 ⟨rfl, hb2⟩
  refine ⟨_, rfl, ?_⟩
  have hb2 : Below w1.heap.size w1 w2 := below_step (below_drew (Below.refl w1.heap.size w1)) hb2
  have BX2 := Aside0.mk (blk_below BX1.out hb2)
  have HD2 := Aside0.mk (HD1.out.below hb2)
  have HW2 : Aside0 (Wr w w2 (fun _ => False)) := ⟨HW1.out.trans (Wr.of_below hb2 _)⟩
  refine hK.out _ _ hb2 (fun hHeld => ?_)
  clear hK K
  refine qm_ ?_
  refine qu_ 10 8 ?_
  refine done_ (by kernel_rfl) ?_
  clear hHeld hb2
  have hh2 := HD2.out.head
  have hq3 := (HD2.out.node HI.out).c3
  have hq4 := (HD2.out.node HI.out).c4
  go_wp2
  go_ret2
  first | exact ⟨_, rfl, _, HD2.out, (HL.out.wid_ HP.out.l), (Nw.refl _ _), (HW2.out.wid_ (fun _ e => e.elim))⟩ | exact ⟨_, _, rfl, HD2.out, (HL.out.wid_ HP.out.l), (Nw.refl _ _), (HW2.out.wid_ (fun _ e => e.elim))⟩

set_option maxHeartbeats 4000000 in
set_option maxRecDepth 100000 in
theorem take1S (a x y : S35) (l b d : Tr) (S A B : Nat → Prop) (i : Nat) (al ar : Int) (cv : Int) (g gs n c : Nat) (top : Int) (ns : List S74) (w0 w : World) (hD : Wd w0 w g gs n c top ns) (hi : ns[i]? = some ⟨x, al, ar⟩) (hp : Part S i A B) (hl : RepF ns A al l) (hr : RepF ns B ar (.node y b d)) (hlen : (Tr.node x l (.node y b d)).sz ≤ 700)
  (hc : spec_RatioCmp.f 7000 a.f0 a.f1 a.f2 x.f0 x.f1 x.f2 = some cv) (hc0 : ¬ cv < 0) (hc1 : ¬ 0 < cv) :
  Calls Tryz.prog 18 #[.pointer (some ⟨g, 0, none⟩), .int .i64 (i : Nat), .agg (ci35 a)] w fun e w' => ∃ (u : Int) (ns' : List S74), e = .returned (.tuple #[.int .i64 u, .int .i64 1]) ∧ Wd w0 w' g gs n c top ns' ∧ RepF ns' S u (balT (tfT y b d).2 l (tfT y b d).1) ∧ Nw ns ns' S ∧ Wr w w' (fun k => k = gs) := by
  have hu35 := Tryz.underlying35
  have hi35 : (Tryz.prog.info? 35).map (fun i => (i.zero, i.size, i.bytes)) = some (some (.agg #[(.int .i64 0), (.int .i64 0), (.int .i64 0)]), 3, 24) := by kernel_rfl
  have HD := Aside0.mk hD
  have HI := Aside0.mk hi
  have HP := Aside0.mk hp
  have HL := Aside0.mk hl
  have HR := Aside0.mk hr
  have HLEN := Aside0.mk hlen
  have HC := Aside0.mk hc
  have hlt : i < n := (hD.node hi).lt
  obtain ⟨m, em⟩ : ∃ m : Nat, ar = (m : Nat) := by obtain ⟨m, _, _, _, _, e, _⟩ := hr; exact ⟨m, e⟩
  subst em
  generalize htl : (tfT y b d).1 = tl
  generalize hz : (tfT y b d).2 = z
  have HTL := Aside0.mk htl
  have HZ := Aside0.mk hz
  have c1 : decide (cv < 0) = false := decide_eq_false hc0
  have c2 : decide (0 < cv) = false := decide_eq_false hc1
  have c3 : decide ((m : Int) < 0) = false := decide_eq_false (by omega)
  clear hD hi hp hl hr hlen hc hc0 hc1 htl hz
  go_enter Tryz.func18, Tryz.ntmps18
  go_wp2_with (first
   | ((with_reducible refine gate_dst (N := 5) rfl ?_); refine box_event ?hg (N := 5) ?hd (cs := (ci35 a)) (t := 35) ?hr ?_; (case hd => rfl); (case hg => rfl); (case hr => first | (go_simp; done) | (go_simp; rfl)); intro g5 hgb w1 hbox hb1; have BX1 := Aside0.mk hbox; have HD1 := Aside0.mk (HD.out.below hb1); have HW1 : Aside0 (Wr w w1 (fun _ => False)) := ⟨Wr.of_below hb1 _⟩; have NS5 : Aside0 (g5 ≠ gs) := ⟨fun e => absurd HD.out.gs_lt (by omega)⟩; clear hgb hbox hb1))
  refine start_ (n := 11) (S := fun w' => Below w1.heap.size w1 w') (ds := []) #[false, false, false, false, false, false, false, false, false, false, false] (by kernel_rfl) rfl rfl (below_drew (Below.refl _ _)) (fun hHeld => ?_)
  refine qt_ 0 15 hHeld ?_ rfl rfl (by intro w' sb_; have hq_ := blk_below BX1.out sb_; have s0_ : w'.cell? ⟨g5, 0, none⟩ = some (.int .i64 a.f0) := (blk_cell hq_ 0).trans rfl; have s1_ : w'.cell? ⟨g5, 1, none⟩ = some (.int .i64 a.f1) := (blk_cell hq_ 1).trans rfl; have s2_ : w'.cell? ⟨g5, 2, none⟩ = some (.int .i64 a.f2) := (blk_cell hq_ 2).trans rfl; clear sb_ hq_; go_simp; with_reducible rfl)
  refine qu_ 1 16 ?_
  refine qu_ 2 17 ?_
  refine qu_ 3 18 ?_
  refine qt_ 4 19 hHeld ?_ rfl rfl (by intro w' sb_; have s0_ : w'.cell? ⟨g, 0, none⟩ = some (.slice (some ⟨gs, 0, none⟩) n c) := (HD1.out.below sb_).head; clear sb_; go_simp; with_reducible rfl)
  refine qu_ 5 20 ?_
  refine qu_ 6 21 ?_
  refine qu_ 7 22 ?_
  refine qt_ 8 23 hHeld ?_ rfl rfl (by intro w' sb_; have hq_ := (HD1.out.below sb_).node HI.out; have s0_ := hq_.c0; have s1_ := hq_.c1; have s2_ := hq_.c2; clear sb_ hq_; go_simp; with_reducible rfl)
  refine qo_ 9 (some 24) (fun K hK => ?_)
  refine qc_ Tryz.func32 #[.agg (ci35 a), .agg (ci35 x)] ?_
  with_reducible refine (spec_RatioCmp.calls 7000 a.f0 a.f1 a.f2 x.f0 x.f1 x.f2 cv _ HC.out).mono ?_
  rintro e w2 ⟨rfl, hb2⟩
  refine ⟨_, rfl, ?_⟩
  have hb2 : Below w1.heap.size w1 w2 := below_step (below_drew (Below.refl w1.heap.size w1)) hb2
  have BX2 := Aside0.mk (blk_below BX1.out hb2)
  have HD2 := Aside0.mk (HD1.out.below hb2)
  have HW2 : Aside0 (Wr w w2 (fun _ => False)) := ⟨HW1.out.trans (Wr.of_below hb2 _)⟩
  refine hK.out _ _ hb2 (fun hHeld => ?_)
  clear hK K
  refine qm_ ?_
  refine qu_ 10 8 ?_
  refine done_ (by kernel_rfl) ?_
  clear hHeld hb2
  have hh2 := HD2.out.head
  have hq4 := (HD2.out.node HI.out).c4
  go_wp2_with (first
   | (go_at_call 39; (with_reducible refine (firstS b y d B (m : Nat) g gs n c top ns w0 w2 HD2.out HR.out ?side0).mono ?_); (case side0 => have := HLEN.out; simp only [Tr.sz] at this ⊢; omega); rintro e w3 ⟨u, j, ns1, S1, aj, bj, rfl, hd3, hr3, hj3, hs3, hsj, hnj, hN3, hw3⟩; rw [HTL.out] at hr3; rw [HZ.out] at hj3; have HD3 := Aside0.mk hd3; have HU3 := Aside0.mk hr3; have HJ3 := Aside0.mk hj3; have HS3 := Aside0.mk hs3; have HSJ := Aside0.mk hsj; have HNJ := Aside0.mk hnj; have HN3 := Aside0.mk hN3; have HW3 : Aside0 (Wr w w3 (fun k => k = gs)) := ⟨(HW2.out.wid_ (fun _ e => e.elim)).trans hw3⟩; have HI3 : Aside0 (ns1[i]? = some ⟨x, al, (m : Nat)⟩) := ⟨(hN3.keep i HP.out.gr).trans HI.out⟩; have HK3 := Aside0.mk (HL.out.far hN3 (fun k hk e => HP.out.dj k hk e)); clear hd3 hr3 hj3 hs3 hsj hnj hN3 hw3 hh2 hq4))
  have hlj : j < n := (HD3.out.node HJ3.out).lt
  refine start_ (n := 16) (S := fun w' => Drawn0 w3 w') (ds := [15]) #[false, false, false, false, false, false, false, false, false, false, false, false, false, false, false, false] (by kernel_rfl) rfl rfl ⟨⟨1, rfl⟩⟩ (fun hHeld => ?_)
  refine qu_ 0 113 ?_
  refine qu_ 1 114 ?_
  refine qu_ 2 115 ?_
  refine qt_ 3 116 hHeld ?_ rfl rfl (by intro w' sb_; obtain ⟨⟨n_, rfl⟩⟩ := sb_; have s0_ : (w3.drewN n_).cell? ⟨g, 0, none⟩ = some (.slice (some ⟨gs, 0, none⟩) n c) := HD3.out.head; go_simp; with_reducible rfl)
  refine qu_ 4 117 ?_
  refine qu_ 5 118 ?_
  refine qu_ 6 119 ?_
  refine qu_ 7 120 ?_
  refine qt_ 8 121 hHeld ?_ rfl rfl (by intro w' sb_; obtain ⟨⟨n_, rfl⟩⟩ := sb_; have s0_ : (w3.drewN n_).cell? ⟨g, 0, none⟩ = some (.slice (some ⟨gs, 0, none⟩) n c) := HD3.out.head; go_simp; with_reducible rfl)
  refine qu_ 9 122 ?_
  refine qu_ 10 123 ?_
  refine qu_ 11 124 ?_
  refine qt_ 12 125 hHeld ?_ rfl rfl (by intro w' sb_; obtain ⟨⟨n_, rfl⟩⟩ := sb_; have s0_ : (w3.drewN n_).cell? ⟨gs, i * 5 + 3, none⟩ = some (.int .i64 al) := (HD3.out.node HI3.out).c3; go_simp; with_reducible rfl)
  refine qu_ 13 126 ?_
  refine qu_ 14 127 ?_
  refine ql_ 15 none (fun K hK => ?_)
  clear hHeld
  have hc2 : w3.cell? ⟨gs, j * 5 + 3, none⟩ = some (.int .i64 aj) := (HD3.out.node HJ3.out).c3
  have hf2 : w3.frozen? ⟨gs, j * 5 + 3, none⟩ = false := (HD3.out.node HJ3.out).f3
  refine skip_ (w1 := (w3.drewN 1).setCell ⟨gs, j * 5 + 3, none⟩ (.int .i64 al)) (by rfl) rfl ?_ ?_
  ·
   go_simp
   rfl
  refine hK.out _ _ ?_
  clear hK K
  refine done_ (by kernel_rfl) ?_
  have hs := (HD3.out.drewN 1).setL HJ3.out al
  have HD4 := Aside0.mk hs.1
  have HW4 : Aside0 (Wr w ((w3.drewN 1).setCell ⟨gs, j * 5 + 3, none⟩ (.int .i64 al)) (fun k => k = gs)) := ⟨(HW3.out.trans (Wr.drewN w3 1 _)).trans hs.2⟩
  clear hc2 hf2 hs
  generalize (w3.drewN 1).setCell ⟨gs, j * 5 + 3, none⟩ (.int .i64 al) = w4 at HD4 HW4 ⊢
  have HJ4 : Aside0 ((ns1.set j ⟨z, al, bj⟩)[j]? = some ⟨z, al, bj⟩) := ⟨set_at HJ3.out⟩
  have hh4 := HD4.out.head
  have hm4 := (HD4.out.node HJ4.out).c4
  have hf4 := (HD4.out.node HJ4.out).f4
  have HN5 : Aside0 (Nw ns1 ((ns1.set j ⟨z, al, bj⟩).set j ⟨z, al, u⟩) (fun k => k = j)) := ⟨(Nw.set ns1 j _).trans (Nw.set _ j _)⟩
  have HX5 : Aside0 (RepF ((ns1.set j ⟨z, al, bj⟩).set j ⟨z, al, u⟩) S (j : Nat) (.node z l tl)) := ⟨⟨j, A, S1, _, _, rfl, set_at HJ4.out, ⟨HP.out.r j HSJ.out, HP.out.l, fun k hk => HP.out.r k (HS3.out k hk), fun h => HP.out.dj j h HSJ.out, HNJ.out, fun k hk h => HP.out.dj k hk (HS3.out k h)⟩, HK3.out.far HN5.out (fun k hk e => HP.out.dj j (e ▸ hk) HSJ.out), HU3.out.far HN5.out (fun k hk e => HNJ.out (e ▸ hk))⟩⟩
  have HNN : Aside0 (Nw ns ((ns1.set j ⟨z, al, bj⟩).set j ⟨z, al, u⟩) S) := ⟨(HN3.out.wid_ HP.out.r).trans (HN5.out.wid_ (fun k e => e ▸ HP.out.r j HSJ.out))⟩
  go_wp2_with (first
   | ((with_reducible refine gate_store (t := 3) (p := 135) rfl ?_); refine store_event (t := 3) (p := 135) (v := ?vo_sg) (w1 := (w4.setCell ⟨gs, j * 5 + 4, none⟩ (.int .i64 u))) ?hg ?ho ?hn ?hr ?_; (case ho => rfl); (case hg => rfl); (case hn => rfl); (case hr => first | (go_simp; done) | (go_simp; rfl)); intro w5 hw; have hs := HD4.out.setR HJ4.out u; have HD5 : Aside0 (Wd w0 w5 g gs n c top ((ns1.set j ⟨z, al, bj⟩).set j ⟨z, al, u⟩)) := ⟨by rw [hw]; exact hs.1⟩; have HW5 : Aside0 (Wr w w5 (fun k => k = gs)) := ⟨HW4.out.trans (by rw [hw]; exact hs.2)⟩; clear hs hw hh4 hm4 hf4)
   | (go_at_call 38; (with_reducible refine (balanceS z l tl S (j : Nat) g gs n c top ((ns1.set j ⟨z, al, bj⟩).set j ⟨z, al, u⟩) w0 w5 HD5.out HX5.out ?side0).mono ?_); (case side0 => have := HLEN.out; have h_ := tfT_sz b d y; rw [HTL.out] at h_; simp only [Tr.sz] at this ⊢; omega); rintro e w6 ⟨u6, ns6, rfl, hd6, hr6, hN6, hw6⟩; have HD6 := Aside0.mk hd6; have HU6 := Aside0.mk hr6; have HN6 : Aside0 (Nw ns ns6 S) := ⟨HNN.out.trans hN6⟩; have HW6 : Aside0 (Wr w w6 (fun k => k = gs)) := ⟨HW5.out.trans hw6⟩; clear hd6 hr6 hN6 hw6))
  go_ret2
  first | exact ⟨_, rfl, _, HD6.out, HU6.out, HN6.out, HW6.out⟩ | exact ⟨_, _, rfl, HD6.out, HU6.out, HN6.out, HW6.out⟩

theorem takeS (a : S35) : ∀ (t : Tr), (∀ (S : Nat → Prop) (ia : Int) (g gs n c : Nat) (top : Int) (ns : List S74) (w0 w : World) (t' : Tr) (m : Int), Wd w0 w g gs n c top ns → RepF ns S ia t → (Tr.sz t) ≤ 700 → tkO (cmpR a) t = some (t', m) → (∀ y ∈ Tr.items t, spec_RatioCmp.f 7000 a.f0 a.f1 a.f2 y.f0 y.f1 y.f2 = some (cmpR a y)) → Calls Tryz.prog 18 #[.pointer (some ⟨g, 0, none⟩), .int .i64 ia, .agg (ci35 a)] w fun e w' => ∃ (u : Int) (ns' : List S74), e = .returned (.tuple #[.int .i64 u, .int .i64 m]) ∧ Wd w0 w' g gs n c top ns' ∧ RepF ns' S u t' ∧ Nw ns ns' S ∧ Wr w w' (fun k => k = gs)) := by
 intro t
 induction t with
 | nil => intro S ia g gs n c top ns w0 w t' m hD h hlen hk ho; cases hk
 | node x l r ihl ihr =>
  intro S ia g gs n c top ns w0 w t' m hD h hlen hk ho
  obtain ⟨i, A, B, al, ar, rfl, hi, hp, hl, hr⟩ := h
  have hc := ho x items_mem_x
  rw [tkO] at hk
  split at hk
  ·
   rename_i hc0
   obtain ⟨⟨p, m⟩, hp', h⟩ := Option.bind_eq_some_iff.1 hk
   simp only [Option.some.injEq, Prod.mk.injEq] at h
   obtain ⟨rfl, rfl⟩ := h
   exact takeLS a x l r S A B i al ar _ g gs n c top ns w0 w hD hi hp hl hr hlen hc ihl p m hp' ho hc0
  ·
   rename_i hc0
   split at hk
   ·
    rename_i hc1
    obtain ⟨⟨p, m⟩, hp', h⟩ := Option.bind_eq_some_iff.1 hk
    simp only [Option.some.injEq, Prod.mk.injEq] at h
    obtain ⟨rfl, rfl⟩ := h
    exact takeRS a x l r S A B i al ar _ g gs n c top ns w0 w hD hi hp hl hr hlen hc ihr p m hp' ho hc0 hc1
   ·
    rename_i hc1
    cases r with
    | nil =>
     simp only [tkTop, Option.some.injEq, Prod.mk.injEq] at hk
     obtain ⟨rfl, rfl⟩ := hk
     exact take0S a x l S A B i al ar _ g gs n c top ns w0 w hD hi hp hl hr hlen hc hc0 hc1
    | node y b d =>
     simp only [tkTop, Option.some.injEq, Prod.mk.injEq] at hk
     obtain ⟨rfl, rfl⟩ := hk
     exact take1S a x y l b d S A B i al ar _ g gs n c top ns w0 w hD hi hp hl hr hlen hc hc0 hc1

set_option maxHeartbeats 2000000 in
set_option maxRecDepth 100000 in
theorem wcount_calls (t : Tr) : ∀ (g : Nat) (ns : List S74) (top a : Int) (w0 w : World) (hI : IsS53 w0 w g ns top) (hr : Rep ns t a) (hlen : t.sz ≤ 1000),
  Calls Tryz.prog 40 #[.pointer (some ⟨g, 0, none⟩), .int .i64 a] w fun e w' => e = .returned (.int .i64 (t.sz : Nat)) ∧ ∃ m, w' = w.drewN m := by
 induction t with
 | nil =>
  intro g ns top a w0 w hI hr hlen
  have hlt : a < 0 := hr
  clear hI hr
  go_enter Tryz.func40, Tryz.ntmps40
  go_wp2
  go_ret
  exact ⟨rfl, 0, rfl⟩
 | node x l r ihl ihr =>
  intro g ns top a w0 w hI hr hlen
  obtain ⟨h0, h1, hx, hl, hr⟩ := hr
  obtain ⟨A0, c0, bk, ge, hR⟩ := id hI
  obtain ⟨ad, e, hx0, hx1, hx2, hx3, hx4⟩ := at_T74 (Kd.R_reads' hR).2.2 a h0 h1
  cases e
  have hb0 := blk_cell bk 0
  simp only [List.getElem?_toArray, List.getElem?_cons_zero, List.getElem?_cons_succ] at hb0
  have hge : (a < 0) = False := eq_false (by omega)
  have hw : wrap64 (wrap64 (1 + (l.sz : Int)) + (r.sz : Int)) = (((Tr.node x l r).sz : Nat) : Int) := by
   simp only [Tr.sz] at *; unfold wrap64; omega
  have HI := Aside0.mk hI
  have HIL := Aside0.mk (fun w h => ihl g ns top _ w0 w h hl (by simp only [Tr.sz] at hlen; omega))
  have HIR := Aside0.mk (fun w h => ihr g ns top _ w0 w h hr (by simp only [Tr.sz] at hlen; omega))
  generalize (((Tr.node x l r).sz : Nat) : Int) = n at hw ⊢
  have HW := Aside0.mk hw
  clear hw
  generalize (rd_T74 ns a).f1 = al at hx3 HIL
  generalize (rd_T74 ns a).f2 = ar at hx4 HIR
  have hlt2 : a < (ns.length : Int) := h1
  clear hI hr hl hx ihl ihr hlen bk ge hR hx0 hx1 hx2
  go_enter Tryz.func40, Tryz.ntmps40
  go_wp2
  go_quiet (first
   | (go_at_call_of 40 al; refine Calls.quiet_of (HIL.out _ ?_); exact HI.out.drewN _)
   | (go_at_call_of 40 ar; refine Calls.quiet_of (HIR.out _ ?_); exact HI.out.drewN _))
  go_wp2
  go_ret
  exact ⟨by show Ending.returned (Value.int IntKind.i64 (wrap64 (wrap64 (1 + (l.sz : Int)) + (r.sz : Int)))) = _; rw [HW.out], _, rfl⟩

set_option maxHeartbeats 4000000 in
set_option maxRecDepth 100000 in
theorem wtell_calls (t : Tr) : ∀ (g : Nat) (ns : List S74) (top a : Int) (w0 w : World) (hI : IsS53 w0 w g ns top) (hr : Rep ns t a) (hlen : t.sz ≤ 1000),
  Calls Tryz.prog 19 #[.pointer (some ⟨g, 0, none⟩), .int .i64 a] w fun e w' => ∃ v, e = .returned v ∧ Kd.R k46 46 w' w.heap.size (fun _ => True) v (twT t) ∧ Below w.heap.size w w' := by
 have hu35 := Tryz.underlying35
 have hu46 := Tryz.underlying46
 have hu74 := Tryz.underlying74
 have hi46 := info46t
 induction t with
 | nil =>
  intro g ns top a w0 w hI hr hlen
  have hlt : a < 0 := hr
  clear hI hr
  go_enter Tryz.func19, Tryz.ntmps19
  go_wp2_with (first
   | ((with_reducible refine gate_dst (N := 9) rfl ?_); refine Kd.R_lit k46 _ 46 ?hg (N := 9) ?hd (xs := ([] : List S46)) (inner := []) (ok := fun _ => True) (okp := fun _ => True) ?hr ?hp (fun _ hk => hk) trivial (Below.refl _ _) (Nat.le_refl _) (by simp) ?_; (case hd => rfl); (case hg => rfl); (case hr => first | (go_simp; done) | (go_simp; rfl)); (case hp => exact Reps.none _ _); intro v9 w1 ho hb hg_ hnew_; have HO := Aside0.mk ho; have HB := Aside0.mk hb; clear ho hb hg_ hnew_))
  go_ret
  exact ⟨_, rfl, HO.out, HB.out⟩
 | node x l r ihl ihr =>
  intro g ns top a w0 w hI hr hlen
  obtain ⟨h0, h1, hx, hl, hr⟩ := hr
  obtain ⟨A0, c0, bk, ge, hR⟩ := id hI
  obtain ⟨ad, e, hx0, hx1, hx2, hx3, hx4⟩ := at_T74 (Kd.R_reads' hR).2.2 a h0 h1
  cases e
  have hb0 := blk_cell bk 0
  simp only [List.getElem?_toArray, List.getElem?_cons_zero, List.getElem?_cons_succ] at hb0
  have hge : (a < 0) = False := eq_false (by omega)
  have HI := Aside0.mk hI
  have HCL := Aside0.mk (fun w h => wcount_calls l g ns top _ w0 w h hl (by simp only [Tr.sz] at hlen; omega))
  have HIL := Aside0.mk (fun w h => ihl g ns top _ w0 w h hl (by simp only [Tr.sz] at hlen; omega))
  have HIR := Aside0.mk (fun w h => ihr g ns top _ w0 w h hr (by simp only [Tr.sz] at hlen; omega))
  have hlen := Aside0.mk (show l.sz + r.sz + 1 ≤ 1000 from hlen)
  rw [hx] at hx0 hx1 hx2
  generalize (rd_T74 ns a).f1 = al at hx3 HIL HCL
  generalize (rd_T74 ns a).f2 = ar at hx4 HIR
  have hlt2 : a < (ns.length : Int) := h1
  clear hI hr hl hx ihl ihr bk ge hR
  go_enter Tryz.func19, Tryz.ntmps19
  go_wp2_with (first
   | ((with_reducible refine gate_dst (N := 5) rfl ?_); refine box_event ?hg (N := 5) ?hd (cs := #[.int .i64 0, .int .i64 0, .int .i64 0, .int .i64 0, .int .i64 0]) (t := 74) ?hr ?_; (case hd => rfl); (case hg => rfl); (case hr => first | (go_simp; done) | (go_simp; rfl)); intro gb hgb w1 hbox hb1; have bX := Aside0.mk hbox; have hB1 := Aside0.mk hb1; have hG := Aside0.mk hgb; have hc0_ := blk_cell hbox 0; have hc1_ := blk_cell hbox 1; have hc2_ := blk_cell hbox 2; have hc3_ := blk_cell hbox 3; have hc4_ := blk_cell hbox 4; have hf0_ := blk_frozen hbox 0; have hf1_ := blk_frozen hbox 1; have hf2_ := blk_frozen hbox 2; have hf3_ := blk_frozen hbox 3; have hf4_ := blk_frozen hbox 4; simp only [List.getElem?_toArray, List.getElem?_cons_zero, List.getElem?_cons_succ] at hc0_ hc1_ hc2_ hc3_ hc4_; clear hbox hb1 hgb))
  have hbk : Aside0 ((((((w1.setCell ⟨gb, 0, none⟩ (.int .i64 x.f0)).setCell ⟨gb, 1, none⟩ (.int .i64 x.f1)).setCell ⟨gb, 2, none⟩ (.int .i64 x.f2)).setCell ⟨gb, 3, none⟩ (.int .i64 al)).setCell ⟨gb, 4, none⟩ (.int .i64 ar)).heap[gb]? = some (.cells #[.int .i64 x.f0, .int .i64 x.f1, .int .i64 x.f2, .int .i64 al, .int .i64 ar] 74 (0, 0))) := ⟨(blk_put (blk_put (blk_put (blk_put (blk_put bX.out 0 _ rfl) 1 _ rfl) 2 _ rfl) 3 _ rfl) 4 _ rfl)⟩
  have hbw : Aside0 (Below w.heap.size w (((((w1.setCell ⟨gb, 0, none⟩ (.int .i64 x.f0)).setCell ⟨gb, 1, none⟩ (.int .i64 x.f1)).setCell ⟨gb, 2, none⟩ (.int .i64 x.f2)).setCell ⟨gb, 3, none⟩ (.int .i64 al)).setCell ⟨gb, 4, none⟩ (.int .i64 ar))) := ⟨(below_set (below_set (below_set (below_set (below_set hB1.out (Nat.le_of_eq hG.out.symm)) (Nat.le_of_eq hG.out.symm)) (Nat.le_of_eq hG.out.symm)) (Nat.le_of_eq hG.out.symm)) (Nat.le_of_eq hG.out.symm))⟩
  clear bX hB1 hG hc0_ hc1_ hc2_ hc3_ hc4_ hf0_ hf1_ hf2_ hf3_ hf4_
  generalize hW_ : (((((w1.setCell ⟨gb, 0, none⟩ (.int .i64 x.f0)).setCell ⟨gb, 1, none⟩ (.int .i64 x.f1)).setCell ⟨gb, 2, none⟩ (.int .i64 x.f2)).setCell ⟨gb, 3, none⟩ (.int .i64 al)).setCell ⟨gb, 4, none⟩ (.int .i64 ar)) = W at hbk hbw ⊢
  clear hW_ w1
  refine start_ (n := 9) (S := fun w' => Below W.heap.size W w') (ds := []) #[false, false, false, false, false, false, false, false, false] (by kernel_rfl) rfl rfl (below_drew (Below.refl _ _)) (fun hHeld => ?_)
  refine qu_ 0 17 ?_
  refine qt_ 1 18 hHeld ?_ rfl rfl (by intro w' sb_; have s0_ : w'.cell? ⟨gb, 0, none⟩ = some (.int .i64 x.f0) := (blk_cell (blk_below hbk.out sb_) 0).trans rfl; have s1_ : w'.cell? ⟨gb, 1, none⟩ = some (.int .i64 x.f1) := (blk_cell (blk_below hbk.out sb_) 1).trans rfl; have s2_ : w'.cell? ⟨gb, 2, none⟩ = some (.int .i64 x.f2) := (blk_cell (blk_below hbk.out sb_) 2).trans rfl; clear sb_; go_simp; with_reducible rfl)
  refine qu_ 2 19 ?_
  refine qu_ 3 20 ?_
  refine qt_ 4 21 hHeld ?_ rfl rfl (by intro w' sb_; have s0_ : w'.cell? ⟨gb, 3, none⟩ = some (.int .i64 al) := (blk_cell (blk_below hbk.out sb_) 3).trans rfl; clear sb_; go_simp; with_reducible rfl)
  refine qo_ 5 (some 22) (fun K hK => ?_)
  refine qc_ Tryz.func40 #[.pointer (some ⟨g, 0, none⟩), .int .i64 al] ?_
  with_reducible refine (HCL.out _ ?side0).mono ?_
  (case side0 => exact (HI.out.below hbw.out).drew)
  rintro e w1 ⟨rfl, q_, hq⟩
  refine ⟨_, rfl, ?_⟩
  have HB1 : Aside0 (Below W.heap.size W w1) := ⟨by rw [hq]; exact pw_below_drewN (below_drew (Below.refl _ _)) q_⟩
  clear hq
  refine hK.out _ _ HB1.out (fun hHeld => ?_)
  clear hK K
  refine qm_ ?_
  refine qu_ 6 23 ?_
  refine qo_ 7 (some 24) (fun K hK => ?_)
  refine Kd.R_lit_step k46 _ 46 ?hg (N := 24) ?hd (xs := [(⟨x, l.sz⟩ : S46)]) (inner := [.int .i64 x.f0, .int .i64 x.f1, .int .i64 x.f2, .int .i64 (l.sz : Nat)]) (ok := fun _ => True) (okp := fun _ => True) ?hr ?hp (fun _ hk => hk) trivial (Below.refl _ _) (Nat.le_refl _) (by simp) ?_; (case hd => rfl); (case hg => rfl); (case hr => first | (go_simp; done) | (go_simp; rfl)); (case hp => exact (Reps.c4 (show Kd.M k46 _ _ _ (⟨x, l.sz⟩ : S46) [.int .i64 x.f0, .int .i64 x.f1, .int .i64 x.f2, .int .i64 (l.sz : Nat)] from k46_mkM _ _ _ (⟨x, l.sz⟩ : S46)) (Reps.none _ _)))
  intro v24 w2 hl hb hg_ hnew_
  clear hnew_
  have HO2 := Aside0.mk (Kd.R_lower hl HB1.out.size)
  have HB2 : Aside0 (Below W.heap.size W w2) := ⟨below_step HB1.out hb⟩
  clear hl hb HB1
  refine hK.out _ _ HB2.out (fun hHeld => ?_)
  clear hK K
  refine qm_ ?_
  refine qu_ 8 6 ?_
  refine done_ (by kernel_rfl) ?_
  clear hHeld
  obtain ⟨A2, c2, e2⟩ := Kd.R_slice HO2.out
  subst e2
  have hm3 : w2.cell? ⟨gb, 3, none⟩ = some (.int .i64 al) := (blk_cell (blk_below hbk.out HB2.out) 3).trans rfl
  obtain ⟨y, hy⟩ : ∃ y, y = [(⟨x, l.sz⟩ : S46)] := ⟨_, rfl⟩
  have HO2 : Aside0 (Kd.R k46 46 w2 W.heap.size (fun _ => True) (.slice A2 1 c2) y) := ⟨by rw [hy]; exact HO2.out⟩
  obtain ⟨y2, hy2⟩ : ∃ y2, y2 = y ++ twT l := ⟨_, rfl⟩
  have HY := Aside0.mk hy
  have HY2 := Aside0.mk hy2
  clear hy hy2
  go_wp2_with (first
   | (go_at_call_of 19 (Value.int .i64 al); with_reducible refine (HIL.out _ ?side0).mono ?_; (case side0 => exact (HI.out.below hbw.out).below HB2.out); rintro e w3 ⟨v29, rfl, h29, hb3⟩; have n1_ := Aside0.mk (Kd.R_elder' HO2.out (Kd.R_base h29) hb3); have n2_ := Aside0.mk (Kd.R_new' h29 (Kd.R_lt HO2.out)); have HB3 : Aside0 (Below W.heap.size W w3) := ⟨below_step HB2.out hb3⟩; clear h29 hb3 hm3; obtain ⟨A3, c3, e3⟩ := Kd.R_slice n2_.out; subst e3)
   | ((with_reducible refine gate_dst (N := 30) rfl ?_); refine Kd.R_append_rows k46 W.heap.size rfl (.tmp 25) (.tmp 29) 28 46 (.agg #[(.int .i64 0), (.int .i64 0), (.int .i64 0), (.int .i64 0)]) 32 rfl Tryz.underlying28 info46t rfl (by decide) (by omega) _ y (twT l) _ _ _ (fun k_ => some k_ ≠ (.slice A3 (twT l).length c3 : Value).ownBlock) (fun _ => False) rfl rfl (Kd.R_mono n1_.out (fun _ hk => hk.2)) (Kd.R_reads' n2_.out).2.2 (fun _ _ h => h) (fun _ h => h.elim) (fun k_ hk => Kd.fresh' (Kd.R_lt n2_.out) k_ hk) (Below.refl _ _) HB3.out.size ?aL ?_; (case aL => have := hlen.out; have h1_ := twT_len l; have h2_ := twT_len r; rw [HY.out]; simp only [List.length_cons, List.length_nil]; omega); intro v30 w4 ho hb hg hat; have HO4_ := Aside0.mk (Kd.R_mono (ok' := fun _ => True) ho (fun _ _ => trivial)); have HB4 : Aside0 (Below W.heap.size W w4) := ⟨below_weaken HB3.out (Nat.le_refl _) hb⟩; clear ho hb hg hat; have HO4 : Aside0 (Kd.R k46 46 w4 W.heap.size (fun _ => True) v30 y2) := ⟨by rw [HY2.out]; exact HO4_.out⟩; clear HO4_; have hm4 : w4.cell? ⟨gb, 4, none⟩ = some (.int .i64 ar) := (blk_cell (blk_below hbk.out HB4.out) 4).trans rfl; obtain ⟨A4, c4, e4⟩ := Kd.R_slice HO4.out; subst e4)
   | (go_at_call_of 19 (Value.int .i64 ar); with_reducible refine (HIR.out _ ?side0).mono ?_; (case side0 => exact (HI.out.below hbw.out).below HB4.out); rintro e w5 ⟨v35, rfl, h35, hb5⟩; have m1_ := Aside0.mk (Kd.R_elder' HO4.out (Kd.R_base h35) hb5); have m2_ := Aside0.mk (Kd.R_new' h35 (Kd.R_lt HO4.out)); have HB5 : Aside0 (Below W.heap.size W w5) := ⟨below_step HB4.out hb5⟩; clear h35 hb5 hm4; obtain ⟨A5, c5, e5⟩ := Kd.R_slice m2_.out; subst e5)
   | ((with_reducible refine gate_dst (N := 36) rfl ?_); refine Kd.R_append_rows k46 W.heap.size rfl (.tmp 31) (.tmp 35) 28 46 (.agg #[(.int .i64 0), (.int .i64 0), (.int .i64 0), (.int .i64 0)]) 32 rfl Tryz.underlying28 info46t rfl (by decide) (by omega) _ y2 (twT r) _ _ _ (fun k_ => some k_ ≠ (.slice A5 (twT r).length c5 : Value).ownBlock) (fun _ => False) rfl rfl (Kd.R_mono m1_.out (fun _ hk => hk.2)) (Kd.R_reads' m2_.out).2.2 (fun _ _ h => h) (fun _ h => h.elim) (fun k_ hk => Kd.fresh' (Kd.R_lt m2_.out) k_ hk) (Below.refl _ _) HB5.out.size ?aL ?_; (case aL => have := hlen.out; have h1_ := twT_len l; have h2_ := twT_len r; rw [HY2.out, HY.out]; simp only [List.length_append, List.length_cons, List.length_nil]; omega); intro v36 w6 ho hb hg hat; have HO6 := Aside0.mk (Kd.R_mono (ok' := fun _ => True) ho (fun _ _ => trivial)); have HB6 : Aside0 (Below W.heap.size W w6) := ⟨below_weaken HB5.out (Nat.le_refl _) hb⟩; clear ho hb hg hat))
  go_ret
  exact ⟨_, rfl, Kd.R_lower (by have h_ := HO6.out; rw [HY2.out, HY.out] at h_; simpa [twT] using h_) hbw.out.size, below_step hbw.out HB6.out⟩

theorem wd_of {w0 w : World} {g : Nat} {ns : List S74} {top : Int} (h : IsS53 w0 w g ns top) (hp : 0 < ns.length) : ∃ gs c, Wd w0 w g gs ns.length c top ns := by
 obtain ⟨A, c, hb, hg, hR⟩ := h
 obtain ⟨gs, cap, e, _, _, cells, hc⟩ := Kd.R_form hR hp
 have hne := Kd.R_ne hR hb (by decide)
 rw [e] at hR hb hne
 exact ⟨gs, cap, hb, hg, fun e => hne (by rw [e]; rfl), hR⟩
def rcA (l : List S35) (a : S35) : Bool := l.all fun y => (spec_RatioCmp.f 7000 a.f0 a.f1 a.f2 y.f0 y.f1 y.f2).isSome
theorem rcA_ok {l : List S35} {a : S35} (h : rcA l a = true) : ∀ y ∈ l, spec_RatioCmp.f 7000 a.f0 a.f1 a.f2 y.f0 y.f1 y.f2 = some (cmpR a y) := fun y hy => by
 obtain ⟨r, hr⟩ := Option.isSome_iff_exists.1 (List.all_eq_true.1 h y hy)
 unfold cmpR
 rw [hr]; rfl
def spec_TreeTake.f (l0 : List S46) (a0 a1 a2 : Int) : Option (List S46 × Int × Int) :=
 (spec_TreeRight.f 7000 l0).bind fun b => if b = true then (spec_ItemRight.f a0 a1 a2).bind fun b => if b = true then
  (if (l0.any fun x => eqI x.f0 ⟨a0, a1, a2⟩) = true then (if l0.length ≤ 60 ∧ (trd 60 l0).2 = true ∧ rcA (trd 60 l0).1.items ⟨a0, a1, a2⟩ = true then (tkO (cmpR ⟨a0, a1, a2⟩) (trd 60 l0).1).bind fun q => some (twT q.1, q.2, 0) else none)
   else some ([], 0, 4)) else some ([], 0, 1) else some ([], 0, 1)
theorem any_more {p : S46 → Bool} {l : List S46} {k : Nat} (h : k < l.length) : (l.take (k + 1)).any p = ((l.take k).any p || p (rd_T46 l k)) := by
 rw [rd_mem h, List.take_succ_eq_append_getElem h, List.any_append]
 simp
theorem topL_at {w0 w : World} {g gs n c : Nat} {top : Int} {ns : List S74} (h : Wd w0 w g gs n c top ns) : w.cell? ⟨g, 1, none⟩ = some (.int .i64 top) := (blk_cell h.1 1).trans rfl

set_option maxHeartbeats 8000000 in
set_option maxRecDepth 100000 in
theorem spec_TreeTake.calls (A0 : Option Addr) (c0 : Nat) (l0 : List S46) (a0 a1 a2 : Int) (r0 : List S46) (r1 r2 : Int) (w : World) (hr0 : Kd.C k46 w A0 l0.length l0) (hc0 : l0.length ≤ c0) (h : spec_TreeTake.f l0 a0 a1 a2 = some (r0, r1, r2)) :
  Calls Tryz.prog 5 #[.agg #[.slice A0 l0.length c0], .agg #[.int .i64 a0, .int .i64 a1, .int .i64 a2]] w fun e w' => ∃ v0_ : Value, e = .returned (.agg #[v0_, .int .i64 r1, .int .i64 r2]) ∧ Kd.R k46 46 w' w.heap.size (fun _ => True) v0_ r0 ∧ Below w.heap.size w w' := by
 have hu30 := Tryz.underlying30
 have hu35 := Tryz.underlying35
 have hu46 := Tryz.underlying46
 have hu32 := Tryz.underlying32
 have hi32 : (Tryz.prog.info? 32).map (fun i => (i.zero, i.size, i.bytes)) = some (some (.agg #[.slice none 0 0, (.int .i64 0), (.int .i64 0)]), 3, 40) := by kernel_rfl
 have hmx : l0.length ≤ 9223372036854775807 := hr0.2.1
 unfold spec_TreeTake.f at h
 obtain ⟨b, h1, h2⟩ := Option.bind_eq_some_iff.1 h
 have HR := Aside0.mk hr0
 have HC := Aside0.mk hc0
 have HI := Aside0.mk h1
 clear h h1 hr0 hc0
 cases b with
 | false =>
  rw [if_neg (by simp)] at h2
  simp only [Option.some.injEq, Prod.mk.injEq] at h2
  obtain ⟨rfl, rfl, rfl⟩ := h2
  go_enter Tryz.func5, Tryz.ntmps5
  go_wp2_with (first
   | ((with_reducible refine gate_dst (N := 2) rfl ?_); refine box_event ?hg (N := 2) ?hd (cs := #[.slice A0 l0.length c0]) (t := 30) ?hr ?_; (case hd => rfl); (case hg => rfl); (case hr => first | (go_simp; done) | (go_simp; rfl)); intro g2 hgb w1 hbox hb1; have B21 := Aside0.mk hbox; have HB1 : Aside0 (Below w.heap.size w w1) := ⟨hb1⟩; clear hgb hbox hb1)
   | ((with_reducible refine gate_dst (N := 3) rfl ?_); refine box_event ?hg (N := 3) ?hd (cs := #[.int .i64 a0, .int .i64 a1, .int .i64 a2]) (t := 35) ?hr ?_; (case hd => rfl); (case hg => rfl); (case hr => first | (go_simp; done) | (go_simp; rfl)); intro g3 hgb w2 hbox hb1; have B22 := Aside0.mk (blk_below B21.out hb1); have B32 := Aside0.mk hbox; have HB2 : Aside0 (Below w.heap.size w w2) := ⟨below_step HB1.out hb1⟩; clear hgb hbox hb1)
   | ((with_reducible refine gate_dst (N := 4) rfl ?_); refine box_event ?hg (N := 4) ?hd (cs := #[.slice none 0 0, .int .i64 0, .int .i64 0]) (t := 32) ?hr ?_; (case hd => rfl); (case hg => rfl); (case hr => first | (go_simp; done) | (go_simp; rfl)); intro g4 hgb w3 hbox hb1; have B23 := Aside0.mk (blk_below B22.out hb1); have B33 := Aside0.mk (blk_below B32.out hb1); have B43 := Aside0.mk hbox; have HB3 : Aside0 (Below w.heap.size w w3) := ⟨below_step HB2.out hb1⟩; have G4 : Aside0 (w.heap.size ≤ g4 ∧ g4 < w3.heap.size) := ⟨by have h1_ := HB2.out.size; have h2_ := blk_lt hbox; omega⟩; have c20_ : w3.cell? ⟨g2, 0, none⟩ = some (.slice A0 l0.length c0) := (blk_cell B23.out 0).trans rfl; clear hgb hbox hb1)
   | (go_at_call 15; (with_reducible refine (spec_TreeRight.calls 7000 _ _ l0 false _ ?side0 HC.out HI.out).mono ?_); (case side0 => exact Kd.C_below HR.out HB3.out); rintro e w4 ⟨rfl, hb_⟩; have B24 := Aside0.mk (blk_below B23.out hb_); have B34 := Aside0.mk (blk_below B33.out hb_); have B44 := Aside0.mk (blk_below B43.out hb_); have HB4 : Aside0 (Below w.heap.size w w4) := ⟨below_step HB3.out hb_⟩; clear c20_; have c20_ : w4.cell? ⟨g2, 0, none⟩ = some (.slice A0 l0.length c0) := (blk_cell B24.out 0).trans rfl; have c30_ : w4.cell? ⟨g3, 0, none⟩ = some (.int .i64 a0) := (blk_cell B34.out 0).trans rfl; have c31_ : w4.cell? ⟨g3, 1, none⟩ = some (.int .i64 a1) := (blk_cell B34.out 1).trans rfl; have c32_ : w4.cell? ⟨g3, 2, none⟩ = some (.int .i64 a2) := (blk_cell B34.out 2).trans rfl; have c40_ : w4.cell? ⟨g4, 0, none⟩ = some (.slice none 0 0) := (blk_cell B44.out 0).trans rfl; have c41_ : w4.cell? ⟨g4, 1, none⟩ = some (.int .i64 0) := (blk_cell B44.out 1).trans rfl; have c42_ : w4.cell? ⟨g4, 2, none⟩ = some (.int .i64 0) := (blk_cell B44.out 2).trans rfl; have hf4_ : ∀ j, w4.frozen? ⟨g4, j, none⟩ = false := fun j => blk_frozen B44.out j; clear hb_)
   | ((with_reducible refine gate_store (t := 32) (p := 4) rfl ?_); refine store_event (t := 32) (p := 4) (v := ?vo_s1) (w1 := (set32 w4 g4 (.slice none 0 0) 0 1)) ?hg ?ho ?hn ?hr ?_; (case ho => rfl); (case hg => rfl); (case hn => rfl); (case hr => first | (go_simp; done) | (go_simp; rfl)); intro w9 hw; have B49 : Aside0 (w9.heap[g4]? = some (.cells #[.slice none 0 0, .int .i64 0, .int .i64 1] 32 (0, 0))) := ⟨by rw [hw]; exact set32_blk B44.out _ _ _⟩; have HB9 : Aside0 (Below w.heap.size w w9) := ⟨by rw [hw]; exact set32_below HB4.out G4.out.1 _ _ _⟩; clear hw))
  (try simp only [Exit.inBlock, Exit.then])
  refine bodyPost_ret (results_cell_row rfl _ _ g4 32 #[.slice none 0 0, .int .i64 0, .int .i64 1] (0, 0) _ rfl B49.out hu32 rfl (by kernel_rfl)) rfl ?_
  exact ⟨_, rfl, Kd.R_nil _ _ _ _ _, HB9.out⟩
 | true =>
  rw [if_pos rfl] at h2
  obtain ⟨b, hir, h2⟩ := Option.bind_eq_some_iff.1 h2
  have HIR := Aside0.mk hir
  clear hir
  cases b with
  | false =>
   rw [if_neg (by simp)] at h2
   simp only [Option.some.injEq, Prod.mk.injEq] at h2
   obtain ⟨rfl, rfl, rfl⟩ := h2
   go_enter Tryz.func5, Tryz.ntmps5
   go_wp2_with (first
    | ((with_reducible refine gate_dst (N := 2) rfl ?_); refine box_event ?hg (N := 2) ?hd (cs := #[.slice A0 l0.length c0]) (t := 30) ?hr ?_; (case hd => rfl); (case hg => rfl); (case hr => first | (go_simp; done) | (go_simp; rfl)); intro g2 hgb w1 hbox hb1; have B21 := Aside0.mk hbox; have HB1 : Aside0 (Below w.heap.size w w1) := ⟨hb1⟩; clear hgb hbox hb1)
    | ((with_reducible refine gate_dst (N := 3) rfl ?_); refine box_event ?hg (N := 3) ?hd (cs := #[.int .i64 a0, .int .i64 a1, .int .i64 a2]) (t := 35) ?hr ?_; (case hd => rfl); (case hg => rfl); (case hr => first | (go_simp; done) | (go_simp; rfl)); intro g3 hgb w2 hbox hb1; have B22 := Aside0.mk (blk_below B21.out hb1); have B32 := Aside0.mk hbox; have HB2 : Aside0 (Below w.heap.size w w2) := ⟨below_step HB1.out hb1⟩; clear hgb hbox hb1)
    | ((with_reducible refine gate_dst (N := 4) rfl ?_); refine box_event ?hg (N := 4) ?hd (cs := #[.slice none 0 0, .int .i64 0, .int .i64 0]) (t := 32) ?hr ?_; (case hd => rfl); (case hg => rfl); (case hr => first | (go_simp; done) | (go_simp; rfl)); intro g4 hgb w3 hbox hb1; have B23 := Aside0.mk (blk_below B22.out hb1); have B33 := Aside0.mk (blk_below B32.out hb1); have B43 := Aside0.mk hbox; have HB3 : Aside0 (Below w.heap.size w w3) := ⟨below_step HB2.out hb1⟩; have G4 : Aside0 (w.heap.size ≤ g4 ∧ g4 < w3.heap.size) := ⟨by have h1_ := HB2.out.size; have h2_ := blk_lt hbox; omega⟩; have c20_ : w3.cell? ⟨g2, 0, none⟩ = some (.slice A0 l0.length c0) := (blk_cell B23.out 0).trans rfl; clear hgb hbox hb1)
    | (go_at_call 15; (with_reducible refine (spec_TreeRight.calls 7000 _ _ l0 true _ ?side0 HC.out HI.out).mono ?_); (case side0 => exact Kd.C_below HR.out HB3.out); rintro e w4 ⟨rfl, hb_⟩; have B24 := Aside0.mk (blk_below B23.out hb_); have B34 := Aside0.mk (blk_below B33.out hb_); have B44 := Aside0.mk (blk_below B43.out hb_); have HB4 : Aside0 (Below w.heap.size w w4) := ⟨below_step HB3.out hb_⟩; clear c20_; have c20_ : w4.cell? ⟨g2, 0, none⟩ = some (.slice A0 l0.length c0) := (blk_cell B24.out 0).trans rfl; have c30_ : w4.cell? ⟨g3, 0, none⟩ = some (.int .i64 a0) := (blk_cell B34.out 0).trans rfl; have c31_ : w4.cell? ⟨g3, 1, none⟩ = some (.int .i64 a1) := (blk_cell B34.out 1).trans rfl; have c32_ : w4.cell? ⟨g3, 2, none⟩ = some (.int .i64 a2) := (blk_cell B34.out 2).trans rfl; have c40_ : w4.cell? ⟨g4, 0, none⟩ = some (.slice none 0 0) := (blk_cell B44.out 0).trans rfl; have c41_ : w4.cell? ⟨g4, 1, none⟩ = some (.int .i64 0) := (blk_cell B44.out 1).trans rfl; have c42_ : w4.cell? ⟨g4, 2, none⟩ = some (.int .i64 0) := (blk_cell B44.out 2).trans rfl; have hf4_ : ∀ j, w4.frozen? ⟨g4, j, none⟩ = false := fun j => blk_frozen B44.out j; clear hb_)
    | (go_at_call 16; (with_reducible refine (spec_ItemRight.calls a0 a1 a2 false _ HIR.out).mono ?_); rintro e w5 ⟨rfl, hb_⟩; have B25 := Aside0.mk (blk_below B24.out hb_); have B35 := Aside0.mk (blk_below B34.out hb_); have B45 := Aside0.mk (blk_below B44.out hb_); have HB5 : Aside0 (Below w.heap.size w w5) := ⟨below_step HB4.out hb_⟩; clear c20_ c30_ c31_ c32_ c40_ c41_ c42_ hf4_; have c20_ : w5.cell? ⟨g2, 0, none⟩ = some (.slice A0 l0.length c0) := (blk_cell B25.out 0).trans rfl; have c30_ : w5.cell? ⟨g3, 0, none⟩ = some (.int .i64 a0) := (blk_cell B35.out 0).trans rfl; have c31_ : w5.cell? ⟨g3, 1, none⟩ = some (.int .i64 a1) := (blk_cell B35.out 1).trans rfl; have c32_ : w5.cell? ⟨g3, 2, none⟩ = some (.int .i64 a2) := (blk_cell B35.out 2).trans rfl; have c40_ : w5.cell? ⟨g4, 0, none⟩ = some (.slice none 0 0) := (blk_cell B45.out 0).trans rfl; have c41_ : w5.cell? ⟨g4, 1, none⟩ = some (.int .i64 0) := (blk_cell B45.out 1).trans rfl; have c42_ : w5.cell? ⟨g4, 2, none⟩ = some (.int .i64 0) := (blk_cell B45.out 2).trans rfl; have hf4_ : ∀ j, w5.frozen? ⟨g4, j, none⟩ = false := fun j => blk_frozen B45.out j; clear hb_)
    | ((with_reducible refine gate_store (t := 32) (p := 4) rfl ?_); refine store_event (t := 32) (p := 4) (v := ?vo_s2) (w1 := (set32 w5 g4 (.slice none 0 0) 0 1)) ?hg ?ho ?hn ?hr ?_; (case ho => rfl); (case hg => rfl); (case hn => rfl); (case hr => first | (go_simp; done) | (go_simp; rfl)); intro w9 hw; have B49 : Aside0 (w9.heap[g4]? = some (.cells #[.slice none 0 0, .int .i64 0, .int .i64 1] 32 (0, 0))) := ⟨by rw [hw]; exact set32_blk B45.out _ _ _⟩; have HB9 : Aside0 (Below w.heap.size w w9) := ⟨by rw [hw]; exact set32_below HB5.out G4.out.1 _ _ _⟩; clear hw))
   (try simp only [Exit.inBlock, Exit.then])
   refine bodyPost_ret (results_cell_row rfl _ _ g4 32 #[.slice none 0 0, .int .i64 0, .int .i64 1] (0, 0) _ rfl B49.out hu32 rfl (by kernel_rfl)) rfl ?_
   exact ⟨_, rfl, Kd.R_nil _ _ _ _ _, HB9.out⟩
  | true =>
   rw [if_pos rfl] at h2
   by_cases ha : (l0.any fun x => eqI x.f0 ⟨a0, a1, a2⟩) = true
   ·
    rw [if_pos ha] at h2
    have HANY := Aside0.mk ha
    by_cases hh : l0.length ≤ 60 ∧ (trd 60 l0).2 = true ∧ rcA (trd 60 l0).1.items ⟨a0, a1, a2⟩ = true
    ·
     rw [if_pos hh] at h2
     obtain ⟨⟨t', n⟩, htk, h2⟩ := Option.bind_eq_some_iff.1 h2
     simp only [Option.some.injEq, Prod.mk.injEq] at h2
     obtain ⟨rfl, rfl, rfl⟩ := h2
     have HRD : Aside0 (spec_l04Read.f l0 = some (lay 0 (trd 60 l0).1, topO 0 (trd 60 l0).1)) := ⟨by unfold spec_l04Read.f; rw [if_pos ⟨hh.1, hh.2.1⟩]⟩
     have hsz := trd_sz 60 l0
     generalize (trd 60 l0).1 = t at hh htk HRD hsz
     have HO := Aside0.mk (rcA_ok hh.2.2)
     have HSZ : Aside0 (t.sz ≤ 700) := ⟨by have := hh.1; omega⟩
     have HTK := Aside0.mk htk
     have htk3 := tkO_ok _ _ _ _ htk
     have HPOS : Aside0 (0 < t.sz) := ⟨by omega⟩
     have HSZ2 : Aside0 (t'.sz ≤ 1000) := ⟨by have := hh.1; omega⟩
     have HREP : Aside0 (RepF (lay 0 t) (fun k => ([] : List S74).length ≤ k ∧ k < ([] : List S74).length + t.sz) (topO 0 t) t) := ⟨by simpa using RepF_lay t [] []⟩
     clear ha hh htk htk3 hsz
     go_enter Tryz.func5, Tryz.ntmps5
     go_wp2_with (first
      | ((with_reducible refine gate_dst (N := 2) rfl ?_); refine box_event ?hg (N := 2) ?hd (cs := #[.slice A0 l0.length c0]) (t := 30) ?hr ?_; (case hd => rfl); (case hg => rfl); (case hr => first | (go_simp; done) | (go_simp; rfl)); intro g2 hgb w1 hbox hb1; have B21 := Aside0.mk hbox; have HB1 : Aside0 (Below w.heap.size w w1) := ⟨hb1⟩; clear hgb hbox hb1)
      | ((with_reducible refine gate_dst (N := 3) rfl ?_); refine box_event ?hg (N := 3) ?hd (cs := #[.int .i64 a0, .int .i64 a1, .int .i64 a2]) (t := 35) ?hr ?_; (case hd => rfl); (case hg => rfl); (case hr => first | (go_simp; done) | (go_simp; rfl)); intro g3 hgb w2 hbox hb1; have B22 := Aside0.mk (blk_below B21.out hb1); have B32 := Aside0.mk hbox; have HB2 : Aside0 (Below w.heap.size w w2) := ⟨below_step HB1.out hb1⟩; clear hgb hbox hb1)
      | ((with_reducible refine gate_dst (N := 4) rfl ?_); refine box_event ?hg (N := 4) ?hd (cs := #[.slice none 0 0, .int .i64 0, .int .i64 0]) (t := 32) ?hr ?_; (case hd => rfl); (case hg => rfl); (case hr => first | (go_simp; done) | (go_simp; rfl)); intro g4 hgb w3 hbox hb1; have B23 := Aside0.mk (blk_below B22.out hb1); have B33 := Aside0.mk (blk_below B32.out hb1); have B43 := Aside0.mk hbox; have HB3 : Aside0 (Below w.heap.size w w3) := ⟨below_step HB2.out hb1⟩; have G4 : Aside0 (w.heap.size ≤ g4 ∧ g4 < w3.heap.size) := ⟨by have h1_ := HB2.out.size; have h2_ := blk_lt hbox; omega⟩; have c20_ : w3.cell? ⟨g2, 0, none⟩ = some (.slice A0 l0.length c0) := (blk_cell B23.out 0).trans rfl; clear hgb hbox hb1)
      | (go_at_call 15; (with_reducible refine (spec_TreeRight.calls 7000 _ _ l0 true _ ?side0 HC.out HI.out).mono ?_); (case side0 => exact Kd.C_below HR.out HB3.out); rintro e w4 ⟨rfl, hb_⟩; have B24 := Aside0.mk (blk_below B23.out hb_); have B34 := Aside0.mk (blk_below B33.out hb_); have B44 := Aside0.mk (blk_below B43.out hb_); have HB4 : Aside0 (Below w.heap.size w w4) := ⟨below_step HB3.out hb_⟩; clear c20_; have c20_ : w4.cell? ⟨g2, 0, none⟩ = some (.slice A0 l0.length c0) := (blk_cell B24.out 0).trans rfl; have c30_ : w4.cell? ⟨g3, 0, none⟩ = some (.int .i64 a0) := (blk_cell B34.out 0).trans rfl; have c31_ : w4.cell? ⟨g3, 1, none⟩ = some (.int .i64 a1) := (blk_cell B34.out 1).trans rfl; have c32_ : w4.cell? ⟨g3, 2, none⟩ = some (.int .i64 a2) := (blk_cell B34.out 2).trans rfl; have c40_ : w4.cell? ⟨g4, 0, none⟩ = some (.slice none 0 0) := (blk_cell B44.out 0).trans rfl; have c41_ : w4.cell? ⟨g4, 1, none⟩ = some (.int .i64 0) := (blk_cell B44.out 1).trans rfl; have c42_ : w4.cell? ⟨g4, 2, none⟩ = some (.int .i64 0) := (blk_cell B44.out 2).trans rfl; have hf4_ : ∀ j, w4.frozen? ⟨g4, j, none⟩ = false := fun j => blk_frozen B44.out j; clear hb_)
      | (go_at_call 16; (with_reducible refine (spec_ItemRight.calls a0 a1 a2 true _ HIR.out).mono ?_); rintro e w5 ⟨rfl, hb_⟩; have B25 := Aside0.mk (blk_below B24.out hb_); have B35 := Aside0.mk (blk_below B34.out hb_); have B45 := Aside0.mk (blk_below B44.out hb_); have HB5 : Aside0 (Below w.heap.size w w5) := ⟨below_step HB4.out hb_⟩; clear c20_ c30_ c31_ c32_ c40_ c41_ c42_ hf4_; have c20_ : w5.cell? ⟨g2, 0, none⟩ = some (.slice A0 l0.length c0) := (blk_cell B25.out 0).trans rfl; have c30_ : w5.cell? ⟨g3, 0, none⟩ = some (.int .i64 a0) := (blk_cell B35.out 0).trans rfl; have c31_ : w5.cell? ⟨g3, 1, none⟩ = some (.int .i64 a1) := (blk_cell B35.out 1).trans rfl; have c32_ : w5.cell? ⟨g3, 2, none⟩ = some (.int .i64 a2) := (blk_cell B35.out 2).trans rfl; have c40_ : w5.cell? ⟨g4, 0, none⟩ = some (.slice none 0 0) := (blk_cell B45.out 0).trans rfl; have c41_ : w5.cell? ⟨g4, 1, none⟩ = some (.int .i64 0) := (blk_cell B45.out 1).trans rfl; have c42_ : w5.cell? ⟨g4, 2, none⟩ = some (.int .i64 0) := (blk_cell B45.out 2).trans rfl; have hf4_ : ∀ j, w5.frozen? ⟨g4, j, none⟩ = false := fun j => blk_frozen B45.out j; clear hb_))
     go_loopg [5, 6] l0.length (fun gg s5 s6 wr => ∃ (kk : Nat) (bb : Bool), kk ≤ l0.length ∧ l0.length - kk ≤ gg ∧ s5 = .bool bb ∧ s6 = .int .i64 kk ∧ Aside0 (bb = (l0.take kk).any fun x => eqI x.f0 ⟨a0, a1, a2⟩) ∧ Aside0 (Below w5.heap.size w5 wr))
     case atStart => exact ⟨0, false, Nat.zero_le _, by omega, rfl, rfl, ⟨by simp⟩, ⟨Below.refl _ _⟩⟩
     case round =>
      obtain ⟨kk, bb, hkk, hg, rfl, rfl, HBB, BW⟩ := hrel
      have hc2 : wr.cell? ⟨g2, 0, none⟩ = some (.slice A0 l0.length c0) := pw_cell_below BW.out c20_
      have hc30 := pw_cell_below BW.out c30_
      have hc31 := pw_cell_below BW.out c31_
      have hc32 := pw_cell_below BW.out c32_
      clear c20_ c30_ c31_ c32_ c40_ c41_ c42_ hf4_
      by_cases hlt : kk < l0.length
      ·
       have hltz : (kk : Int) < (l0.length : Int) := by omega
       obtain ⟨ad, e, hx0, hx1, hx2, hx3⟩ := at_T46 (Kd.C_below (Kd.C_below HR.out HB5.out) BW.out) (kk : Int) (by omega) (by omega)
       cases e
       simp only [Int.toNat_natCast] at hx0 hx1 hx2 hx3
       cases bb with
       | true =>
        go_wp2
        refine start_ (n := 12) (S := fun w' => Drawn0 wr w') (ds := []) #[false, false, false, false, false, false, false, false, false, false, false, false] (by kernel_rfl) rfl rfl ⟨⟨1, rfl⟩⟩ (fun hHeld => ?_)
        refine qu_ 0 26 ?_
        refine qu_ 1 27 ?_
        refine qn_ 2 28 ?_
        refine qn_ 3 29 ?_
        refine qn_ 4 30 ?_
        refine qn_ 5 31 ?_
        refine qn_ 6 32 ?_
        refine qn_ 7 33 ?_
        refine qn_ 8 34 ?_
        refine qn_ 9 35 ?_
        refine qu_ 10 36 ?_
        refine qu_ 11 5 ?_
        refine done_ (by kernel_rfl) ?_
        clear hx0 hx1 hx2 hx3 hc2 hc30 hc31 hc32
        go_wp2
        go_roundg (l0.length - (kk + 1))
        case measure => omega
        case rel =>
         refine ⟨kk + 1, true, by omega, by omega, rfl, by go_num, ⟨?_⟩, ⟨pw_below_drewN BW.out _⟩⟩
         rw [any_more hlt, ← HBB.out]
         rfl
       | false =>
        go_wp2
        refine start_ (n := 12) (S := fun w' => Drawn0 wr w') (ds := []) #[false, false, false, false, false, false, false, false, false, false, false, false] (by kernel_rfl) rfl rfl ⟨⟨1, rfl⟩⟩ (fun hHeld => ?_)
        refine qu_ 0 26 ?_
        refine qu_ 1 27 ?_
        refine qu_ 2 28 ?_
        refine qt_ 3 29 hHeld ?_ rfl rfl (by intro w' sb_; obtain ⟨⟨n_, rfl⟩⟩ := sb_; have s0_ : (wr.drewN n_).cell? ⟨g2, 0, none⟩ = some (.slice (some ad) l0.length c0) := hc2; go_simp; with_reducible rfl)
        refine qu_ 4 30 ?_
        refine qu_ 5 31 ?_
        refine qu_ 6 32 ?_
        refine qt_ 7 33 hHeld ?_ rfl rfl (by intro w' sb_; obtain ⟨⟨n_, rfl⟩⟩ := sb_; have s0_ : (wr.drewN n_).cell? (ad.add (kk * 4)) = some (.int .i64 (rd_T46 l0 kk).f0.f0) := hx0; have s1_ : (wr.drewN n_).cell? ⟨(ad.add (kk * 4)).block, (ad.add (kk * 4)).off + 1, none⟩ = some (.int .i64 (rd_T46 l0 kk).f0.f1) := hx1; have s2_ : (wr.drewN n_).cell? ⟨(ad.add (kk * 4)).block, (ad.add (kk * 4)).off + 2, none⟩ = some (.int .i64 (rd_T46 l0 kk).f0.f2) := hx2; go_simp; with_reducible rfl)
        refine qt_ 8 34 hHeld ?_ rfl rfl (by intro w' sb_; obtain ⟨⟨n_, rfl⟩⟩ := sb_; have s0_ : (wr.drewN n_).cell? ⟨g3, 0, none⟩ = some (.int .i64 a0) := hc30; have s1_ : (wr.drewN n_).cell? ⟨g3, 1, none⟩ = some (.int .i64 a1) := hc31; have s2_ : (wr.drewN n_).cell? ⟨g3, 2, none⟩ = some (.int .i64 a2) := hc32; go_simp; with_reducible rfl)
        refine qu_ 9 35 ?_
        refine qu_ 10 36 ?_
        refine qu_ 11 5 ?_
        refine done_ (by kernel_rfl) ?_
        clear hx0 hx1 hx2 hx3 hc2 hc30 hc31 hc32
        go_wp2
        go_roundg (l0.length - (kk + 1))
        case measure => omega
        case rel =>
         refine ⟨kk + 1, _, by omega, by omega, rfl, by go_num, ⟨?_⟩, ⟨pw_below_drewN BW.out _⟩⟩
         rw [any_more hlt, ← HBB.out]
         rfl
      ·
       have hltz : ¬ (kk : Int) < (l0.length : Int) := by omega
       have : kk = l0.length := by omega
       subst this
       have hbb : bb = true := by have h_ := HBB.out; rw [List.take_length] at h_; exact h_.trans HANY.out
       subst hbb
       have B26 := Aside0.mk (blk_below B25.out BW.out)
       have B36 := Aside0.mk (blk_below B35.out BW.out)
       have B46 := Aside0.mk (blk_below B45.out BW.out)
       have HB6 : Aside0 (Below w.heap.size w wr) := ⟨below_step HB5.out BW.out⟩
       have c40_ : wr.cell? ⟨g4, 0, none⟩ = some (.slice none 0 0) := (blk_cell B46.out 0).trans rfl; have c41_ : wr.cell? ⟨g4, 1, none⟩ = some (.int .i64 0) := (blk_cell B46.out 1).trans rfl; have c42_ : wr.cell? ⟨g4, 2, none⟩ = some (.int .i64 0) := (blk_cell B46.out 2).trans rfl
       have hf4_ : ∀ j, wr.frozen? ⟨g4, j, none⟩ = false := fun j => blk_frozen B46.out j
       clear BW HB5 B25 B35 B45
       generalize wr = w6 at *
       go_wp2_with (first
        | (go_at_call 17; (with_reducible refine (spec_l04Read.calls A0 c0 l0 (lay 0 t) (topO 0 t) w6 w6 ?side0 ?side1 HC.out HRD.out).mono ?_); (case side0 => exact Below.refl _ _); (case side1 => exact Kd.C_below HR.out HB6.out); rintro e w7 ⟨g7, rfl, hi7, hb7_, hb_⟩; have HD7 := Aside0.mk hi7; have B27 := Aside0.mk (blk_below B26.out hb_); have B37 := Aside0.mk (blk_below B36.out hb_); have B47 := Aside0.mk (blk_below B46.out hb_); have HB7 : Aside0 (Below w.heap.size w w7) := ⟨below_step HB6.out hb_⟩; clear hb7_ hb_ hi7 c40_ c41_ c42_ hf4_))
       obtain ⟨gs, cc, hd7⟩ := wd_of HD7.out (by rw [lay_len]; exact HPOS.out)
       have HW7 := Aside0.mk hd7
       clear hd7
       refine start_ (n := 12) (S := fun w' => Drawn0 w7 w') (ds := [6]) #[false, false, false, false, false, false, false, false, false, false, false, false] (by kernel_rfl) rfl rfl ⟨⟨1, rfl⟩⟩ (fun hHeld => ?_)
       refine qu_ 0 43 ?_
       refine qu_ 1 44 ?_
       refine qu_ 2 45 ?_
       refine qu_ 3 46 ?_
       refine qt_ 4 47 hHeld ?_ rfl rfl (by intro w' sb_; obtain ⟨⟨n_, rfl⟩⟩ := sb_; have s0_ : (w7.drewN n_).cell? ⟨g7, 1, none⟩ = some (.int .i64 (topO 0 t)) := topL_at HW7.out; go_simp; with_reducible rfl)
       refine qt_ 5 48 hHeld ?_ rfl rfl (by intro w' sb_; obtain ⟨⟨n_, rfl⟩⟩ := sb_; have s0_ : (w7.drewN n_).cell? ⟨g3, 0, none⟩ = some (.int .i64 a0) := (blk_cell B37.out 0).trans rfl; have s1_ : (w7.drewN n_).cell? ⟨g3, 1, none⟩ = some (.int .i64 a1) := (blk_cell B37.out 1).trans rfl; have s2_ : (w7.drewN n_).cell? ⟨g3, 2, none⟩ = some (.int .i64 a2) := (blk_cell B37.out 2).trans rfl; go_simp; with_reducible rfl)
       refine ql_ 6 (some 49) (fun K hK => ?_)
       refine qc_ Tryz.func18 #[.pointer (some ⟨g7, 0, none⟩), .int .i64 (topO 0 t), .agg (ci35 ⟨a0, a1, a2⟩)] ?_
       have HD_ : Aside0 (Wd w6 w7.drew g7 gs (lay 0 t).length cc (topO 0 t) (lay 0 t)) := ⟨HW7.out.drewN 1⟩
       with_reducible refine (takeS ⟨a0, a1, a2⟩ t _ (topO 0 t) g7 gs (lay 0 t).length cc (topO 0 t) (lay 0 t) w6 w7.drew t' n HD_.out HREP.out HSZ.out HTK.out HO.out).mono ?_
       rintro e w8 ⟨u, ns8, rfl, hd8, hr8, hN8, hw8⟩
       refine ⟨_, rfl, ?_⟩
       clear hHeld
       have HW8 := Aside0.mk hd8
       have HU8 := Aside0.mk hr8
       have hgs : g4 ≠ gs := fun e => absurd HD_.out.gs_ge (by have h1_ := blk_lt B46.out; omega)
       have B48 := Aside0.mk (hw8.keepC (w := w7.drew) B47.out hgs)
       have HB8 : Aside0 (Below w.heap.size w w8) := ⟨(hw8.below (base := w.heap.size) (w0 := w) (below_drew HB7.out) (fun k e => by rw [e]; exact Nat.le_trans HB6.out.size HD_.out.gs_ge) HB7.out.size)⟩
       clear hd8 hr8 hN8 hw8 HD_ hgs
       refine hK.out _ _ ?_
       clear hK K
       refine qm_ ?_
       refine qu_ 7 42 ?_
       refine qu_ 8 50 ?_
       refine qu_ 9 51 ?_
       refine qu_ 10 8 ?_
       refine qu_ 11 9 ?_
       refine done_ (by kernel_rfl) ?_
       go_wp2_with (first
        | (go_at_call 19; (with_reducible refine (wtell_calls t' g7 ns8 (topO 0 t) u w6 w8 HW8.out.isS HU8.out.rep HSZ2.out).mono ?_); rintro e w9 ⟨v, rfl, hv, hb_⟩; have HV := Aside0.mk hv; have B49a := Aside0.mk (blk_below B48.out hb_); have HB9a : Aside0 (Below w.heap.size w w9) := ⟨below_step HB8.out hb_⟩; have c40_ : w9.cell? ⟨g4, 0, none⟩ = some (.slice none 0 0) := (blk_cell B49a.out 0).trans rfl; have c41_ : w9.cell? ⟨g4, 1, none⟩ = some (.int .i64 0) := (blk_cell B49a.out 1).trans rfl; have c42_ : w9.cell? ⟨g4, 2, none⟩ = some (.int .i64 0) := (blk_cell B49a.out 2).trans rfl; have hf4_ : ∀ j, w9.frozen? ⟨g4, j, none⟩ = false := fun j => blk_frozen B49a.out j; clear hv hb_; obtain ⟨Av, cv, ev⟩ := Kd.R_slice HV.out; subst ev)
        | ((with_reducible refine gate_store (t := 32) (p := 4) rfl ?_); refine store_event (t := 32) (p := 4) (v := ?vo_ts) (w1 := (set32 w9 g4 (.slice Av (twT t').length cv) n 0)) ?hg ?ho ?hn ?hr ?_; (case ho => rfl); (case hg => rfl); (case hn => rfl); (case hr => first | (go_simp; done) | (go_simp; rfl)); intro w10 hw; have B49 : Aside0 (w10.heap[g4]? = some (.cells #[.slice Av (twT t').length cv, .int .i64 n, .int .i64 0] 32 (0, 0))) := ⟨by rw [hw]; exact set32_blk B49a.out _ _ _⟩; have HV9 : Aside0 (Kd.R k46 46 w10 w8.heap.size (fun _ => True) (.slice Av (twT t').length cv) (twT t')) := ⟨by rw [hw]; exact set32_R B49a.out HV.out _ _ _⟩; have HB9 : Aside0 (Below w.heap.size w w10) := ⟨by rw [hw]; exact set32_below HB9a.out G4.out.1 _ _ _⟩; clear hw))
       (try simp only [Exit.inBlock, Exit.then])
       refine bodyPost_ret (results_cell_row rfl _ _ g4 32 #[.slice Av (twT t').length cv, .int .i64 n, .int .i64 0] (0, 0) _ rfl B49.out hu32 rfl (by kernel_rfl)) rfl ?_
       exact ⟨_, rfl, Kd.R_lower HV9.out HB8.out.size, HB9.out⟩
    ·
     rw [if_neg hh] at h2
     cases h2
   ·
    rw [if_neg ha] at h2
    simp only [Option.some.injEq, Prod.mk.injEq] at h2
    obtain ⟨rfl, rfl, rfl⟩ := h2
    have HANY : Aside0 ((l0.any fun x => eqI x.f0 ⟨a0, a1, a2⟩) = false) := ⟨by simpa using ha⟩
    clear ha
    go_enter Tryz.func5, Tryz.ntmps5
    go_wp2_with (first
     | ((with_reducible refine gate_dst (N := 2) rfl ?_); refine box_event ?hg (N := 2) ?hd (cs := #[.slice A0 l0.length c0]) (t := 30) ?hr ?_; (case hd => rfl); (case hg => rfl); (case hr => first | (go_simp; done) | (go_simp; rfl)); intro g2 hgb w1 hbox hb1; have B21 := Aside0.mk hbox; have HB1 : Aside0 (Below w.heap.size w w1) := ⟨hb1⟩; clear hgb hbox hb1)
     | ((with_reducible refine gate_dst (N := 3) rfl ?_); refine box_event ?hg (N := 3) ?hd (cs := #[.int .i64 a0, .int .i64 a1, .int .i64 a2]) (t := 35) ?hr ?_; (case hd => rfl); (case hg => rfl); (case hr => first | (go_simp; done) | (go_simp; rfl)); intro g3 hgb w2 hbox hb1; have B22 := Aside0.mk (blk_below B21.out hb1); have B32 := Aside0.mk hbox; have HB2 : Aside0 (Below w.heap.size w w2) := ⟨below_step HB1.out hb1⟩; clear hgb hbox hb1)
     | ((with_reducible refine gate_dst (N := 4) rfl ?_); refine box_event ?hg (N := 4) ?hd (cs := #[.slice none 0 0, .int .i64 0, .int .i64 0]) (t := 32) ?hr ?_; (case hd => rfl); (case hg => rfl); (case hr => first | (go_simp; done) | (go_simp; rfl)); intro g4 hgb w3 hbox hb1; have B23 := Aside0.mk (blk_below B22.out hb1); have B33 := Aside0.mk (blk_below B32.out hb1); have B43 := Aside0.mk hbox; have HB3 : Aside0 (Below w.heap.size w w3) := ⟨below_step HB2.out hb1⟩; have G4 : Aside0 (w.heap.size ≤ g4 ∧ g4 < w3.heap.size) := ⟨by have h1_ := HB2.out.size; have h2_ := blk_lt hbox; omega⟩; have c20_ : w3.cell? ⟨g2, 0, none⟩ = some (.slice A0 l0.length c0) := (blk_cell B23.out 0).trans rfl; clear hgb hbox hb1)
     | (go_at_call 15; (with_reducible refine (spec_TreeRight.calls 7000 _ _ l0 true _ ?side0 HC.out HI.out).mono ?_); (case side0 => exact Kd.C_below HR.out HB3.out); rintro e w4 ⟨rfl, hb_⟩; have B24 := Aside0.mk (blk_below B23.out hb_); have B34 := Aside0.mk (blk_below B33.out hb_); have B44 := Aside0.mk (blk_below B43.out hb_); have HB4 : Aside0 (Below w.heap.size w w4) := ⟨below_step HB3.out hb_⟩; clear c20_; have c20_ : w4.cell? ⟨g2, 0, none⟩ = some (.slice A0 l0.length c0) := (blk_cell B24.out 0).trans rfl; have c30_ : w4.cell? ⟨g3, 0, none⟩ = some (.int .i64 a0) := (blk_cell B34.out 0).trans rfl; have c31_ : w4.cell? ⟨g3, 1, none⟩ = some (.int .i64 a1) := (blk_cell B34.out 1).trans rfl; have c32_ : w4.cell? ⟨g3, 2, none⟩ = some (.int .i64 a2) := (blk_cell B34.out 2).trans rfl; have c40_ : w4.cell? ⟨g4, 0, none⟩ = some (.slice none 0 0) := (blk_cell B44.out 0).trans rfl; have c41_ : w4.cell? ⟨g4, 1, none⟩ = some (.int .i64 0) := (blk_cell B44.out 1).trans rfl; have c42_ : w4.cell? ⟨g4, 2, none⟩ = some (.int .i64 0) := (blk_cell B44.out 2).trans rfl; have hf4_ : ∀ j, w4.frozen? ⟨g4, j, none⟩ = false := fun j => blk_frozen B44.out j; clear hb_)
     | (go_at_call 16; (with_reducible refine (spec_ItemRight.calls a0 a1 a2 true _ HIR.out).mono ?_); rintro e w5 ⟨rfl, hb_⟩; have B25 := Aside0.mk (blk_below B24.out hb_); have B35 := Aside0.mk (blk_below B34.out hb_); have B45 := Aside0.mk (blk_below B44.out hb_); have HB5 : Aside0 (Below w.heap.size w w5) := ⟨below_step HB4.out hb_⟩; clear c20_ c30_ c31_ c32_ c40_ c41_ c42_ hf4_; have c20_ : w5.cell? ⟨g2, 0, none⟩ = some (.slice A0 l0.length c0) := (blk_cell B25.out 0).trans rfl; have c30_ : w5.cell? ⟨g3, 0, none⟩ = some (.int .i64 a0) := (blk_cell B35.out 0).trans rfl; have c31_ : w5.cell? ⟨g3, 1, none⟩ = some (.int .i64 a1) := (blk_cell B35.out 1).trans rfl; have c32_ : w5.cell? ⟨g3, 2, none⟩ = some (.int .i64 a2) := (blk_cell B35.out 2).trans rfl; have c40_ : w5.cell? ⟨g4, 0, none⟩ = some (.slice none 0 0) := (blk_cell B45.out 0).trans rfl; have c41_ : w5.cell? ⟨g4, 1, none⟩ = some (.int .i64 0) := (blk_cell B45.out 1).trans rfl; have c42_ : w5.cell? ⟨g4, 2, none⟩ = some (.int .i64 0) := (blk_cell B45.out 2).trans rfl; have hf4_ : ∀ j, w5.frozen? ⟨g4, j, none⟩ = false := fun j => blk_frozen B45.out j; clear hb_))
    go_loopg [5, 6] l0.length (fun gg s5 s6 wr => ∃ (kk : Nat) (bb : Bool), kk ≤ l0.length ∧ l0.length - kk ≤ gg ∧ s5 = .bool bb ∧ s6 = .int .i64 kk ∧ Aside0 (bb = (l0.take kk).any fun x => eqI x.f0 ⟨a0, a1, a2⟩) ∧ Aside0 (Below w5.heap.size w5 wr))
    case atStart => exact ⟨0, false, Nat.zero_le _, by omega, rfl, rfl, ⟨by simp⟩, ⟨Below.refl _ _⟩⟩
    case round =>
     obtain ⟨kk, bb, hkk, hg, rfl, rfl, HBB, BW⟩ := hrel
     have hc2 : wr.cell? ⟨g2, 0, none⟩ = some (.slice A0 l0.length c0) := pw_cell_below BW.out c20_
     have hc30 := pw_cell_below BW.out c30_
     have hc31 := pw_cell_below BW.out c31_
     have hc32 := pw_cell_below BW.out c32_
     clear c20_ c30_ c31_ c32_ c40_ c41_ c42_ hf4_
     by_cases hlt : kk < l0.length
     ·
      have hltz : (kk : Int) < (l0.length : Int) := by omega
      obtain ⟨ad, e, hx0, hx1, hx2, hx3⟩ := at_T46 (Kd.C_below (Kd.C_below HR.out HB5.out) BW.out) (kk : Int) (by omega) (by omega)
      cases e
      simp only [Int.toNat_natCast] at hx0 hx1 hx2 hx3
      cases bb with
      | true =>
       go_wp2
       refine start_ (n := 12) (S := fun w' => Drawn0 wr w') (ds := []) #[false, false, false, false, false, false, false, false, false, false, false, false] (by kernel_rfl) rfl rfl ⟨⟨1, rfl⟩⟩ (fun hHeld => ?_)
       refine qu_ 0 26 ?_
       refine qu_ 1 27 ?_
       refine qn_ 2 28 ?_
       refine qn_ 3 29 ?_
       refine qn_ 4 30 ?_
       refine qn_ 5 31 ?_
       refine qn_ 6 32 ?_
       refine qn_ 7 33 ?_
       refine qn_ 8 34 ?_
       refine qn_ 9 35 ?_
       refine qu_ 10 36 ?_
       refine qu_ 11 5 ?_
       refine done_ (by kernel_rfl) ?_
       clear hx0 hx1 hx2 hx3 hc2 hc30 hc31 hc32
       go_wp2
       go_roundg (l0.length - (kk + 1))
       case measure => omega
       case rel =>
        refine ⟨kk + 1, true, by omega, by omega, rfl, by go_num, ⟨?_⟩, ⟨pw_below_drewN BW.out _⟩⟩
        rw [any_more hlt, ← HBB.out]
        rfl
      | false =>
       go_wp2
       refine start_ (n := 12) (S := fun w' => Drawn0 wr w') (ds := []) #[false, false, false, false, false, false, false, false, false, false, false, false] (by kernel_rfl) rfl rfl ⟨⟨1, rfl⟩⟩ (fun hHeld => ?_)
       refine qu_ 0 26 ?_
       refine qu_ 1 27 ?_
       refine qu_ 2 28 ?_
       refine qt_ 3 29 hHeld ?_ rfl rfl (by intro w' sb_; obtain ⟨⟨n_, rfl⟩⟩ := sb_; have s0_ : (wr.drewN n_).cell? ⟨g2, 0, none⟩ = some (.slice (some ad) l0.length c0) := hc2; go_simp; with_reducible rfl)
       refine qu_ 4 30 ?_
       refine qu_ 5 31 ?_
       refine qu_ 6 32 ?_
       refine qt_ 7 33 hHeld ?_ rfl rfl (by intro w' sb_; obtain ⟨⟨n_, rfl⟩⟩ := sb_; have s0_ : (wr.drewN n_).cell? (ad.add (kk * 4)) = some (.int .i64 (rd_T46 l0 kk).f0.f0) := hx0; have s1_ : (wr.drewN n_).cell? ⟨(ad.add (kk * 4)).block, (ad.add (kk * 4)).off + 1, none⟩ = some (.int .i64 (rd_T46 l0 kk).f0.f1) := hx1; have s2_ : (wr.drewN n_).cell? ⟨(ad.add (kk * 4)).block, (ad.add (kk * 4)).off + 2, none⟩ = some (.int .i64 (rd_T46 l0 kk).f0.f2) := hx2; go_simp; with_reducible rfl)
       refine qt_ 8 34 hHeld ?_ rfl rfl (by intro w' sb_; obtain ⟨⟨n_, rfl⟩⟩ := sb_; have s0_ : (wr.drewN n_).cell? ⟨g3, 0, none⟩ = some (.int .i64 a0) := hc30; have s1_ : (wr.drewN n_).cell? ⟨g3, 1, none⟩ = some (.int .i64 a1) := hc31; have s2_ : (wr.drewN n_).cell? ⟨g3, 2, none⟩ = some (.int .i64 a2) := hc32; go_simp; with_reducible rfl)
       refine qu_ 9 35 ?_
       refine qu_ 10 36 ?_
       refine qu_ 11 5 ?_
       refine done_ (by kernel_rfl) ?_
       clear hx0 hx1 hx2 hx3 hc2 hc30 hc31 hc32
       go_wp2
       go_roundg (l0.length - (kk + 1))
       case measure => omega
       case rel =>
        refine ⟨kk + 1, _, by omega, by omega, rfl, by go_num, ⟨?_⟩, ⟨pw_below_drewN BW.out _⟩⟩
        rw [any_more hlt, ← HBB.out]
        rfl
     ·
      have hltz : ¬ (kk : Int) < (l0.length : Int) := by omega
      have : kk = l0.length := by omega
      subst this
      have hbb : bb = false := by have h_ := HBB.out; rw [List.take_length] at h_; exact h_.trans HANY.out
      subst hbb
      have B26 := Aside0.mk (blk_below B25.out BW.out)
      have B36 := Aside0.mk (blk_below B35.out BW.out)
      have B46 := Aside0.mk (blk_below B45.out BW.out)
      have HB6 : Aside0 (Below w.heap.size w wr) := ⟨below_step HB5.out BW.out⟩
      have c40_ : wr.cell? ⟨g4, 0, none⟩ = some (.slice none 0 0) := (blk_cell B46.out 0).trans rfl; have c41_ : wr.cell? ⟨g4, 1, none⟩ = some (.int .i64 0) := (blk_cell B46.out 1).trans rfl; have c42_ : wr.cell? ⟨g4, 2, none⟩ = some (.int .i64 0) := (blk_cell B46.out 2).trans rfl
      have hf4_ : ∀ j, wr.frozen? ⟨g4, j, none⟩ = false := fun j => blk_frozen B46.out j
      clear BW HB5 B25 B35 B45
      generalize wr = w6 at *
      go_wp2_with (first
       | ((with_reducible refine gate_store (t := 32) (p := 4) rfl ?_); refine store_event (t := 32) (p := 4) (v := ?vo_s3) (w1 := (set32 w6 g4 (.slice none 0 0) 0 4)) ?hg ?ho ?hn ?hr ?_; (case ho => rfl); (case hg => rfl); (case hn => rfl); (case hr => first | (go_simp; done) | (go_simp; rfl)); intro w9 hw; have B49 : Aside0 (w9.heap[g4]? = some (.cells #[.slice none 0 0, .int .i64 0, .int .i64 4] 32 (0, 0))) := ⟨by rw [hw]; exact set32_blk B46.out _ _ _⟩; have HB9 : Aside0 (Below w.heap.size w w9) := ⟨by rw [hw]; exact set32_below HB6.out G4.out.1 _ _ _⟩; clear hw))
      (try simp only [Exit.inBlock, Exit.then])
      refine bodyPost_ret (results_cell_row rfl _ _ g4 32 #[.slice none 0 0, .int .i64 0, .int .i64 4] (0, 0) _ rfl B49.out hu32 rfl (by kernel_rfl)) rfl ?_
      exact ⟨_, rfl, Kd.R_nil _ _ _ _ _, HB9.out⟩

end Go.Proofs.YtenlceojmjkbkaaGreat.XFnExactTreeTake
