/- Functions that FnExactTreeBelow comes to, as Lean functions with their contracts: written by the prover's own program (wip/tpl/myprint.py) over the kit's printer, some contracts by hand. Conditions: none. -/
import Derived.Test.YtenlceojmjkbkaaXFnExactTreeBelowx0
namespace Go.Proofs.Ytenlceojmjkbkaa.XFnExactTreeBelow
open Go.RowKit Go.Proofs.YtenlceojmjkbkaaW.PrintWords Go.Proofs.YtenlceojmjkbkaaW.PrintLast Go.Proofs.YtenlceojmjkbkaaW.PrintMore
attribute [local go_sem] max2_int min2_int max_two min_two max_three min_three max_four min_four   -- for this text's walks alone
set_option linter.unusedVariables false
set_option linter.unusedSimpArgs false

/-! ### spec_l04Read: function 91 -/
attribute [local go_sem] Oper.semAt_some
theorem info33t : (Try.prog.info? 33).map (fun i => (i.zero, i.size, i.bytes)) = some (some (.agg #[(.int .i64 0), (.int .i64 0), (.int .i64 0)]), 3, 24) := by kernel_rfl
theorem info130t : (Try.prog.info? 130).map (fun i => (i.zero, i.size, i.bytes)) = some (some (.agg #[(.int .i64 0), (.int .i64 0), (.int .i64 0), (.int .i64 0), (.int .i64 0)]), 5, 40) := by kernel_rfl
theorem info156t : (Try.prog.info? 156).map (fun i => (i.zero, i.size, i.bytes)) = some (some (.agg #[(.int .i64 0), (.int .i64 0), (.int .i64 0), (.int .i64 0)]), 4, 32) := by kernel_rfl
/-! ### Trees, in plain terms -/
inductive Tr where
  | nil
  | node (x : S33) (l r : Tr)
def Tr.ht : Tr → Nat
  | .nil => 0
  | .node _ l r => 1 + max l.ht r.ht
def Tr.sz : Tr → Nat
  | .nil => 0
  | .node _ l r => l.sz + r.sz + 1
def Tr.items : Tr → List S33
  | .nil => []
  | .node x l r => l.items ++ x :: r.items
def Tr.flat : Tr → Bool
  | .nil => true
  | .node _ l r => decide (-1 ≤ (l.ht : Int) - r.ht ∧ (l.ht : Int) - r.ht ≤ 1) && (l.flat && r.flat)
theorem Tr.ht_le : ∀ t : Tr, t.ht ≤ t.sz
  | .nil => Nat.le_refl _
  | .node _ l r => by
    have := Tr.ht_le l
    have := Tr.ht_le r
    simp only [Tr.ht, Tr.sz]; omega
theorem Tr.items_len : ∀ t : Tr, t.items.length = t.sz
  | .nil => rfl
  | .node _ l r => by
    have := Tr.items_len l
    have := Tr.items_len r
    simp only [Tr.items, Tr.sz, List.length_append, List.length_cons]; omega

/-- The tree that a list tells, and whether it tells one. -/
def trd : Nat → List S156 → Tr × Bool
  | 0, _ => (.nil, true)
  | _ + 1, [] => (.nil, true)
  | k + 1, x :: l => if 0 ≤ x.f1 ∧ x.f1 ≤ l.length then (.node x.f0 (trd k (l.take x.f1.toNat)).1 (trd k (l.drop x.f1.toNat)).1, (trd k (l.take x.f1.toNat)).2 && (trd k (l.drop x.f1.toNat)).2) else (.nil, false)
theorem trd_sz : ∀ (k : Nat) (l : List S156), (trd k l).1.sz ≤ l.length
  | 0, _ => Nat.zero_le _
  | _ + 1, [] => Nat.zero_le _
  | k + 1, x :: l => by
    rw [trd]
    split
    · have h1 := trd_sz k (l.take x.f1.toNat)
      have h2 := trd_sz k (l.drop x.f1.toNat)
      simp only [Tr.sz, List.length_take, List.length_drop, List.length_cons] at *
      omega
    · exact Nat.zero_le _

theorem items_mem_l {x y : S33} {l r : Tr} (h : y ∈ l.items) : y ∈ (Tr.node x l r).items := by simp only [Tr.items, List.mem_append]; exact .inl h
theorem items_mem_r {x y : S33} {l r : Tr} (h : y ∈ r.items) : y ∈ (Tr.node x l r).items := by simp only [Tr.items, List.mem_append, List.mem_cons]; exact .inr (.inr h)
theorem items_mem_x {x : S33} {l r : Tr} : x ∈ (Tr.node x l r).items := by simp [Tr.items]
/-- A world that has come of w by growth alone. -/
structure BW (w : World) where
  W : World
  h : Below w.heap.size w W
instance {w : World} : Nonempty (BW w) := ⟨⟨w, Below.refl _ _⟩⟩
theorem BW.cell {w : World} (p : BW w) {a : Addr} {v : Value} (h : w.cell? a = some v) : p.W.cell? a = some v := pw_cell_below p.h h
theorem Calls.bw {P : Program} {f : FuncId} {args : Array Value} {w : World} {p : BW w} {v : Value} (h : Calls P f args p.W fun e w' => e = .returned v ∧ Below p.W.heap.size p.W w') : Calls P f args p.W fun e w'' => e = .returned v ∧ ∃ q : BW w, w'' = q.W :=
  h.mono fun _ w' ⟨he, hb⟩ => ⟨he, ⟨w', below_then p.h p.h.size hb⟩, rfl⟩
theorem Calls.bwd {P : Program} {f : FuncId} {args : Array Value} {w : World} {p : BW w} {v : Value} (h : Calls P f args p.W fun e w' => e = .returned v ∧ Drawn0 p.W w') : Calls P f args p.W fun e w'' => e = .returned v ∧ ∃ q : BW w, w'' = q.W :=
  Calls.bw (h.mono fun _ _ ⟨he, hb⟩ => ⟨he, hb.below⟩)
theorem wp_region_bw {P : Program} {id : Nat} {Q : Exit → Act → World → Prop} {a : Act} {w : World} {l : List Oper} (hm : P.follows .mixedOrders = true) (hB : Region.lexB .any l.toArray = true)
    (h : wpQuiet P l.toArray (fun w' => ∃ p : BW w, w' = p.W) (fun a' => ∀ w', (∃ p : BW w, w' = p.W) → Q .normal a' w') l a) : (Code.region id l.toArray true).wp P Q a w :=
  wp_region_quiet (C := fun w' => ∃ p : BW w, w' = p.W) hm hB ⟨⟨w.drew, below_drew (Below.refl _ _)⟩, rfl⟩ (by simpa using h)
/-! #### struct type 130 -/
structure S130 where
  f0 : S33
  f1 : Int
  f2 : Int
def z130 : S130 := ⟨z33, (0 : Int), (0 : Int)⟩
def k130 : Kd S130 := Kd.iso (Kd.pair k33 (Kd.pair (Kd.int .i64) (Kd.int .i64))) (fun x : S130 => (x.f0, x.f1, x.f2))
theorem k130_open {w : World} {x : S130} {cs : List Value} (h : k130.K w x cs) : cs = [.int .i64 x.f0.f0, .int .i64 x.f0.f1, .int .i64 x.f0.f2, .int .i64 x.f1, .int .i64 x.f2] := by
  obtain ⟨_, _, rfl, s0, ⟨_, _, rfl, rfl, rfl⟩⟩ := h
  obtain rfl := k33_open s0
  exact rfl
theorem k130_openM {w : World} {base : Nat} {ok : Nat → Prop} {x : S130} {cs : List Value} (h : k130.M w base ok x cs) : cs = [.int .i64 x.f0.f0, .int .i64 x.f0.f1, .int .i64 x.f0.f2, .int .i64 x.f1, .int .i64 x.f2] := by
  obtain ⟨_, _, rfl, s0, ⟨_, _, rfl, rfl, rfl⟩⟩ := h
  obtain rfl := k33_openM s0
  exact rfl
theorem k130_mk (w : World) (x : S130)  : k130.K w x [.int .i64 x.f0.f0, .int .i64 x.f0.f1, .int .i64 x.f0.f2, .int .i64 x.f1, .int .i64 x.f2] := ⟨[.int .i64 x.f0.f0, .int .i64 x.f0.f1, .int .i64 x.f0.f2], [.int .i64 x.f1, .int .i64 x.f2], rfl, (k33_mk w x.f0 ), ⟨[.int .i64 x.f1], [.int .i64 x.f2], rfl, rfl, rfl⟩⟩
theorem k130_mkM (w : World) (base : Nat) (ok : Nat → Prop) (x : S130)  : k130.M w base ok x [.int .i64 x.f0.f0, .int .i64 x.f0.f1, .int .i64 x.f0.f2, .int .i64 x.f1, .int .i64 x.f2] := ⟨[.int .i64 x.f0.f0, .int .i64 x.f0.f1, .int .i64 x.f0.f2], [.int .i64 x.f1, .int .i64 x.f2], rfl, (k33_mkM w base ok x.f0 ), ⟨[.int .i64 x.f1], [.int .i64 x.f2], rfl, rfl, rfl⟩⟩
def rd_T130 (xs : List S130) (i : Int) : S130 := xs.getD i.toNat z130
theorem at_T130 {w : World} {A : Option Addr} {n : Nat} {xs : List S130} (h : Kd.C k130 w A n xs) (i : Int) (h0 : 0 ≤ i) (h1 : i < n) : ∃ ad , A = some ad ∧ w.cell? (ad.add (i.toNat * 5)) = some (.int .i64 (rd_T130 xs i).f0.f0) ∧ w.cell? ⟨(ad.add (i.toNat * 5)).block, (ad.add (i.toNat * 5)).off + 1, none⟩ = some (.int .i64 (rd_T130 xs i).f0.f1) ∧ w.cell? ⟨(ad.add (i.toNat * 5)).block, (ad.add (i.toNat * 5)).off + 2, none⟩ = some (.int .i64 (rd_T130 xs i).f0.f2) ∧ w.cell? ⟨(ad.add (i.toNat * 5)).block, (ad.add (i.toNat * 5)).off + 3, none⟩ = some (.int .i64 (rd_T130 xs i).f1) ∧ w.cell? ⟨(ad.add (i.toNat * 5)).block, (ad.add (i.toNat * 5)).off + 4, none⟩ = some (.int .i64 (rd_T130 xs i).f2) := by
  obtain ⟨ad, c, e, _, hK, hc0⟩ := Kd.C_get h z130 i h0 h1
  have hc : ∀ j u, c[j]? = some u → w.cell? (ad.add (i.toNat * 5 + j)) = some u := hc0
  obtain rfl := k130_open hK
  exact ⟨ad, e, hc 0 _ rfl, by rw [← add_field _ _ 1 (by omega)]; exact hc 1 _ rfl, by rw [← add_field _ _ 2 (by omega)]; exact hc 2 _ rfl, by rw [← add_field _ _ 3 (by omega)]; exact hc 3 _ rfl, by rw [← add_field _ _ 4 (by omega)]; exact hc 4 _ rfl⟩

/-! ### The reference's wood: its nodes' row stands behind the box -/
def IsS119 (w0 W : World) (g : Nat) (f0 : List S130) (f1 : Int) : Prop := ∃ A0 c0, W.heap[g]? = some (.cells #[.slice A0 f0.length c0, .int .i64 f1] 119 (0, 0)) ∧ w0.heap.size ≤ g ∧ Kd.R k130 130 W w0.heap.size (fun _ => True) (.slice A0 f0.length c0) f0
section
variable {w0 W : World} {g : Nat} {f0 : List S130} {f1 : Int}
theorem IsS119.below {W1 : World} (h : IsS119 w0 W g f0 f1) (hw : Below W.heap.size W W1) : IsS119 w0 W1 g f0 f1 := by
  obtain ⟨A0, c0, h1, h2, h3⟩ := h
  exact ⟨A0, c0, blk_below h1 hw, h2, Kd.R_below h3 hw⟩
theorem IsS119.alloc (h : IsS119 w0 W g f0 f1) (o : Obj) : IsS119 w0 (W.alloc o) g f0 f1 := h.below (below_alloc (Below.refl _ _) o)
theorem IsS119.drewN (h : IsS119 w0 W g f0 f1) (m : Nat) : IsS119 w0 (W.drewN m) g f0 f1 := h.below (pw_below_drewN (Below.refl _ _) m)
theorem IsS119.drew (h : IsS119 w0 W g f0 f1) : IsS119 w0 W.drew g f0 f1 := h.below (below_drew (Below.refl _ _))
theorem IsS119.at_ {w' : World} {m : Nat} (hq : W.drewN m = w') (h : IsS119 w0 W g f0 f1) : IsS119 w0 w' g f0 f1 := by subst hq; exact IsS119.drewN h m
theorem IsS119.lt (h : IsS119 w0 W g f0 f1) : g < W.heap.size := by obtain ⟨_, _, h1, _⟩ := h; exact blk_lt h1
theorem IsS119.ge (h : IsS119 w0 W g f0 f1) : w0.heap.size ≤ g := by obtain ⟨_, _, _, h2, _⟩ := h; exact h2
theorem IsS119.fresh (h : IsS119 w0 W g f0 f1) : ∀ k, W.heap.size ≤ k → k ≠ g := fun k hk e => by have := h.lt; omega
theorem IsS119.apart {α : Type} {d : Kd α} {e : Nat} {base : Nat} {ok : Nat → Prop} {v : Value} {xs : List α} (h : IsS119 w0 W g f0 f1) (ho : d.R e W base ok v xs) (ht : ∀ q, q ∈ e :: d.E → q ≠ 119) : d.R e W base (fun k => ok k ∧ k ≠ g) v xs := by
  obtain ⟨_, _, h1, _⟩ := h
  exact Kd.R_types ho h1 ht
theorem IsS119.own_ne {α : Type} {d : Kd α} {e : Nat} {base : Nat} {ok : Nat → Prop} {v : Value} {xs : List α} (h : IsS119 w0 W g f0 f1) (ho : d.R e W base ok v xs) (ht : e ≠ 119) : some g ≠ v.ownBlock := by
  obtain ⟨_, _, h1, _⟩ := h
  exact Kd.R_ne ho h1 ht
theorem IsS119.ne_blk {a : Nat} {cs : Array Value} {t : TypeId} (h : IsS119 w0 W g f0 f1) (hb2 : W.heap[a]? = some (.cells cs t (0, 0))) (ht : t ≠ 119) : g ≠ a := by
  obtain ⟨_, _, h1, _⟩ := h
  intro e; subst e
  rw [h1] at hb2
  simp only [Option.some.injEq, Obj.cells.injEq] at hb2
  exact ht hb2.2.1.symm
end
theorem cellS119_0 {W : World} {g : Nat} {A0 : Option Addr} {c0 : Nat} {f0 : List (S130)} {f1 : Int} (h : W.heap[g]? = some (.cells #[.slice A0 f0.length c0, .int .i64 f1] 119 (0, 0))) : W.cell? ⟨g, 0, none⟩ = some (.slice A0 f0.length c0) := (blk_cell h 0).trans rfl
theorem cellS119_1 {W : World} {g : Nat} {A0 : Option Addr} {c0 : Nat} {f0 : List (S130)} {f1 : Int} (h : W.heap[g]? = some (.cells #[.slice A0 f0.length c0, .int .i64 f1] 119 (0, 0))) : W.cell? ⟨g, 1, none⟩ = some (.int .i64 f1) := (blk_cell h 1).trans rfl
/-- The part of the wood at a place tells a tree. -/
def Rep (ns : List S130) : Tr → Int → Prop
  | .nil, a => a < 0
  | .node x l r, a => 0 ≤ a ∧ a < ns.length ∧ (rd_T130 ns a).f0 = x ∧ Rep ns l (rd_T130 ns a).f1 ∧ Rep ns r (rd_T130 ns a).f2
theorem Rep.uniq {ns : List S130} : ∀ {t t' : Tr} {a : Int}, Rep ns t a → Rep ns t' a → t = t'
  | .nil, .nil, _, _, _ => rfl
  | .nil, .node _ _ _, _, h, h' => by have := h'.1; simp only [Rep] at h; omega
  | .node _ _ _, .nil, _, h, h' => by have := h.1; simp only [Rep] at h'; omega
  | .node _ _ _, .node _ _ _, _, ⟨_, _, h1, h2, h3⟩, ⟨_, _, h1', h2', h3'⟩ => by
    rw [← h1, ← h1', Rep.uniq h2 h2', Rep.uniq h3 h3']
attribute [local go_sem] Oper.semAt_some
/-! ### The wood that a list tells -/
def topO (o : Nat) : Tr → Int
  | .nil => -1
  | .node _ _ _ => o
def lay : Nat → Tr → List S130
  | _, .nil => []
  | o, .node x l r => ⟨x, topO (o + 1) l, topO (o + 1 + l.sz) r⟩ :: (lay (o + 1) l ++ lay (o + 1 + l.sz) r)
theorem lay_len : ∀ (t : Tr) (o : Nat), (lay o t).length = t.sz
  | .nil, _ => rfl
  | .node _ l r, o => by simp [lay, Tr.sz, lay_len l, lay_len r]
theorem rd130_at (p : List S130) (y : S130) (q : List S130) : rd_T130 (p ++ y :: q) (p.length : Int) = y := by simp [rd_T130]
theorem Rep_lay : ∀ (t : Tr) (p q : List S130), Rep (p ++ lay p.length t ++ q) t (topO p.length t)
  | .nil, _, _ => by simp [Rep, topO]
  | .node x l r, p, q => by
    have e1 : p ++ lay p.length (.node x l r) ++ q = (p ++ [⟨x, topO (p.length + 1) l, topO (p.length + 1 + l.sz) r⟩]) ++ lay (p ++ [(⟨x, topO (p.length + 1) l, topO (p.length + 1 + l.sz) r⟩ : S130)]).length l ++ (lay (p.length + 1 + l.sz) r ++ q) := by simp [lay]
    have e2 : p ++ lay p.length (.node x l r) ++ q = (p ++ [⟨x, topO (p.length + 1) l, topO (p.length + 1 + l.sz) r⟩] ++ lay (p.length + 1) l) ++ lay (p ++ [(⟨x, topO (p.length + 1) l, topO (p.length + 1 + l.sz) r⟩ : S130)] ++ lay (p.length + 1) l).length r ++ q := by
      rw [show (p ++ [(⟨x, topO (p.length + 1) l, topO (p.length + 1 + l.sz) r⟩ : S130)] ++ lay (p.length + 1) l).length = p.length + 1 + l.sz by simp [lay_len]; omega]
      simp [lay]
    have h1 := Rep_lay l (p ++ [⟨x, topO (p.length + 1) l, topO (p.length + 1 + l.sz) r⟩]) (lay (p.length + 1 + l.sz) r ++ q)
    have h2 := Rep_lay r (p ++ [⟨x, topO (p.length + 1) l, topO (p.length + 1 + l.sz) r⟩] ++ lay (p.length + 1) l) q
    rw [← e1] at h1
    rw [← e2, show (p ++ [(⟨x, topO (p.length + 1) l, topO (p.length + 1 + l.sz) r⟩ : S130)] ++ lay (p.length + 1) l).length = p.length + 1 + l.sz by simp [lay_len]; omega] at h2
    have e3 : rd_T130 (p ++ lay p.length (.node x l r) ++ q) (p.length : Int) = ⟨x, topO (p.length + 1) l, topO (p.length + 1 + l.sz) r⟩ := by
      simp only [lay, List.append_assoc, List.cons_append]
      exact rd130_at _ _ _
    refine ⟨by simp [topO], by simp [topO, lay]; omega, by rw [show topO p.length (.node x l r) = (p.length : Int) from rfl, e3], ?_, ?_⟩
    · rw [show topO p.length (.node x l r) = (p.length : Int) from rfl, e3]
      simpa using h1
    · rw [show topO p.length (.node x l r) = (p.length : Int) from rfl, e3]
      exact h2
theorem wfin (ns : List S130) (x : S33) (t1 t2 : Tr) (ns1 ns3 : List S130) (h1 : ns1 = ns ++ [⟨x, 0, 0⟩]) (h3 : ns3 = ns1 ++ lay ns1.length t1 ++ lay (ns1.length + (lay ns1.length t1).length) t2) :
    (ns3.set ns.length ⟨(rd_T130 ns3 ns.length).f0, topO ns1.length t1, (rd_T130 ns3 ns.length).f2⟩).set ns.length ⟨(rd_T130 (ns3.set ns.length ⟨(rd_T130 ns3 ns.length).f0, topO ns1.length t1, (rd_T130 ns3 ns.length).f2⟩) ns.length).f0, (rd_T130 (ns3.set ns.length ⟨(rd_T130 ns3 ns.length).f0, topO ns1.length t1, (rd_T130 ns3 ns.length).f2⟩) ns.length).f1, topO (ns1.length + (lay ns1.length t1).length) t2⟩ = ns ++ lay ns.length (.node x t1 t2) := by
  have e3 : ns3 = ns ++ ⟨x, 0, 0⟩ :: (lay ns1.length t1 ++ lay (ns1.length + (lay ns1.length t1).length) t2) := by rw [h3, h1]; simp
  have hn : ns1.length = ns.length + 1 := by rw [h1]; simp
  have es : ∀ y : S130, ns3.set ns.length y = ns ++ y :: (lay ns1.length t1 ++ lay (ns1.length + (lay ns1.length t1).length) t2) := fun y => by rw [e3]; simp
  rw [es]
  have e4 : rd_T130 ns3 (ns.length : Int) = ⟨x, 0, 0⟩ := by rw [e3]; exact rd130_at _ _ _
  rw [e4, rd130_at, hn, lay_len]
  simp [lay]

theorem k130_at {W : World} {base g n cap : Nat} {ok : Nat → Prop} {xs : List S130} (h : Kd.R k130 130 W base ok (.slice (some ⟨g, 0, none⟩) n cap) xs) (i : Nat) (hi : i < n) :
    W.cell? ⟨g, i * 5 + 3, none⟩ = some (.int .i64 (rd_T130 xs i).f1) ∧ W.frozen? ⟨g, i * 5 + 3, none⟩ = false ∧ W.cell? ⟨g, i * 5 + 4, none⟩ = some (.int .i64 (rd_T130 xs i).f2) ∧ W.frozen? ⟨g, i * 5 + 4, none⟩ = false := by
  obtain ⟨ce, hcl, hM, hcc, hfr⟩ := Kd.R_elem h z130 (i : Int) (by omega) (by omega)
  obtain rfl := k130_openM hM
  exact ⟨hcc 3 _ rfl, hfr 3, hcc 4 _ rfl, hfr 4⟩
theorem k130_set1 {W : World} {base g n cap : Nat} {ok : Nat → Prop} {xs : List S130} (h : Kd.R k130 130 W base ok (.slice (some ⟨g, 0, none⟩) n cap) xs) (i : Nat) (hi : i < n) (u : Int) :
    Kd.R k130 130 (W.setCell ⟨g, i * 5 + 3, none⟩ (.int .i64 u)) base ok (.slice (some ⟨g, 0, none⟩) n cap) (xs.set i ⟨(rd_T130 xs i).f0, u, (rd_T130 xs i).f2⟩) := by
  obtain ⟨ce, hcl, hM, hcc, hfr⟩ := Kd.R_elem h z130 (i : Int) (by omega) (by omega)
  obtain rfl := k130_openM hM
  exact (Kd.R_seg h (i : Int) (by omega) (by omega) (seg := [.int .i64 u]) (j := 3) hcl hcc (show 3 + 1 ≤ 5 by decide) (x' := (⟨(rd_T130 xs i).f0, u, (rd_T130 xs i).f2⟩ : S130)) (k130_mkM _ _ _ _) (fun _ hk => hk)).1
theorem k130_set2 {W : World} {base g n cap : Nat} {ok : Nat → Prop} {xs : List S130} (h : Kd.R k130 130 W base ok (.slice (some ⟨g, 0, none⟩) n cap) xs) (i : Nat) (hi : i < n) (u : Int) :
    Kd.R k130 130 (W.setCell ⟨g, i * 5 + 4, none⟩ (.int .i64 u)) base ok (.slice (some ⟨g, 0, none⟩) n cap) (xs.set i ⟨(rd_T130 xs i).f0, (rd_T130 xs i).f1, u⟩) := by
  obtain ⟨ce, hcl, hM, hcc, hfr⟩ := Kd.R_elem h z130 (i : Int) (by omega) (by omega)
  obtain rfl := k130_openM hM
  exact (Kd.R_seg h (i : Int) (by omega) (by omega) (seg := [.int .i64 u]) (j := 4) hcl hcc (show 4 + 1 ≤ 5 by decide) (x' := (⟨(rd_T130 xs i).f0, (rd_T130 xs i).f1, u⟩ : S130)) (k130_mkM _ _ _ _) (fun _ hk => hk)).1
theorem IsS119.open_ {w0 W : World} {g : Nat} {f0 : List S130} {f1 : Int} (h : IsS119 w0 W g f0 f1) : ∃ A0 c0, W.heap[g]? = some (.cells #[.slice A0 f0.length c0, .int .i64 f1] 119 (0, 0)) ∧ w0.heap.size ≤ g ∧ Kd.R k130 130 W w0.heap.size (fun _ => True) (.slice A0 f0.length c0) f0 := h
set_option maxHeartbeats 4000000 in
set_option maxRecDepth 100000 in
theorem wread_calls (k : Nat) : ∀ (A : Option Addr) (c : Nat) (l : List S156) (g : Nat) (top : Int) (w0 : World) (hk : l.length ≤ k) (ht : (trd k l).2 = true) (hr : Kd.C k156 w0 A l.length l) (hc : l.length ≤ c) (w : World) (ns : List S130) (hlen : ns.length + l.length ≤ 1000) (hB : Below w0.heap.size w0 w) (hI : IsS119 w0 w g ns top),
    Calls Try.prog 125 #[.pointer (some ⟨g, 0, none⟩), .slice A l.length c] w fun e w' => e = .returned (.int .i64 (topO ns.length (trd k l).1)) ∧ IsS119 w0 w' g (ns ++ lay ns.length (trd k l).1) top ∧ Below w0.heap.size w0 w' := by
  have empty : ∀ (A : Option Addr) (c j : Nat) (g : Nat) (top : Int) (w0 w : World) (ns : List S130) (hB : Below w0.heap.size w0 w) (hI : IsS119 w0 w g ns top), Calls Try.prog 125 #[.pointer (some ⟨g, 0, none⟩), .slice A 0 c] w fun e w' => e = .returned (.int .i64 (topO ns.length (trd j []).1)) ∧ IsS119 w0 w' g (ns ++ lay ns.length (trd j []).1) top ∧ Below w0.heap.size w0 w' := by
    intro A c j g top w0 w ns hB hI
    have e1 : trd j [] = (.nil, true) := by cases j <;> rfl
    rw [e1]
    have HI := Aside0.mk hI
    have HB := Aside0.mk hB
    clear hI hB e1
    go_enter Try.func125, Try.ntmps125
    go_wp2
    go_ret
    exact ⟨rfl, by simpa [lay] using HI.out, HB.out⟩
  induction k with
  | zero =>
    intro A c l g top w0 hk ht hr hc w ns hlen hB hI
    obtain rfl : l = [] := List.length_eq_zero_iff.1 (by omega)
    exact empty A c 0 g top w0 w ns hB hI
  | succ k ih =>
    intro A c l g top w0 hk ht hr hc w ns hlen hB hI
    cases l with
    | nil => exact empty A c (k + 1) g top w0 w ns hB hI
    | cons x l =>
    clear empty
    have hu62 := Try.underlying62
    have hlen1 : ((x :: l).length : Int) = (l.length : Int) + 1 := by simp
    have hlm : l.length ≤ 999 := by simp at hlen; omega
    obtain ⟨ad, e, hx0, hx1, hx2, hx3⟩ := at_T156 hr 0 (by omega) (by omega)
    cases e
    have e0 : rd_T156 (x :: l) 0 = x := rfl
    rw [show ((0 : Int)).toNat = 0 from rfl, show 0 * 4 = 0 from rfl, Addr.add_zero', e0] at hx0 hx1 hx2 hx3
    have hz : ((((x :: l).length : Int)) == 0) = false := beq_eq_false_iff_ne.2 (by omega)
    have hp : (0 : Int) < ((x :: l).length : Int) := by omega
    have hq : (0 < (x :: l).length) = True := eq_true (by simp)
    rw [trd] at ht ⊢
    clear e0
    by_cases cc : 0 ≤ x.f1 ∧ x.f1 ≤ l.length
    · rw [if_pos cc] at ht ⊢
      obtain ⟨ht1, ht2⟩ := Bool.and_eq_true_iff.1 ht
      obtain ⟨n, hn⟩ : ∃ n : Nat, x.f1 = n := ⟨x.f1.toNat, by omega⟩
      have hnl : n ≤ l.length := by omega
      rw [hn] at hx3 ht1 ht2 ⊢
      rw [Int.toNat_natCast] at ht1 ht2 ⊢
      have hwe : wrap64 (1 + (n : Int)) = ((n + 1 : Nat) : Int) := by unfold wrap64; omega
      obtain ⟨i0, hi0, _, hsz, _⟩ := info_parts info156t
      have hcut1 := cut_mid (P := Try.prog) 62 156 .i64 .i64 Try.underlying62 hi0 4 hsz (some ad) (x :: l).length c 1 ((n + 1 : Nat) : Int) (by omega) (by omega) (by simp; omega) hc
      have hcut2 := cut_from (P := Try.prog) 62 156 .i64 Try.underlying62 hi0 4 hsz (some ad) (x :: l).length c ((n + 1 : Nat) : Int) (by omega) (by simp; omega)
      have hr1 := Kd.C_mid (lo := (1 : Int).toNat) (hi := (((n + 1 : Nat) : Int)).toNat) (c := c) hr (by omega) (by simp; omega) hc
      have hr2 := Kd.C_drop (m := (((n + 1 : Nat) : Int)).toNat) (c := c) hr (by simp; omega) hc
      simp only [Int.toNat_natCast, show (1 : Int).toNat = 1 from rfl, List.take_succ_cons, List.drop_succ_cons, List.drop_zero, Nat.add_sub_cancel] at hcut1 hcut2 hr1 hr2
      obtain ⟨A1, hA1⟩ : ∃ A1, A1 = (if c = 1 then (some ad) else ((some ad) : Option Addr).map (·.add (1 * 4))) := ⟨_, rfl⟩
      obtain ⟨A2, hA2⟩ : ∃ A1, A1 = (if c = n + 1 then (some ad) else ((some ad) : Option Addr).map (·.add ((n + 1) * 4))) := ⟨_, rfl⟩
      obtain ⟨c1, hc1⟩ : ∃ c1, c1 = c - 1 := ⟨_, rfl⟩
      obtain ⟨c2, hc2⟩ : ∃ c1, c1 = c - (n + 1) := ⟨_, rfl⟩
      obtain ⟨y1, hy1⟩ : ∃ y, y = l.take n := ⟨_, rfl⟩
      obtain ⟨y2, hy2⟩ : ∃ y, y = l.drop n := ⟨_, rfl⟩
      have l1 : y1.length = n := by rw [hy1, List.length_take]; omega
      have l2 : y2.length = (x :: l).length - (n + 1) := by rw [hy2, List.length_drop]; simp
      rw [← hA1, ← hc1] at hcut1
      rw [← hA2, ← hc2, ← l2] at hcut2
      replace hcut2 : ∀ W : World, (Instr.slice 62 (.slice (some ad) (x :: l).length c) (some (.int .i64 (wrap64 (1 + (n : Int))))) none none).run Try.prog W = .ok (.slice A2 y2.length c2) W := by rw [hwe]; exact hcut2
      replace hcut1 : ∀ W : World, (Instr.slice 62 (.slice (some ad) (x :: l).length c) (some (.int .i64 1)) (some (.int .i64 (wrap64 (1 + (n : Int))))) none).run Try.prog W = .ok (.slice A1 y1.length c1) W := by rw [l1, hwe]; exact hcut1
      have C1 : Kd.C k156 w0 A1 y1.length y1 := by rw [hA1, l1, hy1]; have h_ := hr1; simpa [show k156.sz = 4 from rfl, Nat.min_eq_left hnl] using h_
      have C2 : Kd.C k156 w0 A2 y2.length y2 := by rw [hA2, l2, hy2]; have h_ := hr2; simpa [show k156.sz = 4 from rfl] using h_
      have s1 := trd_sz k y1
      have s2 := trd_sz k y2
      rw [← hy1] at ht1 ⊢
      rw [← hy2] at ht2 ⊢
      have b1 : y1.length ≤ c1 := by rw [l1, hc1]; simp at hc; omega
      have b2 : y2.length ≤ c2 := by rw [l2, hc2]; omega
      have k1 : y1.length ≤ k := by simp at hk; omega
      have k2 : y2.length ≤ k := by simp at hk l2; omega
      obtain ⟨ns1, hn1⟩ : ∃ ns1 : List S130, ns1 = ns ++ [⟨x.f0, 0, 0⟩] := ⟨_, rfl⟩
      have hn1l : ns1.length = ns.length + 1 := by rw [hn1]; simp
      have hL1 : ns1.length + y1.length ≤ 1000 := by simp at hlen; omega
      have IH1 := Aside0.mk (fun W ns h a b => ih A1 c1 y1 g top w0 k1 ht1 C1 b1 W ns h a b)
      have IH2 := Aside0.mk (fun W ns h a b => ih A2 c2 y2 g top w0 k2 ht2 C2 b2 W ns h a b)
      have hL2 : (ns1 ++ lay ns1.length (trd k y1).1).length + y2.length ≤ 1000 := by rw [List.length_append, lay_len]; simp at hlen l2; omega
      have hlen0 : ns.length + 1 ≤ 1000 := by simp at hlen; omega
      generalize (x :: l).length = M at *
      clear hwe ih hr hk hc hr1 hr2 hA1 hA2 hc1 hc2 hy1 hy2 l1 l2 k1 k2 b1 b2 hi0 hsz hlm hnl cc hn hu62 s1 s2 hlen1 ht ht1 ht2 C1 C2 hlen
      generalize trd k y1 = t1 at IH1 IH2 hL2 ⊢
      generalize trd k y2 = t2 at IH2 ⊢
      obtain ⟨t1, o1⟩ := t1
      obtain ⟨t2, o2⟩ := t2
      simp only at IH1 IH2 hL2 ⊢
      obtain ⟨ns3, hn3⟩ : ∃ ns3, ns3 = ns1 ++ lay ns1.length t1 ++ lay (ns1 ++ lay ns1.length t1).length t2 := ⟨_, rfl⟩
      have HN3 := Aside0.mk hn3
      have HFIN := Aside0.mk (wfin ns x.f0 t1 t2 ns1 ns3 hn1 (by rw [hn3, List.length_append]))
      have HN1 := Aside0.mk hn1
      have HL1 := Aside0.mk hL1
      have HL2 := Aside0.mk hL2
      have hlen := Aside0.mk hlen0
      have hq3 : ns.length < ns3.length := by rw [hn3, hn1]; simp
      have HP3 : Aside0 (0 < ns3.length) := ⟨by omega⟩
      have HQ3 : Aside0 (ns.length < ns3.length) := ⟨hq3⟩
      have hq3b : (ns.length < ns3.length) = True := eq_true hq3
      obtain ⟨A0, c0, bk, ge, hR⟩ := hI
      have bk := Aside0.mk bk
      have ge := Aside0.mk ge
      have hR := Aside0.mk hR
      have HB := Aside0.mk hB
      have hy0 := pw_cell_below hB hx0
      have hy1 := pw_cell_below hB hx1
      have hy2 := pw_cell_below hB hx2
      have hy3 := pw_cell_below hB hx3
      have hbb0 := blk_cell bk.out 0
      simp only [List.getElem?_toArray, List.getElem?_cons_zero, List.getElem?_cons_succ] at hbb0
      clear hB hn1 hn1l hn3 hL1 hL2 hlen0 hq3
      go_enter Try.func125, Try.ntmps125
      go_wp2
      refine start_ (n := 15) (S := fun w' => w'.heap[g]? = some (.cells #[.slice A0 ns.length c0, .int .i64 top] 119 (0, 0)) ∧ Below w0.heap.size w0 w') (ds := [14]) #[false, false, false, false, false, false, false, false, false, false, false, false, false, false, false] (by kernel_rfl) rfl rfl ⟨blk_drew bk.out, below_drew HB.out⟩ (fun hHeld => ?_)
      refine pure_ (i := 0) (N := (some 22)) (v := ?_) (a' := ?_) #[true, false, false, false, false, false, false, false, false, false, false, false, false, false, false] rfl rfl (by kernel_rfl) (fun _ _ _ h => h) (Or.inl ⟨by rfl, ?_⟩) ?_ ?_
      rotate_left
      · intro w'
        go_simp
        with_reducible rfl
      rotate_left
      · simp only [Act.put, List.setIfInBounds_toArray, List.set_cons_zero, List.set_cons_succ, i64_w, i32_w]
        rfl
      refine pure_ (i := 1) (N := (some 23)) (v := ?_) (a' := ?_) #[true, true, false, false, false, false, false, false, false, false, false, false, false, false, false] rfl rfl (by kernel_rfl) (fun _ _ _ h => h) (Or.inl ⟨by rfl, ?_⟩) ?_ ?_
      rotate_left
      · intro w'
        go_simp
        with_reducible rfl
      rotate_left
      · simp only [Act.put, List.setIfInBounds_toArray, List.set_cons_zero, List.set_cons_succ, i64_w, i32_w]
        rfl
      refine pure_ (i := 2) (N := (some 24)) (v := ?_) (a' := ?_) #[true, true, true, false, false, false, false, false, false, false, false, false, false, false, false] rfl rfl (by kernel_rfl) (fun _ _ _ h => h) (Or.inl ⟨by rfl, ?_⟩) ?_ ?_
      rotate_left
      · intro w'
        go_simp
        with_reducible rfl
      rotate_left
      · simp only [Act.put, List.setIfInBounds_toArray, List.set_cons_zero, List.set_cons_succ, i64_w, i32_w]
        rfl
      refine pure_ (i := 3) (N := (some 25)) (v := ?_) (a' := ?_) #[true, true, true, true, false, false, false, false, false, false, false, false, false, false, false] rfl rfl (by kernel_rfl) (fun _ _ _ h => h) (Or.inl ⟨by rfl, ?_⟩) ?_ ?_
      rotate_left
      · intro w'
        go_simp
        with_reducible rfl
      rotate_left
      · simp only [Act.put, List.setIfInBounds_toArray, List.set_cons_zero, List.set_cons_succ, i64_w, i32_w]
        rfl
      refine take_ (i := 4) (N := (some 26)) (v := ?_) (a' := ?_) #[true, true, true, true, true, false, false, false, false, false, false, false, false, false, false] rfl rfl (by kernel_rfl) (fun _ _ _ h => h) (Or.inl ⟨by rfl, ?_⟩) hHeld ?_ ?_
      rotate_left
      · intro w' sb_
        have s0_ : w'.cell? ⟨g, 0, none⟩ = some (.slice A0 ns.length c0) := (blk_cell sb_.1 0).trans rfl
        clear sb_
        go_simp
        with_reducible rfl
      rotate_left
      · simp only [Act.put, List.setIfInBounds_toArray, List.set_cons_zero, List.set_cons_succ, i64_w, i32_w]
        rfl
      refine pure_ (i := 5) (N := (some 27)) (v := ?_) (a' := ?_) #[true, true, true, true, true, true, false, false, false, false, false, false, false, false, false] rfl rfl (by kernel_rfl) (fun _ _ _ h => h) (Or.inl ⟨by rfl, ?_⟩) ?_ ?_
      rotate_left
      · intro w'
        go_simp
        with_reducible rfl
      rotate_left
      · simp only [Act.put, List.setIfInBounds_toArray, List.set_cons_zero, List.set_cons_succ, i64_w, i32_w]
        rfl
      refine pure_ (i := 6) (N := (some 28)) (v := ?_) (a' := ?_) #[true, true, true, true, true, true, true, false, false, false, false, false, false, false, false] rfl rfl (by kernel_rfl) (fun _ _ _ h => h) (Or.inl ⟨by rfl, ?_⟩) ?_ ?_
      rotate_left
      · intro w'
        go_simp
        with_reducible rfl
      rotate_left
      · simp only [Act.put, List.setIfInBounds_toArray, List.set_cons_zero, List.set_cons_succ, i64_w, i32_w]
        rfl
      refine pure_ (i := 7) (N := (some 29)) (v := ?_) (a' := ?_) #[true, true, true, true, true, true, true, true, false, false, false, false, false, false, false] rfl rfl (by kernel_rfl) (fun _ _ _ h => h) (Or.inl ⟨by rfl, ?_⟩) ?_ ?_
      rotate_left
      · intro w'
        go_simp
        with_reducible rfl
      rotate_left
      · simp only [Act.put, List.setIfInBounds_toArray, List.set_cons_zero, List.set_cons_succ, i64_w, i32_w]
        rfl
      refine take_ (i := 8) (N := (some 30)) (v := ?_) (a' := ?_) #[true, true, true, true, true, true, true, true, true, false, false, false, false, false, false] rfl rfl (by kernel_rfl) (fun _ _ _ h => h) (Or.inl ⟨by rfl, ?_⟩) hHeld ?_ ?_
      rotate_left
      · intro w' sb_
        have s0_ := pw_cell_below sb_.2 hx0
        have s1_ := pw_cell_below sb_.2 hx1
        have s2_ := pw_cell_below sb_.2 hx2
        clear sb_
        go_simp
        with_reducible rfl
      rotate_left
      · simp only [Act.put, List.setIfInBounds_toArray, List.set_cons_zero, List.set_cons_succ, i64_w, i32_w]
        rfl
      refine pure_ (i := 9) (N := (some 31)) (v := ?_) (a' := ?_) #[true, true, true, true, true, true, true, true, true, true, false, false, false, false, false] rfl rfl (by kernel_rfl) (fun _ _ _ h => h) (Or.inl ⟨by rfl, ?_⟩) ?_ ?_
      rotate_left
      · intro w'
        go_simp
        with_reducible rfl
      rotate_left
      · simp only [Act.put, List.setIfInBounds_toArray, List.set_cons_zero, List.set_cons_succ, i64_w, i32_w]
        rfl
      refine one_ (i := 10) (N := (some 32)) #[true, true, true, true, true, true, true, true, true, true, true, false, false, false, false] rfl rfl (by kernel_rfl) (by decide) (fun K hK => ?_)
      refine Kd.R_lit_step k130 _ 130 ?hg (N := 32) ?hd (xs := [(⟨x.f0, 0, 0⟩ : S130)]) (inner := [.int .i64 x.f0.f0, .int .i64 x.f0.f1, .int .i64 x.f0.f2, .int .i64 0, .int .i64 0]) (ok := fun _ => True) (okp := fun _ => True) ?hr ?hp (fun _ hk => hk) trivial (Below.refl _ _) (Nat.le_refl _) (by simp) ?_; (case hd => rfl); (case hg => rfl); (case hr => first | (go_simp; done) | (go_simp; rfl)); (case hp => exact ⟨by simp; rfl, fun j p hj => by cases j with | zero => (simp only [List.getElem?_cons_zero, Option.some.injEq] at hj; subst hj; exact k130_mkM _ _ _ _) | succ j => simp at hj⟩)
      intro v32 w1 hl hb hg_ hnew_
      clear hg_ hnew_
      have bk1 := Aside0.mk (blk_below (blk_drew bk.out) hb)
      have HB1 : Aside0 (Below w0.heap.size w0 w1) := ⟨below_then (below_drew HB.out) HB.out.size hb⟩
      have n1_ := Aside0.mk (Kd.R_elder' (Kd.R_drew hR.out) (Kd.R_base hl) hb)
      have n2_ := Aside0.mk (Kd.R_lower (Kd.R_new' hl (Kd.R_lt (Kd.R_drew hR.out))) HB.out.size)
      clear hl hb
      refine hK.out _ _ ⟨bk1.out, HB1.out⟩ (fun hHeld => ?_)
      clear hK K
      refine norm_ (a' := ?_) ?_ ?_
      rotate_left
      · show Act.put _ (some 32) _ = _
        simp only [Act.put, List.setIfInBounds_toArray, List.set_cons_zero, List.set_cons_succ, i64_w, i32_w]
        rfl
      obtain ⟨A2, c2, e2⟩ := Kd.R_slice n2_.out
      subst e2
      refine one_ (i := 11) (N := (some 33)) #[true, true, true, true, true, true, true, true, true, true, true, true, false, false, false] rfl rfl (by kernel_rfl) (by decide) (fun K hK => ?_)
      refine Kd.R_append_rows_step k130 w0.heap.size (by rfl) (.tmp 26) (.tmp 32) 117 130 (.agg #[(.int .i64 0), (.int .i64 0), (.int .i64 0), (.int .i64 0), (.int .i64 0)]) 40 rfl Try.underlying117 info130t rfl (by decide) (by omega) _ ns [(⟨x.f0, 0, 0⟩ : S130)] _ _ _ (fun k_ => some k_ ≠ (.slice A2 [(⟨x.f0, 0, 0⟩ : S130)].length c2 : Value).ownBlock) (fun _ => False) rfl rfl (Kd.R_mono n1_.out (fun _ hk => hk.2)) (Kd.R_reads' n2_.out).2.2 (fun _ _ h => h) (fun _ h => h.elim) (fun k_ hk => Kd.fresh' (Kd.R_lt n2_.out) k_ hk) (Below.refl _ _) HB1.out.size ?aL ?_
      (case aL => have := hlen.out; simp only [List.length_cons, List.length_nil]; omega)
      intro v33 w2 ho hb hg hat
      rw [← HN1.out] at ho
      have bk2 := Aside0.mk (blk_grown bk1.out hg (Kd.R_ne n1_.out bk1.out (by decide)))
      have HB2 : Aside0 (Below w0.heap.size w0 w2) := ⟨below_weaken HB1.out (Nat.le_refl _) hb⟩
      have HO := Aside0.mk (Kd.R_mono (ok' := fun _ => True) ho (fun _ _ => trivial))
      clear ho hb hg hat n1_ n2_
      refine hK.out _ _ ⟨bk2.out, HB2.out⟩ (fun hHeld => ?_)
      clear hK K
      refine norm_ (a' := ?_) ?_ ?_
      rotate_left
      · show Act.put _ (some 33) _ = _
        simp only [Act.put, List.setIfInBounds_toArray, List.set_cons_zero, List.set_cons_succ, i64_w, i32_w]
        rfl
      refine pure_ (i := 12) (N := (some 34)) (v := ?_) (a' := ?_) #[true, true, true, true, true, true, true, true, true, true, true, true, true, false, false] rfl rfl (by kernel_rfl) (fun _ _ _ h => h) (Or.inl ⟨by rfl, ?_⟩) ?_ ?_
      rotate_left
      · intro w'
        go_simp
        with_reducible rfl
      rotate_left
      · simp only [Act.put, List.setIfInBounds_toArray, List.set_cons_zero, List.set_cons_succ, i64_w, i32_w]
        rfl
      refine pure_ (i := 13) (N := (some 35)) (v := ?_) (a' := ?_) #[true, true, true, true, true, true, true, true, true, true, true, true, true, true, false] rfl rfl (by kernel_rfl) (fun _ _ _ h => h) (Or.inl ⟨by rfl, ?_⟩) ?_ ?_
      rotate_left
      · intro w'
        go_simp
        with_reducible rfl
      rotate_left
      · simp only [Act.put, List.setIfInBounds_toArray, List.set_cons_zero, List.set_cons_succ, i64_w, i32_w]
        rfl
      refine last_ (i := 14) (N := none) #[true, true, true, true, true, true, true, true, true, true, true, true, true, true, true] rfl rfl (by kernel_rfl) (by decide) (fun K hK => ?_)
      clear hHeld
      obtain ⟨A3, c3, e3⟩ := Kd.R_slice HO.out
      subst e3
      have hcs : w2.cell? ⟨g, 0, none⟩ = some (.slice A0 ns.length c0) := (blk_cell bk2.out 0).trans rfl
      have hfs : w2.frozen? ⟨g, 0, none⟩ = false := blk_frozen bk2.out 0
      refine skip_ (w1 := ?_) (by rfl) rfl ?_ ?_
      rotate_left
      · go_simp
        rfl
      refine hK.out _ _ ?_
      clear hK K
      refine done_ (by kernel_rfl) ?_
      have HI3 : Aside0 (IsS119 w0 (w2.setCell ⟨g, 0, none⟩ (.slice A3 ns1.length c3)) g ns1 top) := ⟨⟨A3, c3, blk_put (cs := #[.slice A0 ns.length c0, .int .i64 top]) bk2.out 0 _ rfl, ge.out, Kd.R_mono (ok' := fun _ => True) (Kd.R_far (p := ⟨g, 0, none⟩) (Kd.R_types HO.out bk2.out (by decide)) (fun _ hk => hk.2) _) (fun _ _ => trivial)⟩⟩
      have HB3 : Aside0 (Below w0.heap.size w0 (w2.setCell ⟨g, 0, none⟩ (.slice A3 ns1.length c3))) := ⟨below_set HB2.out ge.out⟩
      clear hcs hfs HO bk1 HB1 HB2
      generalize w2.setCell ⟨g, 0, none⟩ (.slice A3 ns1.length c3) = w3 at HI3 HB3 ⊢
      clear bk2
      go_wp2_with (first
        | (go_at_call_of 125 y1; with_reducible refine (IH1.out _ ns1 ?side0 ?side1 ?side2).mono ?_; (case side0 => exact HL1.out); (case side1 => exact HB3.out); (case side2 => exact HI3.out); rintro e w4 ⟨rfl, hi4, hb4⟩; have HI4 := Aside0.mk hi4; have HB4 := Aside0.mk hb4; clear hi4 hb4)
        | (go_at_call_of 125 y2; with_reducible refine (IH2.out _ (ns1 ++ lay ns1.length t1) ?side0 ?side1 ?side2).mono ?_; (case side0 => exact HL2.out); (case side1 => exact HB4.out); (case side2 => exact HI4.out); rintro e w5 ⟨rfl, hi5, hb5⟩; rw [← HN3.out] at hi5; have HB5 := Aside0.mk hb5; have hi5_ := Aside0.mk hi5; clear hi5 hb5; obtain ⟨A5, c5, bk5, _, hR5⟩ := IsS119.open_ hi5_.out; obtain ⟨g5, cap5, e5, gb5, gl5, cl5, HG5⟩ := Kd.R_form hR5 HP3.out; simp only [Value.slice.injEq, true_and] at e5; obtain ⟨ea_, ec_⟩ := e5; subst ea_; subst ec_; have RR5 := Aside0.mk hR5; have BK5 := Aside0.mk bk5; have NE5 := Aside0.mk (Kd.R_ne hR5 bk5 (by decide)); have GB5 := Aside0.mk gb5; have hb5_0 := blk_cell bk5 0; simp only [List.getElem?_toArray, List.getElem?_cons_zero, List.getElem?_cons_succ] at hb5_0; obtain ⟨hx5, hf5, _, _⟩ := k130_at hR5 ns.length HQ3.out; clear gb5 gl5 cl5 HG5 hR5 bk5)
        | ((with_reducible refine gate_store (t := 3) (p := 53) rfl ?_); refine store_event (t := 3) (p := 53) (v := ?vo_6) (w1 := (w5.setCell ⟨g5, ns.length * 5 + 3, none⟩ (.int .i64 (topO ns1.length t1)))) ?hg ?ho ?hn ?hr ?_; (case ho => rfl); (case hg => rfl); (case hn => rfl); (case hr => first | (go_simp; done) | (go_simp; rfl)); intro w6 hw; have hR6 : Kd.R k130 130 w6 w0.heap.size (fun _ => True) (.slice (some ⟨g5, 0, none⟩) ns3.length c5) (ns3.set ns.length ⟨(rd_T130 ns3 ns.length).f0, topO ns1.length t1, (rd_T130 ns3 ns.length).f2⟩) := (by rw [hw]; exact k130_set1 RR5.out ns.length HQ3.out _); have bk6 : w6.heap[g]? = some (.cells #[.slice (some ⟨g5, 0, none⟩) ns3.length c5, .int .i64 top] 119 (0, 0)) := (by rw [hw]; exact blk_far BK5.out (fun e_ => NE5.out (by rw [e_]; rfl)) _); have HB6 : Aside0 (Below w0.heap.size w0 w6) := ⟨by rw [hw]; exact below_set HB5.out GB5.out⟩; have hb6_0 := blk_cell bk6 0; simp only [List.getElem?_toArray, List.getElem?_cons_zero, List.getElem?_cons_succ] at hb6_0; clear hw hx5 hf5 hb5_0; obtain ⟨_, _, hx6, hf6⟩ := k130_at hR6 ns.length HQ3.out; have RR6 := Aside0.mk hR6; have BK6 := Aside0.mk bk6; clear hR6 bk6)
        | ((with_reducible refine gate_store (t := 3) (p := 61) rfl ?_); refine store_event (t := 3) (p := 61) (v := ?vo_7) (w1 := (w6.setCell ⟨g5, ns.length * 5 + 4, none⟩ (.int .i64 (topO (ns1.length + (lay ns1.length t1).length) t2)))) ?hg ?ho ?hn ?hr ?_; (case ho => rfl); (case hg => rfl); (case hn => rfl); (case hr => first | (go_simp; done) | (go_simp; rfl)); intro w7 hw; have hR7 := Aside0.mk (show Kd.R k130 130 w7 w0.heap.size (fun _ => True) (.slice (some ⟨g5, 0, none⟩) ns3.length c5) ((ns3.set ns.length ⟨(rd_T130 ns3 ns.length).f0, topO ns1.length t1, (rd_T130 ns3 ns.length).f2⟩).set ns.length _) from (by rw [hw]; exact k130_set2 RR6.out ns.length HQ3.out _)); have bk7 : w7.heap[g]? = some (.cells #[.slice (some ⟨g5, 0, none⟩) ns3.length c5, .int .i64 top] 119 (0, 0)) := (by rw [hw]; exact blk_far BK6.out (fun e_ => NE5.out (by rw [e_]; rfl)) _); have HB7 : Aside0 (Below w0.heap.size w0 w7) := ⟨by rw [hw]; exact below_set HB6.out GB5.out⟩; have BK7 := Aside0.mk bk7; clear hw hx6 hf6 hb6_0 bk7))
      go_ret
      refine ⟨rfl, ?_, HB7.out⟩
      have hfin := HFIN.out
      rw [← hfin]
      exact ⟨_, c5, by simpa using BK7.out, ge.out, by simpa using hR7.out⟩
    · rw [if_neg cc] at ht
      cases ht
theorem IsS119.lower {w0 w1 W : World} {g : Nat} {f0 : List S130} {f1 : Int} (h : IsS119 w1 W g f0 f1) (hs : w0.heap.size ≤ w1.heap.size) : IsS119 w0 W g f0 f1 := by
  obtain ⟨A0, c0, h1, h2, h3⟩ := h
  exact ⟨A0, c0, h1, Nat.le_trans hs h2, Kd.R_lower h3 hs⟩
theorem IsS119.top {w0 W : World} {g : Nat} {f0 : List S130} {f1 : Int} (h : IsS119 w0 W g f0 f1) (x : Int) : IsS119 w0 (W.setCell ⟨g, 1, none⟩ (.int .i64 x)) g f0 x := by
  obtain ⟨A0, c0, h1, h2, h3⟩ := h
  exact ⟨A0, c0, blk_put (cs := #[.slice A0 f0.length c0, .int .i64 f1]) h1 1 _ rfl, h2, Kd.R_mono (ok' := fun _ => True) (Kd.R_far (p := ⟨g, 1, none⟩) (Kd.R_types h3 h1 (by decide)) (fun _ hk => hk.2) _) (fun _ _ => trivial)⟩
theorem IsS119.new0 {w w1 : World} {gb : Nat} (h : w1.heap[gb]? = some (.cells #[.slice none 0 0, .int .i64 0] 119 (0, 0))) (hg : w.heap.size ≤ gb) : IsS119 w w1 gb [] 0 := ⟨none, 0, h, hg, Kd.R_nil _ _ _ _ _⟩
def spec_l04Read.f (l0_0 : List S156) : Option (List S130 × Int) := if l0_0.length ≤ 60 ∧ (trd 60 l0_0).2 = true then some (lay 0 (trd 60 l0_0).1, topO 0 (trd 60 l0_0).1) else none
set_option maxHeartbeats 4000000 in
set_option maxRecDepth 100000 in
theorem spec_l04Read.calls (A0_0 : Option Addr) (c0_0 : Nat) (l0_0 : List S156) (r1 : List S130) (r2 : Int) (w0 w : World) (hB : Below w0.heap.size w0 w) (hr0_0 : Kd.C k156 w0 A0_0 l0_0.length l0_0) (hc0_0 : l0_0.length ≤ c0_0) (h : spec_l04Read.f l0_0 = some (r1, r2)) :
    Calls Try.prog 91 #[.agg #[.slice A0_0 l0_0.length c0_0]] w fun e w' => ∃ g_ : Nat, e = .returned (.pointer (some ⟨g_, 0, none⟩)) ∧ IsS119 w0 w' g_ r1 r2 ∧ Below w0.heap.size w0 w' ∧ Below w.heap.size w w' := by
  have hu64 := Try.underlying64
  unfold spec_l04Read.f at h
  by_cases hh : l0_0.length ≤ 60 ∧ (trd 60 l0_0).2 = true
  · rw [if_pos hh] at h
    simp only [Option.some.injEq, Prod.mk.injEq] at h
    obtain ⟨rfl, rfl⟩ := h
    obtain ⟨h60, ht⟩ := hh
    have hrw : Kd.C k156 w A0_0 l0_0.length l0_0 := Kd.C_below hr0_0 hB
    have HB := Aside0.mk hB
    have IH := Aside0.mk (fun g top => wread_calls 60 A0_0 c0_0 l0_0 g top w h60 ht hrw hc0_0)
    have HLN := Aside0.mk h60
    clear hB hr0_0 hrw
    generalize trd 60 l0_0 = t at IH ⊢
    obtain ⟨t, o⟩ := t
    simp only at IH ⊢
    have HSZ : Aside0 (w0.heap.size ≤ w.heap.size) := ⟨HB.out.size⟩
    clear ht h60 hc0_0
    go_enter Try.func91, Try.ntmps91
    go_wp2_with (first
      | ((with_reducible refine gate_dst (N := 5) rfl ?_); refine box_event ?hg (N := 5) ?hd (cs := #[.slice none 0 0, .int .i64 0]) (t := 119) ?hr ?_; (case hd => rfl); (case hg => rfl); (case hr => first | (go_simp; done) | (go_simp; rfl)); intro gb hgb w1 hbox hb1; have bX := Aside0.mk hbox; have HB1 : Aside0 (Below w.heap.size w w1) := ⟨below_step (below_alloc (Below.refl _ _) _) hb1⟩; have HG := Aside0.mk (hb1.size); have hl1 := (blk_cell (blk_below (blk_new w (.cells #[.slice A0_0 l0_0.length c0_0] 64)) hb1) 0); simp only [List.getElem?_toArray, List.getElem?_cons_zero, List.getElem?_cons_succ] at hl1; have HGE : Aside0 (w.heap.size ≤ gb) := ⟨by rw [hgb]; simp⟩; clear hbox hb1 hgb)
      | (go_at_call 125; with_reducible refine (IH.out gb 0 _ [] ?side0 ?side1 ?side2).mono ?_; (case side0 => have := HLN.out; simp; omega); (case side1 => exact HB1.out); (case side2 => exact IsS119.new0 bX.out HGE.out); rintro e w2 ⟨rfl, hi, hb⟩; have HI := Aside0.mk hi; have HB2 := Aside0.mk hb; obtain ⟨A5, c5, bk5, _, _⟩ := IsS119.open_ hi; have hb5_1 := blk_cell bk5 1; have hf5_1 := blk_frozen bk5 1; simp only [List.getElem?_toArray, List.getElem?_cons_zero, List.getElem?_cons_succ] at hb5_1; clear hi hb bk5))
    go_ret
    refine ⟨gb, rfl, ?_, ?_, ?_⟩
    · have h_ := (HI.out.top (topO 0 t)).lower HSZ.out
      simpa using h_
    · exact below_set (below_then HB.out HB.out.size HB2.out) (Nat.le_trans HSZ.out HGE.out)
    · exact below_set HB2.out HGE.out
  · rw [if_neg hh] at h
    cases h
def unlay : Nat → List S130 → Int → Option Tr
  | 0, _, _ => none
  | k + 1, ns, a => if a < 0 then some .nil else if a < ns.length then (unlay k ns (rd_T130 ns a).f1).bind fun l => (unlay k ns (rd_T130 ns a).f2).bind fun r => some (.node (rd_T130 ns a).f0 l r) else none
theorem unlay_rep : ∀ (k : Nat) (ns : List S130) (a : Int) (t : Tr), unlay k ns a = some t → Rep ns t a
  | 0, _, _, _, h => by cases h
  | k + 1, ns, a, t, h => by
    rw [unlay] at h
    split at h
    · rename_i h0
      obtain rfl := Option.some.inj h
      exact h0
    · rename_i h0
      split at h
      · rename_i h1
        obtain ⟨l, hl, h⟩ := Option.bind_eq_some_iff.1 h
        obtain ⟨r, hr, h⟩ := Option.bind_eq_some_iff.1 h
        obtain rfl := Option.some.inj h
        exact ⟨by omega, h1, rfl, unlay_rep k ns _ l hl, unlay_rep k ns _ r hr⟩
      · cases h
theorem rep_unlay : ∀ (k : Nat) (ns : List S130) (a : Int) (t : Tr), Rep ns t a → t.sz < k → unlay k ns a = some t
  | 0, _, _, _, _, h => absurd h (Nat.not_lt_zero _)
  | k + 1, ns, a, .nil, h, _ => by rw [unlay, if_pos (show a < 0 from h)]
  | k + 1, ns, a, .node x l r, ⟨h0, h1, hx, hl, hr⟩, hk => by
    simp only [Tr.sz] at hk
    rw [unlay, if_neg (by omega), if_pos h1, rep_unlay k ns _ l hl (by omega), Option.bind_some, rep_unlay k ns _ r hr (by omega), Option.bind_some, hx]

/-! ### spec_l04Wood_items: function 92 -/
attribute [local go_sem] Oper.semAt_some
set_option maxHeartbeats 4000000 in
set_option maxRecDepth 100000 in
theorem witems_calls (t : Tr) : ∀ (g : Nat) (ns : List S130) (top a : Int) (w0 w : World) (hI : IsS119 w0 w g ns top) (hr : Rep ns t a) (hlen : t.sz ≤ 1000),
    Calls Try.prog 92 #[.pointer (some ⟨g, 0, none⟩), .int .i64 a] w fun e w' => ∃ v, e = .returned v ∧ Kd.R k33 33 w' w.heap.size (fun _ => True) v t.items ∧ Below w.heap.size w w' := by
  induction t with
  | nil =>
    intro g ns top a w0 w hI hr hlen
    have hlt : a < 0 := hr
    clear hI hr
    go_enter Try.func92, Try.ntmps92
    go_wp2_with (first
      | ((with_reducible refine gate_dst (N := 9) rfl ?_); refine Kd.R_lit k33 _ 33 ?hg (N := 9) ?hd (xs := ([] : List S33)) (inner := []) (ok := fun _ => True) (okp := fun _ => True) ?hr ?hp (fun _ hk => hk) trivial (Below.refl _ _) (Nat.le_refl _) (by simp) ?_; (case hd => rfl); (case hg => rfl); (case hr => first | (go_simp; done) | (go_simp; rfl)); (case hp => exact Reps.none _ _); intro v9 w1 hl hb hg_ hnew_; have HO := Aside0.mk hl; have HB := Aside0.mk hb; clear hl hb hg_ hnew_))
    go_ret
    exact ⟨_, rfl, HO.out, HB.out⟩
  | node x l r ihl ihr =>
    intro g ns top a w0 w hI hr hlen
    obtain ⟨h0, h1, hx, hl, hr⟩ := hr
    obtain ⟨A0, c0, bk, ge, hR⟩ := id hI
    obtain ⟨ad, e, hx0, hx1, hx2, hx3, hx4⟩ := at_T130 (Kd.R_reads' hR).2.2 a h0 h1
    cases e
    have hb0 := blk_cell bk 0
    simp only [List.getElem?_toArray, List.getElem?_cons_zero, List.getElem?_cons_succ] at hb0
    have hge : (a < 0) = False := eq_false (by omega)
    have HI := Aside0.mk hI
    have HIL := Aside0.mk (fun w h => ihl g ns top _ w0 w h hl (by simp only [Tr.sz] at hlen; omega))
    have HIR := Aside0.mk (fun w h => ihr g ns top _ w0 w h hr (by simp only [Tr.sz] at hlen; omega))
    have hlen1 : l.items.length + r.items.length + 1 ≤ 1000 := by rw [Tr.items_len, Tr.items_len]; exact hlen
    obtain ⟨y, hy⟩ : ∃ y, y = l.items ++ [x] := ⟨_, rfl⟩
    have HY := Aside0.mk hy
    clear hy
    have hlen := Aside0.mk hlen1
    rw [hx] at hx0 hx1 hx2
    generalize (rd_T130 ns a).f1 = al at hx3 HIL
    generalize (rd_T130 ns a).f2 = ar at hx4 HIR
    have hlt2 : a < (ns.length : Int) := h1
    clear hI hr hl hx ihl ihr hlen1 bk ge hR
    go_enter Try.func92, Try.ntmps92
    go_wp2_with (first
      | ((with_reducible refine gate_dst (N := 5) rfl ?_); refine box_event ?hg (N := 5) ?hd (cs := #[.int .i64 0, .int .i64 0, .int .i64 0, .int .i64 0, .int .i64 0]) (t := 130) ?hr ?_; (case hd => rfl); (case hg => rfl); (case hr => first | (go_simp; done) | (go_simp; rfl)); intro gb hgb w1 hbox hb1; have bX := Aside0.mk hbox; have hB1 := Aside0.mk hb1; have hG := Aside0.mk hgb; have hc0_ := blk_cell hbox 0; have hc1_ := blk_cell hbox 1; have hc2_ := blk_cell hbox 2; have hc3_ := blk_cell hbox 3; have hc4_ := blk_cell hbox 4; have hf0_ := blk_frozen hbox 0; have hf1_ := blk_frozen hbox 1; have hf2_ := blk_frozen hbox 2; have hf3_ := blk_frozen hbox 3; have hf4_ := blk_frozen hbox 4; simp only [List.getElem?_toArray, List.getElem?_cons_zero, List.getElem?_cons_succ] at hc0_ hc1_ hc2_ hc3_ hc4_; clear hbox hb1 hgb))
    have hbk : Aside0 ((((((w1.setCell ⟨gb, 0, none⟩ (.int .i64 x.f0)).setCell ⟨gb, 1, none⟩ (.int .i64 x.f1)).setCell ⟨gb, 2, none⟩ (.int .i64 x.f2)).setCell ⟨gb, 3, none⟩ (.int .i64 al)).setCell ⟨gb, 4, none⟩ (.int .i64 ar)).heap[gb]? = some (.cells #[.int .i64 x.f0, .int .i64 x.f1, .int .i64 x.f2, .int .i64 al, .int .i64 ar] 130 (0, 0))) := ⟨(blk_put (blk_put (blk_put (blk_put (blk_put bX.out 0 _ rfl) 1 _ rfl) 2 _ rfl) 3 _ rfl) 4 _ rfl)⟩
    have hbw : Aside0 (Below w.heap.size w (((((w1.setCell ⟨gb, 0, none⟩ (.int .i64 x.f0)).setCell ⟨gb, 1, none⟩ (.int .i64 x.f1)).setCell ⟨gb, 2, none⟩ (.int .i64 x.f2)).setCell ⟨gb, 3, none⟩ (.int .i64 al)).setCell ⟨gb, 4, none⟩ (.int .i64 ar))) := ⟨(below_set (below_set (below_set (below_set (below_set hB1.out (Nat.le_of_eq hG.out.symm)) (Nat.le_of_eq hG.out.symm)) (Nat.le_of_eq hG.out.symm)) (Nat.le_of_eq hG.out.symm)) (Nat.le_of_eq hG.out.symm))⟩
    clear bX hB1 hG hc0_ hc1_ hc2_ hc3_ hc4_ hf0_ hf1_ hf2_ hf3_ hf4_
    generalize hW_ : (((((w1.setCell ⟨gb, 0, none⟩ (.int .i64 x.f0)).setCell ⟨gb, 1, none⟩ (.int .i64 x.f1)).setCell ⟨gb, 2, none⟩ (.int .i64 x.f2)).setCell ⟨gb, 3, none⟩ (.int .i64 al)).setCell ⟨gb, 4, none⟩ (.int .i64 ar)) = W at hbk hbw ⊢
    clear hW_ w1
    refine start_ (n := 9) (S := fun w' => Below W.heap.size W w') (ds := []) #[false, false, false, false, false, false, false, false, false] (by kernel_rfl) rfl rfl (below_drew (Below.refl _ _)) (fun hHeld => ?_)
    refine pure_ (i := 0) (N := (some 17)) (v := ?_) (a' := ?_) #[true, false, false, false, false, false, false, false, false] rfl rfl (by kernel_rfl) (fun _ _ _ h => h) (Or.inl ⟨by rfl, ?_⟩) ?_ ?_
    rotate_left
    · intro w'
      go_simp
      with_reducible rfl
    rotate_left
    · simp only [Act.put, List.setIfInBounds_toArray, List.set_cons_zero, List.set_cons_succ, i64_w, i32_w]
      rfl
    refine pure_ (i := 1) (N := (some 18)) (v := ?_) (a' := ?_) #[true, true, false, false, false, false, false, false, false] rfl rfl (by kernel_rfl) (fun _ _ _ h => h) (Or.inl ⟨by rfl, ?_⟩) ?_ ?_
    rotate_left
    · intro w'
      go_simp
      with_reducible rfl
    rotate_left
    · simp only [Act.put, List.setIfInBounds_toArray, List.set_cons_zero, List.set_cons_succ, i64_w, i32_w]
      rfl
    refine take_ (i := 2) (N := (some 19)) (v := ?_) (a' := ?_) #[true, true, true, false, false, false, false, false, false] rfl rfl (by kernel_rfl) (fun _ _ _ h => h) (Or.inl ⟨by rfl, ?_⟩) hHeld ?_ ?_
    rotate_left
    · intro w' sb_
      have s0_ : w'.cell? ⟨gb, 3, none⟩ = some (.int .i64 al) := (blk_cell (blk_below hbk.out sb_) 3).trans rfl
      clear sb_
      go_simp
      with_reducible rfl
    rotate_left
    · simp only [Act.put, List.setIfInBounds_toArray, List.set_cons_zero, List.set_cons_succ, i64_w, i32_w]
      rfl
    refine pure_ (i := 4) (N := (some 21)) (v := ?_) (a' := ?_) #[true, true, true, false, true, false, false, false, false] rfl rfl (by kernel_rfl) (fun _ _ _ h => h) (Or.inl ⟨by rfl, ?_⟩) ?_ ?_
    rotate_left
    · intro w'
      go_simp
      with_reducible rfl
    rotate_left
    · simp only [Act.put, List.setIfInBounds_toArray, List.set_cons_zero, List.set_cons_succ, i64_w, i32_w]
      rfl
    refine take_ (i := 5) (N := (some 22)) (v := ?_) (a' := ?_) #[true, true, true, false, true, true, false, false, false] rfl rfl (by kernel_rfl) (fun _ _ _ h => h) (Or.inl ⟨by rfl, ?_⟩) hHeld ?_ ?_
    rotate_left
    · intro w' sb_
      have s0_ : w'.cell? ⟨gb, 0, none⟩ = some (.int .i64 x.f0) := (blk_cell (blk_below hbk.out sb_) 0).trans rfl
      have s1_ : w'.cell? ⟨gb, 1, none⟩ = some (.int .i64 x.f1) := (blk_cell (blk_below hbk.out sb_) 1).trans rfl
      have s2_ : w'.cell? ⟨gb, 2, none⟩ = some (.int .i64 x.f2) := (blk_cell (blk_below hbk.out sb_) 2).trans rfl
      clear sb_
      go_simp
      with_reducible rfl
    rotate_left
    · simp only [Act.put, List.setIfInBounds_toArray, List.set_cons_zero, List.set_cons_succ, i64_w, i32_w]
      rfl
    refine join_ (σ := Value × Value) 2 #[true, true, true, true, true, true, true, false, false] (fun s_ => [(20, s_.1), (23, s_.2)]) (fun s_ w' => Below W.heap.size W w' ∧ Kd.R k33 33 w' W.heap.size (fun k_ => some k_ ≠ (s_.2 : Value).ownBlock) s_.1 l.items ∧ Kd.R k33 33 w' W.heap.size (fun k_ => some k_ ≠ (s_.1 : Value).ownBlock) s_.2 [x]) ?_ ?_
    rotate_left
    · intro hCont
      refine two_ (i := 3) (j := 6) (Ni := (some 20)) (Nj := (some 23)) #[true, true, true, true, true, true, false, false, false] #[true, true, true, false, true, true, true, false, false] rfl rfl rfl rfl (by kernel_rfl) (by decide) (by decide) (fun K hK => ?_) (fun K hK => ?_)
      · skip
        refine goes_ Try.func92 (by kernel_rfl) rfl #[.pointer (some ⟨g, 0, none⟩), .int .i64 al] (by rfl) rfl rfl (by first | rfl | (simp only [List.map_toArray, List.map_cons, List.map_nil]; rfl)) ?_
        with_reducible refine (HIL.out _ ?side0).mono ?_
        (case side0 => exact (HI.out.below hbw.out).drew)
        rintro e w1 ⟨v20, rfl, h20, hb1⟩
        refine ⟨_, rfl, ?_⟩
        have HO := Aside0.mk h20
        have HB1 : Aside0 (Below W.heap.size W w1) := ⟨below_step (below_drew (Below.refl _ _)) hb1⟩
        clear h20 hb1
        refine hK.out _ _ HB1.out (fun hHeld => ?_)
        clear hK K
        refine norm_ (a' := ?_) ?_ ?_
        rotate_left
        · show Act.put _ (some 20) _ = _
          simp only [Act.put, List.setIfInBounds_toArray, List.set_cons_zero, List.set_cons_succ, i64_w, i32_w]
          rfl
        refine one_ (i := 6) (N := (some 23)) #[true, true, true, true, true, true, true, false, false] rfl rfl (by kernel_rfl) (by decide) (fun K hK => ?_)
        refine Kd.R_lit_step k33 _ 33 ?hg (N := 23) ?hd (xs := [x]) (inner := [.int .i64 x.f0, .int .i64 x.f1, .int .i64 x.f2]) (ok := fun _ => True) (okp := fun _ => True) ?hr ?hp (fun _ hk => hk) trivial (Below.refl _ _) (Nat.le_refl _) (by simp) ?_; (case hd => rfl); (case hg => rfl); (case hr => first | (go_simp; done) | (go_simp; rfl)); (case hp => exact (Reps.c3 (show Kd.M k33 _ _ _ x [.int .i64 x.f0, .int .i64 x.f1, .int .i64 x.f2] from k33_mkM _ _ _ x) (Reps.none _ _)))
        intro v23 w2 hl hb hg_ hnew_
        clear hnew_ hg_
        have n1_ := Aside0.mk (Kd.R_elder' HO.out (Kd.R_base hl) hb)
        have n2_ := Aside0.mk (Kd.R_lower (Kd.R_new' hl (Kd.R_lt HO.out)) HB1.out.size)
        have HB2 : Aside0 (Below W.heap.size W w2) := ⟨below_step HB1.out hb⟩
        clear hl hb HO HB1
        refine hK.out _ _ HB2.out (fun hHeld => ?_)
        clear hK K
        refine norm_ (a' := ?_) ?_ ?_
        rotate_left
        · show Act.put _ (some 23) _ = _
          simp only [Act.put, List.setIfInBounds_toArray, List.set_cons_zero, List.set_cons_succ, i64_w, i32_w]
          rfl
        exact norm_ (by simp only [putAll, Act.put, List.setIfInBounds_toArray, List.set_cons_zero, List.set_cons_succ]) (hCont (v20, v23) _ ⟨hHeld, Kd.R_mono n1_.out (fun _ hk => hk.2), Kd.R_mono n2_.out (fun _ hk => hk.2)⟩)
      · skip
        refine Kd.R_lit_step k33 _ 33 ?hg (N := 23) ?hd (xs := [x]) (inner := [.int .i64 x.f0, .int .i64 x.f1, .int .i64 x.f2]) (ok := fun _ => True) (okp := fun _ => True) ?hr ?hp (fun _ hk => hk) trivial (Below.refl _ _) (Nat.le_refl _) (by simp) ?_; (case hd => rfl); (case hg => rfl); (case hr => first | (go_simp; done) | (go_simp; rfl)); (case hp => exact (Reps.c3 (show Kd.M k33 _ _ _ x [.int .i64 x.f0, .int .i64 x.f1, .int .i64 x.f2] from k33_mkM _ _ _ x) (Reps.none _ _)))
        intro v23 w1 hl hb hg_ hnew_
        clear hnew_ hg_
        have HO := Aside0.mk hl
        have HB1 : Aside0 (Below W.heap.size W w1) := ⟨below_step (below_drew (Below.refl _ _)) hb⟩
        clear hl hb
        refine hK.out _ _ HB1.out (fun hHeld => ?_)
        clear hK K
        refine norm_ (a' := ?_) ?_ ?_
        rotate_left
        · show Act.put _ (some 23) _ = _
          simp only [Act.put, List.setIfInBounds_toArray, List.set_cons_zero, List.set_cons_succ, i64_w, i32_w]
          rfl
        refine one_ (i := 3) (N := (some 20)) #[true, true, true, true, true, true, true, false, false] rfl rfl (by kernel_rfl) (by decide) (fun K hK => ?_)
        refine goes_ Try.func92 (by kernel_rfl) rfl #[.pointer (some ⟨g, 0, none⟩), .int .i64 al] (by rfl) rfl rfl (by first | rfl | (simp only [List.map_toArray, List.map_cons, List.map_nil]; rfl)) ?_
        with_reducible refine (HIL.out _ ?side0).mono ?_
        (case side0 => exact (HI.out.below hbw.out).below HB1.out)
        rintro e w2 ⟨v20, rfl, h20, hb2⟩
        refine ⟨_, rfl, ?_⟩
        have n2_ := Aside0.mk (Kd.R_elder' HO.out (Kd.R_base h20) hb2)
        have n1_ := Aside0.mk (Kd.R_lower (Kd.R_new' h20 (Kd.R_lt HO.out)) HB1.out.size)
        have HB2 : Aside0 (Below W.heap.size W w2) := ⟨below_step HB1.out hb2⟩
        clear h20 hb2 HO HB1
        refine hK.out _ _ HB2.out (fun hHeld => ?_)
        clear hK K
        refine norm_ (a' := ?_) ?_ ?_
        rotate_left
        · show Act.put _ (some 20) _ = _
          simp only [Act.put, List.setIfInBounds_toArray, List.set_cons_zero, List.set_cons_succ, i64_w, i32_w]
          rfl
        exact norm_ (by simp only [putAll, Act.put, List.setIfInBounds_toArray, List.set_cons_zero, List.set_cons_succ]) (hCont (v20, v23) _ ⟨hHeld, Kd.R_mono n1_.out (fun _ hk => hk.2), Kd.R_mono n2_.out (fun _ hk => hk.2)⟩)
    rintro ⟨v20, v23⟩ w2 ⟨hS_, h0_, h1_⟩
    have hHeld : Below W.heap.size W w2 := hS_
    have HO := Aside0.mk h0_
    have HL := Aside0.mk h1_
    have HB2 := Aside0.mk hS_
    clear h0_ h1_ hS_
    obtain ⟨A2, c2, e2⟩ := Kd.R_slice HL.out
    subst e2
    refine norm_ (a' := ?_) ?_ ?_
    rotate_left
    · simp only [putAll, Act.put, List.setIfInBounds_toArray, List.set_cons_zero, List.set_cons_succ]
      rfl
    refine one_ (i := 7) (N := (some 24)) #[true, true, true, true, true, true, true, true, false] rfl rfl (by kernel_rfl) (by decide) (fun K hK => ?_)
    refine Kd.R_append_rows_step k33 W.heap.size (by rfl) (.tmp 20) (.tmp 23) 24 33 (.agg #[(.int .i64 0), (.int .i64 0), (.int .i64 0)]) 24 rfl Try.underlying24 info33t rfl (by decide) (by omega) v20 l.items [x] _ _ _ (fun k_ => some k_ ≠ (.slice A2 [x].length c2 : Value).ownBlock) (fun _ => False) rfl rfl HO.out (Kd.R_reads' HL.out).2.2 (fun _ _ h => h) (fun _ h => h.elim) (fun k_ hk => Kd.fresh' (Kd.R_lt HL.out) k_ hk) (Below.refl _ _) HB2.out.size ?aL ?_
    (case aL => have := hlen.out; simp only [List.length_cons, List.length_nil]; omega)
    intro v24 w3 ho hb hg hat
    rw [← HY.out] at ho
    have HO3 := Aside0.mk (Kd.R_mono (ok' := fun _ => True) ho (fun _ _ => trivial))
    have HB3 : Aside0 (Below W.heap.size W w3) := ⟨below_weaken HB2.out (Nat.le_refl _) hb⟩
    clear ho hb hg hat
    refine hK.out _ _ HB3.out (fun hHeld => ?_)
    clear hK K
    refine norm_ (a' := ?_) ?_ ?_
    rotate_left
    · show Act.put _ (some 24) _ = _
      simp only [Act.put, List.setIfInBounds_toArray, List.set_cons_zero, List.set_cons_succ, i64_w, i32_w]
      rfl
    refine pure_ (i := 8) (N := (some 6)) (v := ?_) (a' := ?_) #[true, true, true, true, true, true, true, true, true] rfl rfl (by kernel_rfl) (fun _ _ _ h => h) (Or.inl ⟨by rfl, ?_⟩) ?_ ?_
    rotate_left
    · intro w'
      go_simp
      with_reducible rfl
    rotate_left
    · simp only [Act.put, List.setIfInBounds_toArray, List.set_cons_zero, List.set_cons_succ, i64_w, i32_w]
      rfl
    refine done_ (by kernel_rfl) ?_
    obtain ⟨A3, c3, e3⟩ := Kd.R_slice HO3.out
    subst e3
    have hm4 : w3.cell? ⟨gb, 4, none⟩ = some (.int .i64 ar) := (blk_cell (blk_below hbk.out HB3.out) 4).trans rfl
    go_wp2_with (first
      | (go_at_call_of 92 ar; with_reducible refine (HIR.out _ ?side0).mono ?_; (case side0 => exact (HI.out.below hbw.out).below HB3.out); rintro e w4 ⟨v29, rfl, h29, hb4⟩; have n1_ := Aside0.mk (Kd.R_elder' HO3.out (Kd.R_base h29) hb4); have n2_ := Aside0.mk (Kd.R_new' h29 (Kd.R_lt HO3.out)); have HB4 : Aside0 (Below W.heap.size W w4) := ⟨below_step HB3.out hb4⟩; clear h29 hb4 HO3; obtain ⟨A4, c4, e4⟩ := Kd.R_slice n2_.out; subst e4)
      | ((with_reducible refine gate_dst (N := 30) rfl ?_); refine Kd.R_append_rows k33 W.heap.size rfl (.tmp 25) (.tmp 29) 24 33 (.agg #[(.int .i64 0), (.int .i64 0), (.int .i64 0)]) 24 rfl Try.underlying24 info33t rfl (by decide) (by omega) _ y r.items _ _ _ (fun k_ => some k_ ≠ (.slice A4 r.items.length c4 : Value).ownBlock) (fun _ => False) rfl rfl (Kd.R_mono n1_.out (fun _ hk => hk.2)) (Kd.R_reads' n2_.out).2.2 (fun _ _ h => h) (fun _ h => h.elim) (fun k_ hk => Kd.fresh' (Kd.R_lt n2_.out) k_ hk) (Below.refl _ _) HB4.out.size ?aL ?_; (case aL => have := hlen.out; rw [HY.out]; simp only [List.length_append, List.length_cons, List.length_nil]; omega); intro v30 w5 ho hb hg hat; have HO5 := Aside0.mk ho; have HB5 : Aside0 (Below W.heap.size W w5) := ⟨below_weaken HB4.out (Nat.le_refl _) hb⟩; clear ho hb hg hat))
    go_ret
    exact ⟨_, rfl, Kd.R_lower (Kd.R_mono (ok' := fun _ => True) (by have h_ := HO5.out; rw [HY.out] at h_; simpa [Tr.items] using h_) (fun _ _ => trivial)) hbw.out.size, below_step hbw.out HB5.out⟩
def spec_l04Wood_items.f (s0_0 : List S130) (s0_1 : Int) (a1 : Int) : Option (List S33 × Int) := (unlay 1001 s0_0 a1).bind fun t => if t.sz ≤ 1000 then some (t.items, s0_1) else none
theorem spec_l04Wood_items.calls (g : Nat) (s0_0 : List S130) (s0_1 : Int) (a1 : Int) (r1 : List S33) (r2 : Int) (w0 w : World) (hI : IsS119 w0 w g s0_0 s0_1) (hB : Below w0.heap.size w0 w) (h : spec_l04Wood_items.f s0_0 s0_1 a1 = some (r1, r2)) :
    Calls Try.prog 92 #[.pointer (some ⟨g, 0, none⟩), .int .i64 a1] w fun e w' => ∃ v0_ : Value, e = .returned v0_ ∧ Kd.R k33 33 w' w.heap.size (fun _ => True) v0_ r1 ∧ IsS119 w0 w' g s0_0 r2 ∧ Below w0.heap.size w0 w' ∧ KeepBut w w' g none := by
  unfold spec_l04Wood_items.f at h
  obtain ⟨t, ht, h⟩ := Option.bind_eq_some_iff.1 h
  split at h
  · rename_i hs
    simp only [Option.some.injEq, Prod.mk.injEq] at h
    obtain ⟨rfl, rfl⟩ := h
    exact (witems_calls t g s0_0 s0_1 a1 w0 w hI (unlay_rep _ _ _ _ ht) hs).mono fun e w' ⟨v, he, hv, hb⟩ => ⟨v, he, hv, hI.below hb, below_then hB hB.size hb, KeepBut.of_below hb g none⟩
  · cases h

/-! ### spec_l01Max: function 131 -/
def spec_l01Max.f (a0 : Int) (a1 : Int) : Option (Int) := if a0 > a1 then (some a0) else (some a1)
set_option maxHeartbeats 8000000 in
set_option maxRecDepth 100000 in
theorem spec_l01Max.calls (a0 : Int) (a1 : Int) (r : Int) (w : World) (h : spec_l01Max.f a0 a1 = some r) :
    Calls Try.prog 131 #[.int .i64 a0, .int .i64 a1] w fun e w' => e = .returned (.int .i64 r) ∧ Drawn0 w w' := by
  have H : (if a0 > a1 then (some a0) else (some a1)) = some r := h
  clear h
  by_cases c3 : a0 > a1
  · rw [if_pos c3] at H
    have c3b0 : decide (a1 < a0) = true := decide_eq_true c3
    clear c3
    obtain rfl := Option.some.inj H
    go_enter Try.func131, Try.ntmps131
    go_wp2
    go_ret
    exact ⟨by first | rfl | (simp; done) | (simp [*]; done), by repeat (first | exact Drawn0.refl _ | apply Drawn0.step)⟩
  · rw [if_neg c3] at H
    have c3b0 : decide (a1 < a0) = false := decide_eq_false c3
    clear c3
    obtain rfl := Option.some.inj H
    go_enter Try.func131, Try.ntmps131
    go_wp2
    go_ret
    exact ⟨by first | rfl | (simp; done) | (simp [*]; done), by repeat (first | exact Drawn0.refl _ | apply Drawn0.step)⟩

/-! ### spec_l04Wood_height: function 97 -/
attribute [local go_sem] Oper.semAt_some
theorem max_q (a b m : Int) (h : m = if a > b then a else b) (w : World) : Calls Try.prog 131 #[.int .i64 a, .int .i64 b] w fun e w' => e = .returned (.int .i64 m) ∧ ∃ m, w' = w.drewN m := by
  have h : spec_l01Max.f a b = some m := by unfold spec_l01Max.f; rw [h]; split <;> rfl
  exact (spec_l01Max.calls a b _ w h).mono fun _ _ h_ => ⟨h_.1, h_.2.out⟩
set_option maxHeartbeats 2000000 in
set_option maxRecDepth 100000 in
theorem wheight_calls (t : Tr) : ∀ (g : Nat) (ns : List S130) (top a : Int) (w0 w : World) (hI : IsS119 w0 w g ns top) (hr : Rep ns t a) (hlen : t.sz ≤ 1000),
    Calls Try.prog 97 #[.pointer (some ⟨g, 0, none⟩), .int .i64 a] w fun e w' => e = .returned (.int .i64 (t.ht : Nat)) ∧ ∃ m, w' = w.drewN m := by
  induction t with
  | nil =>
    intro g ns top a w0 w hI hr hlen
    have hlt : a < 0 := hr
    clear hI hr
    go_enter Try.func97, Try.ntmps97
    go_wp2
    go_ret
    exact ⟨rfl, 0, rfl⟩
  | node x l r ihl ihr =>
    intro g ns top a w0 w hI hr hlen
    obtain ⟨h0, h1, hx, hl, hr⟩ := hr
    obtain ⟨A0, c0, bk, ge, hR⟩ := id hI
    obtain ⟨ad, e, hx0, hx1, hx2, hx3, hx4⟩ := at_T130 (Kd.R_reads' hR).2.2 a h0 h1
    cases e
    have hb0 := blk_cell bk 0
    simp only [List.getElem?_toArray, List.getElem?_cons_zero, List.getElem?_cons_succ] at hb0
    have hhl := Tr.ht_le l
    have hhr := Tr.ht_le r
    have hge : (a < 0) = False := eq_false (by omega)
    obtain ⟨m, hm⟩ : ∃ m, m = if (l.ht : Int) > (r.ht : Int) then (l.ht : Int) else (r.ht : Int) := ⟨_, rfl⟩
    have hw : wrap64 (1 + m) = (((Tr.node x l r).ht : Nat) : Int) := by
      rw [hm]; simp only [Tr.ht, Tr.sz] at *; unfold wrap64; split <;> omega
    have HM := Aside0.mk hm
    clear hm
    have HI := Aside0.mk hI
    have HIL := Aside0.mk (fun w h => ihl g ns top _ w0 w h hl (by simp only [Tr.sz] at hlen; omega))
    have HIR := Aside0.mk (fun w h => ihr g ns top _ w0 w h hr (by simp only [Tr.sz] at hlen; omega))
    generalize (((Tr.node x l r).ht : Nat) : Int) = n at hw ⊢
    have HW := Aside0.mk hw
    clear hw
    generalize (rd_T130 ns a).f1 = al at hx3 HIL
    generalize (rd_T130 ns a).f2 = ar at hx4 HIR
    have hlt2 : a < (ns.length : Int) := h1
    clear hI hr hl hx ihl ihr hlen hhl hhr bk ge hR hx0 hx1 hx2
    go_enter Try.func97, Try.ntmps97
    go_wp2
    go_quiet (first
      | (go_at_call_of 97 al; refine Calls.quiet_of (HIL.out _ ?_); exact HI.out.drewN _)
      | (go_at_call_of 97 ar; refine Calls.quiet_of (HIR.out _ ?_); exact HI.out.drewN _)
      | (go_at_call 131; refine Calls.quiet_of (max_q _ _ m HM.out _)))
    go_wp2
    go_ret
    exact ⟨by show Ending.returned (Value.int IntKind.i64 (wrap64 (1 + m))) = _; rw [HW.out], _, rfl⟩
def spec_l04Wood_height.f (s0_0 : List S130) (s0_1 : Int) (a1 : Int) : Option (Int × Int) := (unlay 1001 s0_0 a1).bind fun t => if t.sz ≤ 1000 then some ((t.ht : Nat), s0_1) else none
theorem spec_l04Wood_height.calls (g : Nat) (s0_0 : List S130) (s0_1 : Int) (a1 : Int) (r1 : Int) (r2 : Int) (w0 w : World) (hI : IsS119 w0 w g s0_0 s0_1) (hB : Below w0.heap.size w0 w) (h : spec_l04Wood_height.f s0_0 s0_1 a1 = some (r1, r2)) :
    Calls Try.prog 97 #[.pointer (some ⟨g, 0, none⟩), .int .i64 a1] w fun e w' => e = .returned (.int .i64 r1) ∧ IsS119 w0 w' g s0_0 r2 ∧ Below w0.heap.size w0 w' ∧ KeepBut w w' g none := by
  unfold spec_l04Wood_height.f at h
  obtain ⟨t, ht, h⟩ := Option.bind_eq_some_iff.1 h
  split at h
  · rename_i hs
    simp only [Option.some.injEq, Prod.mk.injEq] at h
    obtain ⟨rfl, rfl⟩ := h
    exact (wheight_calls t g s0_0 s0_1 a1 w0 w hI (unlay_rep _ _ _ _ ht) hs).mono fun e w' ⟨he, m, hm⟩ => by
      have hb : Below w.heap.size w w' := by rw [hm]; exact pw_below_drewN (Below.refl _ _) m
      exact ⟨he, hI.below hb, below_then hB hB.size hb, KeepBut.of_below hb g none⟩
  · cases h

end Go.Proofs.Ytenlceojmjkbkaa.XFnExactTreeBelow
