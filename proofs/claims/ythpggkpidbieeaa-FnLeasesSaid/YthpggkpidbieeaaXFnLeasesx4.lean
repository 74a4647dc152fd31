/- Functions that FnLeases comes to, as Lean functions with their contracts: written by the prover's own program (wip/tpl/myprint.py) over the kit's printer, some contracts by hand. Conditions: none. -/
import Derived.Test.YthpggkpidbieeaaXFnLeasesx0
import Derived.Test.YthpggkpidbieeaaXFnLeasesx1
import Derived.Test.YthpggkpidbieeaaXFnLeasesx2
import Derived.Test.YthpggkpidbieeaaXFnLeasesx3
namespace Go.Proofs.Ythpggkpidbieeaa.XFnLeases
open Go.RowKit Go.Proofs.YthpggkpidbieeaaW.PrintWords Go.Proofs.YthpggkpidbieeaaW.PrintLast Go.Proofs.YthpggkpidbieeaaW.PrintMore
attribute [local go_sem] max2_int min2_int max_two min_two max_three min_three max_four min_four   -- for this text's walks alone
set_option linter.unusedVariables false
set_option linter.unusedSimpArgs false

/-! ### impl_leasePut: function 51 -/
/-- The cells of an element, of a list. -/
def enc33 (x : S33) : List Value := [.int .i64 x.f0, .int .i64 x.f1, .int .i64 x.f2]
def flat33 (l : List S33) : List Value := l.flatMap enc33
theorem flat33_length (l : List S33) : (flat33 l).length = l.length * 3 := by
  induction l with
  | nil => rfl
  | cons x l ih => simp [flat33, enc33] at ih ⊢; omega
theorem flat33_append (l m : List S33) : flat33 (l ++ m) = flat33 l ++ flat33 m := by simp [flat33]
theorem flat33_one (l : List S33) : ∀ u ∈ flat33 l, u.oneCell' = true := by
  intro u hu
  simp only [flat33, List.mem_flatMap, enc33] at hu
  obtain ⟨x, _, hx⟩ := hu
  simp only [List.mem_cons, List.not_mem_nil, or_false] at hx
  rcases hx with rfl | rfl | rfl <;> rfl
theorem reps_flat {R : S33 → List Value → Prop} (hR : ∀ x cs, R x cs → cs = enc33 x) : ∀ (l : List S33) (cs : List Value), Reps R 3 l cs → cs = flat33 l
  | [], cs, h => List.eq_nil_of_length_eq_zero (by simpa using h.1)
  | x :: l, cs, h => by
    have h0 := hR _ _ (h.2 0 x rfl)
    simp only [Nat.zero_mul, List.drop_zero] at h0
    have ht : Reps R 3 l (cs.drop 3) := ⟨by rw [List.length_drop, h.1]; simp; omega, fun j p hj => by
      have := h.2 (j + 1) p (by simpa using hj)
      rwa [List.drop_drop, show 3 + j * 3 = (j + 1) * 3 by omega]⟩
    have h1 := reps_flat hR l _ ht
    rw [show flat33 (x :: l) = enc33 x ++ flat33 l from rfl, ← h0, ← h1, List.take_append_drop]
theorem flat_reps {R : S33 → List Value → Prop} (hR : ∀ x, R x (enc33 x)) : ∀ (l : List S33), Reps R 3 l (flat33 l)
  | [] => Reps.none _ _
  | x :: l => Reps.c3 (hR x) (flat_reps hR l)
theorem R_flat {e base : Nat} {ok : Nat → Prop} {w : World} {v : Value} {l : List S33} (h : k33.R e w base ok v l) : w.ownsRow base e 3 v l.length (flat33 l) := by
  obtain ⟨_, inner, ho, hr⟩ := h
  rwa [reps_flat (fun x cs h => k33_openM h) l inner hr] at ho
theorem flat_R {e base : Nat} {ok : Nat → Prop} {w : World} {v : Value} {l : List S33} (h : w.ownsRow base e 3 v l.length (flat33 l)) (hok : ∀ k, v.ownBlock = some k → ok k) : k33.R e w base ok v l :=
  ⟨hok, flat33 l, h, flat_reps (fun x => k33_mkM _ _ _ x) l⟩

/-- The one element handed in, in a block of its own. -/
theorem one_reads {w : World} {vb : Nat} {x : S33} (h : w.heap[vb]? = some (.cells #[.int .i64 x.f0, .int .i64 x.f1, .int .i64 x.f2] 33 (0, 0))) : ReadsRow (fun y cs => cs = enc33 y) 3 w (some ⟨vb, 0, none⟩) 1 [x] :=
  ⟨rfl, by omega, fun _ => ⟨_, rfl, fun j p hj => by
    have hj0 : j = 0 := by
      rcases j with _ | j
      · rfl
      · simp at hj
    subst hj0
    simp only [List.getElem?_cons_zero, Option.some.injEq] at hj
    subst hj
    refine ⟨enc33 x, rfl, rfl, fun i u hu => ?_⟩
    rw [add_plain, Nat.zero_mul, Nat.zero_add, blk_cell h]
    simpa [enc33] using hu⟩⟩
set_option maxHeartbeats 8000000 in
set_option maxRecDepth 100000 in
/-- slices.Insert at the end. -/
theorem Insert_end (base : Nat) (v : Value) (l : List S33) (x : S33) (vb : Nat) (w : World) (hs : base ≤ w.heap.size) (ho : k33.R 33 w base (fun _ => True) v l) (hvb : w.heap[vb]? = some (.cells #[.int .i64 x.f0, .int .i64 x.f1, .int .i64 x.f2] 33 (0, 0)))
    (hl : l.length ≤ 1000) :
    Calls Try.prog 83 #[v, .int .i64 (l.length : Nat), .slice (some ⟨vb, 0, none⟩) 1 1] w fun e w' => ∃ v', e = .returned v' ∧ k33.R 33 w' base (fun _ => True) v' (l ++ [x]) ∧ Below base w w' := by
  have hu24 := Try.underlying24
  have HO := Aside0.mk ho
  have HV := Aside0.mk hvb
  have HS := Aside0.mk hs
  obtain ⟨A, c, rfl, hlc, hC⟩ := Kd.R_reads ho
  clear ho hvb hs hC
  have hc1 : (0 : Int) ≤ (l.length : Int) := by omega
  by_cases hcl : c = l.length
  · subst hcl
    go_enter Try.func83, Try.ntmps83
    go_wp2_with (at_builtin; refine Kd.R_append_rows k33 (w0 := w) base rfl (.tmp 23) (.tmp 24) 24 33 _ 24 rfl Try.underlying24 info33 rfl (by decide) (by decide) (.slice A l.length l.length) l [x] (some ⟨vb, 0, none⟩) 1 1 (fun _ => True) (fun _ => False) rfl rfl HO.out (one_reads HV.out) (fun y cs h => by rw [h]; exact k33_mkM _ _ _ _) (fun k hk => hk.elim) (fun _ _ => trivial) (Below.refl _ _) HS.out (by omega) ?_; intro v1 w1 hR hB _ _; have HR1 := Aside0.mk hR; have HB1 := Aside0.mk hB; clear hR hB)
    go_ret
    exact ⟨_, rfl, HR1.out, HB1.out⟩
  · go_enter Try.func83, Try.ntmps83
    go_wp2_with (at_builtin; refine Kd.R_append_rows k33 (w0 := w) base rfl (.tmp 23) (.tmp 24) 24 33 _ 24 rfl Try.underlying24 info33 rfl (by decide) (by decide) (.slice A l.length c) l [x] (some ⟨vb, 0, none⟩) 1 1 (fun _ => True) (fun _ => False) rfl rfl HO.out (one_reads HV.out) (fun y cs h => by rw [h]; exact k33_mkM _ _ _ _) (fun k hk => hk.elim) (fun _ _ => trivial) (Below.refl _ _) HS.out (by omega) ?_; intro v1 w1 hR hB _ _; have HR1 := Aside0.mk hR; have HB1 := Aside0.mk hB; clear hR hB)
    go_ret
    exact ⟨_, rfl, HR1.out, HB1.out⟩

/-- copy at elements of several cells. -/
theorem run_copy_recs {P : Program} (w : World) (dT sT ty elem : TypeId) (k b o dLen dCap : Nat) (a : Addr) (sLen sCap : Nat) (cs : List Value)
    (hu : P.underlying dT = some (.slice elem)) (hs : (P.info? elem).map (·.size) = some k) (hn : cs.length = Nat.min sLen dLen * k)
    (hsrc : ∀ j v, cs[j]? = some v → w.cell? (a.add j) = some v) (hc : ∀ j, j < cs.length → (w.cell? ⟨b, o + j, none⟩).isSome = true) (hf : ∀ j, j < cs.length → w.frozen? ⟨b, o + j, none⟩ = false) (h1 : ∀ v ∈ cs, v.oneCell' = true) :
    (Builtin.copy_ #[dT, sT] ty #[.slice (some ⟨b, o, none⟩) dLen dCap, .slice (some a) sLen sCap]).run P w = .ok (goInt (Nat.min sLen dLen : Nat)) (w.setCells b o cs) := by
  have hl := run_loadCells_list (P := P) w a cs hsrc
  have hst := run_storeCells_cells (P := P) b o cs 0 w (by simpa using hc) (by simpa using hf) h1
  cases hq : P.info? elem with
  | none => simp [hq] at hs
  | some i =>
    have hi : i.size = k := by simpa [hq] using hs
    simp [Builtin.copy_, run_underlying hu, Builtin.lenOf, Builtin.firstCells, sizeOf, typeInfo, hq, hi, ← hn, hl, hst]
theorem setCells_two {w : World} {g : Nat} {e : TypeId} {cur : Array Value} (h : w.heap[g]? = some (.cells cur e (0, 0))) (seg : List Value) (o : Nat) (ho : o + seg.length ≤ cur.size) :
    ∃ cur' : Array Value, (w.setCells g o seg).heap[g]? = some (.cells cur' e (0, 0)) ∧ cur'.size = cur.size ∧ cur'.toList = cur.toList.take o ++ seg ++ cur.toList.drop (o + seg.length) := setCells_row seg o w cur h ho

set_option maxHeartbeats 8000000 in
set_option maxRecDepth 100000 in
/-- slices.Insert ahead of the end, where there is room: in place. -/
theorem Insert_shift (base g c : Nat) (l : List S33) (x : S33) (i vb : Nat) (w : World) (hs : base ≤ w.heap.size) (ho : k33.R 33 w base (fun _ => True) (.slice (some ⟨g, 0, none⟩) l.length c) l) (hvb : w.heap[vb]? = some (.cells #[.int .i64 x.f0, .int .i64 x.f1, .int .i64 x.f2] 33 (0, 0)))
    (hne : vb ≠ g) (hi : i < l.length) (hl : l.length ≤ 1000) (hroom : l.length + 1 ≤ c) :
    Calls Try.prog 83 #[.slice (some ⟨g, 0, none⟩) l.length c, .int .i64 (i : Nat), .slice (some ⟨vb, 0, none⟩) 1 1] w fun e w' => ∃ v', e = .returned v' ∧ k33.R 33 w' base (fun _ => True) v' (l.take i ++ x :: l.drop i) ∧ Below base w w' := by
  have hu24 := Try.underlying24
  have hO := R_flat ho
  obtain ⟨_, ho2⟩ := hO
  rcases ho2 with ⟨hv, _⟩ | ⟨g', cap', cur, hv, hb, hh, hnc, hcm, hcs, ht⟩
  · cases hv
  injection hv with ha _ hc
  injection ha with ha
  injection ha with hg
  subst hg; subst hc
  have hmaxc : c ≤ 9223372036854775807 := hcm
  have hfl := flat33_length l
  have hfd : (flat33 (l.drop i)).length = (l.length - i) * 3 := by rw [flat33_length, List.length_drop]
  have hft : (flat33 (l.take i)).length = i * 3 := by rw [flat33_length, List.length_take, Nat.min_eq_left (by omega)]
  have hcurT : cur.toList.take (l.length * 3) = flat33 l := ht
  have hsplit : flat33 l = flat33 (l.take i) ++ flat33 (l.drop i) := by rw [← flat33_append, List.take_append_drop]
  have hsz33 : (Try.prog.info? 33).map (·.size) = some 3 := by
    obtain ⟨i0, hi0, hz⟩ := Option.map_eq_some_iff.1 info33
    simp only [Prod.mk.injEq] at hz
    rw [hi0]; simp [hz.2.1]
  have hcell : ∀ (W : World) (cu : Array Value), W.heap[g]? = some (.cells cu 33 (0, 0)) → ∀ j, W.cell? ⟨g, j, none⟩ = cu[j]? := fun W cu h j => blk_cell h j
  have hfz : ∀ (W : World) (cu : Array Value), W.heap[g]? = some (.cells cu 33 (0, 0)) → ∀ j, W.frozen? ⟨g, j, none⟩ = false := fun W cu h j => blk_frozen h j
  have hov : ∀ lb cb, (callFunc 96 #[.slice (some ⟨vb, 0, none⟩) 1 1, .slice (some ⟨g, (i + 1) * 3, none⟩) lb cb]).run Try.prog w = .ok (.value (.bool false)) w := fun lb cb => by
    rw [run_callFunc_extern Try.func96 (by kernel_rfl) (by kernel_rfl) (by kernel_rfl) (e := Extern.SlicesOverlaps.overlaps #[24, 24] #[4]) (by kernel_rfl),
      Lib.run_overlaps_apart w 24 4 33 Try.underlying24 3 Try.sizeOf33 ⟨vb, 0, none⟩ ⟨g, (i + 1) * 3, none⟩ 1 1 lb cb hne 33 33 3 (c * 3) (by simp [World.shape?, hvb]) (by simp [World.shape?, hh, hcs]) (by omega) (blk_frozen hvb 0) (blk_frozen hvb 3)]
    rfl
  have hd0 : w.drew.heap[g]? = some (.cells cur 33 (0, 0)) := hh
  have hcp1 : ∀ ty dc sc, (Builtin.copy_ #[24, 24] ty #[.slice (some ⟨g, (i + 1) * 3, none⟩) (l.length - i) dc, .slice (some ⟨g, i * 3, none⟩) (l.length + 1 - i) sc]).run Try.prog w.drew = .ok (goInt (Nat.min (l.length + 1 - i) (l.length - i) : Nat)) (w.drew.setCells g ((i + 1) * 3) (flat33 (l.drop i))) := fun ty dc sc =>
    run_copy_recs w.drew _ _ ty 33 3 g ((i + 1) * 3) (l.length - i) dc ⟨g, i * 3, none⟩ (l.length + 1 - i) sc (flat33 (l.drop i)) Try.underlying24 hsz33 (by rw [hfd]; simp only [Nat.min_def]; split <;> omega)
      (fun j v hj => by
        rw [Addr.add_lit, hcell _ _ hd0]
        have hj2 : j < (l.length - i) * 3 := by rw [← hfd]; exact (List.getElem?_eq_some_iff.1 hj).1
        have : (flat33 l)[i * 3 + j]? = some v := by rw [hsplit, List.getElem?_append_right (by omega), hft, Nat.add_sub_cancel_left]; exact hj
        rw [← hcurT, List.getElem?_take, if_pos (by omega)] at this
        simpa using this)
      (fun j hj => by rw [hcell _ _ hd0, Array.getElem?_eq_getElem (by rw [hfd] at hj; omega)]; rfl) (fun j hj => hfz _ _ hd0 _) (flat33_one _)
  obtain ⟨W1, hW1⟩ : ∃ W1, W1 = w.drew.setCells g ((i + 1) * 3) (flat33 (l.drop i)) := ⟨_, rfl⟩
  obtain ⟨cur1, h1a, h1b, h1c⟩ := setCells_two hd0 (flat33 (l.drop i)) ((i + 1) * 3) (by rw [hfd]; omega)
  rw [← hW1] at h1a hcp1
  have hcp2 : ∀ ty dc, (Builtin.copy_ #[24, 24] ty #[.slice (some ⟨g, i * 3, none⟩) (l.length + 1 - i) dc, .slice (some ⟨vb, 0, none⟩) 1 1]).run Try.prog W1 = .ok (goInt (Nat.min 1 (l.length + 1 - i) : Nat)) (W1.setCells g (i * 3) (enc33 x)) := fun ty dc =>
    run_copy_recs W1 _ _ ty 33 3 g (i * 3) (l.length + 1 - i) dc ⟨vb, 0, none⟩ 1 1 (enc33 x) Try.underlying24 hsz33 (by show 3 = _; simp only [Nat.min_def]; split <;> omega)
      (fun j v hj => by
        rw [Addr.add_lit, Nat.zero_add, hW1, World.cell?_setCells_out g _ _ _ _ (fun h _ => absurd h hne)]
        have := blk_cell (w := w.drew) (g := vb) hvb j
        rw [this]; simpa [enc33] using hj)
      (fun j hj => by rw [hcell _ _ h1a, Array.getElem?_eq_getElem (by rw [h1b, hcs]; have : j < 3 := hj; omega)]; rfl) (fun j hj => hfz _ _ h1a _) (fun v hv => flat33_one [x] v (by simpa [flat33] using hv))
  obtain ⟨cur2, h2a, h2b, h2c⟩ := setCells_two h1a (enc33 x) (i * 3) (by show i * 3 + 3 ≤ _; rw [h1b, hcs]; omega)
  have HF := Aside0.mk (show (W1.setCells g (i * 3) (enc33 x)).ownsRow base 33 3 (.slice (some ⟨g, 0, none⟩) (l.length + 1) c) (l.length + 1) (flat33 (l.take i ++ x :: l.drop i)) from by
    refine ⟨by rw [flat33_length]; simp; omega, .inr ⟨g, c, cur2, rfl, hb, h2a, hroom, hcm, by rw [h2b, h1b, hcs], ?_⟩⟩
    have hT0 : (flat33 l).take (i * 3) = flat33 (l.take i) := by rw [hsplit, List.take_append_of_le_length (by omega), List.take_of_length_le (by omega)]
    have hT : cur.toList.take (i * 3) = flat33 (l.take i) := by
      rw [← hT0, ← hcurT, List.take_take, Nat.min_eq_left (by omega)]
    have hlc : cur.toList.length = c * 3 := by rw [Array.length_toList, hcs]
    have e1 : cur1.toList.take (i * 3) = flat33 (l.take i) := by
      rw [h1c, List.append_assoc, List.take_append_of_le_length (by rw [List.length_take]; omega), List.take_take, Nat.min_eq_left (by omega), hT]
    have e2 : (cur1.toList.drop (i * 3 + 3)).take ((l.length - i) * 3) = flat33 (l.drop i) := by
      rw [h1c, List.append_assoc, List.drop_append, List.length_take, List.drop_eq_nil_of_le (by rw [List.length_take]; omega), List.nil_append, Nat.min_eq_left (by omega), show i * 3 + 3 - (i + 1) * 3 = 0 by omega, List.drop_zero, List.take_append_of_le_length (by omega), List.take_of_length_le (by omega)]
    rw [h2c, e1, flat33_append, show flat33 (x :: l.drop i) = enc33 x ++ flat33 (l.drop i) from rfl, show (enc33 x).length = 3 from rfl]
    have hlen : (flat33 (l.take i) ++ enc33 x).length = i * 3 + 3 := by rw [List.length_append, hft]; rfl
    rw [List.take_append, List.take_of_length_le (l := flat33 (l.take i) ++ enc33 x) (by rw [hlen]; omega), hlen, show (l.length + 1) * 3 - (i * 3 + 3) = (l.length - i) * 3 by omega, e2, List.append_assoc])
  have HB := Aside0.mk (show Below base w (W1.setCells g (i * 3) (enc33 x)) from by
    obtain ⟨s1, s2, s3, s4⟩ := setCells_same g (flat33 (l.drop i)) ((i + 1) * 3) w.drew
    obtain ⟨t1, t2, t3, t4⟩ := setCells_same g (enc33 x) (i * 3) W1
    rw [← hW1] at s1 s2 s3 s4
    refine ⟨t1.trans s1, t2.trans s2, t3.trans s3, by rw [t4, s4]; exact Nat.le_refl _, fun k hk => ?_⟩
    rw [setCells_far _ _ k (by omega), hW1, setCells_far _ _ k (by omega)]
    rfl)
  clear ho hh hd0 h1a h1b h1c h2a h2b h2c hW1 ht hcurT hsplit hcs hfl hfd hft hcell hfz hsz33 hvb
  have hz2 : ¬ ((i : Int) = (l.length : Int)) := by omega
  have hw1 : IntKind.i64.wrap ((i : Int) + 1) = (i : Int) + 1 := by rw [IntKind.wrap_i64]; omega
  have hb1 : (0 : Int) ≤ (i : Int) + 1 := by omega
  have hin : i ≤ l.length := by omega
  have htn : ((i : Int) + 1).toNat = i + 1 := by omega
  have hb2 : ¬ (c = i + 1) := by omega
  have hb3 : (i : Int) ≤ (l.length : Int) + 1 := by omega
  have hb4 : ¬ (c = i) := by omega
  go_enter Try.func83, Try.ntmps83
  go_wp2_with (simp only [hov])
  go_region_law (refine step_copy_runI rfl _ _ 24 24 rfl _ _ (by simp [Act.eval, Act.put]) (by simp [Act.eval, Act.put]) (hcp1 _ _ _) ?_)
  go_wp2_with (at_builtin; refine wpList_copy_runI _ rfl _ _ 24 24 rfl _ _ rfl rfl (hcp2 _ _) ?_)
  go_ret
  exact ⟨_, rfl, flat_R (by rw [show (l.take i ++ x :: l.drop i).length = l.length + 1 by simp; omega]; exact HF.out) (fun _ _ => trivial), HB.out⟩

/-- append(s, make([]T, m)...) where there is no room: a new row. -/
theorem run_zeros_grow {P : Program} (w : World) (t ti ty e : TypeId) (i : TypeInfo) (z : Value) (size bytes : Nat) (ht : P.underlying t = some (.slice e)) {k : IntKind} (hti : P.underlying ti = some (.int k)) (hi : P.info? e = some i) (hz : i.zero = some z)
    (hsize : i.size = size) (hby : i.bytes = bytes) (hzs : z.cells.size = size) (hsz : 0 < size) (hb0 : 0 < bytes)
    (A : Option Addr) (n cap : Nat) (xs : List Value) (kx : IntKind) (m : Nat) (hm : 0 < m) (hcap : cap < n + m) (hbytes : (n + m) * bytes ≤ 140737488355328) (hfo : (Builtin.firstCells size n (.slice A n cap)).run P w.drew = .ok xs.toArray w.drew) :
    (Builtin.append_ #[t, ti] ty #[.slice A n cap, .int kx m]).run P w =
      .ok (.slice (some ⟨w.heap.size, 0, none⟩) (n + m) (grownCap w (n + m) cap e)) (w.drew.alloc (.cells (xs.toArray ++ Builtin.zeroCells z.cells m ++ Builtin.zeroCells z.cells (grownCap w (n + m) cap e - (n + m))) e)) := by
  subst hsize
  subst hby
  have hle : n + m ≤ 140737488355328 := Nat.le_trans (Nat.le_mul_of_pos_right _ hb0) hbytes
  have hw : IntKind.i64.wrap (m : Int) = m := by rw [IntKind.wrap_i64]; omega
  have hneg : ¬ ((m : Int) < 0) := by omega
  have hmb : m * i.bytes ≤ 140737488355328 := Nat.le_trans (Nat.mul_le_mul_right _ (Nat.le_add_left m n)) hbytes
  have hbig : ¬ (281474976710656 < (m : Int) * (i.bytes : Int)) := by
    rw [← Int.natCast_mul]
    omega
  have hsn : i.size ≠ 0 := by omega
  have hn : ¬ (n + m ≤ cap) := by omega
  have h63' : ¬ (9223372036854775807 < ((n : Int) + (m : Int))) := by omega
  have hfit := growslice_fits hcap hbytes
  have h48' : ¬ (281474976710656 < Builtin.nextslicecap (n + m) cap * i.bytes) := by omega
  have hmz : ¬ (m * i.size = 0) := Nat.mul_ne_zero (by omega) hsn
  obtain ⟨news, hnews⟩ : ∃ news, news = (Builtin.zeroCells z.cells m).toList := ⟨_, rfl⟩
  have hna : Builtin.zeroCells z.cells m = news.toArray := by rw [hnews]
  simp [Builtin.append_, run_underlying ht, run_underlying hti, sizeOf, typeInfo, zeroValue, hi, hz, asInt, asIntOf, hw, hneg, hbig, hn, h63', h48', Question.forced, hfo, newRow, grownCap, hmz, hna]
  congr 2
  apply Array.ext'
  simp [List.append_assoc]
set_option maxHeartbeats 8000000 in
set_option maxRecDepth 100000 in
/-- slices.Insert ahead of the end, where there is no room: a new row. -/
theorem Insert_grow (base g : Nat) (l : List S33) (x : S33) (i vb : Nat) (w : World) (hs : base ≤ w.heap.size) (ho : k33.R 33 w base (fun _ => True) (.slice (some ⟨g, 0, none⟩) l.length l.length) l) (hvb : w.heap[vb]? = some (.cells #[.int .i64 x.f0, .int .i64 x.f1, .int .i64 x.f2] 33 (0, 0)))
    (hi : i < l.length) (hl : l.length ≤ 1000) :
    Calls Try.prog 83 #[.slice (some ⟨g, 0, none⟩) l.length l.length, .int .i64 (i : Nat), .slice (some ⟨vb, 0, none⟩) 1 1] w fun e w' => ∃ v', e = .returned v' ∧ k33.R 33 w' base (fun _ => True) v' (l.take i ++ x :: l.drop i) ∧ Below base w w' := by
  have hu24 := Try.underlying24
  have hO := R_flat ho
  obtain ⟨_, ho2⟩ := hO
  rcases ho2 with ⟨hv, _⟩ | ⟨g', cap', cur, hv, hb, hh, hnc, hcm, hcs, ht⟩
  · cases hv
  injection hv with ha _ hc
  injection ha with ha
  injection ha with hg
  subst hg; subst hc
  have hfl := flat33_length l
  have hfd : (flat33 (l.drop i)).length = (l.length - i) * 3 := by rw [flat33_length, List.length_drop]
  have hft : (flat33 (l.take i)).length = i * 3 := by rw [flat33_length, List.length_take, Nat.min_eq_left (by omega)]
  have hcurT : cur.toList = flat33 l := by rw [← ht, List.take_of_length_le (by rw [Array.length_toList, hcs]; exact Nat.le_refl _)]
  have hsplit : flat33 l = flat33 (l.take i) ++ flat33 (l.drop i) := by rw [← flat33_append, List.take_append_drop]
  have hsz33 : (Try.prog.info? 33).map (·.size) = some 3 := by
    obtain ⟨i0, hi0, hz⟩ := Option.map_eq_some_iff.1 info33
    simp only [Prod.mk.injEq] at hz
    rw [hi0]; simp [hz.2.1]
  have hfo : (Builtin.firstCells 3 i (.slice (some ⟨g, 0, none⟩) i l.length)).run Try.prog w.drew = .ok (flat33 (l.take i)).toArray w.drew :=
    run_firstCells_some w.drew 3 i ⟨g, 0, none⟩ i l.length (flat33 (l.take i)) hft (fun j v hj => by
      have h1 := blk_cell (w := w.drew) (g := g) hh j
      rw [add_plain, h1]
      have : (flat33 l)[j]? = some v := by rw [hsplit, List.getElem?_append_left (by rw [hft]; have := (List.getElem?_eq_some_iff.1 hj).1; omega)]; exact hj
      rw [← hcurT] at this
      simpa using this)
  obtain ⟨i0, hi0, hz⟩ := Option.map_eq_some_iff.1 info33
  simp only [Prod.mk.injEq] at hz
  have hap := fun ty => run_zeros_grow w 24 3 ty 33 i0 _ 3 24 Try.underlying24 Try.underlying3 hi0 hz.1 hz.2.1 hz.2.2 rfl (by omega) (by omega) (some ⟨g, 0, none⟩) i l.length (flat33 (l.take i)) .i64 (l.length + 1 - i) (by omega) (by omega) (by omega) hfo
  rw [show i + (l.length + 1 - i) = l.length + 1 by omega] at hap
  have hgc : l.length + 1 ≤ grownCap w (l.length + 1) l.length 33 := grownCap_ge w _ _ _
  have hgm : grownCap w (l.length + 1) l.length 33 ≤ maxLen := grownCap_le_maxLen w _ _ _ (by simp only [maxLen]; omega)
  generalize grownCap w (l.length + 1) l.length 33 = gc at hap hgc hgm
  obtain ⟨cur0, hcur0⟩ : ∃ cur0, cur0 = (flat33 (l.take i)).toArray ++ Builtin.zeroCells (Value.agg #[Value.int IntKind.i64 0, Value.int IntKind.i64 0, Value.int IntKind.i64 0]).cells (l.length + 1 - i) ++ Builtin.zeroCells (Value.agg #[Value.int IntKind.i64 0, Value.int IntKind.i64 0, Value.int IntKind.i64 0]).cells (gc - (l.length + 1)) := ⟨_, rfl⟩
  rw [← hcur0] at hap
  have hc0s : cur0.size = gc * 3 := by
    rw [hcur0]
    simp [size_zeroCells, hft, Value.cells]
    omega
  have hc0t : cur0.toList.take (i * 3) = flat33 (l.take i) := by
    rw [hcur0]
    simp only [Array.toList_append, List.append_assoc]
    rw [List.take_append_of_le_length (by rw [hft]; exact Nat.le_refl _), List.take_of_length_le (by rw [hft]; exact Nat.le_refl _)]
  clear hcur0
  obtain ⟨N, hN⟩ : ∃ N, N = w.heap.size := ⟨_, rfl⟩
  have hgN : g < N := by rw [hN]; exact blk_lt hh
  have hvN : vb < N := by rw [hN]; exact blk_lt hvb
  obtain ⟨W1, hW1⟩ : ∃ W1, W1 = w.drew.alloc (.cells cur0 33) := ⟨_, rfl⟩
  have hW1N : W1.heap[N]? = some (.cells cur0 33 (0, 0)) := by rw [hW1, hN]; exact heap_alloc_new w.drew _
  have hW1g : W1.heap[g]? = some (.cells cur 33 (0, 0)) := by rw [hW1]; exact (heap_alloc_old w.drew _ (show g < w.heap.size by rw [← hN]; exact hgN)).trans hh
  have hW1v : W1.heap[vb]? = some (.cells #[.int .i64 x.f0, .int .i64 x.f1, .int .i64 x.f2] 33 (0, 0)) := by rw [hW1]; exact (heap_alloc_old w.drew _ (show vb < w.heap.size by rw [← hN]; exact hvN)).trans hvb
  have hB1 : Below N w W1 := by rw [hW1, hN]; exact (below_drew (Below.refl _ w)).alloc (Nat.le_refl _) _
  rw [← hW1, ← hN] at hap
  have hcp1 : ∀ ty dc, (Builtin.copy_ #[24, 24] ty #[.slice (some ⟨N, i * 3, none⟩) (l.length + 1 - i) dc, .slice (some ⟨vb, 0, none⟩) 1 1]).run Try.prog W1 = .ok (goInt (Nat.min 1 (l.length + 1 - i) : Nat)) (W1.setCells N (i * 3) (enc33 x)) := fun ty dc =>
    run_copy_recs W1 _ _ ty 33 3 N (i * 3) (l.length + 1 - i) dc ⟨vb, 0, none⟩ 1 1 (enc33 x) Try.underlying24 hsz33 (by show 3 = _; simp only [Nat.min_def]; split <;> omega)
      (fun j v hj => by
        rw [add_plain, blk_cell hW1v]
        simpa [enc33] using hj)
      (fun j hj => by rw [blk_cell hW1N, Array.getElem?_eq_getElem (by rw [hc0s]; have : j < 3 := hj; omega)]; rfl) (fun j hj => blk_frozen hW1N _) (fun v hv => flat33_one [x] v (by simpa [flat33] using hv))
  obtain ⟨cur1, h1a, h1b, h1c⟩ := setCells_two hW1N (enc33 x) (i * 3) (by show i * 3 + 3 ≤ _; rw [hc0s]; omega)
  obtain ⟨W2, hW2⟩ : ∃ W2, W2 = W1.setCells N (i * 3) (enc33 x) := ⟨_, rfl⟩
  rw [← hW2] at h1a hcp1
  have hW2g : W2.drew.heap[g]? = some (.cells cur 33 (0, 0)) := by
    show W2.heap[g]? = _
    rw [hW2, setCells_far _ _ g (by omega)]
    exact hW1g
  have hW2N : W2.drew.heap[N]? = some (.cells cur1 33 (0, 0)) := h1a
  have hcp2 : ∀ ty dc sc, (Builtin.copy_ #[24, 24] ty #[.slice (some ⟨N, (i + 1) * 3, none⟩) (l.length - i) dc, .slice (some ⟨g, i * 3, none⟩) (l.length - i) sc]).run Try.prog W2.drew = .ok (goInt (Nat.min (l.length - i) (l.length - i) : Nat)) (W2.drew.setCells N ((i + 1) * 3) (flat33 (l.drop i))) := fun ty dc sc =>
    run_copy_recs W2.drew _ _ ty 33 3 N ((i + 1) * 3) (l.length - i) dc ⟨g, i * 3, none⟩ (l.length - i) sc (flat33 (l.drop i)) Try.underlying24 hsz33 (by rw [hfd]; simp only [Nat.min_def]; split <;> omega)
      (fun j v hj => by
        rw [Addr.add_lit, blk_cell hW2g]
        have : (flat33 l)[i * 3 + j]? = some v := by rw [hsplit, List.getElem?_append_right (by omega), hft, Nat.add_sub_cancel_left]; exact hj
        rw [← hcurT] at this
        simpa using this)
      (fun j hj => by rw [blk_cell hW2N, Array.getElem?_eq_getElem (by rw [h1b, hc0s]; rw [hfd] at hj; omega)]; rfl) (fun j hj => blk_frozen hW2N _) (flat33_one _)
  obtain ⟨cur2, h2a, h2b, h2c⟩ := setCells_two hW2N (flat33 (l.drop i)) ((i + 1) * 3) (by rw [hfd, h1b, hc0s]; omega)
  have HF := Aside0.mk (show (W2.drew.setCells N ((i + 1) * 3) (flat33 (l.drop i))).ownsRow base 33 3 (.slice (some ⟨N, 0, none⟩) (l.length + 1) gc) (l.length + 1) (flat33 (l.take i ++ x :: l.drop i)) from by
    refine ⟨by rw [flat33_length]; simp; omega, .inr ⟨N, gc, cur2, rfl, by omega, h2a, hgc, hgm, by rw [h2b, h1b, hc0s], ?_⟩⟩
    have e1 : cur1.toList.take ((i + 1) * 3) = flat33 (l.take i) ++ enc33 x := by
      have hlen : (cur0.toList.take (i * 3) ++ enc33 x).length = (i + 1) * 3 := by rw [hc0t, List.length_append, hft]; show i * 3 + 3 = _; omega
      rw [h1c, List.take_append_of_le_length (by rw [hlen]; exact Nat.le_refl _), List.take_of_length_le (by rw [hlen]; exact Nat.le_refl _), hc0t]
    have hlen2 : (flat33 (l.take i) ++ enc33 x ++ flat33 (l.drop i)).length = (l.length + 1) * 3 := by
      rw [List.length_append, List.length_append, hft, hfd]; show i * 3 + 3 + _ = _; omega
    rw [h2c, e1, flat33_append, show flat33 (x :: l.drop i) = enc33 x ++ flat33 (l.drop i) from rfl, List.take_append_of_le_length (by rw [hlen2]; exact Nat.le_refl _), List.take_of_length_le (by rw [hlen2]; exact Nat.le_refl _), List.append_assoc])
  have HB := Aside0.mk (show Below base w (W2.drew.setCells N ((i + 1) * 3) (flat33 (l.drop i))) from by
    obtain ⟨s1, s2, s3, s4⟩ := setCells_same N (enc33 x) (i * 3) W1
    obtain ⟨t1, t2, t3, t4⟩ := setCells_same N (flat33 (l.drop i)) ((i + 1) * 3) W2.drew
    rw [← hW2] at s1 s2 s3 s4
    have hB2 : Below base W1 (W2.drew.setCells N ((i + 1) * 3) (flat33 (l.drop i))) := by
      refine ⟨t1.trans s1, t2.trans s2, t3.trans s3, by rw [t4]; show _ ≤ W2.heap.size; rw [s4]; exact Nat.le_refl _, fun k hk => ?_⟩
      rw [setCells_far _ _ k (by omega)]
      show W2.heap[k]? = _
      rw [hW2, setCells_far _ _ k (by omega)]
    exact (hB1.mono (by omega)).trans hB2)
  clear ho hh h1a h1b h1c h2a h2b h2c hW1 hW2 ht hcurT hsplit hcs hfl hfd hft hsz33 hvb hW1N hW1g hW1v hW2g hW2N hc0s hc0t hB1 hfo hz hi0 hN
  have hz2 : ¬ ((i : Int) = (l.length : Int)) := by omega
  have hw1 : IntKind.i64.wrap ((i : Int) + 1) = (i : Int) + 1 := by rw [IntKind.wrap_i64]; omega
  have hb1 : (0 : Int) ≤ (i : Int) + 1 := by omega
  have hin : i ≤ l.length := by omega
  have htn : ((i : Int) + 1).toNat = i + 1 := by omega
  have hb2 : ¬ (gc = i + 1) := by omega
  have hb4 : ¬ (l.length = i) := by omega
  have hb5 : ¬ (gc = i) := by omega
  go_enter Try.func83, Try.ntmps83
  rw [show ((l.length + 1 - i : Nat) : Int) = (l.length : Int) + 1 - (i : Int) by omega] at hap
  go_wp2_with (at_builtin; refine Lib.wpList_append_run _ rfl _ _ 24 3 rfl _ _ rfl rfl _ _ (hap _) ?_)
  go_region_law (refine step_copy_runI rfl _ _ 24 24 rfl _ _ (by simp [Act.eval, Act.put]) (by simp [Act.eval, Act.put]) (hcp2 _ _ _) ?_)
  go_wp2
  go_ret
  exact ⟨_, rfl, flat_R (by rw [show (l.take i ++ x :: l.drop i).length = l.length + 1 by simp; omega]; exact HF.out) (fun _ _ => trivial), HB.out⟩
/-- slices.Insert of one element. -/
theorem Insert_Lease (base : Nat) (v : Value) (l : List S33) (x : S33) (i vb : Nat) (w : World) (hs : base ≤ w.heap.size) (ho : k33.R 33 w base (fun _ => True) v l) (hvb : w.heap[vb]? = some (.cells #[.int .i64 x.f0, .int .i64 x.f1, .int .i64 x.f2] 33 (0, 0)))
    (hne : some vb ≠ v.ownBlock) (hi : i ≤ l.length) (hl : l.length ≤ 1000) :
    Calls Try.prog 83 #[v, .int .i64 (i : Nat), .slice (some ⟨vb, 0, none⟩) 1 1] w fun e w' => ∃ v', e = .returned v' ∧ k33.R 33 w' base (fun _ => True) v' (l.take i ++ x :: l.drop i) ∧ Below base w w' := by
  by_cases hlt : i < l.length
  · obtain ⟨g, c, rfl, _, _, _⟩ := Kd.R_form ho (by omega)
    have hnc := (Kd.R_reads' ho).2.1
    by_cases hroom : l.length + 1 ≤ c
    · exact Insert_shift base g c l x i vb w hs ho hvb (fun e => hne (by rw [e]; rfl)) hlt hl hroom
    · obtain rfl : c = l.length := by omega
      exact Insert_grow base g l x i vb w hs ho hvb hlt hl
  · obtain rfl : i = l.length := by omega
    rw [List.take_length, List.drop_length]
    exact Insert_end base v l x vb w hs ho hvb hl

/-! ### slices.BinarySearchFunc at Lease, by Id -/
def bsI_Lease (key : Nat → Int) (t : Int) : Nat → Nat → Nat → Nat
  | 0, i, _ => i
  | n + 1, i, j => if i < j then (if key ((i + j) / 2) < t then bsI_Lease key t n ((i + j) / 2 + 1) j else bsI_Lease key t n i ((i + j) / 2)) else i
theorem bsI_Lease_le (key : Nat → Int) (t : Int) : ∀ (n i j : Nat), i ≤ j → bsI_Lease key t n i j ≤ j
  | 0, i, j, h => h
  | n + 1, i, j, h => by
    unfold bsI_Lease
    split
    · split
      · exact bsI_Lease_le key t n _ j (by omega)
      · exact Nat.le_trans (bsI_Lease_le key t n i _ (by omega)) (by omega)
    · exact h
def keys_Lease (l : List S33) (i : Nat) : Int := (rd_T33 l (i : Int)).f0
def at_Lease (l : List S33) (t : Int) : Nat := bsI_Lease (keys_Lease l) t (l.length + 1) 0 l.length
def is_Lease (l : List S33) (t : Int) : Bool := decide (at_Lease l t < l.length) && (keys_Lease l (at_Lease l t) == t)
def cmp_Lease (a b : Int) : Int := if a < b then -1 else if b < a then 1 else 0
set_option maxHeartbeats 8000000 in
set_option maxRecDepth 100000 in
theorem cmp_Lease_calls (x : S33) (t : Int) (w : World) : Calls Try.prog 95 #[.agg #[.int .i64 x.f0, .int .i64 x.f1, .int .i64 x.f2], .int .i64 t] w fun e w' => e = .returned (.int .i64 (cmp_Lease x.f0 t)) ∧ Below w.heap.size w w' := by
  have hu33 := Try.underlying33
  by_cases c1 : x.f0 < t
  · have e1 : cmp_Lease x.f0 t = -1 := by unfold cmp_Lease; rw [if_pos c1]
    rw [e1]
    go_enter Try.func95, Try.ntmps95
    go_wp2
    go_ret
    exact ⟨rfl, (Below.refl _ _).alloc (Nat.le_refl _) _⟩
  · by_cases c2 : t < x.f0
    · have e1 : cmp_Lease x.f0 t = 1 := by unfold cmp_Lease; rw [if_neg c1, if_pos c2]
      rw [e1]
      go_enter Try.func95, Try.ntmps95
      go_wp2
      go_ret
      exact ⟨rfl, (Below.refl _ _).alloc (Nat.le_refl _) _⟩
    · have e1 : cmp_Lease x.f0 t = 0 := by unfold cmp_Lease; rw [if_neg c1, if_neg c2]
      rw [e1]
      go_enter Try.func95, Try.ntmps95
      go_wp2
      go_ret
      exact ⟨rfl, (Below.refl _ _).alloc (Nat.le_refl _) _⟩
theorem cmp_Lease_neg {a b : Int} : cmp_Lease a b < 0 ↔ a < b := by unfold cmp_Lease; split <;> (try split) <;> omega
theorem cmp_Lease_zero {a b : Int} : (cmp_Lease a b == 0) = (a == b) := by
  rw [Bool.eq_iff_iff]; simp only [beq_iff_eq]; unfold cmp_Lease; split <;> (try split) <;> omega
set_option maxHeartbeats 8000000 in
set_option maxRecDepth 100000 in
theorem search_Lease_calls (A : Option Addr) (c : Nat) (l : List S33) (t : Int) (w : World) (hr : Kd.C k33 w A l.length l) (hl : l.length ≤ 4611686018427387904) :
    Calls Try.prog 94 #[.slice A l.length c, .int .i64 t, .func (.func 95) #[] #[]] w fun e w' => e = .returned (.tuple #[.int .i64 (at_Lease l t : Nat), .bool (is_Lease l t)]) ∧ Below w.heap.size w w' := by
  have hu33 := Try.underlying33
  have HR := Aside0.mk hr
  clear hr
  go_enter Try.func94, Try.ntmps94
  go_wp2_with fail
  go_loopg [9, 10, 11] (l.length + 1) (fun gg s9 s10 _ wr => ∃ (i j : Nat), s9 = .int .i64 i ∧ s10 = .int .i64 j ∧ i ≤ j ∧ j ≤ l.length ∧ j - i < gg ∧ Aside0 (bsI_Lease (keys_Lease l) t gg i j = at_Lease l t) ∧ Aside0 (Below w.heap.size w wr))
  case atStart => exact ⟨0, l.length, rfl, rfl, Nat.zero_le _, Nat.le_refl _, by omega, ⟨rfl⟩, ⟨Below.refl _ _⟩⟩
  case round =>
    obtain ⟨i, j, rfl, rfl, hij, hjl, hg, HA, HB⟩ := hrel
    obtain ⟨gk, rfl⟩ : ∃ m, gk = m + 1 := ⟨gk - 1, by omega⟩
    by_cases hlt : i < j
    · have hltz : (i : Int) < (j : Int) := by omega
      have hA := HA.out
      clear HA
      unfold bsI_Lease at hA
      rw [if_pos hlt] at hA
      obtain ⟨h, hh⟩ : ∃ h : Nat, h = (i + j) / 2 := ⟨_, rfl⟩
      rw [← hh] at hA
      have hhlt : h < l.length := by omega
      have e1 : IntKind.u64.wrap ((i : Int) + (j : Int)) = (i : Int) + (j : Int) := by simp [IntKind.wrap, IntKind.bits, IntKind.signed]; omega
      have e2 : ((i : Int) + (j : Int)) / 2 = (h : Int) := by omega
      obtain ⟨ad, e, hx0, hx1, hx2⟩ := at_T33 HR.out (h : Int) (by omega) (by omega)
      cases e
      replace hx0 := pw_cell_below HB.out hx0
      replace hx1 := pw_cell_below HB.out hx1
      replace hx2 := pw_cell_below HB.out hx2
      simp only [Int.toNat_natCast] at hx0 hx1 hx2
      have hk : keys_Lease l h = (rd_T33 l (h : Int)).f0 := rfl
      rw [hk] at hA
      generalize rd_T33 l (h : Int) = y at hA hk hx0 hx1 hx2
      have hcall := cmp_Lease_calls y t wr
      by_cases hc : y.f0 < t
      · rw [if_pos hc] at hA
        have HA := Aside0.mk hA
        have HC := Aside0.mk hc
        have HK := Aside0.mk hk
        have HH := Aside0.mk hh
        have hn : decide (cmp_Lease y.f0 t < 0) = true := decide_eq_true (cmp_Lease_neg.2 hc)
        clear hA hc hk hh
        go_wp2_with fail
        refine hcall.mono ?_
        clear hcall hx0 hx1 hx2
        rintro e w' ⟨rfl, hb'⟩
        have HB' := Aside0.mk hb'
        clear hb'
        go_wp2
        go_roundg gk
        case measure => omega
        case rel => exact ⟨h + 1, j, by go_num, rfl, by have := HH.out; omega, hjl, by have := HH.out; omega, HA, ⟨below_then HB.out HB.out.size HB'.out⟩⟩
      · rw [if_neg hc] at hA
        have HA := Aside0.mk hA
        have HC := Aside0.mk hc
        have HK := Aside0.mk hk
        have HH := Aside0.mk hh
        have hn : decide (cmp_Lease y.f0 t < 0) = false := decide_eq_false (fun q => hc (cmp_Lease_neg.1 q))
        clear hA hc hk hh
        go_wp2_with fail
        refine hcall.mono ?_
        clear hcall hx0 hx1 hx2
        rintro e w' ⟨rfl, hb'⟩
        have HB' := Aside0.mk hb'
        clear hb'
        go_wp2
        go_roundg gk
        case measure => omega
        case rel => exact ⟨i, h, rfl, rfl, by have := HH.out; omega, by have := HH.out; omega, by have := HH.out; omega, HA, ⟨below_then HB.out HB.out.size HB'.out⟩⟩
    · have hltz : ¬ (i : Int) < (j : Int) := by omega
      have hA := HA.out
      clear HA
      unfold bsI_Lease at hA
      rw [if_neg hlt] at hA
      subst hA
      by_cases hin : at_Lease l t < l.length
      · have hinz : ((at_Lease l t : Nat) : Int) < (l.length : Int) := by omega
        obtain ⟨ad, e, hx0, hx1, hx2⟩ := at_T33 HR.out ((at_Lease l t : Nat) : Int) (by omega) (by omega)
        cases e
        replace hx0 := pw_cell_below HB.out hx0
        replace hx1 := pw_cell_below HB.out hx1
        replace hx2 := pw_cell_below HB.out hx2
        simp only [Int.toNat_natCast] at hx0 hx1 hx2
        have hk : keys_Lease l (at_Lease l t) = (rd_T33 l ((at_Lease l t : Nat) : Int)).f0 := rfl
        have hI : is_Lease l t = (cmp_Lease (rd_T33 l ((at_Lease l t : Nat) : Int)).f0 t == 0) := by unfold is_Lease; rw [hk, cmp_Lease_zero]; simp [hin]
        generalize rd_T33 l ((at_Lease l t : Nat) : Int) = y at hI hk hx0 hx1 hx2
        have hcall := cmp_Lease_calls y t wr
        have HI := Aside0.mk hI
        clear hI hk
        go_wp2_with fail
        refine hcall.mono ?_
        clear hcall hx0 hx1 hx2
        rintro e w' ⟨rfl, hb'⟩
        have HB' := Aside0.mk hb'
        clear hb'
        go_wp2
        go_ret2
        exact ⟨by rw [HI.out]; rfl, below_then HB.out HB.out.size HB'.out⟩
      · have hinz : ¬ ((at_Lease l t : Nat) : Int) < (l.length : Int) := by omega
        have hI : is_Lease l t = false := by unfold is_Lease; simp [hin]
        have HI := Aside0.mk hI
        clear hI
        go_wp2
        go_ret2
        exact ⟨by rw [HI.out]; rfl, HB.out⟩

set_option maxHeartbeats 8000000 in
set_option maxRecDepth 100000 in
theorem leaseAt_calls (A0 : Option Addr) (c0 : Nat) (l0 : List S33) (id : Int) (w : World) (hr0 : Kd.C k33 w A0 l0.length l0) (hl : l0.length ≤ 4611686018427387904) :
    Calls Try.prog 82 #[.slice A0 l0.length c0, .int .i64 id] w fun e w' => e = .returned (.tuple #[.int .i64 (at_Lease l0 id : Nat), .bool (is_Lease l0 id)]) ∧ Below w.heap.size w w' := by
  have hcon := search_Lease_calls A0 c0 l0 id w hr0 hl
  clear hr0
  go_enter Try.func82, Try.ntmps82
  go_wp2_with fail
  refine hcon.mono ?_
  clear hcon
  rintro e w1 ⟨rfl, hB1⟩
  have HB1 := Aside0.mk hB1
  clear hB1
  go_wp2
  go_ret2
  exact ⟨rfl, HB1.out⟩
theorem at_Lease_le (l : List S33) (t : Int) : at_Lease l t ≤ l.length := bsI_Lease_le _ _ _ _ _ (Nat.zero_le _)
def impl_leasePut.f (l0 : List S33) (a1_0 : Int) (a1_1 : Int) (a1_2 : Int) : Option (List S33) :=
  if l0.length ≤ 1000 then some (if is_Lease l0 a1_0 = true then l0.set (at_Lease l0 a1_0) ⟨a1_0, a1_1, a1_2⟩ else l0.take (at_Lease l0 a1_0) ++ ⟨a1_0, a1_1, a1_2⟩ :: l0.drop (at_Lease l0 a1_0)) else none
set_option maxHeartbeats 8000000 in
set_option maxRecDepth 100000 in
theorem impl_leasePut.calls (A0 : Option Addr) (c0 : Nat) (l0 : List S33) (a1_0 : Int) (a1_1 : Int) (a1_2 : Int) (r : List S33) (w : World) (hr0 : Kd.C k33 w A0 l0.length l0) (hc0 : l0.length ≤ c0) (h : impl_leasePut.f l0 a1_0 a1_1 a1_2 = some r) :
    Calls Try.prog 51 #[.slice A0 l0.length c0, .agg #[.int .i64 a1_0, .int .i64 a1_1, .int .i64 a1_2]] w fun e w' => ∃ v0_ : Value, e = .returned v0_ ∧ Kd.R k33 33 w' w.heap.size (fun _ => True) v0_ r ∧ Below w.heap.size w w' := by
  unfold impl_leasePut.f at h
  by_cases hl : l0.length ≤ 1000
  · rw [if_pos hl] at h
    have H := Aside0.mk (Option.some.inj h)
    have hu33 := Try.underlying33
    have hu24 := Try.underlying24
    have hb0 := (Below.refl w.heap.size w).alloc (Nat.le_refl _) (.cells #[.int .i64 a1_0, .int .i64 a1_1, .int .i64 a1_2] 33)
    have hcl := Clone_Lease A0 c0 l0 _ (Kd.C_below hr0 hb0) (by omega)
    have HR := Aside0.mk hr0
    have HB0 := Aside0.mk hb0
    have hat := at_Lease_le l0 a1_0
    clear hr0 hc0 h hb0
    go_enter Try.func51, Try.ntmps51
    go_wp2_with fail
    refine hcl.mono ?_
    clear hcl
    rintro e w1 ⟨v1, rfl, hR1, hB1⟩
    have hsz1 : w.heap.size < w1.heap.size := by have := hB1.size; simp at this; omega
    have hbk := (hB1.block w.heap.size (by simp)).trans (heap_alloc_new w (.cells #[.int .i64 a1_0, .int .i64 a1_1, .int .i64 a1_2] 33))
    have HR1 := Aside0.mk (Kd.R_lower hR1 (show w.heap.size ≤ _ by simp))
    have HN1 := Aside0.mk (show ∀ k, v1.ownBlock = some k → w.heap.size < k from fun k hk => by
      have := (R_flat hR1).lt k hk
      simp at this
      omega)
    have HB1 := Aside0.mk (HB0.out.trans (hB1.mono (by simp)))
    have HK1 := Aside0.mk hbk
    have hk0 := blk_cell hbk 0
    simp only [List.getElem?_toArray, List.getElem?_cons_zero] at hk0
    clear hR1 hB1 hbk
    go_wp2_with fail
    refine (leaseAt_calls A0 c0 l0 a1_0 w1 (Kd.C_below HR.out HB1.out) (by omega)).mono ?_
    clear hk0
    rintro e w2 ⟨rfl, hB2⟩
    have hsz2 : w1.heap.size ≤ w2.heap.size := hB2.size
    have HR2 := Aside0.mk (Kd.R_below HR1.out hB2)
    have HK2 := Aside0.mk ((hB2.block w.heap.size hsz1).trans HK1.out)
    have HB2 := Aside0.mk (below_then HB1.out HB1.out.size hB2)
    have hk0 := blk_cell HK2.out 0
    have hk1 := blk_cell HK2.out 1
    have hk2 := blk_cell HK2.out 2
    simp only [List.getElem?_toArray, List.getElem?_cons_zero, List.getElem?_cons_succ] at hk0 hk1 hk2
    clear hB2 HR1 HK1 HB1
    generalize hq : at_Lease l0 a1_0 = q at hat H
    cases his : is_Lease l0 a1_0 with
    | true =>
      have hlt : q < l0.length := by
        unfold is_Lease at his
        simp only [Bool.and_eq_true, decide_eq_true_iff] at his
        rw [← hq]; exact his.1
      rw [his] at H
      clear his hq
      obtain ⟨g, c, rfl, hgb, hgl, cl, HG⟩ := Kd.R_form HR2.out (by omega)
      clear cl HG
      obtain ⟨ci, hcli, hMi, hcci, hfri⟩ := Kd.R_elem HR2.out z33 (q : Int) (by omega) (by omega)
      obtain rfl := k33_openM hMi
      have HP := Aside0.mk (Kd.R_seg HR2.out (q : Int) (by omega) (by omega) (seg := [.int .i64 a1_0, .int .i64 a1_1, .int .i64 a1_2]) (j := 0) hcli hcci (show 3 ≤ 3 from by decide) (x' := (⟨a1_0, a1_1, a1_2⟩ : S33)) (k33_mkM _ _ _ (⟨a1_0, a1_1, a1_2⟩ : S33)) (fun _ hk => hk))
      have hx0 := hcci 0 _ rfl
      have hx1 := hcci 1 _ rfl
      have hx2 := hcci 2 _ rfl
      have hf0 := hfri 0
      have hf1 := hfri 1
      have hf2 := hfri 2
      simp only [Int.toNat_natCast, show (k33).sz = 3 from rfl, Nat.add_zero] at hx0 hx1 hx2 hf0 hf1 hf2
      clear hcli hMi hcci hfri
      have hltz : (q : Int) < (l0.length : Int) := by omega
      go_wp2
      go_ret
      exact ⟨_, rfl, by rw [← H.out]; simp only [if_true]; exact HP.out.1, HB2.out.grown HP.out.2 HB2.out.size (fun k hk => by cases hk; exact hgb)⟩
    | false =>
      rw [his] at H
      clear his hq
      go_wp2_with fail
      have hne : some w2.heap.size ≠ v1.ownBlock := fun e => by
        have := (R_flat HR2.out).lt _ e.symm
        omega
      refine (Insert_Lease w.heap.size v1 l0 (⟨a1_0, a1_1, a1_2⟩ : S33) q w2.heap.size _ (by simp; omega) (Kd.R_alloc HR2.out _) (heap_alloc_new w2 _) hne hat hl).mono ?_
      rintro e w3 ⟨v3, rfl, hR3, hB3⟩
      have HR3 := Aside0.mk hR3
      have HB3 := Aside0.mk hB3
      clear hR3 hB3 hne
      go_wp2
      go_ret
      exact ⟨_, rfl, by rw [← H.out]; simp only [Bool.false_eq_true, if_false]; exact HR3.out, (HB2.out.alloc HB2.out.size _).trans HB3.out⟩
  · rw [if_neg hl] at h
    cases h

/-! ### impl_LeasePut: function 21 -/
def impl_LeasePut.j0 : Nat → List (S33) → Bool → Int → Int → Int → Option ((List (S33)))
  | 0, _, _, _, _, _ => none
  | k + 1, x0, x16, x113000, x113001, x113002 => if x16 = true then ((impl_Lease.f x0).bind fun t115 => (some t115)) else ((impl_leasePut.f x0 x113000 x113001 x113002).bind fun t118 => (if (t118.length : Int) ≤ 60 then (some t118) else ((impl_Lease.f x0).bind fun t121 => (some t121))))
def impl_LeasePut.f (k : Nat) (l0 : List (S33)) (a1_0 : Int) (a1_1 : Int) (a1_2 : Int) : Option ((List (S33))) := if (l0.length : Int) > 400 then (some ([] : List (S33))) else ((impl_LeasesRight.f k l0).bind fun t113 => (if t113 = true then ((impl_Lease_isRight.f a1_0 a1_1 a1_2).bind fun t114 => (impl_LeasePut.j0 k l0 (!t114) a1_0 a1_1 a1_2)) else (impl_LeasePut.j0 k l0 true a1_0 a1_1 a1_2)))
theorem impl_LeasePut.mono_l : ∀ k, (∀ y0 y1 y2 y3 y4, LeO (impl_LeasePut.j0 k y0 y1 y2 y3 y4) (impl_LeasePut.j0 (k + 1) y0 y1 y2 y3 y4))
  | 0 => fun _ _ _ _ _ r h => by simp [impl_LeasePut.j0] at h
  | k + 1 => by
    have ih0 := impl_LeasePut.mono_l k
    · intro y0 y1 y2 y3 y4
      unfold impl_LeasePut.j0
      repeat' first
      | (with_reducible exact ih0 _ _ _ _ _)
      | (with_reducible exact impl_LeasesRight.mono _ _)
      | (with_reducible exact LeO.refl _)
      | (with_reducible exact LeO.none _)
      | (with_reducible refine LeO.ite ?_ ?_)
      | (with_reducible refine LeO.bind ?_ (fun _ => ?_))
      | exact ih0 _ _ _ _ _
      | exact impl_LeasesRight.mono _ _
      | exact LeO.none _
      | refine LeO.ite ?_ ?_
      | refine LeO.bind ?_ (fun _ => ?_)
theorem impl_LeasePut.mono : ∀ a0 a1 a2 a3 k, LeO (impl_LeasePut.f k a0 a1 a2 a3) (impl_LeasePut.f (k + 1) a0 a1 a2 a3) := by
  intro a0 a1 a2 a3 k
  have ih0 := impl_LeasePut.mono_l k
  unfold impl_LeasePut.f
  repeat' first
      | (with_reducible exact ih0 _ _ _ _ _)
      | (with_reducible exact impl_LeasesRight.mono _ _)
      | (with_reducible exact LeO.refl _)
      | (with_reducible exact LeO.none _)
      | (with_reducible refine LeO.ite ?_ ?_)
      | (with_reducible refine LeO.bind ?_ (fun _ => ?_))
      | exact ih0 _ _ _ _ _
      | exact impl_LeasesRight.mono _ _
      | exact LeO.none _
      | refine LeO.ite ?_ ?_
      | refine LeO.bind ?_ (fun _ => ?_)
set_option maxHeartbeats 8000000 in
set_option maxRecDepth 100000 in
theorem impl_LeasePut.calls (k : Nat) (A0 : Option Addr) (c0 : Nat) (l0 : List (S33)) (a1_0 : Int) (a1_1 : Int) (a1_2 : Int) (r : List (S33)) (w : World) (hr0 : Kd.C k33 w A0 l0.length l0) (hc0 : l0.length ≤ c0) (h : impl_LeasePut.f k l0 a1_0 a1_1 a1_2 = some r) :
    Calls Try.prog 21 #[.slice A0 l0.length c0, .agg #[.int .i64 a1_0, .int .i64 a1_1, .int .i64 a1_2]] w fun e w' => ∃ v0_ : Value, e = .returned (v0_) ∧ Kd.R k33 33 w' w.heap.size (fun _ => True) v0_ r ∧ Below w.heap.size w w' := by
  have hu33 := Try.underlying33
  have HR0 := Aside0.mk hr0
  have HC0 := Aside0.mk hc0
  clear hr0 hc0
  have HB := Aside0.mk (Below.refl w.heap.size w)
  have H : (if (l0.length : Int) > 400 then (some ([] : List (S33))) else ((impl_LeasesRight.f k l0).bind fun t113 => (if t113 = true then ((impl_Lease_isRight.f a1_0 a1_1 a1_2).bind fun t114 => (impl_LeasePut.j0 k l0 (!t114) a1_0 a1_1 a1_2)) else (impl_LeasePut.j0 k l0 true a1_0 a1_1 a1_2)))) = some r := h
  clear h
  by_cases c3 : (l0.length : Int) > 400
  · rw [if_pos c3] at H
    have c3b0 : decide (400 < (l0.length : Int)) = true := decide_eq_true c3
    have c3b1 : decide (400 < l0.length) = true := decide_eq_true (by omega)
    clear c3
    obtain rfl := Option.some.inj H
    go_enter Try.func21, Try.ntmps21
    go_wp2_with (first | ((with_reducible refine gate_dst (N := 3) rfl ?_); refine box_event ?hg (N := 3) ?hd (cs := #[.int .i64 a1_0, .int .i64 a1_1, .int .i64 a1_2]) (t := 33) ?hr ?_; (case hd => rfl); (case hg => rfl); (case hr => first | (go_simp; done) | (go_simp; rfl)); intro gb112 hg w4 hbox hb; have n0_ := Aside0.mk (below_step (by repeat (first | (with_reducible first | exact HB.out | apply below_alloc | apply pw_below_drewN | apply below_drew1) | exact HB.out)) hb); have n1_ := Aside0.mk (hbox); have n2_ := Aside0.mk ((by rw [hg]; exact (below_size (by repeat (first | (with_reducible first | exact HB.out | apply below_alloc | apply pw_below_drewN | apply below_drew1) | exact HB.out))) : w.heap.size ≤ gb112)); have n3_ := Aside0.mk ((by rw [hg]; exact (below_size (by repeat (first | (with_reducible first | exact HB.out | apply below_alloc | apply pw_below_drewN | apply below_drew1) | exact HB.out))) : w.heap.size ≤ gb112)); clear HB; have HB := n0_; have BK112 := n1_; have GW112 := n2_; have GE112 := n3_; clear n0_ n1_ n2_ n3_; clear hb hbox hg))
    go_ret
    exact ⟨_, by first | rfl | (simp [errW_none, errW_some] <;> rfl) | (simp [*, errW_none, errW_some] <;> rfl), by first | exact Kd.R_nil _ _ _ _ _ | exact Kd.N_nil _ _ _ _ _ | exact Kd.V_nil _ _ _ _ _ | exact Kd.Q_nil _ _ _ _ _ | exact Kd.S_nil _ _ _ _ _, by repeat (first | (with_reducible first | exact HB.out | apply below_alloc | apply pw_below_drewN | apply below_drew1 | refine below_set ?_ GE112.out) | exact HB.out)⟩
  · rw [if_neg c3] at H
    have c3b0 : decide (400 < (l0.length : Int)) = false := decide_eq_false c3
    have c3b1 : decide (400 < l0.length) = false := decide_eq_false (by omega)
    clear c3
    have HC5 := Aside0.mk H
    clear H
    go_enter Try.func21, Try.ntmps21
    go_upto_region 3 with (first | ((with_reducible refine gate_dst (N := 3) rfl ?_); refine box_event ?hg (N := 3) ?hd (cs := #[.int .i64 a1_0, .int .i64 a1_1, .int .i64 a1_2]) (t := 33) ?hr ?_; (case hd => rfl); (case hg => rfl); (case hr => first | (go_simp; done) | (go_simp; rfl)); intro gb112 hg w6 hbox hb; have n0_ := Aside0.mk (below_step (by repeat (first | (with_reducible first | exact HB.out | apply below_alloc | apply pw_below_drewN | apply below_drew1) | exact HB.out)) hb); have n1_ := Aside0.mk (hbox); have n2_ := Aside0.mk ((by rw [hg]; exact (below_size (by repeat (first | (with_reducible first | exact HB.out | apply below_alloc | apply pw_below_drewN | apply below_drew1) | exact HB.out))) : w.heap.size ≤ gb112)); have n3_ := Aside0.mk ((by rw [hg]; exact (below_size (by repeat (first | (with_reducible first | exact HB.out | apply below_alloc | apply pw_below_drewN | apply below_drew1) | exact HB.out))) : w.heap.size ≤ gb112)); clear HB; have HB := n0_; have BK112 := n1_; have GW112 := n2_; have GE112 := n3_; clear n0_ n1_ n2_ n3_; clear hb hbox hg))
    (try simp only [Act.put, List.setIfInBounds_toArray, List.set_cons_zero, List.set_cons_succ])
    go_cut [16] (fun v16 wc => ∃ (kq : Nat) (x16_4 : Bool), v16 = .bool x16_4 ∧ Aside0 (impl_LeasePut.j0 kq l0 x16_4 a1_0 a1_1 a1_2 = some r) ∧ Aside0 (kq ≤ k) ∧ Aside0 (wc.heap[gb112]? = some (.cells #[.int .i64 a1_0, .int .i64 a1_1, .int .i64 a1_2] 33 (0, 0))) ∧ Aside0 (Below w.heap.size w wc))
    case first =>
      have H := HC5.out
      clear HC5
      replace H := Option.bind_eq_some_iff.mp H
      obtain ⟨t113, A70, H⟩ := H
      replace H : (if t113 = true then ((impl_Lease_isRight.f a1_0 a1_1 a1_2).bind fun t114 => (impl_LeasePut.j0 k l0 (!t114) a1_0 a1_1 a1_2)) else (impl_LeasePut.j0 k l0 true a1_0 a1_1 a1_2)) = some r := H
      have A7 := Aside0.mk A70
      clear A70
      by_cases c8 : t113 = true
      · subst c8
        have H1 : ((impl_Lease_isRight.f a1_0 a1_1 a1_2).bind fun t114 => (impl_LeasePut.j0 k l0 (!t114) a1_0 a1_1 a1_2)) = some r := by rw [if_pos rfl] at H; exact H
        clear H
        have H := H1
        clear H1
        replace H := Option.bind_eq_some_iff.mp H
        obtain ⟨t114, A90, H⟩ := H
        replace H : (impl_LeasePut.j0 k l0 (!t114) a1_0 a1_1 a1_2) = some r := H
        have A9 := Aside0.mk A90
        clear A90
        have H' := Aside0.mk H
        clear H
        go_wp2_with (first | ((with_reducible refine gate_callee (f := 26) rfl ?_); refine goesL_ (some 10) rfl rfl Try.func26 (by kernel_rfl) rfl #[.slice A0 l0.length c0] rfl (by (try simp only [List.map_toArray, List.map_cons, List.map_nil]); first | done | rfl | (simp only [List.length_drop, List.length_take]; rfl)) ?_; (with_reducible refine (impl_LeasesRight.calls k _ _ l0 true _ ?side1 ?side2 A7.out).mono ?_); (case side1 => repeat (first | exact (Kd.C_below HR0.out HB.out) | (with_reducible refine Kd.C_alloc ?_ _) | (with_reducible refine Kd.C_drewN ?_ _) | (with_reducible refine Kd.C_drew ?_))); (case side2 => exact HC0.out); rintro e w10 ⟨rfl, hb⟩; refine ⟨_, rfl, ?_⟩; have n0_ := Aside0.mk (blk_below (g := gb112) (o := .cells #[.int .i64 a1_0, .int .i64 a1_1, .int .i64 a1_2] 33 (0, 0)) (by (with_reducible repeat (first | refine blk_drewN ?_ _ | refine blk_drew ?_ | refine blk_alloc ?_ _)); exact BK112.out) hb); have n1_ := Aside0.mk (below_step (by repeat (first | (with_reducible first | exact HB.out | apply below_alloc | apply pw_below_drewN | apply below_drew1 | refine below_set ?_ GE112.out) | exact HB.out)) hb); clear BK112; clear HB; have BK112 := n0_; have HB := n1_; clear n0_ n1_; (try clear hb); (try clear hb2); (try clear hk); (try clear hi); have hcz11_0 : w10.cell? ⟨gb112, 0, none⟩ = some (.int .i64 a1_0) := (blk_cell BK112.out 0).trans rfl; have hcz11_1 : w10.cell? ⟨gb112, 1, none⟩ = some (.int .i64 a1_1) := (blk_cell BK112.out 1).trans rfl; have hcz11_2 : w10.cell? ⟨gb112, 2, none⟩ = some (.int .i64 a1_2) := (blk_cell BK112.out 2).trans rfl; have hfz11_0 := blk_frozen BK112.out 0; have hfz11_1 := blk_frozen BK112.out 1; have hfz11_2 := blk_frozen BK112.out 2) | (go_at_call 49; (with_reducible refine (impl_Lease_isRight.calls a1_0 a1_1 a1_2 t114 _ A9.out).mono ?_); rintro e w12 ⟨rfl, hb⟩; have n0_ := Aside0.mk (blk_below (g := gb112) (o := .cells #[.int .i64 a1_0, .int .i64 a1_1, .int .i64 a1_2] 33 (0, 0)) (by (with_reducible repeat (first | refine blk_drewN ?_ _ | refine blk_drew ?_ | refine blk_alloc ?_ _)); exact BK112.out) hb); have n1_ := Aside0.mk (below_step (by repeat (first | (with_reducible first | exact HB.out | apply below_alloc | apply pw_below_drewN | apply below_drew1 | refine below_set ?_ GE112.out) | exact HB.out)) hb); clear BK112; clear HB; have BK112 := n0_; have HB := n1_; clear n0_ n1_; (try clear hb); (try clear hb2); (try clear hk); (try clear hi)))
        go_meet
        case rel => exact ⟨_, (!t114), (by first | rfl | (simp; done) | (simp [*]; done)), H', ⟨by first | omega | exact Nat.le_refl _⟩, ⟨by (with_reducible repeat (first | refine blk_drewN ?_ _ | refine blk_drew ?_ | refine blk_alloc ?_ _)); exact BK112.out⟩, ⟨by repeat (first | (with_reducible first | exact HB.out | apply below_alloc | apply pw_below_drewN | apply below_drew1 | refine below_set ?_ GE112.out) | exact HB.out)⟩⟩
      · replace c8 := Bool.eq_false_iff.mpr c8
        subst c8
        have H1 : (impl_LeasePut.j0 k l0 true a1_0 a1_1 a1_2) = some r := by rw [if_neg (show ¬ (false = true) by decide)] at H; exact H
        clear H
        have H := H1
        clear H1
        have H' := Aside0.mk H
        clear H
        go_wp2_with (first | ((with_reducible refine gate_callee (f := 26) rfl ?_); refine goesL_ (some 10) rfl rfl Try.func26 (by kernel_rfl) rfl #[.slice A0 l0.length c0] rfl (by (try simp only [List.map_toArray, List.map_cons, List.map_nil]); first | done | rfl | (simp only [List.length_drop, List.length_take]; rfl)) ?_; (with_reducible refine (impl_LeasesRight.calls k _ _ l0 false _ ?side1 ?side2 A7.out).mono ?_); (case side1 => repeat (first | exact (Kd.C_below HR0.out HB.out) | (with_reducible refine Kd.C_alloc ?_ _) | (with_reducible refine Kd.C_drewN ?_ _) | (with_reducible refine Kd.C_drew ?_))); (case side2 => exact HC0.out); rintro e w13 ⟨rfl, hb⟩; refine ⟨_, rfl, ?_⟩; have n0_ := Aside0.mk (blk_below (g := gb112) (o := .cells #[.int .i64 a1_0, .int .i64 a1_1, .int .i64 a1_2] 33 (0, 0)) (by (with_reducible repeat (first | refine blk_drewN ?_ _ | refine blk_drew ?_ | refine blk_alloc ?_ _)); exact BK112.out) hb); have n1_ := Aside0.mk (below_step (by repeat (first | (with_reducible first | exact HB.out | apply below_alloc | apply pw_below_drewN | apply below_drew1 | refine below_set ?_ GE112.out) | exact HB.out)) hb); clear BK112; clear HB; have BK112 := n0_; have HB := n1_; clear n0_ n1_; (try clear hb); (try clear hb2); (try clear hk); (try clear hi)))
        go_meet
        case rel => exact ⟨_, (true), (by first | rfl | (simp; done) | (simp [*]; done)), H', ⟨by first | omega | exact Nat.le_refl _⟩, ⟨by (with_reducible repeat (first | refine blk_drewN ?_ _ | refine blk_drew ?_ | refine blk_alloc ?_ _)); exact BK112.out⟩, ⟨by repeat (first | (with_reducible first | exact HB.out | apply below_alloc | apply pw_below_drewN | apply below_drew1 | refine below_set ?_ GE112.out) | exact HB.out)⟩⟩
    case rest =>
      clear HC5
      try clear c2
      try clear p2
      try clear c3
      try clear c3b0
      try clear c3b1
      try clear c8
      try clear hcz11_0
      try clear hcz11_1
      try clear hcz11_2
      try clear hfz11_0
      try clear hfz11_1
      try clear hfz11_2
      obtain ⟨kq, x16_4, rfl, HA, HJ4, BK112, HB⟩ := hcut
      cases kq with
      | zero => exact absurd HA.out (by simp [impl_LeasePut.j0])
      | succ kj4 =>
        have H := HA.out
        clear HA
        simp only [impl_LeasePut.j0] at H
        by_cases c14 : x16_4 = true
        · subst c14
          have H1 : ((impl_Lease.f l0).bind fun t115 => (some t115)) = some r := by rw [if_pos rfl] at H; exact H
          clear H
          have H := H1
          clear H1
          replace H := Option.bind_eq_some_iff.mp H
          obtain ⟨t115, A150, H⟩ := H
          replace H : (some t115) = some r := H
          have A15 := Aside0.mk A150
          clear A150
          obtain rfl := Option.some.inj H
          go_wp2_with (first | ((with_reducible refine gate_callee (f := 50) rfl ?_); refine goesL_ (some 18) rfl rfl Try.func50 (by kernel_rfl) rfl #[.slice A0 l0.length c0] rfl (by (try simp only [List.map_toArray, List.map_cons, List.map_nil]); first | done | rfl | (simp only [List.length_drop, List.length_take]; rfl)) ?_; (with_reducible refine (impl_Lease.calls _ _ l0 t115 _ ?side1 ?side2 A15.out).mono ?_); (case side1 => repeat (first | exact (Kd.C_below HR0.out HB.out) | (with_reducible refine Kd.C_alloc ?_ _) | (with_reducible refine Kd.C_drewN ?_ _) | (with_reducible refine Kd.C_drew ?_))); (case side2 => exact HC0.out); rintro e w16 ⟨v116, rfl, ho0, hb⟩; refine ⟨_, rfl, ?_⟩; have n0_ := Aside0.mk (Kd.R_lower (Kd.R_newB ho0 (g := gb112) (o := .cells #[.int .i64 a1_0, .int .i64 a1_1, .int .i64 a1_2] 33 (0, 0)) (by (with_reducible repeat (first | refine blk_drewN ?_ _ | refine blk_drew ?_ | refine blk_alloc ?_ _)); exact BK112.out)) (below_size (by repeat (first | (with_reducible first | exact HB.out | apply below_alloc | apply pw_below_drewN | apply below_drew1 | refine below_set ?_ GE112.out) | exact HB.out)))); have n1_ := Aside0.mk (blk_below (g := gb112) (o := .cells #[.int .i64 a1_0, .int .i64 a1_1, .int .i64 a1_2] 33 (0, 0)) (by (with_reducible repeat (first | refine blk_drewN ?_ _ | refine blk_drew ?_ | refine blk_alloc ?_ _)); exact BK112.out) hb); have n2_ := Aside0.mk (below_step (by repeat (first | (with_reducible first | exact HB.out | apply below_alloc | apply pw_below_drewN | apply below_drew1 | refine below_set ?_ GE112.out) | exact HB.out)) hb); clear BK112; clear HB; have HO117 := n0_; have BK112 := n1_; have HB := n2_; clear n0_ n1_ n2_; (try clear hb); (try clear hb2); (try clear hk); (try clear hi); (try clear ho0)))
          go_ret
          exact ⟨_, by first | rfl | (simp [errW_none, errW_some] <;> rfl) | (simp [*, errW_none, errW_some] <;> rfl), by (with_reducible repeat (first | apply Kd.R_alloc | apply Kd.R_drewN | apply Kd.R_drew)); exact Kd.R_mono HO117.out (fun _ hk => trivial), by repeat (first | (with_reducible first | exact HB.out | apply below_alloc | apply pw_below_drewN | apply below_drew1 | refine below_set ?_ GE112.out) | exact HB.out)⟩
        · replace c14 := Bool.eq_false_iff.mpr c14
          subst c14
          have H1 : ((impl_leasePut.f l0 a1_0 a1_1 a1_2).bind fun t118 => (if (t118.length : Int) ≤ 60 then (some t118) else ((impl_Lease.f l0).bind fun t121 => (some t121)))) = some r := by rw [if_neg (show ¬ (false = true) by decide)] at H; exact H
          clear H
          have H := H1
          clear H1
          replace H := Option.bind_eq_some_iff.mp H
          obtain ⟨t118, A170, H⟩ := H
          replace H : (if (t118.length : Int) ≤ 60 then (some t118) else ((impl_Lease.f l0).bind fun t121 => (some t121))) = some r := H
          have A17 := Aside0.mk A170
          clear A170
          by_cases c18 : (t118.length : Int) ≤ 60
          · rw [if_pos c18] at H
            have c18b0 : decide ((t118.length : Int) ≤ 60) = true := decide_eq_true c18
            have c18b1 : decide (t118.length ≤ 60) = true := decide_eq_true (by omega)
            clear c18
            obtain rfl := Option.some.inj H
            have hcz19_0 : wc.cell? ⟨gb112, 0, none⟩ = some (.int .i64 a1_0) := (blk_cell BK112.out 0).trans rfl
            have hcz19_1 : wc.cell? ⟨gb112, 1, none⟩ = some (.int .i64 a1_1) := (blk_cell BK112.out 1).trans rfl
            have hcz19_2 : wc.cell? ⟨gb112, 2, none⟩ = some (.int .i64 a1_2) := (blk_cell BK112.out 2).trans rfl
            have hfz19_0 := blk_frozen BK112.out 0
            have hfz19_1 := blk_frozen BK112.out 1
            have hfz19_2 := blk_frozen BK112.out 2
            go_wp2_with (first | ((with_reducible refine gate_callee (f := 51) rfl ?_); refine goesL_ (some 21) rfl rfl Try.func51 (by kernel_rfl) rfl #[.slice A0 l0.length c0, .agg #[.int .i64 a1_0, .int .i64 a1_1, .int .i64 a1_2]] rfl (by (try simp only [List.map_toArray, List.map_cons, List.map_nil]); first | done | rfl | (simp only [List.length_drop, List.length_take]; rfl)) ?_; (with_reducible refine (impl_leasePut.calls _ _ l0 a1_0 a1_1 a1_2 t118 _ ?side1 ?side2 A17.out).mono ?_); (case side1 => repeat (first | exact (Kd.C_below HR0.out HB.out) | (with_reducible refine Kd.C_alloc ?_ _) | (with_reducible refine Kd.C_drewN ?_ _) | (with_reducible refine Kd.C_drew ?_))); (case side2 => exact HC0.out); rintro e w20 ⟨v119, rfl, ho0, hb⟩; refine ⟨_, rfl, ?_⟩; have n0_ := Aside0.mk (Kd.R_lower (Kd.R_newB ho0 (g := gb112) (o := .cells #[.int .i64 a1_0, .int .i64 a1_1, .int .i64 a1_2] 33 (0, 0)) (by (with_reducible repeat (first | refine blk_drewN ?_ _ | refine blk_drew ?_ | refine blk_alloc ?_ _)); exact BK112.out)) (below_size (by repeat (first | (with_reducible first | exact HB.out | apply below_alloc | apply pw_below_drewN | apply below_drew1 | refine below_set ?_ GE112.out) | exact HB.out)))); have n1_ := Aside0.mk (blk_below (g := gb112) (o := .cells #[.int .i64 a1_0, .int .i64 a1_1, .int .i64 a1_2] 33 (0, 0)) (by (with_reducible repeat (first | refine blk_drewN ?_ _ | refine blk_drew ?_ | refine blk_alloc ?_ _)); exact BK112.out) hb); have n2_ := Aside0.mk (below_step (by repeat (first | (with_reducible first | exact HB.out | apply below_alloc | apply pw_below_drewN | apply below_drew1 | refine below_set ?_ GE112.out) | exact HB.out)) hb); clear BK112; clear HB; have HO120 := n0_; have BK112 := n1_; have HB := n2_; clear n0_ n1_ n2_; (try clear hb); (try clear hb2); (try clear hk); (try clear hi); (try clear ho0); obtain ⟨Ao21, co21, eo21⟩ := Kd.R_slice HO120.out; subst eo21))
            go_ret
            exact ⟨_, by first | rfl | (simp [errW_none, errW_some] <;> rfl) | (simp [*, errW_none, errW_some] <;> rfl), by (with_reducible repeat (first | apply Kd.R_alloc | apply Kd.R_drewN | apply Kd.R_drew)); exact Kd.R_mono HO120.out (fun _ hk => trivial), by repeat (first | (with_reducible first | exact HB.out | apply below_alloc | apply pw_below_drewN | apply below_drew1 | refine below_set ?_ GE112.out) | exact HB.out)⟩
          · rw [if_neg c18] at H
            have c18b0 : decide ((t118.length : Int) ≤ 60) = false := decide_eq_false c18
            have c18b1 : decide (t118.length ≤ 60) = false := decide_eq_false (by omega)
            clear c18
            replace H := Option.bind_eq_some_iff.mp H
            obtain ⟨t121, A220, H⟩ := H
            replace H : (some t121) = some r := H
            have A22 := Aside0.mk A220
            clear A220
            obtain rfl := Option.some.inj H
            have hcz23_0 : wc.cell? ⟨gb112, 0, none⟩ = some (.int .i64 a1_0) := (blk_cell BK112.out 0).trans rfl
            have hcz23_1 : wc.cell? ⟨gb112, 1, none⟩ = some (.int .i64 a1_1) := (blk_cell BK112.out 1).trans rfl
            have hcz23_2 : wc.cell? ⟨gb112, 2, none⟩ = some (.int .i64 a1_2) := (blk_cell BK112.out 2).trans rfl
            have hfz23_0 := blk_frozen BK112.out 0
            have hfz23_1 := blk_frozen BK112.out 1
            have hfz23_2 := blk_frozen BK112.out 2
            go_wp2_with (first | ((with_reducible refine gate_callee (f := 51) rfl ?_); refine goesL_ (some 21) rfl rfl Try.func51 (by kernel_rfl) rfl #[.slice A0 l0.length c0, .agg #[.int .i64 a1_0, .int .i64 a1_1, .int .i64 a1_2]] rfl (by (try simp only [List.map_toArray, List.map_cons, List.map_nil]); first | done | rfl | (simp only [List.length_drop, List.length_take]; rfl)) ?_; (with_reducible refine (impl_leasePut.calls _ _ l0 a1_0 a1_1 a1_2 t118 _ ?side1 ?side2 A17.out).mono ?_); (case side1 => repeat (first | exact (Kd.C_below HR0.out HB.out) | (with_reducible refine Kd.C_alloc ?_ _) | (with_reducible refine Kd.C_drewN ?_ _) | (with_reducible refine Kd.C_drew ?_))); (case side2 => exact HC0.out); rintro e w24 ⟨v119, rfl, ho0, hb⟩; refine ⟨_, rfl, ?_⟩; have n0_ := Aside0.mk (Kd.R_lower (Kd.R_newB ho0 (g := gb112) (o := .cells #[.int .i64 a1_0, .int .i64 a1_1, .int .i64 a1_2] 33 (0, 0)) (by (with_reducible repeat (first | refine blk_drewN ?_ _ | refine blk_drew ?_ | refine blk_alloc ?_ _)); exact BK112.out)) (below_size (by repeat (first | (with_reducible first | exact HB.out | apply below_alloc | apply pw_below_drewN | apply below_drew1 | refine below_set ?_ GE112.out) | exact HB.out)))); have n1_ := Aside0.mk (blk_below (g := gb112) (o := .cells #[.int .i64 a1_0, .int .i64 a1_1, .int .i64 a1_2] 33 (0, 0)) (by (with_reducible repeat (first | refine blk_drewN ?_ _ | refine blk_drew ?_ | refine blk_alloc ?_ _)); exact BK112.out) hb); have n2_ := Aside0.mk (below_step (by repeat (first | (with_reducible first | exact HB.out | apply below_alloc | apply pw_below_drewN | apply below_drew1 | refine below_set ?_ GE112.out) | exact HB.out)) hb); clear BK112; clear HB; have HO120 := n0_; have BK112 := n1_; have HB := n2_; clear n0_ n1_ n2_; (try clear hb); (try clear hb2); (try clear hk); (try clear hi); (try clear ho0); obtain ⟨Ao25, co25, eo25⟩ := Kd.R_slice HO120.out; subst eo25) | ((with_reducible refine gate_callee (f := 50) rfl ?_); refine goesL_ (some 27) rfl rfl Try.func50 (by kernel_rfl) rfl #[.slice A0 l0.length c0] rfl (by (try simp only [List.map_toArray, List.map_cons, List.map_nil]); first | done | rfl | (simp only [List.length_drop, List.length_take]; rfl)) ?_; (with_reducible refine (impl_Lease.calls _ _ l0 t121 _ ?side1 ?side2 A22.out).mono ?_); (case side1 => repeat (first | exact (Kd.C_below HR0.out HB.out) | (with_reducible refine Kd.C_alloc ?_ _) | (with_reducible refine Kd.C_drewN ?_ _) | (with_reducible refine Kd.C_drew ?_))); (case side2 => exact HC0.out); rintro e w26 ⟨v122, rfl, ho0, hb⟩; refine ⟨_, rfl, ?_⟩; have n0_ := Aside0.mk (Kd.R_elder' (by (with_reducible repeat (first | apply Kd.R_alloc | apply Kd.R_drewN | apply Kd.R_drew)); exact HO120.out) (Kd.R_base ho0) hb); have n1_ := Aside0.mk (Kd.R_lower (Kd.R_newB (Kd.R_new' ho0 (Kd.R_lt (by (with_reducible repeat (first | apply Kd.R_alloc | apply Kd.R_drewN | apply Kd.R_drew)); exact HO120.out))) (g := gb112) (o := .cells #[.int .i64 a1_0, .int .i64 a1_1, .int .i64 a1_2] 33 (0, 0)) (by (with_reducible repeat (first | refine blk_drewN ?_ _ | refine blk_drew ?_ | refine blk_alloc ?_ _)); exact BK112.out)) (below_size (by repeat (first | (with_reducible first | exact HB.out | apply below_alloc | apply pw_below_drewN | apply below_drew1 | refine below_set ?_ GE112.out) | exact HB.out)))); have n2_ := Aside0.mk (blk_below (g := gb112) (o := .cells #[.int .i64 a1_0, .int .i64 a1_1, .int .i64 a1_2] 33 (0, 0)) (by (with_reducible repeat (first | refine blk_drewN ?_ _ | refine blk_drew ?_ | refine blk_alloc ?_ _)); exact BK112.out) hb); have n3_ := Aside0.mk (below_step (by repeat (first | (with_reducible first | exact HB.out | apply below_alloc | apply pw_below_drewN | apply below_drew1 | refine below_set ?_ GE112.out) | exact HB.out)) hb); clear HO120; clear BK112; clear HB; have HO120 := n0_; have HO123 := n1_; have BK112 := n2_; have HB := n3_; clear n0_ n1_ n2_ n3_; (try clear hb); (try clear hb2); (try clear hk); (try clear hi); (try clear ho0)))
            go_ret
            exact ⟨_, by first | rfl | (simp [errW_none, errW_some] <;> rfl) | (simp [*, errW_none, errW_some] <;> rfl), by (with_reducible repeat (first | apply Kd.R_alloc | apply Kd.R_drewN | apply Kd.R_drew)); exact Kd.R_mono HO123.out (fun _ hk => trivial), by repeat (first | (with_reducible first | exact HB.out | apply below_alloc | apply pw_below_drewN | apply below_drew1 | refine below_set ?_ GE112.out) | exact HB.out)⟩

end Go.Proofs.Ythpggkpidbieeaa.XFnLeases
