/- What a row's argument reads as is a value of its kind: from the reading of the cells of an argument (numbers, bools, strings, structs, slices, nested) to the printed words' kinds. Conditions: the element types' layout facts and the row's weights. -/
import Derived.Test.YtenlceojmjkbkaaGreatHandFnExactTreeTakeWords
import Derived.Deep.Slices
import Derived.SizedLaws
import Derived.WideShapes
import Derived.ChangeArms
namespace Go.Proofs.YtenlceojmjkbkaaGreat.Take
open Go.ChangeShapes Go.WideShapes Go.Deep Go.Proofs.YtenlceojmjkbkaaGreatW.PrintWords
section
variable {H : Type} {enc : TypeId × Value → H} {P : Program} {w : World}

/-- No weight of the datum is beyond the reach. -/
def Small (P : Program) (t : TypeId) (y : DataW H) : Prop := ∀ n ∈ y.weights P t, n ≤ reachBytes

theorem weights_mem_all {e : TypeId} : ∀ {l : List (DataW H)} {y : DataW H}, y ∈ l → ∀ n ∈ y.weights P e, n ∈ DataW.weightsAll P e l
  | z :: l, y, hy, n, hn => by
    simp only [DataW.weightsAll, List.mem_append]
    rcases List.mem_cons.1 hy with rfl | hy
    · exact .inl hn
    · exact .inr (weights_mem_all hy n hn)

structure Takes (enc : TypeId × Value → H) (P : Program) (w : World) {α : Type} (t : TypeId) (d : Kd α) (G : α → Prop) : Prop where
  size : P.cellsOf t = d.sz
  take : ∀ fuel cs y, DataW.trod enc P w 0 (fun _ => true) true fuel t cs = some y → Small P t y.1 → ∃ x, d.K w x cs ∧ G x

theorem take_int {t : TypeId} {k : IntKind} (hu : P.underlying t = some (.int k)) (hc : P.cellsOf t = 1) : Takes enc P w t (Kd.int k) (fun n => (Lit.int k n).wf = true) where
  size := hc
  take := fun fuel cs y h _ => by
    obtain ⟨n, rfl, _, hw⟩ := DataW.trod_int hu h
    exact ⟨n, rfl, hw⟩
theorem take_bool {t : TypeId} (hu : P.underlying t = some .bool) (hc : P.cellsOf t = 1) : Takes enc P w t Kd.bool (fun _ => True) where
  size := hc
  take := fun fuel cs y h _ => by
    obtain ⟨b, rfl, _⟩ := DataW.trod_bool hu h
    exact ⟨b, rfl, trivial⟩
theorem take_string {t : TypeId} (hu : P.underlying t = some .string) (hc : P.cellsOf t = 1) : Takes enc P w t Kd.string (fun s => s.size ≤ 140737488351232) where
  size := hc
  take := fun fuel cs y h hs => by
    obtain ⟨s, rfl, rfl, _⟩ := DataW.trod_string hu h
    refine ⟨s, rfl, ?_⟩
    have := hs s.data.toList.length (by simp [DataW.weights])
    simpa [reachBytes] using this

/-- One choice for each place of a row. -/
theorem choose_row {α : Type} {p : Nat → α → Prop} : ∀ n, (∀ i, i < n → ∃ x, p i x) → ∃ xs : List α, xs.length = n ∧ ∀ i x, xs[i]? = some x → p i x
  | 0, _ => ⟨[], rfl, fun i x h => by simp at h⟩
  | n + 1, h => by
    obtain ⟨xs, hl, hx⟩ := choose_row n (fun i hi => h i (by omega))
    obtain ⟨x, hp⟩ := h n (by omega)
    refine ⟨xs ++ [x], by simp [hl], fun i y hy => ?_⟩
    by_cases hi : i < n
    · rw [List.getElem?_append_left (by omega)] at hy
      exact hx i y hy
    · have hi2 := (List.getElem?_eq_some_iff.1 hy).1
      simp [hl] at hi2
      obtain rfl : i = n := by omega
      rw [List.getElem?_append_right (by omega)] at hy
      simp [hl] at hy
      rw [← hy]
      exact hp

theorem take_slice {α : Type} {t e B : Nat} {d : Kd α} {G : α → Prop} (hu : P.underlying t = some (.slice e)) (hc : P.cellsOf t = 1) (hB : P.bytesOf e = B) (he : Takes enc P w e d G) :
    Takes enc P w t (Kd.slice e d) (fun xs => xs.length * B ≤ 140737488351232 ∧ ∀ x ∈ xs, G x) where
  size := hc
  take := fun fuel cs y h hs => by
    rcases open_slice hu h with ⟨rfl, rfl⟩ | ⟨a, len, cap, m, n, D, Pl, rfl, hb, hl, hm, hmm, rfl, hx⟩
    · exact ⟨[], ⟨none, 0, rfl, Nat.le_refl _, rfl, by simp, fun h => absurd h (by simp)⟩, by simp, fun x hx => by simp at hx⟩
    · have hlm : len ≤ m := by
        rw [hmm]
        split <;> omega
      have hsm : ∀ i, i < len → Small P e (D i) := fun i hi n hn => by
        refine hs n ?_
        simp only [DataW.weights, hu, List.mem_cons, List.mem_append]
        exact .inr (.inl (weights_mem_all (List.mem_map.2 ⟨i, List.mem_range.2 hi, rfl⟩) n hn))
      obtain ⟨xs, hxl, hxs⟩ := choose_row (α := α) (p := fun i x => G x ∧ ∃ c, c.length = d.sz ∧ d.K w x c ∧ ∀ j u, c[j]? = some u → w.cell? (a.add (i * d.sz + j)) = some u) len (fun i hi => by
        obtain ⟨cs', h1, h2⟩ := hx i (by omega)
        obtain ⟨x, hK, hG⟩ := he.take _ _ _ h2 (hsm i hi)
        obtain ⟨_, hlen, hcell⟩ := World.cells?_some h1
        refine ⟨x, hG, cs', d.K_len hK, hK, fun j u hj => ?_⟩
        have hjl := (List.getElem?_eq_some_iff.1 hj).1
        have := hcell j (by omega)
        rw [Deep.add_add, he.size] at this
        rw [this]
        exact hj)
      refine ⟨xs, ⟨some a, cap, by rw [hxl], by omega, rfl, by rw [hxl]; unfold maxLen at hm; omega, fun _ => ⟨a, rfl, fun j p hj => (hxs j p hj).2⟩⟩, ?_, fun x hx => ?_⟩
      · have z := hs ((((List.range len).map D).length + ((List.range (m - len)).map fun j => D (len + j)).length) * P.bytesOf e) (by simp [DataW.weights, hu])
        simp only [List.length_map, List.length_range, reachBytes] at z
        rw [hxl]
        rw [hB] at z
        refine Nat.le_trans (Nat.mul_le_mul_right _ ?_) z
        omega
      · obtain ⟨i, hi⟩ := List.getElem?_of_mem hx
        exact (hxs i x hi).1

/-- The fields of a struct from a cell on. -/
structure TakesF (enc : TypeId × Value → H) (P : Program) (w : World) {α : Type} (fs : List _root_.Go.Field) (off : Nat) (d : Kd α) (G : α → Prop) : Prop where
  take : ∀ (fuel : Nat) (cs : List Value) (ys : List (DataW H × List MemPlace)), (∀ (i : Nat) (f : _root_.Go.Field), fs[i]? = some f → DataW.trod enc P w 0 (fun _ => true) true fuel f.type ((cs.drop f.offset).take (P.cellsOf f.type)) = ys[i]?) → ys.length = fs.length → cs.length = off + d.sz →
    (∀ n ∈ DataW.weightsEach P (fs.map (·.type)) (ys.map (·.1)), n ≤ reachBytes) → ∃ x, d.K w x (cs.drop off) ∧ G x

theorem takeF_one {α : Type} {f : _root_.Go.Field} {off : Nat} {d : Kd α} {G : α → Prop} (hoff : f.offset = off) (h : Takes enc P w f.type d G) : TakesF enc P w [f] off d G where
  take := fun fuel cs ys hy hl hc hs => by
    match ys, hl with
    | [y], _ =>
      have h0 := hy 0 f rfl
      rw [hoff, h.size, List.take_of_length_le (by simp; omega)] at h0
      exact h.take fuel _ y h0 (fun n hn => hs n (by simp only [List.map_cons, List.map_nil, DataW.weightsEach, List.mem_append]; exact .inl hn))
theorem takeF_cons {α β : Type} {f : _root_.Go.Field} {fs : List _root_.Go.Field} {off : Nat} {d : Kd α} {d' : Kd β} {G : α → Prop} {G' : β → Prop} (hoff : f.offset = off) (h : Takes enc P w f.type d G) (hs' : TakesF enc P w fs (off + d.sz) d' G') :
    TakesF enc P w (f :: fs) off (Kd.pair d d') (fun x => G x.1 ∧ G' x.2) where
  take := fun fuel cs ys hy hl hc hs => by
    match ys, hl with
    | y :: ys, hl =>
      have hc2 : cs.length = off + (d.sz + d'.sz) := hc
      have h0 := hy 0 f rfl
      rw [hoff, h.size] at h0
      obtain ⟨x0, k0, g0⟩ := h.take fuel _ y h0 (fun n hn => hs n (by simp only [List.map_cons, DataW.weightsEach, List.mem_append]; exact .inl hn))
      obtain ⟨x1, k1, g1⟩ := hs'.take fuel cs ys (fun i g hg => hy (i + 1) g (by simpa using hg)) (by simpa using hl) (by omega) (fun n hn => hs n (by simp only [List.map_cons, DataW.weightsEach, List.mem_append]; exact .inr hn))
      refine ⟨(x0, x1), ⟨(cs.drop off).take d.sz, cs.drop (off + d.sz), ?_, k0, k1⟩, g0, g1⟩
      rw [← List.drop_drop, List.take_append_drop]
theorem take_struct {α : Type} {t : TypeId} {fs : Array _root_.Go.Field} {d : Kd α} {G : α → Prop} (hu : P.underlying t = some (.struct fs)) (hc : P.cellsOf t = d.sz) (h : TakesF enc P w fs.toList 0 d G) : Takes enc P w t d G where
  size := hc
  take := fun fuel cs y hd hs => by
    obtain ⟨xs, n, rfl, rfl, hl, hxl, hx⟩ := DataW.trod_struct hu hd
    have := h.take n cs xs (fun i f hf => hx i f (by simpa using hf)) (by simpa using hxl) (by omega) (fun n hn => hs n (by simpa [DataW.weights, hu] using hn))
    simpa using this
theorem take_iso {α β : Type} {t : TypeId} {d : Kd α} {G : α → Prop} (h : Takes enc P w t d G) (f : β → α) (g : α → β) (hfg : ∀ y, f (g y) = y) : Takes enc P w t (Kd.iso d f) (fun x => G (f x)) where
  size := h.size
  take := fun fuel cs y hd hs => by
    obtain ⟨x, hK, hG⟩ := h.take fuel cs y hd hs
    refine ⟨g x, ?_, ?_⟩
    · show d.K w (f (g x)) cs
      rw [hfg]
      exact hK
    · show G (f (g x))
      rw [hfg]
      exact hG

/-- What the row's weights say of argument j. -/
theorem small_of {ts : List TypeId} {ds : List (DataW H)} (h : (DataW.weightsEach P ts ds).all (· ≤ reachBytes) = true) {j : Nat} {t : TypeId} {y : DataW H} (ht : ts[j]? = some t) (hd : ds[j]? = some y) : Small P t y :=
  fun n hn => by simpa using List.all_eq_true.1 h _ (DataW.weights_mem_each ht hd n hn)

theorem arg_slice {α : Type} {t e B : Nat} {d : Kd α} {G : α → Prop} {v : Value} {y : DataW H} {ps : List MemPlace} {r : Reach} {base : Nat} (hu : P.underlying t = some (.slice e)) (hc : P.cellsOf t = 1) (hB : P.bytesOf e = B) (he : Takes enc P w e d G)
    (hv : Value.okWide P w r base t v) (h : DataW.Trod enc P w 0 (fun _ => true) true t v y ps) (hs : Small P t y) :
    ∃ (A : Option Addr) (c : Nat) (l : List α), v = .slice A l.length c ∧ l.length ≤ c ∧ Kd.C d w A l.length l ∧ l.length * B ≤ 140737488351232 ∧ ∀ x ∈ l, G x := by
  obtain ⟨a, len, cap, rfl⟩ := okWide_slice hu hv
  obtain ⟨fuel, hf⟩ := h
  obtain ⟨l, ⟨A, c, e1, h1, h2⟩, h3, h4⟩ := (take_slice hu hc hB he).take fuel _ _ hf hs
  simp [Value.cells] at e1
  obtain ⟨rfl, rfl, rfl⟩ := e1
  exact ⟨_, _, l, rfl, h1, h2, h3, h4⟩
theorem arg_struct {α : Type} {t : TypeId} {fs : Array _root_.Go.Field} {d : Kd α} {G : α → Prop} {v : Value} {y : DataW H} {ps : List MemPlace} {r : Reach} {base : Nat} (hu : P.underlying t = some (.struct fs)) (he : Takes enc P w t d G)
    (hv : Value.okWide P w r base t v) (h : DataW.Trod enc P w 0 (fun _ => true) true t v y ps) (hs : Small P t y) :
    ∃ (cs : List Value) (x : α), v = .agg cs.toArray ∧ d.K w x cs ∧ G x := by
  obtain ⟨cs, rfl, _⟩ := okWide_struct hu hv
  obtain ⟨fuel, hf⟩ := h
  obtain ⟨x, h1, h2⟩ := he.take fuel _ _ hf hs
  exact ⟨cs.toList, x, by simp, by simpa [Value.cells] using h1, h2⟩
theorem arg_int {t : TypeId} {k : IntKind} {v : Value} {y : DataW H} {ps : List MemPlace} {r : Reach} {base : Nat} (hu : P.underlying t = some (.int k)) (hv : Value.okWide P w r base t v) (h : DataW.Trod enc P w 0 (fun _ => true) true t v y ps) :
    ∃ n, v = .int k n ∧ (Lit.int k n).wf = true := by
  obtain ⟨n, rfl⟩ := okWide_int hu hv
  obtain ⟨fuel, hf⟩ := h
  obtain ⟨m, e, _, hw⟩ := DataW.trod_int hu hf
  simp [Value.cells] at e
  subst e
  exact ⟨n, rfl, hw⟩
theorem arg_string {t : TypeId} {v : Value} {y : DataW H} {ps : List MemPlace} {r : Reach} {base : Nat} (hu : P.underlying t = some .string) (hc : P.cellsOf t = 1) (hv : Value.okWide P w r base t v) (h : DataW.Trod enc P w 0 (fun _ => true) true t v y ps) (hs : Small P t y) :
    ∃ s : ByteArray, v = .string s ∧ s.size ≤ 140737488351232 := by
  obtain ⟨s, rfl⟩ := okWide_string hu hv
  obtain ⟨fuel, hf⟩ := h
  obtain ⟨s', e, hw⟩ := (take_string hu hc).take fuel _ _ hf hs
  have e2 : [Value.string s] = [Value.string s'] := e
  simp at e2
  subst e2
  exact ⟨s, rfl, hw⟩
end
end Go.Proofs.YtenlceojmjkbkaaGreat.Take
