/- Functions that FnLeases comes to, as Lean functions with their contracts: written by the prover's own program (wip/tpl/myprint.py) over the kit's printer, some contracts by hand. Conditions: none. -/
import Derived.Test.YthpggkpidbieeaaXFnLeasesx0
import Derived.Test.YthpggkpidbieeaaXFnLeasesx2
namespace Go.Proofs.Ythpggkpidbieeaa.XFnLeases
open Go.RowKit Go.Proofs.YthpggkpidbieeaaW.PrintWords Go.Proofs.YthpggkpidbieeaaW.PrintLast Go.Proofs.YthpggkpidbieeaaW.PrintMore
attribute [local go_sem] max2_int min2_int max_two min_two max_three min_three max_four min_four   -- for this text's walks alone
set_option linter.unusedVariables false
set_option linter.unusedSimpArgs false

/-! ### impl_LeaseDrop: function 13 -/
def idxI (p : S33 → Bool) (l : List S33) (i : Int) : Prop :=
  (i = -1 ∧ ∀ x ∈ l, p x = false) ∨ ∃ n : Nat, i = n ∧ n < l.length ∧ p (rd_T33 l n) = true ∧ ∀ j : Nat, j < n → p (rd_T33 l j) = false
/-- What a predicate handed in must do. -/
def PredOK (p : S33 → Bool) (g : Nat) (lb : Array Value) (b0 : Nat) (w0 : World) : Prop :=
  ∀ (W : World) (x : S33), Below b0 w0 W → Calls Try.prog g (#[.agg #[.int .i64 x.f0, .int .i64 x.f1, .int .i64 x.f2]] ++ lb) W fun e w' => e = .returned (.bool (p x)) ∧ Below W.heap.size W w'

theorem below_more {b0 : Nat} {w0 w w' : World} (h : Below b0 w0 w) (hs : b0 ≤ w.heap.size) (k : Below w.heap.size w w') : Below b0 w0 w' := below_then h hs k

theorem rd_mem {l : List S33} {i : Nat} (h : i < l.length) : rd_T33 l i = l[i] := by simp [rd_T33, List.getD_eq_getElem?_getD, h]

set_option maxHeartbeats 4000000 in
set_option maxRecDepth 100000 in
theorem IndexFunc_Lease (p : S33 → Bool) (g : Nat) (lb : Array Value) (b0 : Nat) (w0 : World) (eg : ∀ args w, (callFunc g args).run Try.prog w = .ok (.enter g args) w)
    (hp : PredOK p g lb b0 w0) (A : Option Addr) (c : Nat) (l : List S33) (w : World) (hB : Below b0 w0 w) (hs : b0 ≤ w.heap.size) (hr : Kd.C k33 w A l.length l) :
    Calls Try.prog 93 #[.slice A l.length c, .func (.func g) #[] lb] w fun e w' => ∃ i, e = .returned (.int .i64 i) ∧ idxI p l i ∧ Below w.heap.size w w' := by
  have hu33 := Try.underlying33
  have hmx : l.length ≤ 9223372036854775807 := hr.2.1
  have HR := Aside0.mk hr
  have HP := Aside0.mk hp
  have HB0 := Aside0.mk hB
  have HS := Aside0.mk hs
  clear hr hp hB hs
  go_enter Try.func93, Try.ntmps93
  go_wp2
  go_loopg [5, 8] l.length (fun gg _ s8 wr => ∃ kk : Nat, kk ≤ l.length ∧ l.length - kk ≤ gg ∧ s8 = .int .i64 kk ∧ Aside0 (Below w.heap.size w wr) ∧ Aside0 (∀ j : Nat, j < kk → p (rd_T33 l j) = false))
  case atStart => exact ⟨0, Nat.zero_le _, by omega, rfl, ⟨Below.refl _ w⟩, ⟨fun j hj => absurd hj (Nat.not_lt_zero _)⟩⟩
  case round =>
    obtain ⟨kk, hkk, hg, rfl, BW, NO⟩ := hrel
    by_cases hlt : kk < l.length
    · have hltz : (kk : Int) < (l.length : Int) := by omega
      obtain ⟨ad, e, hx0, hx1, hx2⟩ := at_T33 HR.out (kk : Int) (by omega) (by omega)
      cases e
      replace hx0 := pw_cell_below BW.out hx0
      replace hx1 := pw_cell_below BW.out hx1
      replace hx2 := pw_cell_below BW.out hx2
      simp only [Int.toNat_natCast] at hx0 hx1 hx2
      have hcall := HP.out wr (rd_T33 l kk) (below_more HB0.out HS.out BW.out)
      cases hq : p (rd_T33 l kk) with
      | true =>
        rw [hq] at hcall
        have HQ := Aside0.mk hq
        clear hq
        go_wp2_with fail
        refine hcall.mono ?_
        clear hcall
        rintro e w' ⟨rfl, hb'⟩
        have HB' := Aside0.mk hb'
        clear hb' eg hx0 hx1 hx2
        go_wp2
        go_ret
        exact ⟨_, rfl, .inr ⟨kk, rfl, hlt, HQ.out, NO.out⟩, below_then BW.out BW.out.size HB'.out⟩
      | false =>
        rw [hq] at hcall
        have HQ := Aside0.mk hq
        clear hq
        go_wp2_with fail
        refine hcall.mono ?_
        clear hcall
        rintro e w' ⟨rfl, hb'⟩
        have HB' := Aside0.mk hb'
        clear hb' eg hx0 hx1 hx2
        go_wp2
        go_roundg (l.length - (kk + 1))
        case measure => omega
        case rel =>
          refine ⟨kk + 1, by omega, by omega, by go_num, ⟨below_then BW.out BW.out.size HB'.out⟩, ⟨fun j hj => ?_⟩⟩
          by_cases e : j = kk
          · subst e; exact HQ.out
          · exact NO.out j (by omega)
    · have hltz : ¬ (kk : Int) < (l.length : Int) := by omega
      have : kk = l.length := by omega
      subst this
      go_wp2
      go_ret
      refine ⟨_, rfl, .inl ⟨rfl, fun x hx => ?_⟩, BW.out⟩
      obtain ⟨j, hj, rfl⟩ := List.getElem_of_mem hx
      rw [← rd_mem hj]
      exact NO.out j hj

structure DelInv (p : S33 → Bool) (l xs : List S33) (i j : Nat) : Prop where
  len : xs.length = l.length
  ij : i < j
  jl : j ≤ l.length
  low : xs.take i = (l.take j).filter (fun x => !p x)
  high : xs.drop j = l.drop j
theorem take_rd {l : List S33} {j : Nat} (hj : j < l.length) : l.take (j + 1) = l.take j ++ [rd_T33 l j] := by
  rw [List.take_succ_eq_append_getElem hj, rd_mem hj]
theorem DelInv.rd_ {p : S33 → Bool} {l xs : List S33} {i j : Nat} (h : DelInv p l xs i j) (hj : j < l.length) : rd_T33 xs (j : Int) = rd_T33 l (j : Int) := by
  have := congrArg List.head? h.high
  simpa [rd_T33, List.head?_drop, List.getD_eq_getElem?_getD, List.getElem?_eq_getElem hj, List.getElem?_eq_getElem (h.len ▸ hj)] using this
theorem DelInv.skip {p : S33 → Bool} {l xs : List S33} {i j : Nat} (h : DelInv p l xs i j) (hj : j < l.length) (hp : p (rd_T33 l j) = true) : DelInv p l xs i (j + 1) :=
  ⟨h.len, by have := h.ij; omega, hj, by rw [take_rd hj, List.filter_append, ← h.low]; simp [hp], by
    rw [← List.drop_drop, ← List.drop_drop, h.high]⟩
theorem DelInv.keep {p : S33 → Bool} {l xs : List S33} {i j : Nat} (h : DelInv p l xs i j) (hj : j < l.length) (hp : p (rd_T33 l j) = false) : DelInv p l (xs.set i (rd_T33 l j)) (i + 1) (j + 1) := by
  have hij := h.ij
  have hlen := h.len
  refine ⟨by simp [h.len], by omega, hj, ?_, ?_⟩
  · rw [take_rd hj, List.filter_append, ← h.low, List.take_succ_eq_append_getElem (by simp; omega)]
    simp [hp, List.take_set_of_le]
  · rw [List.drop_set_of_lt (by omega), ← List.drop_drop, ← List.drop_drop, h.high]
theorem DelInv.start {p : S33 → Bool} {l : List S33} {n : Nat} (hn : n < l.length) (hp : p (rd_T33 l n) = true) (hno : ∀ j : Nat, j < n → p (rd_T33 l j) = false) : DelInv p l l n (n + 1) := by
  refine ⟨rfl, by omega, hn, ?_, rfl⟩
  rw [take_rd hn, List.filter_append]
  have : (l.take n).filter (fun x => !p x) = l.take n := by
    rw [List.filter_eq_self]
    intro x hx
    obtain ⟨j, hj, rfl⟩ := List.getElem_of_mem hx
    simp only [List.length_take] at hj
    rw [List.getElem_take, ← rd_mem (by omega), hno j (by omega)]
    rfl
  rw [this]
  simp [hp]

/-- What 'clear(s[i:])' leaves: the first i elements. -/
theorem R_tail {α : Type} {d : Kd α} {e base g n cap : Nat} {ok : Nat → Prop} {W : World} {xs : List α} (h : d.R e W base ok (.slice (some ⟨g, 0, none⟩) n cap) xs) (i : Nat) (hi : i ≤ n) (seg : List Value) (hl : i * d.sz + seg.length ≤ n * d.sz) :
    d.R e (W.setCells g (i * d.sz) seg) base ok (.slice (some ⟨g, 0, none⟩) i cap) (xs.take i) ∧ W.grownBy (W.setCells g (i * d.sz) seg) (some g) := by
  obtain ⟨hn, hnc, _⟩ := Kd.R_reads' h
  have h2 := Kd.R_take h (m := i) (by omega)
  obtain ⟨hok, inner, ho, hr⟩ := h2
  obtain ⟨ho1, ho2⟩ := ho
  rcases ho2 with ⟨hv, _⟩ | ⟨g', cap', cur, hv, hb, hh, hnc', hcm, hcs, ht⟩
  · cases hv
  injection hv with ha hlen hc
  injection ha with ha
  injection ha with hg
  subst hg; subst hc
  have hfit : i * d.sz + seg.length ≤ cur.size := by
    have : n * d.sz ≤ cap * d.sz := Nat.mul_le_mul_right _ hnc
    omega
  obtain ⟨cur', h3, h4, h5⟩ := setCells_row seg (i * d.sz) W cur hh hfit
  obtain ⟨s1, s2, s3, s4⟩ := setCells_same g seg (i * d.sz) W
  have hfar : ∀ k, k ≠ g → (W.setCells g (i * d.sz) seg).heap[k]? = W.heap[k]? := fun k hk => setCells_far seg _ k hk
  refine ⟨⟨hok, inner, ⟨ho1, .inr ⟨g, cap, cur', by rw [← hlen], hb, h3, hnc', hcm, by rw [h4, hcs], ?_⟩⟩, hr.imp_ (fun _ _ hp => d.M_move (fun k hk => hfar k (fun he => hk.2 (by rw [he]; simp [Value.ownBlock]))) hp)⟩,
    ⟨s1, s2, s3, by rw [s4]; exact Nat.le_refl _, fun k _ hk => hfar k (fun he => hk (by rw [he]))⟩⟩
  rw [← ht, ← hlen]
  apply List.ext_getElem?
  intro q
  rw [List.getElem?_take, List.getElem?_take, h5]
  by_cases hq : q < i * d.sz
  · rw [if_pos hq, if_pos hq, seg_get cur.toList seg (i * d.sz) (by rw [Array.length_toList]; omega) q, if_pos hq]
  · rw [if_neg hq, if_neg hq]

/-- 'clear(s[i:])' at elements of three cells. -/
theorem clear_rec {α : Type} {d : Kd α} {base g n cap : Nat} {ok : Nat → Prop} {W : World} {xs : List α} {P : Program} (t e ty : TypeId) (z : Value) (ht : P.underlying t = some (.slice e)) (hv : ∀ w, (zeroValue e).run P w = .ok z w) (hz : z.cells.size = d.sz) (h1 : ∀ u ∈ z.cells.toList, u.oneCell' = true)
    (h : d.R e W base ok (.slice (some ⟨g, 0, none⟩) n cap) xs) (i : Nat) (hi : i < n) (hz0 : 0 < d.sz) :
    ∃ Z : List Value, Z.length = (n - i) * d.sz ∧ (Builtin.clear_ #[t] ty #[.slice (some ⟨g, i * d.sz, none⟩) (n - i) (cap - i)]).run P W = .ok (.tuple #[]) (W.setCells g (i * d.sz) Z) := by
  obtain ⟨hn, hnc, _⟩ := Kd.R_reads' h
  obtain ⟨hok, inner, ho, hr⟩ := h
  obtain ⟨ho1, ho2⟩ := ho
  rcases ho2 with ⟨hv, _⟩ | ⟨g', cap', cur, hv', hb, hh, hnc', hcm, hcs, ht'⟩
  · cases hv
  injection hv' with ha hlen hc
  injection ha with ha
  injection ha with hg
  subst hg; subst hc
  have hle : n * d.sz ≤ cap * d.sz := Nat.mul_le_mul_right _ hnc
  have hsum : i * d.sz + (n - i) * d.sz = n * d.sz := by rw [← Nat.add_mul]; congr 1; omega
  have hZl : (Builtin.zeroCells z.cells (n - i)).toList.length = (n - i) * d.sz := by simp [Builtin.zeroCells, hz]
  refine ⟨(Builtin.zeroCells z.cells (n - i)).toList, hZl, ?_⟩
  have hst := run_storeCells_cells (P := P) g (i * d.sz) (Builtin.zeroCells z.cells (n - i)).toList 0 W
    (by intro j hj
        rw [hZl] at hj
        have hb' : i * d.sz + 0 + j < cur.size := by omega
        rw [cell_of_row W g _ cur e (0, 0) hh, Array.getElem?_eq_getElem hb']
        rfl)
    (by intro j hj; simp [World.frozen?, hh])
    (by
      intro u hu
      simp only [Builtin.zeroCells, Array.toList_map, List.mem_map, Array.toList_range, List.mem_range] at hu
      obtain ⟨q, hq, rfl⟩ := hu
      have : q % z.cells.size < z.cells.size := Nat.mod_lt _ (by omega)
      rw [getElem!_pos z.cells (q % z.cells.size) this]
      exact h1 _ (by simp))
  simp only [Nat.add_zero] at hst
  obtain ⟨m, hm⟩ : ∃ m, n - i = m + 1 := ⟨n - i - 1, by omega⟩
  rw [hm] at hst ⊢
  simp [Builtin.clear_, run_underlying ht, hv, hst]

theorem kept_none {p : S33 → Bool} {l : List S33} (h : ∀ x ∈ l, p x = false) : l.filter (fun x => !p x) = l := by
  rw [List.filter_eq_self]
  intro x hx
  rw [h x hx]
  rfl

set_option maxHeartbeats 8000000 in
set_option maxRecDepth 100000 in
theorem DeleteFunc_Lease (p : S33 → Bool) (gf : Nat) (lb : Array Value) (b0 : Nat) (w0 : World) (eg : ∀ args w, (callFunc gf args).run Try.prog w = .ok (.enter gf args) w)
    (hp : PredOK p gf lb b0 w0) (base : Nat) (ok : Nat → Prop) (v : Value) (l : List S33) (w : World) (hb0 : b0 ≤ base) (hB : Below b0 w0 w) (hs : base ≤ w.heap.size) (ho : Kd.R k33 33 w base ok v l) :
    Calls Try.prog 79 #[v, .func (.func gf) #[] lb] w fun e w' => ∃ v', e = .returned v' ∧ Kd.R k33 33 w' base ok v' (l.filter (fun x => !p x)) ∧ Below base w w' := by
  have hu33 := Try.underlying33
  have hu24 := Try.underlying24
  obtain ⟨A, c, rfl, hlc, hC⟩ := Kd.R_reads ho
  have hmx : l.length ≤ 9223372036854775807 := hC.2.1
  have hIF := IndexFunc_Lease p gf lb b0 w0 eg hp A c l w hB (by omega) hC
  have HO := Aside0.mk ho
  have HP := Aside0.mk hp
  have HB0 := Aside0.mk hB
  have HS := Aside0.mk hs
  have EG := Aside0.mk eg
  clear hC ho hp hB hs eg
  go_enter Try.func79, Try.ntmps79
  go_wp2_with fail
  refine hIF.mono ?_
  clear hIF
  rintro e w1 ⟨i, rfl, hi, hb1⟩
  have HB1 := Aside0.mk hb1
  clear hb1
  rcases hi with ⟨rfl, hall⟩ | ⟨n0, rfl, hn0, hpt, hno⟩
  · have HA := Aside0.mk hall
    clear hall
    go_wp2
    go_ret
    exact ⟨_, rfl, by rw [kept_none HA.out]; exact Kd.R_below HO.out HB1.out, HB1.out.mono HS.out⟩
  · have hne : ((n0 : Int) == -1) = false := beq_eq_false_iff_ne.2 (by omega)
    have HI := Aside0.mk (DelInv.start hn0 hpt hno)
    clear hpt hno
    obtain ⟨g, cap, eo, gb, gl, cl, HG⟩ := Kd.R_form HO.out (by omega)
    injection eo with ea _ ec
    subst ea ec
    clear HG cl gl
    have GB := Aside0.mk gb
    clear gb
    have HO1 := Aside0.mk (Kd.R_below HO.out HB1.out)
    have HB2 := Aside0.mk (HB1.out.mono HS.out)
    have HS1 := Aside0.mk (Nat.le_trans HS.out HB1.out.size)
    clear HO HB1
    go_wp2_with fail
    go_loopg [5, 6, 7] l.length (fun gg s5 s6 _ wr => ∃ (i j : Nat) (xs : List S33), s5 = .int .i64 i ∧ s6 = .int .i64 j ∧ l.length - j ≤ gg ∧ Aside0 (DelInv p l xs i j) ∧ Aside0 (Kd.R k33 33 wr base ok (.slice (some ⟨g, 0, none⟩) l.length c) xs) ∧ Aside0 (Below base w wr))
    case atStart => exact ⟨n0, n0 + 1, l, rfl, by go_num, by omega, HI, HO1, HB2⟩
    case round =>
      obtain ⟨i, j, xs, rfl, rfl, hg, HI2, HO2, HB3⟩ := hrel
      clear HI HO1 HB2 HS1
      have hij := HI2.out.ij
      have hjl := HI2.out.jl
      have hS3 : base ≤ wr.heap.size := Nat.le_trans HS.out HB3.out.size
      have hg3 : g < wr.heap.size := by
        obtain ⟨g', cap', eo, gb, gl, _⟩ := Kd.R_form HO2.out (by have := HI2.out.len; omega)
        injection eo with ea
        injection ea with ea
        injection ea with ea
        omega
      by_cases hlt : j < l.length
      · have hltz : (j : Int) < (l.length : Int) := by omega
        have hrd := Aside0.mk (HI2.out.rd_ hlt)
        obtain ⟨cj, hclj, hMj, hccj, hfrj⟩ := Kd.R_elem HO2.out z33 (j : Int) (by omega) (by omega)
        obtain rfl := k33_openM hMj
        have hx0 := hccj 0 _ rfl
        have hx1 := hccj 1 _ rfl
        have hx2 := hccj 2 _ rfl
        simp only [Int.toNat_natCast, show (k33).sz = 3 from rfl, Nat.add_zero] at hx0 hx1 hx2
        change _ = some (Value.int .i64 (rd_T33 xs j).f0) at hx0
        change _ = some (Value.int .i64 (rd_T33 xs j).f1) at hx1
        change _ = some (Value.int .i64 (rd_T33 xs j).f2) at hx2
        rw [hrd.out] at hx0 hx1 hx2
        clear hclj hMj hccj hfrj
        generalize hy : rd_T33 l j = y at hx0 hx1 hx2
        have HY := Aside0.mk hy
        clear hy
        have eg := EG.out
        go_wp2_with fail
        refine (HP.out _ y (((HB0.out.trans (HB3.out.mono hb0))).alloc (Nat.le_trans hb0 hS3) _)).mono ?_
        clear eg hx0 hx1 hx2
        rintro e w2 ⟨rfl, hb2⟩
        have HB4 := Aside0.mk hb2
        clear hb2
        have hz : (wr.alloc (.cells #[.int .i64 y.f0, .int .i64 y.f1, .int .i64 y.f2] 33)).heap.size = wr.heap.size + 1 := by simp
        have HO3 := Aside0.mk (Kd.R_below (Kd.R_alloc HO2.out (.cells #[.int .i64 y.f0, .int .i64 y.f1, .int .i64 y.f2] 33)) HB4.out)
        have hbk := Aside0.mk ((HB4.out.block wr.heap.size (by omega)).trans (heap_alloc_new wr (.cells #[.int .i64 y.f0, .int .i64 y.f1, .int .i64 y.f2] 33)))
        have HB5 := Aside0.mk ((HB3.out.alloc hS3 _).trans (HB4.out.mono (by omega)))
        clear HO2 HB3
        cases hq : p y with
        | true =>
          have HQ := Aside0.mk hq
          clear hq
          go_wp2
          go_roundg (l.length - (j + 1))
          case measure => omega
          case rel => exact ⟨i, j + 1, xs, rfl, by go_num, by omega, ⟨HI2.out.skip hlt (by rw [HY.out]; exact HQ.out)⟩, HO3, HB5⟩
        | false =>
          have HQ := Aside0.mk hq
          clear hq
          have hb0_ := blk_cell hbk.out 0
          have hb1_ := blk_cell hbk.out 1
          have hb2_ := blk_cell hbk.out 2
          simp only [List.getElem?_toArray, List.getElem?_cons_zero, List.getElem?_cons_succ] at hb0_ hb1_ hb2_
          obtain ⟨ci, hcli, hMi, hcci, hfri⟩ := Kd.R_elem HO3.out z33 (i : Int) (by omega) (by omega)
          obtain rfl := k33_openM hMi
          have HP12 := Aside0.mk (Kd.R_seg HO3.out (i : Int) (by omega) (by omega) (seg := [.int .i64 y.f0, .int .i64 y.f1, .int .i64 y.f2]) (j := 0) hcli hcci (show 3 ≤ 3 from by decide) (x' := y) (k33_mkM _ _ _ y) (fun _ hk => hk))
          have hx0 := hcci 0 _ rfl
          have hx1 := hcci 1 _ rfl
          have hx2 := hcci 2 _ rfl
          have hf0 := hfri 0
          have hf1 := hfri 1
          have hf2 := hfri 2
          simp only [Int.toNat_natCast, show (k33).sz = 3 from rfl, Nat.add_zero] at hx0 hx1 hx2 hf0 hf1 hf2
          clear hcli hMi hcci hfri
          go_wp2
          go_roundg (l.length - (j + 1))
          case measure => omega
          case rel => 
            refine ⟨i + 1, j + 1, xs.set i y, by go_num, by go_num, by omega, ⟨by rw [← HY.out]; exact HI2.out.keep hlt (by rw [HY.out]; exact HQ.out)⟩, ?_, ?_⟩
            · exact ⟨HP12.out.1⟩
            · exact ⟨HB5.out.grown HP12.out.2 (by have := HB4.out.size; rw [hz] at this; omega) (fun k hk => by cases hk; exact GB.out)⟩
      · have hje : j = l.length := by omega
        subst hje
        have hltz : ¬ (l.length : Int) < (l.length : Int) := by omega
        have hcl : ∀ ty, ∃ Z : List Value, Z.length = (l.length - i) * 3 ∧ (Builtin.clear_ #[24] ty #[.slice (some ⟨g, i * 3, none⟩) (l.length - i) (c - i)]).run Try.prog wr = .ok (.tuple #[]) (wr.setCells g (i * 3) Z) :=
          fun ty => clear_rec 24 33 ty _ Try.underlying24 Try.zeroValue33 rfl (by decide) HO2.out i (by omega) (show 0 < 3 by decide)
        obtain ⟨Z, hZ, hcl2⟩ := hcl 0
        have HT := Aside0.mk (R_tail HO2.out i (by omega) Z (by rw [hZ]; show i * 3 + _ ≤ _ * 3; omega))
        have HZ := Aside0.mk hZ
        clear hZ hcl
        go_wp2
        go_ret
        refine ⟨_, rfl, ?_, HB3.out.grown HT.out.2 hS3 (fun k hk => by cases hk; exact GB.out)⟩
        have hlow := HI2.out.low
        rw [List.take_length] at hlow
        rw [← hlow]
        exact HT.out.1

theorem R_empty {α : Type} (d : Kd α) (e : Nat) (w : World) (base : Nat) (hb : base ≤ w.heap.size) : d.R e (w.alloc (.cells #[] e)) base (fun _ => True) (.slice (some ⟨w.heap.size, 0, none⟩) 0 0) [] :=
  ⟨fun _ _ => trivial, [], World.ownsRow_made w #[] 0 hb (Nat.zero_le _) (by simp), Reps.none _ _⟩

set_option maxHeartbeats 8000000 in
set_option maxRecDepth 100000 in
theorem Clone_Lease (A : Option Addr) (c : Nat) (l : List S33) (w : World) (hr : Kd.C k33 w A l.length l) (hl : l.length * 24 ≤ 140737488355328) :
    Calls Try.prog 50 #[.slice A l.length c] w fun e w' => ∃ v, e = .returned v ∧ Kd.R k33 33 w' w.heap.size (fun _ => True) v l ∧ Below w.heap.size w w' := by
  have hu24 := Try.underlying24
  have q24 : ∀ (W : World) (a : Option Addr) (n c n' c' : Nat), (binOp .eql 24 (.slice a n c) (.slice none n' c')).run Try.prog W = .ok (.bool a.isNone) W := fun W a n c n' c' => Lib.run_eql_slice_nil W _ _ a n c n' c' Try.underlying24
  have hmx : l.length ≤ 9223372036854775807 := hr.2.1
  rcases A with _ | ad
  · have h0 : l = [] := by
      rcases l with _ | ⟨x, l⟩
      · rfl
      · obtain ⟨ad, h, _⟩ := hr.2.2 (by simp)
        cases h
    subst h0
    clear hr
    go_enter Try.func50, Try.ntmps50
    go_wp2
    go_ret
    exact ⟨_, rfl, Kd.R_nil _ _ _ _ _, Below.refl _ _⟩
  · have HR := Aside0.mk hr
    clear hr
    go_enter Try.func50, Try.ntmps50
    go_wp2_with (at_builtin; refine Kd.R_append_rows k33 (w0 := w) w.heap.size rfl (.tmp 5) (.tmp 6) 24 33 _ 24 rfl Try.underlying24 info33 rfl (by decide) (by decide) (.slice (some ⟨w.heap.size, 0, none⟩) 0 0) [] l (some ad) l.length c (fun _ => True) (fun _ => False) rfl rfl (R_empty k33 33 w w.heap.size (Nat.le_refl _)) (Kd.C_below HR.out ((Below.refl _ _).alloc (Nat.le_refl _) _)) (fun x cs h => by rw [k33_open h]; exact k33_mkM _ _ _ _) (fun k hk => hk.elim) (fun _ _ => trivial) ((Below.refl _ _).alloc (Nat.le_refl _) _) (by simp) (by simpa using hl) ?_; intro v1 w1 hR hB _ _; have HR1 := Aside0.mk hR; have HB1 := Aside0.mk hB; clear hR hB)
    go_ret
    exact ⟨_, rfl, HR1.out, HB1.out⟩

set_option maxHeartbeats 8000000 in
set_option maxRecDepth 100000 in
/-- The closure of LeaseDrop: the id lies in the box B. -/
theorem drop_pred (id : Int) (B : Nat) (w0 : World) (hB : B < w0.heap.size) (hc : w0.cell? ⟨B, 0, none⟩ = some (.int .i64 id)) : PredOK (fun x => x.f0 == id) 45 #[.pointer (some ⟨B, 0, none⟩)] w0.heap.size w0 := fun W x hb => by
  have hu33 := Try.underlying33
  have hc' : W.cell? ⟨B, 0, none⟩ = some (.int .i64 id) := (hb.cell (p := ⟨B, 0, none⟩) hB).trans hc
  have hBW : B < W.heap.size := Nat.lt_of_lt_of_le hB hb.size
  have hne : B ≠ W.heap.size := by omega
  clear hc hb hB
  show Calls Try.prog 45 #[.agg #[.int .i64 x.f0, .int .i64 x.f1, .int .i64 x.f2], .pointer (some ⟨B, 0, none⟩)] W _
  go_enter Try.func45, Try.ntmps45
  go_wp2
  go_ret
  exact ⟨rfl, (Below.refl _ _).alloc (Nat.le_refl _) _⟩
set_option maxHeartbeats 8000000 in
set_option maxRecDepth 100000 in
/-- The closure of LeaseLive: now lies in the box B. -/
theorem live_pred (now : Int) (B : Nat) (w0 : World) (hB : B < w0.heap.size) (hc : w0.cell? ⟨B, 0, none⟩ = some (.int .i64 now)) : PredOK (fun x => decide (x.f2 ≤ now)) 47 #[.pointer (some ⟨B, 0, none⟩)] w0.heap.size w0 := fun W x hb => by
  have hu33 := Try.underlying33
  have hc' : W.cell? ⟨B, 0, none⟩ = some (.int .i64 now) := (hb.cell (p := ⟨B, 0, none⟩) hB).trans hc
  have hBW : B < W.heap.size := Nat.lt_of_lt_of_le hB hb.size
  have hne : B ≠ W.heap.size := by omega
  clear hc hb hB
  show Calls Try.prog 47 #[.agg #[.int .i64 x.f0, .int .i64 x.f1, .int .i64 x.f2], .pointer (some ⟨B, 0, none⟩)] W _
  go_enter Try.func47, Try.ntmps47
  go_wp2
  go_ret
  exact ⟨rfl, (Below.refl _ _).alloc (Nat.le_refl _) _⟩

def leasesBut.f (k : Nat) (l0 : List S33) (p : S33 → Bool) : Option (List S33) := if (l0.length : Int) > 400 then some [] else (impl_LeasesRight.f k l0).bind fun t => some (if t = true then l0.filter (fun x => !p x) else l0)
set_option maxHeartbeats 8000000 in
set_option maxRecDepth 100000 in
theorem leasesBut.calls (p : S33 → Bool) (gf : Nat) (lb : Array Value) (eg : ∀ args w, (callFunc gf args).run Try.prog w = .ok (.enter gf args) w)
    (k : Nat) (A0 : Option Addr) (c0 : Nat) (l0 : List S33) (r : List S33) (w : World) (hp : PredOK p gf lb w.heap.size w) (hr0 : Kd.C k33 w A0 l0.length l0) (hc0 : l0.length ≤ c0) (h : leasesBut.f k l0 p = some r) :
    Calls Try.prog 44 #[.slice A0 l0.length c0, .func (.func gf) #[] lb] w fun e w' => ∃ v0_ : Value, e = .returned v0_ ∧ Kd.R k33 33 w' w.heap.size (fun _ => True) v0_ r ∧ Below w.heap.size w w' := by
  have hu24 := Try.underlying24
  have HR := Aside0.mk hr0
  have HC := Aside0.mk hc0
  have HP := Aside0.mk hp
  have EG := Aside0.mk eg
  clear hr0 hc0 hp eg
  unfold leasesBut.f at h
  by_cases c1 : (l0.length : Int) > 400
  · rw [if_pos c1] at h
    obtain rfl := Option.some.inj h
    go_enter Try.func44, Try.ntmps44
    go_wp2
    go_ret
    exact ⟨_, rfl, Kd.R_nil _ _ _ _ _, Below.refl _ _⟩
  · rw [if_neg c1] at h
    replace h := Option.bind_eq_some_iff.mp h
    obtain ⟨t, hA, h⟩ := h
    have hA1 := Aside0.mk hA
    have H := Aside0.mk (Option.some.inj h)
    clear hA h
    have hcl := Clone_Lease A0 c0 l0 w HR.out (by omega)
    cases t with
    | false =>
      go_enter Try.func44, Try.ntmps44
      go_wp2_with fail
      refine hcl.mono ?_
      clear hcl
      rintro e w1 ⟨v1, rfl, hR1, hB1⟩
      have HR1 := Aside0.mk hR1
      have HB1 := Aside0.mk hB1
      clear hR1 hB1
      go_wp2_with fail
      refine (impl_LeasesRight.calls k A0 c0 l0 false w1 (Kd.C_below HR.out HB1.out) HC.out hA1.out).mono ?_
      rintro e w2 ⟨rfl, hB2⟩
      have HB2 := Aside0.mk hB2
      clear hB2
      go_wp2
      go_ret
      exact ⟨_, rfl, by rw [← H.out, if_neg (by decide)]; exact Kd.R_below HR1.out HB2.out, below_then HB1.out HB1.out.size HB2.out⟩
    | true =>
      go_enter Try.func44, Try.ntmps44
      go_wp2_with fail
      refine hcl.mono ?_
      clear hcl
      rintro e w1 ⟨v1, rfl, hR1, hB1⟩
      have HR1 := Aside0.mk hR1
      have HB1 := Aside0.mk hB1
      clear hR1 hB1
      go_wp2_with fail
      refine (impl_LeasesRight.calls k A0 c0 l0 true w1 (Kd.C_below HR.out HB1.out) HC.out hA1.out).mono ?_
      rintro e w2 ⟨rfl, hB2⟩
      have HB2 := Aside0.mk hB2
      clear hB2
      have HB3 := Aside0.mk (below_then HB1.out HB1.out.size HB2.out)
      go_wp2_with fail
      refine (DeleteFunc_Lease p gf lb w.heap.size w EG.out HP.out w.heap.size (fun _ => True) v1 l0 w2 (Nat.le_refl _) HB3.out HB3.out.size (Kd.R_below HR1.out HB2.out)).mono ?_
      rintro e w3 ⟨v3, rfl, hR3, hB4⟩
      have HR3 := Aside0.mk hR3
      have HB4 := Aside0.mk hB4
      clear hR3 hB4
      go_wp2
      go_ret
      exact ⟨_, rfl, by rw [← H.out]; simp only [if_true]; exact HR3.out, HB3.out.trans HB4.out⟩

theorem leasesBut.mono (l0 : List S33) (p : S33 → Bool) (k : Nat) : LeO (leasesBut.f k l0 p) (leasesBut.f (k + 1) l0 p) := by
  unfold leasesBut.f
  refine LeO.ite (LeO.refl _) (LeO.bind (impl_LeasesRight.mono _ _) (fun _ => LeO.refl _))


def impl_LeaseDrop.f (k : Nat) (l0 : List S33) (a1 : Int) : Option (List S33) := leasesBut.f k l0 (fun x => x.f0 == a1)
theorem impl_LeaseDrop.mono : ∀ a0 a1 k, LeO (impl_LeaseDrop.f k a0 a1) (impl_LeaseDrop.f (k + 1) a0 a1) := fun a0 _ k => leasesBut.mono a0 _ k
set_option maxHeartbeats 8000000 in
set_option maxRecDepth 100000 in
theorem impl_LeaseDrop.calls (k : Nat) (A0 : Option Addr) (c0 : Nat) (l0 : List S33) (a1 : Int) (r : List S33) (w : World) (hr0 : Kd.C k33 w A0 l0.length l0) (hc0 : l0.length ≤ c0) (h : impl_LeaseDrop.f k l0 a1 = some r) :
    Calls Try.prog 13 #[.slice A0 l0.length c0, .int .i64 a1] w fun e w' => ∃ v0_ : Value, e = .returned v0_ ∧ Kd.R k33 33 w' w.heap.size (fun _ => True) v0_ r ∧ Below w.heap.size w w' := by
  have hcon := leasesBut.calls (fun x => x.f0 == a1) 45 #[.pointer (some ⟨w.heap.size, 0, none⟩)] (fun args w => enters_ Try.func45 (by kernel_rfl) rfl args w) k A0 c0 l0 r (w.alloc (.cells #[.int .i64 a1] 2))
    (drop_pred a1 w.heap.size _ (by simp) (by simp)) (Kd.C_below hr0 ((Below.refl _ _).alloc (Nat.le_refl _) _)) hc0 h
  clear hr0 hc0 h
  go_enter Try.func13, Try.ntmps13
  go_wp2_with fail
  refine hcon.mono ?_
  clear hcon
  rintro e w1 ⟨v1, rfl, hR1, hB1⟩
  have HR1 := Aside0.mk hR1
  have HB1 := Aside0.mk hB1
  clear hR1 hB1
  go_wp2
  go_ret
  exact ⟨_, rfl, Kd.R_lower HR1.out (by simp), ((Below.refl _ _).alloc (Nat.le_refl _) _).trans (HB1.out.mono (by simp))⟩

/-! ### impl_LeaseLive: function 18 -/
def impl_LeaseLive.f (k : Nat) (l0 : List S33) (a1 : Int) : Option (List S33) := leasesBut.f k l0 (fun x => decide (x.f2 ≤ a1))
theorem impl_LeaseLive.mono : ∀ a0 a1 k, LeO (impl_LeaseLive.f k a0 a1) (impl_LeaseLive.f (k + 1) a0 a1) := fun a0 _ k => leasesBut.mono a0 _ k
set_option maxHeartbeats 8000000 in
set_option maxRecDepth 100000 in
theorem impl_LeaseLive.calls (k : Nat) (A0 : Option Addr) (c0 : Nat) (l0 : List S33) (a1 : Int) (r : List S33) (w : World) (hr0 : Kd.C k33 w A0 l0.length l0) (hc0 : l0.length ≤ c0) (h : impl_LeaseLive.f k l0 a1 = some r) :
    Calls Try.prog 18 #[.slice A0 l0.length c0, .int .i64 a1] w fun e w' => ∃ v0_ : Value, e = .returned v0_ ∧ Kd.R k33 33 w' w.heap.size (fun _ => True) v0_ r ∧ Below w.heap.size w w' := by
  have hcon := leasesBut.calls (fun x => decide (x.f2 ≤ a1)) 47 #[.pointer (some ⟨w.heap.size, 0, none⟩)] (fun args w => enters_ Try.func47 (by kernel_rfl) rfl args w) k A0 c0 l0 r (w.alloc (.cells #[.int .i64 a1] 2))
    (live_pred a1 w.heap.size _ (by simp) (by simp)) (Kd.C_below hr0 ((Below.refl _ _).alloc (Nat.le_refl _) _)) hc0 h
  clear hr0 hc0 h
  go_enter Try.func18, Try.ntmps18
  go_wp2_with fail
  refine hcon.mono ?_
  clear hcon
  rintro e w1 ⟨v1, rfl, hR1, hB1⟩
  have HR1 := Aside0.mk hR1
  have HB1 := Aside0.mk hB1
  clear hR1 hB1
  go_wp2
  go_ret
  exact ⟨_, rfl, Kd.R_lower HR1.out (by simp), ((Below.refl _ _).alloc (Nat.le_refl _) _).trans (HB1.out.mono (by simp))⟩

/-! ### impl_Lease: function 50 -/
def impl_Lease.f (l0 : List S33) : Option (List S33) := if l0.length ≤ 5000000000000 then some l0 else none
theorem impl_Lease.calls (A0 : Option Addr) (c0 : Nat) (l0 : List S33) (r : List S33) (w : World) (hr0 : Kd.C k33 w A0 l0.length l0) (hc0 : l0.length ≤ c0) (h : impl_Lease.f l0 = some r) :
    Calls Try.prog 50 #[.slice A0 l0.length c0] w fun e w' => ∃ v0_ : Value, e = .returned v0_ ∧ Kd.R k33 33 w' w.heap.size (fun _ => True) v0_ r ∧ Below w.heap.size w w' := by
  unfold impl_Lease.f at h
  by_cases hl : l0.length ≤ 5000000000000
  · rw [if_pos hl] at h
    obtain rfl := Option.some.inj h
    exact Clone_Lease A0 c0 l0 w hr0 (by omega)
  · rw [if_neg hl] at h
    cases h

end Go.Proofs.Ythpggkpidbieeaa.XFnLeases
