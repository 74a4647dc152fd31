/- WheelNext answers as the reference does, for every wheel, and writes into no argument. Conditions: none beyond the statement's own bounds. -/
import Derived.Test.YtenlceojmjkbkaaBridgeFnExactWheelNext
namespace Go.Proofs.Ytenlceojmjkbkaa.Pure
open Go.RowKit Go.Proofs.Ytenlceojmjkbkaa.XFnExactWheelNext Go.Proofs.Ytenlceojmjkbkaa.BridgeFnExactWheelNext Go.Proofs.YtenlceojmjkbkaaW.PrintWords Go.Proofs.YtenlceojmjkbkaaW.PrintLast Go.Proofs.YtenlceojmjkbkaaW.PrintMore
set_option linter.unusedVariables false
set_option linter.unusedSimpArgs false

theorem wrap_small {x : Int} (h0 : -9223372036854775808 ≤ x) (h1 : x ≤ 9223372036854775807) : wrap64 x = x := by
  unfold wrap64
  omega
theorem i64_range {x : Int} (h : (Lit.int .i64 x).wf = true) : -9223372036854775808 ≤ x ∧ x ≤ 9223372036854775807 := by
  simp [Lit.wf, IntKind.min, IntKind.max, IntKind.bits, IntKind.signed] at h
  omega
theorem u64_range {x : Int} (h : (Lit.int .u64 x).wf = true) : 0 ≤ x ∧ x < 18446744073709551616 := by
  simp [Lit.wf, IntKind.min, IntKind.max, IntKind.bits, IntKind.signed] at h
  omega

theorem in_eq (a b c : Int) : impl_in.f a b c = some (decide (b ≤ a ∧ a ≤ c)) := by
  unfold impl_in.f
  by_cases h : b ≤ a <;> simp [h]

theorem rd150 (xs : List S150) (i : Nat) (h : i < xs.length) : rd_T150 xs (i : Int) = xs[i] := by
  unfold rd_T150
  rw [Int.toNat_natCast, List.getD_eq_getElem?_getD, List.getElem?_eq_getElem h]
  rfl

theorem rd91 (xs : List S91) (i : Nat) (h : i < xs.length) : rd_T91 xs (i : Int) = xs[i] := by
  unfold rd_T91
  rw [Int.toNat_natCast, List.getD_eq_getElem?_getD, List.getElem?_eq_getElem h]
  rfl

theorem set_fill {α β : Type} (l : List α) (f : α → β) (z : β) (i : Nat) (h : i < l.length) : ((l.take i).map f ++ List.replicate (l.length - i) z).set i (f l[i]) = (l.take (i + 1)).map f ++ List.replicate (l.length - (i + 1)) z := by
  have e : l.length - i = (l.length - (i + 1)) + 1 := by omega
  have hl : ((l.take i).map f).length = i := by simp; omega
  rw [e, List.replicate_succ, List.set_append_right i (f l[i]) (by omega), hl, Nat.sub_self, List.set_cons_zero, List.take_succ_eq_append_getElem h, List.map_append]
  simp
theorem succ_cast (i : Nat) (h : i < 9223372036854775807) : wrap64 ((i : Int) + 1) = ((i + 1 : Nat) : Int) := by
  rw [wrap_small (by omega) (by omega)]
  omega

theorem pred_cast (i : Nat) (h : 0 < i) (h2 : i < 9223372036854775807) : wrap64 ((i : Int) - 1) = ((i - 1 : Nat) : Int) := by
  rw [wrap_small (by omega) (by omega)]
  omega

def convTimer (x : S150) : S91 := ⟨x.f0, x.f1⟩
theorem toTimerS_loop (l : List S150) (hl : l.length * 16 ≤ 140737488351232) : ∀ (d k i : Nat), l.length - i = d → i ≤ l.length → d < k → laws_toTimerS.l0 k l ((l.take i).map convTimer ++ List.replicate (l.length - i) z91) (i : Int) = some (l.map convTimer) := by
  intro d
  induction d with
  | zero =>
    intro k i hd hi hk
    obtain ⟨k, rfl⟩ : ∃ m, k = m + 1 := ⟨k - 1, by omega⟩
    obtain rfl : i = l.length := by omega
    simp only [laws_toTimerS.l0]
    rw [if_neg (by omega)]
    simp
  | succ d ih =>
    intro k i hd hi hk
    obtain ⟨k, rfl⟩ : ∃ m, k = m + 1 := ⟨k - 1, by omega⟩
    have hlt : i < l.length := by omega
    simp only [laws_toTimerS.l0]
    rw [if_pos (by omega), if_pos (by omega)]
    simp only [laws_toTimer.f, Option.bind_some, rd150 l i hlt]
    rw [if_pos (by simp; omega), Int.toNat_natCast, succ_cast i (by omega)]
    have e := set_fill l convTimer z91 i hlt
    rw [show (⟨l[i].f0, l[i].f1⟩ : S91) = convTimer l[i] from rfl, e]
    exact ih k (i + 1) (by omega) (by omega) (by omega)
theorem toTimerS_eq (l : List S150) (hl : l.length * 16 ≤ 140737488351232) (k : Nat) (hk : l.length < k) : laws_toTimerS.f k l = some (l.map convTimer) := by
  unfold laws_toTimerS.f
  rw [if_pos (by omega), if_pos (by simp; omega)]
  have h := toTimerS_loop l hl l.length k 0 (by omega) (by omega) hk
  simpa using h

theorem eqTimer_same (x : S91) : laws_eqTimer.f (x.f0) (x.f1) (x.f0) (x.f1) = some true := by simp [laws_eqTimer.f]
theorem eqTimerS_loop (l : List S91) (hl : l.length < 9223372036854775807) : ∀ (d k i : Nat), l.length - i = d → i ≤ l.length → d < k → laws_eqTimerS.l0 k l l (i : Int) = some true := by
  intro d
  induction d with
  | zero =>
    intro k i hd hi hk
    obtain ⟨k, rfl⟩ : ∃ m, k = m + 1 := ⟨k - 1, by omega⟩
    simp only [laws_eqTimerS.l0]
    rw [if_neg (by omega)]
  | succ d ih =>
    intro k i hd hi hk
    obtain ⟨k, rfl⟩ : ∃ m, k = m + 1 := ⟨k - 1, by omega⟩
    have hlt : i < l.length := by omega
    simp only [laws_eqTimerS.l0]
    rw [if_pos (by omega), if_pos (by omega), if_pos (by omega), eqTimer_same]
    simp only [Option.bind_some, if_true]
    rw [succ_cast i (by omega)]
    exact ih k (i + 1) (by omega) (by omega) (by omega)
theorem eqTimerS_same (l : List S91) (hl : l.length < 9223372036854775807) (k : Nat) (hk : l.length < k) : laws_eqTimerS.f k l l = some true := by
  unfold laws_eqTimerS.f
  rw [if_pos rfl]
  exact eqTimerS_loop l hl l.length k 0 (by omega) (by omega) hk

/-! ### What holds from some number of rounds on -/
def Ev {α : Type} (f : Nat → Option α) (r : α) : Prop := ∃ c, ∀ k, c ≤ k → f k = some r
theorem ev_const {α : Type} {v : Option α} {r : α} (h : v = some r) : Ev (fun _ => v) r := ⟨0, fun _ _ => h⟩
theorem ev_from {α : Type} {f : Nat → Option α} {r : α} (c : Nat) (h : ∀ k, c ≤ k → f k = some r) : Ev f r := ⟨c, h⟩
theorem ev_succ {α : Type} {f : Nat → Option α} {r : α} (h : Ev (fun k => f (k + 1)) r) : Ev f r := by
  obtain ⟨c, h⟩ := h
  refine ⟨c + 1, fun k hk => ?_⟩
  obtain ⟨m, rfl⟩ : ∃ m, k = m + 1 := ⟨k - 1, by omega⟩
  exact h m (by omega)
theorem ev_bind {α β : Type} {f : Nat → Option α} {g : Nat → α → Option β} {a : α} {b : β} (hf : Ev f a) (hg : Ev (fun k => g k a) b) : Ev (fun k => (f k).bind (g k)) b := by
  obtain ⟨c, hc⟩ := hf
  obtain ⟨d, hd⟩ := hg
  refine ⟨max c d, fun k hk => ?_⟩
  simp only []
  rw [hc k (by omega), Option.bind_some]
  exact hd k (by omega)
theorem ev_get {α : Type} {f : Nat → Option α} {r : α} (h : Ev f r) : ∃ k, f k = some r := ⟨h.choose, h.choose_spec _ (Nat.le_refl _)⟩
theorem ev_yes {α : Type} {c : Prop} [Decidable c] {f g : Nat → Option α} {r : α} (h : c) (he : Ev f r) : Ev (fun k => if c then f k else g k) r := by simp only [h, if_true]; exact he
theorem ev_no {α : Type} {c : Prop} [Decidable c] {f g : Nat → Option α} {r : α} (h : ¬ c) (he : Ev g r) : Ev (fun k => if c then f k else g k) r := by simp only [h, if_false]; exact he
/-- A test of i, i + 1, .. -/
def allFrom (p : Nat → Bool) (i N : Nat) : Bool := (List.range' i (N - i)).all p
theorem allFrom_end (p : Nat → Bool) (N : Nat) : allFrom p N N = true := by simp [allFrom]
theorem allFrom_step (p : Nat → Bool) {i N : Nat} (h : i < N) : allFrom p i N = (p i && allFrom p (i + 1) N) := by
  unfold allFrom
  rw [show N - i = (N - (i + 1)) + 1 by omega, List.range'_succ, List.all_cons]
theorem allFrom_iff (p : Nat → Bool) (N : Nat) : allFrom p 0 N = true ↔ ∀ j, j < N → p j = true := by
  unfold allFrom
  rw [List.all_eq_true]
  exact ⟨fun h j hj => h j (by simp [List.mem_range'_1]; omega), fun h j hj => h j (by simp [List.mem_range'_1] at hj; omega)⟩
theorem ev_scan {F : Nat → Nat → Option Bool} (N : Nat) (p : Nat → Bool) (r : Bool) (hend : Ev (fun k => F k N) r)
    (hstep : ∀ i, i < N → ∀ b, Ev (fun k => F k (i + 1)) b → Ev (fun k => F k i) (p i && b)) : ∀ d i, N - i = d → i ≤ N → Ev (fun k => F k i) (allFrom p i N && r) := by
  intro d
  induction d with
  | zero =>
    intro i hd hi
    obtain rfl : i = N := by omega
    rw [allFrom_end, Bool.true_and]
    exact hend
  | succ d ih =>
    intro i hd hi
    rw [allFrom_step p (by omega), Bool.and_assoc]
    exact hstep i (by omega) _ (ih (i + 1) (by omega) (by omega))

/-! ### The reference's test -/
def befP (a b : S91) : Prop := a.f1 < b.f1 ∨ a.f1 = b.f1 ∧ a.f0 < b.f0
instance (a b : S91) : Decidable (befP a b) := by unfold befP; exact inferInstance
theorem before_eq (a b : S91) : spec_l08Before.f a.f0 a.f1 b.f0 b.f1 = some (decide (befP a b)) := by
  unfold spec_l08Before.f befP
  by_cases h1 : a.f1 < b.f1
  · simp [h1]
  · by_cases h2 : a.f1 = b.f1
    · simp [h2]
    · simp [h1, h2]
def pS3 (now : Int) (far : List S91) (i : Nat) : Bool := decide (now + 16 < (rd_T91 far i).f1) && (decide (i = 0) || decide (befP (rd_T91 far ((i - 1 : Nat) : Int)) (rd_T91 far i)))
theorem spec_l5 (now : Int) (near : List (List S91)) (far : List S91) (hw : wrap64 (now + 16) = now + 16) (hf : far.length ≤ 1048576) : Ev (fun k => spec_WheelRight.l5 k 0 now near far) (allFrom (pS3 now far) 0 far.length) := by
  have h := ev_scan (F := fun k i => spec_WheelRight.l5 k (i : Int) now near far) far.length (pS3 now far) true ?_ ?_ far.length 0 (by omega) (by omega)
  · simpa using h
  · refine ev_succ ?_
    simp only [spec_WheelRight.l5, show ¬ ((far.length : Int) < (far.length : Int)) by omega, if_false]
    exact ev_const rfl
  · intro i hi b hb
    have a1 : (i : Int) < (far.length : Int) := by omega
    have a2 : (0 : Int) ≤ (i : Int) := by omega
    refine ev_succ ?_
    by_cases c1 : (rd_T91 far i).f1 ≤ now + 16
    · simp only [spec_WheelRight.l5, a1, a2, if_true, hw, c1]
      rw [show pS3 now far i = false by unfold pS3; rw [decide_eq_false (by omega)]; rfl]
      exact ev_const rfl
    · by_cases h0 : (i : Int) > 0
      · have a3 : (0 : Int) ≤ ((i - 1 : Nat) : Int) := by omega
        have a4 : ((i - 1 : Nat) : Int) < (far.length : Int) := by omega
        simp only [spec_WheelRight.l5, a1, a2, if_true, hw, c1, if_false, h0, pred_cast i (by omega) (by omega), a3, a4, before_eq, Option.bind_some, succ_cast i (by omega)]
        rw [show pS3 now far i = decide (befP (rd_T91 far ((i - 1 : Nat) : Int)) (rd_T91 far i)) by unfold pS3; rw [decide_eq_true (by omega), decide_eq_false (show ¬ i = 0 by omega)]; rfl]
        by_cases c2 : befP (rd_T91 far ((i - 1 : Nat) : Int)) (rd_T91 far i)
        · simp only [c2, decide_true, if_true, Bool.true_and]
          exact hb
        · simp only [c2, decide_false, Bool.false_and]
          exact ev_const rfl
      · simp only [spec_WheelRight.l5, a1, a2, if_true, hw, c1, if_false, h0, succ_cast i (by omega)]
        rw [show pS3 now far i = true by unfold pS3; rw [decide_eq_true (by omega), decide_eq_true (show i = 0 by omega)]; rfl]
        exact hb
def pS2 (now : Int) (m : Nat) (l : List S91) (i : Nat) : Bool := decide ((rd_T91 l i).f1 ≤ now + 16) && (decide (Int.tmod (rd_T91 l i).f1 16 = (m : Int)) && (decide (i = 0) || decide ((rd_T91 l ((i - 1 : Nat) : Int)).f0 < (rd_T91 l i).f0)))
theorem spec_l4 (now : Int) (near : List (List S91)) (far : List S91) (hw : wrap64 (now + 16) = now + 16) (m : Nat) (hm : m < near.length) (hn : near.length ≤ 1048576) (hl : (rd_L4 near (m : Int)).length ≤ 1048576) (r : Bool) (hr : Ev (fun k => spec_WheelRight.l3 k ((m + 1 : Nat) : Int) now near far) r) :
    Ev (fun k => spec_WheelRight.l4 k (m : Int) 0 now near far) (allFrom (pS2 now m (rd_L4 near (m : Int))) 0 (rd_L4 near (m : Int)).length && r) := by
  have b1 : (0 : Int) ≤ (m : Int) := by omega
  have b2 : (m : Int) < (near.length : Int) := by omega
  refine ev_scan (F := fun k i => spec_WheelRight.l4 k (m : Int) (i : Int) now near far) _ (pS2 now m (rd_L4 near (m : Int))) r ?_ ?_ _ 0 rfl (by omega)
  · refine ev_succ ?_
    simp only [spec_WheelRight.l4, b1, b2, if_true, show ¬ (((rd_L4 near (m : Int)).length : Int) < ((rd_L4 near (m : Int)).length : Int)) by omega, if_false, succ_cast m (by omega)]
    exact hr
  · intro i hi b hb
    have a1 : (i : Int) < ((rd_L4 near (m : Int)).length : Int) := by omega
    have a2 : (0 : Int) ≤ (i : Int) := by omega
    refine ev_succ ?_
    by_cases c1 : (rd_T91 (rd_L4 near (m : Int)) i).f1 > now + 16
    · simp only [spec_WheelRight.l4, b1, b2, a1, a2, if_true, hw, c1]
      rw [show pS2 now m (rd_L4 near (m : Int)) i = false by unfold pS2; rw [decide_eq_false (by omega)]; rfl]
      exact ev_const rfl
    · by_cases c2 : Int.tmod (rd_T91 (rd_L4 near (m : Int)) i).f1 16 = (m : Int)
      · by_cases h0 : (i : Int) > 0
        · have a3 : (0 : Int) ≤ ((i - 1 : Nat) : Int) := by omega
          have a4 : ((i - 1 : Nat) : Int) < ((rd_L4 near (m : Int)).length : Int) := by omega
          simp only [spec_WheelRight.l4, b1, b2, a1, a2, if_true, hw, c1, if_false, c2, h0, pred_cast i (by omega) (by omega), a3, a4, succ_cast i (by omega)]
          rw [show pS2 now m (rd_L4 near (m : Int)) i = decide ((rd_T91 (rd_L4 near (m : Int)) ((i - 1 : Nat) : Int)).f0 < (rd_T91 (rd_L4 near (m : Int)) i).f0) by unfold pS2; rw [decide_eq_true (show (rd_T91 (rd_L4 near (m : Int)) i).f1 ≤ now + 16 by omega), decide_eq_true c2, decide_eq_false (show ¬ i = 0 by omega)]; rfl]
          by_cases c3 : (rd_T91 (rd_L4 near (m : Int)) i).f0 ≤ (rd_T91 (rd_L4 near (m : Int)) ((i - 1 : Nat) : Int)).f0
          · simp only [c3, if_true]
            rw [decide_eq_false (by omega)]
            exact ev_const rfl
          · simp only [c3, if_false]
            rw [decide_eq_true (by omega)]
            exact hb
        · simp only [spec_WheelRight.l4, b1, b2, a1, a2, if_true, hw, c1, if_false, c2, h0, succ_cast i (by omega)]
          rw [show pS2 now m (rd_L4 near (m : Int)) i = true by unfold pS2; rw [decide_eq_true (show (rd_T91 (rd_L4 near (m : Int)) i).f1 ≤ now + 16 by omega), decide_eq_true c2, decide_eq_true (show i = 0 by omega)]; rfl]
          exact hb
      · simp only [spec_WheelRight.l4, b1, b2, a1, a2, if_true, hw, c1, if_false, c2]
        rw [show pS2 now m (rd_L4 near (m : Int)) i = false by unfold pS2; rw [decide_eq_false c2]; simp]
        exact ev_const rfl
def nearS (now : Int) (near : List (List S91)) (m : Nat) : Bool := allFrom (pS2 now m (rd_L4 near (m : Int))) 0 (rd_L4 near (m : Int)).length
theorem spec_l3 (now : Int) (near : List (List S91)) (far : List S91) (hw : wrap64 (now + 16) = now + 16) (hn : near.length ≤ 1048576) (hl : ∀ m, m < near.length → (rd_L4 near (m : Int)).length ≤ 1048576) (hf : far.length ≤ 1048576) :
    Ev (fun k => spec_WheelRight.l3 k 0 now near far) (allFrom (nearS now near) 0 near.length && allFrom (pS3 now far) 0 far.length) := by
  refine ev_scan (F := fun k i => spec_WheelRight.l3 k (i : Int) now near far) _ (nearS now near) _ ?_ ?_ _ 0 rfl (by omega)
  · refine ev_succ ?_
    simp only [spec_WheelRight.l3, show ¬ ((near.length : Int) < (near.length : Int)) by omega, if_false]
    exact spec_l5 now near far hw hf
  · intro m hm b hb
    refine ev_succ ?_
    simp only [spec_WheelRight.l3, show (m : Int) < (near.length : Int) by omega, if_true]
    exact spec_l4 now near far hw m hm hn (hl m hm) b hb
def okT (now : Int) (x : S91) : Bool := decide (1 ≤ x.f0 ∧ x.f0 ≤ 1000000) && (decide (now < x.f1) && decide (x.f1 ≤ 1000000))
def neP (all : List S91) (i q : Nat) : Bool := decide ((rd_T91 all q).f0 ≠ (rd_T91 all i).f0)
theorem spec_l2 (now : Int) (near : List (List S91)) (far all : List S91) (ha : all.length ≤ 1048576) (i : Nat) (hi : i < all.length) (r : Bool) (hr : Ev (fun k => spec_WheelRight.l1 k all ((i + 1 : Nat) : Int) now near far) r) :
    Ev (fun k => spec_WheelRight.l2 k all (i : Int) 0 now near far) (allFrom (neP all i) 0 i && r) := by
  refine ev_scan (F := fun k q => spec_WheelRight.l2 k all (i : Int) (q : Int) now near far) _ (neP all i) r ?_ ?_ _ 0 rfl (by omega)
  · refine ev_succ ?_
    simp only [spec_WheelRight.l2, show ¬ ((i : Int) < (i : Int)) by omega, if_false, succ_cast i (by omega)]
    exact hr
  · intro q hq b hb
    refine ev_succ ?_
    simp only [spec_WheelRight.l2, show (q : Int) < (i : Int) by omega, show (0 : Int) ≤ (q : Int) by omega, show (q : Int) < (all.length : Int) by omega, show (0 : Int) ≤ (i : Int) by omega, show (i : Int) < (all.length : Int) by omega, if_true, succ_cast q (by omega)]
    by_cases c : (rd_T91 all q).f0 = (rd_T91 all i).f0
    · simp only [c, if_true]
      rw [show neP all i q = false by unfold neP; exact decide_eq_false (fun h => h c)]
      exact ev_const rfl
    · simp only [c, if_false]
      rw [show neP all i q = true by unfold neP; exact decide_eq_true c]
      exact hb
theorem spec_j3 (now : Int) (near : List (List S91)) (far all : List S91) (ha : all.length ≤ 1048576) (i : Nat) (hi : i < all.length) (r f : Bool) (hr : Ev (fun k => spec_WheelRight.l1 k all ((i + 1 : Nat) : Int) now near far) r) :
    Ev (fun k => spec_WheelRight.j3 k all (i : Int) f now near far) (!f && (allFrom (neP all i) 0 i && r)) := by
  refine ev_succ ?_
  cases f with
  | true => simp only [spec_WheelRight.j3, if_true]; exact ev_const rfl
  | false => simp only [spec_WheelRight.j3, Bool.false_eq_true, if_false]; exact spec_l2 now near far all ha i hi r hr
theorem l02_eq (a : Int) : spec_l02Id.f a = some (decide (1 ≤ a ∧ a ≤ 1000000)) := by
  unfold spec_l02Id.f
  by_cases h : a ≥ 1
  · rw [if_pos h]; simp; omega
  · rw [if_neg h]; simp; omega
theorem spec_l1 (now : Int) (near : List (List S91)) (far all : List S91) (hw : wrap64 (now + 16) = now + 16) (hn : near.length ≤ 1048576) (hl : ∀ m, m < near.length → (rd_L4 near (m : Int)).length ≤ 1048576) (hf : far.length ≤ 1048576) (ha : all.length ≤ 1048576) :
    Ev (fun k => spec_WheelRight.l1 k all 0 now near far) (allFrom (fun i => okT now (rd_T91 all i) && allFrom (neP all i) 0 i) 0 all.length && (allFrom (nearS now near) 0 near.length && allFrom (pS3 now far) 0 far.length)) := by
  refine ev_scan (F := fun k i => spec_WheelRight.l1 k all (i : Int) now near far) _ (fun i => okT now (rd_T91 all i) && allFrom (neP all i) 0 i) _ ?_ ?_ _ 0 rfl (by omega)
  · refine ev_succ ?_
    simp only [spec_WheelRight.l1, show ¬ ((all.length : Int) < (all.length : Int)) by omega, if_false]
    exact spec_l3 now near far hw hn hl hf
  · intro i hi b hb
    refine ev_succ ?_
    have J := fun f => spec_j3 now near far all ha i hi b f hb
    simp only [spec_WheelRight.l1, show (i : Int) < (all.length : Int) by omega, show (0 : Int) ≤ (i : Int) by omega, if_true, l02_eq, Option.bind_some]
    generalize rd_T91 all (i : Int) = x at *
    unfold okT
    rw [Bool.and_assoc]
    by_cases c1 : 1 ≤ x.f0 ∧ x.f0 ≤ 1000000
    · simp only [c1, and_self, decide_true, if_true, Bool.true_and]
      by_cases c2 : x.f1 ≤ now
      · simp only [c2, if_true]
        rw [decide_eq_false (show ¬ now < x.f1 by omega)]
        exact J true
      · simp only [c2, if_false]
        rw [decide_eq_true (show now < x.f1 by omega), Bool.true_and, show decide (x.f1 ≤ 1000000) = !decide (x.f1 > 1000000) by rw [← decide_not]; exact decide_eq_decide.2 (by omega)]
        exact J _
    · rw [decide_eq_false c1]
      simp only [Bool.false_eq_true, if_false, Bool.false_and]
      exact J true
theorem all_l0 (now : Int) (near : List (List S91)) (far : List S91) (hn : near.length ≤ 1048576) (hs : near.flatten.length ≤ 1048576) (hf : far.length ≤ 1048576) :
    ∀ d i : Nat, near.length - i = d → i ≤ near.length → Ev (fun k => spec_l08All.l0 k ((near.take i).flatten) (i : Int) now near far) (near.flatten ++ far) := by
  intro d
  induction d with
  | zero =>
    intro i hd hi
    obtain rfl : i = near.length := by omega
    refine ev_succ ?_
    simp only [spec_l08All.l0, show ¬ ((near.length : Int) < (near.length : Int)) by omega, if_false, List.take_length]
    rw [if_pos (by omega)]
    exact ev_const rfl
  | succ d ih =>
    intro i hd hi
    refine ev_succ ?_
    have e := flat_take near (i := i) (by omega)
    have h1 := flat_le near (i + 1)
    rw [e, List.length_append] at h1
    simp only [spec_l08All.l0, show (i : Int) < (near.length : Int) by omega, show (0 : Int) ≤ (i : Int) by omega, if_true, show (near.take i).flatten.length + (rd_L4 near (i : Int)).length < 8796093022208 by omega, ← e, succ_cast i (by omega)]
    exact ih (i + 1) (by omega) (by omega)
theorem all_eq (now : Int) (near : List (List S91)) (far : List S91) (hn : near.length ≤ 1048576) (hs : near.flatten.length ≤ 1048576) (hf : far.length ≤ 1048576) : Ev (fun k => spec_l08All.f k now near far) (near.flatten ++ far) := by
  have h := all_l0 now near far hn hs hf near.length 0 rfl (by omega)
  simpa [spec_l08All.f] using h
def spR (now : Int) (near : List (List S91)) (far : List S91) : Bool := allFrom (fun i => okT now (rd_T91 (near.flatten ++ far) i) && allFrom (neP (near.flatten ++ far) i) 0 i) 0 (near.flatten ++ far).length && (allFrom (nearS now near) 0 near.length && allFrom (pS3 now far) 0 far.length)
theorem spec_l0 (now : Int) (near : List (List S91)) (far : List S91) (hw : wrap64 (now + 16) = now + 16) (hn : near.length ≤ 1048576) (hs : near.flatten.length ≤ 1048576) (hl : ∀ m, m < near.length → (rd_L4 near (m : Int)).length ≤ 1048576) (hf : far.length ≤ 1048576) :
    ∀ d i : Nat, near.length - i = d → i ≤ near.length → Ev (fun k => spec_WheelRight.l0 k ((far.length + (near.take i).flatten.length : Nat) : Int) (i : Int) now near far) (decide (far.length + near.flatten.length ≤ 100) && spR now near far) := by
  intro d
  induction d with
  | zero =>
    intro i hd hi
    obtain rfl : i = near.length := by omega
    refine ev_succ ?_
    simp only [spec_WheelRight.l0, show ¬ ((near.length : Int) < (near.length : Int)) by omega, if_false, List.take_length]
    by_cases c : far.length + near.flatten.length ≤ 100
    · simp only [show ¬ (((far.length + near.flatten.length : Nat) : Int) > 100) by omega, if_false]
      rw [decide_eq_true c, Bool.true_and]
      refine ev_bind (all_eq now near far hn hs hf) ?_
      exact spec_l1 now near far (near.flatten ++ far) hw hn hl hf (by rw [List.length_append]; omega)
    · simp only [show ((far.length + near.flatten.length : Nat) : Int) > 100 by omega, if_true]
      rw [decide_eq_false c]
      exact ev_const rfl
  | succ d ih =>
    intro i hd hi
    refine ev_succ ?_
    have e := flat_take near (i := i) (by omega)
    have e2 := congrArg List.length e
    have h1 := flat_le near (i + 1)
    rw [List.length_append] at e2
    have hsum : wrap64 (((far.length + (near.take i).flatten.length : Nat) : Int) + ((rd_L4 near (i : Int)).length : Int)) = ((far.length + (near.take (i + 1)).flatten.length : Nat) : Int) := by
      rw [e2]; rw [wrap_small (by omega) (by omega)]; omega
    simp only [spec_WheelRight.l0, show (i : Int) < (near.length : Int) by omega, show (0 : Int) ≤ (i : Int) by omega, if_true, hsum, succ_cast i (by omega)]
    exact ih (i + 1) (by omega) (by omega)
def okNow (now : Int) (near : List (List S91)) : Bool := decide (0 ≤ now ∧ now ≤ 1000000) && decide (near.length = 16)
theorem spec_wheel (now : Int) (near : List (List S91)) (far : List S91) (hn : near.length ≤ 1048576) (hs : near.flatten.length ≤ 1048576) (hl : ∀ m, m < near.length → (rd_L4 near (m : Int)).length ≤ 1048576) (hf : far.length ≤ 1048576) :
    Ev (fun k => spec_WheelRight.f k now near far) (okNow now near && (decide (far.length + near.flatten.length ≤ 100) && spR now near far)) := by
  unfold spec_WheelRight.f spec_l07Time.f okNow
  have J1 : Ev (fun k => spec_WheelRight.j0 k true now near far) false := by
    refine ev_succ ?_
    simp only [spec_WheelRight.j0, if_true]
    exact ev_const rfl
  by_cases h0 : now ≥ 0
  · simp only [if_pos h0, Option.bind_some]
    by_cases h1 : now ≤ 1000000
    · rw [decide_eq_true (show 0 ≤ now ∧ now ≤ 1000000 from ⟨h0, h1⟩), decide_eq_true h1, Bool.true_and]
      simp only [if_true]
      by_cases c : near.length = 16
      · rw [decide_eq_true c, Bool.true_and, show ((near.length : Int) != 16) = false by rw [c]; rfl]
        refine ev_succ ?_
        simp only [spec_WheelRight.j0, Bool.false_eq_true, if_false]
        have := spec_l0 now near far (wrap_small (by omega) (by omega)) hn hs hl hf near.length 0 rfl (by omega)
        simpa using this
      · rw [decide_eq_false c, show ((near.length : Int) != 16) = true by simp; omega]
        exact J1
    · rw [decide_eq_false (show ¬ (0 ≤ now ∧ now ≤ 1000000) from fun h => h1 h.2), decide_eq_false h1]
      simp only [Bool.false_eq_true, if_false]
      exact J1
  · simp only [if_neg h0, Option.bind_some, Bool.false_eq_true, if_false]
    rw [decide_eq_false (show ¬ (0 ≤ now ∧ now ≤ 1000000) from fun h => h0 h.1)]
    exact J1

/-! ### The program's test -/
theorem isTime_eq (a : Int) : impl_isTime.f a = some (decide (0 ≤ a ∧ a ≤ 1000000)) := by simp [impl_isTime.f, in_eq]
theorem isTid_eq (a : Int) : impl_isId.f a = some (decide (1 ≤ a ∧ a ≤ 1000000)) := by simp [impl_isId.f, in_eq]
theorem compare_eq (x y : Int) : cmp_Compare_int64.f x y = some (cmpI x y) := cmpI_eq x y
theorem byTime_eq (a b : S91) : ∃ v : Int, (v < 0 ↔ befP a b) ∧ Ev (fun k => impl_byTime.f k a.f0 a.f1 b.f0 b.f1) v := by
  unfold impl_byTime.f
  simp only [compare_eq, Option.bind_some]
  have w1 : wrap64 (0 + 1) = 1 := (wrap_small (by omega) (by omega)).trans rfl
  have w2 : wrap64 (1 + 1) = 2 := (wrap_small (by omega) (by omega)).trans rfl
  have z : cmpI a.f1 b.f1 = 0 ↔ a.f1 = b.f1 := by unfold cmpI; split <;> (try split) <;> omega
  have n0 : cmpI a.f1 b.f1 < 0 ↔ a.f1 < b.f1 := by unfold cmpI; split <;> (try split) <;> omega
  have n1 : cmpI a.f0 b.f0 < 0 ↔ a.f0 < b.f0 := by unfold cmpI; split <;> (try split) <;> omega
  have z1 : cmpI a.f0 b.f0 = 0 ↔ a.f0 = b.f0 := by unfold cmpI; split <;> (try split) <;> omega
  have r0 : rd [cmpI a.f1 b.f1, cmpI a.f0 b.f0] 0 = cmpI a.f1 b.f1 := rfl
  have r1 : rd [cmpI a.f1 b.f1, cmpI a.f0 b.f0] 1 = cmpI a.f0 b.f0 := rfl
  have l2 : (([cmpI a.f1 b.f1, cmpI a.f0 b.f0] : List Int).length : Int) = 2 := rfl
  generalize cmpI a.f1 b.f1 = p at *
  generalize cmpI a.f0 b.f0 = q at *
  refine ⟨if p = 0 then q else p, ?_, ?_⟩
  · unfold befP
    split
    · rename_i h
      rw [n1]; have := z.1 h; omega
    · rename_i h
      rw [n0]; have : ¬ a.f1 = b.f1 := fun e => h (z.2 e)
      omega
  · refine ev_bind (g := fun _ t => some t) (a := if p = 0 then q else p) ?_ (ev_const rfl)
    unfold cmp_Or_int.f
    refine ev_succ ?_
    simp only [cmp_Or_int.l0, l2, r0, show (0 : Int) < 2 by omega, show (0 : Int) ≤ 0 by omega, if_true]
    by_cases hp : p = 0
    · simp only [hp, if_true, w1]
      refine ev_succ ?_
      simp only [cmp_Or_int.l0, show (1 : Int) < 2 by omega, show (0 : Int) ≤ 1 by omega, if_true]
      rw [hp] at r1 l2
      simp only [l2, show (1 : Int) < 2 by omega, if_true, r1]
      by_cases hq : q = 0
      · simp only [hq, if_true, w2]
        refine ev_succ ?_
        simp only [cmp_Or_int.l0, show ¬ ((2 : Int) < 2) by omega, if_false]
        exact ev_const rfl
      · simp only [hq, if_false]
        exact ev_const rfl
    · simp only [hp, if_false]
      exact ev_const rfl
def pI3 (s : List S91) (i : Nat) : Bool := decide (1 ≤ (rd_T91 s i).f0 ∧ (rd_T91 s i).f0 ≤ 1000000) && (decide (i = 0) || decide ((rd_T91 s ((i - 1 : Nat) : Int)).f0 ≠ (rd_T91 s i).f0))
theorem impl_l3 (s : List S91) (hs : s.length ≤ 1048576) : Ev (fun k => impl_WheelRight.l3 k s s (s.length : Int) 0) (allFrom (pI3 s) 0 s.length) := by
  have h := ev_scan (F := fun k i => impl_WheelRight.l3 k s s (s.length : Int) (i : Int)) s.length (pI3 s) true ?_ ?_ s.length 0 (by omega) (by omega)
  · simpa using h
  · refine ev_succ ?_
    simp only [impl_WheelRight.l3, show ¬ ((s.length : Int) < (s.length : Int)) by omega, if_false]
    exact ev_const rfl
  · intro i hi b hb
    refine ev_succ ?_
    by_cases c1 : 1 ≤ (rd_T91 s i).f0 ∧ (rd_T91 s i).f0 ≤ 1000000
    · by_cases h0 : (i : Int) > 0
      · simp only [impl_WheelRight.l3, show (i : Int) < (s.length : Int) by omega, show (0 : Int) ≤ (i : Int) by omega, if_true, isTid_eq, Option.bind_some, decide_eq_true c1, h0, pred_cast i (by omega) (by omega), show (0 : Int) ≤ ((i - 1 : Nat) : Int) by omega, show ((i - 1 : Nat) : Int) < (s.length : Int) by omega, succ_cast i (by omega)]
        rw [show pI3 s i = decide ((rd_T91 s ((i - 1 : Nat) : Int)).f0 ≠ (rd_T91 s i).f0) by unfold pI3; rw [decide_eq_true c1, decide_eq_false (show ¬ i = 0 by omega)]; rfl]
        by_cases c3 : (rd_T91 s ((i - 1 : Nat) : Int)).f0 = (rd_T91 s i).f0
        · simp only [c3, if_true]
          rw [decide_eq_false (fun h => h rfl)]
          exact ev_const rfl
        · simp only [c3, if_false]
          rw [decide_eq_true c3]
          exact hb
      · simp only [impl_WheelRight.l3, show (i : Int) < (s.length : Int) by omega, show (0 : Int) ≤ (i : Int) by omega, if_true, isTid_eq, Option.bind_some, decide_eq_true c1, h0, if_false, succ_cast i (by omega)]
        rw [show pI3 s i = true by unfold pI3; rw [decide_eq_true c1, decide_eq_true (show i = 0 by omega)]; rfl]
        exact hb
    · simp only [impl_WheelRight.l3, show (i : Int) < (s.length : Int) by omega, show (0 : Int) ≤ (i : Int) by omega, if_true, isTid_eq, Option.bind_some, decide_eq_false c1, Bool.false_eq_true, if_false]
      rw [show pI3 s i = false by unfold pI3; rw [decide_eq_false c1]; rfl]
      exact ev_const rfl
def pI2 (now : Int) (far : List S91) (i : Nat) : Bool := decide (now + 17 ≤ (rd_T91 far i).f1 ∧ (rd_T91 far i).f1 ≤ 1000000) && (decide (i = 0) || decide (befP (rd_T91 far ((i - 1 : Nat) : Int)) (rd_T91 far i)))
def srt3 (near : List (List S91)) (far : List S91) : Bool := allFrom (pI3 (sortL cfId (near.flatten ++ far))) 0 (near.flatten ++ far).length
theorem impl_l2 (now : Int) (near : List (List S91)) (far : List S91) (hw : wrap64 (wrap64 (now + 16) + 1) = now + 17) (hs : near.flatten.length ≤ 1048576) (hf : far.length ≤ 1048576) :
    Ev (fun k => impl_WheelRight.l2 k ((far.length + near.flatten.length : Nat) : Int) far (far.length : Int) 0 now near far) (allFrom (pI2 now far) 0 far.length && (decide (far.length + near.flatten.length ≤ 100) && srt3 near far)) := by
  refine ev_scan (F := fun k i => impl_WheelRight.l2 k ((far.length + near.flatten.length : Nat) : Int) far (far.length : Int) (i : Int) now near far) far.length (pI2 now far) _ ?_ ?_ _ 0 rfl (by omega)
  · refine ev_succ ?_
    simp only [impl_WheelRight.l2, show ¬ ((far.length : Int) < (far.length : Int)) by omega, if_false]
    by_cases c : far.length + near.flatten.length ≤ 100
    · simp only [show ¬ (((far.length + near.flatten.length : Nat) : Int) > 100) by omega, if_false]
      rw [decide_eq_true c, Bool.true_and]
      have hlen : (sortL cfId (near.flatten ++ far)).length = (near.flatten ++ far).length := sortL_length cfId swo_id _
      have e : impl_Wheel_all.f now near far = some (near.flatten ++ far) := by
        unfold impl_Wheel_all.f impl_Timer_120.f
        rw [if_pos (by omega), Option.bind_some, if_pos (by omega)]
      have hle : (near.flatten ++ far).length ≤ 1000 := by rw [List.length_append]; omega
      simp only [e, Option.bind_some, impl_Timer_71.f, hle, if_true]
      have h3 := impl_l3 (sortL cfId (near.flatten ++ far)) (by rw [hlen, List.length_append]; omega)
      unfold srt3
      rw [← hlen]
      exact h3
    · simp only [show ((far.length + near.flatten.length : Nat) : Int) > 100 by omega, if_true]
      rw [decide_eq_false c]
      exact ev_const rfl
  · intro i hi b hb
    refine ev_succ ?_
    by_cases c1 : now + 17 ≤ (rd_T91 far i).f1 ∧ (rd_T91 far i).f1 ≤ 1000000
    · by_cases h0 : (i : Int) > 0
      · simp only [impl_WheelRight.l2, show (i : Int) < (far.length : Int) by omega, show (0 : Int) ≤ (i : Int) by omega, if_true, in_eq, hw, Option.bind_some, decide_eq_true c1, h0, pred_cast i (by omega) (by omega), show (0 : Int) ≤ ((i - 1 : Nat) : Int) by omega, show ((i - 1 : Nat) : Int) < (far.length : Int) by omega, succ_cast i (by omega)]
        rw [show pI2 now far i = decide (befP (rd_T91 far ((i - 1 : Nat) : Int)) (rd_T91 far i)) by unfold pI2; rw [decide_eq_true c1, decide_eq_false (show ¬ i = 0 by omega)]; rfl]
        obtain ⟨v, hv, hE⟩ := byTime_eq (rd_T91 far ((i - 1 : Nat) : Int)) (rd_T91 far i)
        refine ev_bind hE ?_
        by_cases c3 : v ≥ 0
        · simp only [c3, if_true]
          rw [decide_eq_false (fun h => by have := hv.2 h; omega)]
          exact ev_const rfl
        · simp only [c3, if_false]
          rw [decide_eq_true (hv.1 (by omega))]
          exact hb
      · simp only [impl_WheelRight.l2, show (i : Int) < (far.length : Int) by omega, show (0 : Int) ≤ (i : Int) by omega, if_true, in_eq, hw, Option.bind_some, decide_eq_true c1, h0, if_false, succ_cast i (by omega)]
        rw [show pI2 now far i = true by unfold pI2; rw [decide_eq_true c1, decide_eq_true (show i = 0 by omega)]; rfl]
        exact hb
    · simp only [impl_WheelRight.l2, show (i : Int) < (far.length : Int) by omega, show (0 : Int) ≤ (i : Int) by omega, if_true, in_eq, hw, Option.bind_some, decide_eq_false c1, Bool.false_eq_true, if_false]
      rw [show pI2 now far i = false by unfold pI2; rw [decide_eq_false c1]; rfl]
      exact ev_const rfl
def pI1 (now : Int) (m : Nat) (l : List S91) (i : Nat) : Bool := decide (now + 1 ≤ (rd_T91 l i).f1 ∧ (rd_T91 l i).f1 ≤ now + 16) && (decide ((rd_T91 l i).f1 ≤ 1000000) && (decide (Int.tmod (rd_T91 l i).f1 16 = (m : Int)) && (decide (i = 0) || decide ((rd_T91 l ((i - 1 : Nat) : Int)).f0 < (rd_T91 l i).f0))))
theorem impl_l1 (now : Int) (near : List (List S91)) (far : List S91) (hw : wrap64 (now + 16) = now + 16) (hw1 : wrap64 (now + 1) = now + 1) (m : Nat) (hm : m < near.length) (hn : near.length ≤ 1048576) (l : List S91) (hl : l.length ≤ 1048576) (s : Int) (r : Bool) (hr : Ev (fun k => impl_WheelRight.l0 k s near (near.length : Int) ((m + 1 : Nat) : Int) now near far) r) :
    Ev (fun k => impl_WheelRight.l1 k s (m : Int) l near (near.length : Int) (m : Int) l (l.length : Int) 0 now near far) (allFrom (pI1 now m l) 0 l.length && r) := by
  refine ev_scan (F := fun k i => impl_WheelRight.l1 k s (m : Int) l near (near.length : Int) (m : Int) l (l.length : Int) (i : Int) now near far) _ (pI1 now m l) r ?_ ?_ _ 0 rfl (by omega)
  · refine ev_succ ?_
    simp only [impl_WheelRight.l1, show ¬ ((l.length : Int) < (l.length : Int)) by omega, if_false, succ_cast m (by omega)]
    exact hr
  · intro i hi b hb
    refine ev_succ ?_
    have a1 : (i : Int) < (l.length : Int) := by omega
    have a2 : (0 : Int) ≤ (i : Int) := by omega
    by_cases c0 : now + 1 ≤ (rd_T91 l i).f1 ∧ (rd_T91 l i).f1 ≤ now + 16
    · by_cases c1 : (rd_T91 l i).f1 > 1000000
      · simp only [impl_WheelRight.l1, a1, a2, if_true, in_eq, hw, hw1, Option.bind_some, decide_eq_true c0, c1]
        rw [show pI1 now m l i = false by unfold pI1; rw [decide_eq_false (show ¬ (rd_T91 l i).f1 ≤ 1000000 by omega)]; simp]
        exact ev_const rfl
      · by_cases c2 : Int.tmod (rd_T91 l i).f1 16 = (m : Int)
        · by_cases h0 : (i : Int) > 0
          · simp only [impl_WheelRight.l1, a1, a2, if_true, in_eq, hw, hw1, Option.bind_some, decide_eq_true c0, c1, if_false, c2, h0, pred_cast i (by omega) (by omega), show (0 : Int) ≤ ((i - 1 : Nat) : Int) by omega, show ((i - 1 : Nat) : Int) < (l.length : Int) by omega, succ_cast i (by omega)]
            rw [show pI1 now m l i = decide ((rd_T91 l ((i - 1 : Nat) : Int)).f0 < (rd_T91 l i).f0) by unfold pI1; rw [decide_eq_true c0, decide_eq_true (show (rd_T91 l i).f1 ≤ 1000000 by omega), decide_eq_true c2, decide_eq_false (show ¬ i = 0 by omega)]; rfl]
            by_cases c3 : (rd_T91 l ((i - 1 : Nat) : Int)).f0 ≥ (rd_T91 l i).f0
            · simp only [c3, if_true]
              rw [decide_eq_false (by omega)]
              exact ev_const rfl
            · simp only [c3, if_false]
              rw [decide_eq_true (by omega)]
              exact hb
          · simp only [impl_WheelRight.l1, a1, a2, if_true, in_eq, hw, hw1, Option.bind_some, decide_eq_true c0, c1, if_false, c2, h0, succ_cast i (by omega)]
            rw [show pI1 now m l i = true by unfold pI1; rw [decide_eq_true c0, decide_eq_true (show (rd_T91 l i).f1 ≤ 1000000 by omega), decide_eq_true c2, decide_eq_true (show i = 0 by omega)]; rfl]
            exact hb
        · simp only [impl_WheelRight.l1, a1, a2, if_true, in_eq, hw, hw1, Option.bind_some, decide_eq_true c0, c1, if_false, c2]
          rw [show pI1 now m l i = false by unfold pI1; rw [decide_eq_false c2]; simp]
          exact ev_const rfl
    · simp only [impl_WheelRight.l1, a1, a2, if_true, in_eq, hw, hw1, Option.bind_some, decide_eq_false c0, Bool.false_eq_true, if_false]
      rw [show pI1 now m l i = false by unfold pI1; rw [decide_eq_false c0]; rfl]
      exact ev_const rfl
def nearI (now : Int) (near : List (List S91)) (m : Nat) : Bool := allFrom (pI1 now m (rd_L4 near (m : Int))) 0 (rd_L4 near (m : Int)).length
theorem impl_l0 (now : Int) (near : List (List S91)) (far : List S91) (hnow : 0 ≤ now ∧ now ≤ 1000000) (hn : near.length ≤ 1048576) (hs : near.flatten.length ≤ 1048576) (hl : ∀ m, m < near.length → (rd_L4 near (m : Int)).length ≤ 1048576) (hf : far.length ≤ 1048576) :
    Ev (fun k => impl_WheelRight.l0 k (far.length : Int) near (near.length : Int) 0 now near far) (allFrom (nearI now near) 0 near.length && (allFrom (pI2 now far) 0 far.length && (decide (far.length + near.flatten.length ≤ 100) && srt3 near far))) := by
  have hw : wrap64 (now + 16) = now + 16 := wrap_small (by omega) (by omega)
  have h := ev_scan (F := fun k i => impl_WheelRight.l0 k ((far.length + (near.take i).flatten.length : Nat) : Int) near (near.length : Int) (i : Int) now near far) near.length (nearI now near) (allFrom (pI2 now far) 0 far.length && (decide (far.length + near.flatten.length ≤ 100) && srt3 near far)) ?_ ?_ near.length 0 rfl (by omega)
  · simpa using h
  · refine ev_succ ?_
    simp only [impl_WheelRight.l0, show ¬ ((near.length : Int) < (near.length : Int)) by omega, if_false, List.take_length]
    exact impl_l2 now near far (by rw [hw, wrap_small (by omega) (by omega)]; omega) hs hf
  · intro m hm b hb
    refine ev_succ ?_
    have e2 := congrArg List.length (flat_take near hm)
    have h1 := flat_le near (m + 1)
    rw [List.length_append] at e2
    have hsum : wrap64 (((far.length + (near.take m).flatten.length : Nat) : Int) + ((rd_L4 near (m : Int)).length : Int)) = ((far.length + (near.take (m + 1)).flatten.length : Nat) : Int) := by
      rw [e2]; rw [wrap_small (by omega) (by omega)]; omega
    simp only [impl_WheelRight.l0, show (m : Int) < (near.length : Int) by omega, show (0 : Int) ≤ (m : Int) by omega, if_true, hsum]
    exact impl_l1 now near far hw (wrap_small (by omega) (by omega)) m hm hn (rd_L4 near (m : Int)) (hl m hm) _ b hb
theorem impl_wheel (now : Int) (near : List (List S91)) (far : List S91) (hn : near.length ≤ 1048576) (hs : near.flatten.length ≤ 1048576) (hl : ∀ m, m < near.length → (rd_L4 near (m : Int)).length ≤ 1048576) (hf : far.length ≤ 1048576) :
    Ev (fun k => impl_WheelRight.f k now near far) (okNow now near && (allFrom (nearI now near) 0 near.length && (allFrom (pI2 now far) 0 far.length && (decide (far.length + near.flatten.length ≤ 100) && srt3 near far)))) := by
  unfold impl_WheelRight.f okNow
  have J1 : Ev (fun k => impl_WheelRight.j0 k true now near far) false := by
    refine ev_succ ?_
    simp only [impl_WheelRight.j0, if_true]
    exact ev_const rfl
  simp only [isTime_eq, Option.bind_some]
  by_cases h1 : 0 ≤ now ∧ now ≤ 1000000
  · rw [decide_eq_true h1, Bool.true_and]
    simp only [if_true]
    by_cases c : near.length = 16
    · rw [decide_eq_true c, Bool.true_and, show ((near.length : Int) != 16) = false by rw [c]; rfl]
      refine ev_succ ?_
      simp only [impl_WheelRight.j0, Bool.false_eq_true, if_false]
      exact impl_l0 now near far h1 hn hs hl hf
    · rw [decide_eq_false c, show ((near.length : Int) != 16) = true by simp; omega]
      exact J1
  · rw [decide_eq_false h1]
    simp only [Bool.false_eq_true, if_false]
    exact J1
theorem sort_perm {α : Type} [Inhabited α] (cf : α → α → Int) (hO : Sort.SWO (ltOf cf)) (l : List α) : (sortL cf l).Perm l := by
  have h := (sortL_facts cf hO l).1
  have hs := h.1
  have hp := h.2.2
  rw [List.size_toArray] at hs
  have e1 : ∀ d : Array α, d.size = l.length → d.extract 0 l.toArray.size = d := fun d hd => by
    rw [List.size_toArray, ← hd]; simp
  rw [e1 _ hs, e1 _ (by simp)] at hp
  exact hp
theorem sort_sorted {α : Type} [Inhabited α] (cf : α → α → Int) (hO : Sort.SWO (ltOf cf)) (l : List α) : (sortL cf l).Pairwise (fun x y => ltOf cf y x = false) := by
  have h := (sortL_facts cf hO l).2
  have hs := (sortL_facts cf hO l).1.1
  rw [List.pairwise_iff_getElem]
  intro i j hi hj hij
  unfold sortL at hi hj ⊢
  rw [Array.length_toList] at hi hj
  have := h i j (Nat.zero_le _) hij (by rw [← hs]; exact hj)
  rw [getElem!_pos _ j hj, getElem!_pos _ i hi] at this
  simpa using this

/-! ### Both tests -/
theorem idx_iff (l : List S91) (Q : S91 → Prop) (R : S91 → S91 → Prop) : (∀ j, j < l.length → Q (rd_T91 l (j : Int)) ∧ (0 < j → R (rd_T91 l ((j - 1 : Nat) : Int)) (rd_T91 l (j : Int)))) ↔ (∀ x ∈ l, Q x) ∧ ∀ (j : Nat) (h : j + 1 < l.length), R l[j] l[j + 1] := by
  constructor
  · intro h
    refine ⟨fun x hx => ?_, fun j hj => ?_⟩
    · obtain ⟨j, hj, rfl⟩ := List.mem_iff_getElem.1 hx
      have := (h j hj).1
      rwa [rd91 l j hj] at this
    · have := (h (j + 1) hj).2 (by omega)
      rwa [show j + 1 - 1 = j by omega, rd91 l j (by omega), rd91 l (j + 1) hj] at this
  · intro ⟨h1, h2⟩ j hj
    refine ⟨by rw [rd91 l j hj]; exact h1 _ (List.getElem_mem hj), fun h0 => ?_⟩
    obtain ⟨i, rfl⟩ : ∃ i, j = i + 1 := ⟨j - 1, by omega⟩
    rw [show i + 1 - 1 = i by omega, rd91 l i (by omega), rd91 l (i + 1) hj]
    exact h2 i hj
theorem zero_or (i : Nat) (p : Prop) [Decidable p] : (decide (i = 0) || decide p) = true ↔ (0 < i → p) := by
  rw [Bool.or_eq_true, decide_eq_true_eq, decide_eq_true_eq]
  constructor
  · intro h h0; rcases h with h | h
    · omega
    · exact h
  · intro h
    by_cases h0 : i = 0
    · exact .inl h0
    · exact .inr (h (by omega))
theorem s3_iff (now : Int) (far : List S91) : allFrom (pS3 now far) 0 far.length = true ↔ (∀ x ∈ far, now + 16 < x.f1) ∧ ∀ (j : Nat) (h : j + 1 < far.length), befP far[j] far[j + 1] := by
  rw [allFrom_iff, ← idx_iff far (fun x => now + 16 < x.f1) befP]
  refine forall_congr' fun j => forall_congr' fun _ => ?_
  unfold pS3
  rw [Bool.and_eq_true, zero_or, decide_eq_true_eq]
theorem i2_iff (now : Int) (far : List S91) : allFrom (pI2 now far) 0 far.length = true ↔ (∀ x ∈ far, now + 17 ≤ x.f1 ∧ x.f1 ≤ 1000000) ∧ ∀ (j : Nat) (h : j + 1 < far.length), befP far[j] far[j + 1] := by
  rw [allFrom_iff, ← idx_iff far (fun x => now + 17 ≤ x.f1 ∧ x.f1 ≤ 1000000) befP]
  refine forall_congr' fun j => forall_congr' fun _ => ?_
  unfold pI2
  rw [Bool.and_eq_true, zero_or, decide_eq_true_eq]
theorem s2_iff (now : Int) (m : Nat) (l : List S91) : allFrom (pS2 now m l) 0 l.length = true ↔ (∀ x ∈ l, x.f1 ≤ now + 16 ∧ Int.tmod x.f1 16 = (m : Int)) ∧ ∀ (j : Nat) (h : j + 1 < l.length), l[j].f0 < l[j + 1].f0 := by
  rw [allFrom_iff, ← idx_iff l (fun x => x.f1 ≤ now + 16 ∧ Int.tmod x.f1 16 = (m : Int)) (fun a b => a.f0 < b.f0)]
  refine forall_congr' fun j => forall_congr' fun _ => ?_
  unfold pS2
  rw [Bool.and_eq_true, Bool.and_eq_true, zero_or, decide_eq_true_eq, decide_eq_true_eq, and_assoc]
theorem i1_iff (now : Int) (m : Nat) (l : List S91) : allFrom (pI1 now m l) 0 l.length = true ↔ (∀ x ∈ l, (now + 1 ≤ x.f1 ∧ x.f1 ≤ now + 16) ∧ x.f1 ≤ 1000000 ∧ Int.tmod x.f1 16 = (m : Int)) ∧ ∀ (j : Nat) (h : j + 1 < l.length), l[j].f0 < l[j + 1].f0 := by
  rw [allFrom_iff, ← idx_iff l (fun x => (now + 1 ≤ x.f1 ∧ x.f1 ≤ now + 16) ∧ x.f1 ≤ 1000000 ∧ Int.tmod x.f1 16 = (m : Int)) (fun a b => a.f0 < b.f0)]
  refine forall_congr' fun j => forall_congr' fun _ => ?_
  unfold pI1
  rw [Bool.and_eq_true, Bool.and_eq_true, Bool.and_eq_true, zero_or, decide_eq_true_eq, decide_eq_true_eq, decide_eq_true_eq]
  simp only [and_assoc]
theorem i3_iff (s : List S91) : allFrom (pI3 s) 0 s.length = true ↔ (∀ x ∈ s, 1 ≤ x.f0 ∧ x.f0 ≤ 1000000) ∧ ∀ (j : Nat) (h : j + 1 < s.length), s[j].f0 ≠ s[j + 1].f0 := by
  rw [allFrom_iff, ← idx_iff s (fun x => 1 ≤ x.f0 ∧ x.f0 ≤ 1000000) (fun a b => a.f0 ≠ b.f0)]
  refine forall_congr' fun j => forall_congr' fun _ => ?_
  unfold pI3
  rw [Bool.and_eq_true, zero_or, decide_eq_true_eq]
theorem s1_iff (now : Int) (l : List S91) : allFrom (fun i => okT now (rd_T91 l i) && allFrom (neP l i) 0 i) 0 l.length = true ↔ (∀ x ∈ l, (1 ≤ x.f0 ∧ x.f0 ≤ 1000000) ∧ now < x.f1 ∧ x.f1 ≤ 1000000) ∧ l.Pairwise (fun a b => a.f0 ≠ b.f0) := by
  rw [allFrom_iff, List.pairwise_iff_getElem]
  have key : ∀ j, j < l.length → (((okT now (rd_T91 l (j : Int)) && allFrom (neP l j) 0 j) = true) ↔ (((1 ≤ (rd_T91 l (j : Int)).f0 ∧ (rd_T91 l (j : Int)).f0 ≤ 1000000) ∧ now < (rd_T91 l (j : Int)).f1 ∧ (rd_T91 l (j : Int)).f1 ≤ 1000000) ∧ ∀ q, q < j → (rd_T91 l (q : Int)).f0 ≠ (rd_T91 l (j : Int)).f0)) := fun j hj => by
    rw [Bool.and_eq_true, allFrom_iff]
    unfold okT neP
    simp only [Bool.and_eq_true, decide_eq_true_eq]
  constructor
  · intro h
    refine ⟨fun x hx => ?_, fun q j hq hj hqj => ?_⟩
    · obtain ⟨j, hj, rfl⟩ := List.mem_iff_getElem.1 hx
      have := ((key j hj).1 (h j hj)).1
      rwa [rd91 l j hj] at this
    · have := ((key j hj).1 (h j hj)).2 q hqj
      rwa [rd91 l j hj, rd91 l q hq] at this
  · intro ⟨h1, h2⟩ j hj
    refine (key j hj).2 ⟨by rw [rd91 l j hj]; exact h1 _ (List.getElem_mem hj), fun q hq => ?_⟩
    rw [rd91 l j hj, rd91 l q (by omega)]
    exact h2 q j (by omega) hj hq
theorem adj_ne (s : List S91) (hso : s.Pairwise (fun x y => x.f0 ≤ y.f0)) : (∀ (j : Nat) (h : j + 1 < s.length), s[j].f0 ≠ s[j + 1].f0) ↔ s.Pairwise (fun a b => a.f0 ≠ b.f0) := by
  rw [List.pairwise_iff_getElem] at hso ⊢
  constructor
  · intro h q j hq hj hqj e
    have h1 := h q (by omega)
    have h2 := hso q (q + 1) hq (by omega) (by omega)
    by_cases hj2 : j = q + 1
    · subst hj2; exact h1 e
    · have h3 := hso (q + 1) j (by omega) hj (by omega)
      omega
  · intro h j hj
    exact h j (j + 1) (by omega) hj (by omega)
theorem srt3_iff (near : List (List S91)) (far : List S91) : srt3 near far = true ↔ (∀ x ∈ near.flatten ++ far, 1 ≤ x.f0 ∧ x.f0 ≤ 1000000) ∧ (near.flatten ++ far).Pairwise (fun a b => a.f0 ≠ b.f0) := by
  unfold srt3
  have hp := sort_perm cfId swo_id (near.flatten ++ far)
  have hso := sort_sorted cfId swo_id (near.flatten ++ far)
  rw [← hp.length_eq, i3_iff, adj_ne _ (hso.imp (fun {x y} h => by rw [ltOf_id] at h; have := of_decide_eq_false h; omega)), hp.pairwise_iff (fun h => fun e => h e.symm)]
  exact and_congr_left fun _ => ⟨fun h x hx => h x (hp.symm.subset hx), fun h x hx => h x (hp.subset hx)⟩
theorem rdL (near : List (List S91)) (m : Nat) (h : m < near.length) : rd_L4 near (m : Int) = near[m] := by simp [rd_L4, List.getD_eq_getElem?_getD, h]
theorem both_eq (now : Int) (near : List (List S91)) (far : List S91) : (allFrom (nearI now near) 0 near.length && (allFrom (pI2 now far) 0 far.length && (decide (far.length + near.flatten.length ≤ 100) && srt3 near far))) = (decide (far.length + near.flatten.length ≤ 100) && spR now near far) := by
  apply Bool.eq_iff_iff.2
  unfold spR
  simp only [Bool.and_eq_true, s1_iff, s3_iff, i2_iff, srt3_iff]
  rw [allFrom_iff, allFrom_iff]
  unfold nearI nearS
  simp only [s2_iff, i1_iff]
  have mem : ∀ m (hm : m < near.length), ∀ x ∈ rd_L4 near (m : Int), x ∈ near.flatten ++ far := fun m hm x hx => by
    rw [rdL near m hm] at hx
    exact List.mem_append_left _ (List.mem_flatten.2 ⟨_, List.getElem_mem hm, hx⟩)
  have mem' : ∀ x ∈ near.flatten, ∃ m, m < near.length ∧ x ∈ rd_L4 near (m : Int) := fun x hx => by
    obtain ⟨l, hl, hx⟩ := List.mem_flatten.1 hx
    obtain ⟨m, hm, rfl⟩ := List.mem_iff_getElem.1 hl
    exact ⟨m, hm, by rw [rdL near m hm]; exact hx⟩
  constructor
  · rintro ⟨hN, ⟨hF, hR⟩, hc, hid, hpw⟩
    refine ⟨hc, ⟨fun x hx => ⟨hid x hx, ?_⟩, hpw⟩, fun m hm => ⟨fun x hx => ?_, (hN m hm).2⟩, fun x hx => ?_, hR⟩
    · rcases List.mem_append.1 hx with h | h
      · obtain ⟨m, hm, h⟩ := mem' x h
        have := (hN m hm).1 x h
        omega
      · have := hF x h
        omega
    · have := (hN m hm).1 x hx
      exact ⟨this.1.2, this.2.2⟩
    · have := hF x hx
      omega
  · rintro ⟨hc, ⟨hA, hpw⟩, hN, hF, hR⟩
    refine ⟨fun m hm => ⟨fun x hx => ?_, (hN m hm).2⟩, ⟨fun x hx => ?_, hR⟩, hc, fun x hx => (hA x hx).1, hpw⟩
    · have h1 := hA x (mem m hm x hx)
      have h2 := (hN m hm).1 x hx
      exact ⟨⟨by omega, h2.1⟩, h1.2.2, h2.2⟩
    · have h1 := hA x (List.mem_append_right _ hx)
      have h2 := hF x hx
      omega

/-! ### The rows of rows -/
def convW (l : List (List S150)) : List (List S91) := l.map fun x => x.map convTimer
theorem rdLi (l : List (List S150)) (m : Nat) (h : m < l.length) : rd_L2 l (m : Int) = l[m] := by simp [rd_L2, List.getD_eq_getElem?_getD, h]
theorem toSS_eq (l : List (List S150)) (hn : l.length ≤ 1048576) (hl : ∀ x ∈ l, x.length * 16 ≤ 140737488351232) : Ev (fun k => laws_toTimerSS.f k l) (convW l) := by
  have loop : ∀ d i : Nat, l.length - i = d → i ≤ l.length → Ev (fun k => laws_toTimerSS.l0 k l ((l.take i).map (fun x => x.map convTimer) ++ List.replicate (l.length - i) []) (i : Int)) (convW l) := by
    intro d
    induction d with
    | zero =>
      intro i hd hi
      obtain rfl : i = l.length := by omega
      refine ev_succ ?_
      simp only [laws_toTimerSS.l0, show ¬ ((l.length : Int) < (l.length : Int)) by omega, if_false]
      exact ev_const (by simp [convW])
    | succ d ih =>
      intro i hd hi
      have hlt : i < l.length := by omega
      refine ev_succ ?_
      simp only [laws_toTimerSS.l0, show (i : Int) < (l.length : Int) by omega, show (0 : Int) ≤ (i : Int) by omega, if_true]
      refine ev_bind (ev_from ((rd_L2 l (i : Int)).length + 1) fun k hk => toTimerS_eq _ (by rw [rdLi l i hlt]; exact hl _ (List.getElem_mem hlt)) k (by omega)) ?_
      refine ev_yes (by simp; omega) ?_
      simp only [Int.toNat_natCast, succ_cast i (show i < 9223372036854775807 by omega), rdLi l i hlt, set_fill l (fun x => x.map convTimer) [] i hlt]
      exact ih (i + 1) (by omega) (by omega)
  unfold laws_toTimerSS.f
  refine ev_yes (by omega) (ev_yes (by simp; omega) ?_)
  have := loop l.length 0 rfl (by omega)
  simpa using this
theorem toWheel_eq (now : Int) (l : List (List S150)) (f : List S150) (hn : l.length ≤ 1048576) (hl : ∀ x ∈ l, x.length * 16 ≤ 140737488351232) (hf : f.length * 16 ≤ 140737488351232) : Ev (fun k => laws_toWheel.f k now l f) (now, convW l, f.map convTimer) := by
  unfold laws_toWheel.f
  refine ev_bind (toSS_eq l hn hl) ?_
  refine ev_bind (ev_from (f.length + 1) fun k hk => toTimerS_eq f hf k (by omega)) ?_
  exact ev_const rfl
theorem eqSS_same (l : List (List S91)) (hn : l.length ≤ 1048576) (hl : ∀ x ∈ l, x.length < 9223372036854775807) : Ev (fun k => laws_eqTimerSS.f k l l) true := by
  unfold laws_eqTimerSS.f
  refine ev_yes rfl ?_
  have h := ev_scan (F := fun k i => laws_eqTimerSS.l0 k l l (i : Int)) l.length (fun _ => true) true ?_ ?_ l.length 0 rfl (by omega)
  · have e : allFrom (fun _ => true) 0 l.length = true := (allFrom_iff _ _).2 fun _ _ => rfl
    rw [e] at h
    exact h
  · refine ev_succ ?_
    simp only [laws_eqTimerSS.l0, show ¬ ((l.length : Int) < (l.length : Int)) by omega, if_false]
    exact ev_const rfl
  · intro i hi b hb
    refine ev_succ ?_
    simp only [laws_eqTimerSS.l0, show (i : Int) < (l.length : Int) by omega, show (0 : Int) ≤ (i : Int) by omega, if_true, succ_cast i (by omega)]
    refine ev_bind (a := true) (ev_from ((rd_L4 l (i : Int)).length + 1) fun k hk => eqTimerS_same _ (by rw [rdL l i hi]; exact hl _ (List.getElem_mem hi)) k (by omega)) ?_
    simp only [if_true]
    exact hb
theorem eqWheel_same (now : Int) (l : List (List S91)) (f : List S91) (hn : l.length ≤ 1048576) (hl : ∀ x ∈ l, x.length < 9223372036854775807) (hf : f.length < 9223372036854775807) : Ev (fun k => laws_eqWheel.f k now l f now l f) true := by
  unfold laws_eqWheel.f
  refine ev_yes rfl ?_
  refine ev_bind (eqSS_same l hn hl) ?_
  simp only [if_true]
  refine ev_bind (a := true) (ev_from (f.length + 1) fun k hk => eqTimerS_same f hf k (by omega)) ?_
  simp only [if_true]
  exact ev_const rfl
theorem flat_takei (l : List (List S150)) {i : Nat} (h : i < l.length) : (l.take (i + 1)).flatten = (l.take i).flatten ++ rd_L2 l (i : Int) := by
  rw [List.take_succ_eq_append_getElem h, List.flatten_append]
  simp [rd_L2, List.getD_eq_getElem?_getD, h]
theorem szSS_eq (l : List (List S150)) (hn : l.length * 24 ≤ 140737488351232) (hl : ∀ x ∈ l, x.length * 16 ≤ 140737488351232) : ∃ r : Int, Ev (fun k => laws_szTimerSS.f k l 1048576) r ∧ (0 ≤ r → r + (l.length : Int) + (l.flatten.length : Int) = 1048576) := by
  have loop : ∀ d i : Nat, l.length - i = d → i ≤ l.length → ∀ s : Int, 0 ≤ s → s ≤ 1048576 → ∃ r : Int, Ev (fun k => laws_szTimerSS.l0 k l s (i : Int)) r ∧ (0 ≤ r → r + (l.flatten.length : Int) = s + ((l.take i).flatten.length : Int)) := by
    intro d
    induction d with
    | zero =>
      intro i hd hi s h0 h1
      obtain rfl : i = l.length := by omega
      refine ⟨s, ev_succ ?_, fun _ => by rw [List.take_length]⟩
      simp only [laws_szTimerSS.l0, show ¬ ((l.length : Int) < (l.length : Int)) by omega, if_false]
      exact ev_const rfl
    | succ d ih =>
      intro i hd hi s h0 h1
      have hlt : i < l.length := by omega
      have hx : (rd_L2 l (i : Int)).length * 16 ≤ 140737488351232 := by rw [rdLi l i hlt]; exact hl _ (List.getElem_mem hlt)
      have e := congrArg List.length (flat_takei l hlt)
      rw [List.length_append] at e
      have hsz : laws_szTimerS.f (rd_L2 l (i : Int)) s = some (if s - ((rd_L2 l (i : Int)).length : Int) < 0 then -1 else s - ((rd_L2 l (i : Int)).length : Int)) := by
        unfold laws_szTimerS.f
        rw [wrap_small (by omega) (by omega)]
        split <;> rfl
      by_cases c : s - ((rd_L2 l (i : Int)).length : Int) < 0
      · rw [if_pos c] at hsz
        refine ⟨-1, ev_succ ?_, fun h => by omega⟩
        simp only [laws_szTimerSS.l0, show (i : Int) < (l.length : Int) by omega, show (0 : Int) ≤ (i : Int) by omega, if_true, hsz, Option.bind_some, show (-1 : Int) < 0 by omega]
        exact ev_const rfl
      · rw [if_neg c] at hsz
        obtain ⟨r, hr, hr2⟩ := ih (i + 1) (by omega) (by omega) (s - ((rd_L2 l (i : Int)).length : Int)) (by omega) (by omega)
        refine ⟨r, ev_succ ?_, fun h => by have := hr2 h; omega⟩
        simp only [laws_szTimerSS.l0, show (i : Int) < (l.length : Int) by omega, show (0 : Int) ≤ (i : Int) by omega, if_true, hsz, Option.bind_some, c, if_false, succ_cast i (by omega)]
        exact hr
  unfold laws_szTimerSS.f
  rw [wrap_small (by omega) (by omega)]
  by_cases c : (1048576 : Int) - (l.length : Int) < 0
  · exact ⟨-1, ev_yes c (ev_const rfl), fun h => by omega⟩
  · obtain ⟨r, hr, hr2⟩ := loop l.length 0 rfl (by omega) (1048576 - (l.length : Int)) (by omega) (by omega)
    refine ⟨r, ev_no c hr, fun h => ?_⟩
    have := hr2 h
    simp only [List.take_zero, List.flatten_nil, List.length_nil] at this
    omega
theorem szWheel_eq (now : Int) (l : List (List S150)) (f : List S150) (hn : l.length * 24 ≤ 140737488351232) (hl : ∀ x ∈ l, x.length * 16 ≤ 140737488351232) (hf : f.length * 16 ≤ 140737488351232) : ∃ r : Int, Ev (fun k => laws_szWheel.f k now l f 1048576) r ∧ (0 ≤ r → (l.length : Int) ≤ 1048576 ∧ (l.flatten.length : Int) ≤ 1048576 ∧ (f.length : Int) ≤ 1048576) := by
  obtain ⟨r, hr, hr2⟩ := szSS_eq l hn hl
  unfold laws_szWheel.f
  by_cases c : r < 0
  · refine ⟨-1, ev_bind hr ?_, fun h => by omega⟩
    simp only [c, if_true]
    exact ev_const rfl
  · have hs := hr2 (by omega)
    have hsz : laws_szTimerS.f f r = some (if r - (f.length : Int) < 0 then -1 else r - (f.length : Int)) := by
      unfold laws_szTimerS.f
      rw [wrap_small (by omega) (by omega)]
      split <;> rfl
    by_cases c2 : r - (f.length : Int) < 0
    · rw [if_pos c2] at hsz
      refine ⟨-1, ev_bind hr ?_, fun h => by omega⟩
      simp only [c, if_false, hsz, Option.bind_some, show (-1 : Int) < 0 by omega, if_true]
      exact ev_const rfl
    · rw [if_neg c2] at hsz
      refine ⟨r - (f.length : Int), ev_bind hr ?_, fun _ => ⟨by omega, by omega, by omega⟩⟩
      simp only [c, if_false, hsz, Option.bind_some, c2]
      exact ev_const rfl
theorem flat_conv (l : List (List S150)) : (convW l).flatten.length = l.flatten.length := by
  unfold convW
  induction l with
  | nil => rfl
  | cons x l ih => simp only [List.map_cons, List.flatten_cons, List.length_append, List.length_map, ih]
theorem sub_len (l : List (List S91)) (x : List S91) (h : x ∈ l) : x.length ≤ l.flatten.length := by
  induction l with
  | nil => cases h
  | cons y l ih =>
    rw [List.flatten_cons, List.length_append]
    rcases List.mem_cons.1 h with rfl | h
    · omega
    · have := ih h; omega

/-! ### The next time -/
def stN (l : List S91) (i : Nat) : Int := if i = 0 then 0 else (mnT (l.take i)).f1
theorem stN_one (l : List S91) (i : Nat) (h0 : i = 0) (h : i < l.length) : stN l (i + 1) = (rd_T91 l (i : Int)).f1 := by
  subst h0
  cases l with
  | nil => simp at h
  | cons x l => rfl
theorem stN_step (l : List S91) (i : Nat) (h0 : 0 < i) (h : i < l.length) : stN l (i + 1) = if (rd_T91 l (i : Int)).f1 < stN l i then (rd_T91 l (i : Int)).f1 else stN l i := by
  have e1 : stN l (i + 1) = (mnT (l.take (i + 1))).f1 := by unfold stN; rw [if_neg (by omega)]
  have e2 : stN l i = (mnT (l.take i)).f1 := by unfold stN; rw [if_neg (by omega)]
  rw [e1, e2, mn_take l h0 h, rd91 l i h]
  generalize l[i] = x
  generalize mnT (l.take i) = m
  unfold mnS
  have hd : befT x m ↔ (x.f1 < m.f1 ∨ x.f1 = m.f1 ∧ x.f0 < m.f0) := Iff.rfl
  by_cases hb : befT x m
  · rw [if_pos hb]
    have h2 := hd.1 hb
    by_cases c : x.f1 < m.f1
    · rw [if_pos c]
    · rw [if_neg c]; omega
  · rw [if_neg hb]
    rw [if_neg (fun c => hb (hd.2 (.inl c)))]
theorem next_l0 (l : List S91) (hl : l.length ≤ 4000000) : ∀ d i : Nat, l.length - i = d → i ≤ l.length → Ev (fun k => spec_WheelNext.l0 k l (stN l i) (i : Int)) (stN l l.length) := by
  intro d
  induction d with
  | zero =>
    intro i hd hi
    obtain rfl : i = l.length := by omega
    refine ev_succ ?_
    simp only [spec_WheelNext.l0]
    exact ev_no (by omega) (ev_const rfl)
  | succ d ih =>
    intro i hd hi
    have hlt : i < l.length := by omega
    refine ev_succ ?_
    simp only [spec_WheelNext.l0]
    refine ev_yes (by omega) ?_
    have hI := ih (i + 1) (by omega) (by omega)
    by_cases h0 : i = 0
    · refine ev_yes (by omega) (ev_yes (by omega) ?_)
      simp only [succ_cast i (show i < 9223372036854775807 by omega)]
      rw [stN_one l i h0 hlt] at hI
      exact hI
    · refine ev_no (by omega) (ev_yes (by omega) ?_)
      simp only [succ_cast i (show i < 9223372036854775807 by omega)]
      rw [stN_step l i (by omega) hlt] at hI
      by_cases c : (rd_T91 l (i : Int)).f1 < stN l i
      · rw [if_pos c] at hI
        exact ev_yes c hI
      · rw [if_neg c] at hI
        exact ev_no c hI
theorem next_both (now : Int) (near : List (List S91)) (far : List S91) (hn : near.length ≤ 1048576) (hs : near.flatten.length ≤ 1048576) (hl : ∀ m, m < near.length → (rd_L4 near (m : Int)).length ≤ 1048576) (hf : far.length ≤ 1048576) :
    ∃ v : Int, Ev (fun k => spec_WheelNext.f k now near far) v ∧ Ev (fun k => impl_WheelNext.f k now near far) v := by
  have hS := spec_wheel now near far hn hs hl hf
  have hI := impl_wheel now near far hn hs hl hf
  rw [both_eq] at hI
  unfold spec_WheelNext.f impl_WheelNext.f
  cases hb : (okNow now near && (decide (far.length + near.flatten.length ≤ 100) && spR now near far)) with
  | false =>
    rw [hb] at hS hI
    exact ⟨0, ev_bind hS (ev_const rfl), ev_bind hI (ev_const rfl)⟩
  | true =>
    rw [hb] at hS hI
    have e : impl_Wheel_all.f now near far = some (near.flatten ++ far) := by
      unfold impl_Wheel_all.f impl_Timer_120.f
      rw [if_pos (by omega), Option.bind_some, if_pos (by omega)]
    refine ⟨stN (near.flatten ++ far) (near.flatten ++ far).length, ev_bind hS ?_, ev_bind hI ?_⟩
    · simp only [if_true]
      refine ev_bind (all_eq now near far hn hs hf) ?_
      exact next_l0 (near.flatten ++ far) (by rw [List.length_append]; omega) _ 0 rfl (by omega)
    · simp only [if_true, e, Option.bind_some]
      unfold stN
      by_cases c : (near.flatten ++ far).length = 0
      · rw [if_pos c]
        refine ev_const ?_
        rw [if_pos (by omega)]
      · rw [if_neg c, List.take_length]
        refine ev_const ?_
        rw [if_neg (by omega)]
        unfold impl_Timer_78.f
        rw [if_pos (by omega)]
        rfl

theorem FnExactWheelNext : BridgeFnExactWheelNext.Pure := by
  intro now l f _ hn hl hf _
  have hl' : ∀ x ∈ l, x.length * 16 ≤ 140737488351232 := fun x hx => (hl x hx).1
  refine ev_get (r := true) ?_
  unfold laws_FnExactWheelNext.f
  obtain ⟨r, hr, hr2⟩ := szWheel_eq now l f hn hl' hf
  refine ev_bind hr ?_
  by_cases c : r < 0
  · simp only [c, if_true]
    exact ev_const rfl
  · simp only [c, if_false]
    obtain ⟨h1, h2, h3⟩ := hr2 (by omega)
    have hW := toWheel_eq now l f (by omega) hl' hf
    have hcl : (convW l).length = l.length := by simp [convW]
    have hfc := flat_conv l
    have hsub : ∀ m, m < (convW l).length → (rd_L4 (convW l) (m : Int)).length ≤ 1048576 := fun m hm => by
      rw [rdL _ m hm]
      have := sub_len (convW l) _ (List.getElem_mem hm)
      omega
    obtain ⟨v, hS, hI⟩ := next_both now (convW l) (f.map convTimer) (by omega) (by omega) hsub (by simp; omega)
    have hE := eqWheel_same now (convW l) (f.map convTimer) (by omega) (fun x hx => by have := sub_len (convW l) x hx; omega) (by simp; omega)
    refine ev_bind hW ?_
    refine ev_bind hS ?_
    refine ev_bind hW ?_
    refine ev_bind hI ?_
    refine ev_yes rfl ?_
    refine ev_bind hW ?_
    refine ev_bind hE ?_
    simp only [if_true]
    exact ev_const rfl
end Go.Proofs.Ytenlceojmjkbkaa.Pure
