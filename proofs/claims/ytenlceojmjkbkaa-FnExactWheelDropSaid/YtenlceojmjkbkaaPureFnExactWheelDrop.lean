/- WheelDrop answers as the reference does, for every wheel and Id, writes into no argument and owns its answer. Conditions: none beyond the statement's own bounds. -/
import Derived.Test.YtenlceojmjkbkaaBridgeFnExactWheelDrop
namespace Go.Proofs.Ytenlceojmjkbkaa.Pure
open Go.RowKit Go.Proofs.Ytenlceojmjkbkaa.XFnExactWheelDrop Go.Proofs.Ytenlceojmjkbkaa.BridgeFnExactWheelDrop Go.Proofs.YtenlceojmjkbkaaW.PrintWords Go.Proofs.YtenlceojmjkbkaaW.PrintLast Go.Proofs.YtenlceojmjkbkaaW.PrintMore
set_option linter.unusedVariables false
set_option linter.unusedSimpArgs false

theorem wrap_small {x : Int} (h0 : -9223372036854775808 ≤ x) (h1 : x ≤ 9223372036854775807) : wrap64 x = x := by
  unfold wrap64
  omega
theorem i64_range {x : Int} (h : (Lit.int .i64 x).wf = true) : -9223372036854775808 ≤ x ∧ x ≤ 9223372036854775807 := by
  simp [Lit.wf, IntKind.min, IntKind.max, IntKind.bits, IntKind.signed] at h
  omega
theorem u64_range {x : Int} (h : (Lit.int .u64 x).wf = true) : 0 ≤ x ∧ x < 18446744073709551616 := by
  simp [Lit.wf, IntKind.min, IntKind.max, IntKind.bits, IntKind.signed] at h
  omega

theorem in_eq (a b c : Int) : impl_in.f a b c = some (decide (b ≤ a ∧ a ≤ c)) := by
  unfold impl_in.f
  by_cases h : b ≤ a <;> simp [h]

theorem rd150 (xs : List S150) (i : Nat) (h : i < xs.length) : rd_T150 xs (i : Int) = xs[i] := by
  unfold rd_T150
  rw [Int.toNat_natCast, List.getD_eq_getElem?_getD, List.getElem?_eq_getElem h]
  rfl

theorem rd91 (xs : List S91) (i : Nat) (h : i < xs.length) : rd_T91 xs (i : Int) = xs[i] := by
  unfold rd_T91
  rw [Int.toNat_natCast, List.getD_eq_getElem?_getD, List.getElem?_eq_getElem h]
  rfl

theorem set_fill {α β : Type} (l : List α) (f : α → β) (z : β) (i : Nat) (h : i < l.length) : ((l.take i).map f ++ List.replicate (l.length - i) z).set i (f l[i]) = (l.take (i + 1)).map f ++ List.replicate (l.length - (i + 1)) z := by
  have e : l.length - i = (l.length - (i + 1)) + 1 := by omega
  have hl : ((l.take i).map f).length = i := by simp; omega
  rw [e, List.replicate_succ, List.set_append_right i (f l[i]) (by omega), hl, Nat.sub_self, List.set_cons_zero, List.take_succ_eq_append_getElem h, List.map_append]
  simp
theorem succ_cast (i : Nat) (h : i < 9223372036854775807) : wrap64 ((i : Int) + 1) = ((i + 1 : Nat) : Int) := by
  rw [wrap_small (by omega) (by omega)]
  omega

theorem pred_cast (i : Nat) (h : 0 < i) (h2 : i < 9223372036854775807) : wrap64 ((i : Int) - 1) = ((i - 1 : Nat) : Int) := by
  rw [wrap_small (by omega) (by omega)]
  omega

def convTimer (x : S150) : S91 := ⟨x.f0, x.f1⟩
theorem toTimerS_loop (l : List S150) (hl : l.length * 16 ≤ 140737488351232) : ∀ (d k i : Nat), l.length - i = d → i ≤ l.length → d < k → laws_toTimerS.l0 k l ((l.take i).map convTimer ++ List.replicate (l.length - i) z91) (i : Int) = some (l.map convTimer) := by
  intro d
  induction d with
  | zero =>
    intro k i hd hi hk
    obtain ⟨k, rfl⟩ : ∃ m, k = m + 1 := ⟨k - 1, by omega⟩
    obtain rfl : i = l.length := by omega
    simp only [laws_toTimerS.l0]
    rw [if_neg (by omega)]
    simp
  | succ d ih =>
    intro k i hd hi hk
    obtain ⟨k, rfl⟩ : ∃ m, k = m + 1 := ⟨k - 1, by omega⟩
    have hlt : i < l.length := by omega
    simp only [laws_toTimerS.l0]
    rw [if_pos (by omega), if_pos (by omega)]
    simp only [laws_toTimer.f, Option.bind_some, rd150 l i hlt]
    rw [if_pos (by simp; omega), Int.toNat_natCast, succ_cast i (by omega)]
    have e := set_fill l convTimer z91 i hlt
    rw [show (⟨l[i].f0, l[i].f1⟩ : S91) = convTimer l[i] from rfl, e]
    exact ih k (i + 1) (by omega) (by omega) (by omega)
theorem toTimerS_eq (l : List S150) (hl : l.length * 16 ≤ 140737488351232) (k : Nat) (hk : l.length < k) : laws_toTimerS.f k l = some (l.map convTimer) := by
  unfold laws_toTimerS.f
  rw [if_pos (by omega), if_pos (by simp; omega)]
  have h := toTimerS_loop l hl l.length k 0 (by omega) (by omega) hk
  simpa using h

theorem eqTimer_same (x : S91) : laws_eqTimer.f (x.f0) (x.f1) (x.f0) (x.f1) = some true := by simp [laws_eqTimer.f]
theorem eqTimerS_loop (l : List S91) (hl : l.length < 9223372036854775807) : ∀ (d k i : Nat), l.length - i = d → i ≤ l.length → d < k → laws_eqTimerS.l0 k l l (i : Int) = some true := by
  intro d
  induction d with
  | zero =>
    intro k i hd hi hk
    obtain ⟨k, rfl⟩ : ∃ m, k = m + 1 := ⟨k - 1, by omega⟩
    simp only [laws_eqTimerS.l0]
    rw [if_neg (by omega)]
  | succ d ih =>
    intro k i hd hi hk
    obtain ⟨k, rfl⟩ : ∃ m, k = m + 1 := ⟨k - 1, by omega⟩
    have hlt : i < l.length := by omega
    simp only [laws_eqTimerS.l0]
    rw [if_pos (by omega), if_pos (by omega), if_pos (by omega), eqTimer_same]
    simp only [Option.bind_some, if_true]
    rw [succ_cast i (by omega)]
    exact ih k (i + 1) (by omega) (by omega) (by omega)
theorem eqTimerS_same (l : List S91) (hl : l.length < 9223372036854775807) (k : Nat) (hk : l.length < k) : laws_eqTimerS.f k l l = some true := by
  unfold laws_eqTimerS.f
  rw [if_pos rfl]
  exact eqTimerS_loop l hl l.length k 0 (by omega) (by omega) hk

theorem rdset91 (xs : List S91) (i j : Nat) (v : S91) (h : i < xs.length) : rd_T91 (xs.set i v) (j : Int) = if j = i then v else rd_T91 xs (j : Int) := by
  unfold rd_T91
  rw [Int.toNat_natCast, List.getD_eq_getElem?_getD, List.getD_eq_getElem?_getD, List.getElem?_set]
  by_cases e : j = i
  · subst e; simp [h]
  · have e' : i ≠ j := fun q => e q.symm
    simp [e, e']
def markOfTimer (c : Int) (j : Nat) : S91 := ⟨c + 2 * (j : Int), c + 2 * (j : Int) + 1⟩
theorem markTimerS_loop (c : Int) (hc0 : 0 ≤ c) (hc : c ≤ 1099511627776) (n : Nat) (hn : n ≤ 1048576) : ∀ (d k i : Nat) (x0 : List S91), x0.length = n → n - i = d → i ≤ n → d < k → (∀ j : Nat, j < i → rd_T91 x0 j = markOfTimer c j) →
    ∃ l', laws_markTimerS.l0 k x0 (c + 2 * (i : Int)) (i : Int) = some (c + 2 * (n : Int), l') ∧ l'.length = n ∧ ∀ j : Nat, j < n → rd_T91 l' j = markOfTimer c j := by
  intro d
  induction d with
  | zero =>
    intro k i x0 hx hd hi hk hm
    obtain ⟨k, rfl⟩ : ∃ m, k = m + 1 := ⟨k - 1, by omega⟩
    obtain rfl : i = n := by omega
    simp only [laws_markTimerS.l0]
    rw [if_neg (by omega)]
    exact ⟨x0, rfl, hx, hm⟩
  | succ d ih =>
    intro k i x0 hx hd hi hk hm
    obtain ⟨k, rfl⟩ : ∃ m, k = m + 1 := ⟨k - 1, by omega⟩
    simp only [laws_markTimerS.l0]
    rw [if_pos (by omega), if_pos (by omega)]
    simp only [Option.bind_some, Int.toNat_natCast, List.length_set, hx, rdset91, show i < n from by omega, if_true, List.set_set]
    rw [show wrap64 ((c + 2 * (i : Int)) + 1) = c + 2 * (i : Int) + 1 from by rw [wrap_small (by omega) (by omega)]]
    rw [show wrap64 ((c + 2 * (i : Int) + 1) + 1) = c + 2 * (i : Int) + 2 from by rw [wrap_small (by omega) (by omega)]; omega]
    obtain ⟨l', h1, h2, h3⟩ := ih k (i + 1) (x0.set i (markOfTimer c i)) (by simp [hx]) (by omega) (by omega) (by omega) (fun j hj => by
      rw [rdset91 _ _ _ _ (by omega)]
      by_cases e : j = i
      · rw [if_pos e, e]
      · rw [if_neg e]; exact hm j (by omega))
    refine ⟨l', ?_, h2, h3⟩
    rw [← h1, succ_cast i (by omega)]
    congr 1
    omega
theorem markTimerS_eq (c : Int) (hc0 : 0 ≤ c) (hc : c ≤ 1099511627776) (l : List S91) (hn : l.length ≤ 1048576) (k : Nat) (hk : l.length < k) : ∃ l', laws_markTimerS.f k l c = some (c + 2 * (l.length : Int), l') ∧ l'.length = l.length ∧ ∀ j : Nat, j < l.length → rd_T91 l' j = markOfTimer c j := by
  have h := markTimerS_loop c hc0 hc l.length hn l.length k 0 l rfl (by omega) (by omega) hk (fun j hj => absurd hj (by omega))
  unfold laws_markTimerS.f
  simpa using h

theorem heldTimerS_loop (c : Int) (hc0 : 0 ≤ c) (hc : c ≤ 1099511627776) (n : Nat) (hn : n ≤ 1048576) (l : List S91) (hl : l.length = n) (hm : ∀ j : Nat, j < n → rd_T91 l j = markOfTimer c j) : ∀ (d k i : Nat), n - i = d → i ≤ n → d < k → laws_heldTimerS.l0 k l (c + 2 * (i : Int)) (i : Int) = some (c + 2 * (n : Int)) := by
  intro d
  induction d with
  | zero =>
    intro k i hd hi hk
    obtain ⟨k, rfl⟩ : ∃ m, k = m + 1 := ⟨k - 1, by omega⟩
    obtain rfl : i = n := by omega
    simp only [laws_heldTimerS.l0]
    rw [if_neg (by omega)]
  | succ d ih =>
    intro k i hd hi hk
    obtain ⟨k, rfl⟩ : ∃ m, k = m + 1 := ⟨k - 1, by omega⟩
    simp only [laws_heldTimerS.l0, hm i (by omega)]
    rw [if_pos (by omega), if_pos (by omega)]
    rw [show wrap64 ((c + 2 * (i : Int)) + 1) = c + 2 * (i : Int) + 1 from by rw [wrap_small (by omega) (by omega)]]
    rw [show wrap64 ((c + 2 * (i : Int) + 1) + 1) = c + 2 * (i : Int) + 2 from by rw [wrap_small (by omega) (by omega)]; omega]
    simp only [markOfTimer, if_true]
    rw [succ_cast i (by omega)]
    have := ih k (i + 1) (by omega) (by omega) (by omega)
    rw [← this]
    congr 1
    omega
theorem heldTimerS_eq (c : Int) (hc0 : 0 ≤ c) (hc : c ≤ 1099511627776) (l : List S91) (n : Nat) (hl : l.length = n) (hn : n ≤ 1048576) (hm : ∀ j : Nat, j < n → rd_T91 l j = markOfTimer c j) (k : Nat) (hk : n < k) : laws_heldTimerS.f k l c = some (c + 2 * (n : Int)) := by
  have h := heldTimerS_loop c hc0 hc n hn l hl hm n k 0 (by omega) (by omega) hk
  unfold laws_heldTimerS.f
  simpa using h

/-! ### What holds from some number of rounds on -/
def Ev {α : Type} (f : Nat → Option α) (r : α) : Prop := ∃ c, ∀ k, c ≤ k → f k = some r
theorem ev_const {α : Type} {v : Option α} {r : α} (h : v = some r) : Ev (fun _ => v) r := ⟨0, fun _ _ => h⟩
theorem ev_from {α : Type} {f : Nat → Option α} {r : α} (c : Nat) (h : ∀ k, c ≤ k → f k = some r) : Ev f r := ⟨c, h⟩
theorem ev_succ {α : Type} {f : Nat → Option α} {r : α} (h : Ev (fun k => f (k + 1)) r) : Ev f r := by
  obtain ⟨c, h⟩ := h
  refine ⟨c + 1, fun k hk => ?_⟩
  obtain ⟨m, rfl⟩ : ∃ m, k = m + 1 := ⟨k - 1, by omega⟩
  exact h m (by omega)
theorem ev_bind {α β : Type} {f : Nat → Option α} {g : Nat → α → Option β} {a : α} {b : β} (hf : Ev f a) (hg : Ev (fun k => g k a) b) : Ev (fun k => (f k).bind (g k)) b := by
  obtain ⟨c, hc⟩ := hf
  obtain ⟨d, hd⟩ := hg
  refine ⟨max c d, fun k hk => ?_⟩
  simp only []
  rw [hc k (by omega), Option.bind_some]
  exact hd k (by omega)
theorem ev_get {α : Type} {f : Nat → Option α} {r : α} (h : Ev f r) : ∃ k, f k = some r := ⟨h.choose, h.choose_spec _ (Nat.le_refl _)⟩
theorem ev_yes {α : Type} {c : Prop} [Decidable c] {f g : Nat → Option α} {r : α} (h : c) (he : Ev f r) : Ev (fun k => if c then f k else g k) r := by simp only [h, if_true]; exact he
theorem ev_no {α : Type} {c : Prop} [Decidable c] {f g : Nat → Option α} {r : α} (h : ¬ c) (he : Ev g r) : Ev (fun k => if c then f k else g k) r := by simp only [h, if_false]; exact he
/-- A test of i, i + 1, .. -/
def allFrom (p : Nat → Bool) (i N : Nat) : Bool := (List.range' i (N - i)).all p
theorem allFrom_end (p : Nat → Bool) (N : Nat) : allFrom p N N = true := by simp [allFrom]
theorem allFrom_step (p : Nat → Bool) {i N : Nat} (h : i < N) : allFrom p i N = (p i && allFrom p (i + 1) N) := by
  unfold allFrom
  rw [show N - i = (N - (i + 1)) + 1 by omega, List.range'_succ, List.all_cons]
theorem allFrom_iff (p : Nat → Bool) (N : Nat) : allFrom p 0 N = true ↔ ∀ j, j < N → p j = true := by
  unfold allFrom
  rw [List.all_eq_true]
  exact ⟨fun h j hj => h j (by simp [List.mem_range'_1]; omega), fun h j hj => h j (by simp [List.mem_range'_1] at hj; omega)⟩
theorem ev_scan {F : Nat → Nat → Option Bool} (N : Nat) (p : Nat → Bool) (r : Bool) (hend : Ev (fun k => F k N) r)
    (hstep : ∀ i, i < N → ∀ b, Ev (fun k => F k (i + 1)) b → Ev (fun k => F k i) (p i && b)) : ∀ d i, N - i = d → i ≤ N → Ev (fun k => F k i) (allFrom p i N && r) := by
  intro d
  induction d with
  | zero =>
    intro i hd hi
    obtain rfl : i = N := by omega
    rw [allFrom_end, Bool.true_and]
    exact hend
  | succ d ih =>
    intro i hd hi
    rw [allFrom_step p (by omega), Bool.and_assoc]
    exact hstep i (by omega) _ (ih (i + 1) (by omega) (by omega))

/-! ### The reference's test -/
def befP (a b : S91) : Prop := a.f1 < b.f1 ∨ a.f1 = b.f1 ∧ a.f0 < b.f0
instance (a b : S91) : Decidable (befP a b) := by unfold befP; exact inferInstance
theorem before_eq (a b : S91) : spec_l08Before.f a.f0 a.f1 b.f0 b.f1 = some (decide (befP a b)) := by
  unfold spec_l08Before.f befP
  by_cases h1 : a.f1 < b.f1
  · simp [h1]
  · by_cases h2 : a.f1 = b.f1
    · simp [h2]
    · simp [h1, h2]
def pS3 (now : Int) (far : List S91) (i : Nat) : Bool := decide (now + 16 < (rd_T91 far i).f1) && (decide (i = 0) || decide (befP (rd_T91 far ((i - 1 : Nat) : Int)) (rd_T91 far i)))
theorem spec_l5 (now : Int) (near : List (List S91)) (far : List S91) (hw : wrap64 (now + 16) = now + 16) (hf : far.length ≤ 1048576) : Ev (fun k => spec_WheelRight.l5 k 0 now near far) (allFrom (pS3 now far) 0 far.length) := by
  have h := ev_scan (F := fun k i => spec_WheelRight.l5 k (i : Int) now near far) far.length (pS3 now far) true ?_ ?_ far.length 0 (by omega) (by omega)
  · simpa using h
  · refine ev_succ ?_
    simp only [spec_WheelRight.l5, show ¬ ((far.length : Int) < (far.length : Int)) by omega, if_false]
    exact ev_const rfl
  · intro i hi b hb
    have a1 : (i : Int) < (far.length : Int) := by omega
    have a2 : (0 : Int) ≤ (i : Int) := by omega
    refine ev_succ ?_
    by_cases c1 : (rd_T91 far i).f1 ≤ now + 16
    · simp only [spec_WheelRight.l5, a1, a2, if_true, hw, c1]
      rw [show pS3 now far i = false by unfold pS3; rw [decide_eq_false (by omega)]; rfl]
      exact ev_const rfl
    · by_cases h0 : (i : Int) > 0
      · have a3 : (0 : Int) ≤ ((i - 1 : Nat) : Int) := by omega
        have a4 : ((i - 1 : Nat) : Int) < (far.length : Int) := by omega
        simp only [spec_WheelRight.l5, a1, a2, if_true, hw, c1, if_false, h0, pred_cast i (by omega) (by omega), a3, a4, before_eq, Option.bind_some, succ_cast i (by omega)]
        rw [show pS3 now far i = decide (befP (rd_T91 far ((i - 1 : Nat) : Int)) (rd_T91 far i)) by unfold pS3; rw [decide_eq_true (by omega), decide_eq_false (show ¬ i = 0 by omega)]; rfl]
        by_cases c2 : befP (rd_T91 far ((i - 1 : Nat) : Int)) (rd_T91 far i)
        · simp only [c2, decide_true, if_true, Bool.true_and]
          exact hb
        · simp only [c2, decide_false, Bool.false_and]
          exact ev_const rfl
      · simp only [spec_WheelRight.l5, a1, a2, if_true, hw, c1, if_false, h0, succ_cast i (by omega)]
        rw [show pS3 now far i = true by unfold pS3; rw [decide_eq_true (by omega), decide_eq_true (show i = 0 by omega)]; rfl]
        exact hb
def pS2 (now : Int) (m : Nat) (l : List S91) (i : Nat) : Bool := decide ((rd_T91 l i).f1 ≤ now + 16) && (decide (Int.tmod (rd_T91 l i).f1 16 = (m : Int)) && (decide (i = 0) || decide ((rd_T91 l ((i - 1 : Nat) : Int)).f0 < (rd_T91 l i).f0)))
theorem spec_l4 (now : Int) (near : List (List S91)) (far : List S91) (hw : wrap64 (now + 16) = now + 16) (m : Nat) (hm : m < near.length) (hn : near.length ≤ 1048576) (hl : (rd_L4 near (m : Int)).length ≤ 1048576) (r : Bool) (hr : Ev (fun k => spec_WheelRight.l3 k ((m + 1 : Nat) : Int) now near far) r) :
    Ev (fun k => spec_WheelRight.l4 k (m : Int) 0 now near far) (allFrom (pS2 now m (rd_L4 near (m : Int))) 0 (rd_L4 near (m : Int)).length && r) := by
  have b1 : (0 : Int) ≤ (m : Int) := by omega
  have b2 : (m : Int) < (near.length : Int) := by omega
  refine ev_scan (F := fun k i => spec_WheelRight.l4 k (m : Int) (i : Int) now near far) _ (pS2 now m (rd_L4 near (m : Int))) r ?_ ?_ _ 0 rfl (by omega)
  · refine ev_succ ?_
    simp only [spec_WheelRight.l4, b1, b2, if_true, show ¬ (((rd_L4 near (m : Int)).length : Int) < ((rd_L4 near (m : Int)).length : Int)) by omega, if_false, succ_cast m (by omega)]
    exact hr
  · intro i hi b hb
    have a1 : (i : Int) < ((rd_L4 near (m : Int)).length : Int) := by omega
    have a2 : (0 : Int) ≤ (i : Int) := by omega
    refine ev_succ ?_
    by_cases c1 : (rd_T91 (rd_L4 near (m : Int)) i).f1 > now + 16
    · simp only [spec_WheelRight.l4, b1, b2, a1, a2, if_true, hw, c1]
      rw [show pS2 now m (rd_L4 near (m : Int)) i = false by unfold pS2; rw [decide_eq_false (by omega)]; rfl]
      exact ev_const rfl
    · by_cases c2 : Int.tmod (rd_T91 (rd_L4 near (m : Int)) i).f1 16 = (m : Int)
      · by_cases h0 : (i : Int) > 0
        · have a3 : (0 : Int) ≤ ((i - 1 : Nat) : Int) := by omega
          have a4 : ((i - 1 : Nat) : Int) < ((rd_L4 near (m : Int)).length : Int) := by omega
          simp only [spec_WheelRight.l4, b1, b2, a1, a2, if_true, hw, c1, if_false, c2, h0, pred_cast i (by omega) (by omega), a3, a4, succ_cast i (by omega)]
          rw [show pS2 now m (rd_L4 near (m : Int)) i = decide ((rd_T91 (rd_L4 near (m : Int)) ((i - 1 : Nat) : Int)).f0 < (rd_T91 (rd_L4 near (m : Int)) i).f0) by unfold pS2; rw [decide_eq_true (show (rd_T91 (rd_L4 near (m : Int)) i).f1 ≤ now + 16 by omega), decide_eq_true c2, decide_eq_false (show ¬ i = 0 by omega)]; rfl]
          by_cases c3 : (rd_T91 (rd_L4 near (m : Int)) i).f0 ≤ (rd_T91 (rd_L4 near (m : Int)) ((i - 1 : Nat) : Int)).f0
          · simp only [c3, if_true]
            rw [decide_eq_false (by omega)]
            exact ev_const rfl
          · simp only [c3, if_false]
            rw [decide_eq_true (by omega)]
            exact hb
        · simp only [spec_WheelRight.l4, b1, b2, a1, a2, if_true, hw, c1, if_false, c2, h0, succ_cast i (by omega)]
          rw [show pS2 now m (rd_L4 near (m : Int)) i = true by unfold pS2; rw [decide_eq_true (show (rd_T91 (rd_L4 near (m : Int)) i).f1 ≤ now + 16 by omega), decide_eq_true c2, decide_eq_true (show i = 0 by omega)]; rfl]
          exact hb
      · simp only [spec_WheelRight.l4, b1, b2, a1, a2, if_true, hw, c1, if_false, c2]
        rw [show pS2 now m (rd_L4 near (m : Int)) i = false by unfold pS2; rw [decide_eq_false c2]; simp]
        exact ev_const rfl
def nearS (now : Int) (near : List (List S91)) (m : Nat) : Bool := allFrom (pS2 now m (rd_L4 near (m : Int))) 0 (rd_L4 near (m : Int)).length
theorem spec_l3 (now : Int) (near : List (List S91)) (far : List S91) (hw : wrap64 (now + 16) = now + 16) (hn : near.length ≤ 1048576) (hl : ∀ m, m < near.length → (rd_L4 near (m : Int)).length ≤ 1048576) (hf : far.length ≤ 1048576) :
    Ev (fun k => spec_WheelRight.l3 k 0 now near far) (allFrom (nearS now near) 0 near.length && allFrom (pS3 now far) 0 far.length) := by
  refine ev_scan (F := fun k i => spec_WheelRight.l3 k (i : Int) now near far) _ (nearS now near) _ ?_ ?_ _ 0 rfl (by omega)
  · refine ev_succ ?_
    simp only [spec_WheelRight.l3, show ¬ ((near.length : Int) < (near.length : Int)) by omega, if_false]
    exact spec_l5 now near far hw hf
  · intro m hm b hb
    refine ev_succ ?_
    simp only [spec_WheelRight.l3, show (m : Int) < (near.length : Int) by omega, if_true]
    exact spec_l4 now near far hw m hm hn (hl m hm) b hb
def okT (now : Int) (x : S91) : Bool := decide (1 ≤ x.f0 ∧ x.f0 ≤ 1000000) && (decide (now < x.f1) && decide (x.f1 ≤ 1000000))
def neP (all : List S91) (i q : Nat) : Bool := decide ((rd_T91 all q).f0 ≠ (rd_T91 all i).f0)
theorem spec_l2 (now : Int) (near : List (List S91)) (far all : List S91) (ha : all.length ≤ 1048576) (i : Nat) (hi : i < all.length) (r : Bool) (hr : Ev (fun k => spec_WheelRight.l1 k all ((i + 1 : Nat) : Int) now near far) r) :
    Ev (fun k => spec_WheelRight.l2 k all (i : Int) 0 now near far) (allFrom (neP all i) 0 i && r) := by
  refine ev_scan (F := fun k q => spec_WheelRight.l2 k all (i : Int) (q : Int) now near far) _ (neP all i) r ?_ ?_ _ 0 rfl (by omega)
  · refine ev_succ ?_
    simp only [spec_WheelRight.l2, show ¬ ((i : Int) < (i : Int)) by omega, if_false, succ_cast i (by omega)]
    exact hr
  · intro q hq b hb
    refine ev_succ ?_
    simp only [spec_WheelRight.l2, show (q : Int) < (i : Int) by omega, show (0 : Int) ≤ (q : Int) by omega, show (q : Int) < (all.length : Int) by omega, show (0 : Int) ≤ (i : Int) by omega, show (i : Int) < (all.length : Int) by omega, if_true, succ_cast q (by omega)]
    by_cases c : (rd_T91 all q).f0 = (rd_T91 all i).f0
    · simp only [c, if_true]
      rw [show neP all i q = false by unfold neP; exact decide_eq_false (fun h => h c)]
      exact ev_const rfl
    · simp only [c, if_false]
      rw [show neP all i q = true by unfold neP; exact decide_eq_true c]
      exact hb
theorem spec_j3 (now : Int) (near : List (List S91)) (far all : List S91) (ha : all.length ≤ 1048576) (i : Nat) (hi : i < all.length) (r f : Bool) (hr : Ev (fun k => spec_WheelRight.l1 k all ((i + 1 : Nat) : Int) now near far) r) :
    Ev (fun k => spec_WheelRight.j3 k all (i : Int) f now near far) (!f && (allFrom (neP all i) 0 i && r)) := by
  refine ev_succ ?_
  cases f with
  | true => simp only [spec_WheelRight.j3, if_true]; exact ev_const rfl
  | false => simp only [spec_WheelRight.j3, Bool.false_eq_true, if_false]; exact spec_l2 now near far all ha i hi r hr
theorem l02_eq (a : Int) : spec_l02Id.f a = some (decide (1 ≤ a ∧ a ≤ 1000000)) := by
  unfold spec_l02Id.f
  by_cases h : a ≥ 1
  · rw [if_pos h]; simp; omega
  · rw [if_neg h]; simp; omega
theorem spec_l1 (now : Int) (near : List (List S91)) (far all : List S91) (hw : wrap64 (now + 16) = now + 16) (hn : near.length ≤ 1048576) (hl : ∀ m, m < near.length → (rd_L4 near (m : Int)).length ≤ 1048576) (hf : far.length ≤ 1048576) (ha : all.length ≤ 1048576) :
    Ev (fun k => spec_WheelRight.l1 k all 0 now near far) (allFrom (fun i => okT now (rd_T91 all i) && allFrom (neP all i) 0 i) 0 all.length && (allFrom (nearS now near) 0 near.length && allFrom (pS3 now far) 0 far.length)) := by
  refine ev_scan (F := fun k i => spec_WheelRight.l1 k all (i : Int) now near far) _ (fun i => okT now (rd_T91 all i) && allFrom (neP all i) 0 i) _ ?_ ?_ _ 0 rfl (by omega)
  · refine ev_succ ?_
    simp only [spec_WheelRight.l1, show ¬ ((all.length : Int) < (all.length : Int)) by omega, if_false]
    exact spec_l3 now near far hw hn hl hf
  · intro i hi b hb
    refine ev_succ ?_
    have J := fun f => spec_j3 now near far all ha i hi b f hb
    simp only [spec_WheelRight.l1, show (i : Int) < (all.length : Int) by omega, show (0 : Int) ≤ (i : Int) by omega, if_true, l02_eq, Option.bind_some]
    generalize rd_T91 all (i : Int) = x at *
    unfold okT
    rw [Bool.and_assoc]
    by_cases c1 : 1 ≤ x.f0 ∧ x.f0 ≤ 1000000
    · simp only [c1, and_self, decide_true, if_true, Bool.true_and]
      by_cases c2 : x.f1 ≤ now
      · simp only [c2, if_true]
        rw [decide_eq_false (show ¬ now < x.f1 by omega)]
        exact J true
      · simp only [c2, if_false]
        rw [decide_eq_true (show now < x.f1 by omega), Bool.true_and, show decide (x.f1 ≤ 1000000) = !decide (x.f1 > 1000000) by rw [← decide_not]; exact decide_eq_decide.2 (by omega)]
        exact J _
    · rw [decide_eq_false c1]
      simp only [Bool.false_eq_true, if_false, Bool.false_and]
      exact J true
theorem all_l0 (now : Int) (near : List (List S91)) (far : List S91) (hn : near.length ≤ 1048576) (hs : near.flatten.length ≤ 1048576) (hf : far.length ≤ 1048576) :
    ∀ d i : Nat, near.length - i = d → i ≤ near.length → Ev (fun k => spec_l08All.l0 k ((near.take i).flatten) (i : Int) now near far) (near.flatten ++ far) := by
  intro d
  induction d with
  | zero =>
    intro i hd hi
    obtain rfl : i = near.length := by omega
    refine ev_succ ?_
    simp only [spec_l08All.l0, show ¬ ((near.length : Int) < (near.length : Int)) by omega, if_false, List.take_length]
    rw [if_pos (by omega)]
    exact ev_const rfl
  | succ d ih =>
    intro i hd hi
    refine ev_succ ?_
    have e := flat_take near (i := i) (by omega)
    have h1 := flat_le near (i + 1)
    rw [e, List.length_append] at h1
    simp only [spec_l08All.l0, show (i : Int) < (near.length : Int) by omega, show (0 : Int) ≤ (i : Int) by omega, if_true, show (near.take i).flatten.length + (rd_L4 near (i : Int)).length < 8796093022208 by omega, ← e, succ_cast i (by omega)]
    exact ih (i + 1) (by omega) (by omega)
theorem all_eq (now : Int) (near : List (List S91)) (far : List S91) (hn : near.length ≤ 1048576) (hs : near.flatten.length ≤ 1048576) (hf : far.length ≤ 1048576) : Ev (fun k => spec_l08All.f k now near far) (near.flatten ++ far) := by
  have h := all_l0 now near far hn hs hf near.length 0 rfl (by omega)
  simpa [spec_l08All.f] using h
def spR (now : Int) (near : List (List S91)) (far : List S91) : Bool := allFrom (fun i => okT now (rd_T91 (near.flatten ++ far) i) && allFrom (neP (near.flatten ++ far) i) 0 i) 0 (near.flatten ++ far).length && (allFrom (nearS now near) 0 near.length && allFrom (pS3 now far) 0 far.length)
theorem spec_l0 (now : Int) (near : List (List S91)) (far : List S91) (hw : wrap64 (now + 16) = now + 16) (hn : near.length ≤ 1048576) (hs : near.flatten.length ≤ 1048576) (hl : ∀ m, m < near.length → (rd_L4 near (m : Int)).length ≤ 1048576) (hf : far.length ≤ 1048576) :
    ∀ d i : Nat, near.length - i = d → i ≤ near.length → Ev (fun k => spec_WheelRight.l0 k ((far.length + (near.take i).flatten.length : Nat) : Int) (i : Int) now near far) (decide (far.length + near.flatten.length ≤ 100) && spR now near far) := by
  intro d
  induction d with
  | zero =>
    intro i hd hi
    obtain rfl : i = near.length := by omega
    refine ev_succ ?_
    simp only [spec_WheelRight.l0, show ¬ ((near.length : Int) < (near.length : Int)) by omega, if_false, List.take_length]
    by_cases c : far.length + near.flatten.length ≤ 100
    · simp only [show ¬ (((far.length + near.flatten.length : Nat) : Int) > 100) by omega, if_false]
      rw [decide_eq_true c, Bool.true_and]
      refine ev_bind (all_eq now near far hn hs hf) ?_
      exact spec_l1 now near far (near.flatten ++ far) hw hn hl hf (by rw [List.length_append]; omega)
    · simp only [show ((far.length + near.flatten.length : Nat) : Int) > 100 by omega, if_true]
      rw [decide_eq_false c]
      exact ev_const rfl
  | succ d ih =>
    intro i hd hi
    refine ev_succ ?_
    have e := flat_take near (i := i) (by omega)
    have e2 := congrArg List.length e
    have h1 := flat_le near (i + 1)
    rw [List.length_append] at e2
    have hsum : wrap64 (((far.length + (near.take i).flatten.length : Nat) : Int) + ((rd_L4 near (i : Int)).length : Int)) = ((far.length + (near.take (i + 1)).flatten.length : Nat) : Int) := by
      rw [e2]; rw [wrap_small (by omega) (by omega)]; omega
    simp only [spec_WheelRight.l0, show (i : Int) < (near.length : Int) by omega, show (0 : Int) ≤ (i : Int) by omega, if_true, hsum, succ_cast i (by omega)]
    exact ih (i + 1) (by omega) (by omega)
def okNow (now : Int) (near : List (List S91)) : Bool := decide (0 ≤ now ∧ now ≤ 1000000) && decide (near.length = 16)
theorem spec_wheel (now : Int) (near : List (List S91)) (far : List S91) (hn : near.length ≤ 1048576) (hs : near.flatten.length ≤ 1048576) (hl : ∀ m, m < near.length → (rd_L4 near (m : Int)).length ≤ 1048576) (hf : far.length ≤ 1048576) :
    Ev (fun k => spec_WheelRight.f k now near far) (okNow now near && (decide (far.length + near.flatten.length ≤ 100) && spR now near far)) := by
  unfold spec_WheelRight.f spec_l07Time.f okNow
  have J1 : Ev (fun k => spec_WheelRight.j0 k true now near far) false := by
    refine ev_succ ?_
    simp only [spec_WheelRight.j0, if_true]
    exact ev_const rfl
  by_cases h0 : now ≥ 0
  · simp only [if_pos h0, Option.bind_some]
    by_cases h1 : now ≤ 1000000
    · rw [decide_eq_true (show 0 ≤ now ∧ now ≤ 1000000 from ⟨h0, h1⟩), decide_eq_true h1, Bool.true_and]
      simp only [if_true]
      by_cases c : near.length = 16
      · rw [decide_eq_true c, Bool.true_and, show ((near.length : Int) != 16) = false by rw [c]; rfl]
        refine ev_succ ?_
        simp only [spec_WheelRight.j0, Bool.false_eq_true, if_false]
        have := spec_l0 now near far (wrap_small (by omega) (by omega)) hn hs hl hf near.length 0 rfl (by omega)
        simpa using this
      · rw [decide_eq_false c, show ((near.length : Int) != 16) = true by simp; omega]
        exact J1
    · rw [decide_eq_false (show ¬ (0 ≤ now ∧ now ≤ 1000000) from fun h => h1 h.2), decide_eq_false h1]
      simp only [Bool.false_eq_true, if_false]
      exact J1
  · simp only [if_neg h0, Option.bind_some, Bool.false_eq_true, if_false]
    rw [decide_eq_false (show ¬ (0 ≤ now ∧ now ≤ 1000000) from fun h => h0 h.1)]
    exact J1

/-! ### The program's test -/
theorem isTime_eq (a : Int) : impl_isTime.f a = some (decide (0 ≤ a ∧ a ≤ 1000000)) := by simp [impl_isTime.f, in_eq]
theorem isTid_eq (a : Int) : impl_isId.f a = some (decide (1 ≤ a ∧ a ≤ 1000000)) := by simp [impl_isId.f, in_eq]
theorem compare_eq (x y : Int) : cmp_Compare_int64.f x y = some (cmpI x y) := cmpI_eq x y
theorem byTime_eq (a b : S91) : ∃ v : Int, (v < 0 ↔ befP a b) ∧ Ev (fun k => impl_byTime.f k a.f0 a.f1 b.f0 b.f1) v := by
  unfold impl_byTime.f
  simp only [compare_eq, Option.bind_some]
  have w1 : wrap64 (0 + 1) = 1 := (wrap_small (by omega) (by omega)).trans rfl
  have w2 : wrap64 (1 + 1) = 2 := (wrap_small (by omega) (by omega)).trans rfl
  have z : cmpI a.f1 b.f1 = 0 ↔ a.f1 = b.f1 := by unfold cmpI; split <;> (try split) <;> omega
  have n0 : cmpI a.f1 b.f1 < 0 ↔ a.f1 < b.f1 := by unfold cmpI; split <;> (try split) <;> omega
  have n1 : cmpI a.f0 b.f0 < 0 ↔ a.f0 < b.f0 := by unfold cmpI; split <;> (try split) <;> omega
  have z1 : cmpI a.f0 b.f0 = 0 ↔ a.f0 = b.f0 := by unfold cmpI; split <;> (try split) <;> omega
  have r0 : rd [cmpI a.f1 b.f1, cmpI a.f0 b.f0] 0 = cmpI a.f1 b.f1 := rfl
  have r1 : rd [cmpI a.f1 b.f1, cmpI a.f0 b.f0] 1 = cmpI a.f0 b.f0 := rfl
  have l2 : (([cmpI a.f1 b.f1, cmpI a.f0 b.f0] : List Int).length : Int) = 2 := rfl
  generalize cmpI a.f1 b.f1 = p at *
  generalize cmpI a.f0 b.f0 = q at *
  refine ⟨if p = 0 then q else p, ?_, ?_⟩
  · unfold befP
    split
    · rename_i h
      rw [n1]; have := z.1 h; omega
    · rename_i h
      rw [n0]; have : ¬ a.f1 = b.f1 := fun e => h (z.2 e)
      omega
  · refine ev_bind (g := fun _ t => some t) (a := if p = 0 then q else p) ?_ (ev_const rfl)
    unfold cmp_Or_int.f
    refine ev_succ ?_
    simp only [cmp_Or_int.l0, l2, r0, show (0 : Int) < 2 by omega, show (0 : Int) ≤ 0 by omega, if_true]
    by_cases hp : p = 0
    · simp only [hp, if_true, w1]
      refine ev_succ ?_
      simp only [cmp_Or_int.l0, show (1 : Int) < 2 by omega, show (0 : Int) ≤ 1 by omega, if_true]
      rw [hp] at r1 l2
      simp only [l2, show (1 : Int) < 2 by omega, if_true, r1]
      by_cases hq : q = 0
      · simp only [hq, if_true, w2]
        refine ev_succ ?_
        simp only [cmp_Or_int.l0, show ¬ ((2 : Int) < 2) by omega, if_false]
        exact ev_const rfl
      · simp only [hq, if_false]
        exact ev_const rfl
    · simp only [hp, if_false]
      exact ev_const rfl
def pI3 (s : List S91) (i : Nat) : Bool := decide (1 ≤ (rd_T91 s i).f0 ∧ (rd_T91 s i).f0 ≤ 1000000) && (decide (i = 0) || decide ((rd_T91 s ((i - 1 : Nat) : Int)).f0 ≠ (rd_T91 s i).f0))
theorem impl_l3 (s : List S91) (hs : s.length ≤ 1048576) : Ev (fun k => impl_WheelRight.l3 k s s (s.length : Int) 0) (allFrom (pI3 s) 0 s.length) := by
  have h := ev_scan (F := fun k i => impl_WheelRight.l3 k s s (s.length : Int) (i : Int)) s.length (pI3 s) true ?_ ?_ s.length 0 (by omega) (by omega)
  · simpa using h
  · refine ev_succ ?_
    simp only [impl_WheelRight.l3, show ¬ ((s.length : Int) < (s.length : Int)) by omega, if_false]
    exact ev_const rfl
  · intro i hi b hb
    refine ev_succ ?_
    by_cases c1 : 1 ≤ (rd_T91 s i).f0 ∧ (rd_T91 s i).f0 ≤ 1000000
    · by_cases h0 : (i : Int) > 0
      · simp only [impl_WheelRight.l3, show (i : Int) < (s.length : Int) by omega, show (0 : Int) ≤ (i : Int) by omega, if_true, isTid_eq, Option.bind_some, decide_eq_true c1, h0, pred_cast i (by omega) (by omega), show (0 : Int) ≤ ((i - 1 : Nat) : Int) by omega, show ((i - 1 : Nat) : Int) < (s.length : Int) by omega, succ_cast i (by omega)]
        rw [show pI3 s i = decide ((rd_T91 s ((i - 1 : Nat) : Int)).f0 ≠ (rd_T91 s i).f0) by unfold pI3; rw [decide_eq_true c1, decide_eq_false (show ¬ i = 0 by omega)]; rfl]
        by_cases c3 : (rd_T91 s ((i - 1 : Nat) : Int)).f0 = (rd_T91 s i).f0
        · simp only [c3, if_true]
          rw [decide_eq_false (fun h => h rfl)]
          exact ev_const rfl
        · simp only [c3, if_false]
          rw [decide_eq_true c3]
          exact hb
      · simp only [impl_WheelRight.l3, show (i : Int) < (s.length : Int) by omega, show (0 : Int) ≤ (i : Int) by omega, if_true, isTid_eq, Option.bind_some, decide_eq_true c1, h0, if_false, succ_cast i (by omega)]
        rw [show pI3 s i = true by unfold pI3; rw [decide_eq_true c1, decide_eq_true (show i = 0 by omega)]; rfl]
        exact hb
    · simp only [impl_WheelRight.l3, show (i : Int) < (s.length : Int) by omega, show (0 : Int) ≤ (i : Int) by omega, if_true, isTid_eq, Option.bind_some, decide_eq_false c1, Bool.false_eq_true, if_false]
      rw [show pI3 s i = false by unfold pI3; rw [decide_eq_false c1]; rfl]
      exact ev_const rfl
def pI2 (now : Int) (far : List S91) (i : Nat) : Bool := decide (now + 17 ≤ (rd_T91 far i).f1 ∧ (rd_T91 far i).f1 ≤ 1000000) && (decide (i = 0) || decide (befP (rd_T91 far ((i - 1 : Nat) : Int)) (rd_T91 far i)))
def srt3 (near : List (List S91)) (far : List S91) : Bool := allFrom (pI3 (sortL cfId (near.flatten ++ far))) 0 (near.flatten ++ far).length
theorem impl_l2 (now : Int) (near : List (List S91)) (far : List S91) (hw : wrap64 (wrap64 (now + 16) + 1) = now + 17) (hs : near.flatten.length ≤ 1048576) (hf : far.length ≤ 1048576) :
    Ev (fun k => impl_WheelRight.l2 k ((far.length + near.flatten.length : Nat) : Int) far (far.length : Int) 0 now near far) (allFrom (pI2 now far) 0 far.length && (decide (far.length + near.flatten.length ≤ 100) && srt3 near far)) := by
  refine ev_scan (F := fun k i => impl_WheelRight.l2 k ((far.length + near.flatten.length : Nat) : Int) far (far.length : Int) (i : Int) now near far) far.length (pI2 now far) _ ?_ ?_ _ 0 rfl (by omega)
  · refine ev_succ ?_
    simp only [impl_WheelRight.l2, show ¬ ((far.length : Int) < (far.length : Int)) by omega, if_false]
    by_cases c : far.length + near.flatten.length ≤ 100
    · simp only [show ¬ (((far.length + near.flatten.length : Nat) : Int) > 100) by omega, if_false]
      rw [decide_eq_true c, Bool.true_and]
      have hlen : (sortL cfId (near.flatten ++ far)).length = (near.flatten ++ far).length := sortL_length cfId swo_id _
      have e : impl_Wheel_all.f now near far = some (near.flatten ++ far) := by
        unfold impl_Wheel_all.f impl_Timer_120.f
        rw [if_pos (by omega), Option.bind_some, if_pos (by omega)]
      have hle : (near.flatten ++ far).length ≤ 1000 := by rw [List.length_append]; omega
      simp only [e, Option.bind_some, impl_Timer_71.f, hle, if_true]
      have h3 := impl_l3 (sortL cfId (near.flatten ++ far)) (by rw [hlen, List.length_append]; omega)
      unfold srt3
      rw [← hlen]
      exact h3
    · simp only [show ((far.length + near.flatten.length : Nat) : Int) > 100 by omega, if_true]
      rw [decide_eq_false c]
      exact ev_const rfl
  · intro i hi b hb
    refine ev_succ ?_
    by_cases c1 : now + 17 ≤ (rd_T91 far i).f1 ∧ (rd_T91 far i).f1 ≤ 1000000
    · by_cases h0 : (i : Int) > 0
      · simp only [impl_WheelRight.l2, show (i : Int) < (far.length : Int) by omega, show (0 : Int) ≤ (i : Int) by omega, if_true, in_eq, hw, Option.bind_some, decide_eq_true c1, h0, pred_cast i (by omega) (by omega), show (0 : Int) ≤ ((i - 1 : Nat) : Int) by omega, show ((i - 1 : Nat) : Int) < (far.length : Int) by omega, succ_cast i (by omega)]
        rw [show pI2 now far i = decide (befP (rd_T91 far ((i - 1 : Nat) : Int)) (rd_T91 far i)) by unfold pI2; rw [decide_eq_true c1, decide_eq_false (show ¬ i = 0 by omega)]; rfl]
        obtain ⟨v, hv, hE⟩ := byTime_eq (rd_T91 far ((i - 1 : Nat) : Int)) (rd_T91 far i)
        refine ev_bind hE ?_
        by_cases c3 : v ≥ 0
        · simp only [c3, if_true]
          rw [decide_eq_false (fun h => by have := hv.2 h; omega)]
          exact ev_const rfl
        · simp only [c3, if_false]
          rw [decide_eq_true (hv.1 (by omega))]
          exact hb
      · simp only [impl_WheelRight.l2, show (i : Int) < (far.length : Int) by omega, show (0 : Int) ≤ (i : Int) by omega, if_true, in_eq, hw, Option.bind_some, decide_eq_true c1, h0, if_false, succ_cast i (by omega)]
        rw [show pI2 now far i = true by unfold pI2; rw [decide_eq_true c1, decide_eq_true (show i = 0 by omega)]; rfl]
        exact hb
    · simp only [impl_WheelRight.l2, show (i : Int) < (far.length : Int) by omega, show (0 : Int) ≤ (i : Int) by omega, if_true, in_eq, hw, Option.bind_some, decide_eq_false c1, Bool.false_eq_true, if_false]
      rw [show pI2 now far i = false by unfold pI2; rw [decide_eq_false c1]; rfl]
      exact ev_const rfl
def pI1 (now : Int) (m : Nat) (l : List S91) (i : Nat) : Bool := decide (now + 1 ≤ (rd_T91 l i).f1 ∧ (rd_T91 l i).f1 ≤ now + 16) && (decide ((rd_T91 l i).f1 ≤ 1000000) && (decide (Int.tmod (rd_T91 l i).f1 16 = (m : Int)) && (decide (i = 0) || decide ((rd_T91 l ((i - 1 : Nat) : Int)).f0 < (rd_T91 l i).f0))))
theorem impl_l1 (now : Int) (near : List (List S91)) (far : List S91) (hw : wrap64 (now + 16) = now + 16) (hw1 : wrap64 (now + 1) = now + 1) (m : Nat) (hm : m < near.length) (hn : near.length ≤ 1048576) (l : List S91) (hl : l.length ≤ 1048576) (s : Int) (r : Bool) (hr : Ev (fun k => impl_WheelRight.l0 k s near (near.length : Int) ((m + 1 : Nat) : Int) now near far) r) :
    Ev (fun k => impl_WheelRight.l1 k s (m : Int) l near (near.length : Int) (m : Int) l (l.length : Int) 0 now near far) (allFrom (pI1 now m l) 0 l.length && r) := by
  refine ev_scan (F := fun k i => impl_WheelRight.l1 k s (m : Int) l near (near.length : Int) (m : Int) l (l.length : Int) (i : Int) now near far) _ (pI1 now m l) r ?_ ?_ _ 0 rfl (by omega)
  · refine ev_succ ?_
    simp only [impl_WheelRight.l1, show ¬ ((l.length : Int) < (l.length : Int)) by omega, if_false, succ_cast m (by omega)]
    exact hr
  · intro i hi b hb
    refine ev_succ ?_
    have a1 : (i : Int) < (l.length : Int) := by omega
    have a2 : (0 : Int) ≤ (i : Int) := by omega
    by_cases c0 : now + 1 ≤ (rd_T91 l i).f1 ∧ (rd_T91 l i).f1 ≤ now + 16
    · by_cases c1 : (rd_T91 l i).f1 > 1000000
      · simp only [impl_WheelRight.l1, a1, a2, if_true, in_eq, hw, hw1, Option.bind_some, decide_eq_true c0, c1]
        rw [show pI1 now m l i = false by unfold pI1; rw [decide_eq_false (show ¬ (rd_T91 l i).f1 ≤ 1000000 by omega)]; simp]
        exact ev_const rfl
      · by_cases c2 : Int.tmod (rd_T91 l i).f1 16 = (m : Int)
        · by_cases h0 : (i : Int) > 0
          · simp only [impl_WheelRight.l1, a1, a2, if_true, in_eq, hw, hw1, Option.bind_some, decide_eq_true c0, c1, if_false, c2, h0, pred_cast i (by omega) (by omega), show (0 : Int) ≤ ((i - 1 : Nat) : Int) by omega, show ((i - 1 : Nat) : Int) < (l.length : Int) by omega, succ_cast i (by omega)]
            rw [show pI1 now m l i = decide ((rd_T91 l ((i - 1 : Nat) : Int)).f0 < (rd_T91 l i).f0) by unfold pI1; rw [decide_eq_true c0, decide_eq_true (show (rd_T91 l i).f1 ≤ 1000000 by omega), decide_eq_true c2, decide_eq_false (show ¬ i = 0 by omega)]; rfl]
            by_cases c3 : (rd_T91 l ((i - 1 : Nat) : Int)).f0 ≥ (rd_T91 l i).f0
            · simp only [c3, if_true]
              rw [decide_eq_false (by omega)]
              exact ev_const rfl
            · simp only [c3, if_false]
              rw [decide_eq_true (by omega)]
              exact hb
          · simp only [impl_WheelRight.l1, a1, a2, if_true, in_eq, hw, hw1, Option.bind_some, decide_eq_true c0, c1, if_false, c2, h0, succ_cast i (by omega)]
            rw [show pI1 now m l i = true by unfold pI1; rw [decide_eq_true c0, decide_eq_true (show (rd_T91 l i).f1 ≤ 1000000 by omega), decide_eq_true c2, decide_eq_true (show i = 0 by omega)]; rfl]
            exact hb
        · simp only [impl_WheelRight.l1, a1, a2, if_true, in_eq, hw, hw1, Option.bind_some, decide_eq_true c0, c1, if_false, c2]
          rw [show pI1 now m l i = false by unfold pI1; rw [decide_eq_false c2]; simp]
          exact ev_const rfl
    · simp only [impl_WheelRight.l1, a1, a2, if_true, in_eq, hw, hw1, Option.bind_some, decide_eq_false c0, Bool.false_eq_true, if_false]
      rw [show pI1 now m l i = false by unfold pI1; rw [decide_eq_false c0]; rfl]
      exact ev_const rfl
def nearI (now : Int) (near : List (List S91)) (m : Nat) : Bool := allFrom (pI1 now m (rd_L4 near (m : Int))) 0 (rd_L4 near (m : Int)).length
theorem impl_l0 (now : Int) (near : List (List S91)) (far : List S91) (hnow : 0 ≤ now ∧ now ≤ 1000000) (hn : near.length ≤ 1048576) (hs : near.flatten.length ≤ 1048576) (hl : ∀ m, m < near.length → (rd_L4 near (m : Int)).length ≤ 1048576) (hf : far.length ≤ 1048576) :
    Ev (fun k => impl_WheelRight.l0 k (far.length : Int) near (near.length : Int) 0 now near far) (allFrom (nearI now near) 0 near.length && (allFrom (pI2 now far) 0 far.length && (decide (far.length + near.flatten.length ≤ 100) && srt3 near far))) := by
  have hw : wrap64 (now + 16) = now + 16 := wrap_small (by omega) (by omega)
  have h := ev_scan (F := fun k i => impl_WheelRight.l0 k ((far.length + (near.take i).flatten.length : Nat) : Int) near (near.length : Int) (i : Int) now near far) near.length (nearI now near) (allFrom (pI2 now far) 0 far.length && (decide (far.length + near.flatten.length ≤ 100) && srt3 near far)) ?_ ?_ near.length 0 rfl (by omega)
  · simpa using h
  · refine ev_succ ?_
    simp only [impl_WheelRight.l0, show ¬ ((near.length : Int) < (near.length : Int)) by omega, if_false, List.take_length]
    exact impl_l2 now near far (by rw [hw, wrap_small (by omega) (by omega)]; omega) hs hf
  · intro m hm b hb
    refine ev_succ ?_
    have e2 := congrArg List.length (flat_take near hm)
    have h1 := flat_le near (m + 1)
    rw [List.length_append] at e2
    have hsum : wrap64 (((far.length + (near.take m).flatten.length : Nat) : Int) + ((rd_L4 near (m : Int)).length : Int)) = ((far.length + (near.take (m + 1)).flatten.length : Nat) : Int) := by
      rw [e2]; rw [wrap_small (by omega) (by omega)]; omega
    simp only [impl_WheelRight.l0, show (m : Int) < (near.length : Int) by omega, show (0 : Int) ≤ (m : Int) by omega, if_true, hsum]
    exact impl_l1 now near far hw (wrap_small (by omega) (by omega)) m hm hn (rd_L4 near (m : Int)) (hl m hm) _ b hb
theorem impl_wheel (now : Int) (near : List (List S91)) (far : List S91) (hn : near.length ≤ 1048576) (hs : near.flatten.length ≤ 1048576) (hl : ∀ m, m < near.length → (rd_L4 near (m : Int)).length ≤ 1048576) (hf : far.length ≤ 1048576) :
    Ev (fun k => impl_WheelRight.f k now near far) (okNow now near && (allFrom (nearI now near) 0 near.length && (allFrom (pI2 now far) 0 far.length && (decide (far.length + near.flatten.length ≤ 100) && srt3 near far)))) := by
  unfold impl_WheelRight.f okNow
  have J1 : Ev (fun k => impl_WheelRight.j0 k true now near far) false := by
    refine ev_succ ?_
    simp only [impl_WheelRight.j0, if_true]
    exact ev_const rfl
  simp only [isTime_eq, Option.bind_some]
  by_cases h1 : 0 ≤ now ∧ now ≤ 1000000
  · rw [decide_eq_true h1, Bool.true_and]
    simp only [if_true]
    by_cases c : near.length = 16
    · rw [decide_eq_true c, Bool.true_and, show ((near.length : Int) != 16) = false by rw [c]; rfl]
      refine ev_succ ?_
      simp only [impl_WheelRight.j0, Bool.false_eq_true, if_false]
      exact impl_l0 now near far h1 hn hs hl hf
    · rw [decide_eq_false c, show ((near.length : Int) != 16) = true by simp; omega]
      exact J1
  · rw [decide_eq_false h1]
    simp only [Bool.false_eq_true, if_false]
    exact J1
theorem sort_perm {α : Type} [Inhabited α] (cf : α → α → Int) (hO : Sort.SWO (ltOf cf)) (l : List α) : (sortL cf l).Perm l := by
  have h := (sortL_facts cf hO l).1
  have hs := h.1
  have hp := h.2.2
  rw [List.size_toArray] at hs
  have e1 : ∀ d : Array α, d.size = l.length → d.extract 0 l.toArray.size = d := fun d hd => by
    rw [List.size_toArray, ← hd]; simp
  rw [e1 _ hs, e1 _ (by simp)] at hp
  exact hp
theorem sort_sorted {α : Type} [Inhabited α] (cf : α → α → Int) (hO : Sort.SWO (ltOf cf)) (l : List α) : (sortL cf l).Pairwise (fun x y => ltOf cf y x = false) := by
  have h := (sortL_facts cf hO l).2
  have hs := (sortL_facts cf hO l).1.1
  rw [List.pairwise_iff_getElem]
  intro i j hi hj hij
  unfold sortL at hi hj ⊢
  rw [Array.length_toList] at hi hj
  have := h i j (Nat.zero_le _) hij (by rw [← hs]; exact hj)
  rw [getElem!_pos _ j hj, getElem!_pos _ i hi] at this
  simpa using this

/-! ### Both tests -/
theorem idx_iff (l : List S91) (Q : S91 → Prop) (R : S91 → S91 → Prop) : (∀ j, j < l.length → Q (rd_T91 l (j : Int)) ∧ (0 < j → R (rd_T91 l ((j - 1 : Nat) : Int)) (rd_T91 l (j : Int)))) ↔ (∀ x ∈ l, Q x) ∧ ∀ (j : Nat) (h : j + 1 < l.length), R l[j] l[j + 1] := by
  constructor
  · intro h
    refine ⟨fun x hx => ?_, fun j hj => ?_⟩
    · obtain ⟨j, hj, rfl⟩ := List.mem_iff_getElem.1 hx
      have := (h j hj).1
      rwa [rd91 l j hj] at this
    · have := (h (j + 1) hj).2 (by omega)
      rwa [show j + 1 - 1 = j by omega, rd91 l j (by omega), rd91 l (j + 1) hj] at this
  · intro ⟨h1, h2⟩ j hj
    refine ⟨by rw [rd91 l j hj]; exact h1 _ (List.getElem_mem hj), fun h0 => ?_⟩
    obtain ⟨i, rfl⟩ : ∃ i, j = i + 1 := ⟨j - 1, by omega⟩
    rw [show i + 1 - 1 = i by omega, rd91 l i (by omega), rd91 l (i + 1) hj]
    exact h2 i hj
theorem zero_or (i : Nat) (p : Prop) [Decidable p] : (decide (i = 0) || decide p) = true ↔ (0 < i → p) := by
  rw [Bool.or_eq_true, decide_eq_true_eq, decide_eq_true_eq]
  constructor
  · intro h h0; rcases h with h | h
    · omega
    · exact h
  · intro h
    by_cases h0 : i = 0
    · exact .inl h0
    · exact .inr (h (by omega))
theorem s3_iff (now : Int) (far : List S91) : allFrom (pS3 now far) 0 far.length = true ↔ (∀ x ∈ far, now + 16 < x.f1) ∧ ∀ (j : Nat) (h : j + 1 < far.length), befP far[j] far[j + 1] := by
  rw [allFrom_iff, ← idx_iff far (fun x => now + 16 < x.f1) befP]
  refine forall_congr' fun j => forall_congr' fun _ => ?_
  unfold pS3
  rw [Bool.and_eq_true, zero_or, decide_eq_true_eq]
theorem i2_iff (now : Int) (far : List S91) : allFrom (pI2 now far) 0 far.length = true ↔ (∀ x ∈ far, now + 17 ≤ x.f1 ∧ x.f1 ≤ 1000000) ∧ ∀ (j : Nat) (h : j + 1 < far.length), befP far[j] far[j + 1] := by
  rw [allFrom_iff, ← idx_iff far (fun x => now + 17 ≤ x.f1 ∧ x.f1 ≤ 1000000) befP]
  refine forall_congr' fun j => forall_congr' fun _ => ?_
  unfold pI2
  rw [Bool.and_eq_true, zero_or, decide_eq_true_eq]
theorem s2_iff (now : Int) (m : Nat) (l : List S91) : allFrom (pS2 now m l) 0 l.length = true ↔ (∀ x ∈ l, x.f1 ≤ now + 16 ∧ Int.tmod x.f1 16 = (m : Int)) ∧ ∀ (j : Nat) (h : j + 1 < l.length), l[j].f0 < l[j + 1].f0 := by
  rw [allFrom_iff, ← idx_iff l (fun x => x.f1 ≤ now + 16 ∧ Int.tmod x.f1 16 = (m : Int)) (fun a b => a.f0 < b.f0)]
  refine forall_congr' fun j => forall_congr' fun _ => ?_
  unfold pS2
  rw [Bool.and_eq_true, Bool.and_eq_true, zero_or, decide_eq_true_eq, decide_eq_true_eq, and_assoc]
theorem i1_iff (now : Int) (m : Nat) (l : List S91) : allFrom (pI1 now m l) 0 l.length = true ↔ (∀ x ∈ l, (now + 1 ≤ x.f1 ∧ x.f1 ≤ now + 16) ∧ x.f1 ≤ 1000000 ∧ Int.tmod x.f1 16 = (m : Int)) ∧ ∀ (j : Nat) (h : j + 1 < l.length), l[j].f0 < l[j + 1].f0 := by
  rw [allFrom_iff, ← idx_iff l (fun x => (now + 1 ≤ x.f1 ∧ x.f1 ≤ now + 16) ∧ x.f1 ≤ 1000000 ∧ Int.tmod x.f1 16 = (m : Int)) (fun a b => a.f0 < b.f0)]
  refine forall_congr' fun j => forall_congr' fun _ => ?_
  unfold pI1
  rw [Bool.and_eq_true, Bool.and_eq_true, Bool.and_eq_true, zero_or, decide_eq_true_eq, decide_eq_true_eq, decide_eq_true_eq]
  simp only [and_assoc]
theorem i3_iff (s : List S91) : allFrom (pI3 s) 0 s.length = true ↔ (∀ x ∈ s, 1 ≤ x.f0 ∧ x.f0 ≤ 1000000) ∧ ∀ (j : Nat) (h : j + 1 < s.length), s[j].f0 ≠ s[j + 1].f0 := by
  rw [allFrom_iff, ← idx_iff s (fun x => 1 ≤ x.f0 ∧ x.f0 ≤ 1000000) (fun a b => a.f0 ≠ b.f0)]
  refine forall_congr' fun j => forall_congr' fun _ => ?_
  unfold pI3
  rw [Bool.and_eq_true, zero_or, decide_eq_true_eq]
theorem s1_iff (now : Int) (l : List S91) : allFrom (fun i => okT now (rd_T91 l i) && allFrom (neP l i) 0 i) 0 l.length = true ↔ (∀ x ∈ l, (1 ≤ x.f0 ∧ x.f0 ≤ 1000000) ∧ now < x.f1 ∧ x.f1 ≤ 1000000) ∧ l.Pairwise (fun a b => a.f0 ≠ b.f0) := by
  rw [allFrom_iff, List.pairwise_iff_getElem]
  have key : ∀ j, j < l.length → (((okT now (rd_T91 l (j : Int)) && allFrom (neP l j) 0 j) = true) ↔ (((1 ≤ (rd_T91 l (j : Int)).f0 ∧ (rd_T91 l (j : Int)).f0 ≤ 1000000) ∧ now < (rd_T91 l (j : Int)).f1 ∧ (rd_T91 l (j : Int)).f1 ≤ 1000000) ∧ ∀ q, q < j → (rd_T91 l (q : Int)).f0 ≠ (rd_T91 l (j : Int)).f0)) := fun j hj => by
    rw [Bool.and_eq_true, allFrom_iff]
    unfold okT neP
    simp only [Bool.and_eq_true, decide_eq_true_eq]
  constructor
  · intro h
    refine ⟨fun x hx => ?_, fun q j hq hj hqj => ?_⟩
    · obtain ⟨j, hj, rfl⟩ := List.mem_iff_getElem.1 hx
      have := ((key j hj).1 (h j hj)).1
      rwa [rd91 l j hj] at this
    · have := ((key j hj).1 (h j hj)).2 q hqj
      rwa [rd91 l j hj, rd91 l q hq] at this
  · intro ⟨h1, h2⟩ j hj
    refine (key j hj).2 ⟨by rw [rd91 l j hj]; exact h1 _ (List.getElem_mem hj), fun q hq => ?_⟩
    rw [rd91 l j hj, rd91 l q (by omega)]
    exact h2 q j (by omega) hj hq
theorem adj_ne (s : List S91) (hso : s.Pairwise (fun x y => x.f0 ≤ y.f0)) : (∀ (j : Nat) (h : j + 1 < s.length), s[j].f0 ≠ s[j + 1].f0) ↔ s.Pairwise (fun a b => a.f0 ≠ b.f0) := by
  rw [List.pairwise_iff_getElem] at hso ⊢
  constructor
  · intro h q j hq hj hqj e
    have h1 := h q (by omega)
    have h2 := hso q (q + 1) hq (by omega) (by omega)
    by_cases hj2 : j = q + 1
    · subst hj2; exact h1 e
    · have h3 := hso (q + 1) j (by omega) hj (by omega)
      omega
  · intro h j hj
    exact h j (j + 1) (by omega) hj (by omega)
theorem srt3_iff (near : List (List S91)) (far : List S91) : srt3 near far = true ↔ (∀ x ∈ near.flatten ++ far, 1 ≤ x.f0 ∧ x.f0 ≤ 1000000) ∧ (near.flatten ++ far).Pairwise (fun a b => a.f0 ≠ b.f0) := by
  unfold srt3
  have hp := sort_perm cfId swo_id (near.flatten ++ far)
  have hso := sort_sorted cfId swo_id (near.flatten ++ far)
  rw [← hp.length_eq, i3_iff, adj_ne _ (hso.imp (fun {x y} h => by rw [ltOf_id] at h; have := of_decide_eq_false h; omega)), hp.pairwise_iff (fun h => fun e => h e.symm)]
  exact and_congr_left fun _ => ⟨fun h x hx => h x (hp.symm.subset hx), fun h x hx => h x (hp.subset hx)⟩
theorem rdL (near : List (List S91)) (m : Nat) (h : m < near.length) : rd_L4 near (m : Int) = near[m] := by simp [rd_L4, List.getD_eq_getElem?_getD, h]
theorem both_eq (now : Int) (near : List (List S91)) (far : List S91) : (allFrom (nearI now near) 0 near.length && (allFrom (pI2 now far) 0 far.length && (decide (far.length + near.flatten.length ≤ 100) && srt3 near far))) = (decide (far.length + near.flatten.length ≤ 100) && spR now near far) := by
  apply Bool.eq_iff_iff.2
  unfold spR
  simp only [Bool.and_eq_true, s1_iff, s3_iff, i2_iff, srt3_iff]
  rw [allFrom_iff, allFrom_iff]
  unfold nearI nearS
  simp only [s2_iff, i1_iff]
  have mem : ∀ m (hm : m < near.length), ∀ x ∈ rd_L4 near (m : Int), x ∈ near.flatten ++ far := fun m hm x hx => by
    rw [rdL near m hm] at hx
    exact List.mem_append_left _ (List.mem_flatten.2 ⟨_, List.getElem_mem hm, hx⟩)
  have mem' : ∀ x ∈ near.flatten, ∃ m, m < near.length ∧ x ∈ rd_L4 near (m : Int) := fun x hx => by
    obtain ⟨l, hl, hx⟩ := List.mem_flatten.1 hx
    obtain ⟨m, hm, rfl⟩ := List.mem_iff_getElem.1 hl
    exact ⟨m, hm, by rw [rdL near m hm]; exact hx⟩
  constructor
  · rintro ⟨hN, ⟨hF, hR⟩, hc, hid, hpw⟩
    refine ⟨hc, ⟨fun x hx => ⟨hid x hx, ?_⟩, hpw⟩, fun m hm => ⟨fun x hx => ?_, (hN m hm).2⟩, fun x hx => ?_, hR⟩
    · rcases List.mem_append.1 hx with h | h
      · obtain ⟨m, hm, h⟩ := mem' x h
        have := (hN m hm).1 x h
        omega
      · have := hF x h
        omega
    · have := (hN m hm).1 x hx
      exact ⟨this.1.2, this.2.2⟩
    · have := hF x hx
      omega
  · rintro ⟨hc, ⟨hA, hpw⟩, hN, hF, hR⟩
    refine ⟨fun m hm => ⟨fun x hx => ?_, (hN m hm).2⟩, ⟨fun x hx => ?_, hR⟩, hc, fun x hx => (hA x hx).1, hpw⟩
    · have h1 := hA x (mem m hm x hx)
      have h2 := (hN m hm).1 x hx
      exact ⟨⟨by omega, h2.1⟩, h1.2.2, h2.2⟩
    · have h1 := hA x (List.mem_append_right _ hx)
      have h2 := hF x hx
      omega

/-! ### The rows of rows -/
def convW (l : List (List S150)) : List (List S91) := l.map fun x => x.map convTimer
theorem rdLi (l : List (List S150)) (m : Nat) (h : m < l.length) : rd_L2 l (m : Int) = l[m] := by simp [rd_L2, List.getD_eq_getElem?_getD, h]
theorem toSS_eq (l : List (List S150)) (hn : l.length ≤ 1048576) (hl : ∀ x ∈ l, x.length * 16 ≤ 140737488351232) : Ev (fun k => laws_toTimerSS.f k l) (convW l) := by
  have loop : ∀ d i : Nat, l.length - i = d → i ≤ l.length → Ev (fun k => laws_toTimerSS.l0 k l ((l.take i).map (fun x => x.map convTimer) ++ List.replicate (l.length - i) []) (i : Int)) (convW l) := by
    intro d
    induction d with
    | zero =>
      intro i hd hi
      obtain rfl : i = l.length := by omega
      refine ev_succ ?_
      simp only [laws_toTimerSS.l0, show ¬ ((l.length : Int) < (l.length : Int)) by omega, if_false]
      exact ev_const (by simp [convW])
    | succ d ih =>
      intro i hd hi
      have hlt : i < l.length := by omega
      refine ev_succ ?_
      simp only [laws_toTimerSS.l0, show (i : Int) < (l.length : Int) by omega, show (0 : Int) ≤ (i : Int) by omega, if_true]
      refine ev_bind (ev_from ((rd_L2 l (i : Int)).length + 1) fun k hk => toTimerS_eq _ (by rw [rdLi l i hlt]; exact hl _ (List.getElem_mem hlt)) k (by omega)) ?_
      refine ev_yes (by simp; omega) ?_
      simp only [Int.toNat_natCast, succ_cast i (show i < 9223372036854775807 by omega), rdLi l i hlt, set_fill l (fun x => x.map convTimer) [] i hlt]
      exact ih (i + 1) (by omega) (by omega)
  unfold laws_toTimerSS.f
  refine ev_yes (by omega) (ev_yes (by simp; omega) ?_)
  have := loop l.length 0 rfl (by omega)
  simpa using this
theorem toWheel_eq (now : Int) (l : List (List S150)) (f : List S150) (hn : l.length ≤ 1048576) (hl : ∀ x ∈ l, x.length * 16 ≤ 140737488351232) (hf : f.length * 16 ≤ 140737488351232) : Ev (fun k => laws_toWheel.f k now l f) (now, convW l, f.map convTimer) := by
  unfold laws_toWheel.f
  refine ev_bind (toSS_eq l hn hl) ?_
  refine ev_bind (ev_from (f.length + 1) fun k hk => toTimerS_eq f hf k (by omega)) ?_
  exact ev_const rfl
theorem eqSS_same (l : List (List S91)) (hn : l.length ≤ 1048576) (hl : ∀ x ∈ l, x.length < 9223372036854775807) : Ev (fun k => laws_eqTimerSS.f k l l) true := by
  unfold laws_eqTimerSS.f
  refine ev_yes rfl ?_
  have h := ev_scan (F := fun k i => laws_eqTimerSS.l0 k l l (i : Int)) l.length (fun _ => true) true ?_ ?_ l.length 0 rfl (by omega)
  · have e : allFrom (fun _ => true) 0 l.length = true := (allFrom_iff _ _).2 fun _ _ => rfl
    rw [e] at h
    exact h
  · refine ev_succ ?_
    simp only [laws_eqTimerSS.l0, show ¬ ((l.length : Int) < (l.length : Int)) by omega, if_false]
    exact ev_const rfl
  · intro i hi b hb
    refine ev_succ ?_
    simp only [laws_eqTimerSS.l0, show (i : Int) < (l.length : Int) by omega, show (0 : Int) ≤ (i : Int) by omega, if_true, succ_cast i (by omega)]
    refine ev_bind (a := true) (ev_from ((rd_L4 l (i : Int)).length + 1) fun k hk => eqTimerS_same _ (by rw [rdL l i hi]; exact hl _ (List.getElem_mem hi)) k (by omega)) ?_
    simp only [if_true]
    exact hb
theorem eqWheel_same (now : Int) (l : List (List S91)) (f : List S91) (hn : l.length ≤ 1048576) (hl : ∀ x ∈ l, x.length < 9223372036854775807) (hf : f.length < 9223372036854775807) : Ev (fun k => laws_eqWheel.f k now l f now l f) true := by
  unfold laws_eqWheel.f
  refine ev_yes rfl ?_
  refine ev_bind (eqSS_same l hn hl) ?_
  simp only [if_true]
  refine ev_bind (a := true) (ev_from (f.length + 1) fun k hk => eqTimerS_same f hf k (by omega)) ?_
  simp only [if_true]
  exact ev_const rfl
theorem flat_takei (l : List (List S150)) {i : Nat} (h : i < l.length) : (l.take (i + 1)).flatten = (l.take i).flatten ++ rd_L2 l (i : Int) := by
  rw [List.take_succ_eq_append_getElem h, List.flatten_append]
  simp [rd_L2, List.getD_eq_getElem?_getD, h]
theorem szSS_eq (l : List (List S150)) (hn : l.length * 24 ≤ 140737488351232) (hl : ∀ x ∈ l, x.length * 16 ≤ 140737488351232) : ∃ r : Int, Ev (fun k => laws_szTimerSS.f k l 1048576) r ∧ (0 ≤ r → r + (l.length : Int) + (l.flatten.length : Int) = 1048576) := by
  have loop : ∀ d i : Nat, l.length - i = d → i ≤ l.length → ∀ s : Int, 0 ≤ s → s ≤ 1048576 → ∃ r : Int, Ev (fun k => laws_szTimerSS.l0 k l s (i : Int)) r ∧ (0 ≤ r → r + (l.flatten.length : Int) = s + ((l.take i).flatten.length : Int)) := by
    intro d
    induction d with
    | zero =>
      intro i hd hi s h0 h1
      obtain rfl : i = l.length := by omega
      refine ⟨s, ev_succ ?_, fun _ => by rw [List.take_length]⟩
      simp only [laws_szTimerSS.l0, show ¬ ((l.length : Int) < (l.length : Int)) by omega, if_false]
      exact ev_const rfl
    | succ d ih =>
      intro i hd hi s h0 h1
      have hlt : i < l.length := by omega
      have hx : (rd_L2 l (i : Int)).length * 16 ≤ 140737488351232 := by rw [rdLi l i hlt]; exact hl _ (List.getElem_mem hlt)
      have e := congrArg List.length (flat_takei l hlt)
      rw [List.length_append] at e
      have hsz : laws_szTimerS.f (rd_L2 l (i : Int)) s = some (if s - ((rd_L2 l (i : Int)).length : Int) < 0 then -1 else s - ((rd_L2 l (i : Int)).length : Int)) := by
        unfold laws_szTimerS.f
        rw [wrap_small (by omega) (by omega)]
        split <;> rfl
      by_cases c : s - ((rd_L2 l (i : Int)).length : Int) < 0
      · rw [if_pos c] at hsz
        refine ⟨-1, ev_succ ?_, fun h => by omega⟩
        simp only [laws_szTimerSS.l0, show (i : Int) < (l.length : Int) by omega, show (0 : Int) ≤ (i : Int) by omega, if_true, hsz, Option.bind_some, show (-1 : Int) < 0 by omega]
        exact ev_const rfl
      · rw [if_neg c] at hsz
        obtain ⟨r, hr, hr2⟩ := ih (i + 1) (by omega) (by omega) (s - ((rd_L2 l (i : Int)).length : Int)) (by omega) (by omega)
        refine ⟨r, ev_succ ?_, fun h => by have := hr2 h; omega⟩
        simp only [laws_szTimerSS.l0, show (i : Int) < (l.length : Int) by omega, show (0 : Int) ≤ (i : Int) by omega, if_true, hsz, Option.bind_some, c, if_false, succ_cast i (by omega)]
        exact hr
  unfold laws_szTimerSS.f
  rw [wrap_small (by omega) (by omega)]
  by_cases c : (1048576 : Int) - (l.length : Int) < 0
  · exact ⟨-1, ev_yes c (ev_const rfl), fun h => by omega⟩
  · obtain ⟨r, hr, hr2⟩ := loop l.length 0 rfl (by omega) (1048576 - (l.length : Int)) (by omega) (by omega)
    refine ⟨r, ev_no c hr, fun h => ?_⟩
    have := hr2 h
    simp only [List.take_zero, List.flatten_nil, List.length_nil] at this
    omega
theorem szWheel_eq (now : Int) (l : List (List S150)) (f : List S150) (hn : l.length * 24 ≤ 140737488351232) (hl : ∀ x ∈ l, x.length * 16 ≤ 140737488351232) (hf : f.length * 16 ≤ 140737488351232) : ∃ r : Int, Ev (fun k => laws_szWheel.f k now l f 1048576) r ∧ (0 ≤ r → (l.length : Int) ≤ 1048576 ∧ (l.flatten.length : Int) ≤ 1048576 ∧ (f.length : Int) ≤ 1048576) := by
  obtain ⟨r, hr, hr2⟩ := szSS_eq l hn hl
  unfold laws_szWheel.f
  by_cases c : r < 0
  · refine ⟨-1, ev_bind hr ?_, fun h => by omega⟩
    simp only [c, if_true]
    exact ev_const rfl
  · have hs := hr2 (by omega)
    have hsz : laws_szTimerS.f f r = some (if r - (f.length : Int) < 0 then -1 else r - (f.length : Int)) := by
      unfold laws_szTimerS.f
      rw [wrap_small (by omega) (by omega)]
      split <;> rfl
    by_cases c2 : r - (f.length : Int) < 0
    · rw [if_pos c2] at hsz
      refine ⟨-1, ev_bind hr ?_, fun h => by omega⟩
      simp only [c, if_false, hsz, Option.bind_some, show (-1 : Int) < 0 by omega, if_true]
      exact ev_const rfl
    · rw [if_neg c2] at hsz
      refine ⟨r - (f.length : Int), ev_bind hr ?_, fun _ => ⟨by omega, by omega, by omega⟩⟩
      simp only [c, if_false, hsz, Option.bind_some, c2]
      exact ev_const rfl
theorem flat_conv (l : List (List S150)) : (convW l).flatten.length = l.flatten.length := by
  unfold convW
  induction l with
  | nil => rfl
  | cons x l ih => simp only [List.map_cons, List.flatten_cons, List.length_append, List.length_map, ih]
theorem sub_len (l : List (List S91)) (x : List S91) (h : x ∈ l) : x.length ≤ l.flatten.length := by
  induction l with
  | nil => cases h
  | cons y l ih =>
    rw [List.flatten_cons, List.length_append]
    rcases List.mem_cons.1 h with rfl | h
    · omega
    · have := ih h; omega

/-! ### Timers in rows, by two orders -/
theorem insA_cons (p : S91 → Bool) (x : S91) (l : List S91) (t : S91) : insA p (x :: l) t = if p x = true then x :: insA p l t else t :: x :: l := by
  unfold insA
  by_cases h : p x = true
  · simp [List.takeWhile_cons, h]
  · simp [List.takeWhile_cons, h]
theorem ins_perm (p : S91 → Bool) : ∀ (l : List S91) (t : S91), (insA p l t).Perm (t :: l)
  | [], _ => List.Perm.refl _
  | x :: l, t => by
    rw [insA_cons]
    split
    · exact ((ins_perm p l t).cons x).trans (List.Perm.swap t x l)
    · exact List.Perm.refl _
theorem ins_pw (lt : S91 → S91 → Prop) (htr : ∀ a b c : S91, lt a b → lt b c → lt a c) (p : S91 → Bool) (t : S91) (hp : ∀ x, p x = true → lt x t) : ∀ (l : List S91), (∀ x ∈ l, p x = false → lt t x) → l.Pairwise lt → (insA p l t).Pairwise lt
  | [], _, _ => List.pairwise_singleton _ _
  | x :: l, hn, h => by
    have h2 := List.pairwise_cons.1 h
    rw [insA_cons]
    split
    · rename_i hx
      refine List.pairwise_cons.2 ⟨fun y hy => ?_, ins_pw lt htr p t hp l (fun y hy => hn y (List.mem_cons_of_mem _ hy)) h2.2⟩
      rcases List.mem_cons.1 ((ins_perm p l t).subset hy) with rfl | hy
      · exact hp x hx
      · exact h2.1 y hy
    · rename_i hx
      have htx := hn x (List.mem_cons_self ..) (by simpa using hx)
      refine List.pairwise_cons.2 ⟨fun y hy => ?_, h⟩
      rcases List.mem_cons.1 hy with rfl | hy
      · exact htx
      · exact htr _ _ _ htx (h2.1 y hy)
theorem uniqP (lt : S91 → S91 → Prop) (has : ∀ a b : S91, lt a b → ¬ lt b a) : ∀ l m : List S91, l.Perm m → l.Pairwise lt → m.Pairwise lt → l = m
  | [], m, h, _, _ => by rw [List.nil_perm.1 h]
  | x :: l, [], h, _, _ => by cases List.perm_nil.1 h
  | x :: l, y :: m, h, h1, h2 => by
    rw [List.pairwise_cons] at h1 h2
    by_cases he : x = y
    · subst he
      rw [uniqP lt has l m (List.perm_cons x |>.1 h) h1.2 h2.2]
    · have hx : x ∈ y :: m := h.subset (List.mem_cons_self ..)
      have hy : y ∈ x :: l := h.symm.subset (List.mem_cons_self ..)
      rw [List.mem_cons] at hx hy
      have a := h2.1 x (hx.resolve_left he)
      have b := h1.1 y (hy.resolve_left (fun e => he e.symm))
      exact absurd b (has _ _ a)
def ltI (a b : S91) : Prop := a.f0 < b.f0
theorem ltI_asymm (a b : S91) (h : ltI a b) : ¬ ltI b a := by unfold ltI at *; omega
theorem ltI_trans (a b c : S91) (h : ltI a b) (k : ltI b c) : ltI a c := by unfold ltI at *; omega
theorem befP_asymm (a b : S91) (h : befP a b) : ¬ befP b a := by unfold befP at *; omega
theorem befP_trans (a b c : S91) (h : befP a b) (k : befP b c) : befP a c := by unfold befP at *; omega
def bk (now : Int) (m : Nat) (x : S91) : Bool := decide (¬ now + 16 < x.f1 ∧ Int.tmod x.f1 16 = (m : Int))
def fr (now : Int) (x : S91) : Bool := decide (now + 16 < x.f1)
def rowN (near : List (List S91)) (m : Nat) : List S91 := near.getD m []
theorem row_rd (near : List (List S91)) (m : Nat) : rd_L4 near (m : Int) = rowN near m := by unfold rd_L4 rowN; rw [Int.toNat_natCast]
theorem row_set (near : List (List S91)) (m q : Nat) (v : List S91) (h : m < near.length) : rowN (near.set m v) q = if q = m then v else rowN near q := by
  unfold rowN
  rw [List.getD_eq_getElem?_getD, List.getD_eq_getElem?_getD, List.getElem?_set]
  by_cases e : q = m
  · subst e; simp [h]
  · have e' : m ≠ q := fun z => e z.symm
    simp [e, e']
structure St (now : Int) (P : List S91) (near : List (List S91)) (far : List S91) : Prop where
  len : near.length = 16
  rows : ∀ m, m < 16 → (rowN near m).Pairwise ltI ∧ (rowN near m).Perm (P.filter (bk now m))
  farS : far.Pairwise befP
  farP : far.Perm (P.filter (fr now))
theorem St.uniq {now : Int} {P : List S91} {n1 n2 : List (List S91)} {g1 g2 : List S91} (h1 : St now P n1 g1) (h2 : St now P n2 g2) : n1 = n2 ∧ g1 = g2 := by
  refine ⟨List.ext_getElem (h1.len.trans h2.len.symm) (fun m a b => ?_), uniqP befP befP_asymm _ _ (h1.farP.trans h2.farP.symm) h1.farS h2.farS⟩
  have hm : m < 16 := by have := h1.len; omega
  have e := uniqP ltI ltI_asymm (rowN n1 m) (rowN n2 m) ((h1.rows m hm).2.trans (h2.rows m hm).2.symm) (h1.rows m hm).1 (h2.rows m hm).1
  unfold rowN at e
  simpa [List.getD_eq_getElem?_getD, List.getElem?_eq_getElem a, List.getElem?_eq_getElem b] using e
theorem St.perm {now : Int} {P Q : List S91} {n : List (List S91)} {g : List S91} (h : St now P n g) (hp : P.Perm Q) : St now Q n g :=
  ⟨h.len, fun m hm => ⟨(h.rows m hm).1, (h.rows m hm).2.trans (hp.filter _)⟩, h.farS, h.farP.trans (hp.filter _)⟩
structure Gd (now : Int) (L : List S91) : Prop where
  ids : L.Pairwise (fun a b => a.f0 ≠ b.f0)
  tim : ∀ x ∈ L, now < x.f1
  len : L.length ≤ 100
theorem tmod_ok {now x : Int} (h0 : 0 ≤ now) (h : now < x) : ∃ m : Nat, m < 16 ∧ Int.tmod x 16 = (m : Int) := by
  have e : Int.tmod x 16 = x % 16 := Int.tmod_eq_emod_of_nonneg (by omega)
  exact ⟨(x % 16).toNat, by omega, by rw [e]; omega⟩
theorem step_St {now : Int} (h0 : 0 ≤ now) {P : List S91} {near : List (List S91)} {far : List S91} {t : S91} (h : St now P near far) (hg : Gd now (P ++ [t])) : ∃ near' far', stepW now (near, far) t = some (near', far') ∧ St now (P ++ [t]) near' far' := by
  have hid : ∀ x ∈ P, x.f0 ≠ t.f0 := fun x hx => (List.pairwise_append.1 hg.ids).2.2 x hx t (by simp)
  have hPl : P.length ≤ 100 := by have := hg.len; simp at this; omega
  have ht := hg.tim t (by simp)
  unfold stepW
  dsimp only
  by_cases hf : now + 16 < t.f1
  · have hfl : far.length ≤ 1000 := by rw [h.farP.length_eq]; have := List.length_filter_le (fr now) P; omega
    rw [if_pos hf, if_pos hfl]
    refine ⟨near, insA (pF t) far t, rfl, ⟨h.len, fun m hm => ?_, ?_, ?_⟩⟩
    · rw [List.filter_append, show [t].filter (bk now m) = [] by simp [bk, hf], List.append_nil]
      exact h.rows m hm
    · refine ins_pw befP befP_trans _ _ (fun x hx => (show x.f1 < t.f1 ∨ x.f1 = t.f1 ∧ x.f0 < t.f0 from of_decide_eq_true hx)) far (fun x hx hn => ?_) h.farS
      have h1 : ¬ (x.f1 < t.f1 ∨ x.f1 = t.f1 ∧ x.f0 < t.f0) := of_decide_eq_false hn
      have h2 := hid x ((List.mem_filter.1 (h.farP.subset hx)).1)
      unfold befP
      omega
    · rw [List.filter_append, show [t].filter (fr now) = [t] by simp [fr, hf]]
      exact (ins_perm _ _ _).trans ((h.farP.cons t).trans (List.perm_append_singleton t _).symm)
  · obtain ⟨m, hm, hmt⟩ := tmod_ok h0 ht
    have hml : m < near.length := by rw [h.len]; exact hm
    have hrl : (rowN near m).length ≤ 1000 := by rw [(h.rows m hm).2.length_eq]; have := List.length_filter_le (bk now m) P; omega
    rw [if_neg hf, hmt, row_rd, if_pos ⟨by omega, by omega, hrl⟩, Int.toNat_natCast]
    refine ⟨_, _, rfl, ⟨by rw [List.length_set]; exact h.len, fun q hq => ?_, h.farS, ?_⟩⟩
    · rw [row_set near m q _ hml]
      by_cases e : q = m
      · subst e
        rw [if_pos rfl, List.filter_append, show [t].filter (bk now q) = [t] by simp [bk, hf, hmt]]
        refine ⟨ins_pw ltI ltI_trans _ _ (fun x hx => (show x.f0 < t.f0 from of_decide_eq_true hx)) _ (fun x hx hn => ?_) (h.rows q hq).1, (ins_perm _ _ _).trans (((h.rows q hq).2.cons t).trans (List.perm_append_singleton t _).symm)⟩
        have h1 : ¬ (x.f0 < t.f0) := of_decide_eq_false hn
        have h2 := hid x ((List.mem_filter.1 ((h.rows q hq).2.subset hx)).1)
        unfold ltI
        omega
      · rw [if_neg e, List.filter_append, show [t].filter (bk now q) = [] by simp [bk, hmt]; omega, List.append_nil]
        exact h.rows q hq
    · rw [List.filter_append, show [t].filter (fr now) = [] by simp [fr, hf], List.append_nil]
      exact h.farP
theorem fold_St {now : Int} (h0 : 0 ≤ now) : ∀ (L P : List S91) (near : List (List S91)) (far : List S91), St now P near far → Gd now (P ++ L) → ∃ near' far', foldW now (near, far) L = some (near', far') ∧ St now (P ++ L) near' far'
  | [], P, near, far, h, _ => ⟨near, far, rfl, by rw [List.append_nil]; exact h⟩
  | t :: L, P, near, far, h, hg => by
    have e : P ++ t :: L = (P ++ [t]) ++ L := by simp
    obtain ⟨n1, f1, h1, hs1⟩ := step_St h0 h (t := t) ⟨(List.pairwise_append.1 (e ▸ hg.ids)).1, fun x hx => hg.tim x (by rw [e]; exact List.mem_append_left _ hx), by have := hg.len; simp at this ⊢; omega⟩
    obtain ⟨n2, f2, h2, hs2⟩ := fold_St h0 L (P ++ [t]) n1 f1 hs1 (e ▸ hg)
    refine ⟨n2, f2, ?_, by rw [e]; exact hs2⟩
    rw [foldW, h1, Option.bind_some]
    exact h2
theorem St_zero (now : Int) : St now [] (List.replicate 16 []) [] :=
  ⟨by simp, fun m hm => by
    have e : rowN (List.replicate 16 ([] : List S91)) m = [] := by unfold rowN; rw [List.getD_eq_getElem?_getD, List.getElem?_replicate]; split <;> rfl
    rw [e]; exact ⟨List.Pairwise.nil, List.Perm.refl _⟩, List.Pairwise.nil, List.Perm.refl _⟩
theorem spec_of {now : Int} (h0 : 0 ≤ now ∧ now ≤ 1000000) (L : List S91) (hg : Gd now L) : ∃ near far, spec_l08Of.f now L = some (now, near, far) ∧ St now L near far := by
  obtain ⟨n, g, h1, h2⟩ := fold_St h0.1 L [] (List.replicate 16 []) [] (St_zero now) hg
  refine ⟨n, g, ?_, h2⟩
  have hn : spec_WheelNew.f now = some (now, List.replicate 16 [], []) := by
    unfold spec_WheelNew.f spec_l07Time.f
    rw [if_pos h0.1, Option.bind_some, if_pos (by simp [h0.2]), if_pos (by omega)]
  unfold spec_l08Of.f
  rw [hn, Option.bind_some, if_pos ⟨wrap_small (by omega) (by omega), by have := hg.len; omega⟩]
  dsimp only
  rw [h1]
  rfl
/-! ### The program's way -/
def nearF (now : Int) (s : List S91) : List (List S91) := (List.range 16).map fun m => s.filter (bk now m)
theorem nearF_row (now : Int) (s : List S91) (m : Nat) (h : m < 16) : rowN (nearF now s) m = s.filter (bk now m) := by
  unfold rowN nearF
  rw [List.getD_eq_getElem?_getD, List.getElem?_map, List.getElem?_range h]
  rfl
theorem nearF_step (now : Int) (s : List S91) (t : S91) (m : Nat) (hm : m < 16) (ht : ∀ q, q < 16 → bk now q t = decide (q = m)) : (nearF now s).set m (rowN (nearF now s) m ++ [t]) = nearF now (s ++ [t]) := by
  apply List.ext_getElem
  · simp [nearF]
  · intro q a b
    have hq : q < 16 := by simpa [nearF] using b
    rw [List.getElem_set]
    have e2 : (nearF now (s ++ [t]))[q]'b = (s ++ [t]).filter (bk now q) := by simp [nearF]
    have e3 : (nearF now s)[q]'(by simpa [nearF] using hq) = s.filter (bk now q) := by simp [nearF]
    rw [e2, List.filter_append]
    by_cases e : m = q
    · subst e
      rw [if_pos rfl, nearF_row now s m hm, show [t].filter (bk now m) = [t] by simp [ht m hm]]
    · rw [if_neg e, e3, show [t].filter (bk now q) = [] by simp [ht q hq]; omega, List.append_nil]
theorem nearF_same (now : Int) (s : List S91) (t : S91) (ht : ∀ q, q < 16 → bk now q t = false) : nearF now (s ++ [t]) = nearF now s := by
  unfold nearF
  apply List.map_congr_left
  intro q hq
  rw [List.filter_append, show [t].filter (bk now q) = [] by simp [ht q (List.mem_range.1 hq)], List.append_nil]
theorem wof_l0 {now : Int} (h0 : 0 ≤ now ∧ now ≤ 1000000) (t0 : Int) (s : List S91) (hs : s.length ≤ 100) (hb : ∀ x ∈ s, now < x.f1) : ∀ d i : Nat, s.length - i = d → i ≤ s.length →
    Ev (fun k => impl_wheelOf.l0 k now s (s.length : Int) (i : Int) t0 (nearF now (s.take i)) ((s.take i).filter (fr now))) (t0, nearF now s, sortL cfT (s.filter (fr now))) := by
  intro d
  have hw : wrap64 (now + 16) = now + 16 := wrap_small (by omega) (by omega)
  induction d with
  | zero =>
    intro i hd hi
    obtain rfl : i = s.length := by omega
    refine ev_succ ?_
    simp only [impl_wheelOf.l0, show ¬ ((s.length : Int) < (s.length : Int)) by omega, if_false, List.take_length]
    refine ev_const ?_
    unfold impl_Timer_118.f
    rw [if_pos (by have := List.length_filter_le (fr now) s; omega)]
    rfl
  | succ d ih =>
    intro i hd hi
    have hlt : i < s.length := by omega
    refine ev_succ ?_
    have ht := hb s[i] (List.getElem_mem hlt)
    have htk : s.take (i + 1) = s.take i ++ [s[i]] := List.take_succ_eq_append_getElem hlt
    have hih := ih (i + 1) (by omega) (by omega)
    rw [htk, List.filter_append] at hih
    simp only [impl_wheelOf.l0, show (i : Int) < (s.length : Int) by omega, show (0 : Int) ≤ (i : Int) by omega, if_true, rd91 s i hlt, hw, succ_cast i (by omega)]
    by_cases hf : now + 16 < s[i].f1
    · refine ev_no (by omega) (ev_yes (by have := List.length_filter_le (fr now) (s.take i); simp only [List.length_take] at this; omega) ?_)
      rw [nearF_same now _ _ (fun q _ => by simp [bk, hf]), show [s[i]].filter (fr now) = [s[i]] by simp [fr, hf]] at hih
      exact hih
    · obtain ⟨m, hm, hmt⟩ := tmod_ok h0.1 ht
      rw [← nearF_step now _ _ m hm (fun q _ => by simp only [bk, hmt]; exact Bool.eq_iff_iff.2 (by simp; omega)), show [s[i]].filter (fr now) = [] by simp [fr, hf], List.append_nil] at hih
      have hnl : (nearF now (s.take i)).length = 16 := by simp [nearF]
      refine ev_yes (by omega) (ev_yes (by omega) (ev_yes (by rw [hmt, hnl]; omega) (ev_yes ?_ ?_)))
      · rw [hmt, row_rd, nearF_row now _ m hm]
        have := List.length_filter_le (bk now m) (s.take i)
        simp only [List.length_take] at this
        omega
      · simp only [hmt, row_rd, Int.toNat_natCast]
        exact hih
theorem sorted_lt {s : List S91} (h1 : s.Pairwise (fun x y => ltOf cfId y x = false)) (h2 : s.Pairwise (fun a b => a.f0 ≠ b.f0)) : s.Pairwise ltI :=
  (List.pairwise_and_iff.2 ⟨h1, h2⟩).imp (fun {x y} h => by have := h.1; rw [ltOf_id] at this; have := of_decide_eq_false this; have := h.2; unfold ltI; omega)
theorem sorted_bef {s : List S91} (h1 : s.Pairwise (fun x y => ltOf cfT y x = false)) (h2 : s.Pairwise (fun a b => a.f0 ≠ b.f0)) : s.Pairwise befP :=
  (List.pairwise_and_iff.2 ⟨h1, h2⟩).imp (fun {x y} h => by have := h.1; rw [ltOf_T] at this; have := of_decide_eq_false this; have := h.2; unfold befJ at *; unfold befP; omega)
theorem impl_of {now : Int} (h0 : 0 ≤ now ∧ now ≤ 1000000) (L : List S91) (hg : Gd now L) : ∃ near far, Ev (fun k => impl_wheelOf.f k now L) (now, near, far) ∧ St now L near far := by
  have hp := sort_perm cfId swo_id L
  have hids : (sortL cfId L).Pairwise (fun a b => a.f0 ≠ b.f0) := (hp.pairwise_iff (fun h => fun e => h e.symm)).2 hg.ids
  have hlt := sorted_lt (sort_sorted cfId swo_id L) hids
  have hfp := sort_perm cfT swo_T ((sortL cfId L).filter (fr now))
  refine ⟨nearF now (sortL cfId L), sortL cfT ((sortL cfId L).filter (fr now)), ?_, ?_⟩
  · have hn : impl_WheelNew.f now = some (now, List.replicate 16 [], []) := by
      unfold impl_WheelNew.f
      rw [isTime_eq, Option.bind_some, if_pos (by simp [h0]), if_pos (by omega)]
    have hs : impl_Timer_71.f L = some (sortL cfId L) := by
      unfold impl_Timer_71.f
      rw [if_pos (by have := hg.len; omega)]
    unfold impl_wheelOf.f
    simp only [hn, hs, Option.bind_some]
    have := wof_l0 h0 now (sortL cfId L) (by rw [hp.length_eq]; exact hg.len) (fun x hx => hg.tim x (hp.subset hx)) _ 0 rfl (Nat.zero_le _)
    rw [List.take_zero] at this
    exact this
  · refine ⟨by simp [nearF], fun m hm => ?_, ?_, ?_⟩
    · rw [nearF_row now _ m hm]
      exact ⟨hlt.filter _, hp.filter _⟩
    · exact sorted_bef (sort_sorted cfT swo_T _) ((hfp.pairwise_iff (fun h => fun e => h e.symm)).2 (hids.filter _))
    · exact hfp.trans (hp.filter _)
/-! ### What is dropped -/
def keep (id : Int) (x : S91) : Bool := decide (¬ x.f0 = id)
theorem idx_spec (id : Int) : ∀ L : List S91, L.Pairwise (fun a b => a.f0 ≠ b.f0) → (idxW id L = none ∧ L.filter (keep id) = L) ∨ ∃ i, idxW id L = some i ∧ i < L.length ∧ L.take i ++ L.drop (i + 1) = L.filter (keep id) ∧ (L.filter (keep id)).length + 1 = L.length
  | [], _ => .inl ⟨rfl, rfl⟩
  | x :: l, h => by
    have h2 := List.pairwise_cons.1 h
    by_cases e : x.f0 = id
    · have hl : l.filter (keep id) = l := List.filter_eq_self.2 (fun y hy => by have := h2.1 y hy; simp [keep]; omega)
      have hx : (x :: l).filter (keep id) = l := by rw [List.filter_cons_of_neg (by simp [keep, e]), hl]
      refine .inr ⟨0, by rw [idxW, if_pos e], by simp, by rw [hx]; simp, by rw [hx]; simp⟩
    · have hx : (x :: l).filter (keep id) = x :: l.filter (keep id) := List.filter_cons_of_pos (by simp [keep, e])
      rcases idx_spec id l h2.2 with ⟨h3, h4⟩ | ⟨i, h3, h4, h5, h6⟩
      · exact .inl ⟨by rw [idxW, if_neg e, h3]; rfl, by rw [hx, h4]⟩
      · exact .inr ⟨i + 1, by rw [idxW, if_neg e, h3]; rfl, by simp; omega, by rw [hx, ← h5]; simp, by rw [hx]; simp; omega⟩
theorem drop_l0 (id now : Int) (near : List (List S91)) (far all : List S91) (ha : all.length ≤ 1048576) (r : Int × List (List S91) × List S91 × List S91 × Int)
    (hend : (if ((all.filter (keep id)).length : Int) = (all.length : Int) then some (0, [], [], [], 4) else ((spec_l08Of.f now (all.filter (keep id))).bind fun b => some (b.1, b.2.1, b.2.2, ([] : List S91), 0))) = some r) :
    ∀ d i : Nat, all.length - i = d → i ≤ all.length → Ev (fun k => spec_WheelDrop.l0 k id all ((all.take i).filter (keep id)) (i : Int) now near far) r := by
  intro d
  induction d with
  | zero =>
    intro i hd hi
    obtain rfl : i = all.length := by omega
    refine ev_succ ?_
    simp only [spec_WheelDrop.l0, show ¬ ((all.length : Int) < (all.length : Int)) by omega, if_false, List.take_length]
    refine ev_const ?_
    rw [← hend]
    rfl
  | succ d ih =>
    intro i hd hi
    have hlt : i < all.length := by omega
    refine ev_succ ?_
    have hih := ih (i + 1) (by omega) (by omega)
    rw [List.take_succ_eq_append_getElem hlt, List.filter_append] at hih
    simp only [spec_WheelDrop.l0, show (i : Int) < (all.length : Int) by omega, show (0 : Int) ≤ (i : Int) by omega, if_true, rd91 all i hlt, succ_cast i (by omega)]
    by_cases e : all[i].f0 = id
    · refine ev_yes e ?_
      rw [show [all[i]].filter (keep id) = [] by simp [keep, e], List.append_nil] at hih
      exact hih
    · refine ev_no e (ev_yes (by have := List.length_filter_le (keep id) (all.take i); simp only [List.length_take] at this; omega) ?_)
      rw [show [all[i]].filter (keep id) = [all[i]] by simp [keep, e]] at hih
      exact hih
/-- Both sides answer one wheel, and it is small. -/
theorem drop_both (now id : Int) (near : List (List S91)) (far : List S91) (hn : near.length ≤ 1048576) (hs : near.flatten.length ≤ 1048576) (hl : ∀ m, m < near.length → (rd_L4 near (m : Int)).length ≤ 1048576) (hf : far.length ≤ 1048576) :
    ∃ (a : Int) (n : List (List S91)) (g : List S91) (c : Int), Ev (fun k => spec_WheelDrop.f k now near far id) (a, n, g, [], c) ∧ Ev (fun k => impl_WheelDrop.f k now near far id) (a, n, g, c) ∧ n.length ≤ 16 ∧ (∀ x ∈ n, x.length ≤ 100) ∧ g.length ≤ 100 := by
  have hS := spec_wheel now near far hn hs hl hf
  have hI := impl_wheel now near far hn hs hl hf
  rw [both_eq] at hI
  unfold spec_WheelDrop.f impl_WheelDrop.f
  cases hb : (okNow now near && (decide (far.length + near.flatten.length ≤ 100) && spR now near far)) with
  | false =>
    rw [hb] at hS hI
    exact ⟨0, [], [], 1, ev_bind hS (ev_const rfl), ev_bind hI (ev_const rfl), by simp, by simp, by simp⟩
  | true =>
    rw [hb] at hS hI
    simp only [Bool.and_eq_true, okNow, decide_eq_true_eq, spR] at hb
    obtain ⟨⟨hnow, _⟩, hcnt, hall, _⟩ := hb
    have hall := (s1_iff now _).1 hall
    have e : impl_Wheel_all.f now near far = some (near.flatten ++ far) := by
      unfold impl_Wheel_all.f impl_Timer_120.f
      rw [if_pos (by omega), Option.bind_some, if_pos (by omega)]
    have ha : (near.flatten ++ far).length ≤ 100 := by rw [List.length_append]; omega
    have hq := all_eq now near far hn hs hf
    obtain ⟨h1, h2⟩ := hall
    generalize near.flatten ++ far = all at e ha hq h1 h2
    have hg : Gd now (all.filter (keep id)) := ⟨h2.filter _, fun x hx => (h1 x ((List.mem_filter.1 hx).1)).2.1, by have := List.length_filter_le (keep id) all; omega⟩
    rcases idx_spec id all h2 with ⟨i1, i2⟩ | ⟨i, i1, i2, i3, i4⟩
    · refine ⟨0, [], [], 4, ev_bind hS ?_, ev_bind hI ?_, by simp, by simp, by simp⟩
      · refine ev_yes rfl (ev_bind hq ?_)
        have := drop_l0 id now near far all (by omega) (0, [], [], [], 4) (by rw [i2, if_pos rfl]) _ 0 rfl (Nat.zero_le _)
        rwa [List.take_zero] at this
      · refine ev_no (by decide) ?_
        simp only [e, Option.bind_some, i1]
        exact ev_const rfl
    · obtain ⟨n1, g1, hs1, ht1⟩ := spec_of hnow _ hg
      obtain ⟨n2, g2, hs2, ht2⟩ := impl_of hnow _ hg
      obtain ⟨rfl, rfl⟩ := ht1.uniq ht2
      refine ⟨now, n1, g1, 0, ev_bind hS ?_, ev_bind hI ?_, by rw [ht1.len]; omega, fun x hx => ?_, ?_⟩
      · refine ev_yes rfl (ev_bind hq ?_)
        have := drop_l0 id now near far all (by omega) (now, n1, g1, [], 0) (by rw [if_neg (by omega), hs1]; rfl) _ 0 rfl (Nat.zero_le _)
        rwa [List.take_zero] at this
      · refine ev_no (by decide) ?_
        simp only [e, Option.bind_some, i1]
        have hd : impl_Timer_84.f all (i : Int) ((i : Int) + 1) = some (all.filter (keep id)) := by
          unfold impl_Timer_84.f
          rw [if_pos ⟨by omega, by omega, rfl, by omega⟩, Int.toNat_natCast, i3]
        simp only [hd, Option.bind_some]
        exact ev_bind hs2 (ev_const rfl)
      · obtain ⟨m, hm, rfl⟩ := List.mem_iff_getElem.1 hx
        have hm16 : m < 16 := by rw [← ht1.len]; exact hm
        have e1 : n1[m] = rowN n1 m := by unfold rowN; simp [List.getD_eq_getElem?_getD, hm]
        rw [e1, (ht1.rows m hm16).2.length_eq]
        have h3 := List.length_filter_le (bk now m) (all.filter (keep id))
        have := hg.len
        omega
      · rw [ht1.farP.length_eq]
        have h3 := List.length_filter_le (fr now) (all.filter (keep id))
        have := hg.len
        omega
/-! ### Marks -/
def MkS : Int → List (List S91) → Prop
  | _, [] => True
  | c, x :: ls => (∀ j : Nat, j < x.length → rd_T91 x (j : Int) = markOfTimer c j) ∧ MkS (c + 2 * (x.length : Int)) ls
theorem markSS_ok : ∀ (ls : List (List S91)) (c : Int), 0 ≤ c → c + 2 * (ls.flatten.length : Int) ≤ 10000000 → ls.flatten.length ≤ 1048576 → ∃ ls', Ev (fun k => markSS k ls c) (c + 2 * (ls.flatten.length : Int), ls') ∧ ls'.length = ls.length ∧ ls'.flatten.length = ls.flatten.length ∧ MkS c ls'
  | [], c, _, _, _ => ⟨[], ev_const (by simp [markSS]), rfl, rfl, trivial⟩
  | x :: ls, c, h0, h, hq => by
    simp only [List.flatten_cons, List.length_append] at h hq ⊢
    have hx : ∃ x', Ev (fun k => laws_markTimerS.f k x c) (c + 2 * (x.length : Int), x') ∧ x'.length = x.length ∧ ∀ j : Nat, j < x.length → rd_T91 x' (j : Int) = markOfTimer c j := by
      obtain ⟨l', h1, h2, h3⟩ := markTimerS_eq c h0 (by omega) x (by omega) (x.length + 1) (by omega)
      refine ⟨l', ev_from (x.length + 1) (fun k hk => ?_), h2, h3⟩
      obtain ⟨l2, q1, q2, q3⟩ := markTimerS_eq c h0 (by omega) x (by omega) k (by omega)
      rw [q1]
      have : l2 = l' := by
        apply List.ext_getElem (by omega)
        intro j a b
        have e1 := q3 j (by omega)
        have e2 := h3 j (by omega)
        rw [rd91 l2 j a] at e1
        rw [rd91 l' j b] at e2
        rw [e1, e2]
      rw [this]
    obtain ⟨x', hx1, hx2, hx3⟩ := hx
    obtain ⟨ls', h1, h2, h3, h4⟩ := markSS_ok ls (c + 2 * (x.length : Int)) (by omega) (by omega) (by omega)
    refine ⟨x' :: ls', ?_, by simp [h2], by simp [hx2, h3], ⟨fun j hj => hx3 j (by omega), by rw [hx2]; exact h4⟩⟩
    refine ev_bind hx1 (ev_bind h1 (ev_const ?_))
    simp only [Option.some.injEq, Prod.mk.injEq, and_true]
    omega
theorem MkS.at_ : ∀ {ls : List (List S91)} {c : Int} (i : Nat), MkS c ls → i < ls.length → ∀ j : Nat, j < (rd_L4 ls (i : Int)).length → rd_T91 (rd_L4 ls (i : Int)) (j : Int) = markOfTimer (c + 2 * ((ls.take i).flatten.length : Int)) j
  | [], _, _, _, h => by simp at h
  | x :: ls, c, 0, h, _ => by simpa [rd_L4] using h.1
  | x :: ls, c, i + 1, h, hi => by
    have e : rd_L4 (x :: ls) ((i + 1 : Nat) : Int) = rd_L4 ls (i : Int) := by simp [rd_L4]
    rw [e]
    have := MkS.at_ i h.2 (by simpa using hi)
    intro j hj
    rw [this j hj]
    congr 1
    simp only [List.take_succ_cons, List.flatten_cons, List.length_append]
    omega
theorem flat_takeo (l : List (List S91)) {i : Nat} (h : i < l.length) : (l.take (i + 1)).flatten.length = (l.take i).flatten.length + (rd_L4 l (i : Int)).length := by
  rw [List.take_succ_eq_append_getElem h, List.flatten_append, List.length_append, rdL l i h]
  simp
theorem flat_takele (l : List (List S91)) (i : Nat) : (l.take i).flatten.length ≤ l.flatten.length := by
  have := congrArg List.length (congrArg List.flatten (List.take_append_drop i l))
  rw [List.flatten_append, List.length_append] at this
  omega
theorem heldSS_ok (ls : List (List S91)) (c : Int) (h0 : 0 ≤ c) (hn : ls.length ≤ 1048576) (hb : c + 2 * (ls.flatten.length : Int) ≤ 10000000) (hq : ls.flatten.length ≤ 1048576) (hm : MkS c ls) : Ev (fun k => laws_heldTimerSS.f k ls c) (c + 2 * (ls.flatten.length : Int)) := by
  have loop : ∀ d i : Nat, ls.length - i = d → i ≤ ls.length → Ev (fun k => laws_heldTimerSS.l0 k ls (c + 2 * ((ls.take i).flatten.length : Int)) (i : Int)) (c + 2 * (ls.flatten.length : Int)) := by
    intro d
    induction d with
    | zero =>
      intro i hd hi
      obtain rfl : i = ls.length := by omega
      refine ev_succ ?_
      simp only [laws_heldTimerSS.l0, show ¬ ((ls.length : Int) < (ls.length : Int)) by omega, if_false, List.take_length]
      exact ev_const rfl
    | succ d ih =>
      intro i hd hi
      have hlt : i < ls.length := by omega
      have e1 := flat_takeo ls hlt
      have e2 := flat_takele ls (i + 1)
      have hih := ih (i + 1) (by omega) (by omega)
      refine ev_succ ?_
      simp only [laws_heldTimerSS.l0, show (i : Int) < (ls.length : Int) by omega, show (0 : Int) ≤ (i : Int) by omega, if_true, succ_cast i (by omega)]
      refine ev_bind (ev_from ((rd_L4 ls (i : Int)).length + 1) fun k hk => heldTimerS_eq (c + 2 * ((ls.take i).flatten.length : Int)) (by omega) (by omega) _ _ rfl (by omega) (hm.at_ i hlt) k (by omega)) ?_
      refine ev_no (by omega) ?_
      rw [e1] at hih
      rw [show c + 2 * ((ls.take i).flatten.length : Int) + 2 * ((rd_L4 ls (i : Int)).length : Int) = c + 2 * (((ls.take i).flatten.length + (rd_L4 ls (i : Int)).length : Nat) : Int) by omega]
      exact hih
  have := loop ls.length 0 rfl (Nat.zero_le _)
  simpa [laws_heldTimerSS.f] using this
theorem markRow_ok (x : List S91) (c : Int) (h0 : 0 ≤ c) (h : c + 2 * (x.length : Int) ≤ 10000000) (hq : x.length ≤ 1048576) : ∃ x', Ev (fun k => laws_markTimerS.f k x c) (c + 2 * (x.length : Int), x') ∧ x'.length = x.length ∧ ∀ j : Nat, j < x.length → rd_T91 x' (j : Int) = markOfTimer c j := by
  obtain ⟨l', q1, q2, q3⟩ := markTimerS_eq c h0 (by omega) x (by omega) (x.length + 1) (by omega)
  refine ⟨l', ev_from (x.length + 1) (fun k hk => ?_), q2, q3⟩
  obtain ⟨l2, p1, p2, p3⟩ := markTimerS_eq c h0 (by omega) x (by omega) k (by omega)
  rw [p1]
  have : l2 = l' := by
    apply List.ext_getElem (by omega)
    intro j a b
    have e1 := p3 j (by omega)
    have e2 := q3 j (by omega)
    rw [rd91 l2 j a] at e1
    rw [rd91 l' j b] at e2
    rw [e1, e2]
  rw [this]
theorem flat_small : ∀ (n : List (List S91)), (∀ x ∈ n, x.length ≤ 100) → n.flatten.length ≤ 100 * n.length
  | [], _ => by simp
  | x :: n, h => by
    have := flat_small n (fun y hy => h y (List.mem_cons_of_mem _ hy))
    have := h x (List.mem_cons_self ..)
    simp only [List.flatten_cons, List.length_append, List.length_cons]
    omega
theorem FnExactWheelDrop : BridgeFnExactWheelDrop.Pure := by
  intro now l f id _ hn hl hf _ _
  have hl' : ∀ x ∈ l, x.length * 16 ≤ 140737488351232 := fun x hx => (hl x hx).1
  refine ev_get (r := true) ?_
  unfold laws_FnExactWheelDrop.f
  obtain ⟨r, hr, hr2⟩ := szWheel_eq now l f hn hl' hf
  refine ev_bind hr ?_
  by_cases c : r < 0
  · simp only [c, if_true]
    exact ev_const rfl
  · simp only [c, if_false]
    obtain ⟨h1, h2, h3⟩ := hr2 (by omega)
    have hW := toWheel_eq now l f (by omega) hl' hf
    have hcl : (convW l).length = l.length := by simp [convW]
    have hfc := flat_conv l
    have hsub : ∀ m, m < (convW l).length → (rd_L4 (convW l) (m : Int)).length ≤ 1048576 := fun m hm => by
      rw [rdL _ m hm]
      have := sub_len (convW l) _ (List.getElem_mem hm)
      omega
    obtain ⟨a, n, g, cd, hS, hI, hn16, hn100, hg100⟩ := drop_both now id (convW l) (f.map convTimer) (by omega) (by omega) hsub (by simp; omega)
    have hE := eqWheel_same now (convW l) (f.map convTimer) (by omega) (fun x hx => by have := sub_len (convW l) x hx; omega) (by simp; omega)
    have hG := eqWheel_same a n g (by omega) (fun x hx => by have := hn100 x hx; omega) (by omega)
    have hfl := flat_small n hn100
    have hfm : (f.map convTimer).length = f.length := by simp
    obtain ⟨y1, hy1, hy2, hy3, hy4⟩ := markSS_ok (convW l) 1 (by omega) (by omega) (by omega)
    obtain ⟨y2, hz1, hz2, hz3⟩ := markRow_ok (f.map convTimer) (1 + 2 * ((convW l).flatten.length : Int)) (by omega) (by omega) (by omega)
    obtain ⟨n1, hk1, hk2, hk3, hk4⟩ := markSS_ok n 1 (by omega) (by omega) (by omega)
    obtain ⟨g1, hm1, hm2, hm3⟩ := markRow_ok g (1 + 2 * (n.flatten.length : Int)) (by omega) (by omega) (by omega)
    have hH := heldSS_ok n1 1 (by omega) (by omega) (by omega) (by omega) hk4
    refine ev_bind hW (ev_bind hS (ev_bind hI ?_))
    refine ev_bind (a := true) ?_ (ev_bind hE (ev_bind hy1 (ev_bind hz1 (ev_bind hk1 (ev_bind hm1 (ev_bind (a := 1 + 2 * (n.flatten.length : Int) + 2 * (g.length : Int)) ?_ ?_))))))
    · unfold laws_eqWheelOut.f
      refine ev_bind hG (ev_yes rfl ?_)
      refine ev_bind (a := true) (ev_from 1 fun k hk => eqTimerS_same [] (by simp) k (by simp; omega)) (ev_yes rfl ?_)
      exact ev_const (by rw [if_pos rfl])
    · unfold laws_heldWheelOut.f laws_heldWheel.f
      refine ev_bind (a := 1 + 2 * (n.flatten.length : Int) + 2 * (g.length : Int)) (ev_bind hH (ev_no (by omega) ?_)) (ev_no (by omega) ?_)
      · rw [hk3]
        refine ev_bind (ev_from (g.length + 1) fun k hk => heldTimerS_eq (1 + 2 * (n.flatten.length : Int)) (by omega) (by omega) g1 g.length hm2 (by omega) hm3 k (by omega)) (ev_no (by omega) (ev_const rfl))
      · refine ev_bind (a := 1 + 2 * (n.flatten.length : Int) + 2 * (g.length : Int)) (ev_from 1 fun k hk => ?_) (ev_no (by omega) (ev_const rfl))
        have := heldTimerS_eq (1 + 2 * (n.flatten.length : Int) + 2 * (g.length : Int)) (by omega) (by omega) [] 0 rfl (by omega) (fun j hj => absurd hj (by omega)) k (by omega)
        simpa using this
    · exact ev_const (by rw [if_pos ⟨rfl, rfl, by simp only; omega, by omega, rfl⟩])
end Go.Proofs.Ytenlceojmjkbkaa.Pure
