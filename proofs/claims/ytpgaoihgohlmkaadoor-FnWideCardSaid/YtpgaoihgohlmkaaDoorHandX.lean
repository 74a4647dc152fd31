/- A call of a function that the model itself runs (it has no Go body), as an arm of the printed walks; math/bits.Add64 and Sub64. Conditions: the operands are not negative, the carry 0 or 1. -/
import Derived.Test.YtpgaoihgohlmkaaDoorWWords
import Derived.Test.YtpgaoihgohlmkaaDoorWLast
import Derived.Laws.Externs
import Derived.KernelRfl
namespace Go.Proofs.YtpgaoihgohlmkaaDoor.HandX
open Go.RowKit Go.Proofs.YtpgaoihgohlmkaaDoorW.PrintWords Go.Proofs.YtpgaoihgohlmkaaDoorW.PrintLast
/-- The call hands back a value here and now. -/
structure CallsX (P : Program) (f : FuncId) (args : Array Value) (w : World) (R : Ending → World → Prop) : Prop where
  run : ∃ v w', (callFunc f args).run P w = .ok (.value v) w' ∧ R (.returned v) w'
theorem CallsX.mono {P : Program} {f : FuncId} {args : Array Value} {w : World} {R R' : Ending → World → Prop} (h : CallsX P f args w R) (hR : ∀ e w', R e w' → R' e w') : CallsX P f args w R' :=
  ⟨let ⟨v, w', h1, h2⟩ := h.run; ⟨v, w', h1, hR _ _ h2⟩⟩
section
variable {P : Program} {ops : Array Oper} {Q : Exit → Act → World → Prop}
theorem goesX_ {rest : List Oper} {oi : Oper} {a : Act} {w : World} (N : Option Tmp) (hd : oi.dst = N) (hg : oi.guard = none) {f : FuncId} {as : Array Operand} {ts : Array TypeId} (args : Array Value)
    (hop : oi.op = .call { callee := .value (.func f), args := as, argTypes := ts }) (hargs : as.map a.eval = args)
    (h : CallsX P f args w fun e w' => ∃ v, e = .returned v ∧ wpList P ops Q rest (a.put N v) w') : wpList P ops Q (oi :: rest) a w := by
  refine wpList_plain hg fun K hK => ?_
  obtain ⟨v, w', he, v', e', hk⟩ := h.run
  cases e'
  have hrun : (execOp a.eval oi).run P w = .ok (.value v) w' := by
    unfold execOp
    simp [hop, resolve, Deferred.ofValue, invoke, Act.eval, hargs, he]
  unfold Oper.wp
  rw [hrun, Oper.upon_value]
  subst hd
  exact hK _ _ hk
end
/-- The model's entry for math/bits.Sub64. -/
def sub64Entry : Array Value → Sem Value := fun args => do
  let (x, y, b) ← Extern.MathBitsCarry.three "Sub64" args
  pure (Extern.MathBitsCarry.pair ((x + Extern.MathBitsCarry.m64 - y - b) % Extern.MathBitsCarry.m64) (if x < y + b then 1 else 0))
theorem run_sub64 {P : Program} (x y b : Nat) (hb : b ≤ 1) (w : World) :
    (sub64Entry #[.int .u64 x, .int .u64 y, .int .u64 b]).run P w =
      .ok (.tuple #[.int .u64 (((x + 18446744073709551616 - y - b) % 18446744073709551616 : Nat) : Int), .int .u64 ((if x < y + b then 1 else 0 : Nat) : Int)]) w := by
  have : b = 0 ∨ b = 1 := by omega
  rcases this with rfl | rfl <;> rfl
def add64 (a b c : Int) : Option (Int × Int) := if 0 ≤ a ∧ 0 ≤ b ∧ 0 ≤ c ∧ c ≤ 1 then some ((a + b + c) % 18446744073709551616, (a + b + c) / 18446744073709551616) else none
def sub64 (a b c : Int) : Option (Int × Int) := if 0 ≤ a ∧ a < 18446744073709551616 ∧ 0 ≤ b ∧ b < 18446744073709551616 ∧ 0 ≤ c ∧ c ≤ 1 then some ((a - b - c) % 18446744073709551616, if a < b + c then 1 else 0) else none
theorem add64_calls {P : Program} {f : FuncId} {fn : Func} (hf : P.funcs[f]? = some fn) (hname : (fn.name == "runtime.NumGoroutine") = false) (hb : fn.body.isNone = true) (hn : Extern.findNext fn = none) (he : Extern.find fn = some add64Entry) (a b c r1 r2 : Int) (w : World) (h : add64 a b c = some (r1, r2)) :
    CallsX P f #[.int .u64 a, .int .u64 b, .int .u64 c] w fun e w' => e = .returned (.tuple #[.int .u64 r1, .int .u64 r2]) ∧ Below w.heap.size w w' := by
  unfold add64 at h
  by_cases hc : 0 ≤ a ∧ 0 ≤ b ∧ 0 ≤ c ∧ c ≤ 1
  · rw [if_pos hc] at h
    obtain ⟨rfl, rfl⟩ := Prod.mk.inj (Option.some.inj h)
    refine ⟨_, _, ?_, rfl, Below.refl _ w⟩
    rw [run_callFunc_extern hf hname hb hn he, run_add64 a b c hc.1 hc.2.1 hc.2.2.1 hc.2.2.2]
    rfl
  · rw [if_neg hc] at h
    cases h
theorem sub64_calls {P : Program} {f : FuncId} {fn : Func} (hf : P.funcs[f]? = some fn) (hname : (fn.name == "runtime.NumGoroutine") = false) (hb : fn.body.isNone = true) (hn : Extern.findNext fn = none) (he : Extern.find fn = some sub64Entry) (a b c r1 r2 : Int) (w : World) (h : sub64 a b c = some (r1, r2)) :
    CallsX P f #[.int .u64 a, .int .u64 b, .int .u64 c] w fun e w' => e = .returned (.tuple #[.int .u64 r1, .int .u64 r2]) ∧ Below w.heap.size w w' := by
  unfold sub64 at h
  by_cases hc : 0 ≤ a ∧ a < 18446744073709551616 ∧ 0 ≤ b ∧ b < 18446744073709551616 ∧ 0 ≤ c ∧ c ≤ 1
  · rw [if_pos hc] at h
    obtain ⟨h1, h2⟩ := Prod.mk.inj (Option.some.inj h)
    obtain ⟨x, rfl⟩ := Int.eq_ofNat_of_zero_le hc.1
    obtain ⟨y, rfl⟩ := Int.eq_ofNat_of_zero_le hc.2.2.1
    obtain ⟨z, rfl⟩ := Int.eq_ofNat_of_zero_le hc.2.2.2.2.1
    refine ⟨_, _, ?_, rfl, Below.refl _ w⟩
    rw [run_callFunc_extern hf hname hb hn he, run_sub64 x y z (by omega)]
    have e1 : (((x + 18446744073709551616 - y - z) % 18446744073709551616 : Nat) : Int) = r1 := by rw [← h1]; omega
    have e2 : ((if x < y + z then 1 else 0 : Nat) : Int) = r2 := by
      rw [← h2]
      by_cases hl : x < y + z
      · rw [if_pos hl, if_pos (by omega)]; rfl
      · rw [if_neg hl, if_neg (by omega)]; rfl
    rw [e1, e2]
    rfl
  · rw [if_neg hc] at h
    cases h
end Go.Proofs.YtpgaoihgohlmkaaDoor.HandX
