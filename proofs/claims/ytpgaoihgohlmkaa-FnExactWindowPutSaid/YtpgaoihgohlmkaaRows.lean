/-
  No cell of these rows narrows 'for every input' (looked for: loops, veiled, ifaces, maps, wideKeys, modest, calm, conditions, laid).
  DERIVED. THE GIVEN ROWS OF THIS SEAT. 5 by the template 'for every input the law returns true; each argument reads behind the call as it read before'; 0 by the template 'total and deterministic' (their statements: YtpgaoihgohlmkaaTotals.lean).
  GIVEN WITH THE SEED: the statements are not yours to turn. If you find one false, say at which input.
  Laid BY PROGRAM, IN A SANDBOX (cutbox-rows.mjs): the forced cells as the released guide's own fill.sh prints them over the translation 6472e43f0fa664e0… (all of the seat's roots in one cut). By AI agents, Wed Nov 11 2026. No macro, syntax, notation, axiom, sorry.
-/
import Derived.Test.YtpgaoihgohlmkaaChecked
import GoSem.Claim
import GoSem.ClaimJoined
import GoSem.ClaimMapViews
import Derived.JoinedTies
import Derived.KernelRfl
namespace Go.Proofs.Ytpgaoihgohlmkaa
/- THE CELL 'sum', in the pinned program and in every row, IS THE sha256 OF THE DUMP (.gsa) THAT YtpgaoihgohlmkaaProg.lean LOADS. Nothing in Lean hashes anything: it is a label: what it is worth is what the hold of that sum in a sandbox is worth. -/
noncomputable def Try.pinned : Pinned := { name := "ytpgaoihgohlmkaa", sum := "6472e43f0fa664e09a9fac1c8eeaad9c181b034bb77deda1bf680ccd5f3129f6", checked := Try.checked }
namespace Rows
def none {H : Type} : Left H := { results := [], args := [] }

/-- 'laws.FnExactWindowPut': WHATEVER THE INPUT: true; the input reads as it did. -/
def fnExactWindowPutSpec : ChangeSpec := { name := "fnExactWindowPut", fn := fun _ => fun
  | [d1, d2] => { results := [.lit (.bool true)], args := [d1, d2] }
  | _ => none }
def fnExactWindowPutRow : OpenClaim := { program := "ytpgaoihgohlmkaa", sum := "6472e43f0fa664e09a9fac1c8eeaad9c181b034bb77deda1bf680ccd5f3129f6", func := "loop.example/g00095/laws.FnExactWindowPut", spec := "fnExactWindowPut", apart := false }
def FnExactWindowPutSaid : Prop := fnExactWindowPutRow.holds Try.pinned (OpenSpec.ofChange fnExactWindowPutSpec)

/-- ITS FALSE NEIGHBOUR: 'it returns false'. Refute it at one input. -/
def fnExactWindowPutWrong : ChangeSpec := { name := "fnExactWindowPut", fn := fun _ => fun
  | [d1, d2] => { results := [.lit (.bool false)], args := [d1, d2] }
  | _ => none }
def FnExactWindowPutWrongFalsely : Prop := fnExactWindowPutRow.holds Try.pinned (OpenSpec.ofChange fnExactWindowPutWrong)

/-- 'laws.FnExactWindowOf': WHATEVER THE INPUT: true; the input reads as it did. -/
def fnExactWindowOfSpec : ChangeSpec := { name := "fnExactWindowOf", fn := fun _ => fun
  | [d1, d2] => { results := [.lit (.bool true)], args := [d1, d2] }
  | _ => none }
def fnExactWindowOfRow : OpenClaim := { program := "ytpgaoihgohlmkaa", sum := "6472e43f0fa664e09a9fac1c8eeaad9c181b034bb77deda1bf680ccd5f3129f6", func := "loop.example/g00095/laws.FnExactWindowOf", spec := "fnExactWindowOf", apart := false }
def FnExactWindowOfSaid : Prop := fnExactWindowOfRow.holds Try.pinned (OpenSpec.ofChange fnExactWindowOfSpec)

/-- ITS FALSE NEIGHBOUR: 'it returns false'. Refute it at one input. -/
def fnExactWindowOfWrong : ChangeSpec := { name := "fnExactWindowOf", fn := fun _ => fun
  | [d1, d2] => { results := [.lit (.bool false)], args := [d1, d2] }
  | _ => none }
def FnExactWindowOfWrongFalsely : Prop := fnExactWindowOfRow.holds Try.pinned (OpenSpec.ofChange fnExactWindowOfWrong)

/-- 'laws.FnExactRatioShare': WHATEVER THE INPUT: true; the input reads as it did. -/
def fnExactRatioShareSpec : ChangeSpec := { name := "fnExactRatioShare", fn := fun _ => fun
  | [d1, d2, d3] => { results := [.lit (.bool true)], args := [d1, d2, d3] }
  | _ => none }
def fnExactRatioShareRow : OpenClaim := { program := "ytpgaoihgohlmkaa", sum := "6472e43f0fa664e09a9fac1c8eeaad9c181b034bb77deda1bf680ccd5f3129f6", func := "loop.example/g00095/laws.FnExactRatioShare", spec := "fnExactRatioShare", named := ["math/bits.divideError", "math/bits.overflowError"], apart := false }
def FnExactRatioShareSaid : Prop := fnExactRatioShareRow.holds Try.pinned (OpenSpec.ofChange fnExactRatioShareSpec)

/-- ITS FALSE NEIGHBOUR: 'it returns false'. Refute it at one input. -/
def fnExactRatioShareWrong : ChangeSpec := { name := "fnExactRatioShare", fn := fun _ => fun
  | [d1, d2, d3] => { results := [.lit (.bool false)], args := [d1, d2, d3] }
  | _ => none }
def FnExactRatioShareWrongFalsely : Prop := fnExactRatioShareRow.holds Try.pinned (OpenSpec.ofChange fnExactRatioShareWrong)

/-- 'laws.FnRatioShare': WHATEVER THE INPUT: true; the input reads as it did. -/
def fnRatioShareSpec : ChangeSpec := { name := "fnRatioShare", fn := fun _ => fun
  | [d] => { results := [.lit (.bool true)], args := [d] }
  | _ => none }
def fnRatioShareRow : OpenClaim := { program := "ytpgaoihgohlmkaa", sum := "6472e43f0fa664e09a9fac1c8eeaad9c181b034bb77deda1bf680ccd5f3129f6", func := "loop.example/g00095/laws.FnRatioShare", spec := "fnRatioShare", named := ["math/bits.divideError", "math/bits.overflowError"], apart := false }
def FnRatioShareSaid : Prop := fnRatioShareRow.holds Try.pinned (OpenSpec.ofChange fnRatioShareSpec)

/-- ITS FALSE NEIGHBOUR: 'it returns false'. Refute it at one input. -/
def fnRatioShareWrong : ChangeSpec := { name := "fnRatioShare", fn := fun _ => fun
  | [d] => { results := [.lit (.bool false)], args := [d] }
  | _ => none }
def FnRatioShareWrongFalsely : Prop := fnRatioShareRow.holds Try.pinned (OpenSpec.ofChange fnRatioShareWrong)

/-- 'laws.FnExactFillFair': WHATEVER THE INPUT: true; the input reads as it did. -/
def fnExactFillFairSpec : ChangeSpec := { name := "fnExactFillFair", fn := fun _ => fun
  | [d1, d2] => { results := [.lit (.bool true)], args := [d1, d2] }
  | _ => none }
def fnExactFillFairRow : OpenClaim := { program := "ytpgaoihgohlmkaa", sum := "6472e43f0fa664e09a9fac1c8eeaad9c181b034bb77deda1bf680ccd5f3129f6", func := "loop.example/g00095/laws.FnExactFillFair", spec := "fnExactFillFair", apart := false }
def FnExactFillFairSaid : Prop := fnExactFillFairRow.holds Try.pinned (OpenSpec.ofChange fnExactFillFairSpec)

/-- ITS FALSE NEIGHBOUR: 'it returns false'. Refute it at one input. -/
def fnExactFillFairWrong : ChangeSpec := { name := "fnExactFillFair", fn := fun _ => fun
  | [d1, d2] => { results := [.lit (.bool false)], args := [d1, d2] }
  | _ => none }
def FnExactFillFairWrongFalsely : Prop := fnExactFillFairRow.holds Try.pinned (OpenSpec.ofChange fnExactFillFairWrong)

/- THE SECOND FORM. 'bulk': how many values and letters a reading holds, each counted each time it is reached (what is shared counts as often as it is met; a slice's spare places count too). A statement '..UptoSaid' is the law's where the arguments, and the package variables that the reading takes, are together of bulk at most 1048576: NARROWER than '..Said'. Prove '..Said' where nothing that the law and all that it calls make is longer than what came in: it says more and counts as full. Else prove '..UptoSaid'. A law counts once. -/
mutual
def uptoBulk {H : Type} : DataW H → Nat
  | .lit (.string bytes) => bytes.length + 1
  | .lit _ => 1
  | .nil => 1
  | .ptr d => uptoBulk d + 1
  | .slice elems spare => uptoBulkAll elems + uptoBulkAll spare + 1
  | .agg parts => uptoBulkAll parts + 1
  | .iface _ d => uptoBulk d + 1
  | .map entries => uptoBulkEntries entries + 1
  | .held _ => 1
def uptoBulkAll {H : Type} : List (DataW H) → Nat
  | [] => 0
  | d :: r => uptoBulk d + uptoBulkAll r
def uptoBulkEntries {H : Type} : List (Lit × DataW H) → Nat
  | [] => 0
  | x :: r => uptoBulkEntry x + uptoBulkEntries r
def uptoBulkEntry {H : Type} : Lit × DataW H → Nat
  | (.string bytes, d) => bytes.length + uptoBulk d + 1
  | (_, d) => uptoBulk d + 1
 end
def uptoSmall : (H : Type) → List (DataW H) → Bool := fun _ ds => decide (uptoBulkAll ds ≤ 1048576)
def OpenSpec.upto (s : _root_.Go.ChangeSpec) : _root_.Go.OpenSpec := { _root_.Go.OpenSpec.ofChange s with cond := some uptoSmall }

/-- 'laws.FnExactWindowPut', WHERE WHAT IT READS IS OF BULK AT MOST 1048576: true; the input reads as it did. -/
def fnExactWindowPutUptoRow : OpenClaim := { program := "ytpgaoihgohlmkaa", sum := "6472e43f0fa664e09a9fac1c8eeaad9c181b034bb77deda1bf680ccd5f3129f6", func := "loop.example/g00095/laws.FnExactWindowPut", spec := "fnExactWindowPut", apart := false, narrowed := true }
def FnExactWindowPutUptoSaid : Prop := fnExactWindowPutUptoRow.holds Try.pinned (OpenSpec.upto fnExactWindowPutSpec)

/-- 'laws.FnExactWindowOf', WHERE WHAT IT READS IS OF BULK AT MOST 1048576: true; the input reads as it did. -/
def fnExactWindowOfUptoRow : OpenClaim := { program := "ytpgaoihgohlmkaa", sum := "6472e43f0fa664e09a9fac1c8eeaad9c181b034bb77deda1bf680ccd5f3129f6", func := "loop.example/g00095/laws.FnExactWindowOf", spec := "fnExactWindowOf", apart := false, narrowed := true }
def FnExactWindowOfUptoSaid : Prop := fnExactWindowOfUptoRow.holds Try.pinned (OpenSpec.upto fnExactWindowOfSpec)

/-- 'laws.FnExactRatioShare', WHERE WHAT IT READS IS OF BULK AT MOST 1048576: true; the input reads as it did. -/
def fnExactRatioShareUptoRow : OpenClaim := { program := "ytpgaoihgohlmkaa", sum := "6472e43f0fa664e09a9fac1c8eeaad9c181b034bb77deda1bf680ccd5f3129f6", func := "loop.example/g00095/laws.FnExactRatioShare", spec := "fnExactRatioShare", named := ["math/bits.divideError", "math/bits.overflowError"], apart := false, narrowed := true }
def FnExactRatioShareUptoSaid : Prop := fnExactRatioShareUptoRow.holds Try.pinned (OpenSpec.upto fnExactRatioShareSpec)

/-- 'laws.FnRatioShare', WHERE WHAT IT READS IS OF BULK AT MOST 1048576: true; the input reads as it did. -/
def fnRatioShareUptoRow : OpenClaim := { program := "ytpgaoihgohlmkaa", sum := "6472e43f0fa664e09a9fac1c8eeaad9c181b034bb77deda1bf680ccd5f3129f6", func := "loop.example/g00095/laws.FnRatioShare", spec := "fnRatioShare", named := ["math/bits.divideError", "math/bits.overflowError"], apart := false, narrowed := true }
def FnRatioShareUptoSaid : Prop := fnRatioShareUptoRow.holds Try.pinned (OpenSpec.upto fnRatioShareSpec)

/-- 'laws.FnExactFillFair', WHERE WHAT IT READS IS OF BULK AT MOST 1048576: true; the input reads as it did. -/
def fnExactFillFairUptoRow : OpenClaim := { program := "ytpgaoihgohlmkaa", sum := "6472e43f0fa664e09a9fac1c8eeaad9c181b034bb77deda1bf680ccd5f3129f6", func := "loop.example/g00095/laws.FnExactFillFair", spec := "fnExactFillFair", apart := false, narrowed := true }
def FnExactFillFairUptoSaid : Prop := fnExactFillFairUptoRow.holds Try.pinned (OpenSpec.upto fnExactFillFairSpec)

end Rows
end Go.Proofs.Ytpgaoihgohlmkaa
