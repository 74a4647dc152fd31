/-
  No cell of these rows narrows 'for every input' (looked for: loops, veiled, ifaces, maps, wideKeys, modest, calm, conditions, laid).
  DERIVED. THE GIVEN ROWS OF THIS SEAT. 12 by the template 'for every input the law returns true; each argument reads behind the call as it read before'; 0 by the template 'total and deterministic' (their statements: YtnekamdopfielaaTotals.lean).
  GIVEN WITH THE SEED: the statements are not yours to turn. If you find one false, say at which input.
  Laid BY PROGRAM, IN A SANDBOX (cutbox-rows.mjs): the forced cells as the released guide's own fill.sh prints them over the translation c2ccbbe15ac91a3e… (all of the seat's roots in one cut). By AI agents, Wed Nov 11 2026. No macro, syntax, notation, axiom, sorry.
-/
import Derived.Test.YtnekamdopfielaaChecked
import GoSem.Claim
import GoSem.ClaimJoined
import GoSem.ClaimMapViews
import Derived.JoinedTies
import Derived.KernelRfl
namespace Go.Proofs.Ytnekamdopfielaa
/- THE CELL 'sum', in the pinned program and in every row, IS THE sha256 OF THE DUMP (.gsa) THAT YtnekamdopfielaaProg.lean LOADS. Nothing in Lean hashes anything: it is a label: what it is worth is what the hold of that sum in a sandbox is worth. -/
noncomputable def Try.pinned : Pinned := { name := "ytnekamdopfielaa", sum := "c2ccbbe15ac91a3e1a4b92f4f2382bbb64fcd74890810183017430a6d80d6381", checked := Try.checked }
namespace Rows
def none {H : Type} : Left H := { results := [], args := [] }

/-- 'laws.FnExactFillSum': WHATEVER THE INPUT: true; the input reads as it did. -/
def fnExactFillSumSpec : ChangeSpec := { name := "fnExactFillSum", fn := fun _ => fun
  | [d] => { results := [.lit (.bool true)], args := [d] }
  | _ => none }
def fnExactFillSumRow : OpenClaim := { program := "ytnekamdopfielaa", sum := "c2ccbbe15ac91a3e1a4b92f4f2382bbb64fcd74890810183017430a6d80d6381", func := "loop.example/g00095/laws.FnExactFillSum", spec := "fnExactFillSum", apart := false }
def FnExactFillSumSaid : Prop := fnExactFillSumRow.holds Try.pinned (OpenSpec.ofChange fnExactFillSumSpec)

/-- ITS FALSE NEIGHBOUR: 'it returns false'. Refute it at one input. -/
def fnExactFillSumWrong : ChangeSpec := { name := "fnExactFillSum", fn := fun _ => fun
  | [d] => { results := [.lit (.bool false)], args := [d] }
  | _ => none }
def FnExactFillSumWrongFalsely : Prop := fnExactFillSumRow.holds Try.pinned (OpenSpec.ofChange fnExactFillSumWrong)

/-- 'laws.FnExactLeaseOthers': WHATEVER THE INPUT: true; the input reads as it did. -/
def fnExactLeaseOthersSpec : ChangeSpec := { name := "fnExactLeaseOthers", fn := fun _ => fun
  | [d1, d2, d3] => { results := [.lit (.bool true)], args := [d1, d2, d3] }
  | _ => none }
def fnExactLeaseOthersRow : OpenClaim := { program := "ytnekamdopfielaa", sum := "c2ccbbe15ac91a3e1a4b92f4f2382bbb64fcd74890810183017430a6d80d6381", func := "loop.example/g00095/laws.FnExactLeaseOthers", spec := "fnExactLeaseOthers", apart := false }
def FnExactLeaseOthersSaid : Prop := fnExactLeaseOthersRow.holds Try.pinned (OpenSpec.ofChange fnExactLeaseOthersSpec)

/-- ITS FALSE NEIGHBOUR: 'it returns false'. Refute it at one input. -/
def fnExactLeaseOthersWrong : ChangeSpec := { name := "fnExactLeaseOthers", fn := fun _ => fun
  | [d1, d2, d3] => { results := [.lit (.bool false)], args := [d1, d2, d3] }
  | _ => none }
def FnExactLeaseOthersWrongFalsely : Prop := fnExactLeaseOthersRow.holds Try.pinned (OpenSpec.ofChange fnExactLeaseOthersWrong)

/-- 'laws.FnExactLeaseSum': WHATEVER THE INPUT: true; the input reads as it did. -/
def fnExactLeaseSumSpec : ChangeSpec := { name := "fnExactLeaseSum", fn := fun _ => fun
  | [d1, d2] => { results := [.lit (.bool true)], args := [d1, d2] }
  | _ => none }
def fnExactLeaseSumRow : OpenClaim := { program := "ytnekamdopfielaa", sum := "c2ccbbe15ac91a3e1a4b92f4f2382bbb64fcd74890810183017430a6d80d6381", func := "loop.example/g00095/laws.FnExactLeaseSum", spec := "fnExactLeaseSum", apart := false }
def FnExactLeaseSumSaid : Prop := fnExactLeaseSumRow.holds Try.pinned (OpenSpec.ofChange fnExactLeaseSumSpec)

/-- ITS FALSE NEIGHBOUR: 'it returns false'. Refute it at one input. -/
def fnExactLeaseSumWrong : ChangeSpec := { name := "fnExactLeaseSum", fn := fun _ => fun
  | [d1, d2] => { results := [.lit (.bool false)], args := [d1, d2] }
  | _ => none }
def FnExactLeaseSumWrongFalsely : Prop := fnExactLeaseSumRow.holds Try.pinned (OpenSpec.ofChange fnExactLeaseSumWrong)

/-- 'laws.FnExactWindowRight': WHATEVER THE INPUT: true; the input reads as it did. -/
def fnExactWindowRightSpec : ChangeSpec := { name := "fnExactWindowRight", fn := fun _ => fun
  | [d] => { results := [.lit (.bool true)], args := [d] }
  | _ => none }
def fnExactWindowRightRow : OpenClaim := { program := "ytnekamdopfielaa", sum := "c2ccbbe15ac91a3e1a4b92f4f2382bbb64fcd74890810183017430a6d80d6381", func := "loop.example/g00095/laws.FnExactWindowRight", spec := "fnExactWindowRight", apart := false }
def FnExactWindowRightSaid : Prop := fnExactWindowRightRow.holds Try.pinned (OpenSpec.ofChange fnExactWindowRightSpec)

/-- ITS FALSE NEIGHBOUR: 'it returns false'. Refute it at one input. -/
def fnExactWindowRightWrong : ChangeSpec := { name := "fnExactWindowRight", fn := fun _ => fun
  | [d] => { results := [.lit (.bool false)], args := [d] }
  | _ => none }
def FnExactWindowRightWrongFalsely : Prop := fnExactWindowRightRow.holds Try.pinned (OpenSpec.ofChange fnExactWindowRightWrong)

/-- 'laws.FnExactMostOf': WHATEVER THE INPUT: true; the input reads as it did. -/
def fnExactMostOfSpec : ChangeSpec := { name := "fnExactMostOf", fn := fun _ => fun
  | [d1, d2, d3] => { results := [.lit (.bool true)], args := [d1, d2, d3] }
  | _ => none }
def fnExactMostOfRow : OpenClaim := { program := "ytnekamdopfielaa", sum := "c2ccbbe15ac91a3e1a4b92f4f2382bbb64fcd74890810183017430a6d80d6381", func := "loop.example/g00095/laws.FnExactMostOf", spec := "fnExactMostOf", apart := false }
def FnExactMostOfSaid : Prop := fnExactMostOfRow.holds Try.pinned (OpenSpec.ofChange fnExactMostOfSpec)

/-- ITS FALSE NEIGHBOUR: 'it returns false'. Refute it at one input. -/
def fnExactMostOfWrong : ChangeSpec := { name := "fnExactMostOf", fn := fun _ => fun
  | [d1, d2, d3] => { results := [.lit (.bool false)], args := [d1, d2, d3] }
  | _ => none }
def FnExactMostOfWrongFalsely : Prop := fnExactMostOfRow.holds Try.pinned (OpenSpec.ofChange fnExactMostOfWrong)

/-- 'laws.FnWideShift': WHATEVER THE INPUT: true; the input reads as it did. -/
def fnWideShiftSpec : ChangeSpec := { name := "fnWideShift", fn := fun _ => fun
  | [d] => { results := [.lit (.bool true)], args := [d] }
  | _ => none }
def fnWideShiftRow : OpenClaim := { program := "ytnekamdopfielaa", sum := "c2ccbbe15ac91a3e1a4b92f4f2382bbb64fcd74890810183017430a6d80d6381", func := "loop.example/g00095/laws.FnWideShift", spec := "fnWideShift", apart := false }
def FnWideShiftSaid : Prop := fnWideShiftRow.holds Try.pinned (OpenSpec.ofChange fnWideShiftSpec)

/-- ITS FALSE NEIGHBOUR: 'it returns false'. Refute it at one input. -/
def fnWideShiftWrong : ChangeSpec := { name := "fnWideShift", fn := fun _ => fun
  | [d] => { results := [.lit (.bool false)], args := [d] }
  | _ => none }
def FnWideShiftWrongFalsely : Prop := fnWideShiftRow.holds Try.pinned (OpenSpec.ofChange fnWideShiftWrong)

/-- 'laws.FnExactWheelNew': WHATEVER THE INPUT: true; the input reads as it did. -/
def fnExactWheelNewSpec : ChangeSpec := { name := "fnExactWheelNew", fn := fun _ => fun
  | [d] => { results := [.lit (.bool true)], args := [d] }
  | _ => none }
def fnExactWheelNewRow : OpenClaim := { program := "ytnekamdopfielaa", sum := "c2ccbbe15ac91a3e1a4b92f4f2382bbb64fcd74890810183017430a6d80d6381", func := "loop.example/g00095/laws.FnExactWheelNew", spec := "fnExactWheelNew", apart := false }
def FnExactWheelNewSaid : Prop := fnExactWheelNewRow.holds Try.pinned (OpenSpec.ofChange fnExactWheelNewSpec)

/-- ITS FALSE NEIGHBOUR: 'it returns false'. Refute it at one input. -/
def fnExactWheelNewWrong : ChangeSpec := { name := "fnExactWheelNew", fn := fun _ => fun
  | [d] => { results := [.lit (.bool false)], args := [d] }
  | _ => none }
def FnExactWheelNewWrongFalsely : Prop := fnExactWheelNewRow.holds Try.pinned (OpenSpec.ofChange fnExactWheelNewWrong)

/-- 'laws.FnExactLeaseRoom': WHATEVER THE INPUT: true; the input reads as it did. -/
def fnExactLeaseRoomSpec : ChangeSpec := { name := "fnExactLeaseRoom", fn := fun _ => fun
  | [d1, d2, d3, d4] => { results := [.lit (.bool true)], args := [d1, d2, d3, d4] }
  | _ => none }
def fnExactLeaseRoomRow : OpenClaim := { program := "ytnekamdopfielaa", sum := "c2ccbbe15ac91a3e1a4b92f4f2382bbb64fcd74890810183017430a6d80d6381", func := "loop.example/g00095/laws.FnExactLeaseRoom", spec := "fnExactLeaseRoom", apart := false }
def FnExactLeaseRoomSaid : Prop := fnExactLeaseRoomRow.holds Try.pinned (OpenSpec.ofChange fnExactLeaseRoomSpec)

/-- ITS FALSE NEIGHBOUR: 'it returns false'. Refute it at one input. -/
def fnExactLeaseRoomWrong : ChangeSpec := { name := "fnExactLeaseRoom", fn := fun _ => fun
  | [d1, d2, d3, d4] => { results := [.lit (.bool false)], args := [d1, d2, d3, d4] }
  | _ => none }
def FnExactLeaseRoomWrongFalsely : Prop := fnExactLeaseRoomRow.holds Try.pinned (OpenSpec.ofChange fnExactLeaseRoomWrong)

/-- 'laws.FnExactWindowMost': WHATEVER THE INPUT: true; the input reads as it did. -/
def fnExactWindowMostSpec : ChangeSpec := { name := "fnExactWindowMost", fn := fun _ => fun
  | [d1, d2] => { results := [.lit (.bool true)], args := [d1, d2] }
  | _ => none }
def fnExactWindowMostRow : OpenClaim := { program := "ytnekamdopfielaa", sum := "c2ccbbe15ac91a3e1a4b92f4f2382bbb64fcd74890810183017430a6d80d6381", func := "loop.example/g00095/laws.FnExactWindowMost", spec := "fnExactWindowMost", apart := false }
def FnExactWindowMostSaid : Prop := fnExactWindowMostRow.holds Try.pinned (OpenSpec.ofChange fnExactWindowMostSpec)

/-- ITS FALSE NEIGHBOUR: 'it returns false'. Refute it at one input. -/
def fnExactWindowMostWrong : ChangeSpec := { name := "fnExactWindowMost", fn := fun _ => fun
  | [d1, d2] => { results := [.lit (.bool false)], args := [d1, d2] }
  | _ => none }
def FnExactWindowMostWrongFalsely : Prop := fnExactWindowMostRow.holds Try.pinned (OpenSpec.ofChange fnExactWindowMostWrong)

/-- 'laws.FnExactRatioCmp': WHATEVER THE INPUT: true; the input reads as it did. -/
def fnExactRatioCmpSpec : ChangeSpec := { name := "fnExactRatioCmp", fn := fun _ => fun
  | [d1, d2] => { results := [.lit (.bool true)], args := [d1, d2] }
  | _ => none }
def fnExactRatioCmpRow : OpenClaim := { program := "ytnekamdopfielaa", sum := "c2ccbbe15ac91a3e1a4b92f4f2382bbb64fcd74890810183017430a6d80d6381", func := "loop.example/g00095/laws.FnExactRatioCmp", spec := "fnExactRatioCmp", apart := false }
def FnExactRatioCmpSaid : Prop := fnExactRatioCmpRow.holds Try.pinned (OpenSpec.ofChange fnExactRatioCmpSpec)

/-- ITS FALSE NEIGHBOUR: 'it returns false'. Refute it at one input. -/
def fnExactRatioCmpWrong : ChangeSpec := { name := "fnExactRatioCmp", fn := fun _ => fun
  | [d1, d2] => { results := [.lit (.bool false)], args := [d1, d2] }
  | _ => none }
def FnExactRatioCmpWrongFalsely : Prop := fnExactRatioCmpRow.holds Try.pinned (OpenSpec.ofChange fnExactRatioCmpWrong)

/-- 'laws.FnExactWideDiv': WHATEVER THE INPUT: true; the input reads as it did. -/
def fnExactWideDivSpec : ChangeSpec := { name := "fnExactWideDiv", fn := fun _ => fun
  | [d1, d2] => { results := [.lit (.bool true)], args := [d1, d2] }
  | _ => none }
def fnExactWideDivRow : OpenClaim := { program := "ytnekamdopfielaa", sum := "c2ccbbe15ac91a3e1a4b92f4f2382bbb64fcd74890810183017430a6d80d6381", func := "loop.example/g00095/laws.FnExactWideDiv", spec := "fnExactWideDiv", named := ["math/bits.divideError", "math/bits.overflowError"], apart := false }
def FnExactWideDivSaid : Prop := fnExactWideDivRow.holds Try.pinned (OpenSpec.ofChange fnExactWideDivSpec)

/-- ITS FALSE NEIGHBOUR: 'it returns false'. Refute it at one input. -/
def fnExactWideDivWrong : ChangeSpec := { name := "fnExactWideDiv", fn := fun _ => fun
  | [d1, d2] => { results := [.lit (.bool false)], args := [d1, d2] }
  | _ => none }
def FnExactWideDivWrongFalsely : Prop := fnExactWideDivRow.holds Try.pinned (OpenSpec.ofChange fnExactWideDivWrong)

/-- 'laws.FnExactWideText': WHATEVER THE INPUT: true; the input reads as it did. -/
def fnExactWideTextSpec : ChangeSpec := { name := "fnExactWideText", fn := fun _ => fun
  | [d] => { results := [.lit (.bool true)], args := [d] }
  | _ => none }
def fnExactWideTextRow : OpenClaim := { program := "ytnekamdopfielaa", sum := "c2ccbbe15ac91a3e1a4b92f4f2382bbb64fcd74890810183017430a6d80d6381", func := "loop.example/g00095/laws.FnExactWideText", spec := "fnExactWideText", named := ["math/bits.divideError", "math/bits.overflowError"], apart := false }
def FnExactWideTextSaid : Prop := fnExactWideTextRow.holds Try.pinned (OpenSpec.ofChange fnExactWideTextSpec)

/-- ITS FALSE NEIGHBOUR: 'it returns false'. Refute it at one input. -/
def fnExactWideTextWrong : ChangeSpec := { name := "fnExactWideText", fn := fun _ => fun
  | [d] => { results := [.lit (.bool false)], args := [d] }
  | _ => none }
def FnExactWideTextWrongFalsely : Prop := fnExactWideTextRow.holds Try.pinned (OpenSpec.ofChange fnExactWideTextWrong)

/- THE SECOND FORM. 'bulk': how many values and letters a reading holds, each counted each time it is reached (what is shared counts as often as it is met; a slice's spare places count too). A statement '..UptoSaid' is the law's where the arguments, and the package variables that the reading takes, are together of bulk at most 1048576: NARROWER than '..Said'. Prove '..Said' where nothing that the law and all that it calls make is longer than what came in: it says more and counts as full. Else prove '..UptoSaid'. A law counts once. -/
mutual
def uptoBulk {H : Type} : DataW H → Nat
  | .lit (.string bytes) => bytes.length + 1
  | .lit _ => 1
  | .nil => 1
  | .ptr d => uptoBulk d + 1
  | .slice elems spare => uptoBulkAll elems + uptoBulkAll spare + 1
  | .agg parts => uptoBulkAll parts + 1
  | .iface _ d => uptoBulk d + 1
  | .map entries => uptoBulkEntries entries + 1
  | .held _ => 1
def uptoBulkAll {H : Type} : List (DataW H) → Nat
  | [] => 0
  | d :: r => uptoBulk d + uptoBulkAll r
def uptoBulkEntries {H : Type} : List (Lit × DataW H) → Nat
  | [] => 0
  | x :: r => uptoBulkEntry x + uptoBulkEntries r
def uptoBulkEntry {H : Type} : Lit × DataW H → Nat
  | (.string bytes, d) => bytes.length + uptoBulk d + 1
  | (_, d) => uptoBulk d + 1
 end
def uptoSmall : (H : Type) → List (DataW H) → Bool := fun _ ds => decide (uptoBulkAll ds ≤ 1048576)
def OpenSpec.upto (s : _root_.Go.ChangeSpec) : _root_.Go.OpenSpec := { _root_.Go.OpenSpec.ofChange s with cond := some uptoSmall }

/-- 'laws.FnExactFillSum', WHERE WHAT IT READS IS OF BULK AT MOST 1048576: true; the input reads as it did. -/
def fnExactFillSumUptoRow : OpenClaim := { program := "ytnekamdopfielaa", sum := "c2ccbbe15ac91a3e1a4b92f4f2382bbb64fcd74890810183017430a6d80d6381", func := "loop.example/g00095/laws.FnExactFillSum", spec := "fnExactFillSum", apart := false, narrowed := true }
def FnExactFillSumUptoSaid : Prop := fnExactFillSumUptoRow.holds Try.pinned (OpenSpec.upto fnExactFillSumSpec)

/-- 'laws.FnExactLeaseOthers', WHERE WHAT IT READS IS OF BULK AT MOST 1048576: true; the input reads as it did. -/
def fnExactLeaseOthersUptoRow : OpenClaim := { program := "ytnekamdopfielaa", sum := "c2ccbbe15ac91a3e1a4b92f4f2382bbb64fcd74890810183017430a6d80d6381", func := "loop.example/g00095/laws.FnExactLeaseOthers", spec := "fnExactLeaseOthers", apart := false, narrowed := true }
def FnExactLeaseOthersUptoSaid : Prop := fnExactLeaseOthersUptoRow.holds Try.pinned (OpenSpec.upto fnExactLeaseOthersSpec)

/-- 'laws.FnExactLeaseSum', WHERE WHAT IT READS IS OF BULK AT MOST 1048576: true; the input reads as it did. -/
def fnExactLeaseSumUptoRow : OpenClaim := { program := "ytnekamdopfielaa", sum := "c2ccbbe15ac91a3e1a4b92f4f2382bbb64fcd74890810183017430a6d80d6381", func := "loop.example/g00095/laws.FnExactLeaseSum", spec := "fnExactLeaseSum", apart := false, narrowed := true }
def FnExactLeaseSumUptoSaid : Prop := fnExactLeaseSumUptoRow.holds Try.pinned (OpenSpec.upto fnExactLeaseSumSpec)

/-- 'laws.FnExactWindowRight', WHERE WHAT IT READS IS OF BULK AT MOST 1048576: true; the input reads as it did. -/
def fnExactWindowRightUptoRow : OpenClaim := { program := "ytnekamdopfielaa", sum := "c2ccbbe15ac91a3e1a4b92f4f2382bbb64fcd74890810183017430a6d80d6381", func := "loop.example/g00095/laws.FnExactWindowRight", spec := "fnExactWindowRight", apart := false, narrowed := true }
def FnExactWindowRightUptoSaid : Prop := fnExactWindowRightUptoRow.holds Try.pinned (OpenSpec.upto fnExactWindowRightSpec)

/-- 'laws.FnExactMostOf', WHERE WHAT IT READS IS OF BULK AT MOST 1048576: true; the input reads as it did. -/
def fnExactMostOfUptoRow : OpenClaim := { program := "ytnekamdopfielaa", sum := "c2ccbbe15ac91a3e1a4b92f4f2382bbb64fcd74890810183017430a6d80d6381", func := "loop.example/g00095/laws.FnExactMostOf", spec := "fnExactMostOf", apart := false, narrowed := true }
def FnExactMostOfUptoSaid : Prop := fnExactMostOfUptoRow.holds Try.pinned (OpenSpec.upto fnExactMostOfSpec)

/-- 'laws.FnWideShift', WHERE WHAT IT READS IS OF BULK AT MOST 1048576: true; the input reads as it did. -/
def fnWideShiftUptoRow : OpenClaim := { program := "ytnekamdopfielaa", sum := "c2ccbbe15ac91a3e1a4b92f4f2382bbb64fcd74890810183017430a6d80d6381", func := "loop.example/g00095/laws.FnWideShift", spec := "fnWideShift", apart := false, narrowed := true }
def FnWideShiftUptoSaid : Prop := fnWideShiftUptoRow.holds Try.pinned (OpenSpec.upto fnWideShiftSpec)

/-- 'laws.FnExactWheelNew', WHERE WHAT IT READS IS OF BULK AT MOST 1048576: true; the input reads as it did. -/
def fnExactWheelNewUptoRow : OpenClaim := { program := "ytnekamdopfielaa", sum := "c2ccbbe15ac91a3e1a4b92f4f2382bbb64fcd74890810183017430a6d80d6381", func := "loop.example/g00095/laws.FnExactWheelNew", spec := "fnExactWheelNew", apart := false, narrowed := true }
def FnExactWheelNewUptoSaid : Prop := fnExactWheelNewUptoRow.holds Try.pinned (OpenSpec.upto fnExactWheelNewSpec)

/-- 'laws.FnExactLeaseRoom', WHERE WHAT IT READS IS OF BULK AT MOST 1048576: true; the input reads as it did. -/
def fnExactLeaseRoomUptoRow : OpenClaim := { program := "ytnekamdopfielaa", sum := "c2ccbbe15ac91a3e1a4b92f4f2382bbb64fcd74890810183017430a6d80d6381", func := "loop.example/g00095/laws.FnExactLeaseRoom", spec := "fnExactLeaseRoom", apart := false, narrowed := true }
def FnExactLeaseRoomUptoSaid : Prop := fnExactLeaseRoomUptoRow.holds Try.pinned (OpenSpec.upto fnExactLeaseRoomSpec)

/-- 'laws.FnExactWindowMost', WHERE WHAT IT READS IS OF BULK AT MOST 1048576: true; the input reads as it did. -/
def fnExactWindowMostUptoRow : OpenClaim := { program := "ytnekamdopfielaa", sum := "c2ccbbe15ac91a3e1a4b92f4f2382bbb64fcd74890810183017430a6d80d6381", func := "loop.example/g00095/laws.FnExactWindowMost", spec := "fnExactWindowMost", apart := false, narrowed := true }
def FnExactWindowMostUptoSaid : Prop := fnExactWindowMostUptoRow.holds Try.pinned (OpenSpec.upto fnExactWindowMostSpec)

/-- 'laws.FnExactRatioCmp', WHERE WHAT IT READS IS OF BULK AT MOST 1048576: true; the input reads as it did. -/
def fnExactRatioCmpUptoRow : OpenClaim := { program := "ytnekamdopfielaa", sum := "c2ccbbe15ac91a3e1a4b92f4f2382bbb64fcd74890810183017430a6d80d6381", func := "loop.example/g00095/laws.FnExactRatioCmp", spec := "fnExactRatioCmp", apart := false, narrowed := true }
def FnExactRatioCmpUptoSaid : Prop := fnExactRatioCmpUptoRow.holds Try.pinned (OpenSpec.upto fnExactRatioCmpSpec)

/-- 'laws.FnExactWideDiv', WHERE WHAT IT READS IS OF BULK AT MOST 1048576: true; the input reads as it did. -/
def fnExactWideDivUptoRow : OpenClaim := { program := "ytnekamdopfielaa", sum := "c2ccbbe15ac91a3e1a4b92f4f2382bbb64fcd74890810183017430a6d80d6381", func := "loop.example/g00095/laws.FnExactWideDiv", spec := "fnExactWideDiv", named := ["math/bits.divideError", "math/bits.overflowError"], apart := false, narrowed := true }
def FnExactWideDivUptoSaid : Prop := fnExactWideDivUptoRow.holds Try.pinned (OpenSpec.upto fnExactWideDivSpec)

/-- 'laws.FnExactWideText', WHERE WHAT IT READS IS OF BULK AT MOST 1048576: true; the input reads as it did. -/
def fnExactWideTextUptoRow : OpenClaim := { program := "ytnekamdopfielaa", sum := "c2ccbbe15ac91a3e1a4b92f4f2382bbb64fcd74890810183017430a6d80d6381", func := "loop.example/g00095/laws.FnExactWideText", spec := "fnExactWideText", named := ["math/bits.divideError", "math/bits.overflowError"], apart := false, narrowed := true }
def FnExactWideTextUptoSaid : Prop := fnExactWideTextUptoRow.holds Try.pinned (OpenSpec.upto fnExactWideTextSpec)

end Rows
end Go.Proofs.Ytnekamdopfielaa
