/-
  No cell of these rows narrows 'for every input' (looked for: loops, veiled, ifaces, maps, wideKeys, modest, calm, conditions, laid).
  DERIVED. THE GIVEN ROWS OF THIS SEAT. 9 by the template 'for every input the law returns true; each argument reads behind the call as it read before'; 0 by the template 'total and deterministic' (their statements: YtenlceojmjkbkaaTotals.lean).
  GIVEN WITH THE SEED: the statements are not yours to turn. If you find one false, say at which input.
  Laid BY PROGRAM, IN A SANDBOX (cutbox-rows.mjs): the forced cells as the released guide's own fill.sh prints them over the translation 0171094137d42d9d… (all of the seat's roots in one cut). By AI agents, Wed Nov 11 2026. No macro, syntax, notation, axiom, sorry.
-/
import Derived.Test.YtenlceojmjkbkaaChecked
import GoSem.Claim
import GoSem.ClaimJoined
import GoSem.ClaimMapViews
import Derived.JoinedTies
import Derived.KernelRfl
namespace Go.Proofs.Ytenlceojmjkbkaa
/- THE CELL 'sum', in the pinned program and in every row, IS THE sha256 OF THE DUMP (.gsa) THAT YtenlceojmjkbkaaProg.lean LOADS. Nothing in Lean hashes anything: it is a label: what it is worth is what the hold of that sum in a sandbox is worth. -/
noncomputable def Try.pinned : Pinned := { name := "ytenlceojmjkbkaa", sum := "0171094137d42d9dffb8b4287bf469cb96502dc643096dca34b6d778acaec831", checked := Try.checked }
namespace Rows
def none {H : Type} : Left H := { results := [], args := [] }

/-- 'laws.FnExactRatioSort': WHATEVER THE INPUT: true; the input reads as it did. -/
def fnExactRatioSortSpec : ChangeSpec := { name := "fnExactRatioSort", fn := fun _ => fun
  | [d] => { results := [.lit (.bool true)], args := [d] }
  | _ => none }
def fnExactRatioSortRow : OpenClaim := { program := "ytenlceojmjkbkaa", sum := "0171094137d42d9dffb8b4287bf469cb96502dc643096dca34b6d778acaec831", func := "loop.example/g00095/laws.FnExactRatioSort", spec := "fnExactRatioSort", unfollowed := true, recurses := true, apart := false }
def FnExactRatioSortSaid : Prop := fnExactRatioSortRow.holds Try.pinned (OpenSpec.ofChange fnExactRatioSortSpec)

/-- ITS FALSE NEIGHBOUR: 'it returns false'. Refute it at one input. -/
def fnExactRatioSortWrong : ChangeSpec := { name := "fnExactRatioSort", fn := fun _ => fun
  | [d] => { results := [.lit (.bool false)], args := [d] }
  | _ => none }
def FnExactRatioSortWrongFalsely : Prop := fnExactRatioSortRow.holds Try.pinned (OpenSpec.ofChange fnExactRatioSortWrong)

/-- 'laws.FnRatioSort': WHATEVER THE INPUT: true; the input reads as it did. -/
def fnRatioSortSpec : ChangeSpec := { name := "fnRatioSort", fn := fun _ => fun
  | [d] => { results := [.lit (.bool true)], args := [d] }
  | _ => none }
def fnRatioSortRow : OpenClaim := { program := "ytenlceojmjkbkaa", sum := "0171094137d42d9dffb8b4287bf469cb96502dc643096dca34b6d778acaec831", func := "loop.example/g00095/laws.FnRatioSort", spec := "fnRatioSort", unfollowed := true, recurses := true, apart := false }
def FnRatioSortSaid : Prop := fnRatioSortRow.holds Try.pinned (OpenSpec.ofChange fnRatioSortSpec)

/-- ITS FALSE NEIGHBOUR: 'it returns false'. Refute it at one input. -/
def fnRatioSortWrong : ChangeSpec := { name := "fnRatioSort", fn := fun _ => fun
  | [d] => { results := [.lit (.bool false)], args := [d] }
  | _ => none }
def FnRatioSortWrongFalsely : Prop := fnRatioSortRow.holds Try.pinned (OpenSpec.ofChange fnRatioSortWrong)

/-- 'laws.FnExactWheelRight': WHATEVER THE INPUT: true; the input reads as it did. -/
def fnExactWheelRightSpec : ChangeSpec := { name := "fnExactWheelRight", fn := fun _ => fun
  | [d] => { results := [.lit (.bool true)], args := [d] }
  | _ => none }
def fnExactWheelRightRow : OpenClaim := { program := "ytenlceojmjkbkaa", sum := "0171094137d42d9dffb8b4287bf469cb96502dc643096dca34b6d778acaec831", func := "loop.example/g00095/laws.FnExactWheelRight", spec := "fnExactWheelRight", unfollowed := true, recurses := true, apart := false }
def FnExactWheelRightSaid : Prop := fnExactWheelRightRow.holds Try.pinned (OpenSpec.ofChange fnExactWheelRightSpec)

/-- ITS FALSE NEIGHBOUR: 'it returns false'. Refute it at one input. -/
def fnExactWheelRightWrong : ChangeSpec := { name := "fnExactWheelRight", fn := fun _ => fun
  | [d] => { results := [.lit (.bool false)], args := [d] }
  | _ => none }
def FnExactWheelRightWrongFalsely : Prop := fnExactWheelRightRow.holds Try.pinned (OpenSpec.ofChange fnExactWheelRightWrong)

/-- 'laws.FnExactWheelNext': WHATEVER THE INPUT: true; the input reads as it did. -/
def fnExactWheelNextSpec : ChangeSpec := { name := "fnExactWheelNext", fn := fun _ => fun
  | [d] => { results := [.lit (.bool true)], args := [d] }
  | _ => none }
def fnExactWheelNextRow : OpenClaim := { program := "ytenlceojmjkbkaa", sum := "0171094137d42d9dffb8b4287bf469cb96502dc643096dca34b6d778acaec831", func := "loop.example/g00095/laws.FnExactWheelNext", spec := "fnExactWheelNext", unfollowed := true, recurses := true, apart := false }
def FnExactWheelNextSaid : Prop := fnExactWheelNextRow.holds Try.pinned (OpenSpec.ofChange fnExactWheelNextSpec)

/-- ITS FALSE NEIGHBOUR: 'it returns false'. Refute it at one input. -/
def fnExactWheelNextWrong : ChangeSpec := { name := "fnExactWheelNext", fn := fun _ => fun
  | [d] => { results := [.lit (.bool false)], args := [d] }
  | _ => none }
def FnExactWheelNextWrongFalsely : Prop := fnExactWheelNextRow.holds Try.pinned (OpenSpec.ofChange fnExactWheelNextWrong)

/-- 'laws.FnExactWheelDrop': WHATEVER THE INPUT: true; the input reads as it did. -/
def fnExactWheelDropSpec : ChangeSpec := { name := "fnExactWheelDrop", fn := fun _ => fun
  | [d1, d2] => { results := [.lit (.bool true)], args := [d1, d2] }
  | _ => none }
def fnExactWheelDropRow : OpenClaim := { program := "ytenlceojmjkbkaa", sum := "0171094137d42d9dffb8b4287bf469cb96502dc643096dca34b6d778acaec831", func := "loop.example/g00095/laws.FnExactWheelDrop", spec := "fnExactWheelDrop", unfollowed := true, recurses := true, apart := false }
def FnExactWheelDropSaid : Prop := fnExactWheelDropRow.holds Try.pinned (OpenSpec.ofChange fnExactWheelDropSpec)

/-- ITS FALSE NEIGHBOUR: 'it returns false'. Refute it at one input. -/
def fnExactWheelDropWrong : ChangeSpec := { name := "fnExactWheelDrop", fn := fun _ => fun
  | [d1, d2] => { results := [.lit (.bool false)], args := [d1, d2] }
  | _ => none }
def FnExactWheelDropWrongFalsely : Prop := fnExactWheelDropRow.holds Try.pinned (OpenSpec.ofChange fnExactWheelDropWrong)

/-- 'laws.FnExactTreeRight': WHATEVER THE INPUT: true; the input reads as it did. -/
def fnExactTreeRightSpec : ChangeSpec := { name := "fnExactTreeRight", fn := fun _ => fun
  | [d] => { results := [.lit (.bool true)], args := [d] }
  | _ => none }
def fnExactTreeRightRow : OpenClaim := { program := "ytenlceojmjkbkaa", sum := "0171094137d42d9dffb8b4287bf469cb96502dc643096dca34b6d778acaec831", func := "loop.example/g00095/laws.FnExactTreeRight", spec := "fnExactTreeRight", unfollowed := true, recurses := true, apart := false }
def FnExactTreeRightSaid : Prop := fnExactTreeRightRow.holds Try.pinned (OpenSpec.ofChange fnExactTreeRightSpec)

/-- ITS FALSE NEIGHBOUR: 'it returns false'. Refute it at one input. -/
def fnExactTreeRightWrong : ChangeSpec := { name := "fnExactTreeRight", fn := fun _ => fun
  | [d] => { results := [.lit (.bool false)], args := [d] }
  | _ => none }
def FnExactTreeRightWrongFalsely : Prop := fnExactTreeRightRow.holds Try.pinned (OpenSpec.ofChange fnExactTreeRightWrong)

/-- 'laws.FnExactTreeHeight': WHATEVER THE INPUT: true; the input reads as it did. -/
def fnExactTreeHeightSpec : ChangeSpec := { name := "fnExactTreeHeight", fn := fun _ => fun
  | [d] => { results := [.lit (.bool true)], args := [d] }
  | _ => none }
def fnExactTreeHeightRow : OpenClaim := { program := "ytenlceojmjkbkaa", sum := "0171094137d42d9dffb8b4287bf469cb96502dc643096dca34b6d778acaec831", func := "loop.example/g00095/laws.FnExactTreeHeight", spec := "fnExactTreeHeight", unfollowed := true, recurses := true, apart := false }
def FnExactTreeHeightSaid : Prop := fnExactTreeHeightRow.holds Try.pinned (OpenSpec.ofChange fnExactTreeHeightSpec)

/-- ITS FALSE NEIGHBOUR: 'it returns false'. Refute it at one input. -/
def fnExactTreeHeightWrong : ChangeSpec := { name := "fnExactTreeHeight", fn := fun _ => fun
  | [d] => { results := [.lit (.bool false)], args := [d] }
  | _ => none }
def FnExactTreeHeightWrongFalsely : Prop := fnExactTreeHeightRow.holds Try.pinned (OpenSpec.ofChange fnExactTreeHeightWrong)

/-- 'laws.FnExactTreeItems': WHATEVER THE INPUT: true; the input reads as it did. -/
def fnExactTreeItemsSpec : ChangeSpec := { name := "fnExactTreeItems", fn := fun _ => fun
  | [d] => { results := [.lit (.bool true)], args := [d] }
  | _ => none }
def fnExactTreeItemsRow : OpenClaim := { program := "ytenlceojmjkbkaa", sum := "0171094137d42d9dffb8b4287bf469cb96502dc643096dca34b6d778acaec831", func := "loop.example/g00095/laws.FnExactTreeItems", spec := "fnExactTreeItems", unfollowed := true, recurses := true, apart := false }
def FnExactTreeItemsSaid : Prop := fnExactTreeItemsRow.holds Try.pinned (OpenSpec.ofChange fnExactTreeItemsSpec)

/-- ITS FALSE NEIGHBOUR: 'it returns false'. Refute it at one input. -/
def fnExactTreeItemsWrong : ChangeSpec := { name := "fnExactTreeItems", fn := fun _ => fun
  | [d] => { results := [.lit (.bool false)], args := [d] }
  | _ => none }
def FnExactTreeItemsWrongFalsely : Prop := fnExactTreeItemsRow.holds Try.pinned (OpenSpec.ofChange fnExactTreeItemsWrong)

/-- 'laws.FnExactTreeBelow': WHATEVER THE INPUT: true; the input reads as it did. -/
def fnExactTreeBelowSpec : ChangeSpec := { name := "fnExactTreeBelow", fn := fun _ => fun
  | [d1, d2] => { results := [.lit (.bool true)], args := [d1, d2] }
  | _ => none }
def fnExactTreeBelowRow : OpenClaim := { program := "ytenlceojmjkbkaa", sum := "0171094137d42d9dffb8b4287bf469cb96502dc643096dca34b6d778acaec831", func := "loop.example/g00095/laws.FnExactTreeBelow", spec := "fnExactTreeBelow", unfollowed := true, recurses := true, apart := false }
def FnExactTreeBelowSaid : Prop := fnExactTreeBelowRow.holds Try.pinned (OpenSpec.ofChange fnExactTreeBelowSpec)

/-- ITS FALSE NEIGHBOUR: 'it returns false'. Refute it at one input. -/
def fnExactTreeBelowWrong : ChangeSpec := { name := "fnExactTreeBelow", fn := fun _ => fun
  | [d1, d2] => { results := [.lit (.bool false)], args := [d1, d2] }
  | _ => none }
def FnExactTreeBelowWrongFalsely : Prop := fnExactTreeBelowRow.holds Try.pinned (OpenSpec.ofChange fnExactTreeBelowWrong)

/- THE SECOND FORM. 'bulk': how many values and letters a reading holds, each counted each time it is reached (what is shared counts as often as it is met; a slice's spare places count too). A statement '..UptoSaid' is the law's where the arguments, and the package variables that the reading takes, are together of bulk at most 1048576: NARROWER than '..Said'. Prove '..Said' where nothing that the law and all that it calls make is longer than what came in: it says more and counts as full. Else prove '..UptoSaid'. A law counts once. -/
mutual
def uptoBulk {H : Type} : DataW H → Nat
  | .lit (.string bytes) => bytes.length + 1
  | .lit _ => 1
  | .nil => 1
  | .ptr d => uptoBulk d + 1
  | .slice elems spare => uptoBulkAll elems + uptoBulkAll spare + 1
  | .agg parts => uptoBulkAll parts + 1
  | .iface _ d => uptoBulk d + 1
  | .map entries => uptoBulkEntries entries + 1
  | .held _ => 1
def uptoBulkAll {H : Type} : List (DataW H) → Nat
  | [] => 0
  | d :: r => uptoBulk d + uptoBulkAll r
def uptoBulkEntries {H : Type} : List (Lit × DataW H) → Nat
  | [] => 0
  | x :: r => uptoBulkEntry x + uptoBulkEntries r
def uptoBulkEntry {H : Type} : Lit × DataW H → Nat
  | (.string bytes, d) => bytes.length + uptoBulk d + 1
  | (_, d) => uptoBulk d + 1
 end
def uptoSmall : (H : Type) → List (DataW H) → Bool := fun _ ds => decide (uptoBulkAll ds ≤ 1048576)
def OpenSpec.upto (s : _root_.Go.ChangeSpec) : _root_.Go.OpenSpec := { _root_.Go.OpenSpec.ofChange s with cond := some uptoSmall }

/-- 'laws.FnExactRatioSort', WHERE WHAT IT READS IS OF BULK AT MOST 1048576: true; the input reads as it did. -/
def fnExactRatioSortUptoRow : OpenClaim := { program := "ytenlceojmjkbkaa", sum := "0171094137d42d9dffb8b4287bf469cb96502dc643096dca34b6d778acaec831", func := "loop.example/g00095/laws.FnExactRatioSort", spec := "fnExactRatioSort", unfollowed := true, recurses := true, apart := false, narrowed := true }
def FnExactRatioSortUptoSaid : Prop := fnExactRatioSortUptoRow.holds Try.pinned (OpenSpec.upto fnExactRatioSortSpec)

/-- 'laws.FnRatioSort', WHERE WHAT IT READS IS OF BULK AT MOST 1048576: true; the input reads as it did. -/
def fnRatioSortUptoRow : OpenClaim := { program := "ytenlceojmjkbkaa", sum := "0171094137d42d9dffb8b4287bf469cb96502dc643096dca34b6d778acaec831", func := "loop.example/g00095/laws.FnRatioSort", spec := "fnRatioSort", unfollowed := true, recurses := true, apart := false, narrowed := true }
def FnRatioSortUptoSaid : Prop := fnRatioSortUptoRow.holds Try.pinned (OpenSpec.upto fnRatioSortSpec)

/-- 'laws.FnExactWheelRight', WHERE WHAT IT READS IS OF BULK AT MOST 1048576: true; the input reads as it did. -/
def fnExactWheelRightUptoRow : OpenClaim := { program := "ytenlceojmjkbkaa", sum := "0171094137d42d9dffb8b4287bf469cb96502dc643096dca34b6d778acaec831", func := "loop.example/g00095/laws.FnExactWheelRight", spec := "fnExactWheelRight", unfollowed := true, recurses := true, apart := false, narrowed := true }
def FnExactWheelRightUptoSaid : Prop := fnExactWheelRightUptoRow.holds Try.pinned (OpenSpec.upto fnExactWheelRightSpec)

/-- 'laws.FnExactWheelNext', WHERE WHAT IT READS IS OF BULK AT MOST 1048576: true; the input reads as it did. -/
def fnExactWheelNextUptoRow : OpenClaim := { program := "ytenlceojmjkbkaa", sum := "0171094137d42d9dffb8b4287bf469cb96502dc643096dca34b6d778acaec831", func := "loop.example/g00095/laws.FnExactWheelNext", spec := "fnExactWheelNext", unfollowed := true, recurses := true, apart := false, narrowed := true }
def FnExactWheelNextUptoSaid : Prop := fnExactWheelNextUptoRow.holds Try.pinned (OpenSpec.upto fnExactWheelNextSpec)

/-- 'laws.FnExactWheelDrop', WHERE WHAT IT READS IS OF BULK AT MOST 1048576: true; the input reads as it did. -/
def fnExactWheelDropUptoRow : OpenClaim := { program := "ytenlceojmjkbkaa", sum := "0171094137d42d9dffb8b4287bf469cb96502dc643096dca34b6d778acaec831", func := "loop.example/g00095/laws.FnExactWheelDrop", spec := "fnExactWheelDrop", unfollowed := true, recurses := true, apart := false, narrowed := true }
def FnExactWheelDropUptoSaid : Prop := fnExactWheelDropUptoRow.holds Try.pinned (OpenSpec.upto fnExactWheelDropSpec)

/-- 'laws.FnExactTreeRight', WHERE WHAT IT READS IS OF BULK AT MOST 1048576: true; the input reads as it did. -/
def fnExactTreeRightUptoRow : OpenClaim := { program := "ytenlceojmjkbkaa", sum := "0171094137d42d9dffb8b4287bf469cb96502dc643096dca34b6d778acaec831", func := "loop.example/g00095/laws.FnExactTreeRight", spec := "fnExactTreeRight", unfollowed := true, recurses := true, apart := false, narrowed := true }
def FnExactTreeRightUptoSaid : Prop := fnExactTreeRightUptoRow.holds Try.pinned (OpenSpec.upto fnExactTreeRightSpec)

/-- 'laws.FnExactTreeHeight', WHERE WHAT IT READS IS OF BULK AT MOST 1048576: true; the input reads as it did. -/
def fnExactTreeHeightUptoRow : OpenClaim := { program := "ytenlceojmjkbkaa", sum := "0171094137d42d9dffb8b4287bf469cb96502dc643096dca34b6d778acaec831", func := "loop.example/g00095/laws.FnExactTreeHeight", spec := "fnExactTreeHeight", unfollowed := true, recurses := true, apart := false, narrowed := true }
def FnExactTreeHeightUptoSaid : Prop := fnExactTreeHeightUptoRow.holds Try.pinned (OpenSpec.upto fnExactTreeHeightSpec)

/-- 'laws.FnExactTreeItems', WHERE WHAT IT READS IS OF BULK AT MOST 1048576: true; the input reads as it did. -/
def fnExactTreeItemsUptoRow : OpenClaim := { program := "ytenlceojmjkbkaa", sum := "0171094137d42d9dffb8b4287bf469cb96502dc643096dca34b6d778acaec831", func := "loop.example/g00095/laws.FnExactTreeItems", spec := "fnExactTreeItems", unfollowed := true, recurses := true, apart := false, narrowed := true }
def FnExactTreeItemsUptoSaid : Prop := fnExactTreeItemsUptoRow.holds Try.pinned (OpenSpec.upto fnExactTreeItemsSpec)

/-- 'laws.FnExactTreeBelow', WHERE WHAT IT READS IS OF BULK AT MOST 1048576: true; the input reads as it did. -/
def fnExactTreeBelowUptoRow : OpenClaim := { program := "ytenlceojmjkbkaa", sum := "0171094137d42d9dffb8b4287bf469cb96502dc643096dca34b6d778acaec831", func := "loop.example/g00095/laws.FnExactTreeBelow", spec := "fnExactTreeBelow", unfollowed := true, recurses := true, apart := false, narrowed := true }
def FnExactTreeBelowUptoSaid : Prop := fnExactTreeBelowUptoRow.holds Try.pinned (OpenSpec.upto fnExactTreeBelowSpec)

end Rows
end Go.Proofs.Ytenlceojmjkbkaa
