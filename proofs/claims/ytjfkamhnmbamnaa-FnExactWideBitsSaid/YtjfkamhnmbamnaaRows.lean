/-
  No cell of these rows narrows 'for every input' (looked for: loops, veiled, ifaces, maps, wideKeys, modest, calm, conditions, laid).
  DERIVED. THE GIVEN ROWS OF THIS SEAT. 6 by the template 'for every input the law returns true; each argument reads behind the call as it read before'; 0 by the template 'total and deterministic' (their statements: YtjfkamhnmbamnaaTotals.lean).
  GIVEN WITH THE SEED: the statements are not yours to turn. If you find one false, say at which input.
  Laid BY PROGRAM, IN A SANDBOX (cutbox-rows.mjs): the forced cells as the released guide's own fill.sh prints them over the translation b23d8c198250d3de… (all of the seat's roots in one cut). By AI agents, Wed Nov 11 2026. No macro, syntax, notation, axiom, sorry.
-/
import Derived.Test.YtjfkamhnmbamnaaChecked
import GoSem.Claim
import GoSem.ClaimJoined
import GoSem.ClaimMapViews
import Derived.JoinedTies
import Derived.KernelRfl
namespace Go.Proofs.Ytjfkamhnmbamnaa
/- THE CELL 'sum', in the pinned program and in every row, IS THE sha256 OF THE DUMP (.gsa) THAT YtjfkamhnmbamnaaProg.lean LOADS. Nothing in Lean hashes anything: it is a label: what it is worth is what the hold of that sum in a sandbox is worth. -/
noncomputable def Try.pinned : Pinned := { name := "ytjfkamhnmbamnaa", sum := "b23d8c198250d3deab83c28eaac0d204ad05962079005778ca97c9727352eeb7", checked := Try.checked }
namespace Rows
def none {H : Type} : Left H := { results := [], args := [] }

/-- 'laws.FnExactConstants': WHATEVER THE INPUT: true; the input reads as it did. -/
def fnExactConstantsSpec : ChangeSpec := { name := "fnExactConstants", fn := fun _ => fun
  | [] => { results := [.lit (.bool true)], args := [] }
  | _ => none }
def fnExactConstantsRow : OpenClaim := { program := "ytjfkamhnmbamnaa", sum := "b23d8c198250d3deab83c28eaac0d204ad05962079005778ca97c9727352eeb7", func := "loop.example/g00095/laws.FnExactConstants", spec := "fnExactConstants", apart := false }
def FnExactConstantsSaid : Prop := fnExactConstantsRow.holds Try.pinned (OpenSpec.ofChange fnExactConstantsSpec)

/-- ITS FALSE NEIGHBOUR: 'it returns false'. Refute it at one input. -/
def fnExactConstantsWrong : ChangeSpec := { name := "fnExactConstants", fn := fun _ => fun
  | [] => { results := [.lit (.bool false)], args := [] }
  | _ => none }
def FnExactConstantsWrongFalsely : Prop := fnExactConstantsRow.holds Try.pinned (OpenSpec.ofChange fnExactConstantsWrong)

/-- 'laws.FnExactItemRight': WHATEVER THE INPUT: true; the input reads as it did. -/
def fnExactItemRightSpec : ChangeSpec := { name := "fnExactItemRight", fn := fun _ => fun
  | [d] => { results := [.lit (.bool true)], args := [d] }
  | _ => none }
def fnExactItemRightRow : OpenClaim := { program := "ytjfkamhnmbamnaa", sum := "b23d8c198250d3deab83c28eaac0d204ad05962079005778ca97c9727352eeb7", func := "loop.example/g00095/laws.FnExactItemRight", spec := "fnExactItemRight", apart := false }
def FnExactItemRightSaid : Prop := fnExactItemRightRow.holds Try.pinned (OpenSpec.ofChange fnExactItemRightSpec)

/-- ITS FALSE NEIGHBOUR: 'it returns false'. Refute it at one input. -/
def fnExactItemRightWrong : ChangeSpec := { name := "fnExactItemRight", fn := fun _ => fun
  | [d] => { results := [.lit (.bool false)], args := [d] }
  | _ => none }
def FnExactItemRightWrongFalsely : Prop := fnExactItemRightRow.holds Try.pinned (OpenSpec.ofChange fnExactItemRightWrong)

/-- 'laws.FnExactWideShr': WHATEVER THE INPUT: true; the input reads as it did. -/
def fnExactWideShrSpec : ChangeSpec := { name := "fnExactWideShr", fn := fun _ => fun
  | [d1, d2] => { results := [.lit (.bool true)], args := [d1, d2] }
  | _ => none }
def fnExactWideShrRow : OpenClaim := { program := "ytjfkamhnmbamnaa", sum := "b23d8c198250d3deab83c28eaac0d204ad05962079005778ca97c9727352eeb7", func := "loop.example/g00095/laws.FnExactWideShr", spec := "fnExactWideShr", apart := false }
def FnExactWideShrSaid : Prop := fnExactWideShrRow.holds Try.pinned (OpenSpec.ofChange fnExactWideShrSpec)

/-- ITS FALSE NEIGHBOUR: 'it returns false'. Refute it at one input. -/
def fnExactWideShrWrong : ChangeSpec := { name := "fnExactWideShr", fn := fun _ => fun
  | [d1, d2] => { results := [.lit (.bool false)], args := [d1, d2] }
  | _ => none }
def FnExactWideShrWrongFalsely : Prop := fnExactWideShrRow.holds Try.pinned (OpenSpec.ofChange fnExactWideShrWrong)

/-- 'laws.FnExactWideShl': WHATEVER THE INPUT: true; the input reads as it did. -/
def fnExactWideShlSpec : ChangeSpec := { name := "fnExactWideShl", fn := fun _ => fun
  | [d1, d2] => { results := [.lit (.bool true)], args := [d1, d2] }
  | _ => none }
def fnExactWideShlRow : OpenClaim := { program := "ytjfkamhnmbamnaa", sum := "b23d8c198250d3deab83c28eaac0d204ad05962079005778ca97c9727352eeb7", func := "loop.example/g00095/laws.FnExactWideShl", spec := "fnExactWideShl", apart := false }
def FnExactWideShlSaid : Prop := fnExactWideShlRow.holds Try.pinned (OpenSpec.ofChange fnExactWideShlSpec)

/-- ITS FALSE NEIGHBOUR: 'it returns false'. Refute it at one input. -/
def fnExactWideShlWrong : ChangeSpec := { name := "fnExactWideShl", fn := fun _ => fun
  | [d1, d2] => { results := [.lit (.bool false)], args := [d1, d2] }
  | _ => none }
def FnExactWideShlWrongFalsely : Prop := fnExactWideShlRow.holds Try.pinned (OpenSpec.ofChange fnExactWideShlWrong)

/-- 'laws.FnExactWideBits': WHATEVER THE INPUT: true; the input reads as it did. -/
def fnExactWideBitsSpec : ChangeSpec := { name := "fnExactWideBits", fn := fun _ => fun
  | [d] => { results := [.lit (.bool true)], args := [d] }
  | _ => none }
def fnExactWideBitsRow : OpenClaim := { program := "ytjfkamhnmbamnaa", sum := "b23d8c198250d3deab83c28eaac0d204ad05962079005778ca97c9727352eeb7", func := "loop.example/g00095/laws.FnExactWideBits", spec := "fnExactWideBits", apart := false }
def FnExactWideBitsSaid : Prop := fnExactWideBitsRow.holds Try.pinned (OpenSpec.ofChange fnExactWideBitsSpec)

/-- ITS FALSE NEIGHBOUR: 'it returns false'. Refute it at one input. -/
def fnExactWideBitsWrong : ChangeSpec := { name := "fnExactWideBits", fn := fun _ => fun
  | [d] => { results := [.lit (.bool false)], args := [d] }
  | _ => none }
def FnExactWideBitsWrongFalsely : Prop := fnExactWideBitsRow.holds Try.pinned (OpenSpec.ofChange fnExactWideBitsWrong)

/-- 'laws.FnExactWideAdd': WHATEVER THE INPUT: true; the input reads as it did. -/
def fnExactWideAddSpec : ChangeSpec := { name := "fnExactWideAdd", fn := fun _ => fun
  | [d1, d2] => { results := [.lit (.bool true)], args := [d1, d2] }
  | _ => none }
def fnExactWideAddRow : OpenClaim := { program := "ytjfkamhnmbamnaa", sum := "b23d8c198250d3deab83c28eaac0d204ad05962079005778ca97c9727352eeb7", func := "loop.example/g00095/laws.FnExactWideAdd", spec := "fnExactWideAdd", inPlace := ["math/bits.Add64"], apart := false }
def FnExactWideAddSaid : Prop := fnExactWideAddRow.holds Try.pinned (OpenSpec.ofChange fnExactWideAddSpec)

/-- ITS FALSE NEIGHBOUR: 'it returns false'. Refute it at one input. -/
def fnExactWideAddWrong : ChangeSpec := { name := "fnExactWideAdd", fn := fun _ => fun
  | [d1, d2] => { results := [.lit (.bool false)], args := [d1, d2] }
  | _ => none }
def FnExactWideAddWrongFalsely : Prop := fnExactWideAddRow.holds Try.pinned (OpenSpec.ofChange fnExactWideAddWrong)

/- THE SECOND FORM. 'bulk': how many values and letters a reading holds, each counted each time it is reached (what is shared counts as often as it is met; a slice's spare places count too). A statement '..UptoSaid' is the law's where the arguments, and the package variables that the reading takes, are together of bulk at most 1048576: NARROWER than '..Said'. Prove '..Said' where nothing that the law and all that it calls make is longer than what came in: it says more and counts as full. Else prove '..UptoSaid'. A law counts once. -/
mutual
def uptoBulk {H : Type} : DataW H → Nat
  | .lit (.string bytes) => bytes.length + 1
  | .lit _ => 1
  | .nil => 1
  | .ptr d => uptoBulk d + 1
  | .slice elems spare => uptoBulkAll elems + uptoBulkAll spare + 1
  | .agg parts => uptoBulkAll parts + 1
  | .iface _ d => uptoBulk d + 1
  | .map entries => uptoBulkEntries entries + 1
  | .held _ => 1
def uptoBulkAll {H : Type} : List (DataW H) → Nat
  | [] => 0
  | d :: r => uptoBulk d + uptoBulkAll r
def uptoBulkEntries {H : Type} : List (Lit × DataW H) → Nat
  | [] => 0
  | x :: r => uptoBulkEntry x + uptoBulkEntries r
def uptoBulkEntry {H : Type} : Lit × DataW H → Nat
  | (.string bytes, d) => bytes.length + uptoBulk d + 1
  | (_, d) => uptoBulk d + 1
 end
def uptoSmall : (H : Type) → List (DataW H) → Bool := fun _ ds => decide (uptoBulkAll ds ≤ 1048576)
def OpenSpec.upto (s : _root_.Go.ChangeSpec) : _root_.Go.OpenSpec := { _root_.Go.OpenSpec.ofChange s with cond := some uptoSmall }

/-- 'laws.FnExactConstants', WHERE WHAT IT READS IS OF BULK AT MOST 1048576: true; the input reads as it did. -/
def fnExactConstantsUptoRow : OpenClaim := { program := "ytjfkamhnmbamnaa", sum := "b23d8c198250d3deab83c28eaac0d204ad05962079005778ca97c9727352eeb7", func := "loop.example/g00095/laws.FnExactConstants", spec := "fnExactConstants", apart := false, narrowed := true }
def FnExactConstantsUptoSaid : Prop := fnExactConstantsUptoRow.holds Try.pinned (OpenSpec.upto fnExactConstantsSpec)

/-- 'laws.FnExactItemRight', WHERE WHAT IT READS IS OF BULK AT MOST 1048576: true; the input reads as it did. -/
def fnExactItemRightUptoRow : OpenClaim := { program := "ytjfkamhnmbamnaa", sum := "b23d8c198250d3deab83c28eaac0d204ad05962079005778ca97c9727352eeb7", func := "loop.example/g00095/laws.FnExactItemRight", spec := "fnExactItemRight", apart := false, narrowed := true }
def FnExactItemRightUptoSaid : Prop := fnExactItemRightUptoRow.holds Try.pinned (OpenSpec.upto fnExactItemRightSpec)

/-- 'laws.FnExactWideShr', WHERE WHAT IT READS IS OF BULK AT MOST 1048576: true; the input reads as it did. -/
def fnExactWideShrUptoRow : OpenClaim := { program := "ytjfkamhnmbamnaa", sum := "b23d8c198250d3deab83c28eaac0d204ad05962079005778ca97c9727352eeb7", func := "loop.example/g00095/laws.FnExactWideShr", spec := "fnExactWideShr", apart := false, narrowed := true }
def FnExactWideShrUptoSaid : Prop := fnExactWideShrUptoRow.holds Try.pinned (OpenSpec.upto fnExactWideShrSpec)

/-- 'laws.FnExactWideShl', WHERE WHAT IT READS IS OF BULK AT MOST 1048576: true; the input reads as it did. -/
def fnExactWideShlUptoRow : OpenClaim := { program := "ytjfkamhnmbamnaa", sum := "b23d8c198250d3deab83c28eaac0d204ad05962079005778ca97c9727352eeb7", func := "loop.example/g00095/laws.FnExactWideShl", spec := "fnExactWideShl", apart := false, narrowed := true }
def FnExactWideShlUptoSaid : Prop := fnExactWideShlUptoRow.holds Try.pinned (OpenSpec.upto fnExactWideShlSpec)

/-- 'laws.FnExactWideBits', WHERE WHAT IT READS IS OF BULK AT MOST 1048576: true; the input reads as it did. -/
def fnExactWideBitsUptoRow : OpenClaim := { program := "ytjfkamhnmbamnaa", sum := "b23d8c198250d3deab83c28eaac0d204ad05962079005778ca97c9727352eeb7", func := "loop.example/g00095/laws.FnExactWideBits", spec := "fnExactWideBits", apart := false, narrowed := true }
def FnExactWideBitsUptoSaid : Prop := fnExactWideBitsUptoRow.holds Try.pinned (OpenSpec.upto fnExactWideBitsSpec)

/-- 'laws.FnExactWideAdd', WHERE WHAT IT READS IS OF BULK AT MOST 1048576: true; the input reads as it did. -/
def fnExactWideAddUptoRow : OpenClaim := { program := "ytjfkamhnmbamnaa", sum := "b23d8c198250d3deab83c28eaac0d204ad05962079005778ca97c9727352eeb7", func := "loop.example/g00095/laws.FnExactWideAdd", spec := "fnExactWideAdd", inPlace := ["math/bits.Add64"], apart := false, narrowed := true }
def FnExactWideAddUptoSaid : Prop := fnExactWideAddUptoRow.holds Try.pinned (OpenSpec.upto fnExactWideAddSpec)

end Rows
end Go.Proofs.Ytjfkamhnmbamnaa
