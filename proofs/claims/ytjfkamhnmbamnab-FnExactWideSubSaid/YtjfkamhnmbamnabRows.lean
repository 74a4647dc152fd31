/-
  No cell of these rows narrows 'for every input' (looked for: loops, veiled, ifaces, maps, wideKeys, modest, calm, conditions, laid).
  DERIVED. THE GIVEN ROWS OF THIS SEAT. 6 by the template 'for every input the law returns true; each argument reads behind the call as it read before'; 0 by the template 'total and deterministic' (their statements: YtjfkamhnmbamnabTotals.lean).
  GIVEN WITH THE SEED: the statements are not yours to turn. If you find one false, say at which input.
  Laid BY PROGRAM, IN A SANDBOX (cutbox-rows.mjs): the forced cells as the released guide's own fill.sh prints them over the translation 092d9f7d17a5f488… (all of the seat's roots in one cut). By AI agents, Wed Nov 11 2026. No macro, syntax, notation, axiom, sorry.
-/
import Derived.Test.YtjfkamhnmbamnabChecked
import GoSem.Claim
import GoSem.ClaimJoined
import GoSem.ClaimMapViews
import Derived.JoinedTies
import Derived.KernelRfl
namespace Go.Proofs.Ytjfkamhnmbamnab
/- THE CELL 'sum', in the pinned program and in every row, IS THE sha256 OF THE DUMP (.gsa) THAT YtjfkamhnmbamnabProg.lean LOADS. Nothing in Lean hashes anything: it is a label: what it is worth is what the hold of that sum in a sandbox is worth. -/
noncomputable def Try.pinned : Pinned := { name := "ytjfkamhnmbamnab", sum := "092d9f7d17a5f488c452a3cacd39884508bea6f6ac14bcf87a8e22a99a85e2e1", checked := Try.checked }
namespace Rows
def none {H : Type} : Left H := { results := [], args := [] }

/-- 'laws.FnExactEditRight': WHATEVER THE INPUT: true; the input reads as it did. -/
def fnExactEditRightSpec : ChangeSpec := { name := "fnExactEditRight", fn := fun _ => fun
  | [d] => { results := [.lit (.bool true)], args := [d] }
  | _ => none }
def fnExactEditRightRow : OpenClaim := { program := "ytjfkamhnmbamnab", sum := "092d9f7d17a5f488c452a3cacd39884508bea6f6ac14bcf87a8e22a99a85e2e1", func := "loop.example/g00095/laws.FnExactEditRight", spec := "fnExactEditRight", apart := false }
def FnExactEditRightSaid : Prop := fnExactEditRightRow.holds Try.pinned (OpenSpec.ofChange fnExactEditRightSpec)

/-- ITS FALSE NEIGHBOUR: 'it returns false'. Refute it at one input. -/
def fnExactEditRightWrong : ChangeSpec := { name := "fnExactEditRight", fn := fun _ => fun
  | [d] => { results := [.lit (.bool false)], args := [d] }
  | _ => none }
def FnExactEditRightWrongFalsely : Prop := fnExactEditRightRow.holds Try.pinned (OpenSpec.ofChange fnExactEditRightWrong)

/-- 'laws.FnExactWideCmp': WHATEVER THE INPUT: true; the input reads as it did. -/
def fnExactWideCmpSpec : ChangeSpec := { name := "fnExactWideCmp", fn := fun _ => fun
  | [d1, d2] => { results := [.lit (.bool true)], args := [d1, d2] }
  | _ => none }
def fnExactWideCmpRow : OpenClaim := { program := "ytjfkamhnmbamnab", sum := "092d9f7d17a5f488c452a3cacd39884508bea6f6ac14bcf87a8e22a99a85e2e1", func := "loop.example/g00095/laws.FnExactWideCmp", spec := "fnExactWideCmp", apart := false }
def FnExactWideCmpSaid : Prop := fnExactWideCmpRow.holds Try.pinned (OpenSpec.ofChange fnExactWideCmpSpec)

/-- ITS FALSE NEIGHBOUR: 'it returns false'. Refute it at one input. -/
def fnExactWideCmpWrong : ChangeSpec := { name := "fnExactWideCmp", fn := fun _ => fun
  | [d1, d2] => { results := [.lit (.bool false)], args := [d1, d2] }
  | _ => none }
def FnExactWideCmpWrongFalsely : Prop := fnExactWideCmpRow.holds Try.pinned (OpenSpec.ofChange fnExactWideCmpWrong)

/-- 'laws.FnExactWideMul': WHATEVER THE INPUT: true; the input reads as it did. -/
def fnExactWideMulSpec : ChangeSpec := { name := "fnExactWideMul", fn := fun _ => fun
  | [d1, d2] => { results := [.lit (.bool true)], args := [d1, d2] }
  | _ => none }
def fnExactWideMulRow : OpenClaim := { program := "ytjfkamhnmbamnab", sum := "092d9f7d17a5f488c452a3cacd39884508bea6f6ac14bcf87a8e22a99a85e2e1", func := "loop.example/g00095/laws.FnExactWideMul", spec := "fnExactWideMul", apart := false }
def FnExactWideMulSaid : Prop := fnExactWideMulRow.holds Try.pinned (OpenSpec.ofChange fnExactWideMulSpec)

/-- ITS FALSE NEIGHBOUR: 'it returns false'. Refute it at one input. -/
def fnExactWideMulWrong : ChangeSpec := { name := "fnExactWideMul", fn := fun _ => fun
  | [d1, d2] => { results := [.lit (.bool false)], args := [d1, d2] }
  | _ => none }
def FnExactWideMulWrongFalsely : Prop := fnExactWideMulRow.holds Try.pinned (OpenSpec.ofChange fnExactWideMulWrong)

/-- 'laws.FnExactWideSub': WHATEVER THE INPUT: true; the input reads as it did. -/
def fnExactWideSubSpec : ChangeSpec := { name := "fnExactWideSub", fn := fun _ => fun
  | [d1, d2] => { results := [.lit (.bool true)], args := [d1, d2] }
  | _ => none }
def fnExactWideSubRow : OpenClaim := { program := "ytjfkamhnmbamnab", sum := "092d9f7d17a5f488c452a3cacd39884508bea6f6ac14bcf87a8e22a99a85e2e1", func := "loop.example/g00095/laws.FnExactWideSub", spec := "fnExactWideSub", inPlace := ["math/bits.Sub64"], apart := false }
def FnExactWideSubSaid : Prop := fnExactWideSubRow.holds Try.pinned (OpenSpec.ofChange fnExactWideSubSpec)

/-- ITS FALSE NEIGHBOUR: 'it returns false'. Refute it at one input. -/
def fnExactWideSubWrong : ChangeSpec := { name := "fnExactWideSub", fn := fun _ => fun
  | [d1, d2] => { results := [.lit (.bool false)], args := [d1, d2] }
  | _ => none }
def FnExactWideSubWrongFalsely : Prop := fnExactWideSubRow.holds Try.pinned (OpenSpec.ofChange fnExactWideSubWrong)

/-- 'laws.FnExactItemsRight': WHATEVER THE INPUT: true; the input reads as it did. -/
def fnExactItemsRightSpec : ChangeSpec := { name := "fnExactItemsRight", fn := fun _ => fun
  | [d] => { results := [.lit (.bool true)], args := [d] }
  | _ => none }
def fnExactItemsRightRow : OpenClaim := { program := "ytjfkamhnmbamnab", sum := "092d9f7d17a5f488c452a3cacd39884508bea6f6ac14bcf87a8e22a99a85e2e1", func := "loop.example/g00095/laws.FnExactItemsRight", spec := "fnExactItemsRight", apart := false }
def FnExactItemsRightSaid : Prop := fnExactItemsRightRow.holds Try.pinned (OpenSpec.ofChange fnExactItemsRightSpec)

/-- ITS FALSE NEIGHBOUR: 'it returns false'. Refute it at one input. -/
def fnExactItemsRightWrong : ChangeSpec := { name := "fnExactItemsRight", fn := fun _ => fun
  | [d] => { results := [.lit (.bool false)], args := [d] }
  | _ => none }
def FnExactItemsRightWrongFalsely : Prop := fnExactItemsRightRow.holds Try.pinned (OpenSpec.ofChange fnExactItemsRightWrong)

/-- 'laws.FnExactLeasesRight': WHATEVER THE INPUT: true; the input reads as it did. -/
def fnExactLeasesRightSpec : ChangeSpec := { name := "fnExactLeasesRight", fn := fun _ => fun
  | [d] => { results := [.lit (.bool true)], args := [d] }
  | _ => none }
def fnExactLeasesRightRow : OpenClaim := { program := "ytjfkamhnmbamnab", sum := "092d9f7d17a5f488c452a3cacd39884508bea6f6ac14bcf87a8e22a99a85e2e1", func := "loop.example/g00095/laws.FnExactLeasesRight", spec := "fnExactLeasesRight", apart := false }
def FnExactLeasesRightSaid : Prop := fnExactLeasesRightRow.holds Try.pinned (OpenSpec.ofChange fnExactLeasesRightSpec)

/-- ITS FALSE NEIGHBOUR: 'it returns false'. Refute it at one input. -/
def fnExactLeasesRightWrong : ChangeSpec := { name := "fnExactLeasesRight", fn := fun _ => fun
  | [d] => { results := [.lit (.bool false)], args := [d] }
  | _ => none }
def FnExactLeasesRightWrongFalsely : Prop := fnExactLeasesRightRow.holds Try.pinned (OpenSpec.ofChange fnExactLeasesRightWrong)

/- THE SECOND FORM. 'bulk': how many values and letters a reading holds, each counted each time it is reached (what is shared counts as often as it is met; a slice's spare places count too). A statement '..UptoSaid' is the law's where the arguments, and the package variables that the reading takes, are together of bulk at most 1048576: NARROWER than '..Said'. Prove '..Said' where nothing that the law and all that it calls make is longer than what came in: it says more and counts as full. Else prove '..UptoSaid'. A law counts once. -/
mutual
def uptoBulk {H : Type} : DataW H → Nat
  | .lit (.string bytes) => bytes.length + 1
  | .lit _ => 1
  | .nil => 1
  | .ptr d => uptoBulk d + 1
  | .slice elems spare => uptoBulkAll elems + uptoBulkAll spare + 1
  | .agg parts => uptoBulkAll parts + 1
  | .iface _ d => uptoBulk d + 1
  | .map entries => uptoBulkEntries entries + 1
  | .held _ => 1
def uptoBulkAll {H : Type} : List (DataW H) → Nat
  | [] => 0
  | d :: r => uptoBulk d + uptoBulkAll r
def uptoBulkEntries {H : Type} : List (Lit × DataW H) → Nat
  | [] => 0
  | x :: r => uptoBulkEntry x + uptoBulkEntries r
def uptoBulkEntry {H : Type} : Lit × DataW H → Nat
  | (.string bytes, d) => bytes.length + uptoBulk d + 1
  | (_, d) => uptoBulk d + 1
 end
def uptoSmall : (H : Type) → List (DataW H) → Bool := fun _ ds => decide (uptoBulkAll ds ≤ 1048576)
def OpenSpec.upto (s : _root_.Go.ChangeSpec) : _root_.Go.OpenSpec := { _root_.Go.OpenSpec.ofChange s with cond := some uptoSmall }

/-- 'laws.FnExactEditRight', WHERE WHAT IT READS IS OF BULK AT MOST 1048576: true; the input reads as it did. -/
def fnExactEditRightUptoRow : OpenClaim := { program := "ytjfkamhnmbamnab", sum := "092d9f7d17a5f488c452a3cacd39884508bea6f6ac14bcf87a8e22a99a85e2e1", func := "loop.example/g00095/laws.FnExactEditRight", spec := "fnExactEditRight", apart := false, narrowed := true }
def FnExactEditRightUptoSaid : Prop := fnExactEditRightUptoRow.holds Try.pinned (OpenSpec.upto fnExactEditRightSpec)

/-- 'laws.FnExactWideCmp', WHERE WHAT IT READS IS OF BULK AT MOST 1048576: true; the input reads as it did. -/
def fnExactWideCmpUptoRow : OpenClaim := { program := "ytjfkamhnmbamnab", sum := "092d9f7d17a5f488c452a3cacd39884508bea6f6ac14bcf87a8e22a99a85e2e1", func := "loop.example/g00095/laws.FnExactWideCmp", spec := "fnExactWideCmp", apart := false, narrowed := true }
def FnExactWideCmpUptoSaid : Prop := fnExactWideCmpUptoRow.holds Try.pinned (OpenSpec.upto fnExactWideCmpSpec)

/-- 'laws.FnExactWideMul', WHERE WHAT IT READS IS OF BULK AT MOST 1048576: true; the input reads as it did. -/
def fnExactWideMulUptoRow : OpenClaim := { program := "ytjfkamhnmbamnab", sum := "092d9f7d17a5f488c452a3cacd39884508bea6f6ac14bcf87a8e22a99a85e2e1", func := "loop.example/g00095/laws.FnExactWideMul", spec := "fnExactWideMul", apart := false, narrowed := true }
def FnExactWideMulUptoSaid : Prop := fnExactWideMulUptoRow.holds Try.pinned (OpenSpec.upto fnExactWideMulSpec)

/-- 'laws.FnExactWideSub', WHERE WHAT IT READS IS OF BULK AT MOST 1048576: true; the input reads as it did. -/
def fnExactWideSubUptoRow : OpenClaim := { program := "ytjfkamhnmbamnab", sum := "092d9f7d17a5f488c452a3cacd39884508bea6f6ac14bcf87a8e22a99a85e2e1", func := "loop.example/g00095/laws.FnExactWideSub", spec := "fnExactWideSub", inPlace := ["math/bits.Sub64"], apart := false, narrowed := true }
def FnExactWideSubUptoSaid : Prop := fnExactWideSubUptoRow.holds Try.pinned (OpenSpec.upto fnExactWideSubSpec)

/-- 'laws.FnExactItemsRight', WHERE WHAT IT READS IS OF BULK AT MOST 1048576: true; the input reads as it did. -/
def fnExactItemsRightUptoRow : OpenClaim := { program := "ytjfkamhnmbamnab", sum := "092d9f7d17a5f488c452a3cacd39884508bea6f6ac14bcf87a8e22a99a85e2e1", func := "loop.example/g00095/laws.FnExactItemsRight", spec := "fnExactItemsRight", apart := false, narrowed := true }
def FnExactItemsRightUptoSaid : Prop := fnExactItemsRightUptoRow.holds Try.pinned (OpenSpec.upto fnExactItemsRightSpec)

/-- 'laws.FnExactLeasesRight', WHERE WHAT IT READS IS OF BULK AT MOST 1048576: true; the input reads as it did. -/
def fnExactLeasesRightUptoRow : OpenClaim := { program := "ytjfkamhnmbamnab", sum := "092d9f7d17a5f488c452a3cacd39884508bea6f6ac14bcf87a8e22a99a85e2e1", func := "loop.example/g00095/laws.FnExactLeasesRight", spec := "fnExactLeasesRight", apart := false, narrowed := true }
def FnExactLeasesRightUptoSaid : Prop := fnExactLeasesRightUptoRow.holds Try.pinned (OpenSpec.upto fnExactLeasesRightSpec)

end Rows
end Go.Proofs.Ytjfkamhnmbamnab
