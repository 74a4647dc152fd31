/-
  No cell of these rows narrows 'for every input' (looked for: loops, veiled, ifaces, maps, wideKeys, modest, calm, conditions, laid).
  DERIVED. THE GIVEN ROWS OF THIS SEAT. 7 by the template 'for every input the law returns true; each argument reads behind the call as it read before'; 0 by the template 'total and deterministic' (their statements: YthpggkpidbieeaaTotals.lean).
  GIVEN WITH THE SEED: the statements are not yours to turn. If you find one false, say at which input.
  Laid BY PROGRAM, IN A SANDBOX (cutbox-rows.mjs): the forced cells as the released guide's own fill.sh prints them over the translation 5963fe63ba21a451… (all of the seat's roots in one cut). By AI agents, Wed Nov 11 2026. No macro, syntax, notation, axiom, sorry.
-/
import Derived.Test.YthpggkpidbieeaaChecked
import GoSem.Claim
import GoSem.ClaimJoined
import GoSem.ClaimMapViews
import Derived.JoinedTies
import Derived.KernelRfl
namespace Go.Proofs.Ythpggkpidbieeaa
/- THE CELL 'sum', in the pinned program and in every row, IS THE sha256 OF THE DUMP (.gsa) THAT YthpggkpidbieeaaProg.lean LOADS. Nothing in Lean hashes anything: it is a label: what it is worth is what the hold of that sum in a sandbox is worth. -/
noncomputable def Try.pinned : Pinned := { name := "ythpggkpidbieeaa", sum := "5963fe63ba21a4518cbc83a7de0b48b01b543610e65376001b3493db68ee617a", checked := Try.checked }
namespace Rows
def none {H : Type} : Left H := { results := [], args := [] }

/-- 'laws.FnExactLeaseDrop': WHATEVER THE INPUT: true; the input reads as it did. -/
def fnExactLeaseDropSpec : ChangeSpec := { name := "fnExactLeaseDrop", fn := fun _ => fun
  | [d1, d2] => { results := [.lit (.bool true)], args := [d1, d2] }
  | _ => none }
def fnExactLeaseDropRow : OpenClaim := { program := "ythpggkpidbieeaa", sum := "5963fe63ba21a4518cbc83a7de0b48b01b543610e65376001b3493db68ee617a", func := "loop.example/g00095/laws.FnExactLeaseDrop", spec := "fnExactLeaseDrop", unfollowed := true, recurses := true, apart := false }
def FnExactLeaseDropSaid : Prop := fnExactLeaseDropRow.holds Try.pinned (OpenSpec.ofChange fnExactLeaseDropSpec)

/-- ITS FALSE NEIGHBOUR: 'it returns false'. Refute it at one input. -/
def fnExactLeaseDropWrong : ChangeSpec := { name := "fnExactLeaseDrop", fn := fun _ => fun
  | [d1, d2] => { results := [.lit (.bool false)], args := [d1, d2] }
  | _ => none }
def FnExactLeaseDropWrongFalsely : Prop := fnExactLeaseDropRow.holds Try.pinned (OpenSpec.ofChange fnExactLeaseDropWrong)

/-- 'laws.FnExactLeaseLive': WHATEVER THE INPUT: true; the input reads as it did. -/
def fnExactLeaseLiveSpec : ChangeSpec := { name := "fnExactLeaseLive", fn := fun _ => fun
  | [d1, d2] => { results := [.lit (.bool true)], args := [d1, d2] }
  | _ => none }
def fnExactLeaseLiveRow : OpenClaim := { program := "ythpggkpidbieeaa", sum := "5963fe63ba21a4518cbc83a7de0b48b01b543610e65376001b3493db68ee617a", func := "loop.example/g00095/laws.FnExactLeaseLive", spec := "fnExactLeaseLive", unfollowed := true, recurses := true, apart := false }
def FnExactLeaseLiveSaid : Prop := fnExactLeaseLiveRow.holds Try.pinned (OpenSpec.ofChange fnExactLeaseLiveSpec)

/-- ITS FALSE NEIGHBOUR: 'it returns false'. Refute it at one input. -/
def fnExactLeaseLiveWrong : ChangeSpec := { name := "fnExactLeaseLive", fn := fun _ => fun
  | [d1, d2] => { results := [.lit (.bool false)], args := [d1, d2] }
  | _ => none }
def FnExactLeaseLiveWrongFalsely : Prop := fnExactLeaseLiveRow.holds Try.pinned (OpenSpec.ofChange fnExactLeaseLiveWrong)

/-- 'laws.FnExactLeasePut': WHATEVER THE INPUT: true; the input reads as it did. -/
def fnExactLeasePutSpec : ChangeSpec := { name := "fnExactLeasePut", fn := fun _ => fun
  | [d1, d2] => { results := [.lit (.bool true)], args := [d1, d2] }
  | _ => none }
def fnExactLeasePutRow : OpenClaim := { program := "ythpggkpidbieeaa", sum := "5963fe63ba21a4518cbc83a7de0b48b01b543610e65376001b3493db68ee617a", func := "loop.example/g00095/laws.FnExactLeasePut", spec := "fnExactLeasePut", inPlace := ["slices.overlaps[loop.example/g00095/impl.Lease]"], unfollowed := true, recurses := true, apart := false }
def FnExactLeasePutSaid : Prop := fnExactLeasePutRow.holds Try.pinned (OpenSpec.ofChange fnExactLeasePutSpec)

/-- ITS FALSE NEIGHBOUR: 'it returns false'. Refute it at one input. -/
def fnExactLeasePutWrong : ChangeSpec := { name := "fnExactLeasePut", fn := fun _ => fun
  | [d1, d2] => { results := [.lit (.bool false)], args := [d1, d2] }
  | _ => none }
def FnExactLeasePutWrongFalsely : Prop := fnExactLeasePutRow.holds Try.pinned (OpenSpec.ofChange fnExactLeasePutWrong)

/-- 'laws.FnLeases': WHATEVER THE INPUT: true; the input reads as it did. -/
def fnLeasesSpec : ChangeSpec := { name := "fnLeases", fn := fun _ => fun
  | [d1, d2] => { results := [.lit (.bool true)], args := [d1, d2] }
  | _ => none }
def fnLeasesRow : OpenClaim := { program := "ythpggkpidbieeaa", sum := "5963fe63ba21a4518cbc83a7de0b48b01b543610e65376001b3493db68ee617a", func := "loop.example/g00095/laws.FnLeases", spec := "fnLeases", inPlace := ["slices.overlaps[loop.example/g00095/impl.Lease]"], unfollowed := true, recurses := true, apart := false }
def FnLeasesSaid : Prop := fnLeasesRow.holds Try.pinned (OpenSpec.ofChange fnLeasesSpec)

/-- ITS FALSE NEIGHBOUR: 'it returns false'. Refute it at one input. -/
def fnLeasesWrong : ChangeSpec := { name := "fnLeases", fn := fun _ => fun
  | [d1, d2] => { results := [.lit (.bool false)], args := [d1, d2] }
  | _ => none }
def FnLeasesWrongFalsely : Prop := fnLeasesRow.holds Try.pinned (OpenSpec.ofChange fnLeasesWrong)

/-- 'laws.FnExactFarmRight': WHATEVER THE INPUT: true; the input reads as it did. -/
def fnExactFarmRightSpec : ChangeSpec := { name := "fnExactFarmRight", fn := fun _ => fun
  | [d] => { results := [.lit (.bool true)], args := [d] }
  | _ => none }
def fnExactFarmRightRow : OpenClaim := { program := "ythpggkpidbieeaa", sum := "5963fe63ba21a4518cbc83a7de0b48b01b543610e65376001b3493db68ee617a", func := "loop.example/g00095/laws.FnExactFarmRight", spec := "fnExactFarmRight", unfollowed := true, recurses := true, apart := false }
def FnExactFarmRightSaid : Prop := fnExactFarmRightRow.holds Try.pinned (OpenSpec.ofChange fnExactFarmRightSpec)

/-- ITS FALSE NEIGHBOUR: 'it returns false'. Refute it at one input. -/
def fnExactFarmRightWrong : ChangeSpec := { name := "fnExactFarmRight", fn := fun _ => fun
  | [d] => { results := [.lit (.bool false)], args := [d] }
  | _ => none }
def FnExactFarmRightWrongFalsely : Prop := fnExactFarmRightRow.holds Try.pinned (OpenSpec.ofChange fnExactFarmRightWrong)

/-- 'laws.FnExactFarmDepth': WHATEVER THE INPUT: true; the input reads as it did. -/
def fnExactFarmDepthSpec : ChangeSpec := { name := "fnExactFarmDepth", fn := fun _ => fun
  | [d] => { results := [.lit (.bool true)], args := [d] }
  | _ => none }
def fnExactFarmDepthRow : OpenClaim := { program := "ythpggkpidbieeaa", sum := "5963fe63ba21a4518cbc83a7de0b48b01b543610e65376001b3493db68ee617a", func := "loop.example/g00095/laws.FnExactFarmDepth", spec := "fnExactFarmDepth", unfollowed := true, recurses := true, apart := false }
def FnExactFarmDepthSaid : Prop := fnExactFarmDepthRow.holds Try.pinned (OpenSpec.ofChange fnExactFarmDepthSpec)

/-- ITS FALSE NEIGHBOUR: 'it returns false'. Refute it at one input. -/
def fnExactFarmDepthWrong : ChangeSpec := { name := "fnExactFarmDepth", fn := fun _ => fun
  | [d] => { results := [.lit (.bool false)], args := [d] }
  | _ => none }
def FnExactFarmDepthWrongFalsely : Prop := fnExactFarmDepthRow.holds Try.pinned (OpenSpec.ofChange fnExactFarmDepthWrong)

/-- 'laws.FnExactFarmPath': WHATEVER THE INPUT: true; the input reads as it did. -/
def fnExactFarmPathSpec : ChangeSpec := { name := "fnExactFarmPath", fn := fun _ => fun
  | [d1, d2] => { results := [.lit (.bool true)], args := [d1, d2] }
  | _ => none }
def fnExactFarmPathRow : OpenClaim := { program := "ythpggkpidbieeaa", sum := "5963fe63ba21a4518cbc83a7de0b48b01b543610e65376001b3493db68ee617a", func := "loop.example/g00095/laws.FnExactFarmPath", spec := "fnExactFarmPath", unfollowed := true, recurses := true, apart := false }
def FnExactFarmPathSaid : Prop := fnExactFarmPathRow.holds Try.pinned (OpenSpec.ofChange fnExactFarmPathSpec)

/-- ITS FALSE NEIGHBOUR: 'it returns false'. Refute it at one input. -/
def fnExactFarmPathWrong : ChangeSpec := { name := "fnExactFarmPath", fn := fun _ => fun
  | [d1, d2] => { results := [.lit (.bool false)], args := [d1, d2] }
  | _ => none }
def FnExactFarmPathWrongFalsely : Prop := fnExactFarmPathRow.holds Try.pinned (OpenSpec.ofChange fnExactFarmPathWrong)

/- THE SECOND FORM. 'bulk': how many values and letters a reading holds, each counted each time it is reached (what is shared counts as often as it is met; a slice's spare places count too). A statement '..UptoSaid' is the law's where the arguments, and the package variables that the reading takes, are together of bulk at most 1048576: NARROWER than '..Said'. Prove '..Said' where nothing that the law and all that it calls make is longer than what came in: it says more and counts as full. Else prove '..UptoSaid'. A law counts once. -/
mutual
def uptoBulk {H : Type} : DataW H → Nat
  | .lit (.string bytes) => bytes.length + 1
  | .lit _ => 1
  | .nil => 1
  | .ptr d => uptoBulk d + 1
  | .slice elems spare => uptoBulkAll elems + uptoBulkAll spare + 1
  | .agg parts => uptoBulkAll parts + 1
  | .iface _ d => uptoBulk d + 1
  | .map entries => uptoBulkEntries entries + 1
  | .held _ => 1
def uptoBulkAll {H : Type} : List (DataW H) → Nat
  | [] => 0
  | d :: r => uptoBulk d + uptoBulkAll r
def uptoBulkEntries {H : Type} : List (Lit × DataW H) → Nat
  | [] => 0
  | x :: r => uptoBulkEntry x + uptoBulkEntries r
def uptoBulkEntry {H : Type} : Lit × DataW H → Nat
  | (.string bytes, d) => bytes.length + uptoBulk d + 1
  | (_, d) => uptoBulk d + 1
 end
def uptoSmall : (H : Type) → List (DataW H) → Bool := fun _ ds => decide (uptoBulkAll ds ≤ 1048576)
def OpenSpec.upto (s : _root_.Go.ChangeSpec) : _root_.Go.OpenSpec := { _root_.Go.OpenSpec.ofChange s with cond := some uptoSmall }

/-- 'laws.FnExactLeaseDrop', WHERE WHAT IT READS IS OF BULK AT MOST 1048576: true; the input reads as it did. -/
def fnExactLeaseDropUptoRow : OpenClaim := { program := "ythpggkpidbieeaa", sum := "5963fe63ba21a4518cbc83a7de0b48b01b543610e65376001b3493db68ee617a", func := "loop.example/g00095/laws.FnExactLeaseDrop", spec := "fnExactLeaseDrop", unfollowed := true, recurses := true, apart := false, narrowed := true }
def FnExactLeaseDropUptoSaid : Prop := fnExactLeaseDropUptoRow.holds Try.pinned (OpenSpec.upto fnExactLeaseDropSpec)

/-- 'laws.FnExactLeaseLive', WHERE WHAT IT READS IS OF BULK AT MOST 1048576: true; the input reads as it did. -/
def fnExactLeaseLiveUptoRow : OpenClaim := { program := "ythpggkpidbieeaa", sum := "5963fe63ba21a4518cbc83a7de0b48b01b543610e65376001b3493db68ee617a", func := "loop.example/g00095/laws.FnExactLeaseLive", spec := "fnExactLeaseLive", unfollowed := true, recurses := true, apart := false, narrowed := true }
def FnExactLeaseLiveUptoSaid : Prop := fnExactLeaseLiveUptoRow.holds Try.pinned (OpenSpec.upto fnExactLeaseLiveSpec)

/-- 'laws.FnExactLeasePut', WHERE WHAT IT READS IS OF BULK AT MOST 1048576: true; the input reads as it did. -/
def fnExactLeasePutUptoRow : OpenClaim := { program := "ythpggkpidbieeaa", sum := "5963fe63ba21a4518cbc83a7de0b48b01b543610e65376001b3493db68ee617a", func := "loop.example/g00095/laws.FnExactLeasePut", spec := "fnExactLeasePut", inPlace := ["slices.overlaps[loop.example/g00095/impl.Lease]"], unfollowed := true, recurses := true, apart := false, narrowed := true }
def FnExactLeasePutUptoSaid : Prop := fnExactLeasePutUptoRow.holds Try.pinned (OpenSpec.upto fnExactLeasePutSpec)

/-- 'laws.FnLeases', WHERE WHAT IT READS IS OF BULK AT MOST 1048576: true; the input reads as it did. -/
def fnLeasesUptoRow : OpenClaim := { program := "ythpggkpidbieeaa", sum := "5963fe63ba21a4518cbc83a7de0b48b01b543610e65376001b3493db68ee617a", func := "loop.example/g00095/laws.FnLeases", spec := "fnLeases", inPlace := ["slices.overlaps[loop.example/g00095/impl.Lease]"], unfollowed := true, recurses := true, apart := false, narrowed := true }
def FnLeasesUptoSaid : Prop := fnLeasesUptoRow.holds Try.pinned (OpenSpec.upto fnLeasesSpec)

/-- 'laws.FnExactFarmRight', WHERE WHAT IT READS IS OF BULK AT MOST 1048576: true; the input reads as it did. -/
def fnExactFarmRightUptoRow : OpenClaim := { program := "ythpggkpidbieeaa", sum := "5963fe63ba21a4518cbc83a7de0b48b01b543610e65376001b3493db68ee617a", func := "loop.example/g00095/laws.FnExactFarmRight", spec := "fnExactFarmRight", unfollowed := true, recurses := true, apart := false, narrowed := true }
def FnExactFarmRightUptoSaid : Prop := fnExactFarmRightUptoRow.holds Try.pinned (OpenSpec.upto fnExactFarmRightSpec)

/-- 'laws.FnExactFarmDepth', WHERE WHAT IT READS IS OF BULK AT MOST 1048576: true; the input reads as it did. -/
def fnExactFarmDepthUptoRow : OpenClaim := { program := "ythpggkpidbieeaa", sum := "5963fe63ba21a4518cbc83a7de0b48b01b543610e65376001b3493db68ee617a", func := "loop.example/g00095/laws.FnExactFarmDepth", spec := "fnExactFarmDepth", unfollowed := true, recurses := true, apart := false, narrowed := true }
def FnExactFarmDepthUptoSaid : Prop := fnExactFarmDepthUptoRow.holds Try.pinned (OpenSpec.upto fnExactFarmDepthSpec)

/-- 'laws.FnExactFarmPath', WHERE WHAT IT READS IS OF BULK AT MOST 1048576: true; the input reads as it did. -/
def fnExactFarmPathUptoRow : OpenClaim := { program := "ythpggkpidbieeaa", sum := "5963fe63ba21a4518cbc83a7de0b48b01b543610e65376001b3493db68ee617a", func := "loop.example/g00095/laws.FnExactFarmPath", spec := "fnExactFarmPath", unfollowed := true, recurses := true, apart := false, narrowed := true }
def FnExactFarmPathUptoSaid : Prop := fnExactFarmPathUptoRow.holds Try.pinned (OpenSpec.upto fnExactFarmPathSpec)

end Rows
end Go.Proofs.Ythpggkpidbieeaa
