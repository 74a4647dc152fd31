/-
  DERIVED. GIVEN WITH THE SEED: THE CARDS: each row of YtpgaoihgohlmkaaDoorRows.lean that lists a variable, with what it lists TIED to the program's text (the seventh form; the later family's looks); each row that meets fmt, with fmt's text TOLD by the authors' own Lean function (tested against real Go, not proved from fmt's source: count such statements apart). THE CARD IS WHAT COUNTS. Prove the row's statement (the work); the ties are given (YtpgaoihgohlmkaaDoorTie.lean); close each card by the builder's one call (the guide's Derived/Test/ToyasCard.lean, 'card_holds'). Laid BY PROGRAM, IN A SANDBOX (cutbox-door.mjs). By AI agents, Wed Nov 11 2026. No macro, syntax, notation, axiom, sorry.
-/
import Derived.Test.YtpgaoihgohlmkaaDoorRows
import GoSem.ClaimSeven
namespace Go.Proofs.YtpgaoihgohlmkaaDoor
namespace Rows

/-- THE TIED CARD OF 'laws.FnExactWideRead'. -/
def fnExactWideReadCard : Claim7 := { stood := { row := fnExactWideReadRow, standIns := [], harness := (true, "97ba0ba7e632c196147e909274d1900a3354d68df07c3f0583b67435307d5083"), looks := false }, kinds := [], alts := [], laidByText := true, laidKinds := [.data, .pinned], laidTests := true, laidLooks := .later }
def FnExactWideReadCardSaid : Prop := Claim7.holds Tryd.pinned (.plain (OpenSpec.ofChange fnExactWideReadSpec)) fnExactWideReadCard

/-- THE TIED CARD OF 'laws.FnWide'. -/
def fnWideCard : Claim7 := { stood := { row := fnWideRow, standIns := [], harness := (true, "97ba0ba7e632c196147e909274d1900a3354d68df07c3f0583b67435307d5083"), looks := false }, kinds := [], alts := [], laidByText := true, laidKinds := [.data, .pinned], laidTests := true, laidLooks := .later }
def FnWideCardSaid : Prop := Claim7.holds Tryd.pinned (.plain (OpenSpec.ofChange fnWideSpec)) fnWideCard

/-- THE SECOND FORM's CARD OF 'laws.FnExactWideRead'. -/
def fnExactWideReadUptoCard : Claim7 := { stood := { row := fnExactWideReadUptoRow, standIns := [], harness := (true, "97ba0ba7e632c196147e909274d1900a3354d68df07c3f0583b67435307d5083"), looks := false }, kinds := [], alts := [], laidByText := true, laidKinds := [.data, .pinned], laidTests := true, laidLooks := .later }
def FnExactWideReadUptoCardSaid : Prop := Claim7.holds Tryd.pinned (.plain (OpenSpec.upto fnExactWideReadSpec)) fnExactWideReadUptoCard

/-- THE SECOND FORM's CARD OF 'laws.FnWide'. -/
def fnWideUptoCard : Claim7 := { stood := { row := fnWideUptoRow, standIns := [], harness := (true, "97ba0ba7e632c196147e909274d1900a3354d68df07c3f0583b67435307d5083"), looks := false }, kinds := [], alts := [], laidByText := true, laidKinds := [.data, .pinned], laidTests := true, laidLooks := .later }
def FnWideUptoCardSaid : Prop := Claim7.holds Tryd.pinned (.plain (OpenSpec.upto fnWideSpec)) fnWideUptoCard
end Rows
end Go.Proofs.YtpgaoihgohlmkaaDoor
