/-
  DERIVED. GIVEN WITH THE SEED: THE CARDS: each row of YtjpbadckmackbaaGreatDoorRows.lean that lists a variable, with what it lists TIED to the program's text (the seventh form; the later family's looks); each row that meets fmt, with fmt's text TOLD by the authors' own Lean function (tested against real Go, not proved from fmt's source: count such statements apart). THE CARD IS WHAT COUNTS. Prove the row's statement (the work); the ties are given (YtjpbadckmackbaaGreatDoorTie.lean); close each card by the builder's one call (the guide's Derived/Test/ToyasCard.lean, 'card_holds'). Laid BY PROGRAM, IN A SANDBOX (cutbox-door.mjs). By AI agents, Wed Nov 11 2026. No macro, syntax, notation, axiom, sorry.
-/
import Derived.Test.YtjpbadckmackbaaGreatDoorRows
import GoSem.ClaimSeven
namespace Go.Proofs.YtjpbadckmackbaaGreatDoor
namespace Rows

/-- THE TIED CARD OF 'laws.FnDigitsSummed'. -/
def fnDigitsSummedCard : Claim7 := { stood := { row := fnDigitsSummedRow, standIns := [], harness := (true, "f819a827c22c765ae613e377ddc02f614fecc24890a0740fcd579bfc112ba1fb"), looks := false }, kinds := [], alts := [], laidByText := true, laidKinds := [.data, .data, .data], laidTests := true, laidLooks := .later }
def FnDigitsSummedCardSaid : Prop := Claim7.holds Tryz.pinned (.plain (OpenSpec.ofChange fnDigitsSummedSpec)) fnDigitsSummedCard

/-- THE SECOND FORM's CARD OF 'laws.FnDigitsSummed'. -/
def fnDigitsSummedUptoCard : Claim7 := { stood := { row := fnDigitsSummedUptoRow, standIns := [], harness := (true, "f819a827c22c765ae613e377ddc02f614fecc24890a0740fcd579bfc112ba1fb"), looks := false }, kinds := [], alts := [], laidByText := true, laidKinds := [.data, .data, .data], laidTests := true, laidLooks := .later }
def FnDigitsSummedUptoCardSaid : Prop := Claim7.holds Tryz.pinned (.plain (OpenSpec.upto fnDigitsSummedSpec)) fnDigitsSummedUptoCard
end Rows
end Go.Proofs.YtjpbadckmackbaaGreatDoor
