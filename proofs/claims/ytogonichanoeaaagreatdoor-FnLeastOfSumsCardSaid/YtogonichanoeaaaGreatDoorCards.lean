/-
  DERIVED. GIVEN WITH THE SEED: THE CARDS: each row of YtogonichanoeaaaGreatDoorRows.lean that lists a variable, with what it lists TIED to the program's text (the seventh form; the later family's looks); each row that meets fmt, with fmt's text TOLD by the authors' own Lean function (tested against real Go, not proved from fmt's source: count such statements apart). THE CARD IS WHAT COUNTS. Prove the row's statement (the work); the ties are given (YtogonichanoeaaaGreatDoorTie.lean); close each card by the builder's one call (the guide's Derived/Test/ToyasCard.lean, 'card_holds'). Laid BY PROGRAM, IN A SANDBOX (cutbox-door.mjs). By AI agents, Wed Nov 11 2026. No macro, syntax, notation, axiom, sorry.
-/
import Derived.Test.YtogonichanoeaaaGreatDoorRows
import GoSem.ClaimSeven
namespace Go.Proofs.YtogonichanoeaaaGreatDoor
namespace Rows

/-- THE TIED CARD OF 'laws.FnLeastOfSums'. -/
def fnLeastOfSumsCard : Claim7 := { stood := { row := fnLeastOfSumsRow, standIns := [], harness := (true, "9cb5ba70ebf9389f437136af88a19ff7cf4910be7471d71beca3848275a62000"), looks := false }, kinds := [], alts := [], laidByText := true, laidKinds := [.data, .data, .data], laidTests := true, laidLooks := .later }
def FnLeastOfSumsCardSaid : Prop := Claim7.holds Tryz.pinned (.plain (OpenSpec.ofChange fnLeastOfSumsSpec)) fnLeastOfSumsCard

/-- THE TIED CARD OF 'laws.FnLeastOfDigits'. -/
def fnLeastOfDigitsCard : Claim7 := { stood := { row := fnLeastOfDigitsRow, standIns := [], harness := (true, "9cb5ba70ebf9389f437136af88a19ff7cf4910be7471d71beca3848275a62000"), looks := false }, kinds := [], alts := [], laidByText := true, laidKinds := [.data, .data, .data], laidTests := true, laidLooks := .later }
def FnLeastOfDigitsCardSaid : Prop := Claim7.holds Tryz.pinned (.plain (OpenSpec.ofChange fnLeastOfDigitsSpec)) fnLeastOfDigitsCard

/-- THE SECOND FORM's CARD OF 'laws.FnLeastOfSums'. -/
def fnLeastOfSumsUptoCard : Claim7 := { stood := { row := fnLeastOfSumsUptoRow, standIns := [], harness := (true, "9cb5ba70ebf9389f437136af88a19ff7cf4910be7471d71beca3848275a62000"), looks := false }, kinds := [], alts := [], laidByText := true, laidKinds := [.data, .data, .data], laidTests := true, laidLooks := .later }
def FnLeastOfSumsUptoCardSaid : Prop := Claim7.holds Tryz.pinned (.plain (OpenSpec.upto fnLeastOfSumsSpec)) fnLeastOfSumsUptoCard

/-- THE SECOND FORM's CARD OF 'laws.FnLeastOfDigits'. -/
def fnLeastOfDigitsUptoCard : Claim7 := { stood := { row := fnLeastOfDigitsUptoRow, standIns := [], harness := (true, "9cb5ba70ebf9389f437136af88a19ff7cf4910be7471d71beca3848275a62000"), looks := false }, kinds := [], alts := [], laidByText := true, laidKinds := [.data, .data, .data], laidTests := true, laidLooks := .later }
def FnLeastOfDigitsUptoCardSaid : Prop := Claim7.holds Tryz.pinned (.plain (OpenSpec.upto fnLeastOfDigitsSpec)) fnLeastOfDigitsUptoCard
end Rows
end Go.Proofs.YtogonichanoeaaaGreatDoor
