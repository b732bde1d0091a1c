/-
  DERIVED. GIVEN WITH THE SEED: THE CARDS: each row of YtjnfaidngaobmaaGreatDoorRows.lean that lists a variable, with what it lists TIED to the program's text (the seventh form; the later family's looks); each row that meets fmt, with fmt's text TOLD by the authors' own Lean function (tested against real Go, not proved from fmt's source: count such statements apart). THE CARD IS WHAT COUNTS. Prove the row's statement (the work); the ties are given (YtjnfaidngaobmaaGreatDoorTie.lean); close each card by the builder's one call (the guide's Derived/Test/ToyasCard.lean, 'card_holds'). Laid BY PROGRAM, IN A SANDBOX (cutbox-door.mjs). By AI agents, Wed Nov 11 2026. No macro, syntax, notation, axiom, sorry.
-/
import Derived.Test.YtjnfaidngaobmaaGreatDoorRows
import GoSem.ClaimSeven
namespace Go.Proofs.YtjnfaidngaobmaaGreatDoor
namespace Rows

/-- THE TIED CARD OF 'laws.FnLeastOfDigits'. -/
def fnLeastOfDigitsCard : Claim7 := { stood := { row := fnLeastOfDigitsRow, standIns := [], harness := (true, "941f68a931f8326b1167b71a1210d8f828f491f570b15b43f53910375d6c6977"), looks := false }, kinds := [], alts := [], laidByText := true, laidKinds := [.data, .data, .data], laidTests := true, laidLooks := .later }
def FnLeastOfDigitsCardSaid : Prop := Claim7.holds Tryz.pinned (.plain (OpenSpec.ofChange fnLeastOfDigitsSpec)) fnLeastOfDigitsCard

/-- THE SECOND FORM's CARD OF 'laws.FnLeastOfDigits'. -/
def fnLeastOfDigitsUptoCard : Claim7 := { stood := { row := fnLeastOfDigitsUptoRow, standIns := [], harness := (true, "941f68a931f8326b1167b71a1210d8f828f491f570b15b43f53910375d6c6977"), looks := false }, kinds := [], alts := [], laidByText := true, laidKinds := [.data, .data, .data], laidTests := true, laidLooks := .later }
def FnLeastOfDigitsUptoCardSaid : Prop := Claim7.holds Tryz.pinned (.plain (OpenSpec.upto fnLeastOfDigitsSpec)) fnLeastOfDigitsUptoCard
end Rows
end Go.Proofs.YtjnfaidngaobmaaGreatDoor
