/-
  DERIVED. GIVEN WITH THE SEED: THE CARDS: each row of YtmfbjhkhgkphcaaGreatDoorRows.lean that lists a variable, with what it lists TIED to the program's text (the seventh form; the later family's looks); each row that meets fmt, with fmt's text TOLD by the authors' own Lean function (tested against real Go, not proved from fmt's source: count such statements apart). THE CARD IS WHAT COUNTS. Prove the row's statement (the work); the ties are given (YtmfbjhkhgkphcaaGreatDoorTie.lean); close each card by the builder's one call (the guide's Derived/Test/ToyasCard.lean, 'card_holds'). Laid BY PROGRAM, IN A SANDBOX (cutbox-door.mjs). By AI agents, Wed Nov 11 2026. No macro, syntax, notation, axiom, sorry.
-/
import Derived.Test.YtmfbjhkhgkphcaaGreatDoorRows
import GoSem.ClaimSeven
namespace Go.Proofs.YtmfbjhkhgkphcaaGreatDoor
namespace Rows

/-- THE TIED CARD OF 'laws.FnTicketsGuessed'. -/
def fnTicketsGuessedCard : Claim7 := { stood := { row := fnTicketsGuessedRow, standIns := [], harness := (true, "2b58000815dc17240b3fc69aba15365f80ebbbd69864d6378a7940e64b712a12"), looks := true }, kinds := [], alts := [], laidByText := true, laidKinds := [.data, .data, .data, .data, .sentinel, .sentinel, .pinned], laidTests := true, laidLooks := .later }
def FnTicketsGuessedCardSaid : Prop := Claim7.holds Tryz.pinned (.plain (OpenSpec.ofChange fnTicketsGuessedSpec)) fnTicketsGuessedCard

/-- THE SECOND FORM's CARD OF 'laws.FnTicketsGuessed'. -/
def fnTicketsGuessedUptoCard : Claim7 := { stood := { row := fnTicketsGuessedUptoRow, standIns := [], harness := (true, "2b58000815dc17240b3fc69aba15365f80ebbbd69864d6378a7940e64b712a12"), looks := true }, kinds := [], alts := [], laidByText := true, laidKinds := [.data, .data, .data, .data, .sentinel, .sentinel, .pinned], laidTests := true, laidLooks := .later }
def FnTicketsGuessedUptoCardSaid : Prop := Claim7.holds Tryz.pinned (.plain (OpenSpec.upto fnTicketsGuessedSpec)) fnTicketsGuessedUptoCard
end Rows
end Go.Proofs.YtmfbjhkhgkphcaaGreatDoor
