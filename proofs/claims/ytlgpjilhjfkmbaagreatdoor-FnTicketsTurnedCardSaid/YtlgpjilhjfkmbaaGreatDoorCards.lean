/-
  DERIVED. GIVEN WITH THE SEED: THE CARDS: each row of YtlgpjilhjfkmbaaGreatDoorRows.lean that lists a variable, with what it lists TIED to the program's text (the seventh form; the later family's looks); each row that meets fmt, with fmt's text TOLD by the authors' own Lean function (tested against real Go, not proved from fmt's source: count such statements apart). THE CARD IS WHAT COUNTS. Prove the row's statement (the work); the ties are given (YtlgpjilhjfkmbaaGreatDoorTie.lean); close each card by the builder's one call (the guide's Derived/Test/ToyasCard.lean, 'card_holds'). Laid BY PROGRAM, IN A SANDBOX (cutbox-door.mjs). By AI agents, Wed Nov 11 2026. No macro, syntax, notation, axiom, sorry.
-/
import Derived.Test.YtlgpjilhjfkmbaaGreatDoorRows
import GoSem.ClaimSeven
namespace Go.Proofs.YtlgpjilhjfkmbaaGreatDoor
namespace Rows

/-- THE TIED CARD OF 'laws.FnTicketsTurned'. -/
def fnTicketsTurnedCard : Claim7 := { stood := { row := fnTicketsTurnedRow, standIns := [], harness := (true, "53ebe7c357ba9f1e0d645c80b1408b1743223657ea8ad234c58f6d35e5e14186"), looks := false }, kinds := [], alts := [], laidByText := true, laidKinds := [.data, .data, .data], laidTests := true, laidLooks := .later }
def FnTicketsTurnedCardSaid : Prop := Claim7.holds Tryz.pinned (.plain (OpenSpec.ofChange fnTicketsTurnedSpec)) fnTicketsTurnedCard

/-- THE SECOND FORM's CARD OF 'laws.FnTicketsTurned'. -/
def fnTicketsTurnedUptoCard : Claim7 := { stood := { row := fnTicketsTurnedUptoRow, standIns := [], harness := (true, "53ebe7c357ba9f1e0d645c80b1408b1743223657ea8ad234c58f6d35e5e14186"), looks := false }, kinds := [], alts := [], laidByText := true, laidKinds := [.data, .data, .data], laidTests := true, laidLooks := .later }
def FnTicketsTurnedUptoCardSaid : Prop := Claim7.holds Tryz.pinned (.plain (OpenSpec.upto fnTicketsTurnedSpec)) fnTicketsTurnedUptoCard
end Rows
end Go.Proofs.YtlgpjilhjfkmbaaGreatDoor
