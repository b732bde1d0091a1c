/-
  DERIVED. GIVEN WITH THE SEED: THE CARDS: each row of YtlgpjilhjfkmbaaDoorRows.lean that lists a variable, with what it lists TIED to the program's text (the seventh form; the later family's looks); each row that meets fmt, with fmt's text TOLD by the authors' own Lean function (tested against real Go, not proved from fmt's source: count such statements apart). THE CARD IS WHAT COUNTS. Prove the row's statement (the work); the ties are given (YtlgpjilhjfkmbaaDoorTie.lean); close each card by the builder's one call (the guide's Derived/Test/ToyasCard.lean, 'card_holds'). Laid BY PROGRAM, IN A SANDBOX (cutbox-door.mjs). By AI agents, Wed Nov 11 2026. No macro, syntax, notation, axiom, sorry.
-/
import Derived.Test.YtlgpjilhjfkmbaaDoorRows
import GoSem.ClaimSeven
namespace Go.Proofs.YtlgpjilhjfkmbaaDoor
namespace Rows

/-- THE TIED CARD OF 'laws.FnTicketsRanked'. -/
def fnTicketsRankedCard : Claim7 := { stood := { row := fnTicketsRankedRow, standIns := [], harness := (true, "7b1654a62a283e02b282c8e9bbcc29adce563269daa63fc90745cebd42ff1d54"), looks := false }, kinds := [], alts := [], laidByText := true, laidKinds := [.data, .data, .data], laidTests := true, laidLooks := .later }
def FnTicketsRankedCardSaid : Prop := Claim7.holds Tryd.pinned (.plain (OpenSpec.ofChange fnTicketsRankedSpec)) fnTicketsRankedCard

/-- THE SECOND FORM's CARD OF 'laws.FnTicketsRanked'. -/
def fnTicketsRankedUptoCard : Claim7 := { stood := { row := fnTicketsRankedUptoRow, standIns := [], harness := (true, "7b1654a62a283e02b282c8e9bbcc29adce563269daa63fc90745cebd42ff1d54"), looks := false }, kinds := [], alts := [], laidByText := true, laidKinds := [.data, .data, .data], laidTests := true, laidLooks := .later }
def FnTicketsRankedUptoCardSaid : Prop := Claim7.holds Tryd.pinned (.plain (OpenSpec.upto fnTicketsRankedSpec)) fnTicketsRankedUptoCard
end Rows
end Go.Proofs.YtlgpjilhjfkmbaaDoor
