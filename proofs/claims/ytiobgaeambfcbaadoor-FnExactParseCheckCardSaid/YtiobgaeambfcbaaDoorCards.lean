/-
  DERIVED. GIVEN WITH THE SEED: THE CARDS: each row of YtiobgaeambfcbaaDoorRows.lean that lists a variable, with what it lists TIED to the program's text (the seventh form; the later family's looks); each row that meets fmt, with fmt's text TOLD by the authors' own Lean function (tested against real Go, not proved from fmt's source: count such statements apart). THE CARD IS WHAT COUNTS. Prove the row's statement (the work); the ties are given (YtiobgaeambfcbaaDoorTie.lean); close each card by the builder's one call (the guide's Derived/Test/ToyasCard.lean, 'card_holds'). Laid BY PROGRAM, IN A SANDBOX (cutbox-door.mjs). By AI agents, Wed Nov 11 2026. No macro, syntax, notation, axiom, sorry.
-/
import Derived.Test.YtiobgaeambfcbaaDoorRows
import GoSem.ClaimSeven
namespace Go.Proofs.YtiobgaeambfcbaaDoor
namespace Rows

/-- THE TIED CARD OF 'laws.FnDigitsWritten'. -/
def fnDigitsWrittenCard : Claim7 := { stood := { row := fnDigitsWrittenRow, standIns := [], harness := (true, "90bbaa4a7006522b7ea43aabd56e3f39f62dfc2e01eed4dfdfc800d60a032923"), looks := true }, kinds := [], alts := [], laidByText := true, laidKinds := [.data, .data, .data], laidTests := true, laidLooks := .later }
def FnDigitsWrittenCardSaid : Prop := Claim7.holds Tryd.pinned (.plain (OpenSpec.ofChange fnDigitsWrittenSpec)) fnDigitsWrittenCard

/-- THE TIED CARD OF 'laws.FnExactParseCheck'. -/
def fnExactParseCheckCard : Claim7 := { stood := { row := fnExactParseCheckRow, standIns := [], harness := (true, "90bbaa4a7006522b7ea43aabd56e3f39f62dfc2e01eed4dfdfc800d60a032923"), looks := true }, kinds := [], alts := [], laidByText := true, laidKinds := [.data, .data, .data, .data, .sentinel, .sentinel, .pinned], laidTests := true, laidLooks := .later }
def FnExactParseCheckCardSaid : Prop := Claim7.holds Tryd.pinned (.plain (OpenSpec.ofChange fnExactParseCheckSpec)) fnExactParseCheckCard

/-- THE SECOND FORM's CARD OF 'laws.FnDigitsWritten'. -/
def fnDigitsWrittenUptoCard : Claim7 := { stood := { row := fnDigitsWrittenUptoRow, standIns := [], harness := (true, "90bbaa4a7006522b7ea43aabd56e3f39f62dfc2e01eed4dfdfc800d60a032923"), looks := true }, kinds := [], alts := [], laidByText := true, laidKinds := [.data, .data, .data], laidTests := true, laidLooks := .later }
def FnDigitsWrittenUptoCardSaid : Prop := Claim7.holds Tryd.pinned (.plain (OpenSpec.upto fnDigitsWrittenSpec)) fnDigitsWrittenUptoCard

/-- THE SECOND FORM's CARD OF 'laws.FnExactParseCheck'. -/
def fnExactParseCheckUptoCard : Claim7 := { stood := { row := fnExactParseCheckUptoRow, standIns := [], harness := (true, "90bbaa4a7006522b7ea43aabd56e3f39f62dfc2e01eed4dfdfc800d60a032923"), looks := true }, kinds := [], alts := [], laidByText := true, laidKinds := [.data, .data, .data, .data, .sentinel, .sentinel, .pinned], laidTests := true, laidLooks := .later }
def FnExactParseCheckUptoCardSaid : Prop := Claim7.holds Tryd.pinned (.plain (OpenSpec.upto fnExactParseCheckSpec)) fnExactParseCheckUptoCard
end Rows
end Go.Proofs.YtiobgaeambfcbaaDoor
