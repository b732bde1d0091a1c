/-
  DERIVED. GIVEN WITH THE SEED: THE CARDS: each row of YtjhmocngcnnfdaaDoorRows.lean that lists a variable, with what it lists TIED to the program's text (the seventh form; the later family's looks); each row that meets fmt, with fmt's text TOLD by the authors' own Lean function (tested against real Go, not proved from fmt's source: count such statements apart). THE CARD IS WHAT COUNTS. Prove the row's statement (the work); the ties are given (YtjhmocngcnnfdaaDoorTie.lean); close each card by the builder's one call (the guide's Derived/Test/ToyasCard.lean, 'card_holds'). Laid BY PROGRAM, IN A SANDBOX (cutbox-door.mjs). By AI agents, Wed Nov 11 2026. No macro, syntax, notation, axiom, sorry.
-/
import Derived.Test.YtjhmocngcnnfdaaDoorRows
import GoSem.ClaimSeven
namespace Go.Proofs.YtjhmocngcnnfdaaDoor
namespace Rows

/-- THE TIED CARD OF 'laws.FnExactPuzzleText'. -/
def fnExactPuzzleTextCard : Claim7 := { stood := { row := fnExactPuzzleTextRow, standIns := [], harness := (true, "b8581e5bfb763006be68aa046b59fc9c3f809c605b9c509507126b122a973c2c"), looks := true }, kinds := [], alts := [], laidByText := true, laidKinds := [.data, .data, .data], laidTests := true, laidLooks := .later }
def FnExactPuzzleTextCardSaid : Prop := Claim7.holds Tryd.pinned (.plain (OpenSpec.ofChange fnExactPuzzleTextSpec)) fnExactPuzzleTextCard

/-- THE TIED CARD OF 'laws.FnExactLastWithSum'. -/
def fnExactLastWithSumCard : Claim7 := { stood := { row := fnExactLastWithSumRow, standIns := [], harness := (true, "b8581e5bfb763006be68aa046b59fc9c3f809c605b9c509507126b122a973c2c"), looks := true }, kinds := [], alts := [], laidByText := true, laidKinds := [.data, .data, .data], laidTests := true, laidLooks := .later }
def FnExactLastWithSumCardSaid : Prop := Claim7.holds Tryd.pinned (.plain (OpenSpec.ofChange fnExactLastWithSumSpec)) fnExactLastWithSumCard

/-- THE TIED CARD OF 'laws.FnExactNextWithSum'. -/
def fnExactNextWithSumCard : Claim7 := { stood := { row := fnExactNextWithSumRow, standIns := [], harness := (true, "b8581e5bfb763006be68aa046b59fc9c3f809c605b9c509507126b122a973c2c"), looks := true }, kinds := [], alts := [], laidByText := true, laidKinds := [.data, .data, .data], laidTests := true, laidLooks := .later }
def FnExactNextWithSumCardSaid : Prop := Claim7.holds Tryd.pinned (.plain (OpenSpec.ofChange fnExactNextWithSumSpec)) fnExactNextWithSumCard

/-- THE TIED CARD OF 'laws.FnExactIsDesk'. -/
def fnExactIsDeskCard : Claim7 := { stood := { row := fnExactIsDeskRow, standIns := [], harness := (true, "b8581e5bfb763006be68aa046b59fc9c3f809c605b9c509507126b122a973c2c"), looks := true }, kinds := [], alts := [], laidByText := true, laidKinds := [.data, .pinned], laidTests := true, laidLooks := .later }
def FnExactIsDeskCardSaid : Prop := Claim7.holds Tryd.pinned (.plain (OpenSpec.ofChange fnExactIsDeskSpec)) fnExactIsDeskCard

/-- THE TIED CARD OF 'laws.FnDigitsWritten'. -/
def fnDigitsWrittenCard : Claim7 := { stood := { row := fnDigitsWrittenRow, standIns := [], harness := (true, "b8581e5bfb763006be68aa046b59fc9c3f809c605b9c509507126b122a973c2c"), looks := true }, kinds := [], alts := [], laidByText := true, laidKinds := [.data, .data, .data], laidTests := true, laidLooks := .later }
def FnDigitsWrittenCardSaid : Prop := Claim7.holds Tryd.pinned (.plain (OpenSpec.ofChange fnDigitsWrittenSpec)) fnDigitsWrittenCard

/-- THE TIED CARD OF 'laws.FnExactGreatestSameDigits'. -/
def fnExactGreatestSameDigitsCard : Claim7 := { stood := { row := fnExactGreatestSameDigitsRow, standIns := [], harness := (true, "b8581e5bfb763006be68aa046b59fc9c3f809c605b9c509507126b122a973c2c"), looks := true }, kinds := [], alts := [], laidByText := true, laidKinds := [.data, .data, .data], laidTests := true, laidLooks := .later }
def FnExactGreatestSameDigitsCardSaid : Prop := Claim7.holds Tryd.pinned (.plain (OpenSpec.ofChange fnExactGreatestSameDigitsSpec)) fnExactGreatestSameDigitsCard

/-- THE TIED CARD OF 'laws.FnExactLeastSameDigits'. -/
def fnExactLeastSameDigitsCard : Claim7 := { stood := { row := fnExactLeastSameDigitsRow, standIns := [], harness := (true, "b8581e5bfb763006be68aa046b59fc9c3f809c605b9c509507126b122a973c2c"), looks := true }, kinds := [], alts := [], laidByText := true, laidKinds := [.data, .data, .data], laidTests := true, laidLooks := .later }
def FnExactLeastSameDigitsCardSaid : Prop := Claim7.holds Tryd.pinned (.plain (OpenSpec.ofChange fnExactLeastSameDigitsSpec)) fnExactLeastSameDigitsCard

/-- THE TIED CARD OF 'laws.FnExactMakePuzzle'. -/
def fnExactMakePuzzleCard : Claim7 := { stood := { row := fnExactMakePuzzleRow, standIns := [], harness := (true, "b8581e5bfb763006be68aa046b59fc9c3f809c605b9c509507126b122a973c2c"), looks := true }, kinds := [], alts := [], laidByText := true, laidKinds := [.data, .pinned], laidTests := true, laidLooks := .later }
def FnExactMakePuzzleCardSaid : Prop := Claim7.holds Tryd.pinned (.plain (OpenSpec.ofChange fnExactMakePuzzleSpec)) fnExactMakePuzzleCard

/-- THE TIED CARD OF 'laws.FnExactParsePuzzle'. -/
def fnExactParsePuzzleCard : Claim7 := { stood := { row := fnExactParsePuzzleRow, standIns := [], harness := (true, "b8581e5bfb763006be68aa046b59fc9c3f809c605b9c509507126b122a973c2c"), looks := true }, kinds := [], alts := [], laidByText := true, laidKinds := [.data, .data, .data, .data, .sentinel, .sentinel, .pinned], laidTests := true, laidLooks := .later }
def FnExactParsePuzzleCardSaid : Prop := Claim7.holds Tryd.pinned (.plain (OpenSpec.ofChange fnExactParsePuzzleSpec)) fnExactParsePuzzleCard

/-- THE SECOND FORM's CARD OF 'laws.FnExactPuzzleText'. -/
def fnExactPuzzleTextUptoCard : Claim7 := { stood := { row := fnExactPuzzleTextUptoRow, standIns := [], harness := (true, "b8581e5bfb763006be68aa046b59fc9c3f809c605b9c509507126b122a973c2c"), looks := true }, kinds := [], alts := [], laidByText := true, laidKinds := [.data, .data, .data], laidTests := true, laidLooks := .later }
def FnExactPuzzleTextUptoCardSaid : Prop := Claim7.holds Tryd.pinned (.plain (OpenSpec.upto fnExactPuzzleTextSpec)) fnExactPuzzleTextUptoCard

/-- THE SECOND FORM's CARD OF 'laws.FnExactLastWithSum'. -/
def fnExactLastWithSumUptoCard : Claim7 := { stood := { row := fnExactLastWithSumUptoRow, standIns := [], harness := (true, "b8581e5bfb763006be68aa046b59fc9c3f809c605b9c509507126b122a973c2c"), looks := true }, kinds := [], alts := [], laidByText := true, laidKinds := [.data, .data, .data], laidTests := true, laidLooks := .later }
def FnExactLastWithSumUptoCardSaid : Prop := Claim7.holds Tryd.pinned (.plain (OpenSpec.upto fnExactLastWithSumSpec)) fnExactLastWithSumUptoCard

/-- THE SECOND FORM's CARD OF 'laws.FnExactNextWithSum'. -/
def fnExactNextWithSumUptoCard : Claim7 := { stood := { row := fnExactNextWithSumUptoRow, standIns := [], harness := (true, "b8581e5bfb763006be68aa046b59fc9c3f809c605b9c509507126b122a973c2c"), looks := true }, kinds := [], alts := [], laidByText := true, laidKinds := [.data, .data, .data], laidTests := true, laidLooks := .later }
def FnExactNextWithSumUptoCardSaid : Prop := Claim7.holds Tryd.pinned (.plain (OpenSpec.upto fnExactNextWithSumSpec)) fnExactNextWithSumUptoCard

/-- THE SECOND FORM's CARD OF 'laws.FnExactIsDesk'. -/
def fnExactIsDeskUptoCard : Claim7 := { stood := { row := fnExactIsDeskUptoRow, standIns := [], harness := (true, "b8581e5bfb763006be68aa046b59fc9c3f809c605b9c509507126b122a973c2c"), looks := true }, kinds := [], alts := [], laidByText := true, laidKinds := [.data, .pinned], laidTests := true, laidLooks := .later }
def FnExactIsDeskUptoCardSaid : Prop := Claim7.holds Tryd.pinned (.plain (OpenSpec.upto fnExactIsDeskSpec)) fnExactIsDeskUptoCard

/-- THE SECOND FORM's CARD OF 'laws.FnDigitsWritten'. -/
def fnDigitsWrittenUptoCard : Claim7 := { stood := { row := fnDigitsWrittenUptoRow, standIns := [], harness := (true, "b8581e5bfb763006be68aa046b59fc9c3f809c605b9c509507126b122a973c2c"), looks := true }, kinds := [], alts := [], laidByText := true, laidKinds := [.data, .data, .data], laidTests := true, laidLooks := .later }
def FnDigitsWrittenUptoCardSaid : Prop := Claim7.holds Tryd.pinned (.plain (OpenSpec.upto fnDigitsWrittenSpec)) fnDigitsWrittenUptoCard

/-- THE SECOND FORM's CARD OF 'laws.FnExactGreatestSameDigits'. -/
def fnExactGreatestSameDigitsUptoCard : Claim7 := { stood := { row := fnExactGreatestSameDigitsUptoRow, standIns := [], harness := (true, "b8581e5bfb763006be68aa046b59fc9c3f809c605b9c509507126b122a973c2c"), looks := true }, kinds := [], alts := [], laidByText := true, laidKinds := [.data, .data, .data], laidTests := true, laidLooks := .later }
def FnExactGreatestSameDigitsUptoCardSaid : Prop := Claim7.holds Tryd.pinned (.plain (OpenSpec.upto fnExactGreatestSameDigitsSpec)) fnExactGreatestSameDigitsUptoCard

/-- THE SECOND FORM's CARD OF 'laws.FnExactLeastSameDigits'. -/
def fnExactLeastSameDigitsUptoCard : Claim7 := { stood := { row := fnExactLeastSameDigitsUptoRow, standIns := [], harness := (true, "b8581e5bfb763006be68aa046b59fc9c3f809c605b9c509507126b122a973c2c"), looks := true }, kinds := [], alts := [], laidByText := true, laidKinds := [.data, .data, .data], laidTests := true, laidLooks := .later }
def FnExactLeastSameDigitsUptoCardSaid : Prop := Claim7.holds Tryd.pinned (.plain (OpenSpec.upto fnExactLeastSameDigitsSpec)) fnExactLeastSameDigitsUptoCard

/-- THE SECOND FORM's CARD OF 'laws.FnExactMakePuzzle'. -/
def fnExactMakePuzzleUptoCard : Claim7 := { stood := { row := fnExactMakePuzzleUptoRow, standIns := [], harness := (true, "b8581e5bfb763006be68aa046b59fc9c3f809c605b9c509507126b122a973c2c"), looks := true }, kinds := [], alts := [], laidByText := true, laidKinds := [.data, .pinned], laidTests := true, laidLooks := .later }
def FnExactMakePuzzleUptoCardSaid : Prop := Claim7.holds Tryd.pinned (.plain (OpenSpec.upto fnExactMakePuzzleSpec)) fnExactMakePuzzleUptoCard

/-- THE SECOND FORM's CARD OF 'laws.FnExactParsePuzzle'. -/
def fnExactParsePuzzleUptoCard : Claim7 := { stood := { row := fnExactParsePuzzleUptoRow, standIns := [], harness := (true, "b8581e5bfb763006be68aa046b59fc9c3f809c605b9c509507126b122a973c2c"), looks := true }, kinds := [], alts := [], laidByText := true, laidKinds := [.data, .data, .data, .data, .sentinel, .sentinel, .pinned], laidTests := true, laidLooks := .later }
def FnExactParsePuzzleUptoCardSaid : Prop := Claim7.holds Tryd.pinned (.plain (OpenSpec.upto fnExactParsePuzzleSpec)) fnExactParsePuzzleUptoCard
end Rows
end Go.Proofs.YtjhmocngcnnfdaaDoor
