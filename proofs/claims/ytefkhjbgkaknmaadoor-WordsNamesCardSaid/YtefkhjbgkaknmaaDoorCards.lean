/-
  DERIVED. GIVEN WITH THE SEED: THE CARDS: each row of YtefkhjbgkaknmaaDoorRows.lean that lists a variable, with what it lists TIED to the program's text (the seventh form; the later family's looks); each row that meets fmt, with fmt's text TOLD by the authors' own Lean function (tested against real Go, not proved from fmt's source: count such statements apart). THE CARD IS WHAT COUNTS. Prove the row's statement (the work); the ties are given (YtefkhjbgkaknmaaDoorTie.lean); close each card by the builder's one call (the guide's Derived/Test/ToyasCard.lean, 'card_holds'). Laid BY PROGRAM, IN A SANDBOX (cutbox-door.mjs). By AI agents, Wed Nov 11 2026. No macro, syntax, notation, axiom, sorry.
-/
import Derived.Test.YtefkhjbgkaknmaaDoorRows
import GoSem.ClaimSeven
namespace Go.Proofs.YtefkhjbgkaknmaaDoor
namespace Rows

/-- THE TIED CARD OF 'suffragelaw02.WordsNumbers'. -/
def wordsNumbersCard : Claim7 := { stood := { row := wordsNumbersRow, standIns := [], harness := (true, "e0f06c044fac18e855a3c2e20bdb3e7ecebba549dba44120ced7290182fbfd3a"), looks := true }, kinds := [], alts := [], laidByText := true, laidKinds := [.data, .data, .data, .sentinel, .sentinel], laidTests := true, laidLooks := .later }
def WordsNumbersCardSaid : Prop := Claim7.holds Tryd.pinned (.plain (OpenSpec.ofChange wordsNumbersSpec)) wordsNumbersCard

/-- THE TIED CARD OF 'suffragelaw02.WordsCounts'. -/
def wordsCountsCard : Claim7 := { stood := { row := wordsCountsRow, standIns := [], harness := (true, "e0f06c044fac18e855a3c2e20bdb3e7ecebba549dba44120ced7290182fbfd3a"), looks := true }, kinds := [], alts := [], laidByText := true, laidKinds := [.data, .data, .data, .sentinel, .sentinel], laidTests := true, laidLooks := .later }
def WordsCountsCardSaid : Prop := Claim7.holds Tryd.pinned (.plain (OpenSpec.ofChange wordsCountsSpec)) wordsCountsCard

/-- THE TIED CARD OF 'suffragelaw02.WordsRows'. -/
def wordsRowsCard : Claim7 := { stood := { row := wordsRowsRow, standIns := [], harness := (true, "e0f06c044fac18e855a3c2e20bdb3e7ecebba549dba44120ced7290182fbfd3a"), looks := true }, kinds := [], alts := [], laidByText := true, laidKinds := [.data, .data, .data, .sentinel, .sentinel], laidTests := true, laidLooks := .later }
def WordsRowsCardSaid : Prop := Claim7.holds Tryd.pinned (.plain (OpenSpec.ofChange wordsRowsSpec)) wordsRowsCard

/-- THE TIED CARD OF 'suffragelaw02.WordsBack'. -/
def wordsBackCard : Claim7 := { stood := { row := wordsBackRow, standIns := [], harness := (true, "e0f06c044fac18e855a3c2e20bdb3e7ecebba549dba44120ced7290182fbfd3a"), looks := true }, kinds := [], alts := [], laidByText := true, laidKinds := [.data, .data, .data, .sentinel, .sentinel], laidTests := true, laidLooks := .later }
def WordsBackCardSaid : Prop := Claim7.holds Tryd.pinned (.plain (OpenSpec.ofChange wordsBackSpec)) wordsBackCard

/-- THE TIED CARD OF 'suffragelaw02.WordsWhole'. -/
def wordsWholeCard : Claim7 := { stood := { row := wordsWholeRow, standIns := [], harness := (true, "e0f06c044fac18e855a3c2e20bdb3e7ecebba549dba44120ced7290182fbfd3a"), looks := true }, kinds := [], alts := [], laidByText := true, laidKinds := [.data, .data, .data, .sentinel, .sentinel], laidTests := true, laidLooks := .later }
def WordsWholeCardSaid : Prop := Claim7.holds Tryd.pinned (.plain (OpenSpec.ofChange wordsWholeSpec)) wordsWholeCard

/-- THE TIED CARD OF 'suffragelaw02.WordsNames'. -/
def wordsNamesCard : Claim7 := { stood := { row := wordsNamesRow, standIns := [], harness := (true, "e0f06c044fac18e855a3c2e20bdb3e7ecebba549dba44120ced7290182fbfd3a"), looks := true }, kinds := [], alts := [], laidByText := true, laidKinds := [.data, .data, .data, .sentinel, .sentinel], laidTests := true, laidLooks := .later }
def WordsNamesCardSaid : Prop := Claim7.holds Tryd.pinned (.plain (OpenSpec.ofChange wordsNamesSpec)) wordsNamesCard

/-- THE SECOND FORM's CARD OF 'suffragelaw02.WordsNumbers'. -/
def wordsNumbersUptoCard : Claim7 := { stood := { row := wordsNumbersUptoRow, standIns := [], harness := (true, "e0f06c044fac18e855a3c2e20bdb3e7ecebba549dba44120ced7290182fbfd3a"), looks := true }, kinds := [], alts := [], laidByText := true, laidKinds := [.data, .data, .data, .sentinel, .sentinel], laidTests := true, laidLooks := .later }
def WordsNumbersUptoCardSaid : Prop := Claim7.holds Tryd.pinned (.plain (OpenSpec.upto wordsNumbersSpec)) wordsNumbersUptoCard

/-- THE SECOND FORM's CARD OF 'suffragelaw02.WordsCounts'. -/
def wordsCountsUptoCard : Claim7 := { stood := { row := wordsCountsUptoRow, standIns := [], harness := (true, "e0f06c044fac18e855a3c2e20bdb3e7ecebba549dba44120ced7290182fbfd3a"), looks := true }, kinds := [], alts := [], laidByText := true, laidKinds := [.data, .data, .data, .sentinel, .sentinel], laidTests := true, laidLooks := .later }
def WordsCountsUptoCardSaid : Prop := Claim7.holds Tryd.pinned (.plain (OpenSpec.upto wordsCountsSpec)) wordsCountsUptoCard

/-- THE SECOND FORM's CARD OF 'suffragelaw02.WordsRows'. -/
def wordsRowsUptoCard : Claim7 := { stood := { row := wordsRowsUptoRow, standIns := [], harness := (true, "e0f06c044fac18e855a3c2e20bdb3e7ecebba549dba44120ced7290182fbfd3a"), looks := true }, kinds := [], alts := [], laidByText := true, laidKinds := [.data, .data, .data, .sentinel, .sentinel], laidTests := true, laidLooks := .later }
def WordsRowsUptoCardSaid : Prop := Claim7.holds Tryd.pinned (.plain (OpenSpec.upto wordsRowsSpec)) wordsRowsUptoCard

/-- THE SECOND FORM's CARD OF 'suffragelaw02.WordsBack'. -/
def wordsBackUptoCard : Claim7 := { stood := { row := wordsBackUptoRow, standIns := [], harness := (true, "e0f06c044fac18e855a3c2e20bdb3e7ecebba549dba44120ced7290182fbfd3a"), looks := true }, kinds := [], alts := [], laidByText := true, laidKinds := [.data, .data, .data, .sentinel, .sentinel], laidTests := true, laidLooks := .later }
def WordsBackUptoCardSaid : Prop := Claim7.holds Tryd.pinned (.plain (OpenSpec.upto wordsBackSpec)) wordsBackUptoCard

/-- THE SECOND FORM's CARD OF 'suffragelaw02.WordsWhole'. -/
def wordsWholeUptoCard : Claim7 := { stood := { row := wordsWholeUptoRow, standIns := [], harness := (true, "e0f06c044fac18e855a3c2e20bdb3e7ecebba549dba44120ced7290182fbfd3a"), looks := true }, kinds := [], alts := [], laidByText := true, laidKinds := [.data, .data, .data, .sentinel, .sentinel], laidTests := true, laidLooks := .later }
def WordsWholeUptoCardSaid : Prop := Claim7.holds Tryd.pinned (.plain (OpenSpec.upto wordsWholeSpec)) wordsWholeUptoCard

/-- THE SECOND FORM's CARD OF 'suffragelaw02.WordsNames'. -/
def wordsNamesUptoCard : Claim7 := { stood := { row := wordsNamesUptoRow, standIns := [], harness := (true, "e0f06c044fac18e855a3c2e20bdb3e7ecebba549dba44120ced7290182fbfd3a"), looks := true }, kinds := [], alts := [], laidByText := true, laidKinds := [.data, .data, .data, .sentinel, .sentinel], laidTests := true, laidLooks := .later }
def WordsNamesUptoCardSaid : Prop := Claim7.holds Tryd.pinned (.plain (OpenSpec.upto wordsNamesSpec)) wordsNamesUptoCard
end Rows
end Go.Proofs.YtefkhjbgkaknmaaDoor
