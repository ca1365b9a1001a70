/-
  DERIVED. GIVEN WITH THE SEED: THE CARDS: each row of YtnhfbabenifbkaaGreatDoorRows.lean that lists a variable, with what it lists TIED to the program's text (the seventh form; the later family's looks); each row that meets fmt, with fmt's text TOLD by the authors' own Lean function (tested against real Go, not proved from fmt's source: count such statements apart). THE CARD IS WHAT COUNTS. Prove the row's statement (the work); the ties are given (YtnhfbabenifbkaaGreatDoorTie.lean); close each card by the builder's one call (the guide's Derived/Test/ToyasCard.lean, 'card_holds'). Laid BY PROGRAM, IN A SANDBOX (cutbox-door.mjs). By AI agents, Wed Nov 11 2026. No macro, syntax, notation, axiom, sorry.
-/
import Derived.Test.YtnhfbabenifbkaaGreatDoorRows
import GoSem.ClaimSeven
namespace Go.Proofs.YtnhfbabenifbkaaGreatDoor
namespace Rows

/-- THE TIED CARD OF 'suffragelaw08.BallotTells'. -/
def ballotTellsCard : Claim7 := { stood := { row := ballotTellsRow, standIns := [], harness := (true, "710d279751a151f8106fd85d9df26d506fd5a98a2e35c45650538464e82d3e37"), looks := true }, kinds := [], alts := [], laidByText := true, laidKinds := [.data, .data, .data, .data, .sentinel, .sentinel, .pinned], laidTests := true, laidLooks := .later }
def BallotTellsCardSaid : Prop := Claim7.holds Tryz.pinned (.plain (OpenSpec.ofChange ballotTellsSpec)) ballotTellsCard

/-- THE TIED CARD OF 'suffragelaw08.BallotKeeps'. -/
def ballotKeepsCard : Claim7 := { stood := { row := ballotKeepsRow, standIns := [], harness := (true, "710d279751a151f8106fd85d9df26d506fd5a98a2e35c45650538464e82d3e37"), looks := true }, kinds := [], alts := [], laidByText := true, laidKinds := [.data, .data, .data, .data, .sentinel, .sentinel, .pinned], laidTests := true, laidLooks := .later }
def BallotKeepsCardSaid : Prop := Claim7.holds Tryz.pinned (.plain (OpenSpec.ofChange ballotKeepsSpec)) ballotKeepsCard

/-- THE TIED CARD OF 'suffragelaw08.BallotKept'. -/
def ballotKeptCard : Claim7 := { stood := { row := ballotKeptRow, standIns := [], harness := (true, "710d279751a151f8106fd85d9df26d506fd5a98a2e35c45650538464e82d3e37"), looks := true }, kinds := [], alts := [], laidByText := true, laidKinds := [.data, .data, .data, .data, .sentinel, .sentinel, .pinned], laidTests := true, laidLooks := .later }
def BallotKeptCardSaid : Prop := Claim7.holds Tryz.pinned (.plain (OpenSpec.ofChange ballotKeptSpec)) ballotKeptCard

/-- THE TIED CARD OF 'suffragelaw08.BallotRenames'. -/
def ballotRenamesCard : Claim7 := { stood := { row := ballotRenamesRow, standIns := [], harness := (true, "710d279751a151f8106fd85d9df26d506fd5a98a2e35c45650538464e82d3e37"), looks := true }, kinds := [], alts := [], laidByText := true, laidKinds := [.data, .data, .data, .data, .sentinel, .sentinel, .pinned], laidTests := true, laidLooks := .later }
def BallotRenamesCardSaid : Prop := Claim7.holds Tryz.pinned (.plain (OpenSpec.ofChange ballotRenamesSpec)) ballotRenamesCard

/-- THE TIED CARD OF 'suffragelaw08.BallotOrder'. -/
def ballotOrderCard : Claim7 := { stood := { row := ballotOrderRow, standIns := [], harness := (true, "710d279751a151f8106fd85d9df26d506fd5a98a2e35c45650538464e82d3e37"), looks := true }, kinds := [], alts := [], laidByText := true, laidKinds := [.data, .data, .data, .data, .sentinel, .sentinel, .pinned], laidTests := true, laidLooks := .later }
def BallotOrderCardSaid : Prop := Claim7.holds Tryz.pinned (.plain (OpenSpec.ofChange ballotOrderSpec)) ballotOrderCard

/-- THE TIED CARD OF 'suffragelaw08.BallotText'. -/
def ballotTextCard : Claim7 := { stood := { row := ballotTextRow, standIns := [], harness := (true, "710d279751a151f8106fd85d9df26d506fd5a98a2e35c45650538464e82d3e37"), looks := true }, kinds := [], alts := [], laidByText := true, laidKinds := [.data, .data, .data, .data, .sentinel, .sentinel, .pinned], laidTests := true, laidLooks := .later }
def BallotTextCardSaid : Prop := Claim7.holds Tryz.pinned (.plain (OpenSpec.ofChange ballotTextSpec)) ballotTextCard

/-- THE SECOND FORM's CARD OF 'suffragelaw08.BallotTells'. -/
def ballotTellsUptoCard : Claim7 := { stood := { row := ballotTellsUptoRow, standIns := [], harness := (true, "710d279751a151f8106fd85d9df26d506fd5a98a2e35c45650538464e82d3e37"), looks := true }, kinds := [], alts := [], laidByText := true, laidKinds := [.data, .data, .data, .data, .sentinel, .sentinel, .pinned], laidTests := true, laidLooks := .later }
def BallotTellsUptoCardSaid : Prop := Claim7.holds Tryz.pinned (.plain (OpenSpec.upto ballotTellsSpec)) ballotTellsUptoCard

/-- THE SECOND FORM's CARD OF 'suffragelaw08.BallotKeeps'. -/
def ballotKeepsUptoCard : Claim7 := { stood := { row := ballotKeepsUptoRow, standIns := [], harness := (true, "710d279751a151f8106fd85d9df26d506fd5a98a2e35c45650538464e82d3e37"), looks := true }, kinds := [], alts := [], laidByText := true, laidKinds := [.data, .data, .data, .data, .sentinel, .sentinel, .pinned], laidTests := true, laidLooks := .later }
def BallotKeepsUptoCardSaid : Prop := Claim7.holds Tryz.pinned (.plain (OpenSpec.upto ballotKeepsSpec)) ballotKeepsUptoCard

/-- THE SECOND FORM's CARD OF 'suffragelaw08.BallotKept'. -/
def ballotKeptUptoCard : Claim7 := { stood := { row := ballotKeptUptoRow, standIns := [], harness := (true, "710d279751a151f8106fd85d9df26d506fd5a98a2e35c45650538464e82d3e37"), looks := true }, kinds := [], alts := [], laidByText := true, laidKinds := [.data, .data, .data, .data, .sentinel, .sentinel, .pinned], laidTests := true, laidLooks := .later }
def BallotKeptUptoCardSaid : Prop := Claim7.holds Tryz.pinned (.plain (OpenSpec.upto ballotKeptSpec)) ballotKeptUptoCard

/-- THE SECOND FORM's CARD OF 'suffragelaw08.BallotRenames'. -/
def ballotRenamesUptoCard : Claim7 := { stood := { row := ballotRenamesUptoRow, standIns := [], harness := (true, "710d279751a151f8106fd85d9df26d506fd5a98a2e35c45650538464e82d3e37"), looks := true }, kinds := [], alts := [], laidByText := true, laidKinds := [.data, .data, .data, .data, .sentinel, .sentinel, .pinned], laidTests := true, laidLooks := .later }
def BallotRenamesUptoCardSaid : Prop := Claim7.holds Tryz.pinned (.plain (OpenSpec.upto ballotRenamesSpec)) ballotRenamesUptoCard

/-- THE SECOND FORM's CARD OF 'suffragelaw08.BallotOrder'. -/
def ballotOrderUptoCard : Claim7 := { stood := { row := ballotOrderUptoRow, standIns := [], harness := (true, "710d279751a151f8106fd85d9df26d506fd5a98a2e35c45650538464e82d3e37"), looks := true }, kinds := [], alts := [], laidByText := true, laidKinds := [.data, .data, .data, .data, .sentinel, .sentinel, .pinned], laidTests := true, laidLooks := .later }
def BallotOrderUptoCardSaid : Prop := Claim7.holds Tryz.pinned (.plain (OpenSpec.upto ballotOrderSpec)) ballotOrderUptoCard

/-- THE SECOND FORM's CARD OF 'suffragelaw08.BallotText'. -/
def ballotTextUptoCard : Claim7 := { stood := { row := ballotTextUptoRow, standIns := [], harness := (true, "710d279751a151f8106fd85d9df26d506fd5a98a2e35c45650538464e82d3e37"), looks := true }, kinds := [], alts := [], laidByText := true, laidKinds := [.data, .data, .data, .data, .sentinel, .sentinel, .pinned], laidTests := true, laidLooks := .later }
def BallotTextUptoCardSaid : Prop := Claim7.holds Tryz.pinned (.plain (OpenSpec.upto ballotTextSpec)) ballotTextUptoCard
end Rows
end Go.Proofs.YtnhfbabenifbkaaGreatDoor
