/-
  DERIVED. GIVEN WITH THE SEED: THE CARDS: each row of YthkpjdgmpjhhmaaGreatDoorRows.lean that lists a variable, with what it lists TIED to the program's text (the seventh form; the later family's looks); each row that meets fmt, with fmt's text TOLD by the authors' own Lean function (tested against real Go, not proved from fmt's source: count such statements apart). THE CARD IS WHAT COUNTS. Prove the row's statement (the work); the ties are given (YthkpjdgmpjhhmaaGreatDoorTie.lean); close each card by the builder's one call (the guide's Derived/Test/ToyasCard.lean, 'card_holds'). Laid BY PROGRAM, IN A SANDBOX (cutbox-door.mjs). By AI agents, Wed Nov 11 2026. No macro, syntax, notation, axiom, sorry.
-/
import Derived.Test.YthkpjdgmpjhhmaaGreatDoorRows
import GoSem.ClaimSeven
namespace Go.Proofs.YthkpjdgmpjhhmaaGreatDoor
namespace Rows

/-- THE TIED CARD OF 'yardarmlaw14.PrintLines'. -/
def printLinesCard : Claim7 := { stood := { row := printLinesRow, standIns := [], harness := (true, "5c812701659b2b3567937682a6f568789aab257ac259542199893ffa6c44c4b7"), looks := false }, kinds := [], alts := [], laidByText := true, laidKinds := [.data, .widerDeep, .data, .widerDeep, .widerDeep, .pinned], laidTests := true, laidLooks := .later }
def PrintLinesCardSaid : Prop := Claim7.holds Tryz.pinned (.plain (OpenSpec.ofChange printLinesSpec)) printLinesCard

/-- THE TIED CARD OF 'yardarmlaw14.PrintTells'. -/
def printTellsCard : Claim7 := { stood := { row := printTellsRow, standIns := [], harness := (true, "5c812701659b2b3567937682a6f568789aab257ac259542199893ffa6c44c4b7"), looks := false }, kinds := [], alts := [], laidByText := true, laidKinds := [.data, .widerDeep, .data, .widerDeep, .widerDeep, .pinned], laidTests := true, laidLooks := .later }
def PrintTellsCardSaid : Prop := Claim7.holds Tryz.pinned (.plain (OpenSpec.ofChange printTellsSpec)) printTellsCard

/-- THE TIED CARD OF 'yardarmlaw14.PrintCounts'. -/
def printCountsCard : Claim7 := { stood := { row := printCountsRow, standIns := [], harness := (true, "5c812701659b2b3567937682a6f568789aab257ac259542199893ffa6c44c4b7"), looks := false }, kinds := [], alts := [], laidByText := true, laidKinds := [.data, .widerDeep, .data, .widerDeep, .widerDeep, .pinned], laidTests := true, laidLooks := .later }
def PrintCountsCardSaid : Prop := Claim7.holds Tryz.pinned (.plain (OpenSpec.ofChange printCountsSpec)) printCountsCard

/-- THE SECOND FORM's CARD OF 'yardarmlaw14.PrintLines'. -/
def printLinesUptoCard : Claim7 := { stood := { row := printLinesUptoRow, standIns := [], harness := (true, "5c812701659b2b3567937682a6f568789aab257ac259542199893ffa6c44c4b7"), looks := false }, kinds := [], alts := [], laidByText := true, laidKinds := [.data, .widerDeep, .data, .widerDeep, .widerDeep, .pinned], laidTests := true, laidLooks := .later }
def PrintLinesUptoCardSaid : Prop := Claim7.holds Tryz.pinned (.plain (OpenSpec.upto printLinesSpec)) printLinesUptoCard

/-- THE SECOND FORM's CARD OF 'yardarmlaw14.PrintTells'. -/
def printTellsUptoCard : Claim7 := { stood := { row := printTellsUptoRow, standIns := [], harness := (true, "5c812701659b2b3567937682a6f568789aab257ac259542199893ffa6c44c4b7"), looks := false }, kinds := [], alts := [], laidByText := true, laidKinds := [.data, .widerDeep, .data, .widerDeep, .widerDeep, .pinned], laidTests := true, laidLooks := .later }
def PrintTellsUptoCardSaid : Prop := Claim7.holds Tryz.pinned (.plain (OpenSpec.upto printTellsSpec)) printTellsUptoCard

/-- THE SECOND FORM's CARD OF 'yardarmlaw14.PrintCounts'. -/
def printCountsUptoCard : Claim7 := { stood := { row := printCountsUptoRow, standIns := [], harness := (true, "5c812701659b2b3567937682a6f568789aab257ac259542199893ffa6c44c4b7"), looks := false }, kinds := [], alts := [], laidByText := true, laidKinds := [.data, .widerDeep, .data, .widerDeep, .widerDeep, .pinned], laidTests := true, laidLooks := .later }
def PrintCountsUptoCardSaid : Prop := Claim7.holds Tryz.pinned (.plain (OpenSpec.upto printCountsSpec)) printCountsUptoCard
end Rows
end Go.Proofs.YthkpjdgmpjhhmaaGreatDoor
