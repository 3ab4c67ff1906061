/-
  DERIVED. GIVEN WITH THE SEED: THE CARDS: each row of YtnhnhmeogckgpaaGreatDoorRows.lean that lists a variable, with what it lists TIED to the program's text (the seventh form; the later family's looks); each row that meets fmt, with fmt's text TOLD by the authors' own Lean function (tested against real Go, not proved from fmt's source: count such statements apart). THE CARD IS WHAT COUNTS. Prove the row's statement (the work); the ties are given (YtnhnhmeogckgpaaGreatDoorTie.lean); close each card by the builder's one call (the guide's Derived/Test/ToyasCard.lean, 'card_holds'). Laid BY PROGRAM, IN A SANDBOX (cutbox-door.mjs). By AI agents, Wed Nov 11 2026. No macro, syntax, notation, axiom, sorry.
-/
import Derived.Test.YtnhnhmeogckgpaaGreatDoorRows
import GoSem.ClaimSeven
namespace Go.Proofs.YtnhnhmeogckgpaaGreatDoor
namespace Rows

/-- THE TIED CARD OF 'yardarmlaw13.FormatReads'. -/
def formatReadsCard : Claim7 := { stood := { row := formatReadsRow, standIns := [], harness := (true, "220e7c4e89349906da7d7f2c6cdfbaef06b83acb7df099c0d11c9b010c8c607e"), looks := true }, kinds := [], alts := [], laidByText := true, laidKinds := [.data, .data, .data, .data, .sentinel, .sentinel, .widerDeep, .data, .widerDeep, .widerDeep, .data, .pinned], laidTests := true, laidLooks := .later }
def FormatReadsCardSaid : Prop := Claim7.holds Tryz.pinned (.plain (OpenSpec.ofChange formatReadsSpec)) formatReadsCard

/-- THE TIED CARD OF 'yardarmlaw13.FormatLines'. -/
def formatLinesCard : Claim7 := { stood := { row := formatLinesRow, standIns := [], harness := (true, "220e7c4e89349906da7d7f2c6cdfbaef06b83acb7df099c0d11c9b010c8c607e"), looks := true }, kinds := [], alts := [], laidByText := true, laidKinds := [.data, .data, .data, .data, .sentinel, .sentinel, .widerDeep, .data, .widerDeep, .widerDeep, .data, .pinned], laidTests := true, laidLooks := .later }
def FormatLinesCardSaid : Prop := Claim7.holds Tryz.pinned (.plain (OpenSpec.ofChange formatLinesSpec)) formatLinesCard

/-- THE TIED CARD OF 'yardarmlaw13.FormatMay'. -/
def formatMayCard : Claim7 := { stood := { row := formatMayRow, standIns := [], harness := (true, "220e7c4e89349906da7d7f2c6cdfbaef06b83acb7df099c0d11c9b010c8c607e"), looks := true }, kinds := [], alts := [], laidByText := true, laidKinds := [.data, .data, .data, .data, .sentinel, .sentinel, .widerDeep, .data, .widerDeep, .widerDeep, .data, .pinned], laidTests := true, laidLooks := .later }
def FormatMayCardSaid : Prop := Claim7.holds Tryz.pinned (.plain (OpenSpec.ofChange formatMaySpec)) formatMayCard

/-- THE TIED CARD OF 'yardarmlaw13.FormatApart'. -/
def formatApartCard : Claim7 := { stood := { row := formatApartRow, standIns := [], harness := (true, "220e7c4e89349906da7d7f2c6cdfbaef06b83acb7df099c0d11c9b010c8c607e"), looks := true }, kinds := [], alts := [], laidByText := true, laidKinds := [.data, .data, .data, .data, .sentinel, .sentinel, .widerDeep, .data, .widerDeep, .widerDeep, .data, .pinned], laidTests := true, laidLooks := .later }
def FormatApartCardSaid : Prop := Claim7.holds Tryz.pinned (.plain (OpenSpec.ofChange formatApartSpec)) formatApartCard

/-- THE TIED CARD OF 'yardarmlaw13.FormatTexts'. -/
def formatTextsCard : Claim7 := { stood := { row := formatTextsRow, standIns := [], harness := (true, "220e7c4e89349906da7d7f2c6cdfbaef06b83acb7df099c0d11c9b010c8c607e"), looks := true }, kinds := [], alts := [], laidByText := true, laidKinds := [.data, .data, .data, .data, .sentinel, .sentinel, .widerDeep, .data, .widerDeep, .widerDeep, .data, .pinned], laidTests := true, laidLooks := .later }
def FormatTextsCardSaid : Prop := Claim7.holds Tryz.pinned (.plain (OpenSpec.ofChange formatTextsSpec)) formatTextsCard

/-- THE TIED CARD OF 'yardarmlaw14.PrintText'. -/
def printTextCard : Claim7 := { stood := { row := printTextRow, standIns := [], harness := (true, "220e7c4e89349906da7d7f2c6cdfbaef06b83acb7df099c0d11c9b010c8c607e"), looks := true }, kinds := [], alts := [], laidByText := true, laidKinds := [.data, .data, .data, .data, .sentinel, .sentinel, .widerDeep, .data, .widerDeep, .widerDeep, .data, .pinned], laidTests := true, laidLooks := .later }
def PrintTextCardSaid : Prop := Claim7.holds Tryz.pinned (.plain (OpenSpec.ofChange printTextSpec)) printTextCard

/-- THE TIED CARD OF 'yardarmlaw14.PrintBack'. -/
def printBackCard : Claim7 := { stood := { row := printBackRow, standIns := [], harness := (true, "220e7c4e89349906da7d7f2c6cdfbaef06b83acb7df099c0d11c9b010c8c607e"), looks := true }, kinds := [], alts := [], laidByText := true, laidKinds := [.data, .data, .data, .data, .sentinel, .sentinel, .widerDeep, .data, .widerDeep, .widerDeep, .data, .pinned], laidTests := true, laidLooks := .later }
def PrintBackCardSaid : Prop := Claim7.holds Tryz.pinned (.plain (OpenSpec.ofChange printBackSpec)) printBackCard

/-- THE SECOND FORM's CARD OF 'yardarmlaw13.FormatReads'. -/
def formatReadsUptoCard : Claim7 := { stood := { row := formatReadsUptoRow, standIns := [], harness := (true, "220e7c4e89349906da7d7f2c6cdfbaef06b83acb7df099c0d11c9b010c8c607e"), looks := true }, kinds := [], alts := [], laidByText := true, laidKinds := [.data, .data, .data, .data, .sentinel, .sentinel, .widerDeep, .data, .widerDeep, .widerDeep, .data, .pinned], laidTests := true, laidLooks := .later }
def FormatReadsUptoCardSaid : Prop := Claim7.holds Tryz.pinned (.plain (OpenSpec.upto formatReadsSpec)) formatReadsUptoCard

/-- THE SECOND FORM's CARD OF 'yardarmlaw13.FormatLines'. -/
def formatLinesUptoCard : Claim7 := { stood := { row := formatLinesUptoRow, standIns := [], harness := (true, "220e7c4e89349906da7d7f2c6cdfbaef06b83acb7df099c0d11c9b010c8c607e"), looks := true }, kinds := [], alts := [], laidByText := true, laidKinds := [.data, .data, .data, .data, .sentinel, .sentinel, .widerDeep, .data, .widerDeep, .widerDeep, .data, .pinned], laidTests := true, laidLooks := .later }
def FormatLinesUptoCardSaid : Prop := Claim7.holds Tryz.pinned (.plain (OpenSpec.upto formatLinesSpec)) formatLinesUptoCard

/-- THE SECOND FORM's CARD OF 'yardarmlaw13.FormatMay'. -/
def formatMayUptoCard : Claim7 := { stood := { row := formatMayUptoRow, standIns := [], harness := (true, "220e7c4e89349906da7d7f2c6cdfbaef06b83acb7df099c0d11c9b010c8c607e"), looks := true }, kinds := [], alts := [], laidByText := true, laidKinds := [.data, .data, .data, .data, .sentinel, .sentinel, .widerDeep, .data, .widerDeep, .widerDeep, .data, .pinned], laidTests := true, laidLooks := .later }
def FormatMayUptoCardSaid : Prop := Claim7.holds Tryz.pinned (.plain (OpenSpec.upto formatMaySpec)) formatMayUptoCard

/-- THE SECOND FORM's CARD OF 'yardarmlaw13.FormatApart'. -/
def formatApartUptoCard : Claim7 := { stood := { row := formatApartUptoRow, standIns := [], harness := (true, "220e7c4e89349906da7d7f2c6cdfbaef06b83acb7df099c0d11c9b010c8c607e"), looks := true }, kinds := [], alts := [], laidByText := true, laidKinds := [.data, .data, .data, .data, .sentinel, .sentinel, .widerDeep, .data, .widerDeep, .widerDeep, .data, .pinned], laidTests := true, laidLooks := .later }
def FormatApartUptoCardSaid : Prop := Claim7.holds Tryz.pinned (.plain (OpenSpec.upto formatApartSpec)) formatApartUptoCard

/-- THE SECOND FORM's CARD OF 'yardarmlaw13.FormatTexts'. -/
def formatTextsUptoCard : Claim7 := { stood := { row := formatTextsUptoRow, standIns := [], harness := (true, "220e7c4e89349906da7d7f2c6cdfbaef06b83acb7df099c0d11c9b010c8c607e"), looks := true }, kinds := [], alts := [], laidByText := true, laidKinds := [.data, .data, .data, .data, .sentinel, .sentinel, .widerDeep, .data, .widerDeep, .widerDeep, .data, .pinned], laidTests := true, laidLooks := .later }
def FormatTextsUptoCardSaid : Prop := Claim7.holds Tryz.pinned (.plain (OpenSpec.upto formatTextsSpec)) formatTextsUptoCard

/-- THE SECOND FORM's CARD OF 'yardarmlaw14.PrintText'. -/
def printTextUptoCard : Claim7 := { stood := { row := printTextUptoRow, standIns := [], harness := (true, "220e7c4e89349906da7d7f2c6cdfbaef06b83acb7df099c0d11c9b010c8c607e"), looks := true }, kinds := [], alts := [], laidByText := true, laidKinds := [.data, .data, .data, .data, .sentinel, .sentinel, .widerDeep, .data, .widerDeep, .widerDeep, .data, .pinned], laidTests := true, laidLooks := .later }
def PrintTextUptoCardSaid : Prop := Claim7.holds Tryz.pinned (.plain (OpenSpec.upto printTextSpec)) printTextUptoCard

/-- THE SECOND FORM's CARD OF 'yardarmlaw14.PrintBack'. -/
def printBackUptoCard : Claim7 := { stood := { row := printBackUptoRow, standIns := [], harness := (true, "220e7c4e89349906da7d7f2c6cdfbaef06b83acb7df099c0d11c9b010c8c607e"), looks := true }, kinds := [], alts := [], laidByText := true, laidKinds := [.data, .data, .data, .data, .sentinel, .sentinel, .widerDeep, .data, .widerDeep, .widerDeep, .data, .pinned], laidTests := true, laidLooks := .later }
def PrintBackUptoCardSaid : Prop := Claim7.holds Tryz.pinned (.plain (OpenSpec.upto printBackSpec)) printBackUptoCard
end Rows
end Go.Proofs.YtnhnhmeogckgpaaGreatDoor
