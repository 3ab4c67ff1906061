/-
  DERIVED. GIVEN WITH THE SEED: THE CARDS: each row of YthdpangjphphjaaGreatDoorRows.lean that lists a variable, with what it lists TIED to the program's text (the seventh form; the later family's looks); each row that meets fmt, with fmt's text TOLD by the authors' own Lean function (tested against real Go, not proved from fmt's source: count such statements apart). THE CARD IS WHAT COUNTS. Prove the row's statement (the work); the ties are given (YthdpangjphphjaaGreatDoorTie.lean); close each card by the builder's one call (the guide's Derived/Test/ToyasCard.lean, 'card_holds'). Laid BY PROGRAM, IN A SANDBOX (cutbox-door.mjs). By AI agents, Wed Nov 11 2026. No macro, syntax, notation, axiom, sorry.
-/
import Derived.Test.YthdpangjphphjaaGreatDoorRows
import GoSem.ClaimSeven
namespace Go.Proofs.YthdpangjphphjaaGreatDoor
namespace Rows

/-- THE TIED CARD OF 'yardarmlaw12.LineReads'. -/
def lineReadsCard : Claim7 := { stood := { row := lineReadsRow, standIns := [], harness := (true, "0a826e49966a2923b151c7eca99c4e200333658364c3fdc7b876e951d4723087"), looks := true }, kinds := [], alts := [], laidByText := true, laidKinds := [.data, .data, .data, .data, .sentinel, .sentinel, .widerDeep, .widerDeep, .widerDeep, .pinned], laidTests := true, laidLooks := .later }
def LineReadsCardSaid : Prop := Claim7.holds Tryz.pinned (.plain (OpenSpec.ofChange lineReadsSpec)) lineReadsCard

/-- THE TIED CARD OF 'yardarmlaw12.LineMay'. -/
def lineMayCard : Claim7 := { stood := { row := lineMayRow, standIns := [], harness := (true, "0a826e49966a2923b151c7eca99c4e200333658364c3fdc7b876e951d4723087"), looks := true }, kinds := [], alts := [], laidByText := true, laidKinds := [.data, .data, .data, .data, .sentinel, .sentinel, .widerDeep, .widerDeep, .widerDeep, .pinned], laidTests := true, laidLooks := .later }
def LineMayCardSaid : Prop := Claim7.holds Tryz.pinned (.plain (OpenSpec.ofChange lineMaySpec)) lineMayCard

/-- THE TIED CARD OF 'yardarmlaw12.LineFirst'. -/
def lineFirstCard : Claim7 := { stood := { row := lineFirstRow, standIns := [], harness := (true, "0a826e49966a2923b151c7eca99c4e200333658364c3fdc7b876e951d4723087"), looks := true }, kinds := [], alts := [], laidByText := true, laidKinds := [.data, .data, .data, .data, .sentinel, .sentinel, .widerDeep, .widerDeep, .widerDeep, .pinned], laidTests := true, laidLooks := .later }
def LineFirstCardSaid : Prop := Claim7.holds Tryz.pinned (.plain (OpenSpec.ofChange lineFirstSpec)) lineFirstCard

/-- THE TIED CARD OF 'yardarmlaw12.LineBack'. -/
def lineBackCard : Claim7 := { stood := { row := lineBackRow, standIns := [], harness := (true, "0a826e49966a2923b151c7eca99c4e200333658364c3fdc7b876e951d4723087"), looks := true }, kinds := [], alts := [], laidByText := true, laidKinds := [.data, .data, .data, .data, .sentinel, .sentinel, .widerDeep, .widerDeep, .widerDeep, .pinned], laidTests := true, laidLooks := .later }
def LineBackCardSaid : Prop := Claim7.holds Tryz.pinned (.plain (OpenSpec.ofChange lineBackSpec)) lineBackCard

/-- THE TIED CARD OF 'yardarmlaw12.LineSpaces'. -/
def lineSpacesCard : Claim7 := { stood := { row := lineSpacesRow, standIns := [], harness := (true, "0a826e49966a2923b151c7eca99c4e200333658364c3fdc7b876e951d4723087"), looks := true }, kinds := [], alts := [], laidByText := true, laidKinds := [.data, .data, .data, .data, .sentinel, .sentinel, .widerDeep, .widerDeep, .widerDeep, .pinned], laidTests := true, laidLooks := .later }
def LineSpacesCardSaid : Prop := Claim7.holds Tryz.pinned (.plain (OpenSpec.ofChange lineSpacesSpec)) lineSpacesCard

/-- THE SECOND FORM's CARD OF 'yardarmlaw12.LineReads'. -/
def lineReadsUptoCard : Claim7 := { stood := { row := lineReadsUptoRow, standIns := [], harness := (true, "0a826e49966a2923b151c7eca99c4e200333658364c3fdc7b876e951d4723087"), looks := true }, kinds := [], alts := [], laidByText := true, laidKinds := [.data, .data, .data, .data, .sentinel, .sentinel, .widerDeep, .widerDeep, .widerDeep, .pinned], laidTests := true, laidLooks := .later }
def LineReadsUptoCardSaid : Prop := Claim7.holds Tryz.pinned (.plain (OpenSpec.upto lineReadsSpec)) lineReadsUptoCard

/-- THE SECOND FORM's CARD OF 'yardarmlaw12.LineMay'. -/
def lineMayUptoCard : Claim7 := { stood := { row := lineMayUptoRow, standIns := [], harness := (true, "0a826e49966a2923b151c7eca99c4e200333658364c3fdc7b876e951d4723087"), looks := true }, kinds := [], alts := [], laidByText := true, laidKinds := [.data, .data, .data, .data, .sentinel, .sentinel, .widerDeep, .widerDeep, .widerDeep, .pinned], laidTests := true, laidLooks := .later }
def LineMayUptoCardSaid : Prop := Claim7.holds Tryz.pinned (.plain (OpenSpec.upto lineMaySpec)) lineMayUptoCard

/-- THE SECOND FORM's CARD OF 'yardarmlaw12.LineFirst'. -/
def lineFirstUptoCard : Claim7 := { stood := { row := lineFirstUptoRow, standIns := [], harness := (true, "0a826e49966a2923b151c7eca99c4e200333658364c3fdc7b876e951d4723087"), looks := true }, kinds := [], alts := [], laidByText := true, laidKinds := [.data, .data, .data, .data, .sentinel, .sentinel, .widerDeep, .widerDeep, .widerDeep, .pinned], laidTests := true, laidLooks := .later }
def LineFirstUptoCardSaid : Prop := Claim7.holds Tryz.pinned (.plain (OpenSpec.upto lineFirstSpec)) lineFirstUptoCard

/-- THE SECOND FORM's CARD OF 'yardarmlaw12.LineBack'. -/
def lineBackUptoCard : Claim7 := { stood := { row := lineBackUptoRow, standIns := [], harness := (true, "0a826e49966a2923b151c7eca99c4e200333658364c3fdc7b876e951d4723087"), looks := true }, kinds := [], alts := [], laidByText := true, laidKinds := [.data, .data, .data, .data, .sentinel, .sentinel, .widerDeep, .widerDeep, .widerDeep, .pinned], laidTests := true, laidLooks := .later }
def LineBackUptoCardSaid : Prop := Claim7.holds Tryz.pinned (.plain (OpenSpec.upto lineBackSpec)) lineBackUptoCard

/-- THE SECOND FORM's CARD OF 'yardarmlaw12.LineSpaces'. -/
def lineSpacesUptoCard : Claim7 := { stood := { row := lineSpacesUptoRow, standIns := [], harness := (true, "0a826e49966a2923b151c7eca99c4e200333658364c3fdc7b876e951d4723087"), looks := true }, kinds := [], alts := [], laidByText := true, laidKinds := [.data, .data, .data, .data, .sentinel, .sentinel, .widerDeep, .widerDeep, .widerDeep, .pinned], laidTests := true, laidLooks := .later }
def LineSpacesUptoCardSaid : Prop := Claim7.holds Tryz.pinned (.plain (OpenSpec.upto lineSpacesSpec)) lineSpacesUptoCard
end Rows
end Go.Proofs.YthdpangjphphjaaGreatDoor
