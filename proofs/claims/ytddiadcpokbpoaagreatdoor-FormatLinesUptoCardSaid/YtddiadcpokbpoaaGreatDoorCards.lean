/-
  DERIVED. GIVEN WITH THE SEED: THE CARDS: each row of YtddiadcpokbpoaaGreatDoorRows.lean that lists a variable, with what it lists TIED to the program's text (the seventh form; the later family's looks); each row that meets fmt, with fmt's text TOLD by the authors' own Lean function (tested against real Go, not proved from fmt's source: count such statements apart). THE CARD IS WHAT COUNTS. Prove the row's statement (the work); the ties are given (YtddiadcpokbpoaaGreatDoorTie.lean); close each card by the builder's one call (the guide's Derived/Test/ToyasCard.lean, 'card_holds'). Laid BY PROGRAM, IN A SANDBOX (cutbox-door.mjs). By AI agents, Wed Nov 11 2026. No macro, syntax, notation, axiom, sorry.
-/
import Derived.Test.YtddiadcpokbpoaaGreatDoorRows
import GoSem.ClaimSeven
namespace Go.Proofs.YtddiadcpokbpoaaGreatDoor
namespace Rows

/-- THE TIED CARD OF 'yardarmlaw13.FormatLines'. -/
def formatLinesCard : Claim7 := { stood := { row := formatLinesRow, standIns := [], harness := (true, "cf5c21f43ab1fd443ec24d6916d72d528f0d8cd028eb61f3cad8a3f99a2c6dbd"), looks := true }, kinds := [], alts := [], laidByText := true, laidKinds := [.data, .data, .data, .data, .sentinel, .sentinel, .widerDeep, .data, .widerDeep, .widerDeep, .data, .pinned], laidTests := true, laidLooks := .later }
def FormatLinesCardSaid : Prop := Claim7.holds Tryz.pinned (.plain (OpenSpec.ofChange formatLinesSpec)) formatLinesCard

/-- THE SECOND FORM's CARD OF 'yardarmlaw13.FormatLines'. -/
def formatLinesUptoCard : Claim7 := { stood := { row := formatLinesUptoRow, standIns := [], harness := (true, "cf5c21f43ab1fd443ec24d6916d72d528f0d8cd028eb61f3cad8a3f99a2c6dbd"), looks := true }, kinds := [], alts := [], laidByText := true, laidKinds := [.data, .data, .data, .data, .sentinel, .sentinel, .widerDeep, .data, .widerDeep, .widerDeep, .data, .pinned], laidTests := true, laidLooks := .later }
def FormatLinesUptoCardSaid : Prop := Claim7.holds Tryz.pinned (.plain (OpenSpec.upto formatLinesSpec)) formatLinesUptoCard
end Rows
end Go.Proofs.YtddiadcpokbpoaaGreatDoor
