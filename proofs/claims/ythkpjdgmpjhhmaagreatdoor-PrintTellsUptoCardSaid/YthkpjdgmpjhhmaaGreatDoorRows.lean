/-
  NARROWER THAN 'FOR EVERY INPUT', by the rows' own cells (each row's printed sentence says how): PrintLines: laid · PrintTells: laid · PrintCounts: laid.
  DERIVED. THE GIVEN ROWS OF THIS SEAT. 3 by the template 'for every input the law returns true; each argument reads behind the call as it read before'; 0 by the template 'total and deterministic' (their statements: YthkpjdgmpjhhmaaGreatDoorTotals.lean).
  GIVEN WITH THE SEED: the statements are not yours to turn. If you find one false, say at which input.
  Laid BY PROGRAM, IN A SANDBOX (cutbox-rows.mjs): the forced cells as the released guide's own fill.sh prints them over the translation 469921ce62ec9e64… (all of the seat's roots in one cut). By AI agents, Wed Nov 11 2026. No macro, syntax, notation, axiom, sorry.
-/
import Derived.Test.YthkpjdgmpjhhmaaGreatDoorChecked
import GoSem.PinnedTables
import GoSem.Claim
import GoSem.ClaimJoined
import GoSem.ClaimMapViews
import Derived.JoinedTies
import Derived.KernelRfl
namespace Go.Proofs.YthkpjdgmpjhhmaaGreatDoor
/- THE CELL 'sum', in the pinned program and in every row, IS THE sha256 OF THE DUMP (.gsa) THAT YthkpjdgmpjhhmaaGreatDoorProg.lean LOADS. Nothing in Lean hashes anything: it is a label: what it is worth is what the hold of that sum in a sandbox is worth. -/
noncomputable def Tryz.pinned : Pinned := { name := "ythkpjdgmpjhhmaagreatdoor", sum := "469921ce62ec9e64c72dde4a5a3f296f2ccda1e279456940f6eccbac8ae106c7", checked := Tryz.checked }
namespace Rows
def none {H : Type} : Left H := { results := [], args := [] }

/- WHAT THE LISTED PACKAGE-LEVEL VARIABLES READ AS WHEN THE CALL BEGINS. Each datum BY PROGRAM (the guide's laid-datum.mjs) off the statement by which the dump's own 'gosem.cut.vars' lays the variable. In a bare row this is a premise. The card (YthkpjdgmpjhhmaaGreatDoorCards.lean) ties it to the program's text. -/
def laid_unicode_utf8_acceptRanges {H : Type} : DataW H := .agg [.agg [.lit (.int .u8 128), .lit (.int .u8 191)], .agg [.lit (.int .u8 160), .lit (.int .u8 191)], .agg [.lit (.int .u8 128), .lit (.int .u8 159)], .agg [.lit (.int .u8 144), .lit (.int .u8 191)], .agg [.lit (.int .u8 128), .lit (.int .u8 143)], .agg [.lit (.int .u8 0), .lit (.int .u8 0)], .agg [.lit (.int .u8 0), .lit (.int .u8 0)], .agg [.lit (.int .u8 0), .lit (.int .u8 0)], .agg [.lit (.int .u8 0), .lit (.int .u8 0)], .agg [.lit (.int .u8 0), .lit (.int .u8 0)], .agg [.lit (.int .u8 0), .lit (.int .u8 0)], .agg [.lit (.int .u8 0), .lit (.int .u8 0)], .agg [.lit (.int .u8 0), .lit (.int .u8 0)], .agg [.lit (.int .u8 0), .lit (.int .u8 0)], .agg [.lit (.int .u8 0), .lit (.int .u8 0)], .agg [.lit (.int .u8 0), .lit (.int .u8 0)]]
def laid_yardarm_level_texts {H : Type} : DataW H := .agg [.lit (.string []), .lit (.string [49]), .lit (.string [50]), .lit (.string [50, 46, 57, 57]), .lit (.string [51])]
def laid_yardarm_history_limits {H : Type} : DataW H := .agg [.lit (.int .i64 300), .lit (.int .i64 60), .lit (.int .i64 300), .lit (.int .i64 60)]
def laid_yardarm_line_forms {H : Type} : DataW H := .agg [.agg [.lit (.string []), .lit (.int .i64 0), .lit (.int .i32 0)], .agg [.lit (.string [98, 101, 103, 105, 110]), .lit (.int .i64 2), .lit (.int .i32 108)], .agg [.lit (.string [119, 114, 105, 116, 101]), .lit (.int .i64 2), .lit (.int .i32 0)], .agg [.lit (.string [114, 101, 97, 100]), .lit (.int .i64 2), .lit (.int .i32 118)], .agg [.lit (.string [115, 99, 97, 110]), .lit (.int .i64 2), .lit (.int .i32 115)], .agg [.lit (.string [99, 111, 109, 109, 105, 116]), .lit (.int .i64 1), .lit (.int .i32 0)], .agg [.lit (.string [97, 98, 111, 114, 116]), .lit (.int .i64 1), .lit (.int .i32 0)], .agg [.lit (.string [111, 114, 100, 101, 114]), .lit (.int .i64 1), .lit (.int .i32 116)], .agg [.lit (.string [109, 97, 116, 99, 104]), .lit (.int .i64 2), .lit (.int .i32 109)], .agg [.lit (.string [119, 97, 110, 116]), .lit (.int .i64 1), .lit (.int .i32 103)]]
def laid_yardarm_line_guards {H : Type} : DataW H := .agg [.lit (.string [114, 121, 119]), .lit (.string [109, 114]), .lit (.string [109, 119]), .lit (.string [119, 102, 114])]
/-- One of Go's own tables, pinned by name: the form's constant. -/
def laid_unicode_utf8_first : DataW Unit := Go.Pinned.utf8First

/-- 'yardarmlaw14.PrintLines': WHATEVER THE INPUT: true; the input reads as it did. -/
def printLinesSpec : ChangeSpec := { name := "printLines", fn := fun _ => fun
  | [d] => { results := [.lit (.bool true)], args := [d] }
  | _ => none }
def printLinesRow : OpenClaim := { program := "ythkpjdgmpjhhmaagreatdoor", sum := "469921ce62ec9e64c72dde4a5a3f296f2ccda1e279456940f6eccbac8ae106c7", func := "yardarm/yardarmlaw14.PrintLines", spec := "printLines", inPlace := ["internal/abi.NoEscape", "internal/bytealg.MakeNoZero"], unfollowed := true, recurses := true, named := ["yardarm/history.limits", "unicode/utf8.first", "unicode/utf8.acceptRanges", "yardarm/line.forms", "yardarm/line.guards", "yardarm/level.texts"], plainKeys := false, apart := false, laid := [("unicode/utf8.acceptRanges", laid_unicode_utf8_acceptRanges), ("yardarm/level.texts", laid_yardarm_level_texts), ("yardarm/history.limits", laid_yardarm_history_limits), ("yardarm/line.forms", laid_yardarm_line_forms), ("yardarm/line.guards", laid_yardarm_line_guards), ("unicode/utf8.first", laid_unicode_utf8_first)] }
def PrintLinesSaid : Prop := printLinesRow.holds Tryz.pinned (OpenSpec.ofChange printLinesSpec)

/-- ITS FALSE NEIGHBOUR: 'it returns false'. Refute it at one input. -/
def printLinesWrong : ChangeSpec := { name := "printLines", fn := fun _ => fun
  | [d] => { results := [.lit (.bool false)], args := [d] }
  | _ => none }
def PrintLinesWrongFalsely : Prop := printLinesRow.holds Tryz.pinned (OpenSpec.ofChange printLinesWrong)

/-- 'yardarmlaw14.PrintTells': WHATEVER THE INPUT: true; the input reads as it did. -/
def printTellsSpec : ChangeSpec := { name := "printTells", fn := fun _ => fun
  | [d] => { results := [.lit (.bool true)], args := [d] }
  | _ => none }
def printTellsRow : OpenClaim := { program := "ythkpjdgmpjhhmaagreatdoor", sum := "469921ce62ec9e64c72dde4a5a3f296f2ccda1e279456940f6eccbac8ae106c7", func := "yardarm/yardarmlaw14.PrintTells", spec := "printTells", inPlace := ["internal/abi.NoEscape", "internal/bytealg.MakeNoZero"], unfollowed := true, recurses := true, named := ["yardarm/history.limits", "unicode/utf8.first", "unicode/utf8.acceptRanges", "yardarm/line.forms", "yardarm/line.guards", "yardarm/level.texts"], plainKeys := false, apart := false, laid := [("unicode/utf8.acceptRanges", laid_unicode_utf8_acceptRanges), ("yardarm/level.texts", laid_yardarm_level_texts), ("yardarm/history.limits", laid_yardarm_history_limits), ("yardarm/line.forms", laid_yardarm_line_forms), ("yardarm/line.guards", laid_yardarm_line_guards), ("unicode/utf8.first", laid_unicode_utf8_first)] }
def PrintTellsSaid : Prop := printTellsRow.holds Tryz.pinned (OpenSpec.ofChange printTellsSpec)

/-- ITS FALSE NEIGHBOUR: 'it returns false'. Refute it at one input. -/
def printTellsWrong : ChangeSpec := { name := "printTells", fn := fun _ => fun
  | [d] => { results := [.lit (.bool false)], args := [d] }
  | _ => none }
def PrintTellsWrongFalsely : Prop := printTellsRow.holds Tryz.pinned (OpenSpec.ofChange printTellsWrong)

/-- 'yardarmlaw14.PrintCounts': WHATEVER THE INPUT: true; the input reads as it did. -/
def printCountsSpec : ChangeSpec := { name := "printCounts", fn := fun _ => fun
  | [d] => { results := [.lit (.bool true)], args := [d] }
  | _ => none }
def printCountsRow : OpenClaim := { program := "ythkpjdgmpjhhmaagreatdoor", sum := "469921ce62ec9e64c72dde4a5a3f296f2ccda1e279456940f6eccbac8ae106c7", func := "yardarm/yardarmlaw14.PrintCounts", spec := "printCounts", inPlace := ["internal/abi.NoEscape", "internal/bytealg.MakeNoZero"], unfollowed := true, recurses := true, named := ["yardarm/history.limits", "unicode/utf8.first", "unicode/utf8.acceptRanges", "yardarm/line.forms", "yardarm/line.guards", "yardarm/level.texts"], plainKeys := false, apart := false, laid := [("unicode/utf8.acceptRanges", laid_unicode_utf8_acceptRanges), ("yardarm/level.texts", laid_yardarm_level_texts), ("yardarm/history.limits", laid_yardarm_history_limits), ("yardarm/line.forms", laid_yardarm_line_forms), ("yardarm/line.guards", laid_yardarm_line_guards), ("unicode/utf8.first", laid_unicode_utf8_first)] }
def PrintCountsSaid : Prop := printCountsRow.holds Tryz.pinned (OpenSpec.ofChange printCountsSpec)

/-- ITS FALSE NEIGHBOUR: 'it returns false'. Refute it at one input. -/
def printCountsWrong : ChangeSpec := { name := "printCounts", fn := fun _ => fun
  | [d] => { results := [.lit (.bool false)], args := [d] }
  | _ => none }
def PrintCountsWrongFalsely : Prop := printCountsRow.holds Tryz.pinned (OpenSpec.ofChange printCountsWrong)

/- THE SECOND FORM. 'bulk': how many values and letters a reading holds, each counted each time it is reached (what is shared counts as often as it is met; a slice's spare places count too). A statement '..UptoSaid' is the law's where the arguments, and the package variables that the reading takes, are together of bulk at most 1048576: NARROWER than '..Said'. Prove '..Said' where nothing that the law and all that it calls make is longer than what came in: it says more and counts as full. Else prove '..UptoSaid'. A law counts once. -/
mutual
def uptoBulk {H : Type} : DataW H → Nat
  | .lit (.string bytes) => bytes.length + 1
  | .lit _ => 1
  | .nil => 1
  | .ptr d => uptoBulk d + 1
  | .slice elems spare => uptoBulkAll elems + uptoBulkAll spare + 1
  | .agg parts => uptoBulkAll parts + 1
  | .iface _ d => uptoBulk d + 1
  | .map entries => uptoBulkEntries entries + 1
  | .held _ => 1
def uptoBulkAll {H : Type} : List (DataW H) → Nat
  | [] => 0
  | d :: r => uptoBulk d + uptoBulkAll r
def uptoBulkEntries {H : Type} : List (Lit × DataW H) → Nat
  | [] => 0
  | x :: r => uptoBulkEntry x + uptoBulkEntries r
def uptoBulkEntry {H : Type} : Lit × DataW H → Nat
  | (.string bytes, d) => bytes.length + uptoBulk d + 1
  | (_, d) => uptoBulk d + 1
 end
def uptoSmall : (H : Type) → List (DataW H) → Bool := fun _ ds => decide (uptoBulkAll ds ≤ 1048576)
def OpenSpec.upto (s : _root_.Go.ChangeSpec) : _root_.Go.OpenSpec := { _root_.Go.OpenSpec.ofChange s with cond := some uptoSmall }

/-- 'yardarmlaw14.PrintLines', WHERE WHAT IT READS IS OF BULK AT MOST 1048576: true; the input reads as it did. -/
def printLinesUptoRow : OpenClaim := { program := "ythkpjdgmpjhhmaagreatdoor", sum := "469921ce62ec9e64c72dde4a5a3f296f2ccda1e279456940f6eccbac8ae106c7", func := "yardarm/yardarmlaw14.PrintLines", spec := "printLines", inPlace := ["internal/abi.NoEscape", "internal/bytealg.MakeNoZero"], unfollowed := true, recurses := true, named := ["yardarm/history.limits", "unicode/utf8.first", "unicode/utf8.acceptRanges", "yardarm/line.forms", "yardarm/line.guards", "yardarm/level.texts"], plainKeys := false, apart := false, laid := [("unicode/utf8.acceptRanges", laid_unicode_utf8_acceptRanges), ("yardarm/level.texts", laid_yardarm_level_texts), ("yardarm/history.limits", laid_yardarm_history_limits), ("yardarm/line.forms", laid_yardarm_line_forms), ("yardarm/line.guards", laid_yardarm_line_guards), ("unicode/utf8.first", laid_unicode_utf8_first)], narrowed := true }
def PrintLinesUptoSaid : Prop := printLinesUptoRow.holds Tryz.pinned (OpenSpec.upto printLinesSpec)

/-- 'yardarmlaw14.PrintTells', WHERE WHAT IT READS IS OF BULK AT MOST 1048576: true; the input reads as it did. -/
def printTellsUptoRow : OpenClaim := { program := "ythkpjdgmpjhhmaagreatdoor", sum := "469921ce62ec9e64c72dde4a5a3f296f2ccda1e279456940f6eccbac8ae106c7", func := "yardarm/yardarmlaw14.PrintTells", spec := "printTells", inPlace := ["internal/abi.NoEscape", "internal/bytealg.MakeNoZero"], unfollowed := true, recurses := true, named := ["yardarm/history.limits", "unicode/utf8.first", "unicode/utf8.acceptRanges", "yardarm/line.forms", "yardarm/line.guards", "yardarm/level.texts"], plainKeys := false, apart := false, laid := [("unicode/utf8.acceptRanges", laid_unicode_utf8_acceptRanges), ("yardarm/level.texts", laid_yardarm_level_texts), ("yardarm/history.limits", laid_yardarm_history_limits), ("yardarm/line.forms", laid_yardarm_line_forms), ("yardarm/line.guards", laid_yardarm_line_guards), ("unicode/utf8.first", laid_unicode_utf8_first)], narrowed := true }
def PrintTellsUptoSaid : Prop := printTellsUptoRow.holds Tryz.pinned (OpenSpec.upto printTellsSpec)

/-- 'yardarmlaw14.PrintCounts', WHERE WHAT IT READS IS OF BULK AT MOST 1048576: true; the input reads as it did. -/
def printCountsUptoRow : OpenClaim := { program := "ythkpjdgmpjhhmaagreatdoor", sum := "469921ce62ec9e64c72dde4a5a3f296f2ccda1e279456940f6eccbac8ae106c7", func := "yardarm/yardarmlaw14.PrintCounts", spec := "printCounts", inPlace := ["internal/abi.NoEscape", "internal/bytealg.MakeNoZero"], unfollowed := true, recurses := true, named := ["yardarm/history.limits", "unicode/utf8.first", "unicode/utf8.acceptRanges", "yardarm/line.forms", "yardarm/line.guards", "yardarm/level.texts"], plainKeys := false, apart := false, laid := [("unicode/utf8.acceptRanges", laid_unicode_utf8_acceptRanges), ("yardarm/level.texts", laid_yardarm_level_texts), ("yardarm/history.limits", laid_yardarm_history_limits), ("yardarm/line.forms", laid_yardarm_line_forms), ("yardarm/line.guards", laid_yardarm_line_guards), ("unicode/utf8.first", laid_unicode_utf8_first)], narrowed := true }
def PrintCountsUptoSaid : Prop := printCountsUptoRow.holds Tryz.pinned (OpenSpec.upto printCountsSpec)

end Rows
end Go.Proofs.YthkpjdgmpjhhmaaGreatDoor
