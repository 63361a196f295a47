/-
  NARROWER THAN 'FOR EVERY INPUT', by the rows' own cells (each row's printed sentence says how): BlocksBack: laid · LinesCuts: laid · BlocksStay: laid · LinesMay: laid · LinesIndents: laid · LinesTurns: laid · LinesBack: laid · LinesStay: laid · CellsSets: laid · CellsStyles: laid · BlocksEach: laid.
  DERIVED. THE GIVEN ROWS OF THIS SEAT. 11 by the template 'for every input the law returns true; each argument reads behind the call as it read before'; 0 by the template 'total and deterministic' (their statements: YtgdpknmffohhaaaDoorTotals.lean).
  GIVEN WITH THE SEED: the statements are not yours to turn. If you find one false, say at which input.
  Laid BY PROGRAM, IN A SANDBOX (cutbox-rows.mjs): the forced cells as the released guide's own fill.sh prints them over the translation d64e761f473c16fd… (all of the seat's roots in one cut). By AI agents, Wed Nov 11 2026. No macro, syntax, notation, axiom, sorry.
-/
import Derived.Test.YtgdpknmffohhaaaDoorChecked
import GoSem.PinnedTables
import GoSem.Claim
import GoSem.ClaimJoined
import GoSem.ClaimMapViews
import Derived.JoinedTies
import Derived.KernelRfl
namespace Go.Proofs.YtgdpknmffohhaaaDoor
/- THE CELL 'sum', in the pinned program and in every row, IS THE sha256 OF THE DUMP (.gsa) THAT YtgdpknmffohhaaaDoorProg.lean LOADS. Nothing in Lean hashes anything: it is a label: what it is worth is what the hold of that sum in a sandbox is worth. -/
noncomputable def Tryd.pinned : Pinned := { name := "ytgdpknmffohhaaadoor", sum := "d64e761f473c16fd2af7889fd4acebe2af5856348583dbf421623b2ea8ef15b4", checked := Tryd.checked }
namespace Rows
def none {H : Type} : Left H := { results := [], args := [] }

/- WHAT THE LISTED PACKAGE-LEVEL VARIABLES READ AS WHEN THE CALL BEGINS. Each datum BY PROGRAM (the guide's laid-datum.mjs) off the statement by which the dump's own 'gosem.cut.vars' lays the variable. In a bare row this is a premise. The card (YtgdpknmffohhaaaDoorCards.lean) ties it to the program's text. -/
def laid_unicode_utf8_acceptRanges {H : Type} : DataW H := .agg [.agg [.lit (.int .u8 128), .lit (.int .u8 191)], .agg [.lit (.int .u8 160), .lit (.int .u8 191)], .agg [.lit (.int .u8 128), .lit (.int .u8 159)], .agg [.lit (.int .u8 144), .lit (.int .u8 191)], .agg [.lit (.int .u8 128), .lit (.int .u8 143)], .agg [.lit (.int .u8 0), .lit (.int .u8 0)], .agg [.lit (.int .u8 0), .lit (.int .u8 0)], .agg [.lit (.int .u8 0), .lit (.int .u8 0)], .agg [.lit (.int .u8 0), .lit (.int .u8 0)], .agg [.lit (.int .u8 0), .lit (.int .u8 0)], .agg [.lit (.int .u8 0), .lit (.int .u8 0)], .agg [.lit (.int .u8 0), .lit (.int .u8 0)], .agg [.lit (.int .u8 0), .lit (.int .u8 0)], .agg [.lit (.int .u8 0), .lit (.int .u8 0)], .agg [.lit (.int .u8 0), .lit (.int .u8 0)], .agg [.lit (.int .u8 0), .lit (.int .u8 0)]]
/-- One of Go's own tables, pinned by name: the form's constant. -/
def laid_unicode_utf8_first : DataW Unit := Go.Pinned.utf8First

/-- 'quillworklaw25.BlocksBack': WHATEVER THE INPUT: true; the input reads as it did. -/
def blocksBackSpec : ChangeSpec := { name := "blocksBack", fn := fun _ => fun
  | [d1, d2] => { results := [.lit (.bool true)], args := [d1, d2] }
  | _ => none }
def blocksBackRow : OpenClaim := { program := "ytgdpknmffohhaaadoor", sum := "d64e761f473c16fd2af7889fd4acebe2af5856348583dbf421623b2ea8ef15b4", func := "quillwork/quillworklaw25.BlocksBack", spec := "blocksBack", inPlace := ["internal/bytealg.IndexByteString", "internal/bytealg.IndexString", "internal/abi.NoEscape", "internal/bytealg.MakeNoZero"], unfollowed := true, recurses := true, named := ["internal/bytealg.MaxLen", "unicode/utf8.first", "unicode/utf8.acceptRanges"], apart := false, laid := [("unicode/utf8.acceptRanges", laid_unicode_utf8_acceptRanges), ("unicode/utf8.first", laid_unicode_utf8_first)] }
def BlocksBackSaid : Prop := blocksBackRow.holds Tryd.pinned (OpenSpec.ofChange blocksBackSpec)

/-- ITS FALSE NEIGHBOUR: 'it returns false'. Refute it at one input. -/
def blocksBackWrong : ChangeSpec := { name := "blocksBack", fn := fun _ => fun
  | [d1, d2] => { results := [.lit (.bool false)], args := [d1, d2] }
  | _ => none }
def BlocksBackWrongFalsely : Prop := blocksBackRow.holds Tryd.pinned (OpenSpec.ofChange blocksBackWrong)

/-- 'quillworklaw06.LinesCuts': WHATEVER THE INPUT: true; the input reads as it did. -/
def linesCutsSpec : ChangeSpec := { name := "linesCuts", fn := fun _ => fun
  | [d1, d2, d3] => { results := [.lit (.bool true)], args := [d1, d2, d3] }
  | _ => none }
def linesCutsRow : OpenClaim := { program := "ytgdpknmffohhaaadoor", sum := "d64e761f473c16fd2af7889fd4acebe2af5856348583dbf421623b2ea8ef15b4", func := "quillwork/quillworklaw06.LinesCuts", spec := "linesCuts", inPlace := ["internal/bytealg.IndexByteString", "internal/bytealg.IndexString", "internal/abi.NoEscape", "internal/bytealg.MakeNoZero"], unfollowed := true, recurses := true, named := ["internal/bytealg.MaxLen", "unicode/utf8.first", "unicode/utf8.acceptRanges"], apart := false, laid := [("unicode/utf8.acceptRanges", laid_unicode_utf8_acceptRanges), ("unicode/utf8.first", laid_unicode_utf8_first)] }
def LinesCutsSaid : Prop := linesCutsRow.holds Tryd.pinned (OpenSpec.ofChange linesCutsSpec)

/-- ITS FALSE NEIGHBOUR: 'it returns false'. Refute it at one input. -/
def linesCutsWrong : ChangeSpec := { name := "linesCuts", fn := fun _ => fun
  | [d1, d2, d3] => { results := [.lit (.bool false)], args := [d1, d2, d3] }
  | _ => none }
def LinesCutsWrongFalsely : Prop := linesCutsRow.holds Tryd.pinned (OpenSpec.ofChange linesCutsWrong)

/-- 'quillworklaw25.BlocksStay': WHATEVER THE INPUT: true; the input reads as it did. -/
def blocksStaySpec : ChangeSpec := { name := "blocksStay", fn := fun _ => fun
  | [d1, d2, d3] => { results := [.lit (.bool true)], args := [d1, d2, d3] }
  | _ => none }
def blocksStayRow : OpenClaim := { program := "ytgdpknmffohhaaadoor", sum := "d64e761f473c16fd2af7889fd4acebe2af5856348583dbf421623b2ea8ef15b4", func := "quillwork/quillworklaw25.BlocksStay", spec := "blocksStay", inPlace := ["internal/bytealg.IndexByteString", "internal/bytealg.IndexString", "internal/abi.NoEscape", "internal/bytealg.MakeNoZero"], unfollowed := true, recurses := true, named := ["internal/bytealg.MaxLen", "unicode/utf8.first", "unicode/utf8.acceptRanges"], apart := false, laid := [("unicode/utf8.acceptRanges", laid_unicode_utf8_acceptRanges), ("unicode/utf8.first", laid_unicode_utf8_first)] }
def BlocksStaySaid : Prop := blocksStayRow.holds Tryd.pinned (OpenSpec.ofChange blocksStaySpec)

/-- ITS FALSE NEIGHBOUR: 'it returns false'. Refute it at one input. -/
def blocksStayWrong : ChangeSpec := { name := "blocksStay", fn := fun _ => fun
  | [d1, d2, d3] => { results := [.lit (.bool false)], args := [d1, d2, d3] }
  | _ => none }
def BlocksStayWrongFalsely : Prop := blocksStayRow.holds Tryd.pinned (OpenSpec.ofChange blocksStayWrong)

/-- 'quillworklaw06.LinesMay': WHATEVER THE INPUT: true; the input reads as it did. -/
def linesMaySpec : ChangeSpec := { name := "linesMay", fn := fun _ => fun
  | [d1, d2] => { results := [.lit (.bool true)], args := [d1, d2] }
  | _ => none }
def linesMayRow : OpenClaim := { program := "ytgdpknmffohhaaadoor", sum := "d64e761f473c16fd2af7889fd4acebe2af5856348583dbf421623b2ea8ef15b4", func := "quillwork/quillworklaw06.LinesMay", spec := "linesMay", inPlace := ["internal/bytealg.IndexByteString", "internal/bytealg.IndexString", "internal/abi.NoEscape", "internal/bytealg.MakeNoZero"], unfollowed := true, recurses := true, named := ["internal/bytealg.MaxLen", "unicode/utf8.first", "unicode/utf8.acceptRanges"], apart := false, laid := [("unicode/utf8.acceptRanges", laid_unicode_utf8_acceptRanges), ("unicode/utf8.first", laid_unicode_utf8_first)] }
def LinesMaySaid : Prop := linesMayRow.holds Tryd.pinned (OpenSpec.ofChange linesMaySpec)

/-- ITS FALSE NEIGHBOUR: 'it returns false'. Refute it at one input. -/
def linesMayWrong : ChangeSpec := { name := "linesMay", fn := fun _ => fun
  | [d1, d2] => { results := [.lit (.bool false)], args := [d1, d2] }
  | _ => none }
def LinesMayWrongFalsely : Prop := linesMayRow.holds Tryd.pinned (OpenSpec.ofChange linesMayWrong)

/-- 'quillworklaw06.LinesIndents': WHATEVER THE INPUT: true; the input reads as it did. -/
def linesIndentsSpec : ChangeSpec := { name := "linesIndents", fn := fun _ => fun
  | [d] => { results := [.lit (.bool true)], args := [d] }
  | _ => none }
def linesIndentsRow : OpenClaim := { program := "ytgdpknmffohhaaadoor", sum := "d64e761f473c16fd2af7889fd4acebe2af5856348583dbf421623b2ea8ef15b4", func := "quillwork/quillworklaw06.LinesIndents", spec := "linesIndents", inPlace := ["internal/bytealg.IndexByteString", "internal/bytealg.IndexString", "internal/abi.NoEscape", "internal/bytealg.MakeNoZero"], unfollowed := true, recurses := true, named := ["internal/bytealg.MaxLen", "unicode/utf8.first", "unicode/utf8.acceptRanges"], apart := false, laid := [("unicode/utf8.acceptRanges", laid_unicode_utf8_acceptRanges), ("unicode/utf8.first", laid_unicode_utf8_first)] }
def LinesIndentsSaid : Prop := linesIndentsRow.holds Tryd.pinned (OpenSpec.ofChange linesIndentsSpec)

/-- ITS FALSE NEIGHBOUR: 'it returns false'. Refute it at one input. -/
def linesIndentsWrong : ChangeSpec := { name := "linesIndents", fn := fun _ => fun
  | [d] => { results := [.lit (.bool false)], args := [d] }
  | _ => none }
def LinesIndentsWrongFalsely : Prop := linesIndentsRow.holds Tryd.pinned (OpenSpec.ofChange linesIndentsWrong)

/-- 'quillworklaw06.LinesTurns': WHATEVER THE INPUT: true; the input reads as it did. -/
def linesTurnsSpec : ChangeSpec := { name := "linesTurns", fn := fun _ => fun
  | [d1, d2] => { results := [.lit (.bool true)], args := [d1, d2] }
  | _ => none }
def linesTurnsRow : OpenClaim := { program := "ytgdpknmffohhaaadoor", sum := "d64e761f473c16fd2af7889fd4acebe2af5856348583dbf421623b2ea8ef15b4", func := "quillwork/quillworklaw06.LinesTurns", spec := "linesTurns", inPlace := ["internal/bytealg.IndexByteString", "internal/bytealg.IndexString", "internal/abi.NoEscape", "internal/bytealg.MakeNoZero"], unfollowed := true, recurses := true, named := ["internal/bytealg.MaxLen", "unicode/utf8.first", "unicode/utf8.acceptRanges"], apart := false, laid := [("unicode/utf8.acceptRanges", laid_unicode_utf8_acceptRanges), ("unicode/utf8.first", laid_unicode_utf8_first)] }
def LinesTurnsSaid : Prop := linesTurnsRow.holds Tryd.pinned (OpenSpec.ofChange linesTurnsSpec)

/-- ITS FALSE NEIGHBOUR: 'it returns false'. Refute it at one input. -/
def linesTurnsWrong : ChangeSpec := { name := "linesTurns", fn := fun _ => fun
  | [d1, d2] => { results := [.lit (.bool false)], args := [d1, d2] }
  | _ => none }
def LinesTurnsWrongFalsely : Prop := linesTurnsRow.holds Tryd.pinned (OpenSpec.ofChange linesTurnsWrong)

/-- 'quillworklaw06.LinesBack': WHATEVER THE INPUT: true; the input reads as it did. -/
def linesBackSpec : ChangeSpec := { name := "linesBack", fn := fun _ => fun
  | [d1, d2] => { results := [.lit (.bool true)], args := [d1, d2] }
  | _ => none }
def linesBackRow : OpenClaim := { program := "ytgdpknmffohhaaadoor", sum := "d64e761f473c16fd2af7889fd4acebe2af5856348583dbf421623b2ea8ef15b4", func := "quillwork/quillworklaw06.LinesBack", spec := "linesBack", inPlace := ["internal/bytealg.IndexByteString", "internal/bytealg.IndexString", "internal/abi.NoEscape", "internal/bytealg.MakeNoZero"], unfollowed := true, recurses := true, named := ["internal/bytealg.MaxLen", "unicode/utf8.first", "unicode/utf8.acceptRanges"], apart := false, laid := [("unicode/utf8.acceptRanges", laid_unicode_utf8_acceptRanges), ("unicode/utf8.first", laid_unicode_utf8_first)] }
def LinesBackSaid : Prop := linesBackRow.holds Tryd.pinned (OpenSpec.ofChange linesBackSpec)

/-- ITS FALSE NEIGHBOUR: 'it returns false'. Refute it at one input. -/
def linesBackWrong : ChangeSpec := { name := "linesBack", fn := fun _ => fun
  | [d1, d2] => { results := [.lit (.bool false)], args := [d1, d2] }
  | _ => none }
def LinesBackWrongFalsely : Prop := linesBackRow.holds Tryd.pinned (OpenSpec.ofChange linesBackWrong)

/-- 'quillworklaw06.LinesStay': WHATEVER THE INPUT: true; the input reads as it did. -/
def linesStaySpec : ChangeSpec := { name := "linesStay", fn := fun _ => fun
  | [d1, d2, d3] => { results := [.lit (.bool true)], args := [d1, d2, d3] }
  | _ => none }
def linesStayRow : OpenClaim := { program := "ytgdpknmffohhaaadoor", sum := "d64e761f473c16fd2af7889fd4acebe2af5856348583dbf421623b2ea8ef15b4", func := "quillwork/quillworklaw06.LinesStay", spec := "linesStay", inPlace := ["internal/bytealg.IndexByteString", "internal/bytealg.IndexString", "internal/abi.NoEscape", "internal/bytealg.MakeNoZero"], unfollowed := true, recurses := true, named := ["internal/bytealg.MaxLen", "unicode/utf8.first", "unicode/utf8.acceptRanges"], apart := false, laid := [("unicode/utf8.acceptRanges", laid_unicode_utf8_acceptRanges), ("unicode/utf8.first", laid_unicode_utf8_first)] }
def LinesStaySaid : Prop := linesStayRow.holds Tryd.pinned (OpenSpec.ofChange linesStaySpec)

/-- ITS FALSE NEIGHBOUR: 'it returns false'. Refute it at one input. -/
def linesStayWrong : ChangeSpec := { name := "linesStay", fn := fun _ => fun
  | [d1, d2, d3] => { results := [.lit (.bool false)], args := [d1, d2, d3] }
  | _ => none }
def LinesStayWrongFalsely : Prop := linesStayRow.holds Tryd.pinned (OpenSpec.ofChange linesStayWrong)

/-- 'quillworklaw05.CellsSets': WHATEVER THE INPUT: true; the input reads as it did. -/
def cellsSetsSpec : ChangeSpec := { name := "cellsSets", fn := fun _ => fun
  | [d1, d2, d3, d4, d5, d6] => { results := [.lit (.bool true)], args := [d1, d2, d3, d4, d5, d6] }
  | _ => none }
def cellsSetsRow : OpenClaim := { program := "ytgdpknmffohhaaadoor", sum := "d64e761f473c16fd2af7889fd4acebe2af5856348583dbf421623b2ea8ef15b4", func := "quillwork/quillworklaw05.CellsSets", spec := "cellsSets", inPlace := ["internal/bytealg.IndexByteString", "internal/bytealg.IndexString", "internal/abi.NoEscape", "internal/bytealg.MakeNoZero"], unfollowed := true, recurses := true, named := ["internal/bytealg.MaxLen", "unicode/utf8.first", "unicode/utf8.acceptRanges"], apart := false, laid := [("unicode/utf8.acceptRanges", laid_unicode_utf8_acceptRanges), ("unicode/utf8.first", laid_unicode_utf8_first)] }
def CellsSetsSaid : Prop := cellsSetsRow.holds Tryd.pinned (OpenSpec.ofChange cellsSetsSpec)

/-- ITS FALSE NEIGHBOUR: 'it returns false'. Refute it at one input. -/
def cellsSetsWrong : ChangeSpec := { name := "cellsSets", fn := fun _ => fun
  | [d1, d2, d3, d4, d5, d6] => { results := [.lit (.bool false)], args := [d1, d2, d3, d4, d5, d6] }
  | _ => none }
def CellsSetsWrongFalsely : Prop := cellsSetsRow.holds Tryd.pinned (OpenSpec.ofChange cellsSetsWrong)

/-- 'quillworklaw05.CellsStyles': WHATEVER THE INPUT: true; the input reads as it did. -/
def cellsStylesSpec : ChangeSpec := { name := "cellsStyles", fn := fun _ => fun
  | [d1, d2, d3, d4, d5] => { results := [.lit (.bool true)], args := [d1, d2, d3, d4, d5] }
  | _ => none }
def cellsStylesRow : OpenClaim := { program := "ytgdpknmffohhaaadoor", sum := "d64e761f473c16fd2af7889fd4acebe2af5856348583dbf421623b2ea8ef15b4", func := "quillwork/quillworklaw05.CellsStyles", spec := "cellsStyles", inPlace := ["internal/bytealg.IndexByteString", "internal/bytealg.IndexString", "internal/abi.NoEscape", "internal/bytealg.MakeNoZero"], unfollowed := true, recurses := true, named := ["internal/bytealg.MaxLen", "unicode/utf8.first", "unicode/utf8.acceptRanges"], apart := false, laid := [("unicode/utf8.acceptRanges", laid_unicode_utf8_acceptRanges), ("unicode/utf8.first", laid_unicode_utf8_first)] }
def CellsStylesSaid : Prop := cellsStylesRow.holds Tryd.pinned (OpenSpec.ofChange cellsStylesSpec)

/-- ITS FALSE NEIGHBOUR: 'it returns false'. Refute it at one input. -/
def cellsStylesWrong : ChangeSpec := { name := "cellsStyles", fn := fun _ => fun
  | [d1, d2, d3, d4, d5] => { results := [.lit (.bool false)], args := [d1, d2, d3, d4, d5] }
  | _ => none }
def CellsStylesWrongFalsely : Prop := cellsStylesRow.holds Tryd.pinned (OpenSpec.ofChange cellsStylesWrong)

/-- 'quillworklaw25.BlocksEach': WHATEVER THE INPUT: true; the input reads as it did. -/
def blocksEachSpec : ChangeSpec := { name := "blocksEach", fn := fun _ => fun
  | [d1, d2, d3] => { results := [.lit (.bool true)], args := [d1, d2, d3] }
  | _ => none }
def blocksEachRow : OpenClaim := { program := "ytgdpknmffohhaaadoor", sum := "d64e761f473c16fd2af7889fd4acebe2af5856348583dbf421623b2ea8ef15b4", func := "quillwork/quillworklaw25.BlocksEach", spec := "blocksEach", inPlace := ["internal/bytealg.IndexByteString", "internal/bytealg.IndexString", "internal/abi.NoEscape", "internal/bytealg.MakeNoZero"], unfollowed := true, recurses := true, named := ["internal/bytealg.MaxLen", "unicode/utf8.first", "unicode/utf8.acceptRanges"], apart := false, laid := [("unicode/utf8.acceptRanges", laid_unicode_utf8_acceptRanges), ("unicode/utf8.first", laid_unicode_utf8_first)] }
def BlocksEachSaid : Prop := blocksEachRow.holds Tryd.pinned (OpenSpec.ofChange blocksEachSpec)

/-- ITS FALSE NEIGHBOUR: 'it returns false'. Refute it at one input. -/
def blocksEachWrong : ChangeSpec := { name := "blocksEach", fn := fun _ => fun
  | [d1, d2, d3] => { results := [.lit (.bool false)], args := [d1, d2, d3] }
  | _ => none }
def BlocksEachWrongFalsely : Prop := blocksEachRow.holds Tryd.pinned (OpenSpec.ofChange blocksEachWrong)

/- THE SECOND FORM. 'bulk': how many values and letters a reading holds, each counted each time it is reached (what is shared counts as often as it is met; a slice's spare places count too). A statement '..UptoSaid' is the law's where the arguments, and the package variables that the reading takes, are together of bulk at most 1048576: NARROWER than '..Said'. Prove '..Said' where nothing that the law and all that it calls make is longer than what came in: it says more and counts as full. Else prove '..UptoSaid'. A law counts once. -/
mutual
def uptoBulk {H : Type} : DataW H → Nat
  | .lit (.string bytes) => bytes.length + 1
  | .lit _ => 1
  | .nil => 1
  | .ptr d => uptoBulk d + 1
  | .slice elems spare => uptoBulkAll elems + uptoBulkAll spare + 1
  | .agg parts => uptoBulkAll parts + 1
  | .iface _ d => uptoBulk d + 1
  | .map entries => uptoBulkEntries entries + 1
  | .held _ => 1
def uptoBulkAll {H : Type} : List (DataW H) → Nat
  | [] => 0
  | d :: r => uptoBulk d + uptoBulkAll r
def uptoBulkEntries {H : Type} : List (Lit × DataW H) → Nat
  | [] => 0
  | x :: r => uptoBulkEntry x + uptoBulkEntries r
def uptoBulkEntry {H : Type} : Lit × DataW H → Nat
  | (.string bytes, d) => bytes.length + uptoBulk d + 1
  | (_, d) => uptoBulk d + 1
 end
def uptoSmall : (H : Type) → List (DataW H) → Bool := fun _ ds => decide (uptoBulkAll ds ≤ 1048576)
def OpenSpec.upto (s : _root_.Go.ChangeSpec) : _root_.Go.OpenSpec := { _root_.Go.OpenSpec.ofChange s with cond := some uptoSmall }

/-- 'quillworklaw25.BlocksBack', WHERE WHAT IT READS IS OF BULK AT MOST 1048576: true; the input reads as it did. -/
def blocksBackUptoRow : OpenClaim := { program := "ytgdpknmffohhaaadoor", sum := "d64e761f473c16fd2af7889fd4acebe2af5856348583dbf421623b2ea8ef15b4", func := "quillwork/quillworklaw25.BlocksBack", spec := "blocksBack", inPlace := ["internal/bytealg.IndexByteString", "internal/bytealg.IndexString", "internal/abi.NoEscape", "internal/bytealg.MakeNoZero"], unfollowed := true, recurses := true, named := ["internal/bytealg.MaxLen", "unicode/utf8.first", "unicode/utf8.acceptRanges"], apart := false, laid := [("unicode/utf8.acceptRanges", laid_unicode_utf8_acceptRanges), ("unicode/utf8.first", laid_unicode_utf8_first)], narrowed := true }
def BlocksBackUptoSaid : Prop := blocksBackUptoRow.holds Tryd.pinned (OpenSpec.upto blocksBackSpec)

/-- 'quillworklaw06.LinesCuts', WHERE WHAT IT READS IS OF BULK AT MOST 1048576: true; the input reads as it did. -/
def linesCutsUptoRow : OpenClaim := { program := "ytgdpknmffohhaaadoor", sum := "d64e761f473c16fd2af7889fd4acebe2af5856348583dbf421623b2ea8ef15b4", func := "quillwork/quillworklaw06.LinesCuts", spec := "linesCuts", inPlace := ["internal/bytealg.IndexByteString", "internal/bytealg.IndexString", "internal/abi.NoEscape", "internal/bytealg.MakeNoZero"], unfollowed := true, recurses := true, named := ["internal/bytealg.MaxLen", "unicode/utf8.first", "unicode/utf8.acceptRanges"], apart := false, laid := [("unicode/utf8.acceptRanges", laid_unicode_utf8_acceptRanges), ("unicode/utf8.first", laid_unicode_utf8_first)], narrowed := true }
def LinesCutsUptoSaid : Prop := linesCutsUptoRow.holds Tryd.pinned (OpenSpec.upto linesCutsSpec)

/-- 'quillworklaw25.BlocksStay', WHERE WHAT IT READS IS OF BULK AT MOST 1048576: true; the input reads as it did. -/
def blocksStayUptoRow : OpenClaim := { program := "ytgdpknmffohhaaadoor", sum := "d64e761f473c16fd2af7889fd4acebe2af5856348583dbf421623b2ea8ef15b4", func := "quillwork/quillworklaw25.BlocksStay", spec := "blocksStay", inPlace := ["internal/bytealg.IndexByteString", "internal/bytealg.IndexString", "internal/abi.NoEscape", "internal/bytealg.MakeNoZero"], unfollowed := true, recurses := true, named := ["internal/bytealg.MaxLen", "unicode/utf8.first", "unicode/utf8.acceptRanges"], apart := false, laid := [("unicode/utf8.acceptRanges", laid_unicode_utf8_acceptRanges), ("unicode/utf8.first", laid_unicode_utf8_first)], narrowed := true }
def BlocksStayUptoSaid : Prop := blocksStayUptoRow.holds Tryd.pinned (OpenSpec.upto blocksStaySpec)

/-- 'quillworklaw06.LinesMay', WHERE WHAT IT READS IS OF BULK AT MOST 1048576: true; the input reads as it did. -/
def linesMayUptoRow : OpenClaim := { program := "ytgdpknmffohhaaadoor", sum := "d64e761f473c16fd2af7889fd4acebe2af5856348583dbf421623b2ea8ef15b4", func := "quillwork/quillworklaw06.LinesMay", spec := "linesMay", inPlace := ["internal/bytealg.IndexByteString", "internal/bytealg.IndexString", "internal/abi.NoEscape", "internal/bytealg.MakeNoZero"], unfollowed := true, recurses := true, named := ["internal/bytealg.MaxLen", "unicode/utf8.first", "unicode/utf8.acceptRanges"], apart := false, laid := [("unicode/utf8.acceptRanges", laid_unicode_utf8_acceptRanges), ("unicode/utf8.first", laid_unicode_utf8_first)], narrowed := true }
def LinesMayUptoSaid : Prop := linesMayUptoRow.holds Tryd.pinned (OpenSpec.upto linesMaySpec)

/-- 'quillworklaw06.LinesIndents', WHERE WHAT IT READS IS OF BULK AT MOST 1048576: true; the input reads as it did. -/
def linesIndentsUptoRow : OpenClaim := { program := "ytgdpknmffohhaaadoor", sum := "d64e761f473c16fd2af7889fd4acebe2af5856348583dbf421623b2ea8ef15b4", func := "quillwork/quillworklaw06.LinesIndents", spec := "linesIndents", inPlace := ["internal/bytealg.IndexByteString", "internal/bytealg.IndexString", "internal/abi.NoEscape", "internal/bytealg.MakeNoZero"], unfollowed := true, recurses := true, named := ["internal/bytealg.MaxLen", "unicode/utf8.first", "unicode/utf8.acceptRanges"], apart := false, laid := [("unicode/utf8.acceptRanges", laid_unicode_utf8_acceptRanges), ("unicode/utf8.first", laid_unicode_utf8_first)], narrowed := true }
def LinesIndentsUptoSaid : Prop := linesIndentsUptoRow.holds Tryd.pinned (OpenSpec.upto linesIndentsSpec)

/-- 'quillworklaw06.LinesTurns', WHERE WHAT IT READS IS OF BULK AT MOST 1048576: true; the input reads as it did. -/
def linesTurnsUptoRow : OpenClaim := { program := "ytgdpknmffohhaaadoor", sum := "d64e761f473c16fd2af7889fd4acebe2af5856348583dbf421623b2ea8ef15b4", func := "quillwork/quillworklaw06.LinesTurns", spec := "linesTurns", inPlace := ["internal/bytealg.IndexByteString", "internal/bytealg.IndexString", "internal/abi.NoEscape", "internal/bytealg.MakeNoZero"], unfollowed := true, recurses := true, named := ["internal/bytealg.MaxLen", "unicode/utf8.first", "unicode/utf8.acceptRanges"], apart := false, laid := [("unicode/utf8.acceptRanges", laid_unicode_utf8_acceptRanges), ("unicode/utf8.first", laid_unicode_utf8_first)], narrowed := true }
def LinesTurnsUptoSaid : Prop := linesTurnsUptoRow.holds Tryd.pinned (OpenSpec.upto linesTurnsSpec)

/-- 'quillworklaw06.LinesBack', WHERE WHAT IT READS IS OF BULK AT MOST 1048576: true; the input reads as it did. -/
def linesBackUptoRow : OpenClaim := { program := "ytgdpknmffohhaaadoor", sum := "d64e761f473c16fd2af7889fd4acebe2af5856348583dbf421623b2ea8ef15b4", func := "quillwork/quillworklaw06.LinesBack", spec := "linesBack", inPlace := ["internal/bytealg.IndexByteString", "internal/bytealg.IndexString", "internal/abi.NoEscape", "internal/bytealg.MakeNoZero"], unfollowed := true, recurses := true, named := ["internal/bytealg.MaxLen", "unicode/utf8.first", "unicode/utf8.acceptRanges"], apart := false, laid := [("unicode/utf8.acceptRanges", laid_unicode_utf8_acceptRanges), ("unicode/utf8.first", laid_unicode_utf8_first)], narrowed := true }
def LinesBackUptoSaid : Prop := linesBackUptoRow.holds Tryd.pinned (OpenSpec.upto linesBackSpec)

/-- 'quillworklaw06.LinesStay', WHERE WHAT IT READS IS OF BULK AT MOST 1048576: true; the input reads as it did. -/
def linesStayUptoRow : OpenClaim := { program := "ytgdpknmffohhaaadoor", sum := "d64e761f473c16fd2af7889fd4acebe2af5856348583dbf421623b2ea8ef15b4", func := "quillwork/quillworklaw06.LinesStay", spec := "linesStay", inPlace := ["internal/bytealg.IndexByteString", "internal/bytealg.IndexString", "internal/abi.NoEscape", "internal/bytealg.MakeNoZero"], unfollowed := true, recurses := true, named := ["internal/bytealg.MaxLen", "unicode/utf8.first", "unicode/utf8.acceptRanges"], apart := false, laid := [("unicode/utf8.acceptRanges", laid_unicode_utf8_acceptRanges), ("unicode/utf8.first", laid_unicode_utf8_first)], narrowed := true }
def LinesStayUptoSaid : Prop := linesStayUptoRow.holds Tryd.pinned (OpenSpec.upto linesStaySpec)

/-- 'quillworklaw05.CellsSets', WHERE WHAT IT READS IS OF BULK AT MOST 1048576: true; the input reads as it did. -/
def cellsSetsUptoRow : OpenClaim := { program := "ytgdpknmffohhaaadoor", sum := "d64e761f473c16fd2af7889fd4acebe2af5856348583dbf421623b2ea8ef15b4", func := "quillwork/quillworklaw05.CellsSets", spec := "cellsSets", inPlace := ["internal/bytealg.IndexByteString", "internal/bytealg.IndexString", "internal/abi.NoEscape", "internal/bytealg.MakeNoZero"], unfollowed := true, recurses := true, named := ["internal/bytealg.MaxLen", "unicode/utf8.first", "unicode/utf8.acceptRanges"], apart := false, laid := [("unicode/utf8.acceptRanges", laid_unicode_utf8_acceptRanges), ("unicode/utf8.first", laid_unicode_utf8_first)], narrowed := true }
def CellsSetsUptoSaid : Prop := cellsSetsUptoRow.holds Tryd.pinned (OpenSpec.upto cellsSetsSpec)

/-- 'quillworklaw05.CellsStyles', WHERE WHAT IT READS IS OF BULK AT MOST 1048576: true; the input reads as it did. -/
def cellsStylesUptoRow : OpenClaim := { program := "ytgdpknmffohhaaadoor", sum := "d64e761f473c16fd2af7889fd4acebe2af5856348583dbf421623b2ea8ef15b4", func := "quillwork/quillworklaw05.CellsStyles", spec := "cellsStyles", inPlace := ["internal/bytealg.IndexByteString", "internal/bytealg.IndexString", "internal/abi.NoEscape", "internal/bytealg.MakeNoZero"], unfollowed := true, recurses := true, named := ["internal/bytealg.MaxLen", "unicode/utf8.first", "unicode/utf8.acceptRanges"], apart := false, laid := [("unicode/utf8.acceptRanges", laid_unicode_utf8_acceptRanges), ("unicode/utf8.first", laid_unicode_utf8_first)], narrowed := true }
def CellsStylesUptoSaid : Prop := cellsStylesUptoRow.holds Tryd.pinned (OpenSpec.upto cellsStylesSpec)

/-- 'quillworklaw25.BlocksEach', WHERE WHAT IT READS IS OF BULK AT MOST 1048576: true; the input reads as it did. -/
def blocksEachUptoRow : OpenClaim := { program := "ytgdpknmffohhaaadoor", sum := "d64e761f473c16fd2af7889fd4acebe2af5856348583dbf421623b2ea8ef15b4", func := "quillwork/quillworklaw25.BlocksEach", spec := "blocksEach", inPlace := ["internal/bytealg.IndexByteString", "internal/bytealg.IndexString", "internal/abi.NoEscape", "internal/bytealg.MakeNoZero"], unfollowed := true, recurses := true, named := ["internal/bytealg.MaxLen", "unicode/utf8.first", "unicode/utf8.acceptRanges"], apart := false, laid := [("unicode/utf8.acceptRanges", laid_unicode_utf8_acceptRanges), ("unicode/utf8.first", laid_unicode_utf8_first)], narrowed := true }
def BlocksEachUptoSaid : Prop := blocksEachUptoRow.holds Tryd.pinned (OpenSpec.upto blocksEachSpec)

end Rows
end Go.Proofs.YtgdpknmffohhaaaDoor
