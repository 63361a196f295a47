/-
  DERIVED. GIVEN WITH THE SEED: THE CARDS: each row of YtgdpknmffohhaaaDoorRows.lean that lists a variable, with what it lists TIED to the program's text (the seventh form; the later family's looks); each row that meets fmt, with fmt's text TOLD by the authors' own Lean function (tested against real Go, not proved from fmt's source: count such statements apart). THE CARD IS WHAT COUNTS. Prove the row's statement (the work); the ties are given (YtgdpknmffohhaaaDoorTie.lean); close each card by the builder's one call (the guide's Derived/Test/ToyasCard.lean, 'card_holds'). Laid BY PROGRAM, IN A SANDBOX (cutbox-door.mjs). By AI agents, Wed Nov 11 2026. No macro, syntax, notation, axiom, sorry.
-/
import Derived.Test.YtgdpknmffohhaaaDoorRows
import GoSem.ClaimSeven
namespace Go.Proofs.YtgdpknmffohhaaaDoor
namespace Rows

/-- THE TIED CARD OF 'quillworklaw25.BlocksBack'. -/
def blocksBackCard : Claim7 := { stood := { row := blocksBackRow, standIns := [], harness := (true, "de989cfc3afd103e59edb4b4b7d00c4ced3405a6849cd91702debdf8478c91e7"), looks := false }, kinds := [], alts := [], laidByText := true, laidKinds := [.data, .pinned], laidTests := true, laidLooks := .later }
def BlocksBackCardSaid : Prop := Claim7.holds Tryd.pinned (.plain (OpenSpec.ofChange blocksBackSpec)) blocksBackCard

/-- THE TIED CARD OF 'quillworklaw06.LinesCuts'. -/
def linesCutsCard : Claim7 := { stood := { row := linesCutsRow, standIns := [], harness := (true, "de989cfc3afd103e59edb4b4b7d00c4ced3405a6849cd91702debdf8478c91e7"), looks := false }, kinds := [], alts := [], laidByText := true, laidKinds := [.data, .pinned], laidTests := true, laidLooks := .later }
def LinesCutsCardSaid : Prop := Claim7.holds Tryd.pinned (.plain (OpenSpec.ofChange linesCutsSpec)) linesCutsCard

/-- THE TIED CARD OF 'quillworklaw25.BlocksStay'. -/
def blocksStayCard : Claim7 := { stood := { row := blocksStayRow, standIns := [], harness := (true, "de989cfc3afd103e59edb4b4b7d00c4ced3405a6849cd91702debdf8478c91e7"), looks := false }, kinds := [], alts := [], laidByText := true, laidKinds := [.data, .pinned], laidTests := true, laidLooks := .later }
def BlocksStayCardSaid : Prop := Claim7.holds Tryd.pinned (.plain (OpenSpec.ofChange blocksStaySpec)) blocksStayCard

/-- THE TIED CARD OF 'quillworklaw06.LinesMay'. -/
def linesMayCard : Claim7 := { stood := { row := linesMayRow, standIns := [], harness := (true, "de989cfc3afd103e59edb4b4b7d00c4ced3405a6849cd91702debdf8478c91e7"), looks := false }, kinds := [], alts := [], laidByText := true, laidKinds := [.data, .pinned], laidTests := true, laidLooks := .later }
def LinesMayCardSaid : Prop := Claim7.holds Tryd.pinned (.plain (OpenSpec.ofChange linesMaySpec)) linesMayCard

/-- THE TIED CARD OF 'quillworklaw06.LinesIndents'. -/
def linesIndentsCard : Claim7 := { stood := { row := linesIndentsRow, standIns := [], harness := (true, "de989cfc3afd103e59edb4b4b7d00c4ced3405a6849cd91702debdf8478c91e7"), looks := false }, kinds := [], alts := [], laidByText := true, laidKinds := [.data, .pinned], laidTests := true, laidLooks := .later }
def LinesIndentsCardSaid : Prop := Claim7.holds Tryd.pinned (.plain (OpenSpec.ofChange linesIndentsSpec)) linesIndentsCard

/-- THE TIED CARD OF 'quillworklaw06.LinesTurns'. -/
def linesTurnsCard : Claim7 := { stood := { row := linesTurnsRow, standIns := [], harness := (true, "de989cfc3afd103e59edb4b4b7d00c4ced3405a6849cd91702debdf8478c91e7"), looks := false }, kinds := [], alts := [], laidByText := true, laidKinds := [.data, .pinned], laidTests := true, laidLooks := .later }
def LinesTurnsCardSaid : Prop := Claim7.holds Tryd.pinned (.plain (OpenSpec.ofChange linesTurnsSpec)) linesTurnsCard

/-- THE TIED CARD OF 'quillworklaw06.LinesBack'. -/
def linesBackCard : Claim7 := { stood := { row := linesBackRow, standIns := [], harness := (true, "de989cfc3afd103e59edb4b4b7d00c4ced3405a6849cd91702debdf8478c91e7"), looks := false }, kinds := [], alts := [], laidByText := true, laidKinds := [.data, .pinned], laidTests := true, laidLooks := .later }
def LinesBackCardSaid : Prop := Claim7.holds Tryd.pinned (.plain (OpenSpec.ofChange linesBackSpec)) linesBackCard

/-- THE TIED CARD OF 'quillworklaw06.LinesStay'. -/
def linesStayCard : Claim7 := { stood := { row := linesStayRow, standIns := [], harness := (true, "de989cfc3afd103e59edb4b4b7d00c4ced3405a6849cd91702debdf8478c91e7"), looks := false }, kinds := [], alts := [], laidByText := true, laidKinds := [.data, .pinned], laidTests := true, laidLooks := .later }
def LinesStayCardSaid : Prop := Claim7.holds Tryd.pinned (.plain (OpenSpec.ofChange linesStaySpec)) linesStayCard

/-- THE TIED CARD OF 'quillworklaw05.CellsSets'. -/
def cellsSetsCard : Claim7 := { stood := { row := cellsSetsRow, standIns := [], harness := (true, "de989cfc3afd103e59edb4b4b7d00c4ced3405a6849cd91702debdf8478c91e7"), looks := false }, kinds := [], alts := [], laidByText := true, laidKinds := [.data, .pinned], laidTests := true, laidLooks := .later }
def CellsSetsCardSaid : Prop := Claim7.holds Tryd.pinned (.plain (OpenSpec.ofChange cellsSetsSpec)) cellsSetsCard

/-- THE TIED CARD OF 'quillworklaw05.CellsStyles'. -/
def cellsStylesCard : Claim7 := { stood := { row := cellsStylesRow, standIns := [], harness := (true, "de989cfc3afd103e59edb4b4b7d00c4ced3405a6849cd91702debdf8478c91e7"), looks := false }, kinds := [], alts := [], laidByText := true, laidKinds := [.data, .pinned], laidTests := true, laidLooks := .later }
def CellsStylesCardSaid : Prop := Claim7.holds Tryd.pinned (.plain (OpenSpec.ofChange cellsStylesSpec)) cellsStylesCard

/-- THE TIED CARD OF 'quillworklaw25.BlocksEach'. -/
def blocksEachCard : Claim7 := { stood := { row := blocksEachRow, standIns := [], harness := (true, "de989cfc3afd103e59edb4b4b7d00c4ced3405a6849cd91702debdf8478c91e7"), looks := false }, kinds := [], alts := [], laidByText := true, laidKinds := [.data, .pinned], laidTests := true, laidLooks := .later }
def BlocksEachCardSaid : Prop := Claim7.holds Tryd.pinned (.plain (OpenSpec.ofChange blocksEachSpec)) blocksEachCard

/-- THE SECOND FORM's CARD OF 'quillworklaw25.BlocksBack'. -/
def blocksBackUptoCard : Claim7 := { stood := { row := blocksBackUptoRow, standIns := [], harness := (true, "de989cfc3afd103e59edb4b4b7d00c4ced3405a6849cd91702debdf8478c91e7"), looks := false }, kinds := [], alts := [], laidByText := true, laidKinds := [.data, .pinned], laidTests := true, laidLooks := .later }
def BlocksBackUptoCardSaid : Prop := Claim7.holds Tryd.pinned (.plain (OpenSpec.upto blocksBackSpec)) blocksBackUptoCard

/-- THE SECOND FORM's CARD OF 'quillworklaw06.LinesCuts'. -/
def linesCutsUptoCard : Claim7 := { stood := { row := linesCutsUptoRow, standIns := [], harness := (true, "de989cfc3afd103e59edb4b4b7d00c4ced3405a6849cd91702debdf8478c91e7"), looks := false }, kinds := [], alts := [], laidByText := true, laidKinds := [.data, .pinned], laidTests := true, laidLooks := .later }
def LinesCutsUptoCardSaid : Prop := Claim7.holds Tryd.pinned (.plain (OpenSpec.upto linesCutsSpec)) linesCutsUptoCard

/-- THE SECOND FORM's CARD OF 'quillworklaw25.BlocksStay'. -/
def blocksStayUptoCard : Claim7 := { stood := { row := blocksStayUptoRow, standIns := [], harness := (true, "de989cfc3afd103e59edb4b4b7d00c4ced3405a6849cd91702debdf8478c91e7"), looks := false }, kinds := [], alts := [], laidByText := true, laidKinds := [.data, .pinned], laidTests := true, laidLooks := .later }
def BlocksStayUptoCardSaid : Prop := Claim7.holds Tryd.pinned (.plain (OpenSpec.upto blocksStaySpec)) blocksStayUptoCard

/-- THE SECOND FORM's CARD OF 'quillworklaw06.LinesMay'. -/
def linesMayUptoCard : Claim7 := { stood := { row := linesMayUptoRow, standIns := [], harness := (true, "de989cfc3afd103e59edb4b4b7d00c4ced3405a6849cd91702debdf8478c91e7"), looks := false }, kinds := [], alts := [], laidByText := true, laidKinds := [.data, .pinned], laidTests := true, laidLooks := .later }
def LinesMayUptoCardSaid : Prop := Claim7.holds Tryd.pinned (.plain (OpenSpec.upto linesMaySpec)) linesMayUptoCard

/-- THE SECOND FORM's CARD OF 'quillworklaw06.LinesIndents'. -/
def linesIndentsUptoCard : Claim7 := { stood := { row := linesIndentsUptoRow, standIns := [], harness := (true, "de989cfc3afd103e59edb4b4b7d00c4ced3405a6849cd91702debdf8478c91e7"), looks := false }, kinds := [], alts := [], laidByText := true, laidKinds := [.data, .pinned], laidTests := true, laidLooks := .later }
def LinesIndentsUptoCardSaid : Prop := Claim7.holds Tryd.pinned (.plain (OpenSpec.upto linesIndentsSpec)) linesIndentsUptoCard

/-- THE SECOND FORM's CARD OF 'quillworklaw06.LinesTurns'. -/
def linesTurnsUptoCard : Claim7 := { stood := { row := linesTurnsUptoRow, standIns := [], harness := (true, "de989cfc3afd103e59edb4b4b7d00c4ced3405a6849cd91702debdf8478c91e7"), looks := false }, kinds := [], alts := [], laidByText := true, laidKinds := [.data, .pinned], laidTests := true, laidLooks := .later }
def LinesTurnsUptoCardSaid : Prop := Claim7.holds Tryd.pinned (.plain (OpenSpec.upto linesTurnsSpec)) linesTurnsUptoCard

/-- THE SECOND FORM's CARD OF 'quillworklaw06.LinesBack'. -/
def linesBackUptoCard : Claim7 := { stood := { row := linesBackUptoRow, standIns := [], harness := (true, "de989cfc3afd103e59edb4b4b7d00c4ced3405a6849cd91702debdf8478c91e7"), looks := false }, kinds := [], alts := [], laidByText := true, laidKinds := [.data, .pinned], laidTests := true, laidLooks := .later }
def LinesBackUptoCardSaid : Prop := Claim7.holds Tryd.pinned (.plain (OpenSpec.upto linesBackSpec)) linesBackUptoCard

/-- THE SECOND FORM's CARD OF 'quillworklaw06.LinesStay'. -/
def linesStayUptoCard : Claim7 := { stood := { row := linesStayUptoRow, standIns := [], harness := (true, "de989cfc3afd103e59edb4b4b7d00c4ced3405a6849cd91702debdf8478c91e7"), looks := false }, kinds := [], alts := [], laidByText := true, laidKinds := [.data, .pinned], laidTests := true, laidLooks := .later }
def LinesStayUptoCardSaid : Prop := Claim7.holds Tryd.pinned (.plain (OpenSpec.upto linesStaySpec)) linesStayUptoCard

/-- THE SECOND FORM's CARD OF 'quillworklaw05.CellsSets'. -/
def cellsSetsUptoCard : Claim7 := { stood := { row := cellsSetsUptoRow, standIns := [], harness := (true, "de989cfc3afd103e59edb4b4b7d00c4ced3405a6849cd91702debdf8478c91e7"), looks := false }, kinds := [], alts := [], laidByText := true, laidKinds := [.data, .pinned], laidTests := true, laidLooks := .later }
def CellsSetsUptoCardSaid : Prop := Claim7.holds Tryd.pinned (.plain (OpenSpec.upto cellsSetsSpec)) cellsSetsUptoCard

/-- THE SECOND FORM's CARD OF 'quillworklaw05.CellsStyles'. -/
def cellsStylesUptoCard : Claim7 := { stood := { row := cellsStylesUptoRow, standIns := [], harness := (true, "de989cfc3afd103e59edb4b4b7d00c4ced3405a6849cd91702debdf8478c91e7"), looks := false }, kinds := [], alts := [], laidByText := true, laidKinds := [.data, .pinned], laidTests := true, laidLooks := .later }
def CellsStylesUptoCardSaid : Prop := Claim7.holds Tryd.pinned (.plain (OpenSpec.upto cellsStylesSpec)) cellsStylesUptoCard

/-- THE SECOND FORM's CARD OF 'quillworklaw25.BlocksEach'. -/
def blocksEachUptoCard : Claim7 := { stood := { row := blocksEachUptoRow, standIns := [], harness := (true, "de989cfc3afd103e59edb4b4b7d00c4ced3405a6849cd91702debdf8478c91e7"), looks := false }, kinds := [], alts := [], laidByText := true, laidKinds := [.data, .pinned], laidTests := true, laidLooks := .later }
def BlocksEachUptoCardSaid : Prop := Claim7.holds Tryd.pinned (.plain (OpenSpec.upto blocksEachSpec)) blocksEachUptoCard
end Rows
end Go.Proofs.YtgdpknmffohhaaaDoor
