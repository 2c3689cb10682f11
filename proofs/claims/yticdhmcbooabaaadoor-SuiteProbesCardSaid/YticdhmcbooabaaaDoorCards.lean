/-
  DERIVED. GIVEN WITH THE SEED: THE CARDS: each row of YticdhmcbooabaaaDoorRows.lean that lists a variable, with what it lists TIED to the program's text (the seventh form; the later family's looks); each row that meets fmt, with fmt's text TOLD by the authors' own Lean function (tested against real Go, not proved from fmt's source: count such statements apart). THE CARD IS WHAT COUNTS. Prove the row's statement (the work); the ties are given (YticdhmcbooabaaaDoorTie.lean); close each card by the builder's one call (the guide's Derived/Test/ToyasCard.lean, 'card_holds'). Laid BY PROGRAM, IN A SANDBOX (cutbox-door.mjs). By AI agents, Wed Nov 11 2026. No macro, syntax, notation, axiom, sorry.
-/
import Derived.Test.YticdhmcbooabaaaDoorRows
import GoSem.ClaimSeven
namespace Go.Proofs.YticdhmcbooabaaaDoor
namespace Rows

/-- THE TIED CARD OF 'umpirelaw27.CellsPlays'. -/
def cellsPlaysCard : Claim7 := { stood := { row := cellsPlaysRow, standIns := [], harness := (true, "937d64d9f49e873a66af4acc49631d708eba1841196fb7f33488a732296e2ac2"), looks := false }, kinds := [], alts := [], laidByText := true, laidKinds := [.data], laidTests := true, laidLooks := .later }
def CellsPlaysCardSaid : Prop := Claim7.holds Tryd.pinned (.plain (OpenSpec.ofChange cellsPlaysSpec)) cellsPlaysCard

/-- THE TIED CARD OF 'umpirelaw27.CellsReaches'. -/
def cellsReachesCard : Claim7 := { stood := { row := cellsReachesRow, standIns := [], harness := (true, "937d64d9f49e873a66af4acc49631d708eba1841196fb7f33488a732296e2ac2"), looks := false }, kinds := [], alts := [], laidByText := true, laidKinds := [.data], laidTests := true, laidLooks := .later }
def CellsReachesCardSaid : Prop := Claim7.holds Tryd.pinned (.plain (OpenSpec.ofChange cellsReachesSpec)) cellsReachesCard

/-- THE TIED CARD OF 'umpirelaw27.CellsKeeps'. -/
def cellsKeepsCard : Claim7 := { stood := { row := cellsKeepsRow, standIns := [], harness := (true, "937d64d9f49e873a66af4acc49631d708eba1841196fb7f33488a732296e2ac2"), looks := false }, kinds := [], alts := [], laidByText := true, laidKinds := [.data], laidTests := true, laidLooks := .later }
def CellsKeepsCardSaid : Prop := Claim7.holds Tryd.pinned (.plain (OpenSpec.ofChange cellsKeepsSpec)) cellsKeepsCard

/-- THE TIED CARD OF 'umpirelaw28.SuiteShortest'. -/
def suiteShortestCard : Claim7 := { stood := { row := suiteShortestRow, standIns := [], harness := (true, "937d64d9f49e873a66af4acc49631d708eba1841196fb7f33488a732296e2ac2"), looks := false }, kinds := [], alts := [], laidByText := true, laidKinds := [.data], laidTests := true, laidLooks := .later }
def SuiteShortestCardSaid : Prop := Claim7.holds Tryd.pinned (.plain (OpenSpec.ofChange suiteShortestSpec)) suiteShortestCard

/-- THE TIED CARD OF 'umpirelaw28.SuiteSteps'. -/
def suiteStepsCard : Claim7 := { stood := { row := suiteStepsRow, standIns := [], harness := (true, "937d64d9f49e873a66af4acc49631d708eba1841196fb7f33488a732296e2ac2"), looks := false }, kinds := [], alts := [], laidByText := true, laidKinds := [.data], laidTests := true, laidLooks := .later }
def SuiteStepsCardSaid : Prop := Claim7.holds Tryd.pinned (.plain (OpenSpec.ofChange suiteStepsSpec)) suiteStepsCard

/-- THE TIED CARD OF 'umpirelaw28.SuiteProbes'. -/
def suiteProbesCard : Claim7 := { stood := { row := suiteProbesRow, standIns := [], harness := (true, "937d64d9f49e873a66af4acc49631d708eba1841196fb7f33488a732296e2ac2"), looks := false }, kinds := [], alts := [], laidByText := true, laidKinds := [.data], laidTests := true, laidLooks := .later }
def SuiteProbesCardSaid : Prop := Claim7.holds Tryd.pinned (.plain (OpenSpec.ofChange suiteProbesSpec)) suiteProbesCard

/-- THE TIED CARD OF 'umpirelaw28.SuiteKeeps'. -/
def suiteKeepsCard : Claim7 := { stood := { row := suiteKeepsRow, standIns := [], harness := (true, "937d64d9f49e873a66af4acc49631d708eba1841196fb7f33488a732296e2ac2"), looks := false }, kinds := [], alts := [], laidByText := true, laidKinds := [.data], laidTests := true, laidLooks := .later }
def SuiteKeepsCardSaid : Prop := Claim7.holds Tryd.pinned (.plain (OpenSpec.ofChange suiteKeepsSpec)) suiteKeepsCard

/-- THE TIED CARD OF 'umpirelaw28.SuiteCovers'. -/
def suiteCoversCard : Claim7 := { stood := { row := suiteCoversRow, standIns := [], harness := (true, "937d64d9f49e873a66af4acc49631d708eba1841196fb7f33488a732296e2ac2"), looks := false }, kinds := [], alts := [], laidByText := true, laidKinds := [.data], laidTests := true, laidLooks := .later }
def SuiteCoversCardSaid : Prop := Claim7.holds Tryd.pinned (.plain (OpenSpec.ofChange suiteCoversSpec)) suiteCoversCard

/-- THE SECOND FORM's CARD OF 'umpirelaw27.CellsPlays'. -/
def cellsPlaysUptoCard : Claim7 := { stood := { row := cellsPlaysUptoRow, standIns := [], harness := (true, "937d64d9f49e873a66af4acc49631d708eba1841196fb7f33488a732296e2ac2"), looks := false }, kinds := [], alts := [], laidByText := true, laidKinds := [.data], laidTests := true, laidLooks := .later }
def CellsPlaysUptoCardSaid : Prop := Claim7.holds Tryd.pinned (.plain (OpenSpec.upto cellsPlaysSpec)) cellsPlaysUptoCard

/-- THE SECOND FORM's CARD OF 'umpirelaw27.CellsReaches'. -/
def cellsReachesUptoCard : Claim7 := { stood := { row := cellsReachesUptoRow, standIns := [], harness := (true, "937d64d9f49e873a66af4acc49631d708eba1841196fb7f33488a732296e2ac2"), looks := false }, kinds := [], alts := [], laidByText := true, laidKinds := [.data], laidTests := true, laidLooks := .later }
def CellsReachesUptoCardSaid : Prop := Claim7.holds Tryd.pinned (.plain (OpenSpec.upto cellsReachesSpec)) cellsReachesUptoCard

/-- THE SECOND FORM's CARD OF 'umpirelaw27.CellsKeeps'. -/
def cellsKeepsUptoCard : Claim7 := { stood := { row := cellsKeepsUptoRow, standIns := [], harness := (true, "937d64d9f49e873a66af4acc49631d708eba1841196fb7f33488a732296e2ac2"), looks := false }, kinds := [], alts := [], laidByText := true, laidKinds := [.data], laidTests := true, laidLooks := .later }
def CellsKeepsUptoCardSaid : Prop := Claim7.holds Tryd.pinned (.plain (OpenSpec.upto cellsKeepsSpec)) cellsKeepsUptoCard

/-- THE SECOND FORM's CARD OF 'umpirelaw28.SuiteShortest'. -/
def suiteShortestUptoCard : Claim7 := { stood := { row := suiteShortestUptoRow, standIns := [], harness := (true, "937d64d9f49e873a66af4acc49631d708eba1841196fb7f33488a732296e2ac2"), looks := false }, kinds := [], alts := [], laidByText := true, laidKinds := [.data], laidTests := true, laidLooks := .later }
def SuiteShortestUptoCardSaid : Prop := Claim7.holds Tryd.pinned (.plain (OpenSpec.upto suiteShortestSpec)) suiteShortestUptoCard

/-- THE SECOND FORM's CARD OF 'umpirelaw28.SuiteSteps'. -/
def suiteStepsUptoCard : Claim7 := { stood := { row := suiteStepsUptoRow, standIns := [], harness := (true, "937d64d9f49e873a66af4acc49631d708eba1841196fb7f33488a732296e2ac2"), looks := false }, kinds := [], alts := [], laidByText := true, laidKinds := [.data], laidTests := true, laidLooks := .later }
def SuiteStepsUptoCardSaid : Prop := Claim7.holds Tryd.pinned (.plain (OpenSpec.upto suiteStepsSpec)) suiteStepsUptoCard

/-- THE SECOND FORM's CARD OF 'umpirelaw28.SuiteProbes'. -/
def suiteProbesUptoCard : Claim7 := { stood := { row := suiteProbesUptoRow, standIns := [], harness := (true, "937d64d9f49e873a66af4acc49631d708eba1841196fb7f33488a732296e2ac2"), looks := false }, kinds := [], alts := [], laidByText := true, laidKinds := [.data], laidTests := true, laidLooks := .later }
def SuiteProbesUptoCardSaid : Prop := Claim7.holds Tryd.pinned (.plain (OpenSpec.upto suiteProbesSpec)) suiteProbesUptoCard

/-- THE SECOND FORM's CARD OF 'umpirelaw28.SuiteKeeps'. -/
def suiteKeepsUptoCard : Claim7 := { stood := { row := suiteKeepsUptoRow, standIns := [], harness := (true, "937d64d9f49e873a66af4acc49631d708eba1841196fb7f33488a732296e2ac2"), looks := false }, kinds := [], alts := [], laidByText := true, laidKinds := [.data], laidTests := true, laidLooks := .later }
def SuiteKeepsUptoCardSaid : Prop := Claim7.holds Tryd.pinned (.plain (OpenSpec.upto suiteKeepsSpec)) suiteKeepsUptoCard

/-- THE SECOND FORM's CARD OF 'umpirelaw28.SuiteCovers'. -/
def suiteCoversUptoCard : Claim7 := { stood := { row := suiteCoversUptoRow, standIns := [], harness := (true, "937d64d9f49e873a66af4acc49631d708eba1841196fb7f33488a732296e2ac2"), looks := false }, kinds := [], alts := [], laidByText := true, laidKinds := [.data], laidTests := true, laidLooks := .later }
def SuiteCoversUptoCardSaid : Prop := Claim7.holds Tryd.pinned (.plain (OpenSpec.upto suiteCoversSpec)) suiteCoversUptoCard
end Rows
end Go.Proofs.YticdhmcbooabaaaDoor
