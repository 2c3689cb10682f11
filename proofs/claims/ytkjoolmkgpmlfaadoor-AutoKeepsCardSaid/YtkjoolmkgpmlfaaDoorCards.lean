/-
  DERIVED. GIVEN WITH THE SEED: THE CARDS: each row of YtkjoolmkgpmlfaaDoorRows.lean that lists a variable, with what it lists TIED to the program's text (the seventh form; the later family's looks); each row that meets fmt, with fmt's text TOLD by the authors' own Lean function (tested against real Go, not proved from fmt's source: count such statements apart). THE CARD IS WHAT COUNTS. Prove the row's statement (the work); the ties are given (YtkjoolmkgpmlfaaDoorTie.lean); close each card by the builder's one call (the guide's Derived/Test/ToyasCard.lean, 'card_holds'). Laid BY PROGRAM, IN A SANDBOX (cutbox-door.mjs). By AI agents, Wed Nov 11 2026. No macro, syntax, notation, axiom, sorry.
-/
import Derived.Test.YtkjoolmkgpmlfaaDoorRows
import GoSem.ClaimSeven
namespace Go.Proofs.YtkjoolmkgpmlfaaDoor
namespace Rows

/-- THE TIED CARD OF 'umpirelaw20.AutoSteps'. -/
def autoStepsCard : Claim7 := { stood := { row := autoStepsRow, standIns := [], harness := (true, "cf6e3d2179a68b608705a1a0e354c240257d34b97dd84a784d0899bbda702ca2"), looks := false }, kinds := [], alts := [], laidByText := true, laidKinds := [.data], laidTests := true, laidLooks := .later }
def AutoStepsCardSaid : Prop := Claim7.holds Tryd.pinned (.plain (OpenSpec.ofChange autoStepsSpec)) autoStepsCard

/-- THE TIED CARD OF 'umpirelaw20.AutoRuns'. -/
def autoRunsCard : Claim7 := { stood := { row := autoRunsRow, standIns := [], harness := (true, "cf6e3d2179a68b608705a1a0e354c240257d34b97dd84a784d0899bbda702ca2"), looks := false }, kinds := [], alts := [], laidByText := true, laidKinds := [.data], laidTests := true, laidLooks := .later }
def AutoRunsCardSaid : Prop := Claim7.holds Tryd.pinned (.plain (OpenSpec.ofChange autoRunsSpec)) autoRunsCard

/-- THE TIED CARD OF 'umpirelaw20.AutoKeeps'. -/
def autoKeepsCard : Claim7 := { stood := { row := autoKeepsRow, standIns := [], harness := (true, "cf6e3d2179a68b608705a1a0e354c240257d34b97dd84a784d0899bbda702ca2"), looks := false }, kinds := [], alts := [], laidByText := true, laidKinds := [.data], laidTests := true, laidLooks := .later }
def AutoKeepsCardSaid : Prop := Claim7.holds Tryd.pinned (.plain (OpenSpec.ofChange autoKeepsSpec)) autoKeepsCard

/-- THE SECOND FORM's CARD OF 'umpirelaw20.AutoSteps'. -/
def autoStepsUptoCard : Claim7 := { stood := { row := autoStepsUptoRow, standIns := [], harness := (true, "cf6e3d2179a68b608705a1a0e354c240257d34b97dd84a784d0899bbda702ca2"), looks := false }, kinds := [], alts := [], laidByText := true, laidKinds := [.data], laidTests := true, laidLooks := .later }
def AutoStepsUptoCardSaid : Prop := Claim7.holds Tryd.pinned (.plain (OpenSpec.upto autoStepsSpec)) autoStepsUptoCard

/-- THE SECOND FORM's CARD OF 'umpirelaw20.AutoRuns'. -/
def autoRunsUptoCard : Claim7 := { stood := { row := autoRunsUptoRow, standIns := [], harness := (true, "cf6e3d2179a68b608705a1a0e354c240257d34b97dd84a784d0899bbda702ca2"), looks := false }, kinds := [], alts := [], laidByText := true, laidKinds := [.data], laidTests := true, laidLooks := .later }
def AutoRunsUptoCardSaid : Prop := Claim7.holds Tryd.pinned (.plain (OpenSpec.upto autoRunsSpec)) autoRunsUptoCard

/-- THE SECOND FORM's CARD OF 'umpirelaw20.AutoKeeps'. -/
def autoKeepsUptoCard : Claim7 := { stood := { row := autoKeepsUptoRow, standIns := [], harness := (true, "cf6e3d2179a68b608705a1a0e354c240257d34b97dd84a784d0899bbda702ca2"), looks := false }, kinds := [], alts := [], laidByText := true, laidKinds := [.data], laidTests := true, laidLooks := .later }
def AutoKeepsUptoCardSaid : Prop := Claim7.holds Tryd.pinned (.plain (OpenSpec.upto autoKeepsSpec)) autoKeepsUptoCard
end Rows
end Go.Proofs.YtkjoolmkgpmlfaaDoor
