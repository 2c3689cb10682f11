/- YticdhmcbooabaaaDoorY: what every row asks of the program. No claim. -/
import Derived.Test.YticdhmcbooabaaaDoorE
import Derived.Test.YticdhmcbooabaaaDoorRows
import Derived.WalkKit
import Derived.ProofKit
import Derived.OpenShut
import Derived.JoinedOf
import Derived.SizedLaws
set_option maxRecDepth 100000
namespace Go.Proofs.YticdhmcbooabaaaDoor
open Go Go.RowKit
theorem y_laid : laidOutB Tryd.prog = true := by kernel_rfl
theorem y_maps : mapsRowed Tryd.prog = true := by kernel_rfl
theorem y_stops : (Tryd.prog.stops == []) = true := by kernel_rfl
theorem y_knobs : (Tryd.prog.stopKnobs == []) = true := by kernel_rfl
theorem y_plain : Tryd.prog.plainKeys = Rows.cellsPlaysRow.plainKeys := by kernel_rfl
theorem y_heard : Tryd.prog.stopsHeard = true := by kernel_rfl
theorem y_enter : Tryd.prog.mayEnter = true := by kernel_rfl
theorem y_lifts : Tryd.prog.liftsFinal = Rows.cellsPlaysRow.lifted := by kernel_rfl
theorem y_make : Tryd.prog.make = some Rows.cellsPlaysRow.make := by kernel_rfl
end Go.Proofs.YticdhmcbooabaaaDoor
