/- YticdhmcbooabaaaY: what every row asks of the program. No claim. -/
import Derived.Test.YticdhmcbooabaaaE
import Derived.Test.YticdhmcbooabaaaRows
import Derived.WalkKit
import Derived.ProofKit
import Derived.OpenShut
import Derived.JoinedOf
import Derived.SizedLaws
set_option maxRecDepth 100000
namespace Go.Proofs.Yticdhmcbooabaaa
open Go Go.RowKit
theorem y_laid : laidOutB Try.prog = true := by kernel_rfl
theorem y_maps : mapsRowed Try.prog = true := by kernel_rfl
theorem y_stops : (Try.prog.stops == []) = true := by kernel_rfl
theorem y_knobs : (Try.prog.stopKnobs == []) = true := by kernel_rfl
theorem y_plain : Try.prog.plainKeys = Rows.cellsBlankRow.plainKeys := by kernel_rfl
theorem y_heard : Try.prog.stopsHeard = true := by kernel_rfl
theorem y_enter : Try.prog.mayEnter = true := by kernel_rfl
theorem y_lifts : Try.prog.liftsFinal = Rows.cellsBlankRow.lifted := by kernel_rfl
theorem y_make : Try.prog.make = some Rows.cellsBlankRow.make := by kernel_rfl
end Go.Proofs.Yticdhmcbooabaaa
