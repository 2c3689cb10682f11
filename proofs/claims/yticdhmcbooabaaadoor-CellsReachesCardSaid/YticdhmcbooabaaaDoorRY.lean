/- YticdhmcbooabaaaDoorRY: parts of the proof of CellsReaches. No claim. -/
import Derived.Test.YticdhmcbooabaaaDoorUA
set_option linter.unusedVariables false
set_option linter.unusedSimpArgs false
set_option maxRecDepth 1000000
namespace Go.Proofs.YticdhmcbooabaaaDoor
open Go Go.Proofs.YticdhmcbooabaaaDoor.V

theorem r_1_1 : reachB 1 1 reach1 = true := by kernel_rfl
theorem r_1_2 : reachB 1 2 reach2 = true := by kernel_rfl
theorem r_1_3 : reachB 1 3 reach2 = true := by kernel_rfl
theorem r_1_4 : reachB 1 4 reach2 = true := by kernel_rfl
theorem r_2_1 : reachB 2 1 reach1 = true := by kernel_rfl
theorem r_2_3 : reachB 2 3 reach2 = true := by kernel_rfl
theorem r_2_4 : reachB 2 4 reach2 = true := by kernel_rfl

theorem r_3_1 : reachB 3 1 reach1 = true := by kernel_rfl
theorem r_3_2 : reachB 3 2 reach2 = true := by kernel_rfl
theorem r_3_3 : reachB 3 3 reach2 = true := by kernel_rfl
theorem r_3_4 : reachB 3 4 reach2 = true := by kernel_rfl
theorem r_4_1 : reachB 4 1 reach1 = true := by kernel_rfl
theorem r_4_2 : reachB 4 2 reach2 = true := by kernel_rfl
theorem r_4_3 : reachB 4 3 reach2 = true := by kernel_rfl
theorem r_4_4 : reachB 4 4 reach2 = true := by kernel_rfl

end Go.Proofs.YticdhmcbooabaaaDoor
