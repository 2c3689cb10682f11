/- YticdhmcbooabaaaR1: the reachable cells where 1 or 2 requests may be sent. No claim. -/
import Derived.Test.YticdhmcbooabaaaR
set_option linter.unusedVariables false
set_option maxRecDepth 1000000
set_option maxHeartbeats 0
namespace Go.Proofs.Yticdhmcbooabaaa
open Go Go.Proofs.Yticdhmcbooabaaa.V

theorem r_1_1 : reachB 1 1 reach1 = true := by kernel_rfl
theorem r_1_2 : reachB 1 2 reach2 = true := by kernel_rfl
theorem r_1_3 : reachB 1 3 reach2 = true := by kernel_rfl
theorem r_1_4 : reachB 1 4 reach2 = true := by kernel_rfl
theorem r_2_1 : reachB 2 1 reach1 = true := by kernel_rfl
theorem r_2_2 : reachB 2 2 reach2 = true := by kernel_rfl
theorem r_2_3 : reachB 2 3 reach2 = true := by kernel_rfl
theorem r_2_4 : reachB 2 4 reach2 = true := by kernel_rfl
end Go.Proofs.Yticdhmcbooabaaa
