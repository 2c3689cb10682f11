/- YticdhmcbooabaaaR3: the reachable cells where 3 or 4 requests may be sent. No claim. -/
import Derived.Test.YticdhmcbooabaaaR
set_option linter.unusedVariables false
set_option maxRecDepth 1000000
set_option maxHeartbeats 0
namespace Go.Proofs.Yticdhmcbooabaaa
open Go Go.Proofs.Yticdhmcbooabaaa.V

theorem r_3_1 : reachB 3 1 reach1 = true := by kernel_rfl
theorem r_3_2 : reachB 3 2 reach2 = true := by kernel_rfl
theorem r_3_3 : reachB 3 3 reach2 = true := by kernel_rfl
theorem r_3_4 : reachB 3 4 reach2 = true := by kernel_rfl
theorem r_4_1 : reachB 4 1 reach1 = true := by kernel_rfl
theorem r_4_2 : reachB 4 2 reach2 = true := by kernel_rfl
theorem r_4_3 : reachB 4 3 reach2 = true := by kernel_rfl
theorem r_4_4 : reachB 4 4 reach2 = true := by kernel_rfl
end Go.Proofs.Yticdhmcbooabaaa
