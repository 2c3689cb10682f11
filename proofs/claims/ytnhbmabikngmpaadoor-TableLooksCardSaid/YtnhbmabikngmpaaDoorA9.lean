/- YtnhbmabikngmpaaDoorA9: the law TableLooks at state 9, by the evaluator. No claim. -/
import Derived.Test.YtnhbmabikngmpaaDoorE
set_option linter.unusedVariables false
set_option linter.unusedSimpArgs false
set_option maxRecDepth 100000
namespace Go.Proofs.YtnhbmabikngmpaaDoor
open Go Go.Proofs.YtnhbmabikngmpaaDoor.V
theorem looks_9_1 : Runs Tryd.prog env 3 [.pure false (.int .i64 (9 : Nat)), .pure false (.int .i64 (1 : Nat))] [] (.pure true (.bool true)) [] := ⟨200, by kernel_rfl⟩
theorem looks_9_2 : Runs Tryd.prog env 3 [.pure false (.int .i64 (9 : Nat)), .pure false (.int .i64 (2 : Nat))] [] (.pure true (.bool true)) [] := ⟨200, by kernel_rfl⟩
theorem looks_9_3 : Runs Tryd.prog env 3 [.pure false (.int .i64 (9 : Nat)), .pure false (.int .i64 (3 : Nat))] [] (.pure true (.bool true)) [] := ⟨200, by kernel_rfl⟩
theorem looks_9_4 : Runs Tryd.prog env 3 [.pure false (.int .i64 (9 : Nat)), .pure false (.int .i64 (4 : Nat))] [] (.pure true (.bool true)) [] := ⟨200, by kernel_rfl⟩
theorem looks_9_5 : Runs Tryd.prog env 3 [.pure false (.int .i64 (9 : Nat)), .pure false (.int .i64 (5 : Nat))] [] (.pure true (.bool true)) [] := ⟨200, by kernel_rfl⟩
theorem looks_9_6 : Runs Tryd.prog env 3 [.pure false (.int .i64 (9 : Nat)), .pure false (.int .i64 (6 : Nat))] [] (.pure true (.bool true)) [] := ⟨200, by kernel_rfl⟩
theorem looks_9_7 : Runs Tryd.prog env 3 [.pure false (.int .i64 (9 : Nat)), .pure false (.int .i64 (7 : Nat))] [] (.pure true (.bool true)) [] := ⟨200, by kernel_rfl⟩
theorem looks_9_8 : Runs Tryd.prog env 3 [.pure false (.int .i64 (9 : Nat)), .pure false (.int .i64 (8 : Nat))] [] (.pure true (.bool true)) [] := ⟨200, by kernel_rfl⟩
theorem looks_9_9 : Runs Tryd.prog env 3 [.pure false (.int .i64 (9 : Nat)), .pure false (.int .i64 (9 : Nat))] [] (.pure true (.bool true)) [] := ⟨200, by kernel_rfl⟩
theorem looks_9_10 : Runs Tryd.prog env 3 [.pure false (.int .i64 (9 : Nat)), .pure false (.int .i64 (10 : Nat))] [] (.pure true (.bool true)) [] := ⟨200, by kernel_rfl⟩
theorem looks_9_11 : Runs Tryd.prog env 3 [.pure false (.int .i64 (9 : Nat)), .pure false (.int .i64 (11 : Nat))] [] (.pure true (.bool true)) [] := ⟨200, by kernel_rfl⟩
theorem looks_9_12 : Runs Tryd.prog env 3 [.pure false (.int .i64 (9 : Nat)), .pure false (.int .i64 (12 : Nat))] [] (.pure true (.bool true)) [] := ⟨200, by kernel_rfl⟩
theorem looks_9_13 : Runs Tryd.prog env 3 [.pure false (.int .i64 (9 : Nat)), .pure false (.int .i64 (13 : Nat))] [] (.pure true (.bool true)) [] := ⟨200, by kernel_rfl⟩
theorem looks_9_14 : Runs Tryd.prog env 3 [.pure false (.int .i64 (9 : Nat)), .pure false (.int .i64 (14 : Nat))] [] (.pure true (.bool true)) [] := ⟨200, by kernel_rfl⟩
theorem looks_9_15 : Runs Tryd.prog env 3 [.pure false (.int .i64 (9 : Nat)), .pure false (.int .i64 (15 : Nat))] [] (.pure true (.bool true)) [] := ⟨200, by kernel_rfl⟩
theorem looks_9_16 : Runs Tryd.prog env 3 [.pure false (.int .i64 (9 : Nat)), .pure false (.int .i64 (16 : Nat))] [] (.pure true (.bool true)) [] := ⟨200, by kernel_rfl⟩
theorem looksRow_9 (e : Nat) (h1 : 1 ≤ e) (h2 : e ≤ 16) : Runs Tryd.prog env 3 [.pure false (.int .i64 (9 : Nat)), .pure false (.int .i64 e)] [] (.pure true (.bool true)) [] := by
  have h3 : e = 1 ∨ e = 2 ∨ e = 3 ∨ e = 4 ∨ e = 5 ∨ e = 6 ∨ e = 7 ∨ e = 8 ∨ e = 9 ∨ e = 10 ∨ e = 11 ∨ e = 12 ∨ e = 13 ∨ e = 14 ∨ e = 15 ∨ e = 16 := by omega
  rcases h3 with rfl | rfl | rfl | rfl | rfl | rfl | rfl | rfl | rfl | rfl | rfl | rfl | rfl | rfl | rfl | rfl
  · exact looks_9_1
  · exact looks_9_2
  · exact looks_9_3
  · exact looks_9_4
  · exact looks_9_5
  · exact looks_9_6
  · exact looks_9_7
  · exact looks_9_8
  · exact looks_9_9
  · exact looks_9_10
  · exact looks_9_11
  · exact looks_9_12
  · exact looks_9_13
  · exact looks_9_14
  · exact looks_9_15
  · exact looks_9_16
end Go.Proofs.YtnhbmabikngmpaaDoor
