/- YtkjoolmkgpmlfaaDoorZF0: the document's table, cells of the states 0 and 1, each by the evaluator. No claim. -/
import Derived.Test.YtkjoolmkgpmlfaaDoorZT
set_option linter.unusedVariables false
set_option linter.unusedSimpArgs false
set_option maxRecDepth 100000
namespace Go.Proofs.YtkjoolmkgpmlfaaDoorZ
open Go Go.Proofs.YtkjoolmkgpmlfaaDoorZ.V
theorem rlook_0_1 (m m' : Bool) : Runs Tryd.prog env 18 [.pure m (.int .i64 (0 : Nat)), .pure m' (.int .i64 (1 : Nat))] [] (rlookR (cellT 0 1)) (rlookS (cellT 0 1)) := ⟨200, by kernel_rfl⟩
theorem rlook_0_2 (m m' : Bool) : Runs Tryd.prog env 18 [.pure m (.int .i64 (0 : Nat)), .pure m' (.int .i64 (2 : Nat))] [] (rlookR (cellT 0 2)) (rlookS (cellT 0 2)) := ⟨200, by kernel_rfl⟩
theorem rlook_0_3 (m m' : Bool) : Runs Tryd.prog env 18 [.pure m (.int .i64 (0 : Nat)), .pure m' (.int .i64 (3 : Nat))] [] (rlookR (cellT 0 3)) (rlookS (cellT 0 3)) := ⟨200, by kernel_rfl⟩
theorem rlook_0_4 (m m' : Bool) : Runs Tryd.prog env 18 [.pure m (.int .i64 (0 : Nat)), .pure m' (.int .i64 (4 : Nat))] [] (rlookR (cellT 0 4)) (rlookS (cellT 0 4)) := ⟨200, by kernel_rfl⟩
theorem rlook_0_5 (m m' : Bool) : Runs Tryd.prog env 18 [.pure m (.int .i64 (0 : Nat)), .pure m' (.int .i64 (5 : Nat))] [] (rlookR (cellT 0 5)) (rlookS (cellT 0 5)) := ⟨200, by kernel_rfl⟩
theorem rlook_0_6 (m m' : Bool) : Runs Tryd.prog env 18 [.pure m (.int .i64 (0 : Nat)), .pure m' (.int .i64 (6 : Nat))] [] (rlookR (cellT 0 6)) (rlookS (cellT 0 6)) := ⟨200, by kernel_rfl⟩
theorem rlook_0_7 (m m' : Bool) : Runs Tryd.prog env 18 [.pure m (.int .i64 (0 : Nat)), .pure m' (.int .i64 (7 : Nat))] [] (rlookR (cellT 0 7)) (rlookS (cellT 0 7)) := ⟨200, by kernel_rfl⟩
theorem rlook_0_8 (m m' : Bool) : Runs Tryd.prog env 18 [.pure m (.int .i64 (0 : Nat)), .pure m' (.int .i64 (8 : Nat))] [] (rlookR (cellT 0 8)) (rlookS (cellT 0 8)) := ⟨200, by kernel_rfl⟩
theorem rlook_0_9 (m m' : Bool) : Runs Tryd.prog env 18 [.pure m (.int .i64 (0 : Nat)), .pure m' (.int .i64 (9 : Nat))] [] (rlookR (cellT 0 9)) (rlookS (cellT 0 9)) := ⟨200, by kernel_rfl⟩
theorem rlook_0_10 (m m' : Bool) : Runs Tryd.prog env 18 [.pure m (.int .i64 (0 : Nat)), .pure m' (.int .i64 (10 : Nat))] [] (rlookR (cellT 0 10)) (rlookS (cellT 0 10)) := ⟨200, by kernel_rfl⟩
theorem rlook_0_11 (m m' : Bool) : Runs Tryd.prog env 18 [.pure m (.int .i64 (0 : Nat)), .pure m' (.int .i64 (11 : Nat))] [] (rlookR (cellT 0 11)) (rlookS (cellT 0 11)) := ⟨200, by kernel_rfl⟩
theorem rlook_0_12 (m m' : Bool) : Runs Tryd.prog env 18 [.pure m (.int .i64 (0 : Nat)), .pure m' (.int .i64 (12 : Nat))] [] (rlookR (cellT 0 12)) (rlookS (cellT 0 12)) := ⟨200, by kernel_rfl⟩
theorem rlook_0_13 (m m' : Bool) : Runs Tryd.prog env 18 [.pure m (.int .i64 (0 : Nat)), .pure m' (.int .i64 (13 : Nat))] [] (rlookR (cellT 0 13)) (rlookS (cellT 0 13)) := ⟨200, by kernel_rfl⟩
theorem rlook_0_14 (m m' : Bool) : Runs Tryd.prog env 18 [.pure m (.int .i64 (0 : Nat)), .pure m' (.int .i64 (14 : Nat))] [] (rlookR (cellT 0 14)) (rlookS (cellT 0 14)) := ⟨200, by kernel_rfl⟩
theorem rlook_0_15 (m m' : Bool) : Runs Tryd.prog env 18 [.pure m (.int .i64 (0 : Nat)), .pure m' (.int .i64 (15 : Nat))] [] (rlookR (cellT 0 15)) (rlookS (cellT 0 15)) := ⟨200, by kernel_rfl⟩
theorem rlook_0_16 (m m' : Bool) : Runs Tryd.prog env 18 [.pure m (.int .i64 (0 : Nat)), .pure m' (.int .i64 (16 : Nat))] [] (rlookR (cellT 0 16)) (rlookS (cellT 0 16)) := ⟨200, by kernel_rfl⟩
theorem rlookRow_0 (e : Nat) (h1 : 1 ≤ e) (h2 : e ≤ 16) (m m' : Bool) : Runs Tryd.prog env 18 [.pure m (.int .i64 (0 : Nat)), .pure m' (.int .i64 e)] [] (rlookR (cellT 0 e)) (rlookS (cellT 0 e)) := by
  have h3 : e = 1 ∨ e = 2 ∨ e = 3 ∨ e = 4 ∨ e = 5 ∨ e = 6 ∨ e = 7 ∨ e = 8 ∨ e = 9 ∨ e = 10 ∨ e = 11 ∨ e = 12 ∨ e = 13 ∨ e = 14 ∨ e = 15 ∨ e = 16 := by omega
  rcases h3 with rfl | rfl | rfl | rfl | rfl | rfl | rfl | rfl | rfl | rfl | rfl | rfl | rfl | rfl | rfl | rfl
  · exact rlook_0_1 m m'
  · exact rlook_0_2 m m'
  · exact rlook_0_3 m m'
  · exact rlook_0_4 m m'
  · exact rlook_0_5 m m'
  · exact rlook_0_6 m m'
  · exact rlook_0_7 m m'
  · exact rlook_0_8 m m'
  · exact rlook_0_9 m m'
  · exact rlook_0_10 m m'
  · exact rlook_0_11 m m'
  · exact rlook_0_12 m m'
  · exact rlook_0_13 m m'
  · exact rlook_0_14 m m'
  · exact rlook_0_15 m m'
  · exact rlook_0_16 m m'
theorem rlook_1_1 (m m' : Bool) : Runs Tryd.prog env 18 [.pure m (.int .i64 (1 : Nat)), .pure m' (.int .i64 (1 : Nat))] [] (rlookR (cellT 1 1)) (rlookS (cellT 1 1)) := ⟨200, by kernel_rfl⟩
theorem rlook_1_2 (m m' : Bool) : Runs Tryd.prog env 18 [.pure m (.int .i64 (1 : Nat)), .pure m' (.int .i64 (2 : Nat))] [] (rlookR (cellT 1 2)) (rlookS (cellT 1 2)) := ⟨200, by kernel_rfl⟩
theorem rlook_1_3 (m m' : Bool) : Runs Tryd.prog env 18 [.pure m (.int .i64 (1 : Nat)), .pure m' (.int .i64 (3 : Nat))] [] (rlookR (cellT 1 3)) (rlookS (cellT 1 3)) := ⟨200, by kernel_rfl⟩
theorem rlook_1_4 (m m' : Bool) : Runs Tryd.prog env 18 [.pure m (.int .i64 (1 : Nat)), .pure m' (.int .i64 (4 : Nat))] [] (rlookR (cellT 1 4)) (rlookS (cellT 1 4)) := ⟨200, by kernel_rfl⟩
theorem rlook_1_5 (m m' : Bool) : Runs Tryd.prog env 18 [.pure m (.int .i64 (1 : Nat)), .pure m' (.int .i64 (5 : Nat))] [] (rlookR (cellT 1 5)) (rlookS (cellT 1 5)) := ⟨200, by kernel_rfl⟩
theorem rlook_1_6 (m m' : Bool) : Runs Tryd.prog env 18 [.pure m (.int .i64 (1 : Nat)), .pure m' (.int .i64 (6 : Nat))] [] (rlookR (cellT 1 6)) (rlookS (cellT 1 6)) := ⟨200, by kernel_rfl⟩
theorem rlook_1_7 (m m' : Bool) : Runs Tryd.prog env 18 [.pure m (.int .i64 (1 : Nat)), .pure m' (.int .i64 (7 : Nat))] [] (rlookR (cellT 1 7)) (rlookS (cellT 1 7)) := ⟨200, by kernel_rfl⟩
theorem rlook_1_8 (m m' : Bool) : Runs Tryd.prog env 18 [.pure m (.int .i64 (1 : Nat)), .pure m' (.int .i64 (8 : Nat))] [] (rlookR (cellT 1 8)) (rlookS (cellT 1 8)) := ⟨200, by kernel_rfl⟩
theorem rlook_1_9 (m m' : Bool) : Runs Tryd.prog env 18 [.pure m (.int .i64 (1 : Nat)), .pure m' (.int .i64 (9 : Nat))] [] (rlookR (cellT 1 9)) (rlookS (cellT 1 9)) := ⟨200, by kernel_rfl⟩
theorem rlook_1_10 (m m' : Bool) : Runs Tryd.prog env 18 [.pure m (.int .i64 (1 : Nat)), .pure m' (.int .i64 (10 : Nat))] [] (rlookR (cellT 1 10)) (rlookS (cellT 1 10)) := ⟨200, by kernel_rfl⟩
theorem rlook_1_11 (m m' : Bool) : Runs Tryd.prog env 18 [.pure m (.int .i64 (1 : Nat)), .pure m' (.int .i64 (11 : Nat))] [] (rlookR (cellT 1 11)) (rlookS (cellT 1 11)) := ⟨200, by kernel_rfl⟩
theorem rlook_1_12 (m m' : Bool) : Runs Tryd.prog env 18 [.pure m (.int .i64 (1 : Nat)), .pure m' (.int .i64 (12 : Nat))] [] (rlookR (cellT 1 12)) (rlookS (cellT 1 12)) := ⟨200, by kernel_rfl⟩
theorem rlook_1_13 (m m' : Bool) : Runs Tryd.prog env 18 [.pure m (.int .i64 (1 : Nat)), .pure m' (.int .i64 (13 : Nat))] [] (rlookR (cellT 1 13)) (rlookS (cellT 1 13)) := ⟨200, by kernel_rfl⟩
theorem rlook_1_14 (m m' : Bool) : Runs Tryd.prog env 18 [.pure m (.int .i64 (1 : Nat)), .pure m' (.int .i64 (14 : Nat))] [] (rlookR (cellT 1 14)) (rlookS (cellT 1 14)) := ⟨200, by kernel_rfl⟩
theorem rlook_1_15 (m m' : Bool) : Runs Tryd.prog env 18 [.pure m (.int .i64 (1 : Nat)), .pure m' (.int .i64 (15 : Nat))] [] (rlookR (cellT 1 15)) (rlookS (cellT 1 15)) := ⟨200, by kernel_rfl⟩
theorem rlook_1_16 (m m' : Bool) : Runs Tryd.prog env 18 [.pure m (.int .i64 (1 : Nat)), .pure m' (.int .i64 (16 : Nat))] [] (rlookR (cellT 1 16)) (rlookS (cellT 1 16)) := ⟨200, by kernel_rfl⟩
theorem rlookRow_1 (e : Nat) (h1 : 1 ≤ e) (h2 : e ≤ 16) (m m' : Bool) : Runs Tryd.prog env 18 [.pure m (.int .i64 (1 : Nat)), .pure m' (.int .i64 e)] [] (rlookR (cellT 1 e)) (rlookS (cellT 1 e)) := by
  have h3 : e = 1 ∨ e = 2 ∨ e = 3 ∨ e = 4 ∨ e = 5 ∨ e = 6 ∨ e = 7 ∨ e = 8 ∨ e = 9 ∨ e = 10 ∨ e = 11 ∨ e = 12 ∨ e = 13 ∨ e = 14 ∨ e = 15 ∨ e = 16 := by omega
  rcases h3 with rfl | rfl | rfl | rfl | rfl | rfl | rfl | rfl | rfl | rfl | rfl | rfl | rfl | rfl | rfl | rfl
  · exact rlook_1_1 m m'
  · exact rlook_1_2 m m'
  · exact rlook_1_3 m m'
  · exact rlook_1_4 m m'
  · exact rlook_1_5 m m'
  · exact rlook_1_6 m m'
  · exact rlook_1_7 m m'
  · exact rlook_1_8 m m'
  · exact rlook_1_9 m m'
  · exact rlook_1_10 m m'
  · exact rlook_1_11 m m'
  · exact rlook_1_12 m m'
  · exact rlook_1_13 m m'
  · exact rlook_1_14 m m'
  · exact rlook_1_15 m m'
  · exact rlook_1_16 m m'
end Go.Proofs.YtkjoolmkgpmlfaaDoorZ
