/- YtkjoolmkgpmlfaaDoorZF4: the document's table, cells of the states 8 and 9, each by the evaluator. No claim. -/
import Derived.Test.YtkjoolmkgpmlfaaDoorZT
set_option linter.unusedVariables false
set_option linter.unusedSimpArgs false
set_option maxRecDepth 100000
namespace Go.Proofs.YtkjoolmkgpmlfaaDoorZ
open Go Go.Proofs.YtkjoolmkgpmlfaaDoorZ.V
theorem rlook_8_1 (m m' : Bool) : Runs Tryd.prog env 18 [.pure m (.int .i64 (8 : Nat)), .pure m' (.int .i64 (1 : Nat))] [] (rlookR (cellT 8 1)) (rlookS (cellT 8 1)) := ⟨200, by kernel_rfl⟩
theorem rlook_8_2 (m m' : Bool) : Runs Tryd.prog env 18 [.pure m (.int .i64 (8 : Nat)), .pure m' (.int .i64 (2 : Nat))] [] (rlookR (cellT 8 2)) (rlookS (cellT 8 2)) := ⟨200, by kernel_rfl⟩
theorem rlook_8_3 (m m' : Bool) : Runs Tryd.prog env 18 [.pure m (.int .i64 (8 : Nat)), .pure m' (.int .i64 (3 : Nat))] [] (rlookR (cellT 8 3)) (rlookS (cellT 8 3)) := ⟨200, by kernel_rfl⟩
theorem rlook_8_4 (m m' : Bool) : Runs Tryd.prog env 18 [.pure m (.int .i64 (8 : Nat)), .pure m' (.int .i64 (4 : Nat))] [] (rlookR (cellT 8 4)) (rlookS (cellT 8 4)) := ⟨200, by kernel_rfl⟩
theorem rlook_8_5 (m m' : Bool) : Runs Tryd.prog env 18 [.pure m (.int .i64 (8 : Nat)), .pure m' (.int .i64 (5 : Nat))] [] (rlookR (cellT 8 5)) (rlookS (cellT 8 5)) := ⟨200, by kernel_rfl⟩
theorem rlook_8_6 (m m' : Bool) : Runs Tryd.prog env 18 [.pure m (.int .i64 (8 : Nat)), .pure m' (.int .i64 (6 : Nat))] [] (rlookR (cellT 8 6)) (rlookS (cellT 8 6)) := ⟨200, by kernel_rfl⟩
theorem rlook_8_7 (m m' : Bool) : Runs Tryd.prog env 18 [.pure m (.int .i64 (8 : Nat)), .pure m' (.int .i64 (7 : Nat))] [] (rlookR (cellT 8 7)) (rlookS (cellT 8 7)) := ⟨200, by kernel_rfl⟩
theorem rlook_8_8 (m m' : Bool) : Runs Tryd.prog env 18 [.pure m (.int .i64 (8 : Nat)), .pure m' (.int .i64 (8 : Nat))] [] (rlookR (cellT 8 8)) (rlookS (cellT 8 8)) := ⟨200, by kernel_rfl⟩
theorem rlook_8_9 (m m' : Bool) : Runs Tryd.prog env 18 [.pure m (.int .i64 (8 : Nat)), .pure m' (.int .i64 (9 : Nat))] [] (rlookR (cellT 8 9)) (rlookS (cellT 8 9)) := ⟨200, by kernel_rfl⟩
theorem rlook_8_10 (m m' : Bool) : Runs Tryd.prog env 18 [.pure m (.int .i64 (8 : Nat)), .pure m' (.int .i64 (10 : Nat))] [] (rlookR (cellT 8 10)) (rlookS (cellT 8 10)) := ⟨200, by kernel_rfl⟩
theorem rlook_8_11 (m m' : Bool) : Runs Tryd.prog env 18 [.pure m (.int .i64 (8 : Nat)), .pure m' (.int .i64 (11 : Nat))] [] (rlookR (cellT 8 11)) (rlookS (cellT 8 11)) := ⟨200, by kernel_rfl⟩
theorem rlook_8_12 (m m' : Bool) : Runs Tryd.prog env 18 [.pure m (.int .i64 (8 : Nat)), .pure m' (.int .i64 (12 : Nat))] [] (rlookR (cellT 8 12)) (rlookS (cellT 8 12)) := ⟨200, by kernel_rfl⟩
theorem rlook_8_13 (m m' : Bool) : Runs Tryd.prog env 18 [.pure m (.int .i64 (8 : Nat)), .pure m' (.int .i64 (13 : Nat))] [] (rlookR (cellT 8 13)) (rlookS (cellT 8 13)) := ⟨200, by kernel_rfl⟩
theorem rlook_8_14 (m m' : Bool) : Runs Tryd.prog env 18 [.pure m (.int .i64 (8 : Nat)), .pure m' (.int .i64 (14 : Nat))] [] (rlookR (cellT 8 14)) (rlookS (cellT 8 14)) := ⟨200, by kernel_rfl⟩
theorem rlook_8_15 (m m' : Bool) : Runs Tryd.prog env 18 [.pure m (.int .i64 (8 : Nat)), .pure m' (.int .i64 (15 : Nat))] [] (rlookR (cellT 8 15)) (rlookS (cellT 8 15)) := ⟨200, by kernel_rfl⟩
theorem rlook_8_16 (m m' : Bool) : Runs Tryd.prog env 18 [.pure m (.int .i64 (8 : Nat)), .pure m' (.int .i64 (16 : Nat))] [] (rlookR (cellT 8 16)) (rlookS (cellT 8 16)) := ⟨200, by kernel_rfl⟩
theorem rlookRow_8 (e : Nat) (h1 : 1 ≤ e) (h2 : e ≤ 16) (m m' : Bool) : Runs Tryd.prog env 18 [.pure m (.int .i64 (8 : Nat)), .pure m' (.int .i64 e)] [] (rlookR (cellT 8 e)) (rlookS (cellT 8 e)) := by
  have h3 : e = 1 ∨ e = 2 ∨ e = 3 ∨ e = 4 ∨ e = 5 ∨ e = 6 ∨ e = 7 ∨ e = 8 ∨ e = 9 ∨ e = 10 ∨ e = 11 ∨ e = 12 ∨ e = 13 ∨ e = 14 ∨ e = 15 ∨ e = 16 := by omega
  rcases h3 with rfl | rfl | rfl | rfl | rfl | rfl | rfl | rfl | rfl | rfl | rfl | rfl | rfl | rfl | rfl | rfl
  · exact rlook_8_1 m m'
  · exact rlook_8_2 m m'
  · exact rlook_8_3 m m'
  · exact rlook_8_4 m m'
  · exact rlook_8_5 m m'
  · exact rlook_8_6 m m'
  · exact rlook_8_7 m m'
  · exact rlook_8_8 m m'
  · exact rlook_8_9 m m'
  · exact rlook_8_10 m m'
  · exact rlook_8_11 m m'
  · exact rlook_8_12 m m'
  · exact rlook_8_13 m m'
  · exact rlook_8_14 m m'
  · exact rlook_8_15 m m'
  · exact rlook_8_16 m m'
theorem rlook_9_1 (m m' : Bool) : Runs Tryd.prog env 18 [.pure m (.int .i64 (9 : Nat)), .pure m' (.int .i64 (1 : Nat))] [] (rlookR (cellT 9 1)) (rlookS (cellT 9 1)) := ⟨200, by kernel_rfl⟩
theorem rlook_9_2 (m m' : Bool) : Runs Tryd.prog env 18 [.pure m (.int .i64 (9 : Nat)), .pure m' (.int .i64 (2 : Nat))] [] (rlookR (cellT 9 2)) (rlookS (cellT 9 2)) := ⟨200, by kernel_rfl⟩
theorem rlook_9_3 (m m' : Bool) : Runs Tryd.prog env 18 [.pure m (.int .i64 (9 : Nat)), .pure m' (.int .i64 (3 : Nat))] [] (rlookR (cellT 9 3)) (rlookS (cellT 9 3)) := ⟨200, by kernel_rfl⟩
theorem rlook_9_4 (m m' : Bool) : Runs Tryd.prog env 18 [.pure m (.int .i64 (9 : Nat)), .pure m' (.int .i64 (4 : Nat))] [] (rlookR (cellT 9 4)) (rlookS (cellT 9 4)) := ⟨200, by kernel_rfl⟩
theorem rlook_9_5 (m m' : Bool) : Runs Tryd.prog env 18 [.pure m (.int .i64 (9 : Nat)), .pure m' (.int .i64 (5 : Nat))] [] (rlookR (cellT 9 5)) (rlookS (cellT 9 5)) := ⟨200, by kernel_rfl⟩
theorem rlook_9_6 (m m' : Bool) : Runs Tryd.prog env 18 [.pure m (.int .i64 (9 : Nat)), .pure m' (.int .i64 (6 : Nat))] [] (rlookR (cellT 9 6)) (rlookS (cellT 9 6)) := ⟨200, by kernel_rfl⟩
theorem rlook_9_7 (m m' : Bool) : Runs Tryd.prog env 18 [.pure m (.int .i64 (9 : Nat)), .pure m' (.int .i64 (7 : Nat))] [] (rlookR (cellT 9 7)) (rlookS (cellT 9 7)) := ⟨200, by kernel_rfl⟩
theorem rlook_9_8 (m m' : Bool) : Runs Tryd.prog env 18 [.pure m (.int .i64 (9 : Nat)), .pure m' (.int .i64 (8 : Nat))] [] (rlookR (cellT 9 8)) (rlookS (cellT 9 8)) := ⟨200, by kernel_rfl⟩
theorem rlook_9_9 (m m' : Bool) : Runs Tryd.prog env 18 [.pure m (.int .i64 (9 : Nat)), .pure m' (.int .i64 (9 : Nat))] [] (rlookR (cellT 9 9)) (rlookS (cellT 9 9)) := ⟨200, by kernel_rfl⟩
theorem rlook_9_10 (m m' : Bool) : Runs Tryd.prog env 18 [.pure m (.int .i64 (9 : Nat)), .pure m' (.int .i64 (10 : Nat))] [] (rlookR (cellT 9 10)) (rlookS (cellT 9 10)) := ⟨200, by kernel_rfl⟩
theorem rlook_9_11 (m m' : Bool) : Runs Tryd.prog env 18 [.pure m (.int .i64 (9 : Nat)), .pure m' (.int .i64 (11 : Nat))] [] (rlookR (cellT 9 11)) (rlookS (cellT 9 11)) := ⟨200, by kernel_rfl⟩
theorem rlook_9_12 (m m' : Bool) : Runs Tryd.prog env 18 [.pure m (.int .i64 (9 : Nat)), .pure m' (.int .i64 (12 : Nat))] [] (rlookR (cellT 9 12)) (rlookS (cellT 9 12)) := ⟨200, by kernel_rfl⟩
theorem rlook_9_13 (m m' : Bool) : Runs Tryd.prog env 18 [.pure m (.int .i64 (9 : Nat)), .pure m' (.int .i64 (13 : Nat))] [] (rlookR (cellT 9 13)) (rlookS (cellT 9 13)) := ⟨200, by kernel_rfl⟩
theorem rlook_9_14 (m m' : Bool) : Runs Tryd.prog env 18 [.pure m (.int .i64 (9 : Nat)), .pure m' (.int .i64 (14 : Nat))] [] (rlookR (cellT 9 14)) (rlookS (cellT 9 14)) := ⟨200, by kernel_rfl⟩
theorem rlook_9_15 (m m' : Bool) : Runs Tryd.prog env 18 [.pure m (.int .i64 (9 : Nat)), .pure m' (.int .i64 (15 : Nat))] [] (rlookR (cellT 9 15)) (rlookS (cellT 9 15)) := ⟨200, by kernel_rfl⟩
theorem rlook_9_16 (m m' : Bool) : Runs Tryd.prog env 18 [.pure m (.int .i64 (9 : Nat)), .pure m' (.int .i64 (16 : Nat))] [] (rlookR (cellT 9 16)) (rlookS (cellT 9 16)) := ⟨200, by kernel_rfl⟩
theorem rlookRow_9 (e : Nat) (h1 : 1 ≤ e) (h2 : e ≤ 16) (m m' : Bool) : Runs Tryd.prog env 18 [.pure m (.int .i64 (9 : Nat)), .pure m' (.int .i64 e)] [] (rlookR (cellT 9 e)) (rlookS (cellT 9 e)) := by
  have h3 : e = 1 ∨ e = 2 ∨ e = 3 ∨ e = 4 ∨ e = 5 ∨ e = 6 ∨ e = 7 ∨ e = 8 ∨ e = 9 ∨ e = 10 ∨ e = 11 ∨ e = 12 ∨ e = 13 ∨ e = 14 ∨ e = 15 ∨ e = 16 := by omega
  rcases h3 with rfl | rfl | rfl | rfl | rfl | rfl | rfl | rfl | rfl | rfl | rfl | rfl | rfl | rfl | rfl | rfl
  · exact rlook_9_1 m m'
  · exact rlook_9_2 m m'
  · exact rlook_9_3 m m'
  · exact rlook_9_4 m m'
  · exact rlook_9_5 m m'
  · exact rlook_9_6 m m'
  · exact rlook_9_7 m m'
  · exact rlook_9_8 m m'
  · exact rlook_9_9 m m'
  · exact rlook_9_10 m m'
  · exact rlook_9_11 m m'
  · exact rlook_9_12 m m'
  · exact rlook_9_13 m m'
  · exact rlook_9_14 m m'
  · exact rlook_9_15 m m'
  · exact rlook_9_16 m m'
end Go.Proofs.YtkjoolmkgpmlfaaDoorZ
