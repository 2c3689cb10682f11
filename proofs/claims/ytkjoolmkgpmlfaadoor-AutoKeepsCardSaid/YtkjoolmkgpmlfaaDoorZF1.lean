/- YtkjoolmkgpmlfaaDoorZF1: the document's table, cells of the states 2 and 3, each by the evaluator. No claim. -/
import Derived.Test.YtkjoolmkgpmlfaaDoorZT
set_option linter.unusedVariables false
set_option linter.unusedSimpArgs false
set_option maxRecDepth 100000
namespace Go.Proofs.YtkjoolmkgpmlfaaDoorZ
open Go Go.Proofs.YtkjoolmkgpmlfaaDoorZ.V
theorem rlook_2_1 (m m' : Bool) : Runs Tryd.prog env 18 [.pure m (.int .i64 (2 : Nat)), .pure m' (.int .i64 (1 : Nat))] [] (rlookR (cellT 2 1)) (rlookS (cellT 2 1)) := ⟨200, by kernel_rfl⟩
theorem rlook_2_2 (m m' : Bool) : Runs Tryd.prog env 18 [.pure m (.int .i64 (2 : Nat)), .pure m' (.int .i64 (2 : Nat))] [] (rlookR (cellT 2 2)) (rlookS (cellT 2 2)) := ⟨200, by kernel_rfl⟩
theorem rlook_2_3 (m m' : Bool) : Runs Tryd.prog env 18 [.pure m (.int .i64 (2 : Nat)), .pure m' (.int .i64 (3 : Nat))] [] (rlookR (cellT 2 3)) (rlookS (cellT 2 3)) := ⟨200, by kernel_rfl⟩
theorem rlook_2_4 (m m' : Bool) : Runs Tryd.prog env 18 [.pure m (.int .i64 (2 : Nat)), .pure m' (.int .i64 (4 : Nat))] [] (rlookR (cellT 2 4)) (rlookS (cellT 2 4)) := ⟨200, by kernel_rfl⟩
theorem rlook_2_5 (m m' : Bool) : Runs Tryd.prog env 18 [.pure m (.int .i64 (2 : Nat)), .pure m' (.int .i64 (5 : Nat))] [] (rlookR (cellT 2 5)) (rlookS (cellT 2 5)) := ⟨200, by kernel_rfl⟩
theorem rlook_2_6 (m m' : Bool) : Runs Tryd.prog env 18 [.pure m (.int .i64 (2 : Nat)), .pure m' (.int .i64 (6 : Nat))] [] (rlookR (cellT 2 6)) (rlookS (cellT 2 6)) := ⟨200, by kernel_rfl⟩
theorem rlook_2_7 (m m' : Bool) : Runs Tryd.prog env 18 [.pure m (.int .i64 (2 : Nat)), .pure m' (.int .i64 (7 : Nat))] [] (rlookR (cellT 2 7)) (rlookS (cellT 2 7)) := ⟨200, by kernel_rfl⟩
theorem rlook_2_8 (m m' : Bool) : Runs Tryd.prog env 18 [.pure m (.int .i64 (2 : Nat)), .pure m' (.int .i64 (8 : Nat))] [] (rlookR (cellT 2 8)) (rlookS (cellT 2 8)) := ⟨200, by kernel_rfl⟩
theorem rlook_2_9 (m m' : Bool) : Runs Tryd.prog env 18 [.pure m (.int .i64 (2 : Nat)), .pure m' (.int .i64 (9 : Nat))] [] (rlookR (cellT 2 9)) (rlookS (cellT 2 9)) := ⟨200, by kernel_rfl⟩
theorem rlook_2_10 (m m' : Bool) : Runs Tryd.prog env 18 [.pure m (.int .i64 (2 : Nat)), .pure m' (.int .i64 (10 : Nat))] [] (rlookR (cellT 2 10)) (rlookS (cellT 2 10)) := ⟨200, by kernel_rfl⟩
theorem rlook_2_11 (m m' : Bool) : Runs Tryd.prog env 18 [.pure m (.int .i64 (2 : Nat)), .pure m' (.int .i64 (11 : Nat))] [] (rlookR (cellT 2 11)) (rlookS (cellT 2 11)) := ⟨200, by kernel_rfl⟩
theorem rlook_2_12 (m m' : Bool) : Runs Tryd.prog env 18 [.pure m (.int .i64 (2 : Nat)), .pure m' (.int .i64 (12 : Nat))] [] (rlookR (cellT 2 12)) (rlookS (cellT 2 12)) := ⟨200, by kernel_rfl⟩
theorem rlook_2_13 (m m' : Bool) : Runs Tryd.prog env 18 [.pure m (.int .i64 (2 : Nat)), .pure m' (.int .i64 (13 : Nat))] [] (rlookR (cellT 2 13)) (rlookS (cellT 2 13)) := ⟨200, by kernel_rfl⟩
theorem rlook_2_14 (m m' : Bool) : Runs Tryd.prog env 18 [.pure m (.int .i64 (2 : Nat)), .pure m' (.int .i64 (14 : Nat))] [] (rlookR (cellT 2 14)) (rlookS (cellT 2 14)) := ⟨200, by kernel_rfl⟩
theorem rlook_2_15 (m m' : Bool) : Runs Tryd.prog env 18 [.pure m (.int .i64 (2 : Nat)), .pure m' (.int .i64 (15 : Nat))] [] (rlookR (cellT 2 15)) (rlookS (cellT 2 15)) := ⟨200, by kernel_rfl⟩
theorem rlook_2_16 (m m' : Bool) : Runs Tryd.prog env 18 [.pure m (.int .i64 (2 : Nat)), .pure m' (.int .i64 (16 : Nat))] [] (rlookR (cellT 2 16)) (rlookS (cellT 2 16)) := ⟨200, by kernel_rfl⟩
theorem rlookRow_2 (e : Nat) (h1 : 1 ≤ e) (h2 : e ≤ 16) (m m' : Bool) : Runs Tryd.prog env 18 [.pure m (.int .i64 (2 : Nat)), .pure m' (.int .i64 e)] [] (rlookR (cellT 2 e)) (rlookS (cellT 2 e)) := by
  have h3 : e = 1 ∨ e = 2 ∨ e = 3 ∨ e = 4 ∨ e = 5 ∨ e = 6 ∨ e = 7 ∨ e = 8 ∨ e = 9 ∨ e = 10 ∨ e = 11 ∨ e = 12 ∨ e = 13 ∨ e = 14 ∨ e = 15 ∨ e = 16 := by omega
  rcases h3 with rfl | rfl | rfl | rfl | rfl | rfl | rfl | rfl | rfl | rfl | rfl | rfl | rfl | rfl | rfl | rfl
  · exact rlook_2_1 m m'
  · exact rlook_2_2 m m'
  · exact rlook_2_3 m m'
  · exact rlook_2_4 m m'
  · exact rlook_2_5 m m'
  · exact rlook_2_6 m m'
  · exact rlook_2_7 m m'
  · exact rlook_2_8 m m'
  · exact rlook_2_9 m m'
  · exact rlook_2_10 m m'
  · exact rlook_2_11 m m'
  · exact rlook_2_12 m m'
  · exact rlook_2_13 m m'
  · exact rlook_2_14 m m'
  · exact rlook_2_15 m m'
  · exact rlook_2_16 m m'
theorem rlook_3_1 (m m' : Bool) : Runs Tryd.prog env 18 [.pure m (.int .i64 (3 : Nat)), .pure m' (.int .i64 (1 : Nat))] [] (rlookR (cellT 3 1)) (rlookS (cellT 3 1)) := ⟨200, by kernel_rfl⟩
theorem rlook_3_2 (m m' : Bool) : Runs Tryd.prog env 18 [.pure m (.int .i64 (3 : Nat)), .pure m' (.int .i64 (2 : Nat))] [] (rlookR (cellT 3 2)) (rlookS (cellT 3 2)) := ⟨200, by kernel_rfl⟩
theorem rlook_3_3 (m m' : Bool) : Runs Tryd.prog env 18 [.pure m (.int .i64 (3 : Nat)), .pure m' (.int .i64 (3 : Nat))] [] (rlookR (cellT 3 3)) (rlookS (cellT 3 3)) := ⟨200, by kernel_rfl⟩
theorem rlook_3_4 (m m' : Bool) : Runs Tryd.prog env 18 [.pure m (.int .i64 (3 : Nat)), .pure m' (.int .i64 (4 : Nat))] [] (rlookR (cellT 3 4)) (rlookS (cellT 3 4)) := ⟨200, by kernel_rfl⟩
theorem rlook_3_5 (m m' : Bool) : Runs Tryd.prog env 18 [.pure m (.int .i64 (3 : Nat)), .pure m' (.int .i64 (5 : Nat))] [] (rlookR (cellT 3 5)) (rlookS (cellT 3 5)) := ⟨200, by kernel_rfl⟩
theorem rlook_3_6 (m m' : Bool) : Runs Tryd.prog env 18 [.pure m (.int .i64 (3 : Nat)), .pure m' (.int .i64 (6 : Nat))] [] (rlookR (cellT 3 6)) (rlookS (cellT 3 6)) := ⟨200, by kernel_rfl⟩
theorem rlook_3_7 (m m' : Bool) : Runs Tryd.prog env 18 [.pure m (.int .i64 (3 : Nat)), .pure m' (.int .i64 (7 : Nat))] [] (rlookR (cellT 3 7)) (rlookS (cellT 3 7)) := ⟨200, by kernel_rfl⟩
theorem rlook_3_8 (m m' : Bool) : Runs Tryd.prog env 18 [.pure m (.int .i64 (3 : Nat)), .pure m' (.int .i64 (8 : Nat))] [] (rlookR (cellT 3 8)) (rlookS (cellT 3 8)) := ⟨200, by kernel_rfl⟩
theorem rlook_3_9 (m m' : Bool) : Runs Tryd.prog env 18 [.pure m (.int .i64 (3 : Nat)), .pure m' (.int .i64 (9 : Nat))] [] (rlookR (cellT 3 9)) (rlookS (cellT 3 9)) := ⟨200, by kernel_rfl⟩
theorem rlook_3_10 (m m' : Bool) : Runs Tryd.prog env 18 [.pure m (.int .i64 (3 : Nat)), .pure m' (.int .i64 (10 : Nat))] [] (rlookR (cellT 3 10)) (rlookS (cellT 3 10)) := ⟨200, by kernel_rfl⟩
theorem rlook_3_11 (m m' : Bool) : Runs Tryd.prog env 18 [.pure m (.int .i64 (3 : Nat)), .pure m' (.int .i64 (11 : Nat))] [] (rlookR (cellT 3 11)) (rlookS (cellT 3 11)) := ⟨200, by kernel_rfl⟩
theorem rlook_3_12 (m m' : Bool) : Runs Tryd.prog env 18 [.pure m (.int .i64 (3 : Nat)), .pure m' (.int .i64 (12 : Nat))] [] (rlookR (cellT 3 12)) (rlookS (cellT 3 12)) := ⟨200, by kernel_rfl⟩
theorem rlook_3_13 (m m' : Bool) : Runs Tryd.prog env 18 [.pure m (.int .i64 (3 : Nat)), .pure m' (.int .i64 (13 : Nat))] [] (rlookR (cellT 3 13)) (rlookS (cellT 3 13)) := ⟨200, by kernel_rfl⟩
theorem rlook_3_14 (m m' : Bool) : Runs Tryd.prog env 18 [.pure m (.int .i64 (3 : Nat)), .pure m' (.int .i64 (14 : Nat))] [] (rlookR (cellT 3 14)) (rlookS (cellT 3 14)) := ⟨200, by kernel_rfl⟩
theorem rlook_3_15 (m m' : Bool) : Runs Tryd.prog env 18 [.pure m (.int .i64 (3 : Nat)), .pure m' (.int .i64 (15 : Nat))] [] (rlookR (cellT 3 15)) (rlookS (cellT 3 15)) := ⟨200, by kernel_rfl⟩
theorem rlook_3_16 (m m' : Bool) : Runs Tryd.prog env 18 [.pure m (.int .i64 (3 : Nat)), .pure m' (.int .i64 (16 : Nat))] [] (rlookR (cellT 3 16)) (rlookS (cellT 3 16)) := ⟨200, by kernel_rfl⟩
theorem rlookRow_3 (e : Nat) (h1 : 1 ≤ e) (h2 : e ≤ 16) (m m' : Bool) : Runs Tryd.prog env 18 [.pure m (.int .i64 (3 : Nat)), .pure m' (.int .i64 e)] [] (rlookR (cellT 3 e)) (rlookS (cellT 3 e)) := by
  have h3 : e = 1 ∨ e = 2 ∨ e = 3 ∨ e = 4 ∨ e = 5 ∨ e = 6 ∨ e = 7 ∨ e = 8 ∨ e = 9 ∨ e = 10 ∨ e = 11 ∨ e = 12 ∨ e = 13 ∨ e = 14 ∨ e = 15 ∨ e = 16 := by omega
  rcases h3 with rfl | rfl | rfl | rfl | rfl | rfl | rfl | rfl | rfl | rfl | rfl | rfl | rfl | rfl | rfl | rfl
  · exact rlook_3_1 m m'
  · exact rlook_3_2 m m'
  · exact rlook_3_3 m m'
  · exact rlook_3_4 m m'
  · exact rlook_3_5 m m'
  · exact rlook_3_6 m m'
  · exact rlook_3_7 m m'
  · exact rlook_3_8 m m'
  · exact rlook_3_9 m m'
  · exact rlook_3_10 m m'
  · exact rlook_3_11 m m'
  · exact rlook_3_12 m m'
  · exact rlook_3_13 m m'
  · exact rlook_3_14 m m'
  · exact rlook_3_15 m m'
  · exact rlook_3_16 m m'
end Go.Proofs.YtkjoolmkgpmlfaaDoorZ
