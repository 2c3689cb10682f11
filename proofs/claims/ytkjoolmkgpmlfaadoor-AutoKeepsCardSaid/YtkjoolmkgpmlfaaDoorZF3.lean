/- YtkjoolmkgpmlfaaDoorZF3: the document's table, cells of the states 6 and 7, each by the evaluator. No claim. -/
import Derived.Test.YtkjoolmkgpmlfaaDoorZT
set_option linter.unusedVariables false
set_option linter.unusedSimpArgs false
set_option maxRecDepth 100000
namespace Go.Proofs.YtkjoolmkgpmlfaaDoorZ
open Go Go.Proofs.YtkjoolmkgpmlfaaDoorZ.V
theorem rlook_6_1 (m m' : Bool) : Runs Tryd.prog env 18 [.pure m (.int .i64 (6 : Nat)), .pure m' (.int .i64 (1 : Nat))] [] (rlookR (cellT 6 1)) (rlookS (cellT 6 1)) := ⟨200, by kernel_rfl⟩
theorem rlook_6_2 (m m' : Bool) : Runs Tryd.prog env 18 [.pure m (.int .i64 (6 : Nat)), .pure m' (.int .i64 (2 : Nat))] [] (rlookR (cellT 6 2)) (rlookS (cellT 6 2)) := ⟨200, by kernel_rfl⟩
theorem rlook_6_3 (m m' : Bool) : Runs Tryd.prog env 18 [.pure m (.int .i64 (6 : Nat)), .pure m' (.int .i64 (3 : Nat))] [] (rlookR (cellT 6 3)) (rlookS (cellT 6 3)) := ⟨200, by kernel_rfl⟩
theorem rlook_6_4 (m m' : Bool) : Runs Tryd.prog env 18 [.pure m (.int .i64 (6 : Nat)), .pure m' (.int .i64 (4 : Nat))] [] (rlookR (cellT 6 4)) (rlookS (cellT 6 4)) := ⟨200, by kernel_rfl⟩
theorem rlook_6_5 (m m' : Bool) : Runs Tryd.prog env 18 [.pure m (.int .i64 (6 : Nat)), .pure m' (.int .i64 (5 : Nat))] [] (rlookR (cellT 6 5)) (rlookS (cellT 6 5)) := ⟨200, by kernel_rfl⟩
theorem rlook_6_6 (m m' : Bool) : Runs Tryd.prog env 18 [.pure m (.int .i64 (6 : Nat)), .pure m' (.int .i64 (6 : Nat))] [] (rlookR (cellT 6 6)) (rlookS (cellT 6 6)) := ⟨200, by kernel_rfl⟩
theorem rlook_6_7 (m m' : Bool) : Runs Tryd.prog env 18 [.pure m (.int .i64 (6 : Nat)), .pure m' (.int .i64 (7 : Nat))] [] (rlookR (cellT 6 7)) (rlookS (cellT 6 7)) := ⟨200, by kernel_rfl⟩
theorem rlook_6_8 (m m' : Bool) : Runs Tryd.prog env 18 [.pure m (.int .i64 (6 : Nat)), .pure m' (.int .i64 (8 : Nat))] [] (rlookR (cellT 6 8)) (rlookS (cellT 6 8)) := ⟨200, by kernel_rfl⟩
theorem rlook_6_9 (m m' : Bool) : Runs Tryd.prog env 18 [.pure m (.int .i64 (6 : Nat)), .pure m' (.int .i64 (9 : Nat))] [] (rlookR (cellT 6 9)) (rlookS (cellT 6 9)) := ⟨200, by kernel_rfl⟩
theorem rlook_6_10 (m m' : Bool) : Runs Tryd.prog env 18 [.pure m (.int .i64 (6 : Nat)), .pure m' (.int .i64 (10 : Nat))] [] (rlookR (cellT 6 10)) (rlookS (cellT 6 10)) := ⟨200, by kernel_rfl⟩
theorem rlook_6_11 (m m' : Bool) : Runs Tryd.prog env 18 [.pure m (.int .i64 (6 : Nat)), .pure m' (.int .i64 (11 : Nat))] [] (rlookR (cellT 6 11)) (rlookS (cellT 6 11)) := ⟨200, by kernel_rfl⟩
theorem rlook_6_12 (m m' : Bool) : Runs Tryd.prog env 18 [.pure m (.int .i64 (6 : Nat)), .pure m' (.int .i64 (12 : Nat))] [] (rlookR (cellT 6 12)) (rlookS (cellT 6 12)) := ⟨200, by kernel_rfl⟩
theorem rlook_6_13 (m m' : Bool) : Runs Tryd.prog env 18 [.pure m (.int .i64 (6 : Nat)), .pure m' (.int .i64 (13 : Nat))] [] (rlookR (cellT 6 13)) (rlookS (cellT 6 13)) := ⟨200, by kernel_rfl⟩
theorem rlook_6_14 (m m' : Bool) : Runs Tryd.prog env 18 [.pure m (.int .i64 (6 : Nat)), .pure m' (.int .i64 (14 : Nat))] [] (rlookR (cellT 6 14)) (rlookS (cellT 6 14)) := ⟨200, by kernel_rfl⟩
theorem rlook_6_15 (m m' : Bool) : Runs Tryd.prog env 18 [.pure m (.int .i64 (6 : Nat)), .pure m' (.int .i64 (15 : Nat))] [] (rlookR (cellT 6 15)) (rlookS (cellT 6 15)) := ⟨200, by kernel_rfl⟩
theorem rlook_6_16 (m m' : Bool) : Runs Tryd.prog env 18 [.pure m (.int .i64 (6 : Nat)), .pure m' (.int .i64 (16 : Nat))] [] (rlookR (cellT 6 16)) (rlookS (cellT 6 16)) := ⟨200, by kernel_rfl⟩
theorem rlookRow_6 (e : Nat) (h1 : 1 ≤ e) (h2 : e ≤ 16) (m m' : Bool) : Runs Tryd.prog env 18 [.pure m (.int .i64 (6 : Nat)), .pure m' (.int .i64 e)] [] (rlookR (cellT 6 e)) (rlookS (cellT 6 e)) := by
  have h3 : e = 1 ∨ e = 2 ∨ e = 3 ∨ e = 4 ∨ e = 5 ∨ e = 6 ∨ e = 7 ∨ e = 8 ∨ e = 9 ∨ e = 10 ∨ e = 11 ∨ e = 12 ∨ e = 13 ∨ e = 14 ∨ e = 15 ∨ e = 16 := by omega
  rcases h3 with rfl | rfl | rfl | rfl | rfl | rfl | rfl | rfl | rfl | rfl | rfl | rfl | rfl | rfl | rfl | rfl
  · exact rlook_6_1 m m'
  · exact rlook_6_2 m m'
  · exact rlook_6_3 m m'
  · exact rlook_6_4 m m'
  · exact rlook_6_5 m m'
  · exact rlook_6_6 m m'
  · exact rlook_6_7 m m'
  · exact rlook_6_8 m m'
  · exact rlook_6_9 m m'
  · exact rlook_6_10 m m'
  · exact rlook_6_11 m m'
  · exact rlook_6_12 m m'
  · exact rlook_6_13 m m'
  · exact rlook_6_14 m m'
  · exact rlook_6_15 m m'
  · exact rlook_6_16 m m'
theorem rlook_7_1 (m m' : Bool) : Runs Tryd.prog env 18 [.pure m (.int .i64 (7 : Nat)), .pure m' (.int .i64 (1 : Nat))] [] (rlookR (cellT 7 1)) (rlookS (cellT 7 1)) := ⟨200, by kernel_rfl⟩
theorem rlook_7_2 (m m' : Bool) : Runs Tryd.prog env 18 [.pure m (.int .i64 (7 : Nat)), .pure m' (.int .i64 (2 : Nat))] [] (rlookR (cellT 7 2)) (rlookS (cellT 7 2)) := ⟨200, by kernel_rfl⟩
theorem rlook_7_3 (m m' : Bool) : Runs Tryd.prog env 18 [.pure m (.int .i64 (7 : Nat)), .pure m' (.int .i64 (3 : Nat))] [] (rlookR (cellT 7 3)) (rlookS (cellT 7 3)) := ⟨200, by kernel_rfl⟩
theorem rlook_7_4 (m m' : Bool) : Runs Tryd.prog env 18 [.pure m (.int .i64 (7 : Nat)), .pure m' (.int .i64 (4 : Nat))] [] (rlookR (cellT 7 4)) (rlookS (cellT 7 4)) := ⟨200, by kernel_rfl⟩
theorem rlook_7_5 (m m' : Bool) : Runs Tryd.prog env 18 [.pure m (.int .i64 (7 : Nat)), .pure m' (.int .i64 (5 : Nat))] [] (rlookR (cellT 7 5)) (rlookS (cellT 7 5)) := ⟨200, by kernel_rfl⟩
theorem rlook_7_6 (m m' : Bool) : Runs Tryd.prog env 18 [.pure m (.int .i64 (7 : Nat)), .pure m' (.int .i64 (6 : Nat))] [] (rlookR (cellT 7 6)) (rlookS (cellT 7 6)) := ⟨200, by kernel_rfl⟩
theorem rlook_7_7 (m m' : Bool) : Runs Tryd.prog env 18 [.pure m (.int .i64 (7 : Nat)), .pure m' (.int .i64 (7 : Nat))] [] (rlookR (cellT 7 7)) (rlookS (cellT 7 7)) := ⟨200, by kernel_rfl⟩
theorem rlook_7_8 (m m' : Bool) : Runs Tryd.prog env 18 [.pure m (.int .i64 (7 : Nat)), .pure m' (.int .i64 (8 : Nat))] [] (rlookR (cellT 7 8)) (rlookS (cellT 7 8)) := ⟨200, by kernel_rfl⟩
theorem rlook_7_9 (m m' : Bool) : Runs Tryd.prog env 18 [.pure m (.int .i64 (7 : Nat)), .pure m' (.int .i64 (9 : Nat))] [] (rlookR (cellT 7 9)) (rlookS (cellT 7 9)) := ⟨200, by kernel_rfl⟩
theorem rlook_7_10 (m m' : Bool) : Runs Tryd.prog env 18 [.pure m (.int .i64 (7 : Nat)), .pure m' (.int .i64 (10 : Nat))] [] (rlookR (cellT 7 10)) (rlookS (cellT 7 10)) := ⟨200, by kernel_rfl⟩
theorem rlook_7_11 (m m' : Bool) : Runs Tryd.prog env 18 [.pure m (.int .i64 (7 : Nat)), .pure m' (.int .i64 (11 : Nat))] [] (rlookR (cellT 7 11)) (rlookS (cellT 7 11)) := ⟨200, by kernel_rfl⟩
theorem rlook_7_12 (m m' : Bool) : Runs Tryd.prog env 18 [.pure m (.int .i64 (7 : Nat)), .pure m' (.int .i64 (12 : Nat))] [] (rlookR (cellT 7 12)) (rlookS (cellT 7 12)) := ⟨200, by kernel_rfl⟩
theorem rlook_7_13 (m m' : Bool) : Runs Tryd.prog env 18 [.pure m (.int .i64 (7 : Nat)), .pure m' (.int .i64 (13 : Nat))] [] (rlookR (cellT 7 13)) (rlookS (cellT 7 13)) := ⟨200, by kernel_rfl⟩
theorem rlook_7_14 (m m' : Bool) : Runs Tryd.prog env 18 [.pure m (.int .i64 (7 : Nat)), .pure m' (.int .i64 (14 : Nat))] [] (rlookR (cellT 7 14)) (rlookS (cellT 7 14)) := ⟨200, by kernel_rfl⟩
theorem rlook_7_15 (m m' : Bool) : Runs Tryd.prog env 18 [.pure m (.int .i64 (7 : Nat)), .pure m' (.int .i64 (15 : Nat))] [] (rlookR (cellT 7 15)) (rlookS (cellT 7 15)) := ⟨200, by kernel_rfl⟩
theorem rlook_7_16 (m m' : Bool) : Runs Tryd.prog env 18 [.pure m (.int .i64 (7 : Nat)), .pure m' (.int .i64 (16 : Nat))] [] (rlookR (cellT 7 16)) (rlookS (cellT 7 16)) := ⟨200, by kernel_rfl⟩
theorem rlookRow_7 (e : Nat) (h1 : 1 ≤ e) (h2 : e ≤ 16) (m m' : Bool) : Runs Tryd.prog env 18 [.pure m (.int .i64 (7 : Nat)), .pure m' (.int .i64 e)] [] (rlookR (cellT 7 e)) (rlookS (cellT 7 e)) := by
  have h3 : e = 1 ∨ e = 2 ∨ e = 3 ∨ e = 4 ∨ e = 5 ∨ e = 6 ∨ e = 7 ∨ e = 8 ∨ e = 9 ∨ e = 10 ∨ e = 11 ∨ e = 12 ∨ e = 13 ∨ e = 14 ∨ e = 15 ∨ e = 16 := by omega
  rcases h3 with rfl | rfl | rfl | rfl | rfl | rfl | rfl | rfl | rfl | rfl | rfl | rfl | rfl | rfl | rfl | rfl
  · exact rlook_7_1 m m'
  · exact rlook_7_2 m m'
  · exact rlook_7_3 m m'
  · exact rlook_7_4 m m'
  · exact rlook_7_5 m m'
  · exact rlook_7_6 m m'
  · exact rlook_7_7 m m'
  · exact rlook_7_8 m m'
  · exact rlook_7_9 m m'
  · exact rlook_7_10 m m'
  · exact rlook_7_11 m m'
  · exact rlook_7_12 m m'
  · exact rlook_7_13 m m'
  · exact rlook_7_14 m m'
  · exact rlook_7_15 m m'
  · exact rlook_7_16 m m'
end Go.Proofs.YtkjoolmkgpmlfaaDoorZ
