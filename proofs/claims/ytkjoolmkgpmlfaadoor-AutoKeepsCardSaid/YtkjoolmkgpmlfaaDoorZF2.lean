/- YtkjoolmkgpmlfaaDoorZF2: the document's table, cells of the states 4 and 5, each by the evaluator. No claim. -/
import Derived.Test.YtkjoolmkgpmlfaaDoorZT
set_option linter.unusedVariables false
set_option linter.unusedSimpArgs false
set_option maxRecDepth 100000
namespace Go.Proofs.YtkjoolmkgpmlfaaDoorZ
open Go Go.Proofs.YtkjoolmkgpmlfaaDoorZ.V
theorem rlook_4_1 (m m' : Bool) : Runs Tryd.prog env 18 [.pure m (.int .i64 (4 : Nat)), .pure m' (.int .i64 (1 : Nat))] [] (rlookR (cellT 4 1)) (rlookS (cellT 4 1)) := ⟨200, by kernel_rfl⟩
theorem rlook_4_2 (m m' : Bool) : Runs Tryd.prog env 18 [.pure m (.int .i64 (4 : Nat)), .pure m' (.int .i64 (2 : Nat))] [] (rlookR (cellT 4 2)) (rlookS (cellT 4 2)) := ⟨200, by kernel_rfl⟩
theorem rlook_4_3 (m m' : Bool) : Runs Tryd.prog env 18 [.pure m (.int .i64 (4 : Nat)), .pure m' (.int .i64 (3 : Nat))] [] (rlookR (cellT 4 3)) (rlookS (cellT 4 3)) := ⟨200, by kernel_rfl⟩
theorem rlook_4_4 (m m' : Bool) : Runs Tryd.prog env 18 [.pure m (.int .i64 (4 : Nat)), .pure m' (.int .i64 (4 : Nat))] [] (rlookR (cellT 4 4)) (rlookS (cellT 4 4)) := ⟨200, by kernel_rfl⟩
theorem rlook_4_5 (m m' : Bool) : Runs Tryd.prog env 18 [.pure m (.int .i64 (4 : Nat)), .pure m' (.int .i64 (5 : Nat))] [] (rlookR (cellT 4 5)) (rlookS (cellT 4 5)) := ⟨200, by kernel_rfl⟩
theorem rlook_4_6 (m m' : Bool) : Runs Tryd.prog env 18 [.pure m (.int .i64 (4 : Nat)), .pure m' (.int .i64 (6 : Nat))] [] (rlookR (cellT 4 6)) (rlookS (cellT 4 6)) := ⟨200, by kernel_rfl⟩
theorem rlook_4_7 (m m' : Bool) : Runs Tryd.prog env 18 [.pure m (.int .i64 (4 : Nat)), .pure m' (.int .i64 (7 : Nat))] [] (rlookR (cellT 4 7)) (rlookS (cellT 4 7)) := ⟨200, by kernel_rfl⟩
theorem rlook_4_8 (m m' : Bool) : Runs Tryd.prog env 18 [.pure m (.int .i64 (4 : Nat)), .pure m' (.int .i64 (8 : Nat))] [] (rlookR (cellT 4 8)) (rlookS (cellT 4 8)) := ⟨200, by kernel_rfl⟩
theorem rlook_4_9 (m m' : Bool) : Runs Tryd.prog env 18 [.pure m (.int .i64 (4 : Nat)), .pure m' (.int .i64 (9 : Nat))] [] (rlookR (cellT 4 9)) (rlookS (cellT 4 9)) := ⟨200, by kernel_rfl⟩
theorem rlook_4_10 (m m' : Bool) : Runs Tryd.prog env 18 [.pure m (.int .i64 (4 : Nat)), .pure m' (.int .i64 (10 : Nat))] [] (rlookR (cellT 4 10)) (rlookS (cellT 4 10)) := ⟨200, by kernel_rfl⟩
theorem rlook_4_11 (m m' : Bool) : Runs Tryd.prog env 18 [.pure m (.int .i64 (4 : Nat)), .pure m' (.int .i64 (11 : Nat))] [] (rlookR (cellT 4 11)) (rlookS (cellT 4 11)) := ⟨200, by kernel_rfl⟩
theorem rlook_4_12 (m m' : Bool) : Runs Tryd.prog env 18 [.pure m (.int .i64 (4 : Nat)), .pure m' (.int .i64 (12 : Nat))] [] (rlookR (cellT 4 12)) (rlookS (cellT 4 12)) := ⟨200, by kernel_rfl⟩
theorem rlook_4_13 (m m' : Bool) : Runs Tryd.prog env 18 [.pure m (.int .i64 (4 : Nat)), .pure m' (.int .i64 (13 : Nat))] [] (rlookR (cellT 4 13)) (rlookS (cellT 4 13)) := ⟨200, by kernel_rfl⟩
theorem rlook_4_14 (m m' : Bool) : Runs Tryd.prog env 18 [.pure m (.int .i64 (4 : Nat)), .pure m' (.int .i64 (14 : Nat))] [] (rlookR (cellT 4 14)) (rlookS (cellT 4 14)) := ⟨200, by kernel_rfl⟩
theorem rlook_4_15 (m m' : Bool) : Runs Tryd.prog env 18 [.pure m (.int .i64 (4 : Nat)), .pure m' (.int .i64 (15 : Nat))] [] (rlookR (cellT 4 15)) (rlookS (cellT 4 15)) := ⟨200, by kernel_rfl⟩
theorem rlook_4_16 (m m' : Bool) : Runs Tryd.prog env 18 [.pure m (.int .i64 (4 : Nat)), .pure m' (.int .i64 (16 : Nat))] [] (rlookR (cellT 4 16)) (rlookS (cellT 4 16)) := ⟨200, by kernel_rfl⟩
theorem rlookRow_4 (e : Nat) (h1 : 1 ≤ e) (h2 : e ≤ 16) (m m' : Bool) : Runs Tryd.prog env 18 [.pure m (.int .i64 (4 : Nat)), .pure m' (.int .i64 e)] [] (rlookR (cellT 4 e)) (rlookS (cellT 4 e)) := by
  have h3 : e = 1 ∨ e = 2 ∨ e = 3 ∨ e = 4 ∨ e = 5 ∨ e = 6 ∨ e = 7 ∨ e = 8 ∨ e = 9 ∨ e = 10 ∨ e = 11 ∨ e = 12 ∨ e = 13 ∨ e = 14 ∨ e = 15 ∨ e = 16 := by omega
  rcases h3 with rfl | rfl | rfl | rfl | rfl | rfl | rfl | rfl | rfl | rfl | rfl | rfl | rfl | rfl | rfl | rfl
  · exact rlook_4_1 m m'
  · exact rlook_4_2 m m'
  · exact rlook_4_3 m m'
  · exact rlook_4_4 m m'
  · exact rlook_4_5 m m'
  · exact rlook_4_6 m m'
  · exact rlook_4_7 m m'
  · exact rlook_4_8 m m'
  · exact rlook_4_9 m m'
  · exact rlook_4_10 m m'
  · exact rlook_4_11 m m'
  · exact rlook_4_12 m m'
  · exact rlook_4_13 m m'
  · exact rlook_4_14 m m'
  · exact rlook_4_15 m m'
  · exact rlook_4_16 m m'
theorem rlook_5_1 (m m' : Bool) : Runs Tryd.prog env 18 [.pure m (.int .i64 (5 : Nat)), .pure m' (.int .i64 (1 : Nat))] [] (rlookR (cellT 5 1)) (rlookS (cellT 5 1)) := ⟨200, by kernel_rfl⟩
theorem rlook_5_2 (m m' : Bool) : Runs Tryd.prog env 18 [.pure m (.int .i64 (5 : Nat)), .pure m' (.int .i64 (2 : Nat))] [] (rlookR (cellT 5 2)) (rlookS (cellT 5 2)) := ⟨200, by kernel_rfl⟩
theorem rlook_5_3 (m m' : Bool) : Runs Tryd.prog env 18 [.pure m (.int .i64 (5 : Nat)), .pure m' (.int .i64 (3 : Nat))] [] (rlookR (cellT 5 3)) (rlookS (cellT 5 3)) := ⟨200, by kernel_rfl⟩
theorem rlook_5_4 (m m' : Bool) : Runs Tryd.prog env 18 [.pure m (.int .i64 (5 : Nat)), .pure m' (.int .i64 (4 : Nat))] [] (rlookR (cellT 5 4)) (rlookS (cellT 5 4)) := ⟨200, by kernel_rfl⟩
theorem rlook_5_5 (m m' : Bool) : Runs Tryd.prog env 18 [.pure m (.int .i64 (5 : Nat)), .pure m' (.int .i64 (5 : Nat))] [] (rlookR (cellT 5 5)) (rlookS (cellT 5 5)) := ⟨200, by kernel_rfl⟩
theorem rlook_5_6 (m m' : Bool) : Runs Tryd.prog env 18 [.pure m (.int .i64 (5 : Nat)), .pure m' (.int .i64 (6 : Nat))] [] (rlookR (cellT 5 6)) (rlookS (cellT 5 6)) := ⟨200, by kernel_rfl⟩
theorem rlook_5_7 (m m' : Bool) : Runs Tryd.prog env 18 [.pure m (.int .i64 (5 : Nat)), .pure m' (.int .i64 (7 : Nat))] [] (rlookR (cellT 5 7)) (rlookS (cellT 5 7)) := ⟨200, by kernel_rfl⟩
theorem rlook_5_8 (m m' : Bool) : Runs Tryd.prog env 18 [.pure m (.int .i64 (5 : Nat)), .pure m' (.int .i64 (8 : Nat))] [] (rlookR (cellT 5 8)) (rlookS (cellT 5 8)) := ⟨200, by kernel_rfl⟩
theorem rlook_5_9 (m m' : Bool) : Runs Tryd.prog env 18 [.pure m (.int .i64 (5 : Nat)), .pure m' (.int .i64 (9 : Nat))] [] (rlookR (cellT 5 9)) (rlookS (cellT 5 9)) := ⟨200, by kernel_rfl⟩
theorem rlook_5_10 (m m' : Bool) : Runs Tryd.prog env 18 [.pure m (.int .i64 (5 : Nat)), .pure m' (.int .i64 (10 : Nat))] [] (rlookR (cellT 5 10)) (rlookS (cellT 5 10)) := ⟨200, by kernel_rfl⟩
theorem rlook_5_11 (m m' : Bool) : Runs Tryd.prog env 18 [.pure m (.int .i64 (5 : Nat)), .pure m' (.int .i64 (11 : Nat))] [] (rlookR (cellT 5 11)) (rlookS (cellT 5 11)) := ⟨200, by kernel_rfl⟩
theorem rlook_5_12 (m m' : Bool) : Runs Tryd.prog env 18 [.pure m (.int .i64 (5 : Nat)), .pure m' (.int .i64 (12 : Nat))] [] (rlookR (cellT 5 12)) (rlookS (cellT 5 12)) := ⟨200, by kernel_rfl⟩
theorem rlook_5_13 (m m' : Bool) : Runs Tryd.prog env 18 [.pure m (.int .i64 (5 : Nat)), .pure m' (.int .i64 (13 : Nat))] [] (rlookR (cellT 5 13)) (rlookS (cellT 5 13)) := ⟨200, by kernel_rfl⟩
theorem rlook_5_14 (m m' : Bool) : Runs Tryd.prog env 18 [.pure m (.int .i64 (5 : Nat)), .pure m' (.int .i64 (14 : Nat))] [] (rlookR (cellT 5 14)) (rlookS (cellT 5 14)) := ⟨200, by kernel_rfl⟩
theorem rlook_5_15 (m m' : Bool) : Runs Tryd.prog env 18 [.pure m (.int .i64 (5 : Nat)), .pure m' (.int .i64 (15 : Nat))] [] (rlookR (cellT 5 15)) (rlookS (cellT 5 15)) := ⟨200, by kernel_rfl⟩
theorem rlook_5_16 (m m' : Bool) : Runs Tryd.prog env 18 [.pure m (.int .i64 (5 : Nat)), .pure m' (.int .i64 (16 : Nat))] [] (rlookR (cellT 5 16)) (rlookS (cellT 5 16)) := ⟨200, by kernel_rfl⟩
theorem rlookRow_5 (e : Nat) (h1 : 1 ≤ e) (h2 : e ≤ 16) (m m' : Bool) : Runs Tryd.prog env 18 [.pure m (.int .i64 (5 : Nat)), .pure m' (.int .i64 e)] [] (rlookR (cellT 5 e)) (rlookS (cellT 5 e)) := by
  have h3 : e = 1 ∨ e = 2 ∨ e = 3 ∨ e = 4 ∨ e = 5 ∨ e = 6 ∨ e = 7 ∨ e = 8 ∨ e = 9 ∨ e = 10 ∨ e = 11 ∨ e = 12 ∨ e = 13 ∨ e = 14 ∨ e = 15 ∨ e = 16 := by omega
  rcases h3 with rfl | rfl | rfl | rfl | rfl | rfl | rfl | rfl | rfl | rfl | rfl | rfl | rfl | rfl | rfl | rfl
  · exact rlook_5_1 m m'
  · exact rlook_5_2 m m'
  · exact rlook_5_3 m m'
  · exact rlook_5_4 m m'
  · exact rlook_5_5 m m'
  · exact rlook_5_6 m m'
  · exact rlook_5_7 m m'
  · exact rlook_5_8 m m'
  · exact rlook_5_9 m m'
  · exact rlook_5_10 m m'
  · exact rlook_5_11 m m'
  · exact rlook_5_12 m m'
  · exact rlook_5_13 m m'
  · exact rlook_5_14 m m'
  · exact rlook_5_15 m m'
  · exact rlook_5_16 m m'
end Go.Proofs.YtkjoolmkgpmlfaaDoorZ
