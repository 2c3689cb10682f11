/- YtnhbmabikngmpaaB: the table's cells, each by the evaluator: the other states. No claim. -/
import Derived.Test.YtnhbmabikngmpaaA
set_option linter.unusedVariables false
set_option linter.unusedSimpArgs false
set_option maxRecDepth 100000
namespace Go.Proofs.Ytnhbmabikngmpaa
open Go Go.Proofs.Ytnhbmabikngmpaa.V
theorem look_5_0 (m m' : Bool) : Runs Try.prog env 7 [.pure m (.int .i64 (5 : Nat)), .pure m' (.int .i64 (0 : Nat))] [] (lookR (cellT 5 0)) [] := by
  cases m <;> cases m' <;> exact ⟨60, by kernel_rfl⟩
theorem look_5_1 (m m' : Bool) : Runs Try.prog env 7 [.pure m (.int .i64 (5 : Nat)), .pure m' (.int .i64 (1 : Nat))] [] (lookR (cellT 5 1)) [] := by
  cases m <;> cases m' <;> exact ⟨60, by kernel_rfl⟩
theorem look_5_2 (m m' : Bool) : Runs Try.prog env 7 [.pure m (.int .i64 (5 : Nat)), .pure m' (.int .i64 (2 : Nat))] [] (lookR (cellT 5 2)) [] := by
  cases m <;> cases m' <;> exact ⟨60, by kernel_rfl⟩
theorem look_5_3 (m m' : Bool) : Runs Try.prog env 7 [.pure m (.int .i64 (5 : Nat)), .pure m' (.int .i64 (3 : Nat))] [] (lookR (cellT 5 3)) [] := by
  cases m <;> cases m' <;> exact ⟨60, by kernel_rfl⟩
theorem look_5_4 (m m' : Bool) : Runs Try.prog env 7 [.pure m (.int .i64 (5 : Nat)), .pure m' (.int .i64 (4 : Nat))] [] (lookR (cellT 5 4)) [] := by
  cases m <;> cases m' <;> exact ⟨60, by kernel_rfl⟩
theorem look_5_5 (m m' : Bool) : Runs Try.prog env 7 [.pure m (.int .i64 (5 : Nat)), .pure m' (.int .i64 (5 : Nat))] [] (lookR (cellT 5 5)) [] := by
  cases m <;> cases m' <;> exact ⟨60, by kernel_rfl⟩
theorem look_5_6 (m m' : Bool) : Runs Try.prog env 7 [.pure m (.int .i64 (5 : Nat)), .pure m' (.int .i64 (6 : Nat))] [] (lookR (cellT 5 6)) [] := by
  cases m <;> cases m' <;> exact ⟨60, by kernel_rfl⟩
theorem look_5_7 (m m' : Bool) : Runs Try.prog env 7 [.pure m (.int .i64 (5 : Nat)), .pure m' (.int .i64 (7 : Nat))] [] (lookR (cellT 5 7)) [] := by
  cases m <;> cases m' <;> exact ⟨60, by kernel_rfl⟩
theorem look_5_8 (m m' : Bool) : Runs Try.prog env 7 [.pure m (.int .i64 (5 : Nat)), .pure m' (.int .i64 (8 : Nat))] [] (lookR (cellT 5 8)) [] := by
  cases m <;> cases m' <;> exact ⟨60, by kernel_rfl⟩
theorem look_5_9 (m m' : Bool) : Runs Try.prog env 7 [.pure m (.int .i64 (5 : Nat)), .pure m' (.int .i64 (9 : Nat))] [] (lookR (cellT 5 9)) [] := by
  cases m <;> cases m' <;> exact ⟨60, by kernel_rfl⟩
theorem look_5_10 (m m' : Bool) : Runs Try.prog env 7 [.pure m (.int .i64 (5 : Nat)), .pure m' (.int .i64 (10 : Nat))] [] (lookR (cellT 5 10)) [] := by
  cases m <;> cases m' <;> exact ⟨60, by kernel_rfl⟩
theorem look_5_11 (m m' : Bool) : Runs Try.prog env 7 [.pure m (.int .i64 (5 : Nat)), .pure m' (.int .i64 (11 : Nat))] [] (lookR (cellT 5 11)) [] := by
  cases m <;> cases m' <;> exact ⟨60, by kernel_rfl⟩
theorem look_5_12 (m m' : Bool) : Runs Try.prog env 7 [.pure m (.int .i64 (5 : Nat)), .pure m' (.int .i64 (12 : Nat))] [] (lookR (cellT 5 12)) [] := by
  cases m <;> cases m' <;> exact ⟨60, by kernel_rfl⟩
theorem look_5_13 (m m' : Bool) : Runs Try.prog env 7 [.pure m (.int .i64 (5 : Nat)), .pure m' (.int .i64 (13 : Nat))] [] (lookR (cellT 5 13)) [] := by
  cases m <;> cases m' <;> exact ⟨60, by kernel_rfl⟩
theorem look_5_14 (m m' : Bool) : Runs Try.prog env 7 [.pure m (.int .i64 (5 : Nat)), .pure m' (.int .i64 (14 : Nat))] [] (lookR (cellT 5 14)) [] := by
  cases m <;> cases m' <;> exact ⟨60, by kernel_rfl⟩
theorem look_5_15 (m m' : Bool) : Runs Try.prog env 7 [.pure m (.int .i64 (5 : Nat)), .pure m' (.int .i64 (15 : Nat))] [] (lookR (cellT 5 15)) [] := by
  cases m <;> cases m' <;> exact ⟨60, by kernel_rfl⟩
theorem look_5_16 (m m' : Bool) : Runs Try.prog env 7 [.pure m (.int .i64 (5 : Nat)), .pure m' (.int .i64 (16 : Nat))] [] (lookR (cellT 5 16)) [] := by
  cases m <;> cases m' <;> exact ⟨60, by kernel_rfl⟩
theorem look_5_17 (m m' : Bool) : Runs Try.prog env 7 [.pure m (.int .i64 (5 : Nat)), .pure m' (.int .i64 (17 : Nat))] [] (lookR (cellT 5 17)) [] := by
  cases m <;> cases m' <;> exact ⟨60, by kernel_rfl⟩
theorem lookRow_5 (e : Nat) (h : e < 18) (m m' : Bool) : Runs Try.prog env 7 [.pure m (.int .i64 (5 : Nat)), .pure m' (.int .i64 e)] [] (lookR (cellT 5 e)) [] := by
  have h2 : e = 0 ∨ e = 1 ∨ e = 2 ∨ e = 3 ∨ e = 4 ∨ e = 5 ∨ e = 6 ∨ e = 7 ∨ e = 8 ∨ e = 9 ∨ e = 10 ∨ e = 11 ∨ e = 12 ∨ e = 13 ∨ e = 14 ∨ e = 15 ∨ e = 16 ∨ e = 17 := by omega
  rcases h2 with rfl | rfl | rfl | rfl | rfl | rfl | rfl | rfl | rfl | rfl | rfl | rfl | rfl | rfl | rfl | rfl | rfl | rfl
  · exact look_5_0 m m'
  · exact look_5_1 m m'
  · exact look_5_2 m m'
  · exact look_5_3 m m'
  · exact look_5_4 m m'
  · exact look_5_5 m m'
  · exact look_5_6 m m'
  · exact look_5_7 m m'
  · exact look_5_8 m m'
  · exact look_5_9 m m'
  · exact look_5_10 m m'
  · exact look_5_11 m m'
  · exact look_5_12 m m'
  · exact look_5_13 m m'
  · exact look_5_14 m m'
  · exact look_5_15 m m'
  · exact look_5_16 m m'
  · exact look_5_17 m m'
theorem look_6_0 (m m' : Bool) : Runs Try.prog env 7 [.pure m (.int .i64 (6 : Nat)), .pure m' (.int .i64 (0 : Nat))] [] (lookR (cellT 6 0)) [] := by
  cases m <;> cases m' <;> exact ⟨60, by kernel_rfl⟩
theorem look_6_1 (m m' : Bool) : Runs Try.prog env 7 [.pure m (.int .i64 (6 : Nat)), .pure m' (.int .i64 (1 : Nat))] [] (lookR (cellT 6 1)) [] := by
  cases m <;> cases m' <;> exact ⟨60, by kernel_rfl⟩
theorem look_6_2 (m m' : Bool) : Runs Try.prog env 7 [.pure m (.int .i64 (6 : Nat)), .pure m' (.int .i64 (2 : Nat))] [] (lookR (cellT 6 2)) [] := by
  cases m <;> cases m' <;> exact ⟨60, by kernel_rfl⟩
theorem look_6_3 (m m' : Bool) : Runs Try.prog env 7 [.pure m (.int .i64 (6 : Nat)), .pure m' (.int .i64 (3 : Nat))] [] (lookR (cellT 6 3)) [] := by
  cases m <;> cases m' <;> exact ⟨60, by kernel_rfl⟩
theorem look_6_4 (m m' : Bool) : Runs Try.prog env 7 [.pure m (.int .i64 (6 : Nat)), .pure m' (.int .i64 (4 : Nat))] [] (lookR (cellT 6 4)) [] := by
  cases m <;> cases m' <;> exact ⟨60, by kernel_rfl⟩
theorem look_6_5 (m m' : Bool) : Runs Try.prog env 7 [.pure m (.int .i64 (6 : Nat)), .pure m' (.int .i64 (5 : Nat))] [] (lookR (cellT 6 5)) [] := by
  cases m <;> cases m' <;> exact ⟨60, by kernel_rfl⟩
theorem look_6_6 (m m' : Bool) : Runs Try.prog env 7 [.pure m (.int .i64 (6 : Nat)), .pure m' (.int .i64 (6 : Nat))] [] (lookR (cellT 6 6)) [] := by
  cases m <;> cases m' <;> exact ⟨60, by kernel_rfl⟩
theorem look_6_7 (m m' : Bool) : Runs Try.prog env 7 [.pure m (.int .i64 (6 : Nat)), .pure m' (.int .i64 (7 : Nat))] [] (lookR (cellT 6 7)) [] := by
  cases m <;> cases m' <;> exact ⟨60, by kernel_rfl⟩
theorem look_6_8 (m m' : Bool) : Runs Try.prog env 7 [.pure m (.int .i64 (6 : Nat)), .pure m' (.int .i64 (8 : Nat))] [] (lookR (cellT 6 8)) [] := by
  cases m <;> cases m' <;> exact ⟨60, by kernel_rfl⟩
theorem look_6_9 (m m' : Bool) : Runs Try.prog env 7 [.pure m (.int .i64 (6 : Nat)), .pure m' (.int .i64 (9 : Nat))] [] (lookR (cellT 6 9)) [] := by
  cases m <;> cases m' <;> exact ⟨60, by kernel_rfl⟩
theorem look_6_10 (m m' : Bool) : Runs Try.prog env 7 [.pure m (.int .i64 (6 : Nat)), .pure m' (.int .i64 (10 : Nat))] [] (lookR (cellT 6 10)) [] := by
  cases m <;> cases m' <;> exact ⟨60, by kernel_rfl⟩
theorem look_6_11 (m m' : Bool) : Runs Try.prog env 7 [.pure m (.int .i64 (6 : Nat)), .pure m' (.int .i64 (11 : Nat))] [] (lookR (cellT 6 11)) [] := by
  cases m <;> cases m' <;> exact ⟨60, by kernel_rfl⟩
theorem look_6_12 (m m' : Bool) : Runs Try.prog env 7 [.pure m (.int .i64 (6 : Nat)), .pure m' (.int .i64 (12 : Nat))] [] (lookR (cellT 6 12)) [] := by
  cases m <;> cases m' <;> exact ⟨60, by kernel_rfl⟩
theorem look_6_13 (m m' : Bool) : Runs Try.prog env 7 [.pure m (.int .i64 (6 : Nat)), .pure m' (.int .i64 (13 : Nat))] [] (lookR (cellT 6 13)) [] := by
  cases m <;> cases m' <;> exact ⟨60, by kernel_rfl⟩
theorem look_6_14 (m m' : Bool) : Runs Try.prog env 7 [.pure m (.int .i64 (6 : Nat)), .pure m' (.int .i64 (14 : Nat))] [] (lookR (cellT 6 14)) [] := by
  cases m <;> cases m' <;> exact ⟨60, by kernel_rfl⟩
theorem look_6_15 (m m' : Bool) : Runs Try.prog env 7 [.pure m (.int .i64 (6 : Nat)), .pure m' (.int .i64 (15 : Nat))] [] (lookR (cellT 6 15)) [] := by
  cases m <;> cases m' <;> exact ⟨60, by kernel_rfl⟩
theorem look_6_16 (m m' : Bool) : Runs Try.prog env 7 [.pure m (.int .i64 (6 : Nat)), .pure m' (.int .i64 (16 : Nat))] [] (lookR (cellT 6 16)) [] := by
  cases m <;> cases m' <;> exact ⟨60, by kernel_rfl⟩
theorem look_6_17 (m m' : Bool) : Runs Try.prog env 7 [.pure m (.int .i64 (6 : Nat)), .pure m' (.int .i64 (17 : Nat))] [] (lookR (cellT 6 17)) [] := by
  cases m <;> cases m' <;> exact ⟨60, by kernel_rfl⟩
theorem lookRow_6 (e : Nat) (h : e < 18) (m m' : Bool) : Runs Try.prog env 7 [.pure m (.int .i64 (6 : Nat)), .pure m' (.int .i64 e)] [] (lookR (cellT 6 e)) [] := by
  have h2 : e = 0 ∨ e = 1 ∨ e = 2 ∨ e = 3 ∨ e = 4 ∨ e = 5 ∨ e = 6 ∨ e = 7 ∨ e = 8 ∨ e = 9 ∨ e = 10 ∨ e = 11 ∨ e = 12 ∨ e = 13 ∨ e = 14 ∨ e = 15 ∨ e = 16 ∨ e = 17 := by omega
  rcases h2 with rfl | rfl | rfl | rfl | rfl | rfl | rfl | rfl | rfl | rfl | rfl | rfl | rfl | rfl | rfl | rfl | rfl | rfl
  · exact look_6_0 m m'
  · exact look_6_1 m m'
  · exact look_6_2 m m'
  · exact look_6_3 m m'
  · exact look_6_4 m m'
  · exact look_6_5 m m'
  · exact look_6_6 m m'
  · exact look_6_7 m m'
  · exact look_6_8 m m'
  · exact look_6_9 m m'
  · exact look_6_10 m m'
  · exact look_6_11 m m'
  · exact look_6_12 m m'
  · exact look_6_13 m m'
  · exact look_6_14 m m'
  · exact look_6_15 m m'
  · exact look_6_16 m m'
  · exact look_6_17 m m'
theorem look_7_0 (m m' : Bool) : Runs Try.prog env 7 [.pure m (.int .i64 (7 : Nat)), .pure m' (.int .i64 (0 : Nat))] [] (lookR (cellT 7 0)) [] := by
  cases m <;> cases m' <;> exact ⟨60, by kernel_rfl⟩
theorem look_7_1 (m m' : Bool) : Runs Try.prog env 7 [.pure m (.int .i64 (7 : Nat)), .pure m' (.int .i64 (1 : Nat))] [] (lookR (cellT 7 1)) [] := by
  cases m <;> cases m' <;> exact ⟨60, by kernel_rfl⟩
theorem look_7_2 (m m' : Bool) : Runs Try.prog env 7 [.pure m (.int .i64 (7 : Nat)), .pure m' (.int .i64 (2 : Nat))] [] (lookR (cellT 7 2)) [] := by
  cases m <;> cases m' <;> exact ⟨60, by kernel_rfl⟩
theorem look_7_3 (m m' : Bool) : Runs Try.prog env 7 [.pure m (.int .i64 (7 : Nat)), .pure m' (.int .i64 (3 : Nat))] [] (lookR (cellT 7 3)) [] := by
  cases m <;> cases m' <;> exact ⟨60, by kernel_rfl⟩
theorem look_7_4 (m m' : Bool) : Runs Try.prog env 7 [.pure m (.int .i64 (7 : Nat)), .pure m' (.int .i64 (4 : Nat))] [] (lookR (cellT 7 4)) [] := by
  cases m <;> cases m' <;> exact ⟨60, by kernel_rfl⟩
theorem look_7_5 (m m' : Bool) : Runs Try.prog env 7 [.pure m (.int .i64 (7 : Nat)), .pure m' (.int .i64 (5 : Nat))] [] (lookR (cellT 7 5)) [] := by
  cases m <;> cases m' <;> exact ⟨60, by kernel_rfl⟩
theorem look_7_6 (m m' : Bool) : Runs Try.prog env 7 [.pure m (.int .i64 (7 : Nat)), .pure m' (.int .i64 (6 : Nat))] [] (lookR (cellT 7 6)) [] := by
  cases m <;> cases m' <;> exact ⟨60, by kernel_rfl⟩
theorem look_7_7 (m m' : Bool) : Runs Try.prog env 7 [.pure m (.int .i64 (7 : Nat)), .pure m' (.int .i64 (7 : Nat))] [] (lookR (cellT 7 7)) [] := by
  cases m <;> cases m' <;> exact ⟨60, by kernel_rfl⟩
theorem look_7_8 (m m' : Bool) : Runs Try.prog env 7 [.pure m (.int .i64 (7 : Nat)), .pure m' (.int .i64 (8 : Nat))] [] (lookR (cellT 7 8)) [] := by
  cases m <;> cases m' <;> exact ⟨60, by kernel_rfl⟩
theorem look_7_9 (m m' : Bool) : Runs Try.prog env 7 [.pure m (.int .i64 (7 : Nat)), .pure m' (.int .i64 (9 : Nat))] [] (lookR (cellT 7 9)) [] := by
  cases m <;> cases m' <;> exact ⟨60, by kernel_rfl⟩
theorem look_7_10 (m m' : Bool) : Runs Try.prog env 7 [.pure m (.int .i64 (7 : Nat)), .pure m' (.int .i64 (10 : Nat))] [] (lookR (cellT 7 10)) [] := by
  cases m <;> cases m' <;> exact ⟨60, by kernel_rfl⟩
theorem look_7_11 (m m' : Bool) : Runs Try.prog env 7 [.pure m (.int .i64 (7 : Nat)), .pure m' (.int .i64 (11 : Nat))] [] (lookR (cellT 7 11)) [] := by
  cases m <;> cases m' <;> exact ⟨60, by kernel_rfl⟩
theorem look_7_12 (m m' : Bool) : Runs Try.prog env 7 [.pure m (.int .i64 (7 : Nat)), .pure m' (.int .i64 (12 : Nat))] [] (lookR (cellT 7 12)) [] := by
  cases m <;> cases m' <;> exact ⟨60, by kernel_rfl⟩
theorem look_7_13 (m m' : Bool) : Runs Try.prog env 7 [.pure m (.int .i64 (7 : Nat)), .pure m' (.int .i64 (13 : Nat))] [] (lookR (cellT 7 13)) [] := by
  cases m <;> cases m' <;> exact ⟨60, by kernel_rfl⟩
theorem look_7_14 (m m' : Bool) : Runs Try.prog env 7 [.pure m (.int .i64 (7 : Nat)), .pure m' (.int .i64 (14 : Nat))] [] (lookR (cellT 7 14)) [] := by
  cases m <;> cases m' <;> exact ⟨60, by kernel_rfl⟩
theorem look_7_15 (m m' : Bool) : Runs Try.prog env 7 [.pure m (.int .i64 (7 : Nat)), .pure m' (.int .i64 (15 : Nat))] [] (lookR (cellT 7 15)) [] := by
  cases m <;> cases m' <;> exact ⟨60, by kernel_rfl⟩
theorem look_7_16 (m m' : Bool) : Runs Try.prog env 7 [.pure m (.int .i64 (7 : Nat)), .pure m' (.int .i64 (16 : Nat))] [] (lookR (cellT 7 16)) [] := by
  cases m <;> cases m' <;> exact ⟨60, by kernel_rfl⟩
theorem look_7_17 (m m' : Bool) : Runs Try.prog env 7 [.pure m (.int .i64 (7 : Nat)), .pure m' (.int .i64 (17 : Nat))] [] (lookR (cellT 7 17)) [] := by
  cases m <;> cases m' <;> exact ⟨60, by kernel_rfl⟩
theorem lookRow_7 (e : Nat) (h : e < 18) (m m' : Bool) : Runs Try.prog env 7 [.pure m (.int .i64 (7 : Nat)), .pure m' (.int .i64 e)] [] (lookR (cellT 7 e)) [] := by
  have h2 : e = 0 ∨ e = 1 ∨ e = 2 ∨ e = 3 ∨ e = 4 ∨ e = 5 ∨ e = 6 ∨ e = 7 ∨ e = 8 ∨ e = 9 ∨ e = 10 ∨ e = 11 ∨ e = 12 ∨ e = 13 ∨ e = 14 ∨ e = 15 ∨ e = 16 ∨ e = 17 := by omega
  rcases h2 with rfl | rfl | rfl | rfl | rfl | rfl | rfl | rfl | rfl | rfl | rfl | rfl | rfl | rfl | rfl | rfl | rfl | rfl
  · exact look_7_0 m m'
  · exact look_7_1 m m'
  · exact look_7_2 m m'
  · exact look_7_3 m m'
  · exact look_7_4 m m'
  · exact look_7_5 m m'
  · exact look_7_6 m m'
  · exact look_7_7 m m'
  · exact look_7_8 m m'
  · exact look_7_9 m m'
  · exact look_7_10 m m'
  · exact look_7_11 m m'
  · exact look_7_12 m m'
  · exact look_7_13 m m'
  · exact look_7_14 m m'
  · exact look_7_15 m m'
  · exact look_7_16 m m'
  · exact look_7_17 m m'
theorem look_8_0 (m m' : Bool) : Runs Try.prog env 7 [.pure m (.int .i64 (8 : Nat)), .pure m' (.int .i64 (0 : Nat))] [] (lookR (cellT 8 0)) [] := by
  cases m <;> cases m' <;> exact ⟨60, by kernel_rfl⟩
theorem look_8_1 (m m' : Bool) : Runs Try.prog env 7 [.pure m (.int .i64 (8 : Nat)), .pure m' (.int .i64 (1 : Nat))] [] (lookR (cellT 8 1)) [] := by
  cases m <;> cases m' <;> exact ⟨60, by kernel_rfl⟩
theorem look_8_2 (m m' : Bool) : Runs Try.prog env 7 [.pure m (.int .i64 (8 : Nat)), .pure m' (.int .i64 (2 : Nat))] [] (lookR (cellT 8 2)) [] := by
  cases m <;> cases m' <;> exact ⟨60, by kernel_rfl⟩
theorem look_8_3 (m m' : Bool) : Runs Try.prog env 7 [.pure m (.int .i64 (8 : Nat)), .pure m' (.int .i64 (3 : Nat))] [] (lookR (cellT 8 3)) [] := by
  cases m <;> cases m' <;> exact ⟨60, by kernel_rfl⟩
theorem look_8_4 (m m' : Bool) : Runs Try.prog env 7 [.pure m (.int .i64 (8 : Nat)), .pure m' (.int .i64 (4 : Nat))] [] (lookR (cellT 8 4)) [] := by
  cases m <;> cases m' <;> exact ⟨60, by kernel_rfl⟩
theorem look_8_5 (m m' : Bool) : Runs Try.prog env 7 [.pure m (.int .i64 (8 : Nat)), .pure m' (.int .i64 (5 : Nat))] [] (lookR (cellT 8 5)) [] := by
  cases m <;> cases m' <;> exact ⟨60, by kernel_rfl⟩
theorem look_8_6 (m m' : Bool) : Runs Try.prog env 7 [.pure m (.int .i64 (8 : Nat)), .pure m' (.int .i64 (6 : Nat))] [] (lookR (cellT 8 6)) [] := by
  cases m <;> cases m' <;> exact ⟨60, by kernel_rfl⟩
theorem look_8_7 (m m' : Bool) : Runs Try.prog env 7 [.pure m (.int .i64 (8 : Nat)), .pure m' (.int .i64 (7 : Nat))] [] (lookR (cellT 8 7)) [] := by
  cases m <;> cases m' <;> exact ⟨60, by kernel_rfl⟩
theorem look_8_8 (m m' : Bool) : Runs Try.prog env 7 [.pure m (.int .i64 (8 : Nat)), .pure m' (.int .i64 (8 : Nat))] [] (lookR (cellT 8 8)) [] := by
  cases m <;> cases m' <;> exact ⟨60, by kernel_rfl⟩
theorem look_8_9 (m m' : Bool) : Runs Try.prog env 7 [.pure m (.int .i64 (8 : Nat)), .pure m' (.int .i64 (9 : Nat))] [] (lookR (cellT 8 9)) [] := by
  cases m <;> cases m' <;> exact ⟨60, by kernel_rfl⟩
theorem look_8_10 (m m' : Bool) : Runs Try.prog env 7 [.pure m (.int .i64 (8 : Nat)), .pure m' (.int .i64 (10 : Nat))] [] (lookR (cellT 8 10)) [] := by
  cases m <;> cases m' <;> exact ⟨60, by kernel_rfl⟩
theorem look_8_11 (m m' : Bool) : Runs Try.prog env 7 [.pure m (.int .i64 (8 : Nat)), .pure m' (.int .i64 (11 : Nat))] [] (lookR (cellT 8 11)) [] := by
  cases m <;> cases m' <;> exact ⟨60, by kernel_rfl⟩
theorem look_8_12 (m m' : Bool) : Runs Try.prog env 7 [.pure m (.int .i64 (8 : Nat)), .pure m' (.int .i64 (12 : Nat))] [] (lookR (cellT 8 12)) [] := by
  cases m <;> cases m' <;> exact ⟨60, by kernel_rfl⟩
theorem look_8_13 (m m' : Bool) : Runs Try.prog env 7 [.pure m (.int .i64 (8 : Nat)), .pure m' (.int .i64 (13 : Nat))] [] (lookR (cellT 8 13)) [] := by
  cases m <;> cases m' <;> exact ⟨60, by kernel_rfl⟩
theorem look_8_14 (m m' : Bool) : Runs Try.prog env 7 [.pure m (.int .i64 (8 : Nat)), .pure m' (.int .i64 (14 : Nat))] [] (lookR (cellT 8 14)) [] := by
  cases m <;> cases m' <;> exact ⟨60, by kernel_rfl⟩
theorem look_8_15 (m m' : Bool) : Runs Try.prog env 7 [.pure m (.int .i64 (8 : Nat)), .pure m' (.int .i64 (15 : Nat))] [] (lookR (cellT 8 15)) [] := by
  cases m <;> cases m' <;> exact ⟨60, by kernel_rfl⟩
theorem look_8_16 (m m' : Bool) : Runs Try.prog env 7 [.pure m (.int .i64 (8 : Nat)), .pure m' (.int .i64 (16 : Nat))] [] (lookR (cellT 8 16)) [] := by
  cases m <;> cases m' <;> exact ⟨60, by kernel_rfl⟩
theorem look_8_17 (m m' : Bool) : Runs Try.prog env 7 [.pure m (.int .i64 (8 : Nat)), .pure m' (.int .i64 (17 : Nat))] [] (lookR (cellT 8 17)) [] := by
  cases m <;> cases m' <;> exact ⟨60, by kernel_rfl⟩
theorem lookRow_8 (e : Nat) (h : e < 18) (m m' : Bool) : Runs Try.prog env 7 [.pure m (.int .i64 (8 : Nat)), .pure m' (.int .i64 e)] [] (lookR (cellT 8 e)) [] := by
  have h2 : e = 0 ∨ e = 1 ∨ e = 2 ∨ e = 3 ∨ e = 4 ∨ e = 5 ∨ e = 6 ∨ e = 7 ∨ e = 8 ∨ e = 9 ∨ e = 10 ∨ e = 11 ∨ e = 12 ∨ e = 13 ∨ e = 14 ∨ e = 15 ∨ e = 16 ∨ e = 17 := by omega
  rcases h2 with rfl | rfl | rfl | rfl | rfl | rfl | rfl | rfl | rfl | rfl | rfl | rfl | rfl | rfl | rfl | rfl | rfl | rfl
  · exact look_8_0 m m'
  · exact look_8_1 m m'
  · exact look_8_2 m m'
  · exact look_8_3 m m'
  · exact look_8_4 m m'
  · exact look_8_5 m m'
  · exact look_8_6 m m'
  · exact look_8_7 m m'
  · exact look_8_8 m m'
  · exact look_8_9 m m'
  · exact look_8_10 m m'
  · exact look_8_11 m m'
  · exact look_8_12 m m'
  · exact look_8_13 m m'
  · exact look_8_14 m m'
  · exact look_8_15 m m'
  · exact look_8_16 m m'
  · exact look_8_17 m m'
theorem look_9_0 (m m' : Bool) : Runs Try.prog env 7 [.pure m (.int .i64 (9 : Nat)), .pure m' (.int .i64 (0 : Nat))] [] (lookR (cellT 9 0)) [] := by
  cases m <;> cases m' <;> exact ⟨60, by kernel_rfl⟩
theorem look_9_1 (m m' : Bool) : Runs Try.prog env 7 [.pure m (.int .i64 (9 : Nat)), .pure m' (.int .i64 (1 : Nat))] [] (lookR (cellT 9 1)) [] := by
  cases m <;> cases m' <;> exact ⟨60, by kernel_rfl⟩
theorem look_9_2 (m m' : Bool) : Runs Try.prog env 7 [.pure m (.int .i64 (9 : Nat)), .pure m' (.int .i64 (2 : Nat))] [] (lookR (cellT 9 2)) [] := by
  cases m <;> cases m' <;> exact ⟨60, by kernel_rfl⟩
theorem look_9_3 (m m' : Bool) : Runs Try.prog env 7 [.pure m (.int .i64 (9 : Nat)), .pure m' (.int .i64 (3 : Nat))] [] (lookR (cellT 9 3)) [] := by
  cases m <;> cases m' <;> exact ⟨60, by kernel_rfl⟩
theorem look_9_4 (m m' : Bool) : Runs Try.prog env 7 [.pure m (.int .i64 (9 : Nat)), .pure m' (.int .i64 (4 : Nat))] [] (lookR (cellT 9 4)) [] := by
  cases m <;> cases m' <;> exact ⟨60, by kernel_rfl⟩
theorem look_9_5 (m m' : Bool) : Runs Try.prog env 7 [.pure m (.int .i64 (9 : Nat)), .pure m' (.int .i64 (5 : Nat))] [] (lookR (cellT 9 5)) [] := by
  cases m <;> cases m' <;> exact ⟨60, by kernel_rfl⟩
theorem look_9_6 (m m' : Bool) : Runs Try.prog env 7 [.pure m (.int .i64 (9 : Nat)), .pure m' (.int .i64 (6 : Nat))] [] (lookR (cellT 9 6)) [] := by
  cases m <;> cases m' <;> exact ⟨60, by kernel_rfl⟩
theorem look_9_7 (m m' : Bool) : Runs Try.prog env 7 [.pure m (.int .i64 (9 : Nat)), .pure m' (.int .i64 (7 : Nat))] [] (lookR (cellT 9 7)) [] := by
  cases m <;> cases m' <;> exact ⟨60, by kernel_rfl⟩
theorem look_9_8 (m m' : Bool) : Runs Try.prog env 7 [.pure m (.int .i64 (9 : Nat)), .pure m' (.int .i64 (8 : Nat))] [] (lookR (cellT 9 8)) [] := by
  cases m <;> cases m' <;> exact ⟨60, by kernel_rfl⟩
theorem look_9_9 (m m' : Bool) : Runs Try.prog env 7 [.pure m (.int .i64 (9 : Nat)), .pure m' (.int .i64 (9 : Nat))] [] (lookR (cellT 9 9)) [] := by
  cases m <;> cases m' <;> exact ⟨60, by kernel_rfl⟩
theorem look_9_10 (m m' : Bool) : Runs Try.prog env 7 [.pure m (.int .i64 (9 : Nat)), .pure m' (.int .i64 (10 : Nat))] [] (lookR (cellT 9 10)) [] := by
  cases m <;> cases m' <;> exact ⟨60, by kernel_rfl⟩
theorem look_9_11 (m m' : Bool) : Runs Try.prog env 7 [.pure m (.int .i64 (9 : Nat)), .pure m' (.int .i64 (11 : Nat))] [] (lookR (cellT 9 11)) [] := by
  cases m <;> cases m' <;> exact ⟨60, by kernel_rfl⟩
theorem look_9_12 (m m' : Bool) : Runs Try.prog env 7 [.pure m (.int .i64 (9 : Nat)), .pure m' (.int .i64 (12 : Nat))] [] (lookR (cellT 9 12)) [] := by
  cases m <;> cases m' <;> exact ⟨60, by kernel_rfl⟩
theorem look_9_13 (m m' : Bool) : Runs Try.prog env 7 [.pure m (.int .i64 (9 : Nat)), .pure m' (.int .i64 (13 : Nat))] [] (lookR (cellT 9 13)) [] := by
  cases m <;> cases m' <;> exact ⟨60, by kernel_rfl⟩
theorem look_9_14 (m m' : Bool) : Runs Try.prog env 7 [.pure m (.int .i64 (9 : Nat)), .pure m' (.int .i64 (14 : Nat))] [] (lookR (cellT 9 14)) [] := by
  cases m <;> cases m' <;> exact ⟨60, by kernel_rfl⟩
theorem look_9_15 (m m' : Bool) : Runs Try.prog env 7 [.pure m (.int .i64 (9 : Nat)), .pure m' (.int .i64 (15 : Nat))] [] (lookR (cellT 9 15)) [] := by
  cases m <;> cases m' <;> exact ⟨60, by kernel_rfl⟩
theorem look_9_16 (m m' : Bool) : Runs Try.prog env 7 [.pure m (.int .i64 (9 : Nat)), .pure m' (.int .i64 (16 : Nat))] [] (lookR (cellT 9 16)) [] := by
  cases m <;> cases m' <;> exact ⟨60, by kernel_rfl⟩
theorem look_9_17 (m m' : Bool) : Runs Try.prog env 7 [.pure m (.int .i64 (9 : Nat)), .pure m' (.int .i64 (17 : Nat))] [] (lookR (cellT 9 17)) [] := by
  cases m <;> cases m' <;> exact ⟨60, by kernel_rfl⟩
theorem lookRow_9 (e : Nat) (h : e < 18) (m m' : Bool) : Runs Try.prog env 7 [.pure m (.int .i64 (9 : Nat)), .pure m' (.int .i64 e)] [] (lookR (cellT 9 e)) [] := by
  have h2 : e = 0 ∨ e = 1 ∨ e = 2 ∨ e = 3 ∨ e = 4 ∨ e = 5 ∨ e = 6 ∨ e = 7 ∨ e = 8 ∨ e = 9 ∨ e = 10 ∨ e = 11 ∨ e = 12 ∨ e = 13 ∨ e = 14 ∨ e = 15 ∨ e = 16 ∨ e = 17 := by omega
  rcases h2 with rfl | rfl | rfl | rfl | rfl | rfl | rfl | rfl | rfl | rfl | rfl | rfl | rfl | rfl | rfl | rfl | rfl | rfl
  · exact look_9_0 m m'
  · exact look_9_1 m m'
  · exact look_9_2 m m'
  · exact look_9_3 m m'
  · exact look_9_4 m m'
  · exact look_9_5 m m'
  · exact look_9_6 m m'
  · exact look_9_7 m m'
  · exact look_9_8 m m'
  · exact look_9_9 m m'
  · exact look_9_10 m m'
  · exact look_9_11 m m'
  · exact look_9_12 m m'
  · exact look_9_13 m m'
  · exact look_9_14 m m'
  · exact look_9_15 m m'
  · exact look_9_16 m m'
  · exact look_9_17 m m'
theorem lookC (s e : Nat) (h : s < 10) (h2 : e < 18) (m m' : Bool) : Runs Try.prog env 7 [.pure m (.int .i64 s), .pure m' (.int .i64 e)] [] (lookR (cellT s e)) [] := by
  have h3 : s = 0 ∨ s = 1 ∨ s = 2 ∨ s = 3 ∨ s = 4 ∨ s = 5 ∨ s = 6 ∨ s = 7 ∨ s = 8 ∨ s = 9 := by omega
  rcases h3 with rfl | rfl | rfl | rfl | rfl | rfl | rfl | rfl | rfl | rfl
  · exact lookRow_0 e h2 m m'
  · exact lookRow_1 e h2 m m'
  · exact lookRow_2 e h2 m m'
  · exact lookRow_3 e h2 m m'
  · exact lookRow_4 e h2 m m'
  · exact lookRow_5 e h2 m m'
  · exact lookRow_6 e h2 m m'
  · exact lookRow_7 e h2 m m'
  · exact lookRow_8 e h2 m m'
  · exact lookRow_9 e h2 m m'
def evT : List (List Nat) := [[1, 3, 4], [1, 3, 4], [2, 3, 4, 7, 8, 9, 10, 11, 12, 13, 14, 15, 16], [2, 3, 4, 7, 8, 9, 10, 11, 12, 13, 14, 15, 16], [2, 3, 4, 5, 6, 7, 8, 9, 10, 11, 12, 13, 14, 15, 16], [2, 3, 4, 5, 6, 7, 8, 9, 10, 11, 12, 13, 14, 15, 16], [2, 3, 4, 5, 6, 7, 8, 9, 10, 11, 12, 13, 14, 15, 16], [2, 3, 4, 5, 6, 7, 8, 9, 10, 11, 12, 13, 14, 15, 16], [2, 3, 4, 5, 6, 7, 8, 9, 10, 11, 12, 13, 14, 15, 16], [2, 3, 4, 7, 8, 9, 10, 11, 12, 13, 14, 15, 16]]
theorem ev_0 (m : Bool) : Runs Try.prog env 8 [.pure m (.int .i64 (0 : Nat))] [] (.row 0 3) [(0, .row true 1 0 (intsOf [1, 3, 4]))] := by
  cases m <;> exact ⟨200, by kernel_rfl⟩
theorem ev_1 (m : Bool) : Runs Try.prog env 8 [.pure m (.int .i64 (1 : Nat))] [] (.row 0 3) [(0, .row true 1 0 (intsOf [1, 3, 4]))] := by
  cases m <;> exact ⟨200, by kernel_rfl⟩
theorem ev_2 (m : Bool) : Runs Try.prog env 8 [.pure m (.int .i64 (2 : Nat))] [] (.row 0 13) [(0, .row true 1 0 (intsOf [2, 3, 4, 7, 8, 9, 10, 11, 12, 13, 14, 15, 16]))] := by
  cases m <;> exact ⟨200, by kernel_rfl⟩
theorem ev_3 (m : Bool) : Runs Try.prog env 8 [.pure m (.int .i64 (3 : Nat))] [] (.row 0 13) [(0, .row true 1 0 (intsOf [2, 3, 4, 7, 8, 9, 10, 11, 12, 13, 14, 15, 16]))] := by
  cases m <;> exact ⟨200, by kernel_rfl⟩
theorem ev_4 (m : Bool) : Runs Try.prog env 8 [.pure m (.int .i64 (4 : Nat))] [] (.row 0 15) [(0, .row true 1 0 (intsOf [2, 3, 4, 5, 6, 7, 8, 9, 10, 11, 12, 13, 14, 15, 16]))] := by
  cases m <;> exact ⟨200, by kernel_rfl⟩
theorem ev_5 (m : Bool) : Runs Try.prog env 8 [.pure m (.int .i64 (5 : Nat))] [] (.row 0 15) [(0, .row true 1 0 (intsOf [2, 3, 4, 5, 6, 7, 8, 9, 10, 11, 12, 13, 14, 15, 16]))] := by
  cases m <;> exact ⟨200, by kernel_rfl⟩
theorem ev_6 (m : Bool) : Runs Try.prog env 8 [.pure m (.int .i64 (6 : Nat))] [] (.row 0 15) [(0, .row true 1 0 (intsOf [2, 3, 4, 5, 6, 7, 8, 9, 10, 11, 12, 13, 14, 15, 16]))] := by
  cases m <;> exact ⟨200, by kernel_rfl⟩
theorem ev_7 (m : Bool) : Runs Try.prog env 8 [.pure m (.int .i64 (7 : Nat))] [] (.row 0 15) [(0, .row true 1 0 (intsOf [2, 3, 4, 5, 6, 7, 8, 9, 10, 11, 12, 13, 14, 15, 16]))] := by
  cases m <;> exact ⟨200, by kernel_rfl⟩
theorem ev_8 (m : Bool) : Runs Try.prog env 8 [.pure m (.int .i64 (8 : Nat))] [] (.row 0 15) [(0, .row true 1 0 (intsOf [2, 3, 4, 5, 6, 7, 8, 9, 10, 11, 12, 13, 14, 15, 16]))] := by
  cases m <;> exact ⟨200, by kernel_rfl⟩
theorem ev_9 (m : Bool) : Runs Try.prog env 8 [.pure m (.int .i64 (9 : Nat))] [] (.row 0 13) [(0, .row true 1 0 (intsOf [2, 3, 4, 7, 8, 9, 10, 11, 12, 13, 14, 15, 16]))] := by
  cases m <;> exact ⟨200, by kernel_rfl⟩
end Go.Proofs.Ytnhbmabikngmpaa
