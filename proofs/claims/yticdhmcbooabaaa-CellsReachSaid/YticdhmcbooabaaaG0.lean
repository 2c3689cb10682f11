/- YticdhmcbooabaaaG0: the program's table, cells of the states 0 and 1, each by the evaluator. No claim. -/
import Derived.Test.YticdhmcbooabaaaT
set_option linter.unusedVariables false
set_option linter.unusedSimpArgs false
set_option maxRecDepth 100000
namespace Go.Proofs.Yticdhmcbooabaaa
open Go Go.Proofs.Yticdhmcbooabaaa.V
theorem look_0_1 (m m' : Bool) : Runs Try.prog env 12 [.pure m (.int .i64 (0 : Nat)), .pure m' (.int .i64 (1 : Nat))] [] (lookR (cellT 0 1)) [] := by cases m <;> exact ⟨200, by kernel_rfl⟩
theorem look_0_2 (m m' : Bool) : Runs Try.prog env 12 [.pure m (.int .i64 (0 : Nat)), .pure m' (.int .i64 (2 : Nat))] [] (lookR (cellT 0 2)) [] := by cases m <;> exact ⟨200, by kernel_rfl⟩
theorem look_0_3 (m m' : Bool) : Runs Try.prog env 12 [.pure m (.int .i64 (0 : Nat)), .pure m' (.int .i64 (3 : Nat))] [] (lookR (cellT 0 3)) [] := by cases m <;> exact ⟨200, by kernel_rfl⟩
theorem look_0_4 (m m' : Bool) : Runs Try.prog env 12 [.pure m (.int .i64 (0 : Nat)), .pure m' (.int .i64 (4 : Nat))] [] (lookR (cellT 0 4)) [] := by cases m <;> exact ⟨200, by kernel_rfl⟩
theorem look_0_5 (m m' : Bool) : Runs Try.prog env 12 [.pure m (.int .i64 (0 : Nat)), .pure m' (.int .i64 (5 : Nat))] [] (lookR (cellT 0 5)) [] := by cases m <;> exact ⟨200, by kernel_rfl⟩
theorem look_0_6 (m m' : Bool) : Runs Try.prog env 12 [.pure m (.int .i64 (0 : Nat)), .pure m' (.int .i64 (6 : Nat))] [] (lookR (cellT 0 6)) [] := by cases m <;> exact ⟨200, by kernel_rfl⟩
theorem look_0_7 (m m' : Bool) : Runs Try.prog env 12 [.pure m (.int .i64 (0 : Nat)), .pure m' (.int .i64 (7 : Nat))] [] (lookR (cellT 0 7)) [] := by cases m <;> exact ⟨200, by kernel_rfl⟩
theorem look_0_8 (m m' : Bool) : Runs Try.prog env 12 [.pure m (.int .i64 (0 : Nat)), .pure m' (.int .i64 (8 : Nat))] [] (lookR (cellT 0 8)) [] := by cases m <;> exact ⟨200, by kernel_rfl⟩
theorem look_0_9 (m m' : Bool) : Runs Try.prog env 12 [.pure m (.int .i64 (0 : Nat)), .pure m' (.int .i64 (9 : Nat))] [] (lookR (cellT 0 9)) [] := by cases m <;> exact ⟨200, by kernel_rfl⟩
theorem look_0_10 (m m' : Bool) : Runs Try.prog env 12 [.pure m (.int .i64 (0 : Nat)), .pure m' (.int .i64 (10 : Nat))] [] (lookR (cellT 0 10)) [] := by cases m <;> exact ⟨200, by kernel_rfl⟩
theorem look_0_11 (m m' : Bool) : Runs Try.prog env 12 [.pure m (.int .i64 (0 : Nat)), .pure m' (.int .i64 (11 : Nat))] [] (lookR (cellT 0 11)) [] := by cases m <;> exact ⟨200, by kernel_rfl⟩
theorem look_0_12 (m m' : Bool) : Runs Try.prog env 12 [.pure m (.int .i64 (0 : Nat)), .pure m' (.int .i64 (12 : Nat))] [] (lookR (cellT 0 12)) [] := by cases m <;> exact ⟨200, by kernel_rfl⟩
theorem look_0_13 (m m' : Bool) : Runs Try.prog env 12 [.pure m (.int .i64 (0 : Nat)), .pure m' (.int .i64 (13 : Nat))] [] (lookR (cellT 0 13)) [] := by cases m <;> exact ⟨200, by kernel_rfl⟩
theorem look_0_14 (m m' : Bool) : Runs Try.prog env 12 [.pure m (.int .i64 (0 : Nat)), .pure m' (.int .i64 (14 : Nat))] [] (lookR (cellT 0 14)) [] := by cases m <;> exact ⟨200, by kernel_rfl⟩
theorem look_0_15 (m m' : Bool) : Runs Try.prog env 12 [.pure m (.int .i64 (0 : Nat)), .pure m' (.int .i64 (15 : Nat))] [] (lookR (cellT 0 15)) [] := by cases m <;> exact ⟨200, by kernel_rfl⟩
theorem look_0_16 (m m' : Bool) : Runs Try.prog env 12 [.pure m (.int .i64 (0 : Nat)), .pure m' (.int .i64 (16 : Nat))] [] (lookR (cellT 0 16)) [] := by cases m <;> exact ⟨200, by kernel_rfl⟩
theorem lookRow_0 (e : Nat) (h1 : 1 ≤ e) (h2 : e ≤ 16) (m m' : Bool) : Runs Try.prog env 12 [.pure m (.int .i64 (0 : Nat)), .pure m' (.int .i64 e)] [] (lookR (cellT 0 e)) [] := by
  have h3 : e = 1 ∨ e = 2 ∨ e = 3 ∨ e = 4 ∨ e = 5 ∨ e = 6 ∨ e = 7 ∨ e = 8 ∨ e = 9 ∨ e = 10 ∨ e = 11 ∨ e = 12 ∨ e = 13 ∨ e = 14 ∨ e = 15 ∨ e = 16 := by omega
  rcases h3 with rfl | rfl | rfl | rfl | rfl | rfl | rfl | rfl | rfl | rfl | rfl | rfl | rfl | rfl | rfl | rfl
  · exact look_0_1 m m'
  · exact look_0_2 m m'
  · exact look_0_3 m m'
  · exact look_0_4 m m'
  · exact look_0_5 m m'
  · exact look_0_6 m m'
  · exact look_0_7 m m'
  · exact look_0_8 m m'
  · exact look_0_9 m m'
  · exact look_0_10 m m'
  · exact look_0_11 m m'
  · exact look_0_12 m m'
  · exact look_0_13 m m'
  · exact look_0_14 m m'
  · exact look_0_15 m m'
  · exact look_0_16 m m'
theorem look_1_1 (m m' : Bool) : Runs Try.prog env 12 [.pure m (.int .i64 (1 : Nat)), .pure m' (.int .i64 (1 : Nat))] [] (lookR (cellT 1 1)) [] := by cases m <;> exact ⟨200, by kernel_rfl⟩
theorem look_1_2 (m m' : Bool) : Runs Try.prog env 12 [.pure m (.int .i64 (1 : Nat)), .pure m' (.int .i64 (2 : Nat))] [] (lookR (cellT 1 2)) [] := by cases m <;> exact ⟨200, by kernel_rfl⟩
theorem look_1_3 (m m' : Bool) : Runs Try.prog env 12 [.pure m (.int .i64 (1 : Nat)), .pure m' (.int .i64 (3 : Nat))] [] (lookR (cellT 1 3)) [] := by cases m <;> exact ⟨200, by kernel_rfl⟩
theorem look_1_4 (m m' : Bool) : Runs Try.prog env 12 [.pure m (.int .i64 (1 : Nat)), .pure m' (.int .i64 (4 : Nat))] [] (lookR (cellT 1 4)) [] := by cases m <;> exact ⟨200, by kernel_rfl⟩
theorem look_1_5 (m m' : Bool) : Runs Try.prog env 12 [.pure m (.int .i64 (1 : Nat)), .pure m' (.int .i64 (5 : Nat))] [] (lookR (cellT 1 5)) [] := by cases m <;> exact ⟨200, by kernel_rfl⟩
theorem look_1_6 (m m' : Bool) : Runs Try.prog env 12 [.pure m (.int .i64 (1 : Nat)), .pure m' (.int .i64 (6 : Nat))] [] (lookR (cellT 1 6)) [] := by cases m <;> exact ⟨200, by kernel_rfl⟩
theorem look_1_7 (m m' : Bool) : Runs Try.prog env 12 [.pure m (.int .i64 (1 : Nat)), .pure m' (.int .i64 (7 : Nat))] [] (lookR (cellT 1 7)) [] := by cases m <;> exact ⟨200, by kernel_rfl⟩
theorem look_1_8 (m m' : Bool) : Runs Try.prog env 12 [.pure m (.int .i64 (1 : Nat)), .pure m' (.int .i64 (8 : Nat))] [] (lookR (cellT 1 8)) [] := by cases m <;> exact ⟨200, by kernel_rfl⟩
theorem look_1_9 (m m' : Bool) : Runs Try.prog env 12 [.pure m (.int .i64 (1 : Nat)), .pure m' (.int .i64 (9 : Nat))] [] (lookR (cellT 1 9)) [] := by cases m <;> exact ⟨200, by kernel_rfl⟩
theorem look_1_10 (m m' : Bool) : Runs Try.prog env 12 [.pure m (.int .i64 (1 : Nat)), .pure m' (.int .i64 (10 : Nat))] [] (lookR (cellT 1 10)) [] := by cases m <;> exact ⟨200, by kernel_rfl⟩
theorem look_1_11 (m m' : Bool) : Runs Try.prog env 12 [.pure m (.int .i64 (1 : Nat)), .pure m' (.int .i64 (11 : Nat))] [] (lookR (cellT 1 11)) [] := by cases m <;> exact ⟨200, by kernel_rfl⟩
theorem look_1_12 (m m' : Bool) : Runs Try.prog env 12 [.pure m (.int .i64 (1 : Nat)), .pure m' (.int .i64 (12 : Nat))] [] (lookR (cellT 1 12)) [] := by cases m <;> exact ⟨200, by kernel_rfl⟩
theorem look_1_13 (m m' : Bool) : Runs Try.prog env 12 [.pure m (.int .i64 (1 : Nat)), .pure m' (.int .i64 (13 : Nat))] [] (lookR (cellT 1 13)) [] := by cases m <;> exact ⟨200, by kernel_rfl⟩
theorem look_1_14 (m m' : Bool) : Runs Try.prog env 12 [.pure m (.int .i64 (1 : Nat)), .pure m' (.int .i64 (14 : Nat))] [] (lookR (cellT 1 14)) [] := by cases m <;> exact ⟨200, by kernel_rfl⟩
theorem look_1_15 (m m' : Bool) : Runs Try.prog env 12 [.pure m (.int .i64 (1 : Nat)), .pure m' (.int .i64 (15 : Nat))] [] (lookR (cellT 1 15)) [] := by cases m <;> exact ⟨200, by kernel_rfl⟩
theorem look_1_16 (m m' : Bool) : Runs Try.prog env 12 [.pure m (.int .i64 (1 : Nat)), .pure m' (.int .i64 (16 : Nat))] [] (lookR (cellT 1 16)) [] := by cases m <;> exact ⟨200, by kernel_rfl⟩
theorem lookRow_1 (e : Nat) (h1 : 1 ≤ e) (h2 : e ≤ 16) (m m' : Bool) : Runs Try.prog env 12 [.pure m (.int .i64 (1 : Nat)), .pure m' (.int .i64 e)] [] (lookR (cellT 1 e)) [] := by
  have h3 : e = 1 ∨ e = 2 ∨ e = 3 ∨ e = 4 ∨ e = 5 ∨ e = 6 ∨ e = 7 ∨ e = 8 ∨ e = 9 ∨ e = 10 ∨ e = 11 ∨ e = 12 ∨ e = 13 ∨ e = 14 ∨ e = 15 ∨ e = 16 := by omega
  rcases h3 with rfl | rfl | rfl | rfl | rfl | rfl | rfl | rfl | rfl | rfl | rfl | rfl | rfl | rfl | rfl | rfl
  · exact look_1_1 m m'
  · exact look_1_2 m m'
  · exact look_1_3 m m'
  · exact look_1_4 m m'
  · exact look_1_5 m m'
  · exact look_1_6 m m'
  · exact look_1_7 m m'
  · exact look_1_8 m m'
  · exact look_1_9 m m'
  · exact look_1_10 m m'
  · exact look_1_11 m m'
  · exact look_1_12 m m'
  · exact look_1_13 m m'
  · exact look_1_14 m m'
  · exact look_1_15 m m'
  · exact look_1_16 m m'
end Go.Proofs.Yticdhmcbooabaaa
