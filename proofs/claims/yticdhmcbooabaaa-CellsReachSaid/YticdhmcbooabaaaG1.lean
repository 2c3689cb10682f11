/- YticdhmcbooabaaaG1: the program's table, cells of the states 2 and 3, each by the evaluator. No claim. -/
import Derived.Test.YticdhmcbooabaaaT
set_option linter.unusedVariables false
set_option linter.unusedSimpArgs false
set_option maxRecDepth 100000
namespace Go.Proofs.Yticdhmcbooabaaa
open Go Go.Proofs.Yticdhmcbooabaaa.V
theorem look_2_1 (m m' : Bool) : Runs Try.prog env 12 [.pure m (.int .i64 (2 : Nat)), .pure m' (.int .i64 (1 : Nat))] [] (lookR (cellT 2 1)) [] := by cases m <;> exact ⟨200, by kernel_rfl⟩
theorem look_2_2 (m m' : Bool) : Runs Try.prog env 12 [.pure m (.int .i64 (2 : Nat)), .pure m' (.int .i64 (2 : Nat))] [] (lookR (cellT 2 2)) [] := by cases m <;> exact ⟨200, by kernel_rfl⟩
theorem look_2_3 (m m' : Bool) : Runs Try.prog env 12 [.pure m (.int .i64 (2 : Nat)), .pure m' (.int .i64 (3 : Nat))] [] (lookR (cellT 2 3)) [] := by cases m <;> exact ⟨200, by kernel_rfl⟩
theorem look_2_4 (m m' : Bool) : Runs Try.prog env 12 [.pure m (.int .i64 (2 : Nat)), .pure m' (.int .i64 (4 : Nat))] [] (lookR (cellT 2 4)) [] := by cases m <;> exact ⟨200, by kernel_rfl⟩
theorem look_2_5 (m m' : Bool) : Runs Try.prog env 12 [.pure m (.int .i64 (2 : Nat)), .pure m' (.int .i64 (5 : Nat))] [] (lookR (cellT 2 5)) [] := by cases m <;> exact ⟨200, by kernel_rfl⟩
theorem look_2_6 (m m' : Bool) : Runs Try.prog env 12 [.pure m (.int .i64 (2 : Nat)), .pure m' (.int .i64 (6 : Nat))] [] (lookR (cellT 2 6)) [] := by cases m <;> exact ⟨200, by kernel_rfl⟩
theorem look_2_7 (m m' : Bool) : Runs Try.prog env 12 [.pure m (.int .i64 (2 : Nat)), .pure m' (.int .i64 (7 : Nat))] [] (lookR (cellT 2 7)) [] := by cases m <;> exact ⟨200, by kernel_rfl⟩
theorem look_2_8 (m m' : Bool) : Runs Try.prog env 12 [.pure m (.int .i64 (2 : Nat)), .pure m' (.int .i64 (8 : Nat))] [] (lookR (cellT 2 8)) [] := by cases m <;> exact ⟨200, by kernel_rfl⟩
theorem look_2_9 (m m' : Bool) : Runs Try.prog env 12 [.pure m (.int .i64 (2 : Nat)), .pure m' (.int .i64 (9 : Nat))] [] (lookR (cellT 2 9)) [] := by cases m <;> exact ⟨200, by kernel_rfl⟩
theorem look_2_10 (m m' : Bool) : Runs Try.prog env 12 [.pure m (.int .i64 (2 : Nat)), .pure m' (.int .i64 (10 : Nat))] [] (lookR (cellT 2 10)) [] := by cases m <;> exact ⟨200, by kernel_rfl⟩
theorem look_2_11 (m m' : Bool) : Runs Try.prog env 12 [.pure m (.int .i64 (2 : Nat)), .pure m' (.int .i64 (11 : Nat))] [] (lookR (cellT 2 11)) [] := by cases m <;> exact ⟨200, by kernel_rfl⟩
theorem look_2_12 (m m' : Bool) : Runs Try.prog env 12 [.pure m (.int .i64 (2 : Nat)), .pure m' (.int .i64 (12 : Nat))] [] (lookR (cellT 2 12)) [] := by cases m <;> exact ⟨200, by kernel_rfl⟩
theorem look_2_13 (m m' : Bool) : Runs Try.prog env 12 [.pure m (.int .i64 (2 : Nat)), .pure m' (.int .i64 (13 : Nat))] [] (lookR (cellT 2 13)) [] := by cases m <;> exact ⟨200, by kernel_rfl⟩
theorem look_2_14 (m m' : Bool) : Runs Try.prog env 12 [.pure m (.int .i64 (2 : Nat)), .pure m' (.int .i64 (14 : Nat))] [] (lookR (cellT 2 14)) [] := by cases m <;> exact ⟨200, by kernel_rfl⟩
theorem look_2_15 (m m' : Bool) : Runs Try.prog env 12 [.pure m (.int .i64 (2 : Nat)), .pure m' (.int .i64 (15 : Nat))] [] (lookR (cellT 2 15)) [] := by cases m <;> exact ⟨200, by kernel_rfl⟩
theorem look_2_16 (m m' : Bool) : Runs Try.prog env 12 [.pure m (.int .i64 (2 : Nat)), .pure m' (.int .i64 (16 : Nat))] [] (lookR (cellT 2 16)) [] := by cases m <;> exact ⟨200, by kernel_rfl⟩
theorem lookRow_2 (e : Nat) (h1 : 1 ≤ e) (h2 : e ≤ 16) (m m' : Bool) : Runs Try.prog env 12 [.pure m (.int .i64 (2 : Nat)), .pure m' (.int .i64 e)] [] (lookR (cellT 2 e)) [] := by
  have h3 : e = 1 ∨ e = 2 ∨ e = 3 ∨ e = 4 ∨ e = 5 ∨ e = 6 ∨ e = 7 ∨ e = 8 ∨ e = 9 ∨ e = 10 ∨ e = 11 ∨ e = 12 ∨ e = 13 ∨ e = 14 ∨ e = 15 ∨ e = 16 := by omega
  rcases h3 with rfl | rfl | rfl | rfl | rfl | rfl | rfl | rfl | rfl | rfl | rfl | rfl | rfl | rfl | rfl | rfl
  · exact look_2_1 m m'
  · exact look_2_2 m m'
  · exact look_2_3 m m'
  · exact look_2_4 m m'
  · exact look_2_5 m m'
  · exact look_2_6 m m'
  · exact look_2_7 m m'
  · exact look_2_8 m m'
  · exact look_2_9 m m'
  · exact look_2_10 m m'
  · exact look_2_11 m m'
  · exact look_2_12 m m'
  · exact look_2_13 m m'
  · exact look_2_14 m m'
  · exact look_2_15 m m'
  · exact look_2_16 m m'
theorem look_3_1 (m m' : Bool) : Runs Try.prog env 12 [.pure m (.int .i64 (3 : Nat)), .pure m' (.int .i64 (1 : Nat))] [] (lookR (cellT 3 1)) [] := by cases m <;> exact ⟨200, by kernel_rfl⟩
theorem look_3_2 (m m' : Bool) : Runs Try.prog env 12 [.pure m (.int .i64 (3 : Nat)), .pure m' (.int .i64 (2 : Nat))] [] (lookR (cellT 3 2)) [] := by cases m <;> exact ⟨200, by kernel_rfl⟩
theorem look_3_3 (m m' : Bool) : Runs Try.prog env 12 [.pure m (.int .i64 (3 : Nat)), .pure m' (.int .i64 (3 : Nat))] [] (lookR (cellT 3 3)) [] := by cases m <;> exact ⟨200, by kernel_rfl⟩
theorem look_3_4 (m m' : Bool) : Runs Try.prog env 12 [.pure m (.int .i64 (3 : Nat)), .pure m' (.int .i64 (4 : Nat))] [] (lookR (cellT 3 4)) [] := by cases m <;> exact ⟨200, by kernel_rfl⟩
theorem look_3_5 (m m' : Bool) : Runs Try.prog env 12 [.pure m (.int .i64 (3 : Nat)), .pure m' (.int .i64 (5 : Nat))] [] (lookR (cellT 3 5)) [] := by cases m <;> exact ⟨200, by kernel_rfl⟩
theorem look_3_6 (m m' : Bool) : Runs Try.prog env 12 [.pure m (.int .i64 (3 : Nat)), .pure m' (.int .i64 (6 : Nat))] [] (lookR (cellT 3 6)) [] := by cases m <;> exact ⟨200, by kernel_rfl⟩
theorem look_3_7 (m m' : Bool) : Runs Try.prog env 12 [.pure m (.int .i64 (3 : Nat)), .pure m' (.int .i64 (7 : Nat))] [] (lookR (cellT 3 7)) [] := by cases m <;> exact ⟨200, by kernel_rfl⟩
theorem look_3_8 (m m' : Bool) : Runs Try.prog env 12 [.pure m (.int .i64 (3 : Nat)), .pure m' (.int .i64 (8 : Nat))] [] (lookR (cellT 3 8)) [] := by cases m <;> exact ⟨200, by kernel_rfl⟩
theorem look_3_9 (m m' : Bool) : Runs Try.prog env 12 [.pure m (.int .i64 (3 : Nat)), .pure m' (.int .i64 (9 : Nat))] [] (lookR (cellT 3 9)) [] := by cases m <;> exact ⟨200, by kernel_rfl⟩
theorem look_3_10 (m m' : Bool) : Runs Try.prog env 12 [.pure m (.int .i64 (3 : Nat)), .pure m' (.int .i64 (10 : Nat))] [] (lookR (cellT 3 10)) [] := by cases m <;> exact ⟨200, by kernel_rfl⟩
theorem look_3_11 (m m' : Bool) : Runs Try.prog env 12 [.pure m (.int .i64 (3 : Nat)), .pure m' (.int .i64 (11 : Nat))] [] (lookR (cellT 3 11)) [] := by cases m <;> exact ⟨200, by kernel_rfl⟩
theorem look_3_12 (m m' : Bool) : Runs Try.prog env 12 [.pure m (.int .i64 (3 : Nat)), .pure m' (.int .i64 (12 : Nat))] [] (lookR (cellT 3 12)) [] := by cases m <;> exact ⟨200, by kernel_rfl⟩
theorem look_3_13 (m m' : Bool) : Runs Try.prog env 12 [.pure m (.int .i64 (3 : Nat)), .pure m' (.int .i64 (13 : Nat))] [] (lookR (cellT 3 13)) [] := by cases m <;> exact ⟨200, by kernel_rfl⟩
theorem look_3_14 (m m' : Bool) : Runs Try.prog env 12 [.pure m (.int .i64 (3 : Nat)), .pure m' (.int .i64 (14 : Nat))] [] (lookR (cellT 3 14)) [] := by cases m <;> exact ⟨200, by kernel_rfl⟩
theorem look_3_15 (m m' : Bool) : Runs Try.prog env 12 [.pure m (.int .i64 (3 : Nat)), .pure m' (.int .i64 (15 : Nat))] [] (lookR (cellT 3 15)) [] := by cases m <;> exact ⟨200, by kernel_rfl⟩
theorem look_3_16 (m m' : Bool) : Runs Try.prog env 12 [.pure m (.int .i64 (3 : Nat)), .pure m' (.int .i64 (16 : Nat))] [] (lookR (cellT 3 16)) [] := by cases m <;> exact ⟨200, by kernel_rfl⟩
theorem lookRow_3 (e : Nat) (h1 : 1 ≤ e) (h2 : e ≤ 16) (m m' : Bool) : Runs Try.prog env 12 [.pure m (.int .i64 (3 : Nat)), .pure m' (.int .i64 e)] [] (lookR (cellT 3 e)) [] := by
  have h3 : e = 1 ∨ e = 2 ∨ e = 3 ∨ e = 4 ∨ e = 5 ∨ e = 6 ∨ e = 7 ∨ e = 8 ∨ e = 9 ∨ e = 10 ∨ e = 11 ∨ e = 12 ∨ e = 13 ∨ e = 14 ∨ e = 15 ∨ e = 16 := by omega
  rcases h3 with rfl | rfl | rfl | rfl | rfl | rfl | rfl | rfl | rfl | rfl | rfl | rfl | rfl | rfl | rfl | rfl
  · exact look_3_1 m m'
  · exact look_3_2 m m'
  · exact look_3_3 m m'
  · exact look_3_4 m m'
  · exact look_3_5 m m'
  · exact look_3_6 m m'
  · exact look_3_7 m m'
  · exact look_3_8 m m'
  · exact look_3_9 m m'
  · exact look_3_10 m m'
  · exact look_3_11 m m'
  · exact look_3_12 m m'
  · exact look_3_13 m m'
  · exact look_3_14 m m'
  · exact look_3_15 m m'
  · exact look_3_16 m m'
end Go.Proofs.Yticdhmcbooabaaa
