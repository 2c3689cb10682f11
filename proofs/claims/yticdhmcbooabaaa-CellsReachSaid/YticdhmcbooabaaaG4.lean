/- YticdhmcbooabaaaG4: the program's table, cells of the states 8 and 9, each by the evaluator. No claim. -/
import Derived.Test.YticdhmcbooabaaaT
set_option linter.unusedVariables false
set_option linter.unusedSimpArgs false
set_option maxRecDepth 100000
namespace Go.Proofs.Yticdhmcbooabaaa
open Go Go.Proofs.Yticdhmcbooabaaa.V
theorem look_8_1 (m m' : Bool) : Runs Try.prog env 12 [.pure m (.int .i64 (8 : Nat)), .pure m' (.int .i64 (1 : Nat))] [] (lookR (cellT 8 1)) [] := by cases m <;> exact ⟨200, by kernel_rfl⟩
theorem look_8_2 (m m' : Bool) : Runs Try.prog env 12 [.pure m (.int .i64 (8 : Nat)), .pure m' (.int .i64 (2 : Nat))] [] (lookR (cellT 8 2)) [] := by cases m <;> exact ⟨200, by kernel_rfl⟩
theorem look_8_3 (m m' : Bool) : Runs Try.prog env 12 [.pure m (.int .i64 (8 : Nat)), .pure m' (.int .i64 (3 : Nat))] [] (lookR (cellT 8 3)) [] := by cases m <;> exact ⟨200, by kernel_rfl⟩
theorem look_8_4 (m m' : Bool) : Runs Try.prog env 12 [.pure m (.int .i64 (8 : Nat)), .pure m' (.int .i64 (4 : Nat))] [] (lookR (cellT 8 4)) [] := by cases m <;> exact ⟨200, by kernel_rfl⟩
theorem look_8_5 (m m' : Bool) : Runs Try.prog env 12 [.pure m (.int .i64 (8 : Nat)), .pure m' (.int .i64 (5 : Nat))] [] (lookR (cellT 8 5)) [] := by cases m <;> exact ⟨200, by kernel_rfl⟩
theorem look_8_6 (m m' : Bool) : Runs Try.prog env 12 [.pure m (.int .i64 (8 : Nat)), .pure m' (.int .i64 (6 : Nat))] [] (lookR (cellT 8 6)) [] := by cases m <;> exact ⟨200, by kernel_rfl⟩
theorem look_8_7 (m m' : Bool) : Runs Try.prog env 12 [.pure m (.int .i64 (8 : Nat)), .pure m' (.int .i64 (7 : Nat))] [] (lookR (cellT 8 7)) [] := by cases m <;> exact ⟨200, by kernel_rfl⟩
theorem look_8_8 (m m' : Bool) : Runs Try.prog env 12 [.pure m (.int .i64 (8 : Nat)), .pure m' (.int .i64 (8 : Nat))] [] (lookR (cellT 8 8)) [] := by cases m <;> exact ⟨200, by kernel_rfl⟩
theorem look_8_9 (m m' : Bool) : Runs Try.prog env 12 [.pure m (.int .i64 (8 : Nat)), .pure m' (.int .i64 (9 : Nat))] [] (lookR (cellT 8 9)) [] := by cases m <;> exact ⟨200, by kernel_rfl⟩
theorem look_8_10 (m m' : Bool) : Runs Try.prog env 12 [.pure m (.int .i64 (8 : Nat)), .pure m' (.int .i64 (10 : Nat))] [] (lookR (cellT 8 10)) [] := by cases m <;> exact ⟨200, by kernel_rfl⟩
theorem look_8_11 (m m' : Bool) : Runs Try.prog env 12 [.pure m (.int .i64 (8 : Nat)), .pure m' (.int .i64 (11 : Nat))] [] (lookR (cellT 8 11)) [] := by cases m <;> exact ⟨200, by kernel_rfl⟩
theorem look_8_12 (m m' : Bool) : Runs Try.prog env 12 [.pure m (.int .i64 (8 : Nat)), .pure m' (.int .i64 (12 : Nat))] [] (lookR (cellT 8 12)) [] := by cases m <;> exact ⟨200, by kernel_rfl⟩
theorem look_8_13 (m m' : Bool) : Runs Try.prog env 12 [.pure m (.int .i64 (8 : Nat)), .pure m' (.int .i64 (13 : Nat))] [] (lookR (cellT 8 13)) [] := by cases m <;> exact ⟨200, by kernel_rfl⟩
theorem look_8_14 (m m' : Bool) : Runs Try.prog env 12 [.pure m (.int .i64 (8 : Nat)), .pure m' (.int .i64 (14 : Nat))] [] (lookR (cellT 8 14)) [] := by cases m <;> exact ⟨200, by kernel_rfl⟩
theorem look_8_15 (m m' : Bool) : Runs Try.prog env 12 [.pure m (.int .i64 (8 : Nat)), .pure m' (.int .i64 (15 : Nat))] [] (lookR (cellT 8 15)) [] := by cases m <;> exact ⟨200, by kernel_rfl⟩
theorem look_8_16 (m m' : Bool) : Runs Try.prog env 12 [.pure m (.int .i64 (8 : Nat)), .pure m' (.int .i64 (16 : Nat))] [] (lookR (cellT 8 16)) [] := by cases m <;> exact ⟨200, by kernel_rfl⟩
theorem lookRow_8 (e : Nat) (h1 : 1 ≤ e) (h2 : e ≤ 16) (m m' : Bool) : Runs Try.prog env 12 [.pure m (.int .i64 (8 : Nat)), .pure m' (.int .i64 e)] [] (lookR (cellT 8 e)) [] := by
  have h3 : e = 1 ∨ e = 2 ∨ e = 3 ∨ e = 4 ∨ e = 5 ∨ e = 6 ∨ e = 7 ∨ e = 8 ∨ e = 9 ∨ e = 10 ∨ e = 11 ∨ e = 12 ∨ e = 13 ∨ e = 14 ∨ e = 15 ∨ e = 16 := by omega
  rcases h3 with rfl | rfl | rfl | rfl | rfl | rfl | rfl | rfl | rfl | rfl | rfl | rfl | rfl | rfl | rfl | rfl
  · exact look_8_1 m m'
  · exact look_8_2 m m'
  · exact look_8_3 m m'
  · exact look_8_4 m m'
  · exact look_8_5 m m'
  · exact look_8_6 m m'
  · exact look_8_7 m m'
  · exact look_8_8 m m'
  · exact look_8_9 m m'
  · exact look_8_10 m m'
  · exact look_8_11 m m'
  · exact look_8_12 m m'
  · exact look_8_13 m m'
  · exact look_8_14 m m'
  · exact look_8_15 m m'
  · exact look_8_16 m m'
theorem look_9_1 (m m' : Bool) : Runs Try.prog env 12 [.pure m (.int .i64 (9 : Nat)), .pure m' (.int .i64 (1 : Nat))] [] (lookR (cellT 9 1)) [] := by cases m <;> exact ⟨200, by kernel_rfl⟩
theorem look_9_2 (m m' : Bool) : Runs Try.prog env 12 [.pure m (.int .i64 (9 : Nat)), .pure m' (.int .i64 (2 : Nat))] [] (lookR (cellT 9 2)) [] := by cases m <;> exact ⟨200, by kernel_rfl⟩
theorem look_9_3 (m m' : Bool) : Runs Try.prog env 12 [.pure m (.int .i64 (9 : Nat)), .pure m' (.int .i64 (3 : Nat))] [] (lookR (cellT 9 3)) [] := by cases m <;> exact ⟨200, by kernel_rfl⟩
theorem look_9_4 (m m' : Bool) : Runs Try.prog env 12 [.pure m (.int .i64 (9 : Nat)), .pure m' (.int .i64 (4 : Nat))] [] (lookR (cellT 9 4)) [] := by cases m <;> exact ⟨200, by kernel_rfl⟩
theorem look_9_5 (m m' : Bool) : Runs Try.prog env 12 [.pure m (.int .i64 (9 : Nat)), .pure m' (.int .i64 (5 : Nat))] [] (lookR (cellT 9 5)) [] := by cases m <;> exact ⟨200, by kernel_rfl⟩
theorem look_9_6 (m m' : Bool) : Runs Try.prog env 12 [.pure m (.int .i64 (9 : Nat)), .pure m' (.int .i64 (6 : Nat))] [] (lookR (cellT 9 6)) [] := by cases m <;> exact ⟨200, by kernel_rfl⟩
theorem look_9_7 (m m' : Bool) : Runs Try.prog env 12 [.pure m (.int .i64 (9 : Nat)), .pure m' (.int .i64 (7 : Nat))] [] (lookR (cellT 9 7)) [] := by cases m <;> exact ⟨200, by kernel_rfl⟩
theorem look_9_8 (m m' : Bool) : Runs Try.prog env 12 [.pure m (.int .i64 (9 : Nat)), .pure m' (.int .i64 (8 : Nat))] [] (lookR (cellT 9 8)) [] := by cases m <;> exact ⟨200, by kernel_rfl⟩
theorem look_9_9 (m m' : Bool) : Runs Try.prog env 12 [.pure m (.int .i64 (9 : Nat)), .pure m' (.int .i64 (9 : Nat))] [] (lookR (cellT 9 9)) [] := by cases m <;> exact ⟨200, by kernel_rfl⟩
theorem look_9_10 (m m' : Bool) : Runs Try.prog env 12 [.pure m (.int .i64 (9 : Nat)), .pure m' (.int .i64 (10 : Nat))] [] (lookR (cellT 9 10)) [] := by cases m <;> exact ⟨200, by kernel_rfl⟩
theorem look_9_11 (m m' : Bool) : Runs Try.prog env 12 [.pure m (.int .i64 (9 : Nat)), .pure m' (.int .i64 (11 : Nat))] [] (lookR (cellT 9 11)) [] := by cases m <;> exact ⟨200, by kernel_rfl⟩
theorem look_9_12 (m m' : Bool) : Runs Try.prog env 12 [.pure m (.int .i64 (9 : Nat)), .pure m' (.int .i64 (12 : Nat))] [] (lookR (cellT 9 12)) [] := by cases m <;> exact ⟨200, by kernel_rfl⟩
theorem look_9_13 (m m' : Bool) : Runs Try.prog env 12 [.pure m (.int .i64 (9 : Nat)), .pure m' (.int .i64 (13 : Nat))] [] (lookR (cellT 9 13)) [] := by cases m <;> exact ⟨200, by kernel_rfl⟩
theorem look_9_14 (m m' : Bool) : Runs Try.prog env 12 [.pure m (.int .i64 (9 : Nat)), .pure m' (.int .i64 (14 : Nat))] [] (lookR (cellT 9 14)) [] := by cases m <;> exact ⟨200, by kernel_rfl⟩
theorem look_9_15 (m m' : Bool) : Runs Try.prog env 12 [.pure m (.int .i64 (9 : Nat)), .pure m' (.int .i64 (15 : Nat))] [] (lookR (cellT 9 15)) [] := by cases m <;> exact ⟨200, by kernel_rfl⟩
theorem look_9_16 (m m' : Bool) : Runs Try.prog env 12 [.pure m (.int .i64 (9 : Nat)), .pure m' (.int .i64 (16 : Nat))] [] (lookR (cellT 9 16)) [] := by cases m <;> exact ⟨200, by kernel_rfl⟩
theorem lookRow_9 (e : Nat) (h1 : 1 ≤ e) (h2 : e ≤ 16) (m m' : Bool) : Runs Try.prog env 12 [.pure m (.int .i64 (9 : Nat)), .pure m' (.int .i64 e)] [] (lookR (cellT 9 e)) [] := by
  have h3 : e = 1 ∨ e = 2 ∨ e = 3 ∨ e = 4 ∨ e = 5 ∨ e = 6 ∨ e = 7 ∨ e = 8 ∨ e = 9 ∨ e = 10 ∨ e = 11 ∨ e = 12 ∨ e = 13 ∨ e = 14 ∨ e = 15 ∨ e = 16 := by omega
  rcases h3 with rfl | rfl | rfl | rfl | rfl | rfl | rfl | rfl | rfl | rfl | rfl | rfl | rfl | rfl | rfl | rfl
  · exact look_9_1 m m'
  · exact look_9_2 m m'
  · exact look_9_3 m m'
  · exact look_9_4 m m'
  · exact look_9_5 m m'
  · exact look_9_6 m m'
  · exact look_9_7 m m'
  · exact look_9_8 m m'
  · exact look_9_9 m m'
  · exact look_9_10 m m'
  · exact look_9_11 m m'
  · exact look_9_12 m m'
  · exact look_9_13 m m'
  · exact look_9_14 m m'
  · exact look_9_15 m m'
  · exact look_9_16 m m'
end Go.Proofs.Yticdhmcbooabaaa
