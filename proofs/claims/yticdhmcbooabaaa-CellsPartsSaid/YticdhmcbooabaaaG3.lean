/- YticdhmcbooabaaaG3: the program's table, cells of the states 6 and 7, each by the evaluator. No claim. -/
import Derived.Test.YticdhmcbooabaaaT
set_option linter.unusedVariables false
set_option linter.unusedSimpArgs false
set_option maxRecDepth 100000
namespace Go.Proofs.Yticdhmcbooabaaa
open Go Go.Proofs.Yticdhmcbooabaaa.V
theorem look_6_1 (m m' : Bool) : Runs Try.prog env 12 [.pure m (.int .i64 (6 : Nat)), .pure m' (.int .i64 (1 : Nat))] [] (lookR (cellT 6 1)) [] := by cases m <;> exact ⟨200, by kernel_rfl⟩
theorem look_6_2 (m m' : Bool) : Runs Try.prog env 12 [.pure m (.int .i64 (6 : Nat)), .pure m' (.int .i64 (2 : Nat))] [] (lookR (cellT 6 2)) [] := by cases m <;> exact ⟨200, by kernel_rfl⟩
theorem look_6_3 (m m' : Bool) : Runs Try.prog env 12 [.pure m (.int .i64 (6 : Nat)), .pure m' (.int .i64 (3 : Nat))] [] (lookR (cellT 6 3)) [] := by cases m <;> exact ⟨200, by kernel_rfl⟩
theorem look_6_4 (m m' : Bool) : Runs Try.prog env 12 [.pure m (.int .i64 (6 : Nat)), .pure m' (.int .i64 (4 : Nat))] [] (lookR (cellT 6 4)) [] := by cases m <;> exact ⟨200, by kernel_rfl⟩
theorem look_6_5 (m m' : Bool) : Runs Try.prog env 12 [.pure m (.int .i64 (6 : Nat)), .pure m' (.int .i64 (5 : Nat))] [] (lookR (cellT 6 5)) [] := by cases m <;> exact ⟨200, by kernel_rfl⟩
theorem look_6_6 (m m' : Bool) : Runs Try.prog env 12 [.pure m (.int .i64 (6 : Nat)), .pure m' (.int .i64 (6 : Nat))] [] (lookR (cellT 6 6)) [] := by cases m <;> exact ⟨200, by kernel_rfl⟩
theorem look_6_7 (m m' : Bool) : Runs Try.prog env 12 [.pure m (.int .i64 (6 : Nat)), .pure m' (.int .i64 (7 : Nat))] [] (lookR (cellT 6 7)) [] := by cases m <;> exact ⟨200, by kernel_rfl⟩
theorem look_6_8 (m m' : Bool) : Runs Try.prog env 12 [.pure m (.int .i64 (6 : Nat)), .pure m' (.int .i64 (8 : Nat))] [] (lookR (cellT 6 8)) [] := by cases m <;> exact ⟨200, by kernel_rfl⟩
theorem look_6_9 (m m' : Bool) : Runs Try.prog env 12 [.pure m (.int .i64 (6 : Nat)), .pure m' (.int .i64 (9 : Nat))] [] (lookR (cellT 6 9)) [] := by cases m <;> exact ⟨200, by kernel_rfl⟩
theorem look_6_10 (m m' : Bool) : Runs Try.prog env 12 [.pure m (.int .i64 (6 : Nat)), .pure m' (.int .i64 (10 : Nat))] [] (lookR (cellT 6 10)) [] := by cases m <;> exact ⟨200, by kernel_rfl⟩
theorem look_6_11 (m m' : Bool) : Runs Try.prog env 12 [.pure m (.int .i64 (6 : Nat)), .pure m' (.int .i64 (11 : Nat))] [] (lookR (cellT 6 11)) [] := by cases m <;> exact ⟨200, by kernel_rfl⟩
theorem look_6_12 (m m' : Bool) : Runs Try.prog env 12 [.pure m (.int .i64 (6 : Nat)), .pure m' (.int .i64 (12 : Nat))] [] (lookR (cellT 6 12)) [] := by cases m <;> exact ⟨200, by kernel_rfl⟩
theorem look_6_13 (m m' : Bool) : Runs Try.prog env 12 [.pure m (.int .i64 (6 : Nat)), .pure m' (.int .i64 (13 : Nat))] [] (lookR (cellT 6 13)) [] := by cases m <;> exact ⟨200, by kernel_rfl⟩
theorem look_6_14 (m m' : Bool) : Runs Try.prog env 12 [.pure m (.int .i64 (6 : Nat)), .pure m' (.int .i64 (14 : Nat))] [] (lookR (cellT 6 14)) [] := by cases m <;> exact ⟨200, by kernel_rfl⟩
theorem look_6_15 (m m' : Bool) : Runs Try.prog env 12 [.pure m (.int .i64 (6 : Nat)), .pure m' (.int .i64 (15 : Nat))] [] (lookR (cellT 6 15)) [] := by cases m <;> exact ⟨200, by kernel_rfl⟩
theorem look_6_16 (m m' : Bool) : Runs Try.prog env 12 [.pure m (.int .i64 (6 : Nat)), .pure m' (.int .i64 (16 : Nat))] [] (lookR (cellT 6 16)) [] := by cases m <;> exact ⟨200, by kernel_rfl⟩
theorem lookRow_6 (e : Nat) (h1 : 1 ≤ e) (h2 : e ≤ 16) (m m' : Bool) : Runs Try.prog env 12 [.pure m (.int .i64 (6 : Nat)), .pure m' (.int .i64 e)] [] (lookR (cellT 6 e)) [] := by
  have h3 : e = 1 ∨ e = 2 ∨ e = 3 ∨ e = 4 ∨ e = 5 ∨ e = 6 ∨ e = 7 ∨ e = 8 ∨ e = 9 ∨ e = 10 ∨ e = 11 ∨ e = 12 ∨ e = 13 ∨ e = 14 ∨ e = 15 ∨ e = 16 := by omega
  rcases h3 with rfl | rfl | rfl | rfl | rfl | rfl | rfl | rfl | rfl | rfl | rfl | rfl | rfl | rfl | rfl | rfl
  · exact look_6_1 m m'
  · exact look_6_2 m m'
  · exact look_6_3 m m'
  · exact look_6_4 m m'
  · exact look_6_5 m m'
  · exact look_6_6 m m'
  · exact look_6_7 m m'
  · exact look_6_8 m m'
  · exact look_6_9 m m'
  · exact look_6_10 m m'
  · exact look_6_11 m m'
  · exact look_6_12 m m'
  · exact look_6_13 m m'
  · exact look_6_14 m m'
  · exact look_6_15 m m'
  · exact look_6_16 m m'
theorem look_7_1 (m m' : Bool) : Runs Try.prog env 12 [.pure m (.int .i64 (7 : Nat)), .pure m' (.int .i64 (1 : Nat))] [] (lookR (cellT 7 1)) [] := by cases m <;> exact ⟨200, by kernel_rfl⟩
theorem look_7_2 (m m' : Bool) : Runs Try.prog env 12 [.pure m (.int .i64 (7 : Nat)), .pure m' (.int .i64 (2 : Nat))] [] (lookR (cellT 7 2)) [] := by cases m <;> exact ⟨200, by kernel_rfl⟩
theorem look_7_3 (m m' : Bool) : Runs Try.prog env 12 [.pure m (.int .i64 (7 : Nat)), .pure m' (.int .i64 (3 : Nat))] [] (lookR (cellT 7 3)) [] := by cases m <;> exact ⟨200, by kernel_rfl⟩
theorem look_7_4 (m m' : Bool) : Runs Try.prog env 12 [.pure m (.int .i64 (7 : Nat)), .pure m' (.int .i64 (4 : Nat))] [] (lookR (cellT 7 4)) [] := by cases m <;> exact ⟨200, by kernel_rfl⟩
theorem look_7_5 (m m' : Bool) : Runs Try.prog env 12 [.pure m (.int .i64 (7 : Nat)), .pure m' (.int .i64 (5 : Nat))] [] (lookR (cellT 7 5)) [] := by cases m <;> exact ⟨200, by kernel_rfl⟩
theorem look_7_6 (m m' : Bool) : Runs Try.prog env 12 [.pure m (.int .i64 (7 : Nat)), .pure m' (.int .i64 (6 : Nat))] [] (lookR (cellT 7 6)) [] := by cases m <;> exact ⟨200, by kernel_rfl⟩
theorem look_7_7 (m m' : Bool) : Runs Try.prog env 12 [.pure m (.int .i64 (7 : Nat)), .pure m' (.int .i64 (7 : Nat))] [] (lookR (cellT 7 7)) [] := by cases m <;> exact ⟨200, by kernel_rfl⟩
theorem look_7_8 (m m' : Bool) : Runs Try.prog env 12 [.pure m (.int .i64 (7 : Nat)), .pure m' (.int .i64 (8 : Nat))] [] (lookR (cellT 7 8)) [] := by cases m <;> exact ⟨200, by kernel_rfl⟩
theorem look_7_9 (m m' : Bool) : Runs Try.prog env 12 [.pure m (.int .i64 (7 : Nat)), .pure m' (.int .i64 (9 : Nat))] [] (lookR (cellT 7 9)) [] := by cases m <;> exact ⟨200, by kernel_rfl⟩
theorem look_7_10 (m m' : Bool) : Runs Try.prog env 12 [.pure m (.int .i64 (7 : Nat)), .pure m' (.int .i64 (10 : Nat))] [] (lookR (cellT 7 10)) [] := by cases m <;> exact ⟨200, by kernel_rfl⟩
theorem look_7_11 (m m' : Bool) : Runs Try.prog env 12 [.pure m (.int .i64 (7 : Nat)), .pure m' (.int .i64 (11 : Nat))] [] (lookR (cellT 7 11)) [] := by cases m <;> exact ⟨200, by kernel_rfl⟩
theorem look_7_12 (m m' : Bool) : Runs Try.prog env 12 [.pure m (.int .i64 (7 : Nat)), .pure m' (.int .i64 (12 : Nat))] [] (lookR (cellT 7 12)) [] := by cases m <;> exact ⟨200, by kernel_rfl⟩
theorem look_7_13 (m m' : Bool) : Runs Try.prog env 12 [.pure m (.int .i64 (7 : Nat)), .pure m' (.int .i64 (13 : Nat))] [] (lookR (cellT 7 13)) [] := by cases m <;> exact ⟨200, by kernel_rfl⟩
theorem look_7_14 (m m' : Bool) : Runs Try.prog env 12 [.pure m (.int .i64 (7 : Nat)), .pure m' (.int .i64 (14 : Nat))] [] (lookR (cellT 7 14)) [] := by cases m <;> exact ⟨200, by kernel_rfl⟩
theorem look_7_15 (m m' : Bool) : Runs Try.prog env 12 [.pure m (.int .i64 (7 : Nat)), .pure m' (.int .i64 (15 : Nat))] [] (lookR (cellT 7 15)) [] := by cases m <;> exact ⟨200, by kernel_rfl⟩
theorem look_7_16 (m m' : Bool) : Runs Try.prog env 12 [.pure m (.int .i64 (7 : Nat)), .pure m' (.int .i64 (16 : Nat))] [] (lookR (cellT 7 16)) [] := by cases m <;> exact ⟨200, by kernel_rfl⟩
theorem lookRow_7 (e : Nat) (h1 : 1 ≤ e) (h2 : e ≤ 16) (m m' : Bool) : Runs Try.prog env 12 [.pure m (.int .i64 (7 : Nat)), .pure m' (.int .i64 e)] [] (lookR (cellT 7 e)) [] := by
  have h3 : e = 1 ∨ e = 2 ∨ e = 3 ∨ e = 4 ∨ e = 5 ∨ e = 6 ∨ e = 7 ∨ e = 8 ∨ e = 9 ∨ e = 10 ∨ e = 11 ∨ e = 12 ∨ e = 13 ∨ e = 14 ∨ e = 15 ∨ e = 16 := by omega
  rcases h3 with rfl | rfl | rfl | rfl | rfl | rfl | rfl | rfl | rfl | rfl | rfl | rfl | rfl | rfl | rfl | rfl
  · exact look_7_1 m m'
  · exact look_7_2 m m'
  · exact look_7_3 m m'
  · exact look_7_4 m m'
  · exact look_7_5 m m'
  · exact look_7_6 m m'
  · exact look_7_7 m m'
  · exact look_7_8 m m'
  · exact look_7_9 m m'
  · exact look_7_10 m m'
  · exact look_7_11 m m'
  · exact look_7_12 m m'
  · exact look_7_13 m m'
  · exact look_7_14 m m'
  · exact look_7_15 m m'
  · exact look_7_16 m m'
end Go.Proofs.Yticdhmcbooabaaa
