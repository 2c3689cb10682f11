/- YticdhmcbooabaaaG2: the program's table, cells of the states 4 and 5, each by the evaluator. No claim. -/
import Derived.Test.YticdhmcbooabaaaT
set_option linter.unusedVariables false
set_option linter.unusedSimpArgs false
set_option maxRecDepth 100000
namespace Go.Proofs.Yticdhmcbooabaaa
open Go Go.Proofs.Yticdhmcbooabaaa.V
theorem look_4_1 (m m' : Bool) : Runs Try.prog env 12 [.pure m (.int .i64 (4 : Nat)), .pure m' (.int .i64 (1 : Nat))] [] (lookR (cellT 4 1)) [] := by cases m <;> exact ⟨200, by kernel_rfl⟩
theorem look_4_2 (m m' : Bool) : Runs Try.prog env 12 [.pure m (.int .i64 (4 : Nat)), .pure m' (.int .i64 (2 : Nat))] [] (lookR (cellT 4 2)) [] := by cases m <;> exact ⟨200, by kernel_rfl⟩
theorem look_4_3 (m m' : Bool) : Runs Try.prog env 12 [.pure m (.int .i64 (4 : Nat)), .pure m' (.int .i64 (3 : Nat))] [] (lookR (cellT 4 3)) [] := by cases m <;> exact ⟨200, by kernel_rfl⟩
theorem look_4_4 (m m' : Bool) : Runs Try.prog env 12 [.pure m (.int .i64 (4 : Nat)), .pure m' (.int .i64 (4 : Nat))] [] (lookR (cellT 4 4)) [] := by cases m <;> exact ⟨200, by kernel_rfl⟩
theorem look_4_5 (m m' : Bool) : Runs Try.prog env 12 [.pure m (.int .i64 (4 : Nat)), .pure m' (.int .i64 (5 : Nat))] [] (lookR (cellT 4 5)) [] := by cases m <;> exact ⟨200, by kernel_rfl⟩
theorem look_4_6 (m m' : Bool) : Runs Try.prog env 12 [.pure m (.int .i64 (4 : Nat)), .pure m' (.int .i64 (6 : Nat))] [] (lookR (cellT 4 6)) [] := by cases m <;> exact ⟨200, by kernel_rfl⟩
theorem look_4_7 (m m' : Bool) : Runs Try.prog env 12 [.pure m (.int .i64 (4 : Nat)), .pure m' (.int .i64 (7 : Nat))] [] (lookR (cellT 4 7)) [] := by cases m <;> exact ⟨200, by kernel_rfl⟩
theorem look_4_8 (m m' : Bool) : Runs Try.prog env 12 [.pure m (.int .i64 (4 : Nat)), .pure m' (.int .i64 (8 : Nat))] [] (lookR (cellT 4 8)) [] := by cases m <;> exact ⟨200, by kernel_rfl⟩
theorem look_4_9 (m m' : Bool) : Runs Try.prog env 12 [.pure m (.int .i64 (4 : Nat)), .pure m' (.int .i64 (9 : Nat))] [] (lookR (cellT 4 9)) [] := by cases m <;> exact ⟨200, by kernel_rfl⟩
theorem look_4_10 (m m' : Bool) : Runs Try.prog env 12 [.pure m (.int .i64 (4 : Nat)), .pure m' (.int .i64 (10 : Nat))] [] (lookR (cellT 4 10)) [] := by cases m <;> exact ⟨200, by kernel_rfl⟩
theorem look_4_11 (m m' : Bool) : Runs Try.prog env 12 [.pure m (.int .i64 (4 : Nat)), .pure m' (.int .i64 (11 : Nat))] [] (lookR (cellT 4 11)) [] := by cases m <;> exact ⟨200, by kernel_rfl⟩
theorem look_4_12 (m m' : Bool) : Runs Try.prog env 12 [.pure m (.int .i64 (4 : Nat)), .pure m' (.int .i64 (12 : Nat))] [] (lookR (cellT 4 12)) [] := by cases m <;> exact ⟨200, by kernel_rfl⟩
theorem look_4_13 (m m' : Bool) : Runs Try.prog env 12 [.pure m (.int .i64 (4 : Nat)), .pure m' (.int .i64 (13 : Nat))] [] (lookR (cellT 4 13)) [] := by cases m <;> exact ⟨200, by kernel_rfl⟩
theorem look_4_14 (m m' : Bool) : Runs Try.prog env 12 [.pure m (.int .i64 (4 : Nat)), .pure m' (.int .i64 (14 : Nat))] [] (lookR (cellT 4 14)) [] := by cases m <;> exact ⟨200, by kernel_rfl⟩
theorem look_4_15 (m m' : Bool) : Runs Try.prog env 12 [.pure m (.int .i64 (4 : Nat)), .pure m' (.int .i64 (15 : Nat))] [] (lookR (cellT 4 15)) [] := by cases m <;> exact ⟨200, by kernel_rfl⟩
theorem look_4_16 (m m' : Bool) : Runs Try.prog env 12 [.pure m (.int .i64 (4 : Nat)), .pure m' (.int .i64 (16 : Nat))] [] (lookR (cellT 4 16)) [] := by cases m <;> exact ⟨200, by kernel_rfl⟩
theorem lookRow_4 (e : Nat) (h1 : 1 ≤ e) (h2 : e ≤ 16) (m m' : Bool) : Runs Try.prog env 12 [.pure m (.int .i64 (4 : Nat)), .pure m' (.int .i64 e)] [] (lookR (cellT 4 e)) [] := by
  have h3 : e = 1 ∨ e = 2 ∨ e = 3 ∨ e = 4 ∨ e = 5 ∨ e = 6 ∨ e = 7 ∨ e = 8 ∨ e = 9 ∨ e = 10 ∨ e = 11 ∨ e = 12 ∨ e = 13 ∨ e = 14 ∨ e = 15 ∨ e = 16 := by omega
  rcases h3 with rfl | rfl | rfl | rfl | rfl | rfl | rfl | rfl | rfl | rfl | rfl | rfl | rfl | rfl | rfl | rfl
  · exact look_4_1 m m'
  · exact look_4_2 m m'
  · exact look_4_3 m m'
  · exact look_4_4 m m'
  · exact look_4_5 m m'
  · exact look_4_6 m m'
  · exact look_4_7 m m'
  · exact look_4_8 m m'
  · exact look_4_9 m m'
  · exact look_4_10 m m'
  · exact look_4_11 m m'
  · exact look_4_12 m m'
  · exact look_4_13 m m'
  · exact look_4_14 m m'
  · exact look_4_15 m m'
  · exact look_4_16 m m'
theorem look_5_1 (m m' : Bool) : Runs Try.prog env 12 [.pure m (.int .i64 (5 : Nat)), .pure m' (.int .i64 (1 : Nat))] [] (lookR (cellT 5 1)) [] := by cases m <;> exact ⟨200, by kernel_rfl⟩
theorem look_5_2 (m m' : Bool) : Runs Try.prog env 12 [.pure m (.int .i64 (5 : Nat)), .pure m' (.int .i64 (2 : Nat))] [] (lookR (cellT 5 2)) [] := by cases m <;> exact ⟨200, by kernel_rfl⟩
theorem look_5_3 (m m' : Bool) : Runs Try.prog env 12 [.pure m (.int .i64 (5 : Nat)), .pure m' (.int .i64 (3 : Nat))] [] (lookR (cellT 5 3)) [] := by cases m <;> exact ⟨200, by kernel_rfl⟩
theorem look_5_4 (m m' : Bool) : Runs Try.prog env 12 [.pure m (.int .i64 (5 : Nat)), .pure m' (.int .i64 (4 : Nat))] [] (lookR (cellT 5 4)) [] := by cases m <;> exact ⟨200, by kernel_rfl⟩
theorem look_5_5 (m m' : Bool) : Runs Try.prog env 12 [.pure m (.int .i64 (5 : Nat)), .pure m' (.int .i64 (5 : Nat))] [] (lookR (cellT 5 5)) [] := by cases m <;> exact ⟨200, by kernel_rfl⟩
theorem look_5_6 (m m' : Bool) : Runs Try.prog env 12 [.pure m (.int .i64 (5 : Nat)), .pure m' (.int .i64 (6 : Nat))] [] (lookR (cellT 5 6)) [] := by cases m <;> exact ⟨200, by kernel_rfl⟩
theorem look_5_7 (m m' : Bool) : Runs Try.prog env 12 [.pure m (.int .i64 (5 : Nat)), .pure m' (.int .i64 (7 : Nat))] [] (lookR (cellT 5 7)) [] := by cases m <;> exact ⟨200, by kernel_rfl⟩
theorem look_5_8 (m m' : Bool) : Runs Try.prog env 12 [.pure m (.int .i64 (5 : Nat)), .pure m' (.int .i64 (8 : Nat))] [] (lookR (cellT 5 8)) [] := by cases m <;> exact ⟨200, by kernel_rfl⟩
theorem look_5_9 (m m' : Bool) : Runs Try.prog env 12 [.pure m (.int .i64 (5 : Nat)), .pure m' (.int .i64 (9 : Nat))] [] (lookR (cellT 5 9)) [] := by cases m <;> exact ⟨200, by kernel_rfl⟩
theorem look_5_10 (m m' : Bool) : Runs Try.prog env 12 [.pure m (.int .i64 (5 : Nat)), .pure m' (.int .i64 (10 : Nat))] [] (lookR (cellT 5 10)) [] := by cases m <;> exact ⟨200, by kernel_rfl⟩
theorem look_5_11 (m m' : Bool) : Runs Try.prog env 12 [.pure m (.int .i64 (5 : Nat)), .pure m' (.int .i64 (11 : Nat))] [] (lookR (cellT 5 11)) [] := by cases m <;> exact ⟨200, by kernel_rfl⟩
theorem look_5_12 (m m' : Bool) : Runs Try.prog env 12 [.pure m (.int .i64 (5 : Nat)), .pure m' (.int .i64 (12 : Nat))] [] (lookR (cellT 5 12)) [] := by cases m <;> exact ⟨200, by kernel_rfl⟩
theorem look_5_13 (m m' : Bool) : Runs Try.prog env 12 [.pure m (.int .i64 (5 : Nat)), .pure m' (.int .i64 (13 : Nat))] [] (lookR (cellT 5 13)) [] := by cases m <;> exact ⟨200, by kernel_rfl⟩
theorem look_5_14 (m m' : Bool) : Runs Try.prog env 12 [.pure m (.int .i64 (5 : Nat)), .pure m' (.int .i64 (14 : Nat))] [] (lookR (cellT 5 14)) [] := by cases m <;> exact ⟨200, by kernel_rfl⟩
theorem look_5_15 (m m' : Bool) : Runs Try.prog env 12 [.pure m (.int .i64 (5 : Nat)), .pure m' (.int .i64 (15 : Nat))] [] (lookR (cellT 5 15)) [] := by cases m <;> exact ⟨200, by kernel_rfl⟩
theorem look_5_16 (m m' : Bool) : Runs Try.prog env 12 [.pure m (.int .i64 (5 : Nat)), .pure m' (.int .i64 (16 : Nat))] [] (lookR (cellT 5 16)) [] := by cases m <;> exact ⟨200, by kernel_rfl⟩
theorem lookRow_5 (e : Nat) (h1 : 1 ≤ e) (h2 : e ≤ 16) (m m' : Bool) : Runs Try.prog env 12 [.pure m (.int .i64 (5 : Nat)), .pure m' (.int .i64 e)] [] (lookR (cellT 5 e)) [] := by
  have h3 : e = 1 ∨ e = 2 ∨ e = 3 ∨ e = 4 ∨ e = 5 ∨ e = 6 ∨ e = 7 ∨ e = 8 ∨ e = 9 ∨ e = 10 ∨ e = 11 ∨ e = 12 ∨ e = 13 ∨ e = 14 ∨ e = 15 ∨ e = 16 := by omega
  rcases h3 with rfl | rfl | rfl | rfl | rfl | rfl | rfl | rfl | rfl | rfl | rfl | rfl | rfl | rfl | rfl | rfl
  · exact look_5_1 m m'
  · exact look_5_2 m m'
  · exact look_5_3 m m'
  · exact look_5_4 m m'
  · exact look_5_5 m m'
  · exact look_5_6 m m'
  · exact look_5_7 m m'
  · exact look_5_8 m m'
  · exact look_5_9 m m'
  · exact look_5_10 m m'
  · exact look_5_11 m m'
  · exact look_5_12 m m'
  · exact look_5_13 m m'
  · exact look_5_14 m m'
  · exact look_5_15 m m'
  · exact look_5_16 m m'
end Go.Proofs.Yticdhmcbooabaaa
