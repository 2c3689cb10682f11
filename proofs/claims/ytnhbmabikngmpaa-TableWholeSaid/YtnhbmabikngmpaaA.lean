/- YtnhbmabikngmpaaA: the table's cells, each by the evaluator. No claim. -/
import Derived.Test.YtnhbmabikngmpaaE
set_option linter.unusedVariables false
set_option linter.unusedSimpArgs false
set_option maxRecDepth 100000
namespace Go.Proofs.Ytnhbmabikngmpaa
open Go Go.Proofs.Ytnhbmabikngmpaa.V

def rowsT : List (List (Option (Nat × List Nat))) := [
  [none, some (2, []), none, some (1, [3]), some (0, []), none, none, none, none, none, none, none, none, none, none, none, none, none],
  [none, some (6, [5, 7]), none, some (1, []), some (0, [4]), none, none, none, none, none, none, none, none, none, none, none, none, none],
  [none, none, some (0, []), some (6, [5, 7]), some (2, []), none, none, some (2, [11]), some (2, [11]), some (2, [11]), some (2, [11]), some (2, [11]), some (2, []), some (2, [12]), some (2, []), some (2, [4]), some (2, []), none],
  [none, none, some (1, [3]), some (3, []), some (2, []), none, none, some (8, [5, 7, 8]), some (6, [5, 7, 9]), some (3, [11]), some (3, [11]), some (3, [11]), some (3, []), some (3, [12]), some (3, []), some (3, [4]), some (3, []), none],
  [none, none, some (0, []), some (5, []), some (4, []), some (4, [10]), some (2, [4]), some (4, []), some (4, []), some (4, []), some (4, []), some (4, [11]), some (2, [4]), some (4, [12]), some (4, []), some (2, [4]), some (4, []), none],
  [none, none, some (1, []), some (5, []), some (4, []), some (5, [10]), some (3, [4]), some (5, []), some (5, []), some (5, []), some (5, []), some (5, [11]), some (3, [4]), some (5, [12]), some (5, []), some (3, [4]), some (5, []), none],
  [none, none, some (1, []), some (6, []), some (4, [5, 10]), some (6, [7]), some (3, [4]), some (8, [8]), some (6, [9]), some (7, [5]), some (6, [5, 7]), some (6, [11]), some (6, []), some (6, [12]), some (6, []), some (3, [4]), some (6, []), none],
  [none, none, some (1, []), some (7, []), some (4, [5, 10]), some (6, [7]), some (3, [4]), some (9, [8, 1]), some (7, [9]), some (6, [7]), some (6, [7]), some (6, [11]), some (6, []), some (7, [12]), some (6, []), some (3, [4]), some (7, []), none],
  [none, none, some (1, []), some (8, []), some (4, [5, 10]), some (8, [7]), some (3, [4]), some (8, [8]), some (6, [9]), some (9, [5, 1]), some (8, [5, 7]), some (6, [11]), some (8, []), some (8, [12]), some (8, []), some (3, [4]), some (8, []), none],
  [none, none, some (1, [2]), some (9, []), some (4, [2, 5, 10]), none, none, some (8, [2, 7, 8]), some (6, [2, 7, 9]), some (6, [2, 7]), some (6, [2, 7]), some (5, [2, 6, 11]), some (6, [2, 7]), some (9, [12]), some (9, []), some (5, [2, 5, 10]), some (9, [13]), none]]
def cellT (s e : Nat) : Option (Nat × List Nat) := ((rowsT[s]?).getD [])[e]?.getD none
def intsOf (l : List Nat) : List PV := l.map fun (n : Nat) => .int .i64 n
def lookR : Option (Nat × List Nat) → SV
  | some (n, l) => .tuple [.pure false (.int .i64 n), .pure false (.sl (intsOf l)), .pure true (.bool true)]
  | none => .tuple [.pure true (.int .i64 0), .pure true (.sl []), .pure true (.bool false)]
theorem awake19_any : Runs Try.prog env 6 [] [] (.pure true (.bool true)) [] := ⟨60, by kernel_rfl⟩
theorem look_0_0 (m m' : Bool) : Runs Try.prog env 7 [.pure m (.int .i64 (0 : Nat)), .pure m' (.int .i64 (0 : Nat))] [] (lookR (cellT 0 0)) [] := by
  cases m <;> cases m' <;> exact ⟨60, by kernel_rfl⟩
theorem look_0_1 (m m' : Bool) : Runs Try.prog env 7 [.pure m (.int .i64 (0 : Nat)), .pure m' (.int .i64 (1 : Nat))] [] (lookR (cellT 0 1)) [] := by
  cases m <;> cases m' <;> exact ⟨60, by kernel_rfl⟩
theorem look_0_2 (m m' : Bool) : Runs Try.prog env 7 [.pure m (.int .i64 (0 : Nat)), .pure m' (.int .i64 (2 : Nat))] [] (lookR (cellT 0 2)) [] := by
  cases m <;> cases m' <;> exact ⟨60, by kernel_rfl⟩
theorem look_0_3 (m m' : Bool) : Runs Try.prog env 7 [.pure m (.int .i64 (0 : Nat)), .pure m' (.int .i64 (3 : Nat))] [] (lookR (cellT 0 3)) [] := by
  cases m <;> cases m' <;> exact ⟨60, by kernel_rfl⟩
theorem look_0_4 (m m' : Bool) : Runs Try.prog env 7 [.pure m (.int .i64 (0 : Nat)), .pure m' (.int .i64 (4 : Nat))] [] (lookR (cellT 0 4)) [] := by
  cases m <;> cases m' <;> exact ⟨60, by kernel_rfl⟩
theorem look_0_5 (m m' : Bool) : Runs Try.prog env 7 [.pure m (.int .i64 (0 : Nat)), .pure m' (.int .i64 (5 : Nat))] [] (lookR (cellT 0 5)) [] := by
  cases m <;> cases m' <;> exact ⟨60, by kernel_rfl⟩
theorem look_0_6 (m m' : Bool) : Runs Try.prog env 7 [.pure m (.int .i64 (0 : Nat)), .pure m' (.int .i64 (6 : Nat))] [] (lookR (cellT 0 6)) [] := by
  cases m <;> cases m' <;> exact ⟨60, by kernel_rfl⟩
theorem look_0_7 (m m' : Bool) : Runs Try.prog env 7 [.pure m (.int .i64 (0 : Nat)), .pure m' (.int .i64 (7 : Nat))] [] (lookR (cellT 0 7)) [] := by
  cases m <;> cases m' <;> exact ⟨60, by kernel_rfl⟩
theorem look_0_8 (m m' : Bool) : Runs Try.prog env 7 [.pure m (.int .i64 (0 : Nat)), .pure m' (.int .i64 (8 : Nat))] [] (lookR (cellT 0 8)) [] := by
  cases m <;> cases m' <;> exact ⟨60, by kernel_rfl⟩
theorem look_0_9 (m m' : Bool) : Runs Try.prog env 7 [.pure m (.int .i64 (0 : Nat)), .pure m' (.int .i64 (9 : Nat))] [] (lookR (cellT 0 9)) [] := by
  cases m <;> cases m' <;> exact ⟨60, by kernel_rfl⟩
theorem look_0_10 (m m' : Bool) : Runs Try.prog env 7 [.pure m (.int .i64 (0 : Nat)), .pure m' (.int .i64 (10 : Nat))] [] (lookR (cellT 0 10)) [] := by
  cases m <;> cases m' <;> exact ⟨60, by kernel_rfl⟩
theorem look_0_11 (m m' : Bool) : Runs Try.prog env 7 [.pure m (.int .i64 (0 : Nat)), .pure m' (.int .i64 (11 : Nat))] [] (lookR (cellT 0 11)) [] := by
  cases m <;> cases m' <;> exact ⟨60, by kernel_rfl⟩
theorem look_0_12 (m m' : Bool) : Runs Try.prog env 7 [.pure m (.int .i64 (0 : Nat)), .pure m' (.int .i64 (12 : Nat))] [] (lookR (cellT 0 12)) [] := by
  cases m <;> cases m' <;> exact ⟨60, by kernel_rfl⟩
theorem look_0_13 (m m' : Bool) : Runs Try.prog env 7 [.pure m (.int .i64 (0 : Nat)), .pure m' (.int .i64 (13 : Nat))] [] (lookR (cellT 0 13)) [] := by
  cases m <;> cases m' <;> exact ⟨60, by kernel_rfl⟩
theorem look_0_14 (m m' : Bool) : Runs Try.prog env 7 [.pure m (.int .i64 (0 : Nat)), .pure m' (.int .i64 (14 : Nat))] [] (lookR (cellT 0 14)) [] := by
  cases m <;> cases m' <;> exact ⟨60, by kernel_rfl⟩
theorem look_0_15 (m m' : Bool) : Runs Try.prog env 7 [.pure m (.int .i64 (0 : Nat)), .pure m' (.int .i64 (15 : Nat))] [] (lookR (cellT 0 15)) [] := by
  cases m <;> cases m' <;> exact ⟨60, by kernel_rfl⟩
theorem look_0_16 (m m' : Bool) : Runs Try.prog env 7 [.pure m (.int .i64 (0 : Nat)), .pure m' (.int .i64 (16 : Nat))] [] (lookR (cellT 0 16)) [] := by
  cases m <;> cases m' <;> exact ⟨60, by kernel_rfl⟩
theorem look_0_17 (m m' : Bool) : Runs Try.prog env 7 [.pure m (.int .i64 (0 : Nat)), .pure m' (.int .i64 (17 : Nat))] [] (lookR (cellT 0 17)) [] := by
  cases m <;> cases m' <;> exact ⟨60, by kernel_rfl⟩
theorem lookRow_0 (e : Nat) (h : e < 18) (m m' : Bool) : Runs Try.prog env 7 [.pure m (.int .i64 (0 : Nat)), .pure m' (.int .i64 e)] [] (lookR (cellT 0 e)) [] := by
  have h2 : e = 0 ∨ e = 1 ∨ e = 2 ∨ e = 3 ∨ e = 4 ∨ e = 5 ∨ e = 6 ∨ e = 7 ∨ e = 8 ∨ e = 9 ∨ e = 10 ∨ e = 11 ∨ e = 12 ∨ e = 13 ∨ e = 14 ∨ e = 15 ∨ e = 16 ∨ e = 17 := by omega
  rcases h2 with rfl | rfl | rfl | rfl | rfl | rfl | rfl | rfl | rfl | rfl | rfl | rfl | rfl | rfl | rfl | rfl | rfl | rfl
  · exact look_0_0 m m'
  · exact look_0_1 m m'
  · exact look_0_2 m m'
  · exact look_0_3 m m'
  · exact look_0_4 m m'
  · exact look_0_5 m m'
  · exact look_0_6 m m'
  · exact look_0_7 m m'
  · exact look_0_8 m m'
  · exact look_0_9 m m'
  · exact look_0_10 m m'
  · exact look_0_11 m m'
  · exact look_0_12 m m'
  · exact look_0_13 m m'
  · exact look_0_14 m m'
  · exact look_0_15 m m'
  · exact look_0_16 m m'
  · exact look_0_17 m m'
theorem look_1_0 (m m' : Bool) : Runs Try.prog env 7 [.pure m (.int .i64 (1 : Nat)), .pure m' (.int .i64 (0 : Nat))] [] (lookR (cellT 1 0)) [] := by
  cases m <;> cases m' <;> exact ⟨60, by kernel_rfl⟩
theorem look_1_1 (m m' : Bool) : Runs Try.prog env 7 [.pure m (.int .i64 (1 : Nat)), .pure m' (.int .i64 (1 : Nat))] [] (lookR (cellT 1 1)) [] := by
  cases m <;> cases m' <;> exact ⟨60, by kernel_rfl⟩
theorem look_1_2 (m m' : Bool) : Runs Try.prog env 7 [.pure m (.int .i64 (1 : Nat)), .pure m' (.int .i64 (2 : Nat))] [] (lookR (cellT 1 2)) [] := by
  cases m <;> cases m' <;> exact ⟨60, by kernel_rfl⟩
theorem look_1_3 (m m' : Bool) : Runs Try.prog env 7 [.pure m (.int .i64 (1 : Nat)), .pure m' (.int .i64 (3 : Nat))] [] (lookR (cellT 1 3)) [] := by
  cases m <;> cases m' <;> exact ⟨60, by kernel_rfl⟩
theorem look_1_4 (m m' : Bool) : Runs Try.prog env 7 [.pure m (.int .i64 (1 : Nat)), .pure m' (.int .i64 (4 : Nat))] [] (lookR (cellT 1 4)) [] := by
  cases m <;> cases m' <;> exact ⟨60, by kernel_rfl⟩
theorem look_1_5 (m m' : Bool) : Runs Try.prog env 7 [.pure m (.int .i64 (1 : Nat)), .pure m' (.int .i64 (5 : Nat))] [] (lookR (cellT 1 5)) [] := by
  cases m <;> cases m' <;> exact ⟨60, by kernel_rfl⟩
theorem look_1_6 (m m' : Bool) : Runs Try.prog env 7 [.pure m (.int .i64 (1 : Nat)), .pure m' (.int .i64 (6 : Nat))] [] (lookR (cellT 1 6)) [] := by
  cases m <;> cases m' <;> exact ⟨60, by kernel_rfl⟩
theorem look_1_7 (m m' : Bool) : Runs Try.prog env 7 [.pure m (.int .i64 (1 : Nat)), .pure m' (.int .i64 (7 : Nat))] [] (lookR (cellT 1 7)) [] := by
  cases m <;> cases m' <;> exact ⟨60, by kernel_rfl⟩
theorem look_1_8 (m m' : Bool) : Runs Try.prog env 7 [.pure m (.int .i64 (1 : Nat)), .pure m' (.int .i64 (8 : Nat))] [] (lookR (cellT 1 8)) [] := by
  cases m <;> cases m' <;> exact ⟨60, by kernel_rfl⟩
theorem look_1_9 (m m' : Bool) : Runs Try.prog env 7 [.pure m (.int .i64 (1 : Nat)), .pure m' (.int .i64 (9 : Nat))] [] (lookR (cellT 1 9)) [] := by
  cases m <;> cases m' <;> exact ⟨60, by kernel_rfl⟩
theorem look_1_10 (m m' : Bool) : Runs Try.prog env 7 [.pure m (.int .i64 (1 : Nat)), .pure m' (.int .i64 (10 : Nat))] [] (lookR (cellT 1 10)) [] := by
  cases m <;> cases m' <;> exact ⟨60, by kernel_rfl⟩
theorem look_1_11 (m m' : Bool) : Runs Try.prog env 7 [.pure m (.int .i64 (1 : Nat)), .pure m' (.int .i64 (11 : Nat))] [] (lookR (cellT 1 11)) [] := by
  cases m <;> cases m' <;> exact ⟨60, by kernel_rfl⟩
theorem look_1_12 (m m' : Bool) : Runs Try.prog env 7 [.pure m (.int .i64 (1 : Nat)), .pure m' (.int .i64 (12 : Nat))] [] (lookR (cellT 1 12)) [] := by
  cases m <;> cases m' <;> exact ⟨60, by kernel_rfl⟩
theorem look_1_13 (m m' : Bool) : Runs Try.prog env 7 [.pure m (.int .i64 (1 : Nat)), .pure m' (.int .i64 (13 : Nat))] [] (lookR (cellT 1 13)) [] := by
  cases m <;> cases m' <;> exact ⟨60, by kernel_rfl⟩
theorem look_1_14 (m m' : Bool) : Runs Try.prog env 7 [.pure m (.int .i64 (1 : Nat)), .pure m' (.int .i64 (14 : Nat))] [] (lookR (cellT 1 14)) [] := by
  cases m <;> cases m' <;> exact ⟨60, by kernel_rfl⟩
theorem look_1_15 (m m' : Bool) : Runs Try.prog env 7 [.pure m (.int .i64 (1 : Nat)), .pure m' (.int .i64 (15 : Nat))] [] (lookR (cellT 1 15)) [] := by
  cases m <;> cases m' <;> exact ⟨60, by kernel_rfl⟩
theorem look_1_16 (m m' : Bool) : Runs Try.prog env 7 [.pure m (.int .i64 (1 : Nat)), .pure m' (.int .i64 (16 : Nat))] [] (lookR (cellT 1 16)) [] := by
  cases m <;> cases m' <;> exact ⟨60, by kernel_rfl⟩
theorem look_1_17 (m m' : Bool) : Runs Try.prog env 7 [.pure m (.int .i64 (1 : Nat)), .pure m' (.int .i64 (17 : Nat))] [] (lookR (cellT 1 17)) [] := by
  cases m <;> cases m' <;> exact ⟨60, by kernel_rfl⟩
theorem lookRow_1 (e : Nat) (h : e < 18) (m m' : Bool) : Runs Try.prog env 7 [.pure m (.int .i64 (1 : Nat)), .pure m' (.int .i64 e)] [] (lookR (cellT 1 e)) [] := by
  have h2 : e = 0 ∨ e = 1 ∨ e = 2 ∨ e = 3 ∨ e = 4 ∨ e = 5 ∨ e = 6 ∨ e = 7 ∨ e = 8 ∨ e = 9 ∨ e = 10 ∨ e = 11 ∨ e = 12 ∨ e = 13 ∨ e = 14 ∨ e = 15 ∨ e = 16 ∨ e = 17 := by omega
  rcases h2 with rfl | rfl | rfl | rfl | rfl | rfl | rfl | rfl | rfl | rfl | rfl | rfl | rfl | rfl | rfl | rfl | rfl | rfl
  · exact look_1_0 m m'
  · exact look_1_1 m m'
  · exact look_1_2 m m'
  · exact look_1_3 m m'
  · exact look_1_4 m m'
  · exact look_1_5 m m'
  · exact look_1_6 m m'
  · exact look_1_7 m m'
  · exact look_1_8 m m'
  · exact look_1_9 m m'
  · exact look_1_10 m m'
  · exact look_1_11 m m'
  · exact look_1_12 m m'
  · exact look_1_13 m m'
  · exact look_1_14 m m'
  · exact look_1_15 m m'
  · exact look_1_16 m m'
  · exact look_1_17 m m'
theorem look_2_0 (m m' : Bool) : Runs Try.prog env 7 [.pure m (.int .i64 (2 : Nat)), .pure m' (.int .i64 (0 : Nat))] [] (lookR (cellT 2 0)) [] := by
  cases m <;> cases m' <;> exact ⟨60, by kernel_rfl⟩
theorem look_2_1 (m m' : Bool) : Runs Try.prog env 7 [.pure m (.int .i64 (2 : Nat)), .pure m' (.int .i64 (1 : Nat))] [] (lookR (cellT 2 1)) [] := by
  cases m <;> cases m' <;> exact ⟨60, by kernel_rfl⟩
theorem look_2_2 (m m' : Bool) : Runs Try.prog env 7 [.pure m (.int .i64 (2 : Nat)), .pure m' (.int .i64 (2 : Nat))] [] (lookR (cellT 2 2)) [] := by
  cases m <;> cases m' <;> exact ⟨60, by kernel_rfl⟩
theorem look_2_3 (m m' : Bool) : Runs Try.prog env 7 [.pure m (.int .i64 (2 : Nat)), .pure m' (.int .i64 (3 : Nat))] [] (lookR (cellT 2 3)) [] := by
  cases m <;> cases m' <;> exact ⟨60, by kernel_rfl⟩
theorem look_2_4 (m m' : Bool) : Runs Try.prog env 7 [.pure m (.int .i64 (2 : Nat)), .pure m' (.int .i64 (4 : Nat))] [] (lookR (cellT 2 4)) [] := by
  cases m <;> cases m' <;> exact ⟨60, by kernel_rfl⟩
theorem look_2_5 (m m' : Bool) : Runs Try.prog env 7 [.pure m (.int .i64 (2 : Nat)), .pure m' (.int .i64 (5 : Nat))] [] (lookR (cellT 2 5)) [] := by
  cases m <;> cases m' <;> exact ⟨60, by kernel_rfl⟩
theorem look_2_6 (m m' : Bool) : Runs Try.prog env 7 [.pure m (.int .i64 (2 : Nat)), .pure m' (.int .i64 (6 : Nat))] [] (lookR (cellT 2 6)) [] := by
  cases m <;> cases m' <;> exact ⟨60, by kernel_rfl⟩
theorem look_2_7 (m m' : Bool) : Runs Try.prog env 7 [.pure m (.int .i64 (2 : Nat)), .pure m' (.int .i64 (7 : Nat))] [] (lookR (cellT 2 7)) [] := by
  cases m <;> cases m' <;> exact ⟨60, by kernel_rfl⟩
theorem look_2_8 (m m' : Bool) : Runs Try.prog env 7 [.pure m (.int .i64 (2 : Nat)), .pure m' (.int .i64 (8 : Nat))] [] (lookR (cellT 2 8)) [] := by
  cases m <;> cases m' <;> exact ⟨60, by kernel_rfl⟩
theorem look_2_9 (m m' : Bool) : Runs Try.prog env 7 [.pure m (.int .i64 (2 : Nat)), .pure m' (.int .i64 (9 : Nat))] [] (lookR (cellT 2 9)) [] := by
  cases m <;> cases m' <;> exact ⟨60, by kernel_rfl⟩
theorem look_2_10 (m m' : Bool) : Runs Try.prog env 7 [.pure m (.int .i64 (2 : Nat)), .pure m' (.int .i64 (10 : Nat))] [] (lookR (cellT 2 10)) [] := by
  cases m <;> cases m' <;> exact ⟨60, by kernel_rfl⟩
theorem look_2_11 (m m' : Bool) : Runs Try.prog env 7 [.pure m (.int .i64 (2 : Nat)), .pure m' (.int .i64 (11 : Nat))] [] (lookR (cellT 2 11)) [] := by
  cases m <;> cases m' <;> exact ⟨60, by kernel_rfl⟩
theorem look_2_12 (m m' : Bool) : Runs Try.prog env 7 [.pure m (.int .i64 (2 : Nat)), .pure m' (.int .i64 (12 : Nat))] [] (lookR (cellT 2 12)) [] := by
  cases m <;> cases m' <;> exact ⟨60, by kernel_rfl⟩
theorem look_2_13 (m m' : Bool) : Runs Try.prog env 7 [.pure m (.int .i64 (2 : Nat)), .pure m' (.int .i64 (13 : Nat))] [] (lookR (cellT 2 13)) [] := by
  cases m <;> cases m' <;> exact ⟨60, by kernel_rfl⟩
theorem look_2_14 (m m' : Bool) : Runs Try.prog env 7 [.pure m (.int .i64 (2 : Nat)), .pure m' (.int .i64 (14 : Nat))] [] (lookR (cellT 2 14)) [] := by
  cases m <;> cases m' <;> exact ⟨60, by kernel_rfl⟩
theorem look_2_15 (m m' : Bool) : Runs Try.prog env 7 [.pure m (.int .i64 (2 : Nat)), .pure m' (.int .i64 (15 : Nat))] [] (lookR (cellT 2 15)) [] := by
  cases m <;> cases m' <;> exact ⟨60, by kernel_rfl⟩
theorem look_2_16 (m m' : Bool) : Runs Try.prog env 7 [.pure m (.int .i64 (2 : Nat)), .pure m' (.int .i64 (16 : Nat))] [] (lookR (cellT 2 16)) [] := by
  cases m <;> cases m' <;> exact ⟨60, by kernel_rfl⟩
theorem look_2_17 (m m' : Bool) : Runs Try.prog env 7 [.pure m (.int .i64 (2 : Nat)), .pure m' (.int .i64 (17 : Nat))] [] (lookR (cellT 2 17)) [] := by
  cases m <;> cases m' <;> exact ⟨60, by kernel_rfl⟩
theorem lookRow_2 (e : Nat) (h : e < 18) (m m' : Bool) : Runs Try.prog env 7 [.pure m (.int .i64 (2 : Nat)), .pure m' (.int .i64 e)] [] (lookR (cellT 2 e)) [] := by
  have h2 : e = 0 ∨ e = 1 ∨ e = 2 ∨ e = 3 ∨ e = 4 ∨ e = 5 ∨ e = 6 ∨ e = 7 ∨ e = 8 ∨ e = 9 ∨ e = 10 ∨ e = 11 ∨ e = 12 ∨ e = 13 ∨ e = 14 ∨ e = 15 ∨ e = 16 ∨ e = 17 := by omega
  rcases h2 with rfl | rfl | rfl | rfl | rfl | rfl | rfl | rfl | rfl | rfl | rfl | rfl | rfl | rfl | rfl | rfl | rfl | rfl
  · exact look_2_0 m m'
  · exact look_2_1 m m'
  · exact look_2_2 m m'
  · exact look_2_3 m m'
  · exact look_2_4 m m'
  · exact look_2_5 m m'
  · exact look_2_6 m m'
  · exact look_2_7 m m'
  · exact look_2_8 m m'
  · exact look_2_9 m m'
  · exact look_2_10 m m'
  · exact look_2_11 m m'
  · exact look_2_12 m m'
  · exact look_2_13 m m'
  · exact look_2_14 m m'
  · exact look_2_15 m m'
  · exact look_2_16 m m'
  · exact look_2_17 m m'
theorem look_3_0 (m m' : Bool) : Runs Try.prog env 7 [.pure m (.int .i64 (3 : Nat)), .pure m' (.int .i64 (0 : Nat))] [] (lookR (cellT 3 0)) [] := by
  cases m <;> cases m' <;> exact ⟨60, by kernel_rfl⟩
theorem look_3_1 (m m' : Bool) : Runs Try.prog env 7 [.pure m (.int .i64 (3 : Nat)), .pure m' (.int .i64 (1 : Nat))] [] (lookR (cellT 3 1)) [] := by
  cases m <;> cases m' <;> exact ⟨60, by kernel_rfl⟩
theorem look_3_2 (m m' : Bool) : Runs Try.prog env 7 [.pure m (.int .i64 (3 : Nat)), .pure m' (.int .i64 (2 : Nat))] [] (lookR (cellT 3 2)) [] := by
  cases m <;> cases m' <;> exact ⟨60, by kernel_rfl⟩
theorem look_3_3 (m m' : Bool) : Runs Try.prog env 7 [.pure m (.int .i64 (3 : Nat)), .pure m' (.int .i64 (3 : Nat))] [] (lookR (cellT 3 3)) [] := by
  cases m <;> cases m' <;> exact ⟨60, by kernel_rfl⟩
theorem look_3_4 (m m' : Bool) : Runs Try.prog env 7 [.pure m (.int .i64 (3 : Nat)), .pure m' (.int .i64 (4 : Nat))] [] (lookR (cellT 3 4)) [] := by
  cases m <;> cases m' <;> exact ⟨60, by kernel_rfl⟩
theorem look_3_5 (m m' : Bool) : Runs Try.prog env 7 [.pure m (.int .i64 (3 : Nat)), .pure m' (.int .i64 (5 : Nat))] [] (lookR (cellT 3 5)) [] := by
  cases m <;> cases m' <;> exact ⟨60, by kernel_rfl⟩
theorem look_3_6 (m m' : Bool) : Runs Try.prog env 7 [.pure m (.int .i64 (3 : Nat)), .pure m' (.int .i64 (6 : Nat))] [] (lookR (cellT 3 6)) [] := by
  cases m <;> cases m' <;> exact ⟨60, by kernel_rfl⟩
theorem look_3_7 (m m' : Bool) : Runs Try.prog env 7 [.pure m (.int .i64 (3 : Nat)), .pure m' (.int .i64 (7 : Nat))] [] (lookR (cellT 3 7)) [] := by
  cases m <;> cases m' <;> exact ⟨60, by kernel_rfl⟩
theorem look_3_8 (m m' : Bool) : Runs Try.prog env 7 [.pure m (.int .i64 (3 : Nat)), .pure m' (.int .i64 (8 : Nat))] [] (lookR (cellT 3 8)) [] := by
  cases m <;> cases m' <;> exact ⟨60, by kernel_rfl⟩
theorem look_3_9 (m m' : Bool) : Runs Try.prog env 7 [.pure m (.int .i64 (3 : Nat)), .pure m' (.int .i64 (9 : Nat))] [] (lookR (cellT 3 9)) [] := by
  cases m <;> cases m' <;> exact ⟨60, by kernel_rfl⟩
theorem look_3_10 (m m' : Bool) : Runs Try.prog env 7 [.pure m (.int .i64 (3 : Nat)), .pure m' (.int .i64 (10 : Nat))] [] (lookR (cellT 3 10)) [] := by
  cases m <;> cases m' <;> exact ⟨60, by kernel_rfl⟩
theorem look_3_11 (m m' : Bool) : Runs Try.prog env 7 [.pure m (.int .i64 (3 : Nat)), .pure m' (.int .i64 (11 : Nat))] [] (lookR (cellT 3 11)) [] := by
  cases m <;> cases m' <;> exact ⟨60, by kernel_rfl⟩
theorem look_3_12 (m m' : Bool) : Runs Try.prog env 7 [.pure m (.int .i64 (3 : Nat)), .pure m' (.int .i64 (12 : Nat))] [] (lookR (cellT 3 12)) [] := by
  cases m <;> cases m' <;> exact ⟨60, by kernel_rfl⟩
theorem look_3_13 (m m' : Bool) : Runs Try.prog env 7 [.pure m (.int .i64 (3 : Nat)), .pure m' (.int .i64 (13 : Nat))] [] (lookR (cellT 3 13)) [] := by
  cases m <;> cases m' <;> exact ⟨60, by kernel_rfl⟩
theorem look_3_14 (m m' : Bool) : Runs Try.prog env 7 [.pure m (.int .i64 (3 : Nat)), .pure m' (.int .i64 (14 : Nat))] [] (lookR (cellT 3 14)) [] := by
  cases m <;> cases m' <;> exact ⟨60, by kernel_rfl⟩
theorem look_3_15 (m m' : Bool) : Runs Try.prog env 7 [.pure m (.int .i64 (3 : Nat)), .pure m' (.int .i64 (15 : Nat))] [] (lookR (cellT 3 15)) [] := by
  cases m <;> cases m' <;> exact ⟨60, by kernel_rfl⟩
theorem look_3_16 (m m' : Bool) : Runs Try.prog env 7 [.pure m (.int .i64 (3 : Nat)), .pure m' (.int .i64 (16 : Nat))] [] (lookR (cellT 3 16)) [] := by
  cases m <;> cases m' <;> exact ⟨60, by kernel_rfl⟩
theorem look_3_17 (m m' : Bool) : Runs Try.prog env 7 [.pure m (.int .i64 (3 : Nat)), .pure m' (.int .i64 (17 : Nat))] [] (lookR (cellT 3 17)) [] := by
  cases m <;> cases m' <;> exact ⟨60, by kernel_rfl⟩
theorem lookRow_3 (e : Nat) (h : e < 18) (m m' : Bool) : Runs Try.prog env 7 [.pure m (.int .i64 (3 : Nat)), .pure m' (.int .i64 e)] [] (lookR (cellT 3 e)) [] := by
  have h2 : e = 0 ∨ e = 1 ∨ e = 2 ∨ e = 3 ∨ e = 4 ∨ e = 5 ∨ e = 6 ∨ e = 7 ∨ e = 8 ∨ e = 9 ∨ e = 10 ∨ e = 11 ∨ e = 12 ∨ e = 13 ∨ e = 14 ∨ e = 15 ∨ e = 16 ∨ e = 17 := by omega
  rcases h2 with rfl | rfl | rfl | rfl | rfl | rfl | rfl | rfl | rfl | rfl | rfl | rfl | rfl | rfl | rfl | rfl | rfl | rfl
  · exact look_3_0 m m'
  · exact look_3_1 m m'
  · exact look_3_2 m m'
  · exact look_3_3 m m'
  · exact look_3_4 m m'
  · exact look_3_5 m m'
  · exact look_3_6 m m'
  · exact look_3_7 m m'
  · exact look_3_8 m m'
  · exact look_3_9 m m'
  · exact look_3_10 m m'
  · exact look_3_11 m m'
  · exact look_3_12 m m'
  · exact look_3_13 m m'
  · exact look_3_14 m m'
  · exact look_3_15 m m'
  · exact look_3_16 m m'
  · exact look_3_17 m m'
theorem look_4_0 (m m' : Bool) : Runs Try.prog env 7 [.pure m (.int .i64 (4 : Nat)), .pure m' (.int .i64 (0 : Nat))] [] (lookR (cellT 4 0)) [] := by
  cases m <;> cases m' <;> exact ⟨60, by kernel_rfl⟩
theorem look_4_1 (m m' : Bool) : Runs Try.prog env 7 [.pure m (.int .i64 (4 : Nat)), .pure m' (.int .i64 (1 : Nat))] [] (lookR (cellT 4 1)) [] := by
  cases m <;> cases m' <;> exact ⟨60, by kernel_rfl⟩
theorem look_4_2 (m m' : Bool) : Runs Try.prog env 7 [.pure m (.int .i64 (4 : Nat)), .pure m' (.int .i64 (2 : Nat))] [] (lookR (cellT 4 2)) [] := by
  cases m <;> cases m' <;> exact ⟨60, by kernel_rfl⟩
theorem look_4_3 (m m' : Bool) : Runs Try.prog env 7 [.pure m (.int .i64 (4 : Nat)), .pure m' (.int .i64 (3 : Nat))] [] (lookR (cellT 4 3)) [] := by
  cases m <;> cases m' <;> exact ⟨60, by kernel_rfl⟩
theorem look_4_4 (m m' : Bool) : Runs Try.prog env 7 [.pure m (.int .i64 (4 : Nat)), .pure m' (.int .i64 (4 : Nat))] [] (lookR (cellT 4 4)) [] := by
  cases m <;> cases m' <;> exact ⟨60, by kernel_rfl⟩
theorem look_4_5 (m m' : Bool) : Runs Try.prog env 7 [.pure m (.int .i64 (4 : Nat)), .pure m' (.int .i64 (5 : Nat))] [] (lookR (cellT 4 5)) [] := by
  cases m <;> cases m' <;> exact ⟨60, by kernel_rfl⟩
theorem look_4_6 (m m' : Bool) : Runs Try.prog env 7 [.pure m (.int .i64 (4 : Nat)), .pure m' (.int .i64 (6 : Nat))] [] (lookR (cellT 4 6)) [] := by
  cases m <;> cases m' <;> exact ⟨60, by kernel_rfl⟩
theorem look_4_7 (m m' : Bool) : Runs Try.prog env 7 [.pure m (.int .i64 (4 : Nat)), .pure m' (.int .i64 (7 : Nat))] [] (lookR (cellT 4 7)) [] := by
  cases m <;> cases m' <;> exact ⟨60, by kernel_rfl⟩
theorem look_4_8 (m m' : Bool) : Runs Try.prog env 7 [.pure m (.int .i64 (4 : Nat)), .pure m' (.int .i64 (8 : Nat))] [] (lookR (cellT 4 8)) [] := by
  cases m <;> cases m' <;> exact ⟨60, by kernel_rfl⟩
theorem look_4_9 (m m' : Bool) : Runs Try.prog env 7 [.pure m (.int .i64 (4 : Nat)), .pure m' (.int .i64 (9 : Nat))] [] (lookR (cellT 4 9)) [] := by
  cases m <;> cases m' <;> exact ⟨60, by kernel_rfl⟩
theorem look_4_10 (m m' : Bool) : Runs Try.prog env 7 [.pure m (.int .i64 (4 : Nat)), .pure m' (.int .i64 (10 : Nat))] [] (lookR (cellT 4 10)) [] := by
  cases m <;> cases m' <;> exact ⟨60, by kernel_rfl⟩
theorem look_4_11 (m m' : Bool) : Runs Try.prog env 7 [.pure m (.int .i64 (4 : Nat)), .pure m' (.int .i64 (11 : Nat))] [] (lookR (cellT 4 11)) [] := by
  cases m <;> cases m' <;> exact ⟨60, by kernel_rfl⟩
theorem look_4_12 (m m' : Bool) : Runs Try.prog env 7 [.pure m (.int .i64 (4 : Nat)), .pure m' (.int .i64 (12 : Nat))] [] (lookR (cellT 4 12)) [] := by
  cases m <;> cases m' <;> exact ⟨60, by kernel_rfl⟩
theorem look_4_13 (m m' : Bool) : Runs Try.prog env 7 [.pure m (.int .i64 (4 : Nat)), .pure m' (.int .i64 (13 : Nat))] [] (lookR (cellT 4 13)) [] := by
  cases m <;> cases m' <;> exact ⟨60, by kernel_rfl⟩
theorem look_4_14 (m m' : Bool) : Runs Try.prog env 7 [.pure m (.int .i64 (4 : Nat)), .pure m' (.int .i64 (14 : Nat))] [] (lookR (cellT 4 14)) [] := by
  cases m <;> cases m' <;> exact ⟨60, by kernel_rfl⟩
theorem look_4_15 (m m' : Bool) : Runs Try.prog env 7 [.pure m (.int .i64 (4 : Nat)), .pure m' (.int .i64 (15 : Nat))] [] (lookR (cellT 4 15)) [] := by
  cases m <;> cases m' <;> exact ⟨60, by kernel_rfl⟩
theorem look_4_16 (m m' : Bool) : Runs Try.prog env 7 [.pure m (.int .i64 (4 : Nat)), .pure m' (.int .i64 (16 : Nat))] [] (lookR (cellT 4 16)) [] := by
  cases m <;> cases m' <;> exact ⟨60, by kernel_rfl⟩
theorem look_4_17 (m m' : Bool) : Runs Try.prog env 7 [.pure m (.int .i64 (4 : Nat)), .pure m' (.int .i64 (17 : Nat))] [] (lookR (cellT 4 17)) [] := by
  cases m <;> cases m' <;> exact ⟨60, by kernel_rfl⟩
theorem lookRow_4 (e : Nat) (h : e < 18) (m m' : Bool) : Runs Try.prog env 7 [.pure m (.int .i64 (4 : Nat)), .pure m' (.int .i64 e)] [] (lookR (cellT 4 e)) [] := by
  have h2 : e = 0 ∨ e = 1 ∨ e = 2 ∨ e = 3 ∨ e = 4 ∨ e = 5 ∨ e = 6 ∨ e = 7 ∨ e = 8 ∨ e = 9 ∨ e = 10 ∨ e = 11 ∨ e = 12 ∨ e = 13 ∨ e = 14 ∨ e = 15 ∨ e = 16 ∨ e = 17 := by omega
  rcases h2 with rfl | rfl | rfl | rfl | rfl | rfl | rfl | rfl | rfl | rfl | rfl | rfl | rfl | rfl | rfl | rfl | rfl | rfl
  · exact look_4_0 m m'
  · exact look_4_1 m m'
  · exact look_4_2 m m'
  · exact look_4_3 m m'
  · exact look_4_4 m m'
  · exact look_4_5 m m'
  · exact look_4_6 m m'
  · exact look_4_7 m m'
  · exact look_4_8 m m'
  · exact look_4_9 m m'
  · exact look_4_10 m m'
  · exact look_4_11 m m'
  · exact look_4_12 m m'
  · exact look_4_13 m m'
  · exact look_4_14 m m'
  · exact look_4_15 m m'
  · exact look_4_16 m m'
  · exact look_4_17 m m'
end Go.Proofs.Ytnhbmabikngmpaa
