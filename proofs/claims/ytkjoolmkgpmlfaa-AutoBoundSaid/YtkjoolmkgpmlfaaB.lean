/- YtkjoolmkgpmlfaaB: an automaton's timeouts. No claim. -/
import Derived.Test.YtkjoolmkgpmlfaaA
set_option linter.unusedVariables false
set_option linter.unusedSimpArgs false
set_option maxRecDepth 100000
namespace Go.Proofs.Ytkjoolmkgpmlfaa
open Go Go.Proofs.Ytkjoolmkgpmlfaa.V

theorem look_0_5 (m m' : Bool) : Runs Try.prog env 14 [.pure m (.int .i64 0), .pure m' (.int .i64 5)] [] (.tuple [.pure true (.int .i64 0), .pure true (.sl []), .pure true (.bool false)]) [] := by
  cases m <;> cases m' <;> exact ⟨60, by kernel_rfl⟩
theorem look_1_5 (m m' : Bool) : Runs Try.prog env 14 [.pure m (.int .i64 1), .pure m' (.int .i64 5)] [] (.tuple [.pure true (.int .i64 0), .pure true (.sl []), .pure true (.bool false)]) [] := by
  cases m <;> cases m' <;> exact ⟨60, by kernel_rfl⟩
theorem look_2_5 (m m' : Bool) : Runs Try.prog env 14 [.pure m (.int .i64 2), .pure m' (.int .i64 5)] [] (.tuple [.pure true (.int .i64 0), .pure true (.sl []), .pure true (.bool false)]) [] := by
  cases m <;> cases m' <;> exact ⟨60, by kernel_rfl⟩
theorem look_3_5 (m m' : Bool) : Runs Try.prog env 14 [.pure m (.int .i64 3), .pure m' (.int .i64 5)] [] (.tuple [.pure true (.int .i64 0), .pure true (.sl []), .pure true (.bool false)]) [] := by
  cases m <;> cases m' <;> exact ⟨60, by kernel_rfl⟩
theorem look_4_5 (m m' : Bool) : Runs Try.prog env 14 [.pure m (.int .i64 4), .pure m' (.int .i64 5)] [] (.tuple [.pure false (.int .i64 4), .pure false (.sl [.int .i64 10]), .pure true (.bool true)]) [] := by
  cases m <;> cases m' <;> exact ⟨60, by kernel_rfl⟩
theorem look_5_5 (m m' : Bool) : Runs Try.prog env 14 [.pure m (.int .i64 5), .pure m' (.int .i64 5)] [] (.tuple [.pure false (.int .i64 5), .pure false (.sl [.int .i64 10]), .pure true (.bool true)]) [] := by
  cases m <;> cases m' <;> exact ⟨60, by kernel_rfl⟩
theorem look_6_5 (m m' : Bool) : Runs Try.prog env 14 [.pure m (.int .i64 6), .pure m' (.int .i64 5)] [] (.tuple [.pure false (.int .i64 6), .pure false (.sl [.int .i64 7]), .pure true (.bool true)]) [] := by
  cases m <;> cases m' <;> exact ⟨60, by kernel_rfl⟩
theorem look_7_5 (m m' : Bool) : Runs Try.prog env 14 [.pure m (.int .i64 7), .pure m' (.int .i64 5)] [] (.tuple [.pure false (.int .i64 6), .pure false (.sl [.int .i64 7]), .pure true (.bool true)]) [] := by
  cases m <;> cases m' <;> exact ⟨60, by kernel_rfl⟩
theorem look_8_5 (m m' : Bool) : Runs Try.prog env 14 [.pure m (.int .i64 8), .pure m' (.int .i64 5)] [] (.tuple [.pure false (.int .i64 8), .pure false (.sl [.int .i64 7]), .pure true (.bool true)]) [] := by
  cases m <;> cases m' <;> exact ⟨60, by kernel_rfl⟩
theorem look_9_5 (m m' : Bool) : Runs Try.prog env 14 [.pure m (.int .i64 9), .pure m' (.int .i64 5)] [] (.tuple [.pure true (.int .i64 0), .pure true (.sl []), .pure true (.bool false)]) [] := by
  cases m <;> cases m' <;> exact ⟨60, by kernel_rfl⟩
theorem look_0_6 (m m' : Bool) : Runs Try.prog env 14 [.pure m (.int .i64 0), .pure m' (.int .i64 6)] [] (.tuple [.pure true (.int .i64 0), .pure true (.sl []), .pure true (.bool false)]) [] := by
  cases m <;> cases m' <;> exact ⟨60, by kernel_rfl⟩
theorem look_1_6 (m m' : Bool) : Runs Try.prog env 14 [.pure m (.int .i64 1), .pure m' (.int .i64 6)] [] (.tuple [.pure true (.int .i64 0), .pure true (.sl []), .pure true (.bool false)]) [] := by
  cases m <;> cases m' <;> exact ⟨60, by kernel_rfl⟩
theorem look_2_6 (m m' : Bool) : Runs Try.prog env 14 [.pure m (.int .i64 2), .pure m' (.int .i64 6)] [] (.tuple [.pure true (.int .i64 0), .pure true (.sl []), .pure true (.bool false)]) [] := by
  cases m <;> cases m' <;> exact ⟨60, by kernel_rfl⟩
theorem look_3_6 (m m' : Bool) : Runs Try.prog env 14 [.pure m (.int .i64 3), .pure m' (.int .i64 6)] [] (.tuple [.pure true (.int .i64 0), .pure true (.sl []), .pure true (.bool false)]) [] := by
  cases m <;> cases m' <;> exact ⟨60, by kernel_rfl⟩
theorem look_4_6 (m m' : Bool) : Runs Try.prog env 14 [.pure m (.int .i64 4), .pure m' (.int .i64 6)] [] (.tuple [.pure false (.int .i64 2), .pure false (.sl [.int .i64 4]), .pure true (.bool true)]) [] := by
  cases m <;> cases m' <;> exact ⟨60, by kernel_rfl⟩
theorem look_5_6 (m m' : Bool) : Runs Try.prog env 14 [.pure m (.int .i64 5), .pure m' (.int .i64 6)] [] (.tuple [.pure false (.int .i64 3), .pure false (.sl [.int .i64 4]), .pure true (.bool true)]) [] := by
  cases m <;> cases m' <;> exact ⟨60, by kernel_rfl⟩
theorem look_6_6 (m m' : Bool) : Runs Try.prog env 14 [.pure m (.int .i64 6), .pure m' (.int .i64 6)] [] (.tuple [.pure false (.int .i64 3), .pure false (.sl [.int .i64 4]), .pure true (.bool true)]) [] := by
  cases m <;> cases m' <;> exact ⟨60, by kernel_rfl⟩
theorem look_7_6 (m m' : Bool) : Runs Try.prog env 14 [.pure m (.int .i64 7), .pure m' (.int .i64 6)] [] (.tuple [.pure false (.int .i64 3), .pure false (.sl [.int .i64 4]), .pure true (.bool true)]) [] := by
  cases m <;> cases m' <;> exact ⟨60, by kernel_rfl⟩
theorem look_8_6 (m m' : Bool) : Runs Try.prog env 14 [.pure m (.int .i64 8), .pure m' (.int .i64 6)] [] (.tuple [.pure false (.int .i64 3), .pure false (.sl [.int .i64 4]), .pure true (.bool true)]) [] := by
  cases m <;> cases m' <;> exact ⟨60, by kernel_rfl⟩
theorem look_9_6 (m m' : Bool) : Runs Try.prog env 14 [.pure m (.int .i64 9), .pure m' (.int .i64 6)] [] (.tuple [.pure true (.int .i64 0), .pure true (.sl []), .pure true (.bool false)]) [] := by
  cases m <;> cases m' <;> exact ⟨60, by kernel_rfl⟩
def timedA (s r : Int) : Int := if 4 ≤ s ∧ s ≤ 8 then (if 0 < r then 5 else 6) else 0
theorem ten {s : Int} (h : 0 ≤ s ∧ s ≤ 9) : s = 0 ∨ s = 1 ∨ s = 2 ∨ s = 3 ∨ s = 4 ∨ s = 5 ∨ s = 6 ∨ s = 7 ∨ s = 8 ∨ s = 9 := by omega

set_option maxHeartbeats 16000000 in
theorem timed_any (s r : Int) (h : 0 ≤ s ∧ s ≤ 9) (m : Bool) : Runs Try.prog env 11 [.pure m (autV s r)] [] (.pure true (.int .i64 (timedA s r))) [] := by
  unfold autV
  rcases Classical.em (0 < r) with h1 | h1
  · have e : timedA s r = if 4 ≤ s ∧ s ≤ 8 then 5 else 0 := by unfold timedA; rw [if_pos h1]
    rw [e]
    rcases ten h with rfl | rfl | rfl | rfl | rfl | rfl | rfl | rfl | rfl | rfl
    · refine Runs.of Try.func11 rfl (by simp [Try.ntmps11]) ?_
      simp (maxSteps := 400000) -dsimp -implicitDefEqProofs (disch := first | exact TrueB.mk rfl | omega) only [go_sem, Nat.reduceMul, Nat.reduceAdd, Nat.reduceLT, Nat.reduceLeDiff, Nat.reducePow, Nat.reduceEqDiff, ↓reduceIte, reduceCtorEq, Int.reduceToNat, Try.ntmps11]
      first | refine wpAct_call0 (look_0_5 _ _) rfl rfl rfl rfl rfl rfl rfl rfl ?_ | done
      simp (maxSteps := 400000) -dsimp -implicitDefEqProofs (disch := first | exact TrueB.mk rfl | omega) only [go_sem, Nat.reduceMul, Nat.reduceAdd, Nat.reduceLT, Nat.reduceLeDiff, Nat.reducePow, Nat.reduceEqDiff, ↓reduceIte, reduceCtorEq, Int.reduceToNat]
      first | exact end_int rfl rfl | done
    · refine Runs.of Try.func11 rfl (by simp [Try.ntmps11]) ?_
      simp (maxSteps := 400000) -dsimp -implicitDefEqProofs (disch := first | exact TrueB.mk rfl | omega) only [go_sem, Nat.reduceMul, Nat.reduceAdd, Nat.reduceLT, Nat.reduceLeDiff, Nat.reducePow, Nat.reduceEqDiff, ↓reduceIte, reduceCtorEq, Int.reduceToNat, Try.ntmps11]
      first | refine wpAct_call0 (look_1_5 _ _) rfl rfl rfl rfl rfl rfl rfl rfl ?_ | done
      simp (maxSteps := 400000) -dsimp -implicitDefEqProofs (disch := first | exact TrueB.mk rfl | omega) only [go_sem, Nat.reduceMul, Nat.reduceAdd, Nat.reduceLT, Nat.reduceLeDiff, Nat.reducePow, Nat.reduceEqDiff, ↓reduceIte, reduceCtorEq, Int.reduceToNat]
      first | exact end_int rfl rfl | done
    · refine Runs.of Try.func11 rfl (by simp [Try.ntmps11]) ?_
      simp (maxSteps := 400000) -dsimp -implicitDefEqProofs (disch := first | exact TrueB.mk rfl | omega) only [go_sem, Nat.reduceMul, Nat.reduceAdd, Nat.reduceLT, Nat.reduceLeDiff, Nat.reducePow, Nat.reduceEqDiff, ↓reduceIte, reduceCtorEq, Int.reduceToNat, Try.ntmps11]
      first | refine wpAct_call0 (look_2_5 _ _) rfl rfl rfl rfl rfl rfl rfl rfl ?_ | done
      simp (maxSteps := 400000) -dsimp -implicitDefEqProofs (disch := first | exact TrueB.mk rfl | omega) only [go_sem, Nat.reduceMul, Nat.reduceAdd, Nat.reduceLT, Nat.reduceLeDiff, Nat.reducePow, Nat.reduceEqDiff, ↓reduceIte, reduceCtorEq, Int.reduceToNat]
      first | exact end_int rfl rfl | done
    · refine Runs.of Try.func11 rfl (by simp [Try.ntmps11]) ?_
      simp (maxSteps := 400000) -dsimp -implicitDefEqProofs (disch := first | exact TrueB.mk rfl | omega) only [go_sem, Nat.reduceMul, Nat.reduceAdd, Nat.reduceLT, Nat.reduceLeDiff, Nat.reducePow, Nat.reduceEqDiff, ↓reduceIte, reduceCtorEq, Int.reduceToNat, Try.ntmps11]
      first | refine wpAct_call0 (look_3_5 _ _) rfl rfl rfl rfl rfl rfl rfl rfl ?_ | done
      simp (maxSteps := 400000) -dsimp -implicitDefEqProofs (disch := first | exact TrueB.mk rfl | omega) only [go_sem, Nat.reduceMul, Nat.reduceAdd, Nat.reduceLT, Nat.reduceLeDiff, Nat.reducePow, Nat.reduceEqDiff, ↓reduceIte, reduceCtorEq, Int.reduceToNat]
      first | exact end_int rfl rfl | done
    · refine Runs.of Try.func11 rfl (by simp [Try.ntmps11]) ?_
      simp (maxSteps := 400000) -dsimp -implicitDefEqProofs (disch := first | exact TrueB.mk rfl | omega) only [go_sem, Nat.reduceMul, Nat.reduceAdd, Nat.reduceLT, Nat.reduceLeDiff, Nat.reducePow, Nat.reduceEqDiff, ↓reduceIte, reduceCtorEq, Int.reduceToNat, Try.ntmps11]
      first | refine wpAct_call0 (look_4_5 _ _) rfl rfl rfl rfl rfl rfl rfl rfl ?_ | done
      simp (maxSteps := 400000) -dsimp -implicitDefEqProofs (disch := first | exact TrueB.mk rfl | omega) only [go_sem, Nat.reduceMul, Nat.reduceAdd, Nat.reduceLT, Nat.reduceLeDiff, Nat.reducePow, Nat.reduceEqDiff, ↓reduceIte, reduceCtorEq, Int.reduceToNat]
      first | exact end_int rfl rfl | done
    · refine Runs.of Try.func11 rfl (by simp [Try.ntmps11]) ?_
      simp (maxSteps := 400000) -dsimp -implicitDefEqProofs (disch := first | exact TrueB.mk rfl | omega) only [go_sem, Nat.reduceMul, Nat.reduceAdd, Nat.reduceLT, Nat.reduceLeDiff, Nat.reducePow, Nat.reduceEqDiff, ↓reduceIte, reduceCtorEq, Int.reduceToNat, Try.ntmps11]
      first | refine wpAct_call0 (look_5_5 _ _) rfl rfl rfl rfl rfl rfl rfl rfl ?_ | done
      simp (maxSteps := 400000) -dsimp -implicitDefEqProofs (disch := first | exact TrueB.mk rfl | omega) only [go_sem, Nat.reduceMul, Nat.reduceAdd, Nat.reduceLT, Nat.reduceLeDiff, Nat.reducePow, Nat.reduceEqDiff, ↓reduceIte, reduceCtorEq, Int.reduceToNat]
      first | exact end_int rfl rfl | done
    · refine Runs.of Try.func11 rfl (by simp [Try.ntmps11]) ?_
      simp (maxSteps := 400000) -dsimp -implicitDefEqProofs (disch := first | exact TrueB.mk rfl | omega) only [go_sem, Nat.reduceMul, Nat.reduceAdd, Nat.reduceLT, Nat.reduceLeDiff, Nat.reducePow, Nat.reduceEqDiff, ↓reduceIte, reduceCtorEq, Int.reduceToNat, Try.ntmps11]
      first | refine wpAct_call0 (look_6_5 _ _) rfl rfl rfl rfl rfl rfl rfl rfl ?_ | done
      simp (maxSteps := 400000) -dsimp -implicitDefEqProofs (disch := first | exact TrueB.mk rfl | omega) only [go_sem, Nat.reduceMul, Nat.reduceAdd, Nat.reduceLT, Nat.reduceLeDiff, Nat.reducePow, Nat.reduceEqDiff, ↓reduceIte, reduceCtorEq, Int.reduceToNat]
      first | exact end_int rfl rfl | done
    · refine Runs.of Try.func11 rfl (by simp [Try.ntmps11]) ?_
      simp (maxSteps := 400000) -dsimp -implicitDefEqProofs (disch := first | exact TrueB.mk rfl | omega) only [go_sem, Nat.reduceMul, Nat.reduceAdd, Nat.reduceLT, Nat.reduceLeDiff, Nat.reducePow, Nat.reduceEqDiff, ↓reduceIte, reduceCtorEq, Int.reduceToNat, Try.ntmps11]
      first | refine wpAct_call0 (look_7_5 _ _) rfl rfl rfl rfl rfl rfl rfl rfl ?_ | done
      simp (maxSteps := 400000) -dsimp -implicitDefEqProofs (disch := first | exact TrueB.mk rfl | omega) only [go_sem, Nat.reduceMul, Nat.reduceAdd, Nat.reduceLT, Nat.reduceLeDiff, Nat.reducePow, Nat.reduceEqDiff, ↓reduceIte, reduceCtorEq, Int.reduceToNat]
      first | exact end_int rfl rfl | done
    · refine Runs.of Try.func11 rfl (by simp [Try.ntmps11]) ?_
      simp (maxSteps := 400000) -dsimp -implicitDefEqProofs (disch := first | exact TrueB.mk rfl | omega) only [go_sem, Nat.reduceMul, Nat.reduceAdd, Nat.reduceLT, Nat.reduceLeDiff, Nat.reducePow, Nat.reduceEqDiff, ↓reduceIte, reduceCtorEq, Int.reduceToNat, Try.ntmps11]
      first | refine wpAct_call0 (look_8_5 _ _) rfl rfl rfl rfl rfl rfl rfl rfl ?_ | done
      simp (maxSteps := 400000) -dsimp -implicitDefEqProofs (disch := first | exact TrueB.mk rfl | omega) only [go_sem, Nat.reduceMul, Nat.reduceAdd, Nat.reduceLT, Nat.reduceLeDiff, Nat.reducePow, Nat.reduceEqDiff, ↓reduceIte, reduceCtorEq, Int.reduceToNat]
      first | exact end_int rfl rfl | done
    · refine Runs.of Try.func11 rfl (by simp [Try.ntmps11]) ?_
      simp (maxSteps := 400000) -dsimp -implicitDefEqProofs (disch := first | exact TrueB.mk rfl | omega) only [go_sem, Nat.reduceMul, Nat.reduceAdd, Nat.reduceLT, Nat.reduceLeDiff, Nat.reducePow, Nat.reduceEqDiff, ↓reduceIte, reduceCtorEq, Int.reduceToNat, Try.ntmps11]
      first | refine wpAct_call0 (look_9_5 _ _) rfl rfl rfl rfl rfl rfl rfl rfl ?_ | done
      simp (maxSteps := 400000) -dsimp -implicitDefEqProofs (disch := first | exact TrueB.mk rfl | omega) only [go_sem, Nat.reduceMul, Nat.reduceAdd, Nat.reduceLT, Nat.reduceLeDiff, Nat.reducePow, Nat.reduceEqDiff, ↓reduceIte, reduceCtorEq, Int.reduceToNat]
      first | exact end_int rfl rfl | done
  · have e : timedA s r = if 4 ≤ s ∧ s ≤ 8 then 6 else 0 := by unfold timedA; rw [if_neg h1]
    rw [e]
    rcases ten h with rfl | rfl | rfl | rfl | rfl | rfl | rfl | rfl | rfl | rfl
    · refine Runs.of Try.func11 rfl (by simp [Try.ntmps11]) ?_
      simp (maxSteps := 400000) -dsimp -implicitDefEqProofs (disch := first | exact TrueB.mk rfl | omega) only [go_sem, Nat.reduceMul, Nat.reduceAdd, Nat.reduceLT, Nat.reduceLeDiff, Nat.reducePow, Nat.reduceEqDiff, ↓reduceIte, reduceCtorEq, Int.reduceToNat, Try.ntmps11]
      first | refine wpAct_call0 (look_0_6 _ _) rfl rfl rfl rfl rfl rfl rfl rfl ?_ | done
      simp (maxSteps := 400000) -dsimp -implicitDefEqProofs (disch := first | exact TrueB.mk rfl | omega) only [go_sem, Nat.reduceMul, Nat.reduceAdd, Nat.reduceLT, Nat.reduceLeDiff, Nat.reducePow, Nat.reduceEqDiff, ↓reduceIte, reduceCtorEq, Int.reduceToNat]
      first | exact end_int rfl rfl | done
    · refine Runs.of Try.func11 rfl (by simp [Try.ntmps11]) ?_
      simp (maxSteps := 400000) -dsimp -implicitDefEqProofs (disch := first | exact TrueB.mk rfl | omega) only [go_sem, Nat.reduceMul, Nat.reduceAdd, Nat.reduceLT, Nat.reduceLeDiff, Nat.reducePow, Nat.reduceEqDiff, ↓reduceIte, reduceCtorEq, Int.reduceToNat, Try.ntmps11]
      first | refine wpAct_call0 (look_1_6 _ _) rfl rfl rfl rfl rfl rfl rfl rfl ?_ | done
      simp (maxSteps := 400000) -dsimp -implicitDefEqProofs (disch := first | exact TrueB.mk rfl | omega) only [go_sem, Nat.reduceMul, Nat.reduceAdd, Nat.reduceLT, Nat.reduceLeDiff, Nat.reducePow, Nat.reduceEqDiff, ↓reduceIte, reduceCtorEq, Int.reduceToNat]
      first | exact end_int rfl rfl | done
    · refine Runs.of Try.func11 rfl (by simp [Try.ntmps11]) ?_
      simp (maxSteps := 400000) -dsimp -implicitDefEqProofs (disch := first | exact TrueB.mk rfl | omega) only [go_sem, Nat.reduceMul, Nat.reduceAdd, Nat.reduceLT, Nat.reduceLeDiff, Nat.reducePow, Nat.reduceEqDiff, ↓reduceIte, reduceCtorEq, Int.reduceToNat, Try.ntmps11]
      first | refine wpAct_call0 (look_2_6 _ _) rfl rfl rfl rfl rfl rfl rfl rfl ?_ | done
      simp (maxSteps := 400000) -dsimp -implicitDefEqProofs (disch := first | exact TrueB.mk rfl | omega) only [go_sem, Nat.reduceMul, Nat.reduceAdd, Nat.reduceLT, Nat.reduceLeDiff, Nat.reducePow, Nat.reduceEqDiff, ↓reduceIte, reduceCtorEq, Int.reduceToNat]
      first | exact end_int rfl rfl | done
    · refine Runs.of Try.func11 rfl (by simp [Try.ntmps11]) ?_
      simp (maxSteps := 400000) -dsimp -implicitDefEqProofs (disch := first | exact TrueB.mk rfl | omega) only [go_sem, Nat.reduceMul, Nat.reduceAdd, Nat.reduceLT, Nat.reduceLeDiff, Nat.reducePow, Nat.reduceEqDiff, ↓reduceIte, reduceCtorEq, Int.reduceToNat, Try.ntmps11]
      first | refine wpAct_call0 (look_3_6 _ _) rfl rfl rfl rfl rfl rfl rfl rfl ?_ | done
      simp (maxSteps := 400000) -dsimp -implicitDefEqProofs (disch := first | exact TrueB.mk rfl | omega) only [go_sem, Nat.reduceMul, Nat.reduceAdd, Nat.reduceLT, Nat.reduceLeDiff, Nat.reducePow, Nat.reduceEqDiff, ↓reduceIte, reduceCtorEq, Int.reduceToNat]
      first | exact end_int rfl rfl | done
    · refine Runs.of Try.func11 rfl (by simp [Try.ntmps11]) ?_
      simp (maxSteps := 400000) -dsimp -implicitDefEqProofs (disch := first | exact TrueB.mk rfl | omega) only [go_sem, Nat.reduceMul, Nat.reduceAdd, Nat.reduceLT, Nat.reduceLeDiff, Nat.reducePow, Nat.reduceEqDiff, ↓reduceIte, reduceCtorEq, Int.reduceToNat, Try.ntmps11]
      first | refine wpAct_call0 (look_4_6 _ _) rfl rfl rfl rfl rfl rfl rfl rfl ?_ | done
      simp (maxSteps := 400000) -dsimp -implicitDefEqProofs (disch := first | exact TrueB.mk rfl | omega) only [go_sem, Nat.reduceMul, Nat.reduceAdd, Nat.reduceLT, Nat.reduceLeDiff, Nat.reducePow, Nat.reduceEqDiff, ↓reduceIte, reduceCtorEq, Int.reduceToNat]
      first | exact end_int rfl rfl | done
    · refine Runs.of Try.func11 rfl (by simp [Try.ntmps11]) ?_
      simp (maxSteps := 400000) -dsimp -implicitDefEqProofs (disch := first | exact TrueB.mk rfl | omega) only [go_sem, Nat.reduceMul, Nat.reduceAdd, Nat.reduceLT, Nat.reduceLeDiff, Nat.reducePow, Nat.reduceEqDiff, ↓reduceIte, reduceCtorEq, Int.reduceToNat, Try.ntmps11]
      first | refine wpAct_call0 (look_5_6 _ _) rfl rfl rfl rfl rfl rfl rfl rfl ?_ | done
      simp (maxSteps := 400000) -dsimp -implicitDefEqProofs (disch := first | exact TrueB.mk rfl | omega) only [go_sem, Nat.reduceMul, Nat.reduceAdd, Nat.reduceLT, Nat.reduceLeDiff, Nat.reducePow, Nat.reduceEqDiff, ↓reduceIte, reduceCtorEq, Int.reduceToNat]
      first | exact end_int rfl rfl | done
    · refine Runs.of Try.func11 rfl (by simp [Try.ntmps11]) ?_
      simp (maxSteps := 400000) -dsimp -implicitDefEqProofs (disch := first | exact TrueB.mk rfl | omega) only [go_sem, Nat.reduceMul, Nat.reduceAdd, Nat.reduceLT, Nat.reduceLeDiff, Nat.reducePow, Nat.reduceEqDiff, ↓reduceIte, reduceCtorEq, Int.reduceToNat, Try.ntmps11]
      first | refine wpAct_call0 (look_6_6 _ _) rfl rfl rfl rfl rfl rfl rfl rfl ?_ | done
      simp (maxSteps := 400000) -dsimp -implicitDefEqProofs (disch := first | exact TrueB.mk rfl | omega) only [go_sem, Nat.reduceMul, Nat.reduceAdd, Nat.reduceLT, Nat.reduceLeDiff, Nat.reducePow, Nat.reduceEqDiff, ↓reduceIte, reduceCtorEq, Int.reduceToNat]
      first | exact end_int rfl rfl | done
    · refine Runs.of Try.func11 rfl (by simp [Try.ntmps11]) ?_
      simp (maxSteps := 400000) -dsimp -implicitDefEqProofs (disch := first | exact TrueB.mk rfl | omega) only [go_sem, Nat.reduceMul, Nat.reduceAdd, Nat.reduceLT, Nat.reduceLeDiff, Nat.reducePow, Nat.reduceEqDiff, ↓reduceIte, reduceCtorEq, Int.reduceToNat, Try.ntmps11]
      first | refine wpAct_call0 (look_7_6 _ _) rfl rfl rfl rfl rfl rfl rfl rfl ?_ | done
      simp (maxSteps := 400000) -dsimp -implicitDefEqProofs (disch := first | exact TrueB.mk rfl | omega) only [go_sem, Nat.reduceMul, Nat.reduceAdd, Nat.reduceLT, Nat.reduceLeDiff, Nat.reducePow, Nat.reduceEqDiff, ↓reduceIte, reduceCtorEq, Int.reduceToNat]
      first | exact end_int rfl rfl | done
    · refine Runs.of Try.func11 rfl (by simp [Try.ntmps11]) ?_
      simp (maxSteps := 400000) -dsimp -implicitDefEqProofs (disch := first | exact TrueB.mk rfl | omega) only [go_sem, Nat.reduceMul, Nat.reduceAdd, Nat.reduceLT, Nat.reduceLeDiff, Nat.reducePow, Nat.reduceEqDiff, ↓reduceIte, reduceCtorEq, Int.reduceToNat, Try.ntmps11]
      first | refine wpAct_call0 (look_8_6 _ _) rfl rfl rfl rfl rfl rfl rfl rfl ?_ | done
      simp (maxSteps := 400000) -dsimp -implicitDefEqProofs (disch := first | exact TrueB.mk rfl | omega) only [go_sem, Nat.reduceMul, Nat.reduceAdd, Nat.reduceLT, Nat.reduceLeDiff, Nat.reducePow, Nat.reduceEqDiff, ↓reduceIte, reduceCtorEq, Int.reduceToNat]
      first | exact end_int rfl rfl | done
    · refine Runs.of Try.func11 rfl (by simp [Try.ntmps11]) ?_
      simp (maxSteps := 400000) -dsimp -implicitDefEqProofs (disch := first | exact TrueB.mk rfl | omega) only [go_sem, Nat.reduceMul, Nat.reduceAdd, Nat.reduceLT, Nat.reduceLeDiff, Nat.reducePow, Nat.reduceEqDiff, ↓reduceIte, reduceCtorEq, Int.reduceToNat, Try.ntmps11]
      first | refine wpAct_call0 (look_9_6 _ _) rfl rfl rfl rfl rfl rfl rfl rfl ?_ | done
      simp (maxSteps := 400000) -dsimp -implicitDefEqProofs (disch := first | exact TrueB.mk rfl | omega) only [go_sem, Nat.reduceMul, Nat.reduceAdd, Nat.reduceLT, Nat.reduceLeDiff, Nat.reducePow, Nat.reduceEqDiff, ↓reduceIte, reduceCtorEq, Int.reduceToNat]
      first | exact end_int rfl rfl | done

set_option maxHeartbeats 4000000 in
theorem stepNo_0_5 (a b c r : Int) (mc m m' : Bool) : Runs Try.prog env 12 [.pure mc (confV a b c), .pure m (autV 0 r), .pure m' (.int .i64 5)] [] (.tuple [.pure true (autV 0 0), .row 0 0, .pure true (.bool false)]) [(0, .row true 0 0 [])] := by
  unfold confV autV
  refine Runs.of Try.func12 rfl (by simp [Try.ntmps12]) ?_
  simp (maxSteps := 400000) -dsimp -implicitDefEqProofs (disch := first | exact TrueB.mk rfl | omega) only [go_sem, Nat.reduceMul, Nat.reduceAdd, Nat.reduceLT, Nat.reduceLeDiff, Nat.reducePow, Nat.reduceEqDiff, ↓reduceIte, reduceCtorEq, Int.reduceToNat, Try.ntmps12]
  first | refine wpAct_call0 (look_0_5 _ _) rfl rfl rfl rfl rfl rfl rfl rfl ?_ | done
  simp (maxSteps := 400000) -dsimp -implicitDefEqProofs (disch := first | exact TrueB.mk rfl | omega) only [go_sem, Nat.reduceMul, Nat.reduceAdd, Nat.reduceLT, Nat.reduceLeDiff, Nat.reducePow, Nat.reduceEqDiff, ↓reduceIte, reduceCtorEq, Int.reduceToNat]
  first | exact rfl | done

set_option maxHeartbeats 4000000 in
theorem stepNo_1_5 (a b c r : Int) (mc m m' : Bool) : Runs Try.prog env 12 [.pure mc (confV a b c), .pure m (autV 1 r), .pure m' (.int .i64 5)] [] (.tuple [.pure true (autV 0 0), .row 0 0, .pure true (.bool false)]) [(0, .row true 0 0 [])] := by
  unfold confV autV
  refine Runs.of Try.func12 rfl (by simp [Try.ntmps12]) ?_
  simp (maxSteps := 400000) -dsimp -implicitDefEqProofs (disch := first | exact TrueB.mk rfl | omega) only [go_sem, Nat.reduceMul, Nat.reduceAdd, Nat.reduceLT, Nat.reduceLeDiff, Nat.reducePow, Nat.reduceEqDiff, ↓reduceIte, reduceCtorEq, Int.reduceToNat, Try.ntmps12]
  first | refine wpAct_call0 (look_1_5 _ _) rfl rfl rfl rfl rfl rfl rfl rfl ?_ | done
  simp (maxSteps := 400000) -dsimp -implicitDefEqProofs (disch := first | exact TrueB.mk rfl | omega) only [go_sem, Nat.reduceMul, Nat.reduceAdd, Nat.reduceLT, Nat.reduceLeDiff, Nat.reducePow, Nat.reduceEqDiff, ↓reduceIte, reduceCtorEq, Int.reduceToNat]
  first | exact rfl | done

set_option maxHeartbeats 4000000 in
theorem stepNo_2_5 (a b c r : Int) (mc m m' : Bool) : Runs Try.prog env 12 [.pure mc (confV a b c), .pure m (autV 2 r), .pure m' (.int .i64 5)] [] (.tuple [.pure true (autV 0 0), .row 0 0, .pure true (.bool false)]) [(0, .row true 0 0 [])] := by
  unfold confV autV
  refine Runs.of Try.func12 rfl (by simp [Try.ntmps12]) ?_
  simp (maxSteps := 400000) -dsimp -implicitDefEqProofs (disch := first | exact TrueB.mk rfl | omega) only [go_sem, Nat.reduceMul, Nat.reduceAdd, Nat.reduceLT, Nat.reduceLeDiff, Nat.reducePow, Nat.reduceEqDiff, ↓reduceIte, reduceCtorEq, Int.reduceToNat, Try.ntmps12]
  first | refine wpAct_call0 (look_2_5 _ _) rfl rfl rfl rfl rfl rfl rfl rfl ?_ | done
  simp (maxSteps := 400000) -dsimp -implicitDefEqProofs (disch := first | exact TrueB.mk rfl | omega) only [go_sem, Nat.reduceMul, Nat.reduceAdd, Nat.reduceLT, Nat.reduceLeDiff, Nat.reducePow, Nat.reduceEqDiff, ↓reduceIte, reduceCtorEq, Int.reduceToNat]
  first | exact rfl | done

set_option maxHeartbeats 4000000 in
theorem stepNo_3_5 (a b c r : Int) (mc m m' : Bool) : Runs Try.prog env 12 [.pure mc (confV a b c), .pure m (autV 3 r), .pure m' (.int .i64 5)] [] (.tuple [.pure true (autV 0 0), .row 0 0, .pure true (.bool false)]) [(0, .row true 0 0 [])] := by
  unfold confV autV
  refine Runs.of Try.func12 rfl (by simp [Try.ntmps12]) ?_
  simp (maxSteps := 400000) -dsimp -implicitDefEqProofs (disch := first | exact TrueB.mk rfl | omega) only [go_sem, Nat.reduceMul, Nat.reduceAdd, Nat.reduceLT, Nat.reduceLeDiff, Nat.reducePow, Nat.reduceEqDiff, ↓reduceIte, reduceCtorEq, Int.reduceToNat, Try.ntmps12]
  first | refine wpAct_call0 (look_3_5 _ _) rfl rfl rfl rfl rfl rfl rfl rfl ?_ | done
  simp (maxSteps := 400000) -dsimp -implicitDefEqProofs (disch := first | exact TrueB.mk rfl | omega) only [go_sem, Nat.reduceMul, Nat.reduceAdd, Nat.reduceLT, Nat.reduceLeDiff, Nat.reducePow, Nat.reduceEqDiff, ↓reduceIte, reduceCtorEq, Int.reduceToNat]
  first | exact rfl | done

set_option maxHeartbeats 4000000 in
theorem stepNo_9_5 (a b c r : Int) (mc m m' : Bool) : Runs Try.prog env 12 [.pure mc (confV a b c), .pure m (autV 9 r), .pure m' (.int .i64 5)] [] (.tuple [.pure true (autV 0 0), .row 0 0, .pure true (.bool false)]) [(0, .row true 0 0 [])] := by
  unfold confV autV
  refine Runs.of Try.func12 rfl (by simp [Try.ntmps12]) ?_
  simp (maxSteps := 400000) -dsimp -implicitDefEqProofs (disch := first | exact TrueB.mk rfl | omega) only [go_sem, Nat.reduceMul, Nat.reduceAdd, Nat.reduceLT, Nat.reduceLeDiff, Nat.reducePow, Nat.reduceEqDiff, ↓reduceIte, reduceCtorEq, Int.reduceToNat, Try.ntmps12]
  first | refine wpAct_call0 (look_9_5 _ _) rfl rfl rfl rfl rfl rfl rfl rfl ?_ | done
  simp (maxSteps := 400000) -dsimp -implicitDefEqProofs (disch := first | exact TrueB.mk rfl | omega) only [go_sem, Nat.reduceMul, Nat.reduceAdd, Nat.reduceLT, Nat.reduceLeDiff, Nat.reducePow, Nat.reduceEqDiff, ↓reduceIte, reduceCtorEq, Int.reduceToNat]
  first | exact rfl | done

set_option maxHeartbeats 4000000 in
theorem stepNo_0_6 (a b c r : Int) (mc m m' : Bool) : Runs Try.prog env 12 [.pure mc (confV a b c), .pure m (autV 0 r), .pure m' (.int .i64 6)] [] (.tuple [.pure true (autV 0 0), .row 0 0, .pure true (.bool false)]) [(0, .row true 0 0 [])] := by
  unfold confV autV
  refine Runs.of Try.func12 rfl (by simp [Try.ntmps12]) ?_
  simp (maxSteps := 400000) -dsimp -implicitDefEqProofs (disch := first | exact TrueB.mk rfl | omega) only [go_sem, Nat.reduceMul, Nat.reduceAdd, Nat.reduceLT, Nat.reduceLeDiff, Nat.reducePow, Nat.reduceEqDiff, ↓reduceIte, reduceCtorEq, Int.reduceToNat, Try.ntmps12]
  first | refine wpAct_call0 (look_0_6 _ _) rfl rfl rfl rfl rfl rfl rfl rfl ?_ | done
  simp (maxSteps := 400000) -dsimp -implicitDefEqProofs (disch := first | exact TrueB.mk rfl | omega) only [go_sem, Nat.reduceMul, Nat.reduceAdd, Nat.reduceLT, Nat.reduceLeDiff, Nat.reducePow, Nat.reduceEqDiff, ↓reduceIte, reduceCtorEq, Int.reduceToNat]
  first | exact rfl | done

set_option maxHeartbeats 4000000 in
theorem stepNo_1_6 (a b c r : Int) (mc m m' : Bool) : Runs Try.prog env 12 [.pure mc (confV a b c), .pure m (autV 1 r), .pure m' (.int .i64 6)] [] (.tuple [.pure true (autV 0 0), .row 0 0, .pure true (.bool false)]) [(0, .row true 0 0 [])] := by
  unfold confV autV
  refine Runs.of Try.func12 rfl (by simp [Try.ntmps12]) ?_
  simp (maxSteps := 400000) -dsimp -implicitDefEqProofs (disch := first | exact TrueB.mk rfl | omega) only [go_sem, Nat.reduceMul, Nat.reduceAdd, Nat.reduceLT, Nat.reduceLeDiff, Nat.reducePow, Nat.reduceEqDiff, ↓reduceIte, reduceCtorEq, Int.reduceToNat, Try.ntmps12]
  first | refine wpAct_call0 (look_1_6 _ _) rfl rfl rfl rfl rfl rfl rfl rfl ?_ | done
  simp (maxSteps := 400000) -dsimp -implicitDefEqProofs (disch := first | exact TrueB.mk rfl | omega) only [go_sem, Nat.reduceMul, Nat.reduceAdd, Nat.reduceLT, Nat.reduceLeDiff, Nat.reducePow, Nat.reduceEqDiff, ↓reduceIte, reduceCtorEq, Int.reduceToNat]
  first | exact rfl | done

set_option maxHeartbeats 4000000 in
theorem stepNo_2_6 (a b c r : Int) (mc m m' : Bool) : Runs Try.prog env 12 [.pure mc (confV a b c), .pure m (autV 2 r), .pure m' (.int .i64 6)] [] (.tuple [.pure true (autV 0 0), .row 0 0, .pure true (.bool false)]) [(0, .row true 0 0 [])] := by
  unfold confV autV
  refine Runs.of Try.func12 rfl (by simp [Try.ntmps12]) ?_
  simp (maxSteps := 400000) -dsimp -implicitDefEqProofs (disch := first | exact TrueB.mk rfl | omega) only [go_sem, Nat.reduceMul, Nat.reduceAdd, Nat.reduceLT, Nat.reduceLeDiff, Nat.reducePow, Nat.reduceEqDiff, ↓reduceIte, reduceCtorEq, Int.reduceToNat, Try.ntmps12]
  first | refine wpAct_call0 (look_2_6 _ _) rfl rfl rfl rfl rfl rfl rfl rfl ?_ | done
  simp (maxSteps := 400000) -dsimp -implicitDefEqProofs (disch := first | exact TrueB.mk rfl | omega) only [go_sem, Nat.reduceMul, Nat.reduceAdd, Nat.reduceLT, Nat.reduceLeDiff, Nat.reducePow, Nat.reduceEqDiff, ↓reduceIte, reduceCtorEq, Int.reduceToNat]
  first | exact rfl | done

set_option maxHeartbeats 4000000 in
theorem stepNo_3_6 (a b c r : Int) (mc m m' : Bool) : Runs Try.prog env 12 [.pure mc (confV a b c), .pure m (autV 3 r), .pure m' (.int .i64 6)] [] (.tuple [.pure true (autV 0 0), .row 0 0, .pure true (.bool false)]) [(0, .row true 0 0 [])] := by
  unfold confV autV
  refine Runs.of Try.func12 rfl (by simp [Try.ntmps12]) ?_
  simp (maxSteps := 400000) -dsimp -implicitDefEqProofs (disch := first | exact TrueB.mk rfl | omega) only [go_sem, Nat.reduceMul, Nat.reduceAdd, Nat.reduceLT, Nat.reduceLeDiff, Nat.reducePow, Nat.reduceEqDiff, ↓reduceIte, reduceCtorEq, Int.reduceToNat, Try.ntmps12]
  first | refine wpAct_call0 (look_3_6 _ _) rfl rfl rfl rfl rfl rfl rfl rfl ?_ | done
  simp (maxSteps := 400000) -dsimp -implicitDefEqProofs (disch := first | exact TrueB.mk rfl | omega) only [go_sem, Nat.reduceMul, Nat.reduceAdd, Nat.reduceLT, Nat.reduceLeDiff, Nat.reducePow, Nat.reduceEqDiff, ↓reduceIte, reduceCtorEq, Int.reduceToNat]
  first | exact rfl | done

set_option maxHeartbeats 4000000 in
theorem stepNo_9_6 (a b c r : Int) (mc m m' : Bool) : Runs Try.prog env 12 [.pure mc (confV a b c), .pure m (autV 9 r), .pure m' (.int .i64 6)] [] (.tuple [.pure true (autV 0 0), .row 0 0, .pure true (.bool false)]) [(0, .row true 0 0 [])] := by
  unfold confV autV
  refine Runs.of Try.func12 rfl (by simp [Try.ntmps12]) ?_
  simp (maxSteps := 400000) -dsimp -implicitDefEqProofs (disch := first | exact TrueB.mk rfl | omega) only [go_sem, Nat.reduceMul, Nat.reduceAdd, Nat.reduceLT, Nat.reduceLeDiff, Nat.reducePow, Nat.reduceEqDiff, ↓reduceIte, reduceCtorEq, Int.reduceToNat, Try.ntmps12]
  first | refine wpAct_call0 (look_9_6 _ _) rfl rfl rfl rfl rfl rfl rfl rfl ?_ | done
  simp (maxSteps := 400000) -dsimp -implicitDefEqProofs (disch := first | exact TrueB.mk rfl | omega) only [go_sem, Nat.reduceMul, Nat.reduceAdd, Nat.reduceLT, Nat.reduceLeDiff, Nat.reducePow, Nat.reduceEqDiff, ↓reduceIte, reduceCtorEq, Int.reduceToNat]
  first | exact rfl | done
end Go.Proofs.Ytkjoolmkgpmlfaa
