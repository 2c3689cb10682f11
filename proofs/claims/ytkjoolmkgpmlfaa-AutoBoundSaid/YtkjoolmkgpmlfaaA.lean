/- YtkjoolmkgpmlfaaA: the law AutoRights, over the evaluator. No claim. -/
import Derived.Test.YtkjoolmkgpmlfaaE
import Derived.Test.YtkjoolmkgpmlfaaX
set_option linter.unusedVariables false
set_option linter.unusedSimpArgs false
set_option maxRecDepth 100000
namespace Go.Proofs.Ytkjoolmkgpmlfaa
open Go Go.Proofs.Ytkjoolmkgpmlfaa.V

theorem b_beq4 {E : Env} {m m' p q : Bool} : binV Try.prog E .eql 4 (.pure m (.bool p)) (.pure m' (.bool q)) = some (.bool (p == q)) := b_beql Try.underlying4
theorem b_bne4 {E : Env} {m m' p q : Bool} : binV Try.prog E .neq 4 (.pure m (.bool p)) (.pure m' (.bool q)) = some (.bool !(p == q)) := b_bneq Try.underlying4
theorem beq_tt : (true == true) = true := rfl
theorem beq_ff : (false == false) = true := rfl
theorem beq_same {α : Type} [BEq α] [LawfulBEq α] (s : α) : (s == s) = true := by simp
attribute [go_sem] b_beq4 b_bne4 beq_tt beq_ff
theorem awake20_any : Runs Try.prog env 5 [] [] (.pure true (.bool true)) [] := ⟨80, by kernel_rfl⟩

def autV (s r : Int) : PV := .agg [.int .i64 s, .int .i64 r]
def rightA (s r : Int) : Bool := decide (0 ≤ s ∧ s ≤ 9 ∧ 0 ≤ r ∧ r ≤ 255)

set_option maxHeartbeats 4000000 in
theorem right_any (s r : Int) (m : Bool) : Runs Try.prog env 6 [.pure m (autV s r)] [] (.pure true (.bool (rightA s r))) [] := by
  unfold autV rightA
  refine Runs.of Try.func6 rfl (by simp [Try.ntmps6]) ?_
  rcases Classical.em (0 ≤ s) with h1 | h1
  · rcases Classical.em (s ≤ 9) with h2 | h2
    · rcases Classical.em (0 ≤ r) with h3 | h3
      · simp (maxSteps := 400000) -dsimp -implicitDefEqProofs (disch := first | exact TrueB.mk rfl | omega) only [go_sem, Nat.reduceMul, Nat.reduceAdd, Nat.reduceLT, Nat.reduceLeDiff, Nat.reducePow, Nat.reduceEqDiff, ↓reduceIte, reduceCtorEq, Int.reduceToNat, Try.ntmps6]
        first | exact end_bool rfl (by simp [h1, h2, h3]) | done
      · simp (maxSteps := 400000) -dsimp -implicitDefEqProofs (disch := first | exact TrueB.mk rfl | omega) only [go_sem, Nat.reduceMul, Nat.reduceAdd, Nat.reduceLT, Nat.reduceLeDiff, Nat.reducePow, Nat.reduceEqDiff, ↓reduceIte, reduceCtorEq, Int.reduceToNat, Try.ntmps6]
        first | exact end_bool rfl (by simp [h3]) | done
    · simp (maxSteps := 400000) -dsimp -implicitDefEqProofs (disch := first | exact TrueB.mk rfl | omega) only [go_sem, Nat.reduceMul, Nat.reduceAdd, Nat.reduceLT, Nat.reduceLeDiff, Nat.reducePow, Nat.reduceEqDiff, ↓reduceIte, reduceCtorEq, Int.reduceToNat, Try.ntmps6]
      first | exact end_bool rfl (by simp [h2]) | done
  · simp (maxSteps := 400000) -dsimp -implicitDefEqProofs (disch := first | exact TrueB.mk rfl | omega) only [go_sem, Nat.reduceMul, Nat.reduceAdd, Nat.reduceLT, Nat.reduceLeDiff, Nat.reducePow, Nat.reduceEqDiff, ↓reduceIte, reduceCtorEq, Int.reduceToNat, Try.ntmps6]
    first | exact end_bool rfl (by simp [h1]) | done
set_option maxHeartbeats 4000000 in
theorem refRight_any (s r : Int) (m : Bool) : Runs Try.prog env 7 [.pure m (autV s r)] [] (.pure true (.bool (rightA s r))) [] := by
  unfold autV rightA
  refine Runs.of Try.func7 rfl (by simp [Try.ntmps7]) ?_
  rcases Classical.em (0 ≤ s) with h1 | h1
  · rcases Classical.em (s ≤ 9) with h2 | h2
    · rcases Classical.em (0 ≤ r) with h3 | h3
      · simp (maxSteps := 400000) -dsimp -implicitDefEqProofs (disch := first | exact TrueB.mk rfl | omega) only [go_sem, Nat.reduceMul, Nat.reduceAdd, Nat.reduceLT, Nat.reduceLeDiff, Nat.reducePow, Nat.reduceEqDiff, ↓reduceIte, reduceCtorEq, Int.reduceToNat, Try.ntmps7]
        first | exact end_bool rfl (by simp [h1, h2, h3]) | done
      · simp (maxSteps := 400000) -dsimp -implicitDefEqProofs (disch := first | exact TrueB.mk rfl | omega) only [go_sem, Nat.reduceMul, Nat.reduceAdd, Nat.reduceLT, Nat.reduceLeDiff, Nat.reducePow, Nat.reduceEqDiff, ↓reduceIte, reduceCtorEq, Int.reduceToNat, Try.ntmps7]
        first | exact end_bool rfl (by simp [h3]) | done
    · simp (maxSteps := 400000) -dsimp -implicitDefEqProofs (disch := first | exact TrueB.mk rfl | omega) only [go_sem, Nat.reduceMul, Nat.reduceAdd, Nat.reduceLT, Nat.reduceLeDiff, Nat.reducePow, Nat.reduceEqDiff, ↓reduceIte, reduceCtorEq, Int.reduceToNat, Try.ntmps7]
      first | exact end_bool rfl (by simp [h2]) | done
  · simp (maxSteps := 400000) -dsimp -implicitDefEqProofs (disch := first | exact TrueB.mk rfl | omega) only [go_sem, Nat.reduceMul, Nat.reduceAdd, Nat.reduceLT, Nat.reduceLeDiff, Nat.reducePow, Nat.reduceEqDiff, ↓reduceIte, reduceCtorEq, Int.reduceToNat, Try.ntmps7]
    first | exact end_bool rfl (by simp [h1]) | done

def confV (a b c : Int) : PV := .agg [.int .i64 a, .int .i64 b, .int .i64 c, .int .i64 0, .str [], .str [], .int .i64 0, .int .u32 0, .bool false]
def inA (n : Int) : Bool := decide (1 ≤ n ∧ n ≤ 255)
def countsA (a b c : Int) : Bool := inA a && inA b && inA c

set_option maxHeartbeats 4000000 in
theorem in_any (n : Int) (m : Bool) : Runs Try.prog env 13 [.pure m (.int .i64 n)] [] (.pure true (.bool (inA n))) [] := by
  unfold inA
  refine Runs.of Try.func13 rfl (by simp [Try.ntmps13]) ?_
  rcases Classical.em (1 ≤ n) with h1 | h1
  · simp (maxSteps := 400000) -dsimp -implicitDefEqProofs (disch := first | exact TrueB.mk rfl | omega) only [go_sem, Nat.reduceMul, Nat.reduceAdd, Nat.reduceLT, Nat.reduceLeDiff, Nat.reducePow, Nat.reduceEqDiff, ↓reduceIte, reduceCtorEq, Int.reduceToNat, Try.ntmps13]
    first | exact end_bool rfl (by simp [h1]) | done
  · simp (maxSteps := 400000) -dsimp -implicitDefEqProofs (disch := first | exact TrueB.mk rfl | omega) only [go_sem, Nat.reduceMul, Nat.reduceAdd, Nat.reduceLT, Nat.reduceLeDiff, Nat.reducePow, Nat.reduceEqDiff, ↓reduceIte, reduceCtorEq, Int.reduceToNat, Try.ntmps13]
    first | exact end_bool rfl (by simp [h1]) | done

set_option maxHeartbeats 4000000 in
theorem refCounts_any (a b c : Int) (m : Bool) : Runs Try.prog env 9 [.pure m (confV a b c)] [] (.pure true (.bool (countsA a b c))) [] := by
  unfold confV countsA
  have c1 := fun m => in_any a m
  have c2 := fun m => in_any b m
  have c3 := fun m => in_any c m
  generalize inA a = x at *
  generalize inA b = y at *
  generalize inA c = z at *
  refine Runs.of Try.func9 rfl (by simp [Try.ntmps9]) ?_
  simp (maxSteps := 400000) -dsimp -implicitDefEqProofs (disch := first | exact TrueB.mk rfl | omega) only [go_sem, Nat.reduceMul, Nat.reduceAdd, Nat.reduceLT, Nat.reduceLeDiff, Nat.reducePow, Nat.reduceEqDiff, ↓reduceIte, reduceCtorEq, Int.reduceToNat, Try.ntmps9]
  first | refine wpAct_call0 (c1 _) rfl rfl rfl rfl rfl rfl rfl rfl ?_ | done
  cases x with
  | false =>
    simp (maxSteps := 400000) -dsimp -implicitDefEqProofs (disch := first | exact TrueB.mk rfl | omega) only [go_sem, Nat.reduceMul, Nat.reduceAdd, Nat.reduceLT, Nat.reduceLeDiff, Nat.reducePow, Nat.reduceEqDiff, ↓reduceIte, reduceCtorEq, Int.reduceToNat]
    first | exact end_bool rfl (by simp) | done
  | true =>
  simp (maxSteps := 400000) -dsimp -implicitDefEqProofs (disch := first | exact TrueB.mk rfl | omega) only [go_sem, Nat.reduceMul, Nat.reduceAdd, Nat.reduceLT, Nat.reduceLeDiff, Nat.reducePow, Nat.reduceEqDiff, ↓reduceIte, reduceCtorEq, Int.reduceToNat]
  first | refine wpAct_call0 (c2 _) rfl rfl rfl rfl rfl rfl rfl rfl ?_ | done
  cases y with
  | false =>
    simp (maxSteps := 400000) -dsimp -implicitDefEqProofs (disch := first | exact TrueB.mk rfl | omega) only [go_sem, Nat.reduceMul, Nat.reduceAdd, Nat.reduceLT, Nat.reduceLeDiff, Nat.reducePow, Nat.reduceEqDiff, ↓reduceIte, reduceCtorEq, Int.reduceToNat]
    first | exact end_bool rfl (by simp) | done
  | true =>
  simp (maxSteps := 400000) -dsimp -implicitDefEqProofs (disch := first | exact TrueB.mk rfl | omega) only [go_sem, Nat.reduceMul, Nat.reduceAdd, Nat.reduceLT, Nat.reduceLeDiff, Nat.reducePow, Nat.reduceEqDiff, ↓reduceIte, reduceCtorEq, Int.reduceToNat]
  first | refine wpAct_call0 (c3 _) rfl rfl rfl rfl rfl rfl rfl rfl ?_ | done
  simp (maxSteps := 400000) -dsimp -implicitDefEqProofs (disch := first | exact TrueB.mk rfl | omega) only [go_sem, Nat.reduceMul, Nat.reduceAdd, Nat.reduceLT, Nat.reduceLeDiff, Nat.reducePow, Nat.reduceEqDiff, ↓reduceIte, reduceCtorEq, Int.reduceToNat]
  first | exact end_bool rfl (by simp) | done

theorem countsA_eq (a b c : Int) : countsA a b c = decide ((1 ≤ a ∧ a ≤ 255) ∧ (1 ≤ b ∧ b ≤ 255) ∧ (1 ≤ c ∧ c ≤ 255)) := by
  unfold countsA inA
  rw [Bool.eq_iff_iff]
  simp only [Bool.and_eq_true, decide_eq_true_eq, and_assoc]
theorem min_is (a b c : Int) (q q' : Bool) : ∃ x, minV a [SV.pure q (.int .i64 b), SV.pure q' (.int .i64 c)] = some x ∧ x ≤ a ∧ x ≤ b ∧ x ≤ c ∧ (x = a ∨ x = b ∨ x = c) := by
  simp only [minV]
  split <;> split <;> exact ⟨_, rfl, by omega, by omega, by omega, by omega⟩
theorem max_is (a b c : Int) (q q' : Bool) : ∃ x, maxV a [SV.pure q (.int .i64 b), SV.pure q' (.int .i64 c)] = some x ∧ a ≤ x ∧ b ≤ x ∧ c ≤ x ∧ (x = a ∨ x = b ∨ x = c) := by
  simp only [maxV]
  split <;> split <;> exact ⟨_, rfl, by omega, by omega, by omega, by omega⟩

set_option maxHeartbeats 4000000 in
theorem counts_any (a b c : Int) (m : Bool) : Runs Try.prog env 8 [.pure m (confV a b c)] [] (.pure true (.bool (countsA a b c))) [] := by
  unfold confV
  refine Runs.of Try.func8 rfl (by simp [Try.ntmps8]) ?_
  obtain ⟨x, hx, x1, x2, x3, x4⟩ := min_is a b c m m
  obtain ⟨y, hy, y1, y2, y3, y4⟩ := max_is a b c m m
  rw [countsA_eq]
  rcases Classical.em (1 ≤ x) with h1 | h1
  · rcases Classical.em (y ≤ 255) with h2 | h2
    · rw [decide_eq_true (show (1 ≤ a ∧ a ≤ 255) ∧ (1 ≤ b ∧ b ≤ 255) ∧ (1 ≤ c ∧ c ≤ 255) by omega)]
      simp (maxSteps := 400000) -dsimp -implicitDefEqProofs (disch := first | exact TrueB.mk rfl | omega) only [go_sem, Nat.reduceMul, Nat.reduceAdd, Nat.reduceLT, Nat.reduceLeDiff, Nat.reducePow, Nat.reduceEqDiff, ↓reduceIte, reduceCtorEq, Int.reduceToNat, Try.ntmps8, hx, hy]
      first | exact end_bool rfl (by simp [h1, h2]) | done
    · rw [decide_eq_false (show ¬ ((1 ≤ a ∧ a ≤ 255) ∧ (1 ≤ b ∧ b ≤ 255) ∧ (1 ≤ c ∧ c ≤ 255)) by omega)]
      simp (maxSteps := 400000) -dsimp -implicitDefEqProofs (disch := first | exact TrueB.mk rfl | omega) only [go_sem, Nat.reduceMul, Nat.reduceAdd, Nat.reduceLT, Nat.reduceLeDiff, Nat.reducePow, Nat.reduceEqDiff, ↓reduceIte, reduceCtorEq, Int.reduceToNat, Try.ntmps8, hx, hy]
      first | exact end_bool rfl (by simp [h2]) | done
  · rw [decide_eq_false (show ¬ ((1 ≤ a ∧ a ≤ 255) ∧ (1 ≤ b ∧ b ≤ 255) ∧ (1 ≤ c ∧ c ≤ 255)) by omega)]
    simp (maxSteps := 400000) -dsimp -implicitDefEqProofs (disch := first | exact TrueB.mk rfl | omega) only [go_sem, Nat.reduceMul, Nat.reduceAdd, Nat.reduceLT, Nat.reduceLeDiff, Nat.reducePow, Nat.reduceEqDiff, ↓reduceIte, reduceCtorEq, Int.reduceToNat, Try.ntmps8, hx, hy]
    first | exact end_bool rfl (by simp [h1]) | done

set_option maxHeartbeats 8000000 in
theorem autoRights_runs (s r a b c : Int) : Runs Try.prog env 3 [.pure false (autV s r), .pure false (.int .i64 a), .pure false (.int .i64 b), .pure false (.int .i64 c)] [] (.pure true (.bool true)) [] := by
  have c1 := fun m => right_any s r m
  have c2 := fun m => refRight_any s r m
  have c3 := fun m => counts_any a b c m
  have c4 := fun m => refCounts_any a b c m
  generalize rightA s r = x at *
  generalize countsA a b c = y at *
  unfold autV confV at *
  refine Runs.of Try.func3 rfl (by simp [Try.ntmps3]) ?_
  simp (maxSteps := 400000) -dsimp -implicitDefEqProofs (disch := first | exact TrueB.mk rfl | omega) only [go_sem, Nat.reduceMul, Nat.reduceAdd, Nat.reduceLT, Nat.reduceLeDiff, Nat.reducePow, Nat.reduceEqDiff, ↓reduceIte, reduceCtorEq, Int.reduceToNat, Try.ntmps3]
  first | refine wpAct_call0 (awake20_any) rfl rfl rfl rfl rfl rfl rfl rfl ?_ | done
  simp (maxSteps := 400000) -dsimp -implicitDefEqProofs (disch := first | exact TrueB.mk rfl | omega) only [go_sem, Nat.reduceMul, Nat.reduceAdd, Nat.reduceLT, Nat.reduceLeDiff, Nat.reducePow, Nat.reduceEqDiff, ↓reduceIte, reduceCtorEq, Int.reduceToNat]
  first | refine wpAct_call0 (c1 _) rfl rfl rfl rfl rfl rfl rfl rfl ?_ | done
  simp (maxSteps := 400000) -dsimp -implicitDefEqProofs (disch := first | exact TrueB.mk rfl | omega) only [go_sem, Nat.reduceMul, Nat.reduceAdd, Nat.reduceLT, Nat.reduceLeDiff, Nat.reducePow, Nat.reduceEqDiff, ↓reduceIte, reduceCtorEq, Int.reduceToNat]
  first | refine wpAct_call0 (c2 _) rfl rfl rfl rfl rfl rfl rfl rfl ?_ | done
  simp (maxSteps := 400000) -dsimp -implicitDefEqProofs (disch := first | exact TrueB.mk rfl | omega) only [go_sem, Nat.reduceMul, Nat.reduceAdd, Nat.reduceLT, Nat.reduceLeDiff, Nat.reducePow, Nat.reduceEqDiff, ↓reduceIte, reduceCtorEq, Int.reduceToNat, beq_same]
  first | refine wpAct_call0 (c3 _) rfl rfl rfl rfl rfl rfl rfl rfl ?_ | done
  simp (maxSteps := 400000) -dsimp -implicitDefEqProofs (disch := first | exact TrueB.mk rfl | omega) only [go_sem, Nat.reduceMul, Nat.reduceAdd, Nat.reduceLT, Nat.reduceLeDiff, Nat.reducePow, Nat.reduceEqDiff, ↓reduceIte, reduceCtorEq, Int.reduceToNat]
  first | refine wpAct_call0 (c4 _) rfl rfl rfl rfl rfl rfl rfl rfl ?_ | done
  simp (maxSteps := 400000) -dsimp -implicitDefEqProofs (disch := first | exact TrueB.mk rfl | omega) only [go_sem, Nat.reduceMul, Nat.reduceAdd, Nat.reduceLT, Nat.reduceLeDiff, Nat.reducePow, Nat.reduceEqDiff, ↓reduceIte, reduceCtorEq, Int.reduceToNat, beq_same]
  first | exact end_bool rfl (by simp) | done
end Go.Proofs.Ytkjoolmkgpmlfaa
