/- YtpgklagjjimbhaaAG: the law AddrsReads, over the evaluator. No claim. -/
import Derived.Test.YtpgklagjjimbhaaAF
set_option linter.unusedVariables false
set_option linter.unusedSimpArgs false
set_option maxRecDepth 100000
namespace Go.Proofs.Ytpgklagjjimbhaa
open Go Go.Proofs.Ytpgklagjjimbhaa.V

set_option maxHeartbeats 16000000 in
theorem addrsReads_runs (p : Int) (l : List Opt) : Runs Try.prog env 15 [.pure false (.int .i64 p), .pure false (.sl (optsV l))] [] (.pure true (.bool true)) [] := by
  have c1 := fun h m m' => readA_any p l h m m'
  have c2 := fun h h' m => refReadA_any p l h h' m
  generalize readA p l = R at *
  generalize flR p l = fl at *
  refine Runs.of Try.func15 rfl (by simp [Try.ntmps15]) ?_
  simp (maxSteps := 400000) -dsimp -implicitDefEqProofs (disch := first | exact TrueB.mk rfl | omega) only [go_sem, Nat.reduceMul, Nat.reduceAdd, Nat.reduceLT, Nat.reduceLeDiff, Nat.reducePow, Nat.reduceEqDiff, ↓reduceIte, reduceCtorEq, Int.reduceToNat, Try.ntmps15]
  first | refine wpAct_call0 (awake15_any) rfl rfl rfl rfl rfl rfl rfl rfl ?_ | done
  simp (maxSteps := 400000) -dsimp -implicitDefEqProofs (disch := first | exact TrueB.mk rfl | omega) only [go_sem, Nat.reduceMul, Nat.reduceAdd, Nat.reduceLT, Nat.reduceLeDiff, Nat.reducePow, Nat.reduceEqDiff, ↓reduceIte, reduceCtorEq, Int.reduceToNat]
  first | refine wpAct_call0 (few_any l _) rfl rfl rfl rfl rfl rfl rfl rfl ?_ | done
  cases hf : few l with
  | false =>
    simp (maxSteps := 400000) -dsimp -implicitDefEqProofs (disch := first | exact TrueB.mk rfl | omega) only [go_sem, Nat.reduceMul, Nat.reduceAdd, Nat.reduceLT, Nat.reduceLeDiff, Nat.reducePow, Nat.reduceEqDiff, ↓reduceIte, reduceCtorEq, Int.reduceToNat]
    first | refine wpAct_call0 (awake15_any) rfl rfl rfl rfl rfl rfl rfl rfl ?_ | done
    simp (maxSteps := 400000) -dsimp -implicitDefEqProofs (disch := first | exact TrueB.mk rfl | omega) only [go_sem, Nat.reduceMul, Nat.reduceAdd, Nat.reduceLT, Nat.reduceLeDiff, Nat.reducePow, Nat.reduceEqDiff, ↓reduceIte, reduceCtorEq, Int.reduceToNat]
    first | exact end_bool rfl rfl | done
  | true =>
  have hl := few_len hf
  have hd : ∀ o ∈ l, o.2.length ≤ 100000 := fun o ho => by have := few_data hf o ho; omega
  simp (maxSteps := 400000) -dsimp -implicitDefEqProofs (disch := first | exact TrueB.mk rfl | omega) only [go_sem, Nat.reduceMul, Nat.reduceAdd, Nat.reduceLT, Nat.reduceLeDiff, Nat.reducePow, Nat.reduceEqDiff, ↓reduceIte, reduceCtorEq, Int.reduceToNat]
  first | refine wpAct_call0 (c1 (by omega) _ _) rfl rfl rfl rfl rfl rfl rfl rfl ?_ | done
  unfold adrV
  simp (maxSteps := 400000) -dsimp -implicitDefEqProofs (disch := first | exact TrueB.mk rfl | omega) only [go_sem, Nat.reduceMul, Nat.reduceAdd, Nat.reduceLT, Nat.reduceLeDiff, Nat.reducePow, Nat.reduceEqDiff, ↓reduceIte, reduceCtorEq, Int.reduceToNat]
  first | refine wpAct_call0 (c2 (by omega) hd _) rfl rfl rfl rfl rfl rfl rfl rfl ?_ | done
  unfold adrV
  simp (maxSteps := 400000) -dsimp -implicitDefEqProofs (disch := first | exact TrueB.mk rfl | omega) only [go_sem, Nat.reduceMul, Nat.reduceAdd, Nat.reduceLT, Nat.reduceLeDiff, Nat.reducePow, Nat.reduceEqDiff, ↓reduceIte, reduceCtorEq, Int.reduceToNat]
  first | exact end_bool rfl rfl | done
end Go.Proofs.Ytpgklagjjimbhaa
