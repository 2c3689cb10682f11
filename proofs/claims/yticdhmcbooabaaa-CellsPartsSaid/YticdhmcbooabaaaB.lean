/- YticdhmcbooabaaaB: what is no cell. No claim. -/
import Derived.Test.YticdhmcbooabaaaE
set_option linter.unusedVariables false
set_option linter.unusedSimpArgs false
set_option maxRecDepth 100000
namespace Go.Proofs.Yticdhmcbooabaaa
open Go Go.Proofs.Yticdhmcbooabaaa.V

theorem b_beq4 {E : Env} {m m' p q : Bool} : binV Try.prog E .eql 4 (.pure m (.bool p)) (.pure m' (.bool q)) = some (.bool (p == q)) := b_beql Try.underlying4
theorem b_bne4 {E : Env} {m m' p q : Bool} : binV Try.prog E .neq 4 (.pure m (.bool p)) (.pure m' (.bool q)) = some (.bool !(p == q)) := b_bneq Try.underlying4
theorem beq_tt : (true == true) = true := rfl
theorem beq_ff : (false == false) = true := rfl
attribute [go_sem] b_beq4 b_bne4 beq_tt beq_ff
def inT (s e : Int) : Prop := 0 ≤ s ∧ s ≤ 9 ∧ 1 ≤ e ∧ e ≤ 16
theorem none_any : Runs Try.prog env 24 [] [] (.tuple [.pure true (.agg [.int .i64 0, .sl []]), .pure true (.bool false)]) [] := ⟨60, by kernel_rfl⟩

set_option maxHeartbeats 4000000 in
theorem findOut_any (s e : Int) (h : ¬ inT s e) (m m' : Bool) : Runs Try.prog env 18 [.pure m (.int .i64 s), .pure m' (.int .i64 e)] [] (.tuple [.pure true (.agg [.int .i64 0, .sl []]), .pure true (.bool false)]) [] := by
  unfold inT at h
  refine Runs.of Try.func18 rfl (by simp [Try.ntmps18]) ?_
  rcases Classical.em (s < 0) with h1 | h1
  · simp (maxSteps := 400000) -dsimp -implicitDefEqProofs (disch := first | exact TrueB.mk rfl | omega) only [go_sem, Nat.reduceMul, Nat.reduceAdd, Nat.reduceLT, Nat.reduceLeDiff, Nat.reducePow, Nat.reduceEqDiff, ↓reduceIte, reduceCtorEq, Int.reduceToNat, Try.ntmps18]
    first | refine wpAct_call0 (none_any) rfl rfl rfl rfl rfl rfl rfl rfl ?_ | done
    simp (maxSteps := 400000) -dsimp -implicitDefEqProofs (disch := first | exact TrueB.mk rfl | omega) only [go_sem, Nat.reduceMul, Nat.reduceAdd, Nat.reduceLT, Nat.reduceLeDiff, Nat.reducePow, Nat.reduceEqDiff, ↓reduceIte, reduceCtorEq, Int.reduceToNat]
    first | exact rfl | done
  · rcases Classical.em (9 < s) with h2 | h2
    · simp (maxSteps := 400000) -dsimp -implicitDefEqProofs (disch := first | exact TrueB.mk rfl | omega) only [go_sem, Nat.reduceMul, Nat.reduceAdd, Nat.reduceLT, Nat.reduceLeDiff, Nat.reducePow, Nat.reduceEqDiff, ↓reduceIte, reduceCtorEq, Int.reduceToNat, Try.ntmps18]
      first | refine wpAct_call0 (none_any) rfl rfl rfl rfl rfl rfl rfl rfl ?_ | done
      simp (maxSteps := 400000) -dsimp -implicitDefEqProofs (disch := first | exact TrueB.mk rfl | omega) only [go_sem, Nat.reduceMul, Nat.reduceAdd, Nat.reduceLT, Nat.reduceLeDiff, Nat.reducePow, Nat.reduceEqDiff, ↓reduceIte, reduceCtorEq, Int.reduceToNat]
      first | exact rfl | done
    · rcases Classical.em (e < 1) with h3 | h3
      · simp (maxSteps := 400000) -dsimp -implicitDefEqProofs (disch := first | exact TrueB.mk rfl | omega) only [go_sem, Nat.reduceMul, Nat.reduceAdd, Nat.reduceLT, Nat.reduceLeDiff, Nat.reducePow, Nat.reduceEqDiff, ↓reduceIte, reduceCtorEq, Int.reduceToNat, Try.ntmps18]
        first | refine wpAct_call0 (none_any) rfl rfl rfl rfl rfl rfl rfl rfl ?_ | done
        simp (maxSteps := 400000) -dsimp -implicitDefEqProofs (disch := first | exact TrueB.mk rfl | omega) only [go_sem, Nat.reduceMul, Nat.reduceAdd, Nat.reduceLT, Nat.reduceLeDiff, Nat.reducePow, Nat.reduceEqDiff, ↓reduceIte, reduceCtorEq, Int.reduceToNat]
        first | exact rfl | done
      · have h4 : 16 < e := by omega
        simp (maxSteps := 400000) -dsimp -implicitDefEqProofs (disch := first | exact TrueB.mk rfl | omega) only [go_sem, Nat.reduceMul, Nat.reduceAdd, Nat.reduceLT, Nat.reduceLeDiff, Nat.reducePow, Nat.reduceEqDiff, ↓reduceIte, reduceCtorEq, Int.reduceToNat, Try.ntmps18]
        first | refine wpAct_call0 (none_any) rfl rfl rfl rfl rfl rfl rfl rfl ?_ | done
        simp (maxSteps := 400000) -dsimp -implicitDefEqProofs (disch := first | exact TrueB.mk rfl | omega) only [go_sem, Nat.reduceMul, Nat.reduceAdd, Nat.reduceLT, Nat.reduceLeDiff, Nat.reducePow, Nat.reduceEqDiff, ↓reduceIte, reduceCtorEq, Int.reduceToNat]
        first | exact rfl | done

set_option maxHeartbeats 4000000 in
theorem lookOut_any (s e : Int) (h : ¬ inT s e) (m m' : Bool) : Runs Try.prog env 12 [.pure m (.int .i64 s), .pure m' (.int .i64 e)] [] (.tuple [.pure true (.int .i64 0), .pure true (.sl []), .pure true (.bool false)]) [] := by
  have c := fun m m' => findOut_any s e h m m'
  refine Runs.of Try.func12 rfl (by simp [Try.ntmps12]) ?_
  simp (maxSteps := 400000) -dsimp -implicitDefEqProofs (disch := first | exact TrueB.mk rfl | omega) only [go_sem, Nat.reduceMul, Nat.reduceAdd, Nat.reduceLT, Nat.reduceLeDiff, Nat.reducePow, Nat.reduceEqDiff, ↓reduceIte, reduceCtorEq, Int.reduceToNat, Try.ntmps12]
  first | refine wpAct_call0 (c _ _) rfl rfl rfl rfl rfl rfl rfl rfl ?_ | done
  simp (maxSteps := 400000) -dsimp -implicitDefEqProofs (disch := first | exact TrueB.mk rfl | omega) only [go_sem, Nat.reduceMul, Nat.reduceAdd, Nat.reduceLT, Nat.reduceLeDiff, Nat.reducePow, Nat.reduceEqDiff, ↓reduceIte, reduceCtorEq, Int.reduceToNat]
  first | exact rfl | done


end Go.Proofs.Yticdhmcbooabaaa
