/- YtnhbmabikngmpaaDoorC: the law TableLooks, over the evaluator. No claim. -/
import Derived.Test.YtnhbmabikngmpaaDoorB
import Derived.Test.YtnhbmabikngmpaaDoorA0
import Derived.Test.YtnhbmabikngmpaaDoorA1
import Derived.Test.YtnhbmabikngmpaaDoorA2
import Derived.Test.YtnhbmabikngmpaaDoorA3
import Derived.Test.YtnhbmabikngmpaaDoorA4
import Derived.Test.YtnhbmabikngmpaaDoorA5
import Derived.Test.YtnhbmabikngmpaaDoorA6
import Derived.Test.YtnhbmabikngmpaaDoorA7
import Derived.Test.YtnhbmabikngmpaaDoorA8
import Derived.Test.YtnhbmabikngmpaaDoorA9
set_option linter.unusedVariables false
set_option linter.unusedSimpArgs false
set_option maxRecDepth 100000
namespace Go.Proofs.YtnhbmabikngmpaaDoor
open Go Go.Proofs.YtnhbmabikngmpaaDoor.V
theorem looks_all (s e : Nat) (h : s < 10) (h1 : 1 ≤ e) (h2 : e ≤ 16) : Runs Tryd.prog env 3 [.pure false (.int .i64 s), .pure false (.int .i64 e)] [] (.pure true (.bool true)) [] := by
  have h3 : s = 0 ∨ s = 1 ∨ s = 2 ∨ s = 3 ∨ s = 4 ∨ s = 5 ∨ s = 6 ∨ s = 7 ∨ s = 8 ∨ s = 9 := by omega
  rcases h3 with rfl | rfl | rfl | rfl | rfl | rfl | rfl | rfl | rfl | rfl
  · exact looksRow_0 e h1 h2
  · exact looksRow_1 e h1 h2
  · exact looksRow_2 e h1 h2
  · exact looksRow_3 e h1 h2
  · exact looksRow_4 e h1 h2
  · exact looksRow_5 e h1 h2
  · exact looksRow_6 e h1 h2
  · exact looksRow_7 e h1 h2
  · exact looksRow_8 e h1 h2
  · exact looksRow_9 e h1 h2

set_option maxHeartbeats 4000000 in
theorem tableLooks_runs (s e : Int) : Runs Tryd.prog env 3 [.pure false (.int .i64 s), .pure false (.int .i64 e)] [] (.pure true (.bool true)) [] := by
  by_cases h : 0 ≤ s ∧ s ≤ 9 ∧ 1 ≤ e ∧ e ≤ 16
  · obtain ⟨h1, h2, h3, h4⟩ := h
    have c := looks_all s.toNat e.toNat (by omega) (by omega) (by omega)
    rwa [show ((s.toNat : Nat) : Int) = s by omega, show ((e.toNat : Nat) : Int) = e by omega] at c
  · have c1 := fun m m' => lookOut_any s e h m m'
    have c2 := fun m m' => refLookOut_any s e h m m'
    refine Runs.of Tryd.func3 rfl (by simp [Tryd.ntmps3]) ?_
    simp (maxSteps := 400000) -dsimp -implicitDefEqProofs (disch := first | exact TrueB.mk rfl | omega) only [go_sem, Nat.reduceMul, Nat.reduceAdd, Nat.reduceLT, Nat.reduceLeDiff, Nat.reducePow, Nat.reduceEqDiff, ↓reduceIte, reduceCtorEq, Int.reduceToNat, Tryd.ntmps3]
    first | refine wpAct_call0 (awake19_any) rfl rfl rfl rfl rfl rfl rfl rfl ?_ | done
    simp (maxSteps := 400000) -dsimp -implicitDefEqProofs (disch := first | exact TrueB.mk rfl | omega) only [go_sem, Nat.reduceMul, Nat.reduceAdd, Nat.reduceLT, Nat.reduceLeDiff, Nat.reducePow, Nat.reduceEqDiff, ↓reduceIte, reduceCtorEq, Int.reduceToNat]
    first | refine wpAct_call0 (c1 _ _) rfl rfl rfl rfl rfl rfl rfl rfl ?_ | done
    simp (maxSteps := 400000) -dsimp -implicitDefEqProofs (disch := first | exact TrueB.mk rfl | omega) only [go_sem, Nat.reduceMul, Nat.reduceAdd, Nat.reduceLT, Nat.reduceLeDiff, Nat.reducePow, Nat.reduceEqDiff, ↓reduceIte, reduceCtorEq, Int.reduceToNat]
    first | refine wpAct_callG (c2 _ _) rfl rfl rfl rfl rfl rfl rfl rfl rfl ?_ | done
    simp (maxSteps := 400000) -dsimp -implicitDefEqProofs (disch := first | exact TrueB.mk rfl | omega) only [go_sem, Nat.reduceMul, Nat.reduceAdd, Nat.reduceLT, Nat.reduceLeDiff, Nat.reducePow, Nat.reduceEqDiff, ↓reduceIte, reduceCtorEq, Int.reduceToNat]
    first | refine wpAct_callF (same_nil _ _) rfl rfl rfl rfl (argV_p rfl (argV_r rfl rfl argV_nil)) rfl rfl rfl rfl ?_ | done
    simp (maxSteps := 400000) -dsimp -implicitDefEqProofs (disch := first | exact TrueB.mk rfl | omega) only [go_sem, Nat.reduceMul, Nat.reduceAdd, Nat.reduceLT, Nat.reduceLeDiff, Nat.reducePow, Nat.reduceEqDiff, ↓reduceIte, reduceCtorEq, Int.reduceToNat]
    first | exact end_bool rfl rfl | done
end Go.Proofs.YtnhbmabikngmpaaDoor
