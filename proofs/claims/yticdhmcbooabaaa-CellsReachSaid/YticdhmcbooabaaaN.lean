/- YticdhmcbooabaaaN: an event happens at a link. No claim. -/
import Derived.Test.YticdhmcbooabaaaI
set_option linter.unusedVariables false
set_option linter.unusedSimpArgs false
set_option maxRecDepth 100000
namespace Go.Proofs.Yticdhmcbooabaaa
open Go Go.Proofs.Yticdhmcbooabaaa.V

theorem protos_any : Runs Try.prog env 15 [] [] (.pure true (.agg [.int .i64 49185, .int .i64 32801, .int .i64 32855])) [] := ⟨60, by kernel_rfl⟩

set_option maxHeartbeats 8000000 in
theorem happen_no_0 (a0 r0 a1 r1 a2 r2 e cf tm : Int) (s0 s1 s2 : Bool) (h0 : 0 ≤ r0) (h : stepOut a0 e r0 = none) (f0 f1 f2 f3 f4 f5 g0 g1 g2 mc mi me : Bool) :
    Runs Try.prog env 23 [.ptr 0 0, .pure mc (confV cf tm 1), .pure mi (.int .i64 0), .pure me (.int .i64 e)] [(0, .box [.pure f0 (.int .i64 a0), .pure f1 (.int .i64 r0), .pure f2 (.int .i64 a1), .pure f3 (.int .i64 r1), .pure f4 (.int .i64 a2), .pure f5 (.int .i64 r2), .pure g0 (.bool s0), .pure g1 (.bool s1), .pure g2 (.bool s2)])]
      (.tuple [.pure true (.agg [.int .i64 0, .int .i64 0, .int .i64 0]), .pure true (.bool false)]) [(0, .box [.pure f0 (.int .i64 a0), .pure f1 (.int .i64 r0), .pure f2 (.int .i64 a1), .pure f3 (.int .i64 r1), .pure f4 (.int .i64 a2), .pure f5 (.int .i64 r2), .pure g0 (.bool s0), .pure g1 (.bool s1), .pure g2 (.bool s2)])] := by
  have d1 := fun m m' m'' => stepA_no a0 e r0 cf tm h0 h m m' m''
  unfold confV autV at *
  refine Runs.of Try.func23 rfl (by simp [Try.ntmps23]) ?_
  simp (maxSteps := 400000) -dsimp -implicitDefEqProofs (disch := first | exact TrueB.mk rfl | omega) only [go_sem, Nat.reduceMul, Nat.reduceAdd, Nat.reduceLT, Nat.reduceLeDiff, Nat.reducePow, Nat.reduceEqDiff, ↓reduceIte, reduceCtorEq, Int.reduceToNat, Try.ntmps23]
  first | refine wpAct_call0 (protos_any) rfl rfl rfl rfl rfl rfl rfl rfl ?_ | done
  simp (maxSteps := 400000) -dsimp -implicitDefEqProofs (disch := first | exact TrueB.mk rfl | omega) only [go_sem, Nat.reduceMul, Nat.reduceAdd, Nat.reduceLT, Nat.reduceLeDiff, Nat.reducePow, Nat.reduceEqDiff, ↓reduceIte, reduceCtorEq, Int.reduceToNat]
  first | refine wpAct_callG (d1 _ _ _) rfl rfl rfl rfl rfl rfl rfl rfl rfl ?_ | done
  simp (maxSteps := 400000) -dsimp -implicitDefEqProofs (disch := first | exact TrueB.mk rfl | omega) only [go_sem, Nat.reduceMul, Nat.reduceAdd, Nat.reduceLT, Nat.reduceLeDiff, Nat.reducePow, Nat.reduceEqDiff, ↓reduceIte, reduceCtorEq, Int.reduceToNat]
  first | exact rfl | done

set_option maxHeartbeats 16000000 in
theorem happen_yes_0 (a0 r0 a1 r1 a2 r2 e cf tm : Int) (s0 s1 s2 : Bool) (h1 : 1 ≤ cf ∧ cf ≤ 255) (h2 : 1 ≤ tm ∧ tm ≤ 255) (h3 : 0 ≤ r0 ∧ r0 ≤ 255) {n : Nat} {l : List Nat} (h : stepOut a0 e r0 = some (n, l)) (hl : l.length ≤ 100) (f0 f1 f2 f3 f4 f5 g0 g1 g2 mc mi me : Bool) :
    Runs Try.prog env 23 [.ptr 0 0, .pure mc (confV cf tm 1), .pure mi (.int .i64 0), .pure me (.int .i64 e)] [(0, .box [.pure f0 (.int .i64 a0), .pure f1 (.int .i64 r0), .pure f2 (.int .i64 a1), .pure f3 (.int .i64 r1), .pure f4 (.int .i64 a2), .pure f5 (.int .i64 r2), .pure g0 (.bool s0), .pure g1 (.bool s1), .pure g2 (.bool s2)])]
      (.tuple [.pure (f0 && me) (.agg [.int .i64 49185, .int .i64 a0, .int .i64 e]), .pure true (.bool true)]) [(0, .box [.pure false (.int .i64 n), .pure false (.int .i64 (restA cf tm l r0)), .pure f2 (.int .i64 a1), .pure f3 (.int .i64 r1), .pure f4 (.int .i64 a2), .pure f5 (.int .i64 r2), .pure true (.bool (s0 || hasN l 7)), .pure g1 (.bool s1), .pure g2 (.bool s2)])] := by
  have d1 := fun m m' m'' => stepA_yes a0 e r0 cf tm h1 h2 h3 h hl m m' m''
  have cc := fun m m' => contains_any l 7 (by omega) m m'
  generalize restA cf tm l r0 = x at *
  generalize hasN l 7 = y at *
  unfold confV autV at *
  refine Runs.of Try.func23 rfl (by simp [Try.ntmps23]) ?_
  simp (maxSteps := 400000) -dsimp -implicitDefEqProofs (disch := first | exact TrueB.mk rfl | omega) only [go_sem, Nat.reduceMul, Nat.reduceAdd, Nat.reduceLT, Nat.reduceLeDiff, Nat.reducePow, Nat.reduceEqDiff, ↓reduceIte, reduceCtorEq, Int.reduceToNat, Try.ntmps23]
  first | refine wpAct_call0 (protos_any) rfl rfl rfl rfl rfl rfl rfl rfl ?_ | done
  simp (maxSteps := 400000) -dsimp -implicitDefEqProofs (disch := first | exact TrueB.mk rfl | omega) only [go_sem, Nat.reduceMul, Nat.reduceAdd, Nat.reduceLT, Nat.reduceLeDiff, Nat.reducePow, Nat.reduceEqDiff, ↓reduceIte, reduceCtorEq, Int.reduceToNat]
  first | refine wpAct_call0 (d1 _ _ _) rfl rfl rfl rfl rfl rfl rfl rfl ?_ | done
  simp (maxSteps := 400000) -dsimp -implicitDefEqProofs (disch := first | exact TrueB.mk rfl | omega) only [go_sem, Nat.reduceMul, Nat.reduceAdd, Nat.reduceLT, Nat.reduceLeDiff, Nat.reducePow, Nat.reduceEqDiff, ↓reduceIte, reduceCtorEq, Int.reduceToNat]
  cases s0 with
  | true =>
    simp (maxSteps := 400000) -dsimp -implicitDefEqProofs (disch := first | exact TrueB.mk rfl | omega) only [go_sem, Nat.reduceMul, Nat.reduceAdd, Nat.reduceLT, Nat.reduceLeDiff, Nat.reducePow, Nat.reduceEqDiff, ↓reduceIte, reduceCtorEq, Int.reduceToNat]
    cases f0 <;> cases me <;> rfl
  | false =>
    simp (maxSteps := 400000) -dsimp -implicitDefEqProofs (disch := first | exact TrueB.mk rfl | omega) only [go_sem, Nat.reduceMul, Nat.reduceAdd, Nat.reduceLT, Nat.reduceLeDiff, Nat.reducePow, Nat.reduceEqDiff, ↓reduceIte, reduceCtorEq, Int.reduceToNat]
    first | refine wpAct_call0 (cc _ _) rfl rfl rfl rfl rfl rfl rfl rfl ?_ | done
    simp (maxSteps := 400000) -dsimp -implicitDefEqProofs (disch := first | exact TrueB.mk rfl | omega) only [go_sem, Nat.reduceMul, Nat.reduceAdd, Nat.reduceLT, Nat.reduceLeDiff, Nat.reducePow, Nat.reduceEqDiff, ↓reduceIte, reduceCtorEq, Int.reduceToNat]
    cases f0 <;> cases me <;> cases y <;> rfl

set_option maxHeartbeats 8000000 in
theorem happen_no_1 (a0 r0 a1 r1 a2 r2 e cf tm : Int) (s0 s1 s2 : Bool) (h0 : 0 ≤ r1) (h : stepOut a1 e r1 = none) (f0 f1 f2 f3 f4 f5 g0 g1 g2 mc mi me : Bool) :
    Runs Try.prog env 23 [.ptr 0 0, .pure mc (confV cf tm 1), .pure mi (.int .i64 1), .pure me (.int .i64 e)] [(0, .box [.pure f0 (.int .i64 a0), .pure f1 (.int .i64 r0), .pure f2 (.int .i64 a1), .pure f3 (.int .i64 r1), .pure f4 (.int .i64 a2), .pure f5 (.int .i64 r2), .pure g0 (.bool s0), .pure g1 (.bool s1), .pure g2 (.bool s2)])]
      (.tuple [.pure true (.agg [.int .i64 0, .int .i64 0, .int .i64 0]), .pure true (.bool false)]) [(0, .box [.pure f0 (.int .i64 a0), .pure f1 (.int .i64 r0), .pure f2 (.int .i64 a1), .pure f3 (.int .i64 r1), .pure f4 (.int .i64 a2), .pure f5 (.int .i64 r2), .pure g0 (.bool s0), .pure g1 (.bool s1), .pure g2 (.bool s2)])] := by
  have d1 := fun m m' m'' => stepA_no a1 e r1 cf tm h0 h m m' m''
  unfold confV autV at *
  refine Runs.of Try.func23 rfl (by simp [Try.ntmps23]) ?_
  simp (maxSteps := 400000) -dsimp -implicitDefEqProofs (disch := first | exact TrueB.mk rfl | omega) only [go_sem, Nat.reduceMul, Nat.reduceAdd, Nat.reduceLT, Nat.reduceLeDiff, Nat.reducePow, Nat.reduceEqDiff, ↓reduceIte, reduceCtorEq, Int.reduceToNat, Try.ntmps23]
  first | refine wpAct_call0 (protos_any) rfl rfl rfl rfl rfl rfl rfl rfl ?_ | done
  simp (maxSteps := 400000) -dsimp -implicitDefEqProofs (disch := first | exact TrueB.mk rfl | omega) only [go_sem, Nat.reduceMul, Nat.reduceAdd, Nat.reduceLT, Nat.reduceLeDiff, Nat.reducePow, Nat.reduceEqDiff, ↓reduceIte, reduceCtorEq, Int.reduceToNat]
  first | refine wpAct_callG (d1 _ _ _) rfl rfl rfl rfl rfl rfl rfl rfl rfl ?_ | done
  simp (maxSteps := 400000) -dsimp -implicitDefEqProofs (disch := first | exact TrueB.mk rfl | omega) only [go_sem, Nat.reduceMul, Nat.reduceAdd, Nat.reduceLT, Nat.reduceLeDiff, Nat.reducePow, Nat.reduceEqDiff, ↓reduceIte, reduceCtorEq, Int.reduceToNat]
  first | exact rfl | done

set_option maxHeartbeats 16000000 in
theorem happen_yes_1 (a0 r0 a1 r1 a2 r2 e cf tm : Int) (s0 s1 s2 : Bool) (h1 : 1 ≤ cf ∧ cf ≤ 255) (h2 : 1 ≤ tm ∧ tm ≤ 255) (h3 : 0 ≤ r1 ∧ r1 ≤ 255) {n : Nat} {l : List Nat} (h : stepOut a1 e r1 = some (n, l)) (hl : l.length ≤ 100) (f0 f1 f2 f3 f4 f5 g0 g1 g2 mc mi me : Bool) :
    Runs Try.prog env 23 [.ptr 0 0, .pure mc (confV cf tm 1), .pure mi (.int .i64 1), .pure me (.int .i64 e)] [(0, .box [.pure f0 (.int .i64 a0), .pure f1 (.int .i64 r0), .pure f2 (.int .i64 a1), .pure f3 (.int .i64 r1), .pure f4 (.int .i64 a2), .pure f5 (.int .i64 r2), .pure g0 (.bool s0), .pure g1 (.bool s1), .pure g2 (.bool s2)])]
      (.tuple [.pure (f2 && me) (.agg [.int .i64 32801, .int .i64 a1, .int .i64 e]), .pure true (.bool true)]) [(0, .box [.pure f0 (.int .i64 a0), .pure f1 (.int .i64 r0), .pure false (.int .i64 n), .pure false (.int .i64 (restA cf tm l r1)), .pure f4 (.int .i64 a2), .pure f5 (.int .i64 r2), .pure g0 (.bool s0), .pure true (.bool (s1 || hasN l 7)), .pure g2 (.bool s2)])] := by
  have d1 := fun m m' m'' => stepA_yes a1 e r1 cf tm h1 h2 h3 h hl m m' m''
  have cc := fun m m' => contains_any l 7 (by omega) m m'
  generalize restA cf tm l r1 = x at *
  generalize hasN l 7 = y at *
  unfold confV autV at *
  refine Runs.of Try.func23 rfl (by simp [Try.ntmps23]) ?_
  simp (maxSteps := 400000) -dsimp -implicitDefEqProofs (disch := first | exact TrueB.mk rfl | omega) only [go_sem, Nat.reduceMul, Nat.reduceAdd, Nat.reduceLT, Nat.reduceLeDiff, Nat.reducePow, Nat.reduceEqDiff, ↓reduceIte, reduceCtorEq, Int.reduceToNat, Try.ntmps23]
  first | refine wpAct_call0 (protos_any) rfl rfl rfl rfl rfl rfl rfl rfl ?_ | done
  simp (maxSteps := 400000) -dsimp -implicitDefEqProofs (disch := first | exact TrueB.mk rfl | omega) only [go_sem, Nat.reduceMul, Nat.reduceAdd, Nat.reduceLT, Nat.reduceLeDiff, Nat.reducePow, Nat.reduceEqDiff, ↓reduceIte, reduceCtorEq, Int.reduceToNat]
  first | refine wpAct_call0 (d1 _ _ _) rfl rfl rfl rfl rfl rfl rfl rfl ?_ | done
  simp (maxSteps := 400000) -dsimp -implicitDefEqProofs (disch := first | exact TrueB.mk rfl | omega) only [go_sem, Nat.reduceMul, Nat.reduceAdd, Nat.reduceLT, Nat.reduceLeDiff, Nat.reducePow, Nat.reduceEqDiff, ↓reduceIte, reduceCtorEq, Int.reduceToNat]
  cases s1 with
  | true =>
    simp (maxSteps := 400000) -dsimp -implicitDefEqProofs (disch := first | exact TrueB.mk rfl | omega) only [go_sem, Nat.reduceMul, Nat.reduceAdd, Nat.reduceLT, Nat.reduceLeDiff, Nat.reducePow, Nat.reduceEqDiff, ↓reduceIte, reduceCtorEq, Int.reduceToNat]
    cases f2 <;> cases me <;> rfl
  | false =>
    simp (maxSteps := 400000) -dsimp -implicitDefEqProofs (disch := first | exact TrueB.mk rfl | omega) only [go_sem, Nat.reduceMul, Nat.reduceAdd, Nat.reduceLT, Nat.reduceLeDiff, Nat.reducePow, Nat.reduceEqDiff, ↓reduceIte, reduceCtorEq, Int.reduceToNat]
    first | refine wpAct_call0 (cc _ _) rfl rfl rfl rfl rfl rfl rfl rfl ?_ | done
    simp (maxSteps := 400000) -dsimp -implicitDefEqProofs (disch := first | exact TrueB.mk rfl | omega) only [go_sem, Nat.reduceMul, Nat.reduceAdd, Nat.reduceLT, Nat.reduceLeDiff, Nat.reducePow, Nat.reduceEqDiff, ↓reduceIte, reduceCtorEq, Int.reduceToNat]
    cases f2 <;> cases me <;> cases y <;> rfl

set_option maxHeartbeats 8000000 in
theorem happen_no_2 (a0 r0 a1 r1 a2 r2 e cf tm : Int) (s0 s1 s2 : Bool) (h0 : 0 ≤ r2) (h : stepOut a2 e r2 = none) (f0 f1 f2 f3 f4 f5 g0 g1 g2 mc mi me : Bool) :
    Runs Try.prog env 23 [.ptr 0 0, .pure mc (confV cf tm 1), .pure mi (.int .i64 2), .pure me (.int .i64 e)] [(0, .box [.pure f0 (.int .i64 a0), .pure f1 (.int .i64 r0), .pure f2 (.int .i64 a1), .pure f3 (.int .i64 r1), .pure f4 (.int .i64 a2), .pure f5 (.int .i64 r2), .pure g0 (.bool s0), .pure g1 (.bool s1), .pure g2 (.bool s2)])]
      (.tuple [.pure true (.agg [.int .i64 0, .int .i64 0, .int .i64 0]), .pure true (.bool false)]) [(0, .box [.pure f0 (.int .i64 a0), .pure f1 (.int .i64 r0), .pure f2 (.int .i64 a1), .pure f3 (.int .i64 r1), .pure f4 (.int .i64 a2), .pure f5 (.int .i64 r2), .pure g0 (.bool s0), .pure g1 (.bool s1), .pure g2 (.bool s2)])] := by
  have d1 := fun m m' m'' => stepA_no a2 e r2 cf tm h0 h m m' m''
  unfold confV autV at *
  refine Runs.of Try.func23 rfl (by simp [Try.ntmps23]) ?_
  simp (maxSteps := 400000) -dsimp -implicitDefEqProofs (disch := first | exact TrueB.mk rfl | omega) only [go_sem, Nat.reduceMul, Nat.reduceAdd, Nat.reduceLT, Nat.reduceLeDiff, Nat.reducePow, Nat.reduceEqDiff, ↓reduceIte, reduceCtorEq, Int.reduceToNat, Try.ntmps23]
  first | refine wpAct_call0 (protos_any) rfl rfl rfl rfl rfl rfl rfl rfl ?_ | done
  simp (maxSteps := 400000) -dsimp -implicitDefEqProofs (disch := first | exact TrueB.mk rfl | omega) only [go_sem, Nat.reduceMul, Nat.reduceAdd, Nat.reduceLT, Nat.reduceLeDiff, Nat.reducePow, Nat.reduceEqDiff, ↓reduceIte, reduceCtorEq, Int.reduceToNat]
  first | refine wpAct_callG (d1 _ _ _) rfl rfl rfl rfl rfl rfl rfl rfl rfl ?_ | done
  simp (maxSteps := 400000) -dsimp -implicitDefEqProofs (disch := first | exact TrueB.mk rfl | omega) only [go_sem, Nat.reduceMul, Nat.reduceAdd, Nat.reduceLT, Nat.reduceLeDiff, Nat.reducePow, Nat.reduceEqDiff, ↓reduceIte, reduceCtorEq, Int.reduceToNat]
  first | exact rfl | done

set_option maxHeartbeats 16000000 in
theorem happen_yes_2 (a0 r0 a1 r1 a2 r2 e cf tm : Int) (s0 s1 s2 : Bool) (h1 : 1 ≤ cf ∧ cf ≤ 255) (h2 : 1 ≤ tm ∧ tm ≤ 255) (h3 : 0 ≤ r2 ∧ r2 ≤ 255) {n : Nat} {l : List Nat} (h : stepOut a2 e r2 = some (n, l)) (hl : l.length ≤ 100) (f0 f1 f2 f3 f4 f5 g0 g1 g2 mc mi me : Bool) :
    Runs Try.prog env 23 [.ptr 0 0, .pure mc (confV cf tm 1), .pure mi (.int .i64 2), .pure me (.int .i64 e)] [(0, .box [.pure f0 (.int .i64 a0), .pure f1 (.int .i64 r0), .pure f2 (.int .i64 a1), .pure f3 (.int .i64 r1), .pure f4 (.int .i64 a2), .pure f5 (.int .i64 r2), .pure g0 (.bool s0), .pure g1 (.bool s1), .pure g2 (.bool s2)])]
      (.tuple [.pure (f4 && me) (.agg [.int .i64 32855, .int .i64 a2, .int .i64 e]), .pure true (.bool true)]) [(0, .box [.pure f0 (.int .i64 a0), .pure f1 (.int .i64 r0), .pure f2 (.int .i64 a1), .pure f3 (.int .i64 r1), .pure false (.int .i64 n), .pure false (.int .i64 (restA cf tm l r2)), .pure g0 (.bool s0), .pure g1 (.bool s1), .pure true (.bool (s2 || hasN l 7))])] := by
  have d1 := fun m m' m'' => stepA_yes a2 e r2 cf tm h1 h2 h3 h hl m m' m''
  have cc := fun m m' => contains_any l 7 (by omega) m m'
  generalize restA cf tm l r2 = x at *
  generalize hasN l 7 = y at *
  unfold confV autV at *
  refine Runs.of Try.func23 rfl (by simp [Try.ntmps23]) ?_
  simp (maxSteps := 400000) -dsimp -implicitDefEqProofs (disch := first | exact TrueB.mk rfl | omega) only [go_sem, Nat.reduceMul, Nat.reduceAdd, Nat.reduceLT, Nat.reduceLeDiff, Nat.reducePow, Nat.reduceEqDiff, ↓reduceIte, reduceCtorEq, Int.reduceToNat, Try.ntmps23]
  first | refine wpAct_call0 (protos_any) rfl rfl rfl rfl rfl rfl rfl rfl ?_ | done
  simp (maxSteps := 400000) -dsimp -implicitDefEqProofs (disch := first | exact TrueB.mk rfl | omega) only [go_sem, Nat.reduceMul, Nat.reduceAdd, Nat.reduceLT, Nat.reduceLeDiff, Nat.reducePow, Nat.reduceEqDiff, ↓reduceIte, reduceCtorEq, Int.reduceToNat]
  first | refine wpAct_call0 (d1 _ _ _) rfl rfl rfl rfl rfl rfl rfl rfl ?_ | done
  simp (maxSteps := 400000) -dsimp -implicitDefEqProofs (disch := first | exact TrueB.mk rfl | omega) only [go_sem, Nat.reduceMul, Nat.reduceAdd, Nat.reduceLT, Nat.reduceLeDiff, Nat.reducePow, Nat.reduceEqDiff, ↓reduceIte, reduceCtorEq, Int.reduceToNat]
  cases s2 with
  | true =>
    simp (maxSteps := 400000) -dsimp -implicitDefEqProofs (disch := first | exact TrueB.mk rfl | omega) only [go_sem, Nat.reduceMul, Nat.reduceAdd, Nat.reduceLT, Nat.reduceLeDiff, Nat.reducePow, Nat.reduceEqDiff, ↓reduceIte, reduceCtorEq, Int.reduceToNat]
    cases f4 <;> cases me <;> rfl
  | false =>
    simp (maxSteps := 400000) -dsimp -implicitDefEqProofs (disch := first | exact TrueB.mk rfl | omega) only [go_sem, Nat.reduceMul, Nat.reduceAdd, Nat.reduceLT, Nat.reduceLeDiff, Nat.reducePow, Nat.reduceEqDiff, ↓reduceIte, reduceCtorEq, Int.reduceToNat]
    first | refine wpAct_call0 (cc _ _) rfl rfl rfl rfl rfl rfl rfl rfl ?_ | done
    simp (maxSteps := 400000) -dsimp -implicitDefEqProofs (disch := first | exact TrueB.mk rfl | omega) only [go_sem, Nat.reduceMul, Nat.reduceAdd, Nat.reduceLT, Nat.reduceLeDiff, Nat.reducePow, Nat.reduceEqDiff, ↓reduceIte, reduceCtorEq, Int.reduceToNat]
    cases f4 <;> cases me <;> cases y <;> rfl
end Go.Proofs.Yticdhmcbooabaaa
