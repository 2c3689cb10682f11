/- YtkjoolmkgpmlfaaDoorM: the laws AutoSteps and AutoRuns, over the evaluator. No claim. -/
import Derived.Test.YtkjoolmkgpmlfaaDoorK2
set_option linter.unusedVariables false
set_option linter.unusedSimpArgs false
set_option maxRecDepth 100000
namespace Go.Proofs.YtkjoolmkgpmlfaaDoor
open Go Go.Proofs.YtkjoolmkgpmlfaaDoor.V

def sameTo (l k : List Nat) (i : Nat) : Prop := i ≤ l.length
set_option maxHeartbeats 4000000 in
theorem same_any (l : List Nat) (hl : l.length ≤ 1000) (m m' : Bool) : Runs Tryd.prog env 11 [.pure m (.sl (intsOf l)), .pure m' (.sl (intsOf l))] [] (.pure true (.bool true)) [] := by
  have hil := intsOf_length l
  refine Runs.of Tryd.func11 rfl (by simp [Tryd.ntmps11]) ?_
  simp (maxSteps := 400000) -dsimp -implicitDefEqProofs (disch := first | exact TrueB.mk rfl | omega) only [go_sem, Nat.reduceMul, Nat.reduceAdd, Nat.reduceLT, Nat.reduceLeDiff, Nat.reducePow, Nat.reduceEqDiff, ↓reduceIte, reduceCtorEq, Int.reduceToNat, Tryd.ntmps11, hil]
  refine wpLoop_ind (α := Nat)
    (fun i => ⟨[(0, .pure m (.sl (intsOf l))), (1, .pure m' (.sl (intsOf l))), (5, .pure true (.int .i64 i))], []⟩)
    (fun i => i ≤ l.length) (fun i => l.length - i) ?_ 0 (by omega) rfl
  rintro i hi
  rcases Classical.em (i < l.length) with h1 | h1
  · have g1 := ints_at h1
    simp (maxSteps := 400000) -dsimp -implicitDefEqProofs (disch := first | exact TrueB.mk rfl | omega) only [go_sem, Nat.reduceMul, Nat.reduceAdd, Nat.reduceLT, Nat.reduceLeDiff, Nat.reducePow, Nat.reduceEqDiff, ↓reduceIte, reduceCtorEq, Int.reduceToNat, g1, hil]
    first | exact again_mk ⟨i + 1, by omega, by omega, rfl⟩ | done
  · simp (maxSteps := 400000) -dsimp -implicitDefEqProofs (disch := first | exact TrueB.mk rfl | omega) only [go_sem, Nat.reduceMul, Nat.reduceAdd, Nat.reduceLT, Nat.reduceLeDiff, Nat.reducePow, Nat.reduceEqDiff, ↓reduceIte, reduceCtorEq, Int.reduceToNat, hil]
    first | exact end_bool rfl rfl | done

theorem stepOut_ok {s e r : Int} {n : Nat} {l : List Nat} (h : stepOut s e r = some (n, l)) : l.length ≤ 100 ∧ n ≤ 9 := by
  unfold stepOut at h
  cases hc : cellI s e with
  | none => rw [hc] at h; cases h
  | some p =>
    rw [hc] at h
    simp only at h
    split at h
    · cases h
    · cases h
      exact (cell_ok hc).2

theorem newQ (q : Bool) (a b : Int) (n : Nat) : newV (.tuple [.pure q (.agg [.int .i64 a, .int .i64 b]), .row 0 n, .pure true (.bool true)]) = true := by cases q <;> rfl

theorem stepR_yesQ (s e r cf tm : Int) (h1 : 1 ≤ cf ∧ cf ≤ 255) (h2 : 1 ≤ tm ∧ tm ≤ 255) (h3 : 0 ≤ r ∧ r ≤ 255) {n : Nat} {l : List Nat} (h : stepOut s e r = some (n, l)) :
    ∃ Q : Bool → Bool → Bool → Bool, ∀ mc m m' : Bool, Runs Tryd.prog env 10 [.pure mc (confV cf tm 1), .pure m (autV s r), .pure m' (.int .i64 e)] [] (.tuple [.pure (Q mc m m') (autV n (restA cf tm l r)), .row 0 l.length, .pure true (.bool true)]) [(0, .row true (zOf l) 0 (intsOf l))] :=
  ⟨fun mc m m' => Classical.choose (stepR_yes s e r cf tm h1 h2 h3 h mc m m'), fun mc m m' => Classical.choose_spec (stepR_yes s e r cf tm h1 h2 h3 h mc m m')⟩

set_option maxHeartbeats 16000000 in
theorem autoSteps_runs (s r e : Int) (x y : UInt8) : Runs Tryd.prog env 3 [.pure false (autV s r), .pure false (.int .i64 e), .pure false (.int .u8 x.toNat), .pure false (.int .u8 y.toNat)] [] (.pure true (.bool true)) [] := by
  have c1 := fun m => refRight_any s r m
  have c2 := fun m m' => conf_any x y m m'
  have hx : 1 ≤ 1 + ((x.toNat % 255 : Nat) : Int) ∧ 1 + ((x.toNat % 255 : Nat) : Int) ≤ 255 := by omega
  have hy : 1 ≤ 1 + ((y.toNat % 255 : Nat) : Int) ∧ 1 + ((y.toNat % 255 : Nat) : Int) ≤ 255 := by omega
  generalize 1 + ((x.toNat % 255 : Nat) : Int) = cf at *
  generalize 1 + ((y.toNat % 255 : Nat) : Int) = tm at *
  rcases Classical.em (0 ≤ s ∧ s ≤ 9 ∧ 0 ≤ r ∧ r ≤ 255) with hr | hr
  · have hra : rightA s r = true := by unfold rightA; exact decide_eq_true hr
    rw [hra] at c1
    have t1 := fun m => timed_any s r ⟨hr.1, hr.2.1⟩ m
    have t2 := fun m => refTimed_any s r m
    generalize timedA s r = T at *
    cases ho : stepOut s e r with
    | none =>
      have d1 := fun m m' m'' => stepA_no s e r cf tm hr.2.2.1 ho m m' m''
      have d2 := fun m m' m'' => stepR_no s e r cf tm hr.2.2.1 ho m m' m''
      have sm := fun m m' => same_any [] (by simp) m m'
      unfold confV autV at *
      refine Runs.of Tryd.func3 rfl (by simp [Tryd.ntmps3]) ?_
      simp (maxSteps := 400000) -dsimp -implicitDefEqProofs (disch := first | exact TrueB.mk rfl | omega) only [go_sem, Nat.reduceMul, Nat.reduceAdd, Nat.reduceLT, Nat.reduceLeDiff, Nat.reducePow, Nat.reduceEqDiff, ↓reduceIte, reduceCtorEq, Int.reduceToNat, Tryd.ntmps3]
      first | refine wpAct_call0 (awake20_any) rfl rfl rfl rfl rfl rfl rfl rfl ?_ | done
      simp (maxSteps := 400000) -dsimp -implicitDefEqProofs (disch := first | exact TrueB.mk rfl | omega) only [go_sem, Nat.reduceMul, Nat.reduceAdd, Nat.reduceLT, Nat.reduceLeDiff, Nat.reducePow, Nat.reduceEqDiff, ↓reduceIte, reduceCtorEq, Int.reduceToNat]
      first | refine wpAct_call0 (c1 _) rfl rfl rfl rfl rfl rfl rfl rfl ?_ | done
      simp (maxSteps := 400000) -dsimp -implicitDefEqProofs (disch := first | exact TrueB.mk rfl | omega) only [go_sem, Nat.reduceMul, Nat.reduceAdd, Nat.reduceLT, Nat.reduceLeDiff, Nat.reducePow, Nat.reduceEqDiff, ↓reduceIte, reduceCtorEq, Int.reduceToNat]
      first | refine wpAct_call0 (c2 _ _) rfl rfl rfl rfl rfl rfl rfl rfl ?_ | done
      simp (maxSteps := 400000) -dsimp -implicitDefEqProofs (disch := first | exact TrueB.mk rfl | omega) only [go_sem, Nat.reduceMul, Nat.reduceAdd, Nat.reduceLT, Nat.reduceLeDiff, Nat.reducePow, Nat.reduceEqDiff, ↓reduceIte, reduceCtorEq, Int.reduceToNat]
      first | refine wpAct_callG (d1 _ _ _) rfl rfl rfl rfl rfl rfl rfl rfl rfl ?_ | done
      simp (maxSteps := 400000) -dsimp -implicitDefEqProofs (disch := first | exact TrueB.mk rfl | omega) only [go_sem, Nat.reduceMul, Nat.reduceAdd, Nat.reduceLT, Nat.reduceLeDiff, Nat.reducePow, Nat.reduceEqDiff, ↓reduceIte, reduceCtorEq, Int.reduceToNat]
      first | refine wpAct_callG (d2 _ _ _) rfl rfl rfl rfl rfl rfl rfl rfl rfl ?_ | done
      simp (maxSteps := 400000) -dsimp -implicitDefEqProofs (disch := first | exact TrueB.mk rfl | omega) only [go_sem, Nat.reduceMul, Nat.reduceAdd, Nat.reduceLT, Nat.reduceLeDiff, Nat.reducePow, Nat.reduceEqDiff, ↓reduceIte, reduceCtorEq, Int.reduceToNat]
      first | refine wpAct_callF (sm _ _) rfl rfl rfl rfl (argV_r rfl rfl (argV_r rfl rfl argV_nil)) rfl rfl rfl rfl ?_ | done
      simp (maxSteps := 400000) -dsimp -implicitDefEqProofs (disch := first | exact TrueB.mk rfl | omega) only [go_sem, Nat.reduceMul, Nat.reduceAdd, Nat.reduceLT, Nat.reduceLeDiff, Nat.reducePow, Nat.reduceEqDiff, ↓reduceIte, reduceCtorEq, Int.reduceToNat]
      first | refine wpAct_call0 (t1 _) rfl rfl rfl rfl rfl rfl rfl rfl ?_ | done
      simp (maxSteps := 400000) -dsimp -implicitDefEqProofs (disch := first | exact TrueB.mk rfl | omega) only [go_sem, Nat.reduceMul, Nat.reduceAdd, Nat.reduceLT, Nat.reduceLeDiff, Nat.reducePow, Nat.reduceEqDiff, ↓reduceIte, reduceCtorEq, Int.reduceToNat]
      first | refine wpAct_call0 (t2 _) rfl rfl rfl rfl rfl rfl rfl rfl ?_ | done
      simp (maxSteps := 400000) -dsimp -implicitDefEqProofs (disch := first | exact TrueB.mk rfl | omega) only [go_sem, Nat.reduceMul, Nat.reduceAdd, Nat.reduceLT, Nat.reduceLeDiff, Nat.reducePow, Nat.reduceEqDiff, ↓reduceIte, reduceCtorEq, Int.reduceToNat, beq_same]
      first | exact end_bool rfl rfl | done
    | some p =>
      obtain ⟨n, l⟩ := p
      obtain ⟨hl, hn⟩ := stepOut_ok ho
      have d1 := fun m m' m'' => stepA_yes s e r cf tm hx hy hr.2.2 ho hl m m' m''
      obtain ⟨Q, d2⟩ := stepR_yesQ s e r cf tm hx hy hr.2.2 ho
      have sm := fun m m' => same_any l (by omega) m m'
      have hil := intsOf_length l
      generalize restA cf tm l r = R at *
      unfold confV autV at *
      refine Runs.of Tryd.func3 rfl (by simp [Tryd.ntmps3]) ?_
      simp (maxSteps := 400000) -dsimp -implicitDefEqProofs (disch := first | exact TrueB.mk rfl | omega) only [go_sem, Nat.reduceMul, Nat.reduceAdd, Nat.reduceLT, Nat.reduceLeDiff, Nat.reducePow, Nat.reduceEqDiff, ↓reduceIte, reduceCtorEq, Int.reduceToNat, Tryd.ntmps3]
      first | refine wpAct_call0 (awake20_any) rfl rfl rfl rfl rfl rfl rfl rfl ?_ | done
      simp (maxSteps := 400000) -dsimp -implicitDefEqProofs (disch := first | exact TrueB.mk rfl | omega) only [go_sem, Nat.reduceMul, Nat.reduceAdd, Nat.reduceLT, Nat.reduceLeDiff, Nat.reducePow, Nat.reduceEqDiff, ↓reduceIte, reduceCtorEq, Int.reduceToNat]
      first | refine wpAct_call0 (c1 _) rfl rfl rfl rfl rfl rfl rfl rfl ?_ | done
      simp (maxSteps := 400000) -dsimp -implicitDefEqProofs (disch := first | exact TrueB.mk rfl | omega) only [go_sem, Nat.reduceMul, Nat.reduceAdd, Nat.reduceLT, Nat.reduceLeDiff, Nat.reducePow, Nat.reduceEqDiff, ↓reduceIte, reduceCtorEq, Int.reduceToNat]
      first | refine wpAct_call0 (c2 _ _) rfl rfl rfl rfl rfl rfl rfl rfl ?_ | done
      simp (maxSteps := 400000) -dsimp -implicitDefEqProofs (disch := first | exact TrueB.mk rfl | omega) only [go_sem, Nat.reduceMul, Nat.reduceAdd, Nat.reduceLT, Nat.reduceLeDiff, Nat.reducePow, Nat.reduceEqDiff, ↓reduceIte, reduceCtorEq, Int.reduceToNat]
      first | refine wpAct_call0 (d1 _ _ _) rfl rfl rfl rfl rfl rfl rfl rfl ?_ | done
      simp (maxSteps := 400000) -dsimp -implicitDefEqProofs (disch := first | exact TrueB.mk rfl | omega) only [go_sem, Nat.reduceMul, Nat.reduceAdd, Nat.reduceLT, Nat.reduceLeDiff, Nat.reducePow, Nat.reduceEqDiff, ↓reduceIte, reduceCtorEq, Int.reduceToNat]
      refine wpAct_callG (d2 _ _ _) rfl rfl rfl rfl rfl rfl (newQ _ _ _ _) rfl rfl ?_
      simp (maxSteps := 400000) -dsimp -implicitDefEqProofs (disch := first | exact TrueB.mk rfl | omega) only [go_sem, Nat.reduceMul, Nat.reduceAdd, Nat.reduceLT, Nat.reduceLeDiff, Nat.reducePow, Nat.reduceEqDiff, ↓reduceIte, reduceCtorEq, Int.reduceToNat]
      first | refine wpAct_callF (sm _ _) rfl rfl rfl rfl (argV_p rfl (argV_r rfl hil.symm argV_nil)) rfl rfl rfl rfl ?_ | done
      simp (maxSteps := 400000) -dsimp -implicitDefEqProofs (disch := first | exact TrueB.mk rfl | omega) only [go_sem, Nat.reduceMul, Nat.reduceAdd, Nat.reduceLT, Nat.reduceLeDiff, Nat.reducePow, Nat.reduceEqDiff, ↓reduceIte, reduceCtorEq, Int.reduceToNat]
      first | refine wpAct_call0 (t1 _) rfl rfl rfl rfl rfl rfl rfl rfl ?_ | done
      simp (maxSteps := 400000) -dsimp -implicitDefEqProofs (disch := first | exact TrueB.mk rfl | omega) only [go_sem, Nat.reduceMul, Nat.reduceAdd, Nat.reduceLT, Nat.reduceLeDiff, Nat.reducePow, Nat.reduceEqDiff, ↓reduceIte, reduceCtorEq, Int.reduceToNat]
      first | refine wpAct_call0 (t2 _) rfl rfl rfl rfl rfl rfl rfl rfl ?_ | done
      simp (maxSteps := 400000) -dsimp -implicitDefEqProofs (disch := first | exact TrueB.mk rfl | omega) only [go_sem, Nat.reduceMul, Nat.reduceAdd, Nat.reduceLT, Nat.reduceLeDiff, Nat.reducePow, Nat.reduceEqDiff, ↓reduceIte, reduceCtorEq, Int.reduceToNat, beq_same]
      first | exact end_bool rfl rfl | done
  · have hra : rightA s r = false := by unfold rightA; exact decide_eq_false hr
    rw [hra] at c1
    unfold confV autV at *
    refine Runs.of Tryd.func3 rfl (by simp [Tryd.ntmps3]) ?_
    simp (maxSteps := 400000) -dsimp -implicitDefEqProofs (disch := first | exact TrueB.mk rfl | omega) only [go_sem, Nat.reduceMul, Nat.reduceAdd, Nat.reduceLT, Nat.reduceLeDiff, Nat.reducePow, Nat.reduceEqDiff, ↓reduceIte, reduceCtorEq, Int.reduceToNat, Tryd.ntmps3]
    first | refine wpAct_call0 (awake20_any) rfl rfl rfl rfl rfl rfl rfl rfl ?_ | done
    simp (maxSteps := 400000) -dsimp -implicitDefEqProofs (disch := first | exact TrueB.mk rfl | omega) only [go_sem, Nat.reduceMul, Nat.reduceAdd, Nat.reduceLT, Nat.reduceLeDiff, Nat.reducePow, Nat.reduceEqDiff, ↓reduceIte, reduceCtorEq, Int.reduceToNat]
    first | refine wpAct_call0 (c1 _) rfl rfl rfl rfl rfl rfl rfl rfl ?_ | done
    simp (maxSteps := 400000) -dsimp -implicitDefEqProofs (disch := first | exact TrueB.mk rfl | omega) only [go_sem, Nat.reduceMul, Nat.reduceAdd, Nat.reduceLT, Nat.reduceLeDiff, Nat.reducePow, Nat.reduceEqDiff, ↓reduceIte, reduceCtorEq, Int.reduceToNat]
    first | refine wpAct_call0 (awake20_any) rfl rfl rfl rfl rfl rfl rfl rfl ?_ | done
    simp (maxSteps := 400000) -dsimp -implicitDefEqProofs (disch := first | exact TrueB.mk rfl | omega) only [go_sem, Nat.reduceMul, Nat.reduceAdd, Nat.reduceLT, Nat.reduceLeDiff, Nat.reducePow, Nat.reduceEqDiff, ↓reduceIte, reduceCtorEq, Int.reduceToNat]
    first | exact end_bool rfl rfl | done
end Go.Proofs.YtkjoolmkgpmlfaaDoor
