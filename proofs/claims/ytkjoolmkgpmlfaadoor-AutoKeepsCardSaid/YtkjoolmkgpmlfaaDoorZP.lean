/- YtkjoolmkgpmlfaaDoorZP: the law AutoKeeps, over the evaluator. No claim. -/
import Derived.Test.YtkjoolmkgpmlfaaDoorZK2
set_option linter.unusedVariables false
set_option linter.unusedSimpArgs false
set_option maxRecDepth 100000
namespace Go.Proofs.YtkjoolmkgpmlfaaDoorZ
open Go Go.Proofs.YtkjoolmkgpmlfaaDoorZ.V

set_option maxHeartbeats 4000000 in
theorem same_any (l : List Nat) (hl : l.length ≤ 1000) (m m' : Bool) : Runs Tryd.prog env 11 [.pure m (.sl (intsOf l)), .pure m' (.sl (intsOf l))] [] (.pure true (.bool true)) [] := by
  have hil := intsOf_length l
  refine Runs.of Tryd.func11 rfl (by simp [Tryd.ntmps11]) ?_
  simp (maxSteps := 400000) -dsimp -implicitDefEqProofs (disch := first | exact TrueB.mk rfl | omega) only [go_sem, Nat.reduceMul, Nat.reduceAdd, Nat.reduceLT, Nat.reduceLeDiff, Nat.reducePow, Nat.reduceEqDiff, ↓reduceIte, reduceCtorEq, Int.reduceToNat, Tryd.ntmps11, hil]
  refine wpLoop_ind (α := Nat)
    (fun i => ⟨[(0, .pure m (.sl (intsOf l))), (1, .pure m' (.sl (intsOf l))), (5, .pure true (.int .i64 i))], []⟩)
    (fun i => i ≤ l.length) (fun i => l.length - i) ?_ 0 (by omega) rfl
  rintro i hi
  rcases Classical.em (i < l.length) with h1 | h1
  · have g1 := ints_at h1
    simp (maxSteps := 400000) -dsimp -implicitDefEqProofs (disch := first | exact TrueB.mk rfl | omega) only [go_sem, Nat.reduceMul, Nat.reduceAdd, Nat.reduceLT, Nat.reduceLeDiff, Nat.reducePow, Nat.reduceEqDiff, ↓reduceIte, reduceCtorEq, Int.reduceToNat, g1, hil]
    first | exact again_mk ⟨i + 1, by omega, by omega, rfl⟩ | done
  · simp (maxSteps := 400000) -dsimp -implicitDefEqProofs (disch := first | exact TrueB.mk rfl | omega) only [go_sem, Nat.reduceMul, Nat.reduceAdd, Nat.reduceLT, Nat.reduceLeDiff, Nat.reducePow, Nat.reduceEqDiff, ↓reduceIte, reduceCtorEq, Int.reduceToNat, hil]
    first | exact end_bool rfl rfl | done

theorem ints_set {l : List Nat} {i : Nat} : (intsOf l).set i (.int .i64 99) = intsOf (l.set i 99) := by
  unfold intsOf
  rw [List.map_set]
  rfl

theorem stepOut_ok {s e r : Int} {n : Nat} {l : List Nat} (h : stepOut s e r = some (n, l)) : l.length ≤ 100 ∧ n ≤ 9 := by
  unfold stepOut at h
  cases hc : cellI s e with
  | none => rw [hc] at h; cases h
  | some p =>
    rw [hc] at h
    simp only at h
    split at h
    · cases h
    · cases h
      exact (cell_ok hc).2

theorem newQ (q : Bool) (a b : Int) (n : Nat) : newV (.tuple [.pure q (.agg [.int .i64 a, .int .i64 b]), .row 0 n, .pure true (.bool true)]) = true := by cases q <;> rfl

theorem stepR_yesQ (s e r cf tm : Int) (h1 : 1 ≤ cf ∧ cf ≤ 255) (h2 : 1 ≤ tm ∧ tm ≤ 255) (h3 : 0 ≤ r ∧ r ≤ 255) {n : Nat} {l : List Nat} (h : stepOut s e r = some (n, l)) :
    ∃ Q : Bool → Bool → Bool → Bool, ∀ mc m m' : Bool, Runs Tryd.prog env 10 [.pure mc (confV cf tm 1), .pure m (autV s r), .pure m' (.int .i64 e)] [] (.tuple [.pure (Q mc m m') (autV n (restA cf tm l r)), .row 0 l.length, .pure true (.bool true)]) [(0, .row true (zOf l) 0 (intsOf l))] :=
  ⟨fun mc m m' => Classical.choose (stepR_yes s e r cf tm h1 h2 h3 h mc m m'), fun mc m m' => Classical.choose_spec (stepR_yes s e r cf tm h1 h2 h3 h mc m m')⟩

set_option maxHeartbeats 32000000 in
theorem autoKeeps_runs (s r e : Int) : Runs Tryd.prog env 5 [.pure false (autV s r), .pure false (.int .i64 e)] [] (.pure true (.bool true)) [] := by
  have c1 := fun m => refRight_any s r m
  have c2 := fun m m' => conf_any 1 1 m m'
  rw [show (1 + (((1 : UInt8).toNat % 255 : Nat) : Int)) = 2 from rfl] at c2
  have hx : 1 ≤ (2 : Int) ∧ (2 : Int) ≤ 255 := by omega
  rcases Classical.em (0 ≤ s ∧ s ≤ 9 ∧ 0 ≤ r ∧ r ≤ 255) with hr | hr
  · have hra : rightA s r = true := by unfold rightA; exact decide_eq_true hr
    rw [hra] at c1
    cases ho : stepOut s e r with
    | none =>
      have d1 := stepZ_no s e r 2 2 hr.2.2.1 ho
      have d2 := fun m m' m'' => stepR_no s e r 2 2 hr.2.2.1 ho m m' m''
      have sm := fun m m' => same_any [] (by simp) m m'
      unfold confV autV at *
      refine Runs.of Tryd.func5 rfl (by simp [Tryd.ntmps5]) ?_
      simp (maxSteps := 400000) -dsimp -implicitDefEqProofs (disch := first | exact TrueB.mk rfl | omega) only [go_sem, Nat.reduceMul, Nat.reduceAdd, Nat.reduceLT, Nat.reduceLeDiff, Nat.reducePow, Nat.reduceEqDiff, ↓reduceIte, reduceCtorEq, Int.reduceToNat, Tryd.ntmps5]
      first | refine wpAct_call0 (awake20_any) rfl rfl rfl rfl rfl rfl rfl rfl ?_ | done
      simp (maxSteps := 400000) -dsimp -implicitDefEqProofs (disch := first | exact TrueB.mk rfl | omega) only [go_sem, Nat.reduceMul, Nat.reduceAdd, Nat.reduceLT, Nat.reduceLeDiff, Nat.reducePow, Nat.reduceEqDiff, ↓reduceIte, reduceCtorEq, Int.reduceToNat]
      first | refine wpAct_call0 (c1 _) rfl rfl rfl rfl rfl rfl rfl rfl ?_ | done
      simp (maxSteps := 400000) -dsimp -implicitDefEqProofs (disch := first | exact TrueB.mk rfl | omega) only [go_sem, Nat.reduceMul, Nat.reduceAdd, Nat.reduceLT, Nat.reduceLeDiff, Nat.reducePow, Nat.reduceEqDiff, ↓reduceIte, reduceCtorEq, Int.reduceToNat]
      first | refine wpAct_call0 (c2 _ _) rfl rfl rfl rfl rfl rfl rfl rfl ?_ | done
      simp (maxSteps := 400000) -dsimp -implicitDefEqProofs (disch := first | exact TrueB.mk rfl | omega) only [go_sem, Nat.reduceMul, Nat.reduceAdd, Nat.reduceLT, Nat.reduceLeDiff, Nat.reducePow, Nat.reduceEqDiff, ↓reduceIte, reduceCtorEq, Int.reduceToNat]
      first | refine wpAct_callG (d1) rfl rfl rfl rfl rfl rfl rfl rfl rfl ?_ | done
      simp (maxSteps := 400000) -dsimp -implicitDefEqProofs (disch := first | exact TrueB.mk rfl | omega) only [go_sem, Nat.reduceMul, Nat.reduceAdd, Nat.reduceLT, Nat.reduceLeDiff, Nat.reducePow, Nat.reduceEqDiff, ↓reduceIte, reduceCtorEq, Int.reduceToNat]
      refine wpLoop_ind (α := Nat)
        (fun a => ⟨[(1, .pure false (.int .i64 e)), (2, .ptr 976 0), (5, .ptr 977 0), (7, .row 978 0), (9, .pure true (.int .i64 0))], [(976, .box [.pure false (.int .i64 s), .pure false (.int .i64 r)]), (977, .box [.pure true (.int .i64 2), .pure true (.int .i64 2), .pure true (.int .i64 1), .pure true (.int .i64 0), .pure true (.str []), .pure true (.str []), .pure true (.int .i64 0), .pure true (.int .u32 0), .pure true (.bool false)]), (978, .row true 0 0 [])]⟩)
        (fun _ => True) (fun _ => 0) ?_ 0 trivial rfl
      rintro i -
      simp (maxSteps := 400000) -dsimp -implicitDefEqProofs (disch := first | exact TrueB.mk rfl | omega) only [go_sem, Nat.reduceMul, Nat.reduceAdd, Nat.reduceLT, Nat.reduceLeDiff, Nat.reducePow, Nat.reduceEqDiff, ↓reduceIte, reduceCtorEq, Int.reduceToNat]
      first | refine wpAct_callG (d1) rfl rfl rfl rfl rfl rfl rfl rfl rfl ?_ | done
      simp (maxSteps := 400000) -dsimp -implicitDefEqProofs (disch := first | exact TrueB.mk rfl | omega) only [go_sem, Nat.reduceMul, Nat.reduceAdd, Nat.reduceLT, Nat.reduceLeDiff, Nat.reducePow, Nat.reduceEqDiff, ↓reduceIte, reduceCtorEq, Int.reduceToNat]
      first | refine wpAct_callG (d2 _ _ _) rfl rfl rfl rfl rfl rfl rfl rfl rfl ?_ | done
      simp (maxSteps := 400000) -dsimp -implicitDefEqProofs (disch := first | exact TrueB.mk rfl | omega) only [go_sem, Nat.reduceMul, Nat.reduceAdd, Nat.reduceLT, Nat.reduceLeDiff, Nat.reducePow, Nat.reduceEqDiff, ↓reduceIte, reduceCtorEq, Int.reduceToNat]
      first | refine wpAct_callF (sm _ _) rfl rfl rfl rfl (argV_r rfl rfl (argV_r rfl rfl argV_nil)) rfl rfl rfl rfl ?_ | done
      simp (maxSteps := 400000) -dsimp -implicitDefEqProofs (disch := first | exact TrueB.mk rfl | omega) only [go_sem, Nat.reduceMul, Nat.reduceAdd, Nat.reduceLT, Nat.reduceLeDiff, Nat.reducePow, Nat.reduceEqDiff, ↓reduceIte, reduceCtorEq, Int.reduceToNat]
      first | exact end_bool rfl rfl | done
    | some p =>
      obtain ⟨n, l⟩ := p
      obtain ⟨hl, hn⟩ := stepOut_ok ho
      obtain ⟨Q, d2⟩ := stepR_yesQ s e r 2 2 hx hx hr.2.2 ho
      have sm := fun m m' => same_any l (by omega) m m'
      have hil := intsOf_length l
      rcases Nat.eq_zero_or_pos l.length with hz | hpos
      · obtain rfl : l = [] := List.eq_nil_of_length_eq_zero hz
        have d1 := stepZ_empty s e r 2 2 hr.2.2 ho
        generalize restA 2 2 [] r = R at *
        unfold confV autV at *
        refine Runs.of Tryd.func5 rfl (by simp [Tryd.ntmps5]) ?_
        simp (maxSteps := 400000) -dsimp -implicitDefEqProofs (disch := first | exact TrueB.mk rfl | omega) only [go_sem, Nat.reduceMul, Nat.reduceAdd, Nat.reduceLT, Nat.reduceLeDiff, Nat.reducePow, Nat.reduceEqDiff, ↓reduceIte, reduceCtorEq, Int.reduceToNat, Tryd.ntmps5]
        first | refine wpAct_call0 (awake20_any) rfl rfl rfl rfl rfl rfl rfl rfl ?_ | done
        simp (maxSteps := 400000) -dsimp -implicitDefEqProofs (disch := first | exact TrueB.mk rfl | omega) only [go_sem, Nat.reduceMul, Nat.reduceAdd, Nat.reduceLT, Nat.reduceLeDiff, Nat.reducePow, Nat.reduceEqDiff, ↓reduceIte, reduceCtorEq, Int.reduceToNat]
        first | refine wpAct_call0 (c1 _) rfl rfl rfl rfl rfl rfl rfl rfl ?_ | done
        simp (maxSteps := 400000) -dsimp -implicitDefEqProofs (disch := first | exact TrueB.mk rfl | omega) only [go_sem, Nat.reduceMul, Nat.reduceAdd, Nat.reduceLT, Nat.reduceLeDiff, Nat.reducePow, Nat.reduceEqDiff, ↓reduceIte, reduceCtorEq, Int.reduceToNat]
        first | refine wpAct_call0 (c2 _ _) rfl rfl rfl rfl rfl rfl rfl rfl ?_ | done
        simp (maxSteps := 400000) -dsimp -implicitDefEqProofs (disch := first | exact TrueB.mk rfl | omega) only [go_sem, Nat.reduceMul, Nat.reduceAdd, Nat.reduceLT, Nat.reduceLeDiff, Nat.reducePow, Nat.reduceEqDiff, ↓reduceIte, reduceCtorEq, Int.reduceToNat]
        first | refine wpAct_call0 (d1) rfl rfl rfl rfl rfl rfl rfl rfl ?_ | done
        simp (maxSteps := 400000) -dsimp -implicitDefEqProofs (disch := first | exact TrueB.mk rfl | omega) only [go_sem, Nat.reduceMul, Nat.reduceAdd, Nat.reduceLT, Nat.reduceLeDiff, Nat.reducePow, Nat.reduceEqDiff, ↓reduceIte, reduceCtorEq, Int.reduceToNat]
        refine wpLoop_ind (α := Nat)
          (fun a => ⟨[(1, .pure false (.int .i64 e)), (2, .ptr 976 0), (5, .ptr 977 0), (7, .pure false (.sl [])), (9, .pure true (.int .i64 0))], [(976, .box [.pure false (.int .i64 s), .pure false (.int .i64 r)]), (977, .box [.pure true (.int .i64 2), .pure true (.int .i64 2), .pure true (.int .i64 1), .pure true (.int .i64 0), .pure true (.str []), .pure true (.str []), .pure true (.int .i64 0), .pure true (.int .u32 0), .pure true (.bool false)])]⟩)
          (fun _ => True) (fun _ => 0) ?_ 0 trivial rfl
        rintro i -
        simp (maxSteps := 400000) -dsimp -implicitDefEqProofs (disch := first | exact TrueB.mk rfl | omega) only [go_sem, Nat.reduceMul, Nat.reduceAdd, Nat.reduceLT, Nat.reduceLeDiff, Nat.reducePow, Nat.reduceEqDiff, ↓reduceIte, reduceCtorEq, Int.reduceToNat]
        first | refine wpAct_call0 (d1) rfl rfl rfl rfl rfl rfl rfl rfl ?_ | done
        simp (maxSteps := 400000) -dsimp -implicitDefEqProofs (disch := first | exact TrueB.mk rfl | omega) only [go_sem, Nat.reduceMul, Nat.reduceAdd, Nat.reduceLT, Nat.reduceLeDiff, Nat.reducePow, Nat.reduceEqDiff, ↓reduceIte, reduceCtorEq, Int.reduceToNat]
        refine wpAct_callG (d2 _ _ _) rfl rfl rfl rfl rfl rfl (newQ _ _ _ _) rfl rfl ?_
        simp (maxSteps := 400000) -dsimp -implicitDefEqProofs (disch := first | exact TrueB.mk rfl | omega) only [go_sem, Nat.reduceMul, Nat.reduceAdd, Nat.reduceLT, Nat.reduceLeDiff, Nat.reducePow, Nat.reduceEqDiff, ↓reduceIte, reduceCtorEq, Int.reduceToNat]
        first | refine wpAct_callF (sm _ _) rfl rfl rfl rfl (argV_p rfl (argV_r rfl rfl argV_nil)) rfl rfl rfl rfl ?_ | done
        simp (maxSteps := 400000) -dsimp -implicitDefEqProofs (disch := first | exact TrueB.mk rfl | omega) only [go_sem, Nat.reduceMul, Nat.reduceAdd, Nat.reduceLT, Nat.reduceLeDiff, Nat.reducePow, Nat.reduceEqDiff, ↓reduceIte, reduceCtorEq, Int.reduceToNat]
        first | exact end_bool rfl rfl | done
      · obtain ⟨q, x, d1⟩ := stepZ_yes s e r 2 2 hx hx hr.2.2 ho hl hpos
        generalize restA 2 2 l r = R at *
        unfold confV autV at *
        refine Runs.of Tryd.func5 rfl (by simp [Tryd.ntmps5]) ?_
        simp (maxSteps := 400000) -dsimp -implicitDefEqProofs (disch := first | exact TrueB.mk rfl | omega) only [go_sem, Nat.reduceMul, Nat.reduceAdd, Nat.reduceLT, Nat.reduceLeDiff, Nat.reducePow, Nat.reduceEqDiff, ↓reduceIte, reduceCtorEq, Int.reduceToNat, Tryd.ntmps5]
        first | refine wpAct_call0 (awake20_any) rfl rfl rfl rfl rfl rfl rfl rfl ?_ | done
        simp (maxSteps := 400000) -dsimp -implicitDefEqProofs (disch := first | exact TrueB.mk rfl | omega) only [go_sem, Nat.reduceMul, Nat.reduceAdd, Nat.reduceLT, Nat.reduceLeDiff, Nat.reducePow, Nat.reduceEqDiff, ↓reduceIte, reduceCtorEq, Int.reduceToNat]
        first | refine wpAct_call0 (c1 _) rfl rfl rfl rfl rfl rfl rfl rfl ?_ | done
        simp (maxSteps := 400000) -dsimp -implicitDefEqProofs (disch := first | exact TrueB.mk rfl | omega) only [go_sem, Nat.reduceMul, Nat.reduceAdd, Nat.reduceLT, Nat.reduceLeDiff, Nat.reducePow, Nat.reduceEqDiff, ↓reduceIte, reduceCtorEq, Int.reduceToNat]
        first | refine wpAct_call0 (c2 _ _) rfl rfl rfl rfl rfl rfl rfl rfl ?_ | done
        simp (maxSteps := 400000) -dsimp -implicitDefEqProofs (disch := first | exact TrueB.mk rfl | omega) only [go_sem, Nat.reduceMul, Nat.reduceAdd, Nat.reduceLT, Nat.reduceLeDiff, Nat.reducePow, Nat.reduceEqDiff, ↓reduceIte, reduceCtorEq, Int.reduceToNat]
        refine wpAct_callG d1 rfl rfl rfl rfl rfl rfl (newQ _ _ _ _) rfl rfl ?_
        simp (maxSteps := 400000) -dsimp -implicitDefEqProofs (disch := first | exact TrueB.mk rfl | omega) only [go_sem, Nat.reduceMul, Nat.reduceAdd, Nat.reduceLT, Nat.reduceLeDiff, Nat.reducePow, Nat.reduceEqDiff, ↓reduceIte, reduceCtorEq, Int.reduceToNat]
        refine wpLoop_ind (α := Nat × List Nat)
          (fun a => ⟨[(1, .pure false (.int .i64 e)), (2, .ptr 976 0), (5, .ptr 977 0), (7, .row 978 l.length), (9, .pure true (.int .i64 (a.1 : Nat)))], [(976, .box [.pure false (.int .i64 s), .pure false (.int .i64 r)]), (977, .box [.pure true (.int .i64 2), .pure true (.int .i64 2), .pure true (.int .i64 1), .pure true (.int .i64 0), .pure true (.str []), .pure true (.str []), .pure true (.int .i64 0), .pure true (.int .u32 0), .pure true (.bool false)]), (978, .row true 1 0 (intsOf a.2))]⟩)
          (fun a => a.1 ≤ l.length ∧ a.2.length = l.length) (fun a => l.length - a.1) ?_ (0, l) ⟨by simp, rfl⟩ rfl
        rintro ⟨i, l2⟩ ⟨i1, i2⟩
        simp only at i1 i2
        rcases Classical.em (i < l.length) with h1 | h1
        · have g1 := ints_at (l := l2) (i := i) (by omega)
          have g2 := intsOf_length l2
          have g3 := ints_set (l := l2) (i := i)
          simp (maxSteps := 400000) -dsimp -implicitDefEqProofs (disch := first | exact TrueB.mk rfl | omega) only [go_sem, Nat.reduceMul, Nat.reduceAdd, Nat.reduceLT, Nat.reduceLeDiff, Nat.reducePow, Nat.reduceEqDiff, ↓reduceIte, reduceCtorEq, Int.reduceToNat, g1, g2, g3, i2]
          exact again_mk ⟨(i + 1, l2.set i 99), ⟨by simp only; omega, by simp [i2]⟩, by simp only; omega, rfl⟩
        · simp (maxSteps := 400000) -dsimp -implicitDefEqProofs (disch := first | exact TrueB.mk rfl | omega) only [go_sem, Nat.reduceMul, Nat.reduceAdd, Nat.reduceLT, Nat.reduceLeDiff, Nat.reducePow, Nat.reduceEqDiff, ↓reduceIte, reduceCtorEq, Int.reduceToNat]
          refine wpAct_callG d1 rfl rfl rfl rfl rfl rfl (newQ _ _ _ _) rfl rfl ?_
          simp (maxSteps := 400000) -dsimp -implicitDefEqProofs (disch := first | exact TrueB.mk rfl | omega) only [go_sem, Nat.reduceMul, Nat.reduceAdd, Nat.reduceLT, Nat.reduceLeDiff, Nat.reducePow, Nat.reduceEqDiff, ↓reduceIte, reduceCtorEq, Int.reduceToNat]
          refine wpAct_callG (d2 _ _ _) rfl rfl rfl rfl rfl rfl (newQ _ _ _ _) rfl rfl ?_
          simp (maxSteps := 400000) -dsimp -implicitDefEqProofs (disch := first | exact TrueB.mk rfl | omega) only [go_sem, Nat.reduceMul, Nat.reduceAdd, Nat.reduceLT, Nat.reduceLeDiff, Nat.reducePow, Nat.reduceEqDiff, ↓reduceIte, reduceCtorEq, Int.reduceToNat]
          first | refine wpAct_callF (sm _ _) rfl rfl rfl rfl (argV_r rfl hil.symm (argV_r rfl hil.symm argV_nil)) rfl rfl rfl rfl ?_ | done
          simp (maxSteps := 400000) -dsimp -implicitDefEqProofs (disch := first | exact TrueB.mk rfl | omega) only [go_sem, Nat.reduceMul, Nat.reduceAdd, Nat.reduceLT, Nat.reduceLeDiff, Nat.reducePow, Nat.reduceEqDiff, ↓reduceIte, reduceCtorEq, Int.reduceToNat]
          first | exact end_bool rfl rfl | done
  · have hra : rightA s r = false := by unfold rightA; exact decide_eq_false hr
    rw [hra] at c1
    unfold confV autV at *
    refine Runs.of Tryd.func5 rfl (by simp [Tryd.ntmps5]) ?_
    simp (maxSteps := 400000) -dsimp -implicitDefEqProofs (disch := first | exact TrueB.mk rfl | omega) only [go_sem, Nat.reduceMul, Nat.reduceAdd, Nat.reduceLT, Nat.reduceLeDiff, Nat.reducePow, Nat.reduceEqDiff, ↓reduceIte, reduceCtorEq, Int.reduceToNat, Tryd.ntmps5]
    first | refine wpAct_call0 (awake20_any) rfl rfl rfl rfl rfl rfl rfl rfl ?_ | done
    simp (maxSteps := 400000) -dsimp -implicitDefEqProofs (disch := first | exact TrueB.mk rfl | omega) only [go_sem, Nat.reduceMul, Nat.reduceAdd, Nat.reduceLT, Nat.reduceLeDiff, Nat.reducePow, Nat.reduceEqDiff, ↓reduceIte, reduceCtorEq, Int.reduceToNat]
    first | refine wpAct_call0 (c1 _) rfl rfl rfl rfl rfl rfl rfl rfl ?_ | done
    simp (maxSteps := 400000) -dsimp -implicitDefEqProofs (disch := first | exact TrueB.mk rfl | omega) only [go_sem, Nat.reduceMul, Nat.reduceAdd, Nat.reduceLT, Nat.reduceLeDiff, Nat.reducePow, Nat.reduceEqDiff, ↓reduceIte, reduceCtorEq, Int.reduceToNat]
    first | refine wpAct_call0 (awake20_any) rfl rfl rfl rfl rfl rfl rfl rfl ?_ | done
    simp (maxSteps := 400000) -dsimp -implicitDefEqProofs (disch := first | exact TrueB.mk rfl | omega) only [go_sem, Nat.reduceMul, Nat.reduceAdd, Nat.reduceLT, Nat.reduceLeDiff, Nat.reducePow, Nat.reduceEqDiff, ↓reduceIte, reduceCtorEq, Int.reduceToNat]
    first | exact end_bool rfl rfl | done
end Go.Proofs.YtkjoolmkgpmlfaaDoorZ
