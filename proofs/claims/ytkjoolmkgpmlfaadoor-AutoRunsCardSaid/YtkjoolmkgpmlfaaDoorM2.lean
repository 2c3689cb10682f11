/- YtkjoolmkgpmlfaaDoorM2: the law AutoRuns, over the evaluator. No claim. -/
import Derived.Test.YtkjoolmkgpmlfaaDoorM
set_option linter.unusedVariables false
set_option linter.unusedSimpArgs false
set_option maxRecDepth 100000
namespace Go.Proofs.YtkjoolmkgpmlfaaDoor
open Go Go.Proofs.YtkjoolmkgpmlfaaDoor.V

set_option maxHeartbeats 32000000 in
theorem autoRuns_runs (l : List UInt8) (x y : UInt8) : Runs Tryd.prog env 4 [.pure false (.sl (bytesOf l)), .pure false (.int .u8 x.toNat), .pure false (.int .u8 y.toNat)] [] (.pure true (.bool true)) [] := by
  have c2 := fun m m' => conf_any x y m m'
  have hx : 1 ≤ 1 + ((x.toNat % 255 : Nat) : Int) ∧ 1 + ((x.toNat % 255 : Nat) : Int) ≤ 255 := by omega
  have hy : 1 ≤ 1 + ((y.toNat % 255 : Nat) : Int) ∧ 1 + ((y.toNat % 255 : Nat) : Int) ≤ 255 := by omega
  generalize 1 + ((x.toNat % 255 : Nat) : Int) = cf at *
  generalize 1 + ((y.toNat % 255 : Nat) : Int) = tm at *
  rcases Classical.em (1000 < l.length) with hl | hl
  · refine Runs.of Tryd.func4 rfl (by simp [Tryd.ntmps4]) ?_
    simp (maxSteps := 400000) -dsimp -implicitDefEqProofs (disch := first | exact TrueB.mk rfl | omega) only [go_sem, Nat.reduceMul, Nat.reduceAdd, Nat.reduceLT, Nat.reduceLeDiff, Nat.reducePow, Nat.reduceEqDiff, ↓reduceIte, reduceCtorEq, Int.reduceToNat, Tryd.ntmps4]
    first | refine wpAct_call0 (awake20_any) rfl rfl rfl rfl rfl rfl rfl rfl ?_ | done
    simp (maxSteps := 400000) -dsimp -implicitDefEqProofs (disch := first | exact TrueB.mk rfl | omega) only [go_sem, Nat.reduceMul, Nat.reduceAdd, Nat.reduceLT, Nat.reduceLeDiff, Nat.reducePow, Nat.reduceEqDiff, ↓reduceIte, reduceCtorEq, Int.reduceToNat]
    first | refine wpAct_call0 (awake20_any) rfl rfl rfl rfl rfl rfl rfl rfl ?_ | done
    simp (maxSteps := 400000) -dsimp -implicitDefEqProofs (disch := first | exact TrueB.mk rfl | omega) only [go_sem, Nat.reduceMul, Nat.reduceAdd, Nat.reduceLT, Nat.reduceLeDiff, Nat.reducePow, Nat.reduceEqDiff, ↓reduceIte, reduceCtorEq, Int.reduceToNat]
    first | exact end_bool rfl rfl | done
  · unfold confV at c2
    refine Runs.of Tryd.func4 rfl (by simp [Tryd.ntmps4]) ?_
    simp (maxSteps := 400000) -dsimp -implicitDefEqProofs (disch := first | exact TrueB.mk rfl | omega) only [go_sem, Nat.reduceMul, Nat.reduceAdd, Nat.reduceLT, Nat.reduceLeDiff, Nat.reducePow, Nat.reduceEqDiff, ↓reduceIte, reduceCtorEq, Int.reduceToNat, Tryd.ntmps4]
    first | refine wpAct_call0 (awake20_any) rfl rfl rfl rfl rfl rfl rfl rfl ?_ | done
    simp (maxSteps := 400000) -dsimp -implicitDefEqProofs (disch := first | exact TrueB.mk rfl | omega) only [go_sem, Nat.reduceMul, Nat.reduceAdd, Nat.reduceLT, Nat.reduceLeDiff, Nat.reducePow, Nat.reduceEqDiff, ↓reduceIte, reduceCtorEq, Int.reduceToNat]
    first | refine wpAct_call0 (c2 _ _) rfl rfl rfl rfl rfl rfl rfl rfl ?_ | done
    simp (maxSteps := 400000) -dsimp -implicitDefEqProofs (disch := first | exact TrueB.mk rfl | omega) only [go_sem, Nat.reduceMul, Nat.reduceAdd, Nat.reduceLT, Nat.reduceLeDiff, Nat.reducePow, Nat.reduceEqDiff, ↓reduceIte, reduceCtorEq, Int.reduceToNat]
    refine wpLoop_ind (α := Nat × Int × Int × Bool × Bool)
      (fun a => ⟨[(0, .pure false (.sl (bytesOf l))), (7, .ptr 1216 0), (8, .ptr 1217 0), (9, .ptr 1218 0), (10, .pure true (.int .i64 (a.1 : Nat)))], [(1216, .box [.pure true (.int .i64 cf), .pure true (.int .i64 tm), .pure true (.int .i64 1), .pure true (.int .i64 0), .pure true (.str []), .pure true (.str []), .pure true (.int .i64 0), .pure true (.int .u32 0), .pure true (.bool false)]), (1217, .box [.pure a.2.2.2.1 (.int .i64 a.2.1), .pure a.2.2.2.1 (.int .i64 a.2.2.1)]), (1218, .box [.pure a.2.2.2.2 (.int .i64 a.2.1), .pure a.2.2.2.2 (.int .i64 a.2.2.1)])]⟩)
      (fun a => a.1 ≤ l.length ∧ (0 ≤ a.2.1 ∧ a.2.1 ≤ 9) ∧ (0 ≤ a.2.2.1 ∧ a.2.2.1 ≤ 255)) (fun a => l.length - a.1) ?_ (0, 0, 0, true, true) ⟨by simp, by simp, by simp⟩ rfl
    rintro ⟨i, s, r, qa, qb⟩ ⟨i1, i2, i3⟩
    simp only at i1 i2 i3
    rcases Classical.em (i < l.length) with hlt | hge
    · have g1 : (bytesOf l)[i]? = some (.int .u8 (l[i].toNat : Nat)) := by simp [bytesOf, hlt]
      have hb := l[i].toNat_lt
      have w1 : IntKind.i64.wrap (l[i].toNat : Int) = (l[i].toNat : Int) := by rw [wrap_i64 (by omega) (by omega)]
      have tmd := fun m => right_any s r m
      have hra : rightA s r = true := by unfold rightA; exact decide_eq_true (by omega)
      rw [hra] at tmd
      generalize l[i].toNat = b at *
      cases ho : stepOut s ((b % 18 : Nat) : Int) r with
      | none =>
        have d1 := fun m m' m'' => stepA_no s _ r cf tm i3.1 ho m m' m''
        have d2 := fun m m' m'' => stepR_no s _ r cf tm i3.1 ho m m' m''
        unfold confV autV at *
        cases qa <;> cases qb
        all_goals
          simp (maxSteps := 400000) -dsimp -implicitDefEqProofs (disch := first | exact TrueB.mk rfl | omega) only [go_sem, Nat.reduceMul, Nat.reduceAdd, Nat.reduceLT, Nat.reduceLeDiff, Nat.reducePow, Nat.reduceEqDiff, ↓reduceIte, reduceCtorEq, Int.reduceToNat, g1, w1, tmod_nat]
          first | refine wpAct_callG (d1 _ _ _) rfl rfl rfl rfl rfl rfl rfl rfl rfl ?_ | done
          simp (maxSteps := 400000) -dsimp -implicitDefEqProofs (disch := first | exact TrueB.mk rfl | omega) only [go_sem, Nat.reduceMul, Nat.reduceAdd, Nat.reduceLT, Nat.reduceLeDiff, Nat.reducePow, Nat.reduceEqDiff, ↓reduceIte, reduceCtorEq, Int.reduceToNat, g1, w1, tmod_nat]
          first | refine wpAct_callG (d2 _ _ _) rfl rfl rfl rfl rfl rfl rfl rfl rfl ?_ | done
          simp (maxSteps := 400000) -dsimp -implicitDefEqProofs (disch := first | exact TrueB.mk rfl | omega) only [go_sem, Nat.reduceMul, Nat.reduceAdd, Nat.reduceLT, Nat.reduceLeDiff, Nat.reducePow, Nat.reduceEqDiff, ↓reduceIte, reduceCtorEq, Int.reduceToNat, beq_same]
          first | refine wpAct_call0 (tmd _) rfl rfl rfl rfl rfl rfl rfl rfl ?_ | done
          simp (maxSteps := 400000) -dsimp -implicitDefEqProofs (disch := first | exact TrueB.mk rfl | omega) only [go_sem, Nat.reduceMul, Nat.reduceAdd, Nat.reduceLT, Nat.reduceLeDiff, Nat.reducePow, Nat.reduceEqDiff, ↓reduceIte, reduceCtorEq, Int.reduceToNat]
          first
          | exact again_mk ⟨(i + 1, s, r, false, false), ⟨by omega, i2, i3⟩, by omega, rfl⟩
          | exact again_mk ⟨(i + 1, s, r, false, true), ⟨by omega, i2, i3⟩, by omega, rfl⟩
          | exact again_mk ⟨(i + 1, s, r, true, false), ⟨by omega, i2, i3⟩, by omega, rfl⟩
          | exact again_mk ⟨(i + 1, s, r, true, true), ⟨by omega, i2, i3⟩, by omega, rfl⟩
      | some p =>
        obtain ⟨n, k⟩ := p
        obtain ⟨hkl, hn⟩ := stepOut_ok ho
        have d1 := fun m m' m'' => stepA_yes s _ r cf tm hx hy i3 ho hkl m m' m''
        obtain ⟨Q, d2⟩ := stepR_yesQ s _ r cf tm hx hy i3 ho
        have hR := restA_in (l := k) hx hy i3
        have tm2 := fun m => right_any n (restA cf tm k r) m
        have hrb : rightA n (restA cf tm k r) = true := by unfold rightA; exact decide_eq_true (by omega)
        rw [hrb] at tm2
        generalize restA cf tm k r = R at *
        unfold confV autV at *
        cases qa <;> cases qb
        all_goals
          simp (maxSteps := 400000) -dsimp -implicitDefEqProofs (disch := first | exact TrueB.mk rfl | omega) only [go_sem, Nat.reduceMul, Nat.reduceAdd, Nat.reduceLT, Nat.reduceLeDiff, Nat.reducePow, Nat.reduceEqDiff, ↓reduceIte, reduceCtorEq, Int.reduceToNat, g1, w1, tmod_nat]
          first | refine wpAct_call0 (d1 _ _ _) rfl rfl rfl rfl rfl rfl rfl rfl ?_ | done
          simp (maxSteps := 400000) -dsimp -implicitDefEqProofs (disch := first | exact TrueB.mk rfl | omega) only [go_sem, Nat.reduceMul, Nat.reduceAdd, Nat.reduceLT, Nat.reduceLeDiff, Nat.reducePow, Nat.reduceEqDiff, ↓reduceIte, reduceCtorEq, Int.reduceToNat, g1, w1, tmod_nat]
          refine wpAct_callG (d2 _ _ _) rfl rfl rfl rfl rfl rfl (newQ _ _ _ _) rfl rfl ?_
          simp (maxSteps := 400000) -dsimp -implicitDefEqProofs (disch := first | exact TrueB.mk rfl | omega) only [go_sem, Nat.reduceMul, Nat.reduceAdd, Nat.reduceLT, Nat.reduceLeDiff, Nat.reducePow, Nat.reduceEqDiff, ↓reduceIte, reduceCtorEq, Int.reduceToNat, beq_same]
          first | refine wpAct_call0 (tm2 _) rfl rfl rfl rfl rfl rfl rfl rfl ?_ | done
          simp (maxSteps := 400000) -dsimp -implicitDefEqProofs (disch := first | exact TrueB.mk rfl | omega) only [go_sem, Nat.reduceMul, Nat.reduceAdd, Nat.reduceLT, Nat.reduceLeDiff, Nat.reducePow, Nat.reduceEqDiff, ↓reduceIte, reduceCtorEq, Int.reduceToNat]
          refine again_mk ⟨(i + 1, n, R, false, _), ⟨?_, ?_, ?_⟩, ?_, rfl⟩
          all_goals (simp only; omega)
    · simp (maxSteps := 400000) -dsimp -implicitDefEqProofs (disch := first | exact TrueB.mk rfl | omega) only [go_sem, Nat.reduceMul, Nat.reduceAdd, Nat.reduceLT, Nat.reduceLeDiff, Nat.reducePow, Nat.reduceEqDiff, ↓reduceIte, reduceCtorEq, Int.reduceToNat]
      first | exact end_bool rfl rfl | done
end Go.Proofs.YtkjoolmkgpmlfaaDoor
