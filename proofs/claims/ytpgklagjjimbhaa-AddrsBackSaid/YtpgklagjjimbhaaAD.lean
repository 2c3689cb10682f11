/- YtpgklagjjimbhaaAD: addresses: what is right; the law AddrsRights, over the evaluator. No claim. -/
import Derived.Test.YtpgklagjjimbhaaAC
import Derived.Test.YtpgklagjjimbhaaX
set_option linter.unusedVariables false
set_option linter.unusedSimpArgs false
set_option maxRecDepth 100000
namespace Go.Proofs.Ytpgklagjjimbhaa
open Go Go.Proofs.Ytpgklagjjimbhaa.V

set_option maxHeartbeats 4000000 in
theorem right_any (p : Int) (o : Opt) (m m' : Bool) : Runs Try.prog env 57 [.pure m (.int .i64 p), .pure m' (optV o)] [] (.pure true (.bool (rightP p o))) [] := by
  obtain ⟨cs, c, _, _⟩ := read_any p o (fun _ => true) zeroA (m && true) (m' && false)
  unfold optV at c ⊢
  refine Runs.of Try.func57 rfl (by simp [Try.ntmps57]) ?_
  simp (maxSteps := 400000) -dsimp -implicitDefEqProofs (disch := first | exact TrueB.mk rfl | omega) only [go_sem, Nat.reduceMul, Nat.reduceAdd, Nat.reduceLT, Nat.reduceLeDiff, Nat.reducePow, Nat.reduceEqDiff, ↓reduceIte, reduceCtorEq, Int.reduceToNat, Try.ntmps57]
  first | refine wpAct_callS [80] (c) rfl rfl rfl rfl rfl rfl rfl rfl rfl rfl ?_ | done
  simp (maxSteps := 400000) -dsimp -implicitDefEqProofs (disch := first | exact TrueB.mk rfl | omega) only [go_sem, Nat.reduceMul, Nat.reduceAdd, Nat.reduceLT, Nat.reduceLeDiff, Nat.reducePow, Nat.reduceEqDiff, ↓reduceIte, reduceCtorEq, Int.reduceToNat]
  first | exact end_bool rfl rfl | done

set_option maxHeartbeats 8000000 in
theorem addrsRights_runs (p : Int) (o : Opt) : Runs Try.prog env 14 [.pure false (.int .i64 p), .pure false (optV o)] [] (.pure true (.bool true)) [] := by
  have c1 := fun m m' => known_any p o.1 m m'
  have c2 := fun m m' => refKnown_any p o.1 m m'
  have c3 := fun m m' => right_any p o m m'
  have c4 := fun h m m' => refRight_any p o h m m'
  unfold optV at *
  generalize knownP p o.1 = k at *
  generalize rightP p o = r at *
  refine Runs.of Try.func14 rfl (by simp [Try.ntmps14]) ?_
  simp (maxSteps := 400000) -dsimp -implicitDefEqProofs (disch := first | exact TrueB.mk rfl | omega) only [go_sem, Nat.reduceMul, Nat.reduceAdd, Nat.reduceLT, Nat.reduceLeDiff, Nat.reducePow, Nat.reduceEqDiff, ↓reduceIte, reduceCtorEq, Int.reduceToNat, Try.ntmps14]
  first | refine wpAct_call0 (awake15_any) rfl rfl rfl rfl rfl rfl rfl rfl ?_ | done
  simp (maxSteps := 400000) -dsimp -implicitDefEqProofs (disch := first | exact TrueB.mk rfl | omega) only [go_sem, Nat.reduceMul, Nat.reduceAdd, Nat.reduceLT, Nat.reduceLeDiff, Nat.reducePow, Nat.reduceEqDiff, ↓reduceIte, reduceCtorEq, Int.reduceToNat]
  first | refine condK_dec (fun hb => ?_) (fun hb => ?_) | refine condK_ndec (fun hb => ?_) (fun hb => ?_) | refine condK_beq (fun hb => ?_) (fun hb => ?_) | refine condK_bne (fun hb => ?_) (fun hb => ?_) | refine condK_nbeq (fun hb => ?_) (fun hb => ?_) | refine guardK_dec (fun hb => ?_) (fun hb => ?_) | refine guardK_ndec (fun hb => ?_) (fun hb => ?_) | refine guardK_beq (fun hb => ?_) (fun hb => ?_) | refine guardK_bne (fun hb => ?_) (fun hb => ?_) | refine guardK_nbeq (fun hb => ?_) (fun hb => ?_) | refine condK_not (fun hb => ?_) (fun hb => ?_) | refine guardK_not (fun hb => ?_) (fun hb => ?_) | refine condK_bool (fun hb => ?_) (fun hb => ?_) | refine guardK_bool (fun hb => ?_) (fun hb => ?_) | done
  · simp (maxSteps := 400000) -dsimp -implicitDefEqProofs (disch := first | exact TrueB.mk rfl | omega) only [go_sem, Nat.reduceMul, Nat.reduceAdd, Nat.reduceLT, Nat.reduceLeDiff, Nat.reducePow, Nat.reduceEqDiff, ↓reduceIte, reduceCtorEq, Int.reduceToNat]
    first | refine wpAct_call0 (awake15_any) rfl rfl rfl rfl rfl rfl rfl rfl ?_ | done
    simp (maxSteps := 400000) -dsimp -implicitDefEqProofs (disch := first | exact TrueB.mk rfl | omega) only [go_sem, Nat.reduceMul, Nat.reduceAdd, Nat.reduceLT, Nat.reduceLeDiff, Nat.reducePow, Nat.reduceEqDiff, ↓reduceIte, reduceCtorEq, Int.reduceToNat]
    first | exact end_bool rfl rfl | done
  simp (maxSteps := 400000) -dsimp -implicitDefEqProofs (disch := first | exact TrueB.mk rfl | omega) only [go_sem, Nat.reduceMul, Nat.reduceAdd, Nat.reduceLT, Nat.reduceLeDiff, Nat.reducePow, Nat.reduceEqDiff, ↓reduceIte, reduceCtorEq, Int.reduceToNat]
  first | refine wpAct_call0 (c1 _ _) rfl rfl rfl rfl rfl rfl rfl rfl ?_ | done
  simp (maxSteps := 400000) -dsimp -implicitDefEqProofs (disch := first | exact TrueB.mk rfl | omega) only [go_sem, Nat.reduceMul, Nat.reduceAdd, Nat.reduceLT, Nat.reduceLeDiff, Nat.reducePow, Nat.reduceEqDiff, ↓reduceIte, reduceCtorEq, Int.reduceToNat]
  first | refine wpAct_call0 (c2 _ _) rfl rfl rfl rfl rfl rfl rfl rfl ?_ | done
  simp (maxSteps := 400000) -dsimp -implicitDefEqProofs (disch := first | exact TrueB.mk rfl | omega) only [go_sem, Nat.reduceMul, Nat.reduceAdd, Nat.reduceLT, Nat.reduceLeDiff, Nat.reducePow, Nat.reduceEqDiff, ↓reduceIte, reduceCtorEq, Int.reduceToNat, beq_same]
  first | refine wpAct_call0 (c3 _ _) rfl rfl rfl rfl rfl rfl rfl rfl ?_ | done
  simp (maxSteps := 400000) -dsimp -implicitDefEqProofs (disch := first | exact TrueB.mk rfl | omega) only [go_sem, Nat.reduceMul, Nat.reduceAdd, Nat.reduceLT, Nat.reduceLeDiff, Nat.reducePow, Nat.reduceEqDiff, ↓reduceIte, reduceCtorEq, Int.reduceToNat]
  first | refine wpAct_call0 (c4 (by omega) _ _) rfl rfl rfl rfl rfl rfl rfl rfl ?_ | done
  simp (maxSteps := 400000) -dsimp -implicitDefEqProofs (disch := first | exact TrueB.mk rfl | omega) only [go_sem, Nat.reduceMul, Nat.reduceAdd, Nat.reduceLT, Nat.reduceLeDiff, Nat.reducePow, Nat.reduceEqDiff, ↓reduceIte, reduceCtorEq, Int.reduceToNat]
  first | exact end_bool rfl (by simp) | done
end Go.Proofs.Ytpgklagjjimbhaa
