/- YtpgklagjjimbhaaAK: addresses: the list that tells them, by its paths. No claim. -/
import Derived.Test.YtpgklagjjimbhaaAJ
set_option linter.unusedVariables false
set_option linter.unusedSimpArgs false
set_option maxRecDepth 100000
namespace Go.Proofs.Ytpgklagjjimbhaa
open Go Go.Proofs.Ytpgklagjjimbhaa.V
theorem optB_len (b : Bool) (t : Int) (d : List UInt8) : (optB b t d).length ≤ 1 := by cases b <;> simp [optB]

set_option maxHeartbeats 16000000 in
theorem put_low {a : Adr} (h1 : ¬ 0 ≤ a.slots) (m : Bool) : putS 32801 a ([]) m := by
  have cR := fun m m' => readA_any 32801 ([]) (by simp) m m'
  unfold putS putR putOk
  generalize readA 32801 ([]) = R at *
  generalize flR 32801 ([]) = fl at *
  have hfold := adrEq_fold R.1 a
  unfold adrV at *
  refine Runs.of Try.func61 rfl (by simp [Try.ntmps61]) ?_
  simp (maxSteps := 400000) -dsimp -implicitDefEqProofs (disch := first | exact TrueB.mk rfl | omega) only [go_sem, Nat.reduceMul, Nat.reduceAdd, Nat.reduceLT, Nat.reduceLeDiff, Nat.reducePow, Nat.reduceEqDiff, ↓reduceIte, reduceCtorEq, Int.reduceToNat, Try.ntmps61]
  refine wpAct_callF (cR _ _) rfl rfl rfl rfl (argV_p rfl (argV_r rfl (optsV_length ([])).symm argV_nil)) rfl (newV_adr fl R.1 R.2) rfl rfl ?_
  cases h2 : R.2 with
  | false =>
    simp (maxSteps := 400000) -dsimp -implicitDefEqProofs (disch := first | exact TrueB.mk rfl | omega) only [go_sem, Nat.reduceMul, Nat.reduceAdd, Nat.reduceLT, Nat.reduceLeDiff, Nat.reducePow, Nat.reduceEqDiff, ↓reduceIte, reduceCtorEq, Int.reduceToNat, h2]
    first | exact end_ov (out := []) rfl rfl rfl | done
  | true =>
  cases h3 : adrEq R.1 a with
  | false =>
    simp (maxSteps := 400000) -dsimp -implicitDefEqProofs (disch := first | exact TrueB.mk rfl | omega) only [go_sem, Nat.reduceMul, Nat.reduceAdd, Nat.reduceLT, Nat.reduceLeDiff, Nat.reducePow, Nat.reduceEqDiff, ↓reduceIte, reduceCtorEq, Int.reduceToNat, h2, hfold, h3]
    first | exact end_ov (out := []) rfl rfl rfl | done
  | true =>
  simp (maxSteps := 400000) -dsimp -implicitDefEqProofs (disch := first | exact TrueB.mk rfl | omega) only [go_sem, Nat.reduceMul, Nat.reduceAdd, Nat.reduceLT, Nat.reduceLeDiff, Nat.reducePow, Nat.reduceEqDiff, ↓reduceIte, reduceCtorEq, Int.reduceToNat, h2, hfold, h3]
  first | exact end_ov (out := []) rfl rfl rfl | done

set_option maxHeartbeats 16000000 in
theorem put_high {a : Adr} (h1 : ¬ a.slots ≤ 255) (m : Bool) : putS 32801 a ([]) m := by
  have cR := fun m m' => readA_any 32801 ([]) (by simp) m m'
  unfold putS putR putOk
  generalize readA 32801 ([]) = R at *
  generalize flR 32801 ([]) = fl at *
  have hfold := adrEq_fold R.1 a
  unfold adrV at *
  have h0 : 0 ≤ a.slots := by omega
  refine Runs.of Try.func61 rfl (by simp [Try.ntmps61]) ?_
  simp (maxSteps := 400000) -dsimp -implicitDefEqProofs (disch := first | exact TrueB.mk rfl | omega) only [go_sem, Nat.reduceMul, Nat.reduceAdd, Nat.reduceLT, Nat.reduceLeDiff, Nat.reducePow, Nat.reduceEqDiff, ↓reduceIte, reduceCtorEq, Int.reduceToNat, Try.ntmps61]
  refine wpAct_callF (cR _ _) rfl rfl rfl rfl (argV_p rfl (argV_r rfl (optsV_length ([])).symm argV_nil)) rfl (newV_adr fl R.1 R.2) rfl rfl ?_
  cases h2 : R.2 with
  | false =>
    simp (maxSteps := 400000) -dsimp -implicitDefEqProofs (disch := first | exact TrueB.mk rfl | omega) only [go_sem, Nat.reduceMul, Nat.reduceAdd, Nat.reduceLT, Nat.reduceLeDiff, Nat.reducePow, Nat.reduceEqDiff, ↓reduceIte, reduceCtorEq, Int.reduceToNat, h2]
    first | exact end_ov (out := []) rfl rfl rfl | done
  | true =>
  cases h3 : adrEq R.1 a with
  | false =>
    simp (maxSteps := 400000) -dsimp -implicitDefEqProofs (disch := first | exact TrueB.mk rfl | omega) only [go_sem, Nat.reduceMul, Nat.reduceAdd, Nat.reduceLT, Nat.reduceLeDiff, Nat.reducePow, Nat.reduceEqDiff, ↓reduceIte, reduceCtorEq, Int.reduceToNat, h2, hfold, h3]
    first | exact end_ov (out := []) rfl rfl rfl | done
  | true =>
  simp (maxSteps := 400000) -dsimp -implicitDefEqProofs (disch := first | exact TrueB.mk rfl | omega) only [go_sem, Nat.reduceMul, Nat.reduceAdd, Nat.reduceLT, Nat.reduceLeDiff, Nat.reducePow, Nat.reduceEqDiff, ↓reduceIte, reduceCtorEq, Int.reduceToNat, h2, hfold, h3]
  first | exact end_ov (out := []) rfl rfl rfl | done

set_option maxHeartbeats 16000000 in
theorem put_six {a : Adr} (m : Bool) : putS 32855 a ([] ++ optB a.hasId 1 (l8 a.id)) m := by
  have cR := fun m m' => readA_any 32855 ([] ++ optB a.hasId 1 (l8 a.id)) (by have := optB_len a.hasId 1 (l8 a.id); simpa using by omega) m m'
  unfold putS putR putOk
  generalize readA 32855 ([] ++ optB a.hasId 1 (l8 a.id)) = R at *
  generalize flR 32855 ([] ++ optB a.hasId 1 (l8 a.id)) = fl at *
  have hfold := adrEq_fold R.1 a
  unfold adrV at *
  have q1 := fun m m' => put1_any a.hasId 1 (l8 a.id) [] (by simp) m m'
  unfold outS at q1
  generalize hO : [] ++ optB a.hasId 1 (l8 a.id) = O at *
  refine Runs.of Try.func61 rfl (by simp [Try.ntmps61]) ?_
  simp (maxSteps := 400000) -dsimp -implicitDefEqProofs (disch := first | exact TrueB.mk rfl | omega) only [go_sem, Nat.reduceMul, Nat.reduceAdd, Nat.reduceLT, Nat.reduceLeDiff, Nat.reducePow, Nat.reduceEqDiff, ↓reduceIte, reduceCtorEq, Int.reduceToNat, Try.ntmps61]
  refine wpAct_callS [96, 97] (q1 _ _) rfl rfl rfl rfl rfl rfl rfl rfl rfl rfl ?_
  simp (maxSteps := 400000) -dsimp -implicitDefEqProofs (disch := first | exact TrueB.mk rfl | omega) only [go_sem, Nat.reduceMul, Nat.reduceAdd, Nat.reduceLT, Nat.reduceLeDiff, Nat.reducePow, Nat.reduceEqDiff, ↓reduceIte, reduceCtorEq, Int.reduceToNat]
  refine wpAct_callF (cR _ _) rfl rfl rfl rfl (argV_p rfl (argV_r rfl (optsV_length (O)).symm argV_nil)) rfl (newV_adr fl R.1 R.2) rfl rfl ?_
  cases h2 : R.2 with
  | false =>
    simp (maxSteps := 400000) -dsimp -implicitDefEqProofs (disch := first | exact TrueB.mk rfl | omega) only [go_sem, Nat.reduceMul, Nat.reduceAdd, Nat.reduceLT, Nat.reduceLeDiff, Nat.reducePow, Nat.reduceEqDiff, ↓reduceIte, reduceCtorEq, Int.reduceToNat, h2]
    first | exact end_ov (out := []) rfl rfl rfl | done
  | true =>
  cases h3 : adrEq R.1 a with
  | false =>
    simp (maxSteps := 400000) -dsimp -implicitDefEqProofs (disch := first | exact TrueB.mk rfl | omega) only [go_sem, Nat.reduceMul, Nat.reduceAdd, Nat.reduceLT, Nat.reduceLeDiff, Nat.reducePow, Nat.reduceEqDiff, ↓reduceIte, reduceCtorEq, Int.reduceToNat, h2, hfold, h3]
    first | exact end_ov (out := []) rfl rfl rfl | done
  | true =>
  simp (maxSteps := 400000) -dsimp -implicitDefEqProofs (disch := first | exact TrueB.mk rfl | omega) only [go_sem, Nat.reduceMul, Nat.reduceAdd, Nat.reduceLT, Nat.reduceLeDiff, Nat.reducePow, Nat.reduceEqDiff, ↓reduceIte, reduceCtorEq, Int.reduceToNat, h2, hfold, h3]
  first | exact end_of rfl rfl rfl | done
end Go.Proofs.Ytpgklagjjimbhaa
