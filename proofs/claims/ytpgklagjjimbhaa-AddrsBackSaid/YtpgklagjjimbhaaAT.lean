/- YtpgklagjjimbhaaAT: the law AddrsBack, over the evaluator. No claim. -/
import Derived.Test.YtpgklagjjimbhaaAS
import Derived.Test.YtpgklagjjimbhaaAU
import Derived.Test.YtpgklagjjimbhaaAR
set_option linter.unusedVariables false
set_option linter.unusedSimpArgs false
set_option maxRecDepth 100000
namespace Go.Proofs.Ytpgklagjjimbhaa
open Go Go.Proofs.Ytpgklagjjimbhaa.V

theorem readA_put {p : Int} {a : Adr} {o : List Opt} (h : putOk p a o = true) : readA p o = (a, true) := by
  unfold putOk at h
  rw [Bool.and_eq_true, Bool.and_eq_true] at h
  have e := (adrEq_iff _ _).1 h.1.2
  have e2 := h.1.1
  generalize readA p o = R at *
  rw [← e, ← e2]

set_option maxHeartbeats 32000000 in
theorem addrsBack_runs (p : Int) (a : Adr) (l : List Opt) : Runs Try.prog env 18 [.pure false (.int .i64 p), .pure false (adrV a), .pure false (.sl (optsV l))] [] (.pure true (.bool true)) [] := by
  have c1 := fun m => put_any p a m
  have c2 := fun h m m' => readA_any p (outP p a) h m m'
  have c3 := fun h h' m => bad_any p l h h' m
  have c4 := fun h m m' => readA_any p l h m m'
  have c5 := fun h m m' => readA_any p (mendO p l l.length ++ changedO p l l.length) h m m'
  have c6 := fun o m m' => right_any p o m m'
  have b1 := back_right p l
  have b2 := back_mended p l
  have b3 := back_within p l
  have bs := (parts_all p l l.length (Nat.le_refl _)).sum
  obtain ⟨n1, n2⟩ := away_len p l l.length
  have nl := outP_len p a
  unfold putS at c1
  refine Runs.of Try.func18 rfl (by simp [Try.ntmps18]) ?_
  unfold adrV
  simp (maxSteps := 400000) -dsimp -implicitDefEqProofs (disch := first | exact TrueB.mk rfl | omega) only [go_sem, Nat.reduceMul, Nat.reduceAdd, Nat.reduceLT, Nat.reduceLeDiff, Nat.reducePow, Nat.reduceEqDiff, ↓reduceIte, reduceCtorEq, Int.reduceToNat, Try.ntmps18]
  first | refine wpAct_call0 (awake15_any) rfl rfl rfl rfl rfl rfl rfl rfl ?_ | done
  simp (maxSteps := 400000) -dsimp -implicitDefEqProofs (disch := first | exact TrueB.mk rfl | omega) only [go_sem, Nat.reduceMul, Nat.reduceAdd, Nat.reduceLT, Nat.reduceLeDiff, Nat.reducePow, Nat.reduceEqDiff, ↓reduceIte, reduceCtorEq, Int.reduceToNat]
  first | refine wpAct_call0 (few_any l _) rfl rfl rfl rfl rfl rfl rfl rfl ?_ | done
  cases hf : few l with
  | false =>
    simp (maxSteps := 400000) -dsimp -implicitDefEqProofs (disch := first | exact TrueB.mk rfl | omega) only [go_sem, Nat.reduceMul, Nat.reduceAdd, Nat.reduceLT, Nat.reduceLeDiff, Nat.reducePow, Nat.reduceEqDiff, ↓reduceIte, reduceCtorEq, Int.reduceToNat]
    first | refine wpAct_call0 (awake15_any) rfl rfl rfl rfl rfl rfl rfl rfl ?_ | done
    simp (maxSteps := 400000) -dsimp -implicitDefEqProofs (disch := first | exact TrueB.mk rfl | omega) only [go_sem, Nat.reduceMul, Nat.reduceAdd, Nat.reduceLT, Nat.reduceLeDiff, Nat.reducePow, Nat.reduceEqDiff, ↓reduceIte, reduceCtorEq, Int.reduceToNat]
    first | exact end_bool rfl rfl | done
  | true =>
  have hl := few_len hf
  have hd : ∀ o ∈ l, o.2.length ≤ 100000 := fun o ho => by have := few_data hf o ho; omega
  simp (maxSteps := 400000) -dsimp -implicitDefEqProofs (disch := first | exact TrueB.mk rfl | omega) only [go_sem, Nat.reduceMul, Nat.reduceAdd, Nat.reduceLT, Nat.reduceLeDiff, Nat.reducePow, Nat.reduceEqDiff, ↓reduceIte, reduceCtorEq, Int.reduceToNat]
  refine wpAct_callO (c1 _) rfl rfl rfl rfl rfl rfl rfl rfl ?_
  have hz0 := zOf_or (outP p a)
  cases hok : putOk p a (outP p a)
  · have e0 : putR p a (outP p a) = [] := by unfold putR; rw [hok]; rfl
    rw [e0]
    simp (maxSteps := 400000) -dsimp -implicitDefEqProofs (disch := first | exact TrueB.mk rfl | omega) only [go_sem, Nat.reduceMul, Nat.reduceAdd, Nat.reduceLT, Nat.reduceLeDiff, Nat.reducePow, Nat.reduceEqDiff, ↓reduceIte, reduceCtorEq, Int.reduceToNat]
    refine wpAct_callRR (c3 (by omega) hd _) rfl rfl rfl rfl rfl rfl rfl rfl ?_
    simp (maxSteps := 400000) -dsimp -implicitDefEqProofs (disch := first | exact TrueB.mk rfl | omega) only [go_sem, Nat.reduceMul, Nat.reduceAdd, Nat.reduceLT, Nat.reduceLeDiff, Nat.reducePow, Nat.reduceEqDiff, ↓reduceIte, reduceCtorEq, Int.reduceToNat]
    first | refine wpAct_call0 (c4 (by omega) _ _) rfl rfl rfl rfl rfl rfl rfl rfl ?_ | done
    unfold adrV
    simp (maxSteps := 400000) -dsimp -implicitDefEqProofs (disch := first | exact TrueB.mk rfl | omega) only [go_sem, Nat.reduceMul, Nat.reduceAdd, Nat.reduceLT, Nat.reduceLeDiff, Nat.reducePow, Nat.reduceEqDiff, ↓reduceIte, reduceCtorEq, Int.reduceToNat]
    rcases Classical.em (((awayO p l l.length).length : Int) = 0) with h1 | h1
    all_goals
      rcases Classical.em (((changedO p l l.length).length : Int) = 0) with h2 | h2
    all_goals
      have b1' := b1
      simp only [h1, h2, decide_true, decide_false, Bool.and_true, Bool.and_false, Bool.and_self] at b1'
      simp (maxSteps := 400000) -dsimp -implicitDefEqProofs (disch := first | exact TrueB.mk rfl | omega) only [go_sem, Nat.reduceMul, Nat.reduceAdd, Nat.reduceLT, Nat.reduceLeDiff, Nat.reducePow, Nat.reduceEqDiff, ↓reduceIte, reduceCtorEq, Int.reduceToNat, b1', h1, h2]
      first | refine wpAct_callF (refWithin_any (awayO p l l.length) l (by omega) (by omega) _ _) rfl rfl rfl rfl (argV_r rfl (optsV_length _).symm (argV_p rfl argV_nil)) rfl rfl rfl rfl ?_ | done
      simp (maxSteps := 400000) -dsimp -implicitDefEqProofs (disch := first | exact TrueB.mk rfl | omega) only [go_sem, Nat.reduceMul, Nat.reduceAdd, Nat.reduceLT, Nat.reduceLeDiff, Nat.reducePow, Nat.reduceEqDiff, ↓reduceIte, reduceCtorEq, Int.reduceToNat, b3, h1, h2]
      refine wpLoop_ind (α := Nat)
        (fun i => ⟨[(0, .pure false (.int .i64 p)), (2, .pure false (.sl (optsV l))), (11, .row 2048 (awayO p l l.length).length), (12, .row 2049 (changedO p l l.length).length), (15, .row 2050 (mendO p l i).length), (16, .pure true (.int .i64 i))], [(2048, .row (fE (awayO p l l.length)) (zOf (awayO p l l.length)) ((awayO p l l.length).length - 1) (optsV (awayO p l l.length))), (2049, .row (fE (changedO p l l.length)) (zOf (changedO p l l.length)) ((changedO p l l.length).length - 1) (optsV (changedO p l l.length))), (2050, .row (fE (mendO p l i)) (zOf (mendO p l i)) ((mendO p l i).length - 1) (optsV (mendO p l i)))]⟩)
        (fun i => i ≤ l.length) (fun i => l.length - i) ?_ 0 (by simp) rfl
      rintro i hi
      have nm := (parts_all p l i hi).sum
      simp (maxSteps := 400000) -dsimp -implicitDefEqProofs (disch := first | exact TrueB.mk rfl | omega) only [go_sem, Nat.reduceMul, Nat.reduceAdd, Nat.reduceLT, Nat.reduceLeDiff, Nat.reducePow, Nat.reduceEqDiff, ↓reduceIte, reduceCtorEq, Int.reduceToNat]
      first | refine condK_dec (fun h3 => ?_) (fun h3 => ?_) | refine condK_ndec (fun h3 => ?_) (fun h3 => ?_) | refine condK_beq (fun h3 => ?_) (fun h3 => ?_) | refine condK_bne (fun h3 => ?_) (fun h3 => ?_) | refine condK_nbeq (fun h3 => ?_) (fun h3 => ?_) | refine guardK_dec (fun h3 => ?_) (fun h3 => ?_) | refine guardK_ndec (fun h3 => ?_) (fun h3 => ?_) | refine guardK_beq (fun h3 => ?_) (fun h3 => ?_) | refine guardK_bne (fun h3 => ?_) (fun h3 => ?_) | refine guardK_nbeq (fun h3 => ?_) (fun h3 => ?_) | refine condK_not (fun h3 => ?_) (fun h3 => ?_) | refine guardK_not (fun h3 => ?_) (fun h3 => ?_) | refine condK_bool (fun h3 => ?_) (fun h3 => ?_) | refine guardK_bool (fun h3 => ?_) (fun h3 => ?_) | done
      · have hlt : i < l.length := by omega
        have g1 := opts_at (l := l) (i := i) hlt
        have hz := zOf_or (mendO p l i)
        have c7 := fun m m' => refFind_any (l.take i) (l[i]'hlt).1 (by rw [List.length_take]; omega) m m'
        have c8 := fun m m' => c6 (l[i]'hlt) m m'
        have hM : isMend p (l.take i) (l[i]'hlt) = (rightP p (l[i]'hlt) && (findO (l.take i) (l[i]'hlt).1).isNone) := rfl
        unfold optV at c8
        simp (maxSteps := 400000) -dsimp -implicitDefEqProofs (disch := first | exact TrueB.mk rfl | omega) only [go_sem, Nat.reduceMul, Nat.reduceAdd, Nat.reduceLT, Nat.reduceLeDiff, Nat.reducePow, Nat.reduceEqDiff, ↓reduceIte, reduceCtorEq, Int.reduceToNat, g1]
        first | refine wpAct_call0 (c8 _ _) rfl rfl rfl rfl rfl rfl rfl rfl ?_ | done
        cases hr : rightP p (l[i]'hlt) with
        | false =>
          have e := mend_no hlt (mend_bad (pre := l.take i) hr)
          simp (maxSteps := 400000) -dsimp -implicitDefEqProofs (disch := first | exact TrueB.mk rfl | omega) only [go_sem, Nat.reduceMul, Nat.reduceAdd, Nat.reduceLT, Nat.reduceLeDiff, Nat.reducePow, Nat.reduceEqDiff, ↓reduceIte, reduceCtorEq, Int.reduceToNat, hr]
          refine again_mk ⟨i + 1, by omega, by omega, ?_⟩
          rw [e]
          rfl
        | true =>
          simp (maxSteps := 400000) -dsimp -implicitDefEqProofs (disch := first | exact TrueB.mk rfl | omega) only [go_sem, Nat.reduceMul, Nat.reduceAdd, Nat.reduceLT, Nat.reduceLeDiff, Nat.reducePow, Nat.reduceEqDiff, ↓reduceIte, reduceCtorEq, Int.reduceToNat, g1, optsV_take, allW_optsV, List.drop_zero, Nat.sub_zero]
          first | refine wpAct_call0 (c7 _ _) rfl rfl rfl rfl rfl rfl rfl rfl ?_ | done
          rw [hr, Bool.true_and] at hM
          cases hfi : findO (l.take i) (l[i]'hlt).1 with
          | some j =>
            have ej : idxI (some j) = (j : Int) := rfl
            rw [hfi] at hM
            have e := mend_no hlt hM
            simp (maxSteps := 400000) -dsimp -implicitDefEqProofs (disch := first | exact TrueB.mk rfl | omega) only [go_sem, Nat.reduceMul, Nat.reduceAdd, Nat.reduceLT, Nat.reduceLeDiff, Nat.reducePow, Nat.reduceEqDiff, ↓reduceIte, reduceCtorEq, Int.reduceToNat, ej]
            refine again_mk ⟨i + 1, by omega, by omega, ?_⟩
            rw [e]
            rfl
          | none =>
            have ej : idxI none = -1 := rfl
            rw [hfi] at hM
            have e := mend_yes hlt hM
            generalize mendO p l i = M at *
            simp (maxSteps := 400000) -dsimp -implicitDefEqProofs (disch := first | exact TrueB.mk rfl | omega) only [go_sem, Nat.reduceMul, Nat.reduceAdd, Nat.reduceLT, Nat.reduceLeDiff, Nat.reducePow, Nat.reduceEqDiff, ↓reduceIte, reduceCtorEq, Int.reduceToNat, ej, g1, hz, opts_snoc, allScalar]
            refine again_mk ⟨i + 1, by omega, by omega, ?_⟩
            rw [e, zOf_snoc, fE_snoc]
            simp only [List.length_append, List.length_cons, List.length_nil]
            generalize fE M = q
            cases q <;> rfl
      · obtain rfl : i = l.length := by omega
        have hz := zOf_or (mendO p l l.length)
        have hz2 := zOf_ok (changedO p l l.length)
        have nn : (mendO p l l.length ++ changedO p l l.length).length ≤ 100 := by rw [List.length_append]; omega
        have ol : optsV (mendO p l l.length) ++ optsV (changedO p l l.length) = optsV (mendO p l l.length ++ changedO p l l.length) := by simp [optsV]
        have on : (mendO p l l.length).length + (changedO p l l.length).length = (mendO p l l.length ++ changedO p l l.length).length := List.length_append.symm
        simp (maxSteps := 400000) -dsimp -implicitDefEqProofs (disch := first | exact TrueB.mk rfl | omega) only [go_sem, Nat.reduceMul, Nat.reduceAdd, Nat.reduceLT, Nat.reduceLeDiff, Nat.reducePow, Nat.reduceEqDiff, ↓reduceIte, reduceCtorEq, Int.reduceToNat, hz, hz2, ol]
        refine wpAct_callF (c5 (by omega) _ _) rfl rfl rfl rfl (argV_p rfl (argV_r rfl (by rw [optsV_length]; exact on) argV_nil)) rfl (newV_adr _ _ _) rfl rfl ?_
        unfold adrV
        simp (maxSteps := 400000) -dsimp -implicitDefEqProofs (disch := first | exact TrueB.mk rfl | omega) only [go_sem, Nat.reduceMul, Nat.reduceAdd, Nat.reduceLT, Nat.reduceLeDiff, Nat.reducePow, Nat.reduceEqDiff, ↓reduceIte, reduceCtorEq, Int.reduceToNat, b2]
        first | exact end_bool rfl rfl | done
  · have e0 : putR p a (outP p a) = outP p a := by unfold putR; rw [hok]; rfl
    rw [e0]
    rw [readA_put hok] at c2
    generalize outP p a = O at *
    simp (maxSteps := 400000) -dsimp -implicitDefEqProofs (disch := first | exact TrueB.mk rfl | omega) only [go_sem, Nat.reduceMul, Nat.reduceAdd, Nat.reduceLT, Nat.reduceLeDiff, Nat.reducePow, Nat.reduceEqDiff, ↓reduceIte, reduceCtorEq, Int.reduceToNat]
    refine wpAct_callF (c2 (by omega) _ _) rfl rfl rfl rfl (argV_p rfl (argV_r rfl (optsV_length _).symm argV_nil)) rfl (newV_adr _ _ _) rfl rfl ?_
    unfold adrV
    simp (maxSteps := 400000) -dsimp -implicitDefEqProofs (disch := first | exact TrueB.mk rfl | omega) only [go_sem, Nat.reduceMul, Nat.reduceAdd, Nat.reduceLT, Nat.reduceLeDiff, Nat.reducePow, Nat.reduceEqDiff, ↓reduceIte, reduceCtorEq, Int.reduceToNat]
    refine wpAct_callRR (c3 (by omega) hd _) rfl rfl rfl rfl rfl rfl rfl rfl ?_
    simp (maxSteps := 400000) -dsimp -implicitDefEqProofs (disch := first | exact TrueB.mk rfl | omega) only [go_sem, Nat.reduceMul, Nat.reduceAdd, Nat.reduceLT, Nat.reduceLeDiff, Nat.reducePow, Nat.reduceEqDiff, ↓reduceIte, reduceCtorEq, Int.reduceToNat]
    first | refine wpAct_call0 (c4 (by omega) _ _) rfl rfl rfl rfl rfl rfl rfl rfl ?_ | done
    unfold adrV
    simp (maxSteps := 400000) -dsimp -implicitDefEqProofs (disch := first | exact TrueB.mk rfl | omega) only [go_sem, Nat.reduceMul, Nat.reduceAdd, Nat.reduceLT, Nat.reduceLeDiff, Nat.reducePow, Nat.reduceEqDiff, ↓reduceIte, reduceCtorEq, Int.reduceToNat]
    rcases Classical.em (((awayO p l l.length).length : Int) = 0) with h1 | h1
    all_goals
      rcases Classical.em (((changedO p l l.length).length : Int) = 0) with h2 | h2
    all_goals
      have b1' := b1
      simp only [h1, h2, decide_true, decide_false, Bool.and_true, Bool.and_false, Bool.and_self] at b1'
      simp (maxSteps := 400000) -dsimp -implicitDefEqProofs (disch := first | exact TrueB.mk rfl | omega) only [go_sem, Nat.reduceMul, Nat.reduceAdd, Nat.reduceLT, Nat.reduceLeDiff, Nat.reducePow, Nat.reduceEqDiff, ↓reduceIte, reduceCtorEq, Int.reduceToNat, b1', h1, h2]
      first | refine wpAct_callF (refWithin_any (awayO p l l.length) l (by omega) (by omega) _ _) rfl rfl rfl rfl (argV_r rfl (optsV_length _).symm (argV_p rfl argV_nil)) rfl rfl rfl rfl ?_ | done
      simp (maxSteps := 400000) -dsimp -implicitDefEqProofs (disch := first | exact TrueB.mk rfl | omega) only [go_sem, Nat.reduceMul, Nat.reduceAdd, Nat.reduceLT, Nat.reduceLeDiff, Nat.reducePow, Nat.reduceEqDiff, ↓reduceIte, reduceCtorEq, Int.reduceToNat, b3, h1, h2]
      refine wpLoop_ind (α := Nat)
        (fun i => ⟨[(0, .pure false (.int .i64 p)), (2, .pure false (.sl (optsV l))), (11, .row 2048 (awayO p l l.length).length), (12, .row 2049 (changedO p l l.length).length), (15, .row 2050 (mendO p l i).length), (16, .pure true (.int .i64 i))], [(2048, .row (fE (awayO p l l.length)) (zOf (awayO p l l.length)) ((awayO p l l.length).length - 1) (optsV (awayO p l l.length))), (2049, .row (fE (changedO p l l.length)) (zOf (changedO p l l.length)) ((changedO p l l.length).length - 1) (optsV (changedO p l l.length))), (2050, .row (fE (mendO p l i)) (zOf (mendO p l i)) ((mendO p l i).length - 1) (optsV (mendO p l i)))]⟩)
        (fun i => i ≤ l.length) (fun i => l.length - i) ?_ 0 (by simp) rfl
      rintro i hi
      have nm := (parts_all p l i hi).sum
      simp (maxSteps := 400000) -dsimp -implicitDefEqProofs (disch := first | exact TrueB.mk rfl | omega) only [go_sem, Nat.reduceMul, Nat.reduceAdd, Nat.reduceLT, Nat.reduceLeDiff, Nat.reducePow, Nat.reduceEqDiff, ↓reduceIte, reduceCtorEq, Int.reduceToNat]
      first | refine condK_dec (fun h3 => ?_) (fun h3 => ?_) | refine condK_ndec (fun h3 => ?_) (fun h3 => ?_) | refine condK_beq (fun h3 => ?_) (fun h3 => ?_) | refine condK_bne (fun h3 => ?_) (fun h3 => ?_) | refine condK_nbeq (fun h3 => ?_) (fun h3 => ?_) | refine guardK_dec (fun h3 => ?_) (fun h3 => ?_) | refine guardK_ndec (fun h3 => ?_) (fun h3 => ?_) | refine guardK_beq (fun h3 => ?_) (fun h3 => ?_) | refine guardK_bne (fun h3 => ?_) (fun h3 => ?_) | refine guardK_nbeq (fun h3 => ?_) (fun h3 => ?_) | refine condK_not (fun h3 => ?_) (fun h3 => ?_) | refine guardK_not (fun h3 => ?_) (fun h3 => ?_) | refine condK_bool (fun h3 => ?_) (fun h3 => ?_) | refine guardK_bool (fun h3 => ?_) (fun h3 => ?_) | done
      · have hlt : i < l.length := by omega
        have g1 := opts_at (l := l) (i := i) hlt
        have hz := zOf_or (mendO p l i)
        have c7 := fun m m' => refFind_any (l.take i) (l[i]'hlt).1 (by rw [List.length_take]; omega) m m'
        have c8 := fun m m' => c6 (l[i]'hlt) m m'
        have hM : isMend p (l.take i) (l[i]'hlt) = (rightP p (l[i]'hlt) && (findO (l.take i) (l[i]'hlt).1).isNone) := rfl
        unfold optV at c8
        simp (maxSteps := 400000) -dsimp -implicitDefEqProofs (disch := first | exact TrueB.mk rfl | omega) only [go_sem, Nat.reduceMul, Nat.reduceAdd, Nat.reduceLT, Nat.reduceLeDiff, Nat.reducePow, Nat.reduceEqDiff, ↓reduceIte, reduceCtorEq, Int.reduceToNat, g1]
        first | refine wpAct_call0 (c8 _ _) rfl rfl rfl rfl rfl rfl rfl rfl ?_ | done
        cases hr : rightP p (l[i]'hlt) with
        | false =>
          have e := mend_no hlt (mend_bad (pre := l.take i) hr)
          simp (maxSteps := 400000) -dsimp -implicitDefEqProofs (disch := first | exact TrueB.mk rfl | omega) only [go_sem, Nat.reduceMul, Nat.reduceAdd, Nat.reduceLT, Nat.reduceLeDiff, Nat.reducePow, Nat.reduceEqDiff, ↓reduceIte, reduceCtorEq, Int.reduceToNat, hr]
          refine again_mk ⟨i + 1, by omega, by omega, ?_⟩
          rw [e]
          rfl
        | true =>
          simp (maxSteps := 400000) -dsimp -implicitDefEqProofs (disch := first | exact TrueB.mk rfl | omega) only [go_sem, Nat.reduceMul, Nat.reduceAdd, Nat.reduceLT, Nat.reduceLeDiff, Nat.reducePow, Nat.reduceEqDiff, ↓reduceIte, reduceCtorEq, Int.reduceToNat, g1, optsV_take, allW_optsV, List.drop_zero, Nat.sub_zero]
          first | refine wpAct_call0 (c7 _ _) rfl rfl rfl rfl rfl rfl rfl rfl ?_ | done
          rw [hr, Bool.true_and] at hM
          cases hfi : findO (l.take i) (l[i]'hlt).1 with
          | some j =>
            have ej : idxI (some j) = (j : Int) := rfl
            rw [hfi] at hM
            have e := mend_no hlt hM
            simp (maxSteps := 400000) -dsimp -implicitDefEqProofs (disch := first | exact TrueB.mk rfl | omega) only [go_sem, Nat.reduceMul, Nat.reduceAdd, Nat.reduceLT, Nat.reduceLeDiff, Nat.reducePow, Nat.reduceEqDiff, ↓reduceIte, reduceCtorEq, Int.reduceToNat, ej]
            refine again_mk ⟨i + 1, by omega, by omega, ?_⟩
            rw [e]
            rfl
          | none =>
            have ej : idxI none = -1 := rfl
            rw [hfi] at hM
            have e := mend_yes hlt hM
            generalize mendO p l i = M at *
            simp (maxSteps := 400000) -dsimp -implicitDefEqProofs (disch := first | exact TrueB.mk rfl | omega) only [go_sem, Nat.reduceMul, Nat.reduceAdd, Nat.reduceLT, Nat.reduceLeDiff, Nat.reducePow, Nat.reduceEqDiff, ↓reduceIte, reduceCtorEq, Int.reduceToNat, ej, g1, hz, opts_snoc, allScalar]
            refine again_mk ⟨i + 1, by omega, by omega, ?_⟩
            rw [e, zOf_snoc, fE_snoc]
            simp only [List.length_append, List.length_cons, List.length_nil]
            generalize fE M = q
            cases q <;> rfl
      · obtain rfl : i = l.length := by omega
        have hz := zOf_or (mendO p l l.length)
        have hz2 := zOf_ok (changedO p l l.length)
        have nn : (mendO p l l.length ++ changedO p l l.length).length ≤ 100 := by rw [List.length_append]; omega
        have ol : optsV (mendO p l l.length) ++ optsV (changedO p l l.length) = optsV (mendO p l l.length ++ changedO p l l.length) := by simp [optsV]
        have on : (mendO p l l.length).length + (changedO p l l.length).length = (mendO p l l.length ++ changedO p l l.length).length := List.length_append.symm
        simp (maxSteps := 400000) -dsimp -implicitDefEqProofs (disch := first | exact TrueB.mk rfl | omega) only [go_sem, Nat.reduceMul, Nat.reduceAdd, Nat.reduceLT, Nat.reduceLeDiff, Nat.reducePow, Nat.reduceEqDiff, ↓reduceIte, reduceCtorEq, Int.reduceToNat, hz, hz2, ol]
        refine wpAct_callF (c5 (by omega) _ _) rfl rfl rfl rfl (argV_p rfl (argV_r rfl (by rw [optsV_length]; exact on) argV_nil)) rfl (newV_adr _ _ _) rfl rfl ?_
        unfold adrV
        simp (maxSteps := 400000) -dsimp -implicitDefEqProofs (disch := first | exact TrueB.mk rfl | omega) only [go_sem, Nat.reduceMul, Nat.reduceAdd, Nat.reduceLT, Nat.reduceLeDiff, Nat.reducePow, Nat.reduceEqDiff, ↓reduceIte, reduceCtorEq, Int.reduceToNat, b2]
        first | exact end_bool rfl rfl | done
end Go.Proofs.Ytpgklagjjimbhaa
