/- YtpgklagjjimbhaaAI: addresses: what is bad, by the document; the law AddrsBad over the evaluator. No claim. -/
import Derived.Test.YtpgklagjjimbhaaAH
set_option linter.unusedVariables false
set_option linter.unusedSimpArgs false
set_option maxRecDepth 100000
namespace Go.Proofs.Ytpgklagjjimbhaa
open Go Go.Proofs.Ytpgklagjjimbhaa.V

set_option maxHeartbeats 16000000 in
theorem refBad_any (p : Int) (l : List Opt) (hl : l.length ≤ 100000) (hd : ∀ o ∈ l, o.2.length ≤ 100000) (m : Bool) : Runs Try.prog env 65 [.pure m (.int .i64 p), .pure false (.sl (optsV l))] []
    (.tuple [.row 0 (awayO p l l.length).length, .row 1 (changedO p l l.length).length]) [(0, .row (fE (awayO p l l.length)) (zOf (awayO p l l.length)) ((awayO p l l.length).length - 1) (optsV (awayO p l l.length))), (1, .row (fE (changedO p l l.length)) (zOf (changedO p l l.length)) ((changedO p l l.length).length - 1) (optsV (changedO p l l.length)))] := by
  refine Runs.of Try.func65 rfl (by simp [Try.ntmps65]) ?_
  simp (maxSteps := 400000) -dsimp -implicitDefEqProofs (disch := first | exact TrueB.mk rfl | omega) only [go_sem, Nat.reduceMul, Nat.reduceAdd, Nat.reduceLT, Nat.reduceLeDiff, Nat.reducePow, Nat.reduceEqDiff, ↓reduceIte, reduceCtorEq, Int.reduceToNat, Try.ntmps65]
  refine wpLoop_ind (α := Nat)
    (fun i => ⟨[(0, .pure m (.int .i64 p)), (1, .pure false (.sl (optsV l))), (6, .row 960 (awayO p l i).length), (7, .row 961 (changedO p l i).length), (8, .pure true (.int .i64 i))], [(960, .row (fE (awayO p l i)) (zOf (awayO p l i)) ((awayO p l i).length - 1) (optsV (awayO p l i))), (961, .row (fE (changedO p l i)) (zOf (changedO p l i)) ((changedO p l i).length - 1) (optsV (changedO p l i)))]⟩)
    (fun i => i ≤ l.length) (fun i => l.length - i) ?_ 0 (by simp) rfl
  rintro i hi
  obtain ⟨n1, n2⟩ := away_len p l i
  simp (maxSteps := 400000) -dsimp -implicitDefEqProofs (disch := first | exact TrueB.mk rfl | omega) only [go_sem, Nat.reduceMul, Nat.reduceAdd, Nat.reduceLT, Nat.reduceLeDiff, Nat.reducePow, Nat.reduceEqDiff, ↓reduceIte, reduceCtorEq, Int.reduceToNat]
  first | refine condK_dec (fun h1 => ?_) (fun h1 => ?_) | refine condK_ndec (fun h1 => ?_) (fun h1 => ?_) | refine condK_beq (fun h1 => ?_) (fun h1 => ?_) | refine condK_bne (fun h1 => ?_) (fun h1 => ?_) | refine condK_nbeq (fun h1 => ?_) (fun h1 => ?_) | refine guardK_dec (fun h1 => ?_) (fun h1 => ?_) | refine guardK_ndec (fun h1 => ?_) (fun h1 => ?_) | refine guardK_beq (fun h1 => ?_) (fun h1 => ?_) | refine guardK_bne (fun h1 => ?_) (fun h1 => ?_) | refine guardK_nbeq (fun h1 => ?_) (fun h1 => ?_) | refine condK_not (fun h1 => ?_) (fun h1 => ?_) | refine guardK_not (fun h1 => ?_) (fun h1 => ?_) | refine condK_bool (fun h1 => ?_) (fun h1 => ?_) | refine guardK_bool (fun h1 => ?_) (fun h1 => ?_) | done
  · have hlt : i < l.length := by omega
    have g1 := opts_at (l := l) (i := i) hlt
    simp (maxSteps := 400000) -dsimp -implicitDefEqProofs (disch := first | exact TrueB.mk rfl | omega) only [go_sem, Nat.reduceMul, Nat.reduceAdd, Nat.reduceLT, Nat.reduceLeDiff, Nat.reducePow, Nat.reduceEqDiff, ↓reduceIte, reduceCtorEq, Int.reduceToNat, g1]
    first | refine wpAct_call0 (refKnown_any p (l[i]'hlt).1 _ _) rfl rfl rfl rfl rfl rfl rfl rfl ?_ | done
    have hzA := zOf_or (awayO p l i)
    have hzC := zOf_or (changedO p l i)
    have hisA : isAway p (l.take i) (l[i]'hlt) = (!knownP p (l[i]'hlt).1 || (findO (l.take i) (l[i]'hlt).1).isSome) := rfl
    have hdi := hd _ (List.getElem_mem hlt)
    have c5 := fun m m' => refFind_any (l.take i) (l[i]'hlt).1 (by rw [List.length_take]; omega) m m'
    cases hA : isAway p (l.take i) (l[i]'hlt) with
    | true =>
      obtain ⟨e1, e2⟩ := away_yes hlt hA
      generalize awayO p l i = WA at *
      generalize changedO p l i = WC at *
      rw [hA] at hisA
      cases hk : knownP p (l[i]'hlt).1 with
      | false =>
        simp (maxSteps := 400000) -dsimp -implicitDefEqProofs (disch := first | exact TrueB.mk rfl | omega) only [go_sem, Nat.reduceMul, Nat.reduceAdd, Nat.reduceLT, Nat.reduceLeDiff, Nat.reducePow, Nat.reduceEqDiff, ↓reduceIte, reduceCtorEq, Int.reduceToNat, hk, hzA, opts_snoc, allScalar]
        refine again_mk ⟨i + 1, by omega, by omega, ?_⟩
        rw [e1, e2, zOf_snoc, fE_snoc]
        simp only [List.length_append, List.length_cons, List.length_nil]
        generalize fE WA = q
        cases q <;> rfl
      | true =>
        rw [hk] at hisA
        have hf : (findO (l.take i) (l[i]'hlt).1).isSome = true := hisA.symm
        obtain ⟨j, hj⟩ := Option.isSome_iff_exists.1 hf
        have ej : idxI (findO (l.take i) (l[i]'hlt).1) = (j : Int) := by rw [hj]; rfl
        simp (maxSteps := 400000) -dsimp -implicitDefEqProofs (disch := first | exact TrueB.mk rfl | omega) only [go_sem, Nat.reduceMul, Nat.reduceAdd, Nat.reduceLT, Nat.reduceLeDiff, Nat.reducePow, Nat.reduceEqDiff, ↓reduceIte, reduceCtorEq, Int.reduceToNat, hk, optsV_take, allW_optsV, List.drop_zero, Nat.sub_zero]
        first | refine wpAct_call0 (c5 _ _) rfl rfl rfl rfl rfl rfl rfl rfl ?_ | done
        simp (maxSteps := 400000) -dsimp -implicitDefEqProofs (disch := first | exact TrueB.mk rfl | omega) only [go_sem, Nat.reduceMul, Nat.reduceAdd, Nat.reduceLT, Nat.reduceLeDiff, Nat.reducePow, Nat.reduceEqDiff, ↓reduceIte, reduceCtorEq, Int.reduceToNat, ej, hzA, opts_snoc, allScalar]
        refine again_mk ⟨i + 1, by omega, by omega, ?_⟩
        rw [e1, e2, zOf_snoc, fE_snoc]
        simp only [List.length_append, List.length_cons, List.length_nil]
        generalize fE WA = q
        cases q <;> rfl
    | false =>
      rw [hA] at hisA
      have hk : knownP p (l[i]'hlt).1 = true := by cases h : knownP p (l[i]'hlt).1 with | true => rfl | false => rw [h] at hisA; cases hisA
      rw [hk] at hisA
      have hf : findO (l.take i) (l[i]'hlt).1 = none := Option.isSome_eq_false_iff.1 hisA.symm |> Option.isNone_iff_eq_none.1
      have ej : idxI (findO (l.take i) (l[i]'hlt).1) = -1 := by rw [hf]; rfl
      have c3 := fun m m' => refRight_any p (l[i]'hlt) hdi m m'
      unfold optV at c3
      cases hr : rightP p (l[i]'hlt) with
      | true =>
        obtain ⟨e1, e2⟩ := away_no hlt hA hr
        simp (maxSteps := 400000) -dsimp -implicitDefEqProofs (disch := first | exact TrueB.mk rfl | omega) only [go_sem, Nat.reduceMul, Nat.reduceAdd, Nat.reduceLT, Nat.reduceLeDiff, Nat.reducePow, Nat.reduceEqDiff, ↓reduceIte, reduceCtorEq, Int.reduceToNat, hk, optsV_take, allW_optsV, List.drop_zero, Nat.sub_zero]
        first | refine wpAct_call0 (c5 _ _) rfl rfl rfl rfl rfl rfl rfl rfl ?_ | done
        simp (maxSteps := 400000) -dsimp -implicitDefEqProofs (disch := first | exact TrueB.mk rfl | omega) only [go_sem, Nat.reduceMul, Nat.reduceAdd, Nat.reduceLT, Nat.reduceLeDiff, Nat.reducePow, Nat.reduceEqDiff, ↓reduceIte, reduceCtorEq, Int.reduceToNat, ej]
        first | refine wpAct_call0 (c3 _ _) rfl rfl rfl rfl rfl rfl rfl rfl ?_ | done
        simp (maxSteps := 400000) -dsimp -implicitDefEqProofs (disch := first | exact TrueB.mk rfl | omega) only [go_sem, Nat.reduceMul, Nat.reduceAdd, Nat.reduceLT, Nat.reduceLeDiff, Nat.reducePow, Nat.reduceEqDiff, ↓reduceIte, reduceCtorEq, Int.reduceToNat, hr]
        refine again_mk ⟨i + 1, by omega, by omega, ?_⟩
        rw [e1, e2]
        rfl
      | false =>
        obtain ⟨e1, e2⟩ := away_bad hlt hA hr
        have di : insteadD p (l[i]'hlt).1 = if p = 32855 then [0, 0, 0, 0, 0, 0, 0, 1] else if (l[i]'hlt).1 = 2 then [0, 45, 15, 0] else [10, 0, 0, 1] := rfl
        have b1 : ([.int .u8 0, .int .u8 0, .int .u8 0, .int .u8 0, .int .u8 0, .int .u8 0, .int .u8 0, .int .u8 1] : List PV) = bytesOf [0, 0, 0, 0, 0, 0, 0, 1] := rfl
        have b2 : ([.int .u8 0, .int .u8 45, .int .u8 15, .int .u8 0] : List PV) = bytesOf [0, 45, 15, 0] := rfl
        have b3 : ([.int .u8 10, .int .u8 0, .int .u8 0, .int .u8 1] : List PV) = bytesOf [10, 0, 0, 1] := rfl
        have b4 : (bytesOf [0, 45, 15, 0]).set 3 (.int .u8 0) = bytesOf [0, 45, 15, 0] := rfl
        generalize awayO p l i = WA at *
        generalize changedO p l i = WC at *
        simp (maxSteps := 400000) -dsimp -implicitDefEqProofs (disch := first | exact TrueB.mk rfl | omega) only [go_sem, Nat.reduceMul, Nat.reduceAdd, Nat.reduceLT, Nat.reduceLeDiff, Nat.reducePow, Nat.reduceEqDiff, ↓reduceIte, reduceCtorEq, Int.reduceToNat, hk, optsV_take, allW_optsV, List.drop_zero, Nat.sub_zero]
        first | refine wpAct_call0 (c5 _ _) rfl rfl rfl rfl rfl rfl rfl rfl ?_ | done
        simp (maxSteps := 400000) -dsimp -implicitDefEqProofs (disch := first | exact TrueB.mk rfl | omega) only [go_sem, Nat.reduceMul, Nat.reduceAdd, Nat.reduceLT, Nat.reduceLeDiff, Nat.reducePow, Nat.reduceEqDiff, ↓reduceIte, reduceCtorEq, Int.reduceToNat, ej]
        first | refine wpAct_call0 (c3 _ _) rfl rfl rfl rfl rfl rfl rfl rfl ?_ | done
        rcases Classical.em (p = 32855) with h3 | h3
        · rw [if_pos h3] at di
          rw [di] at e2
          simp (maxSteps := 400000) -dsimp -implicitDefEqProofs (disch := first | exact TrueB.mk rfl | omega) only [go_sem, Nat.reduceMul, Nat.reduceAdd, Nat.reduceLT, Nat.reduceLeDiff, Nat.reducePow, Nat.reduceEqDiff, ↓reduceIte, reduceCtorEq, Int.reduceToNat, hr, hzC, b1, b2, b3, b4, opts_snoc, allScalar]
          refine again_mk ⟨i + 1, by omega, by omega, ?_⟩
          rw [e1, e2, zOf_snoc, fE_snoc]
          simp only [List.length_append, List.length_cons, List.length_nil]
          generalize fE WC = q
          cases q <;> rfl
        · rw [if_neg h3] at di
          rcases Classical.em ((l[i]'hlt).1 = 2) with h4 | h4
          · rw [if_pos h4] at di
            rw [di] at e2
            simp (maxSteps := 400000) -dsimp -implicitDefEqProofs (disch := first | exact TrueB.mk rfl | omega) only [go_sem, Nat.reduceMul, Nat.reduceAdd, Nat.reduceLT, Nat.reduceLeDiff, Nat.reducePow, Nat.reduceEqDiff, ↓reduceIte, reduceCtorEq, Int.reduceToNat, hr, hzC, b1, b2, b3, b4, opts_snoc, allScalar]
            refine again_mk ⟨i + 1, by omega, by omega, ?_⟩
            rw [e1, e2, zOf_snoc, fE_snoc]
            simp only [List.length_append, List.length_cons, List.length_nil]
            generalize fE WC = q
            cases q <;> rfl
          · rw [if_neg h4] at di
            rw [di] at e2
            simp (maxSteps := 400000) -dsimp -implicitDefEqProofs (disch := first | exact TrueB.mk rfl | omega) only [go_sem, Nat.reduceMul, Nat.reduceAdd, Nat.reduceLT, Nat.reduceLeDiff, Nat.reducePow, Nat.reduceEqDiff, ↓reduceIte, reduceCtorEq, Int.reduceToNat, hr, hzC, b1, b2, b3, b4, opts_snoc, allScalar]
            refine again_mk ⟨i + 1, by omega, by omega, ?_⟩
            rw [e1, e2, zOf_snoc, fE_snoc]
            simp only [List.length_append, List.length_cons, List.length_nil]
            generalize fE WC = q
            cases q <;> rfl
  · simp (maxSteps := 400000) -dsimp -implicitDefEqProofs (disch := first | exact TrueB.mk rfl | omega) only [go_sem, Nat.reduceMul, Nat.reduceAdd, Nat.reduceLT, Nat.reduceLeDiff, Nat.reducePow, Nat.reduceEqDiff, ↓reduceIte, reduceCtorEq, Int.reduceToNat]
    obtain rfl : i = l.length := by omega
    first | exact end_rr rfl rfl rfl rfl (by decide) | done

set_option maxHeartbeats 16000000 in
theorem addrsBad_runs (p : Int) (l : List Opt) : Runs Try.prog env 17 [.pure false (.int .i64 p), .pure false (.sl (optsV l))] [] (.pure true (.bool true)) [] := by
  have c1 := fun h h' m => bad_any p l h h' m
  have c2 := fun h h' m => refBad_any p l h h' m
  obtain ⟨n1, n2⟩ := away_len p l l.length
  generalize awayO p l l.length = WA at *
  generalize changedO p l l.length = WC at *
  refine Runs.of Try.func17 rfl (by simp [Try.ntmps17]) ?_
  simp (maxSteps := 400000) -dsimp -implicitDefEqProofs (disch := first | exact TrueB.mk rfl | omega) only [go_sem, Nat.reduceMul, Nat.reduceAdd, Nat.reduceLT, Nat.reduceLeDiff, Nat.reducePow, Nat.reduceEqDiff, ↓reduceIte, reduceCtorEq, Int.reduceToNat, Try.ntmps17]
  first | refine wpAct_call0 (awake15_any) rfl rfl rfl rfl rfl rfl rfl rfl ?_ | done
  simp (maxSteps := 400000) -dsimp -implicitDefEqProofs (disch := first | exact TrueB.mk rfl | omega) only [go_sem, Nat.reduceMul, Nat.reduceAdd, Nat.reduceLT, Nat.reduceLeDiff, Nat.reducePow, Nat.reduceEqDiff, ↓reduceIte, reduceCtorEq, Int.reduceToNat]
  first | refine wpAct_call0 (few_any l _) rfl rfl rfl rfl rfl rfl rfl rfl ?_ | done
  cases hf : few l with
  | false =>
    simp (maxSteps := 400000) -dsimp -implicitDefEqProofs (disch := first | exact TrueB.mk rfl | omega) only [go_sem, Nat.reduceMul, Nat.reduceAdd, Nat.reduceLT, Nat.reduceLeDiff, Nat.reducePow, Nat.reduceEqDiff, ↓reduceIte, reduceCtorEq, Int.reduceToNat]
    first | refine wpAct_call0 (awake15_any) rfl rfl rfl rfl rfl rfl rfl rfl ?_ | done
    simp (maxSteps := 400000) -dsimp -implicitDefEqProofs (disch := first | exact TrueB.mk rfl | omega) only [go_sem, Nat.reduceMul, Nat.reduceAdd, Nat.reduceLT, Nat.reduceLeDiff, Nat.reducePow, Nat.reduceEqDiff, ↓reduceIte, reduceCtorEq, Int.reduceToNat]
    first | exact end_bool rfl rfl | done
  | true =>
  have hl := few_len hf
  have hd : ∀ o ∈ l, o.2.length ≤ 100000 := fun o ho => by have := few_data hf o ho; omega
  simp (maxSteps := 400000) -dsimp -implicitDefEqProofs (disch := first | exact TrueB.mk rfl | omega) only [go_sem, Nat.reduceMul, Nat.reduceAdd, Nat.reduceLT, Nat.reduceLeDiff, Nat.reducePow, Nat.reduceEqDiff, ↓reduceIte, reduceCtorEq, Int.reduceToNat]
  refine wpAct_callRR (c1 (by omega) hd _) rfl rfl rfl rfl rfl rfl rfl rfl ?_
  simp (maxSteps := 400000) -dsimp -implicitDefEqProofs (disch := first | exact TrueB.mk rfl | omega) only [go_sem, Nat.reduceMul, Nat.reduceAdd, Nat.reduceLT, Nat.reduceLeDiff, Nat.reducePow, Nat.reduceEqDiff, ↓reduceIte, reduceCtorEq, Int.reduceToNat]
  refine wpAct_callRR (c2 (by omega) hd _) rfl rfl rfl rfl rfl rfl rfl rfl ?_
  simp (maxSteps := 400000) -dsimp -implicitDefEqProofs (disch := first | exact TrueB.mk rfl | omega) only [go_sem, Nat.reduceMul, Nat.reduceAdd, Nat.reduceLT, Nat.reduceLeDiff, Nat.reducePow, Nat.reduceEqDiff, ↓reduceIte, reduceCtorEq, Int.reduceToNat]
  first | refine wpAct_callF (refSame_any WA WA (by omega) _ _) rfl rfl rfl rfl (argV_r rfl (optsV_length _).symm (argV_r rfl (optsV_length _).symm argV_nil)) rfl rfl rfl rfl ?_ | done
  simp (maxSteps := 400000) -dsimp -implicitDefEqProofs (disch := first | exact TrueB.mk rfl | omega) only [go_sem, Nat.reduceMul, Nat.reduceAdd, Nat.reduceLT, Nat.reduceLeDiff, Nat.reducePow, Nat.reduceEqDiff, ↓reduceIte, reduceCtorEq, Int.reduceToNat, beq_same]
  first | refine wpAct_callF (refSame_any WC WC (by omega) _ _) rfl rfl rfl rfl (argV_r rfl (optsV_length _).symm (argV_r rfl (optsV_length _).symm argV_nil)) rfl rfl rfl rfl ?_ | done
  simp (maxSteps := 400000) -dsimp -implicitDefEqProofs (disch := first | exact TrueB.mk rfl | omega) only [go_sem, Nat.reduceMul, Nat.reduceAdd, Nat.reduceLT, Nat.reduceLeDiff, Nat.reducePow, Nat.reduceEqDiff, ↓reduceIte, reduceCtorEq, Int.reduceToNat, beq_same]
  first | exact end_bool rfl (by simp) | done
end Go.Proofs.Ytpgklagjjimbhaa
