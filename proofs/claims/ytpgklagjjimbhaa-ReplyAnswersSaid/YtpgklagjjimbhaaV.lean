/- YtpgklagjjimbhaaV: the law ReplyEvents, over the evaluator. No claim. -/
import Derived.Test.YtpgklagjjimbhaaU
set_option linter.unusedVariables false
set_option linter.unusedSimpArgs false
set_option maxRecDepth 100000
namespace Go.Proofs.Ytpgklagjjimbhaa
open Go Go.Proofs.Ytpgklagjjimbhaa.V

theorem wfv_lnk {n : Nat} {x : PV} (h : WfV Try.prog (n + 1 + 1 + 1) 88 x) : ∃ l : Lnk, x = lnkV l ∧ l.opts.length ≤ 140737488351232 := by
  obtain ⟨h1, h2⟩ := h
  unfold WfC at h2
  rw [Try.underlying88] at h2
  have h3 : seqW (WfC Try.prog (n + 1 + 1)) [86, 3, 4, 4, 3, 9] x.cells := h2
  obtain ⟨a, b, e1, h4, c, d, e2, h5, c2, d2, e3, h6, c3, d3, e4, h7, c4, d4, e5, h8, c5, d5, e6, h9, e7⟩ := h3
  unfold WfC at h4
  rw [Try.underlying86] at h4
  have h4' : seqW (WfC Try.prog (n + 1)) [3, 3] a := h4
  obtain ⟨a1, b1, f1, g1, a2, b2, f2, g2, f3⟩ := h4'
  obtain ⟨i, rfl, hi⟩ := wfc_i64 g1
  obtain ⟨j, rfl, hj⟩ := wfc_i64 g2
  obtain ⟨k, rfl, hk⟩ := wfc_i64 h5
  obtain ⟨p, rfl⟩ := wfc_bool h6
  obtain ⟨q, rfl⟩ := wfc_bool h7
  obtain ⟨r, rfl, hr⟩ := wfc_i64 h8
  obtain ⟨s, rfl, hs⟩ := wfc_str h9
  have e7' : d5 = [] := e7
  have f3' : b2 = [] := f3
  subst e7' f3' e6 e5 e4 e3 e2 f2 f1
  exact ⟨⟨i, j, k, p, q, r, s⟩, agg_cells (by rw [h1, agg88]) e1, hs⟩

set_option maxHeartbeats 8000000 in
theorem replyEvents_runs (l : Lnk) (p : Pkt) : Runs Try.prog env 21 [.pure false (lnkV l), .pure false (pktV p)] [] (.pure true (.bool true)) [] := by
  refine Runs.of Try.func21 rfl (by simp [Try.ntmps21]) ?_
  have hmay := fun m => may_any p m
  have hml := mayP_len (p := p)
  have c1 := fun (h : l.opts.length ≤ 100000) (h' : p.2.2.length ≤ 100000) m m' => event_any l p h h' m m'
  have c2 := fun (h : l.opts.length ≤ 100000) (h' : p.2.2.length ≤ 100000) m m' => refEvent_any l p h h' m m'
  unfold pktV lnkV at *
  simp (maxSteps := 400000) -dsimp -implicitDefEqProofs (disch := first | exact TrueB.mk rfl | omega) only [go_sem, Nat.reduceMul, Nat.reduceAdd, Nat.reduceLT, Nat.reduceLeDiff, Nat.reducePow, Nat.reduceEqDiff, ↓reduceIte, reduceCtorEq, Int.reduceToNat, Try.ntmps21]
  first | refine wpAct_call0 (awake18_any) rfl rfl rfl rfl rfl rfl rfl rfl ?_ | done
  simp (maxSteps := 400000) -dsimp -implicitDefEqProofs (disch := first | exact TrueB.mk rfl | omega) only [go_sem, Nat.reduceMul, Nat.reduceAdd, Nat.reduceLT, Nat.reduceLeDiff, Nat.reducePow, Nat.reduceEqDiff, ↓reduceIte, reduceCtorEq, Int.reduceToNat]
  first | refine wpAct_call0 (hmay _) rfl rfl rfl rfl rfl rfl rfl rfl ?_ | done
  cases hm : mayP p with
  | false =>
    simp (maxSteps := 400000) -dsimp -implicitDefEqProofs (disch := first | exact TrueB.mk rfl | omega) only [go_sem, Nat.reduceMul, Nat.reduceAdd, Nat.reduceLT, Nat.reduceLeDiff, Nat.reducePow, Nat.reduceEqDiff, ↓reduceIte, reduceCtorEq, Int.reduceToNat]
    first | refine wpAct_call0 (awake18_any) rfl rfl rfl rfl rfl rfl rfl rfl ?_ | done
    simp (maxSteps := 400000) -dsimp -implicitDefEqProofs (disch := first | exact TrueB.mk rfl | omega) only [go_sem, Nat.reduceMul, Nat.reduceAdd, Nat.reduceLT, Nat.reduceLeDiff, Nat.reducePow, Nat.reduceEqDiff, ↓reduceIte, reduceCtorEq, Int.reduceToNat]
    first | exact end_bool rfl rfl | done
  | true =>
  have hpl := (hml hm).1
  simp (maxSteps := 400000) -dsimp -implicitDefEqProofs (disch := first | exact TrueB.mk rfl | omega) only [go_sem, Nat.reduceMul, Nat.reduceAdd, Nat.reduceLT, Nat.reduceLeDiff, Nat.reducePow, Nat.reduceEqDiff, ↓reduceIte, reduceCtorEq, Int.reduceToNat]
  first | refine condK_dec (fun hb => ?_) (fun hb => ?_) | refine condK_ndec (fun hb => ?_) (fun hb => ?_) | refine condK_beq (fun hb => ?_) (fun hb => ?_) | refine condK_bne (fun hb => ?_) (fun hb => ?_) | refine condK_nbeq (fun hb => ?_) (fun hb => ?_) | refine guardK_dec (fun hb => ?_) (fun hb => ?_) | refine guardK_ndec (fun hb => ?_) (fun hb => ?_) | refine guardK_beq (fun hb => ?_) (fun hb => ?_) | refine guardK_bne (fun hb => ?_) (fun hb => ?_) | refine guardK_nbeq (fun hb => ?_) (fun hb => ?_) | refine condK_not (fun hb => ?_) (fun hb => ?_) | refine guardK_not (fun hb => ?_) (fun hb => ?_) | refine condK_bool (fun hb => ?_) (fun hb => ?_) | refine guardK_bool (fun hb => ?_) (fun hb => ?_) | done
  · simp (maxSteps := 400000) -dsimp -implicitDefEqProofs (disch := first | exact TrueB.mk rfl | omega) only [go_sem, Nat.reduceMul, Nat.reduceAdd, Nat.reduceLT, Nat.reduceLeDiff, Nat.reducePow, Nat.reduceEqDiff, ↓reduceIte, reduceCtorEq, Int.reduceToNat]
    first | refine wpAct_call0 (awake18_any) rfl rfl rfl rfl rfl rfl rfl rfl ?_ | done
    simp (maxSteps := 400000) -dsimp -implicitDefEqProofs (disch := first | exact TrueB.mk rfl | omega) only [go_sem, Nat.reduceMul, Nat.reduceAdd, Nat.reduceLT, Nat.reduceLeDiff, Nat.reducePow, Nat.reduceEqDiff, ↓reduceIte, reduceCtorEq, Int.reduceToNat]
    first | exact end_bool rfl rfl | done
  simp (maxSteps := 400000) -dsimp -implicitDefEqProofs (disch := first | exact TrueB.mk rfl | omega) only [go_sem, Nat.reduceMul, Nat.reduceAdd, Nat.reduceLT, Nat.reduceLeDiff, Nat.reducePow, Nat.reduceEqDiff, ↓reduceIte, reduceCtorEq, Int.reduceToNat]
  first | refine wpAct_call0 (c1 (by omega) (by omega) _ _) rfl rfl rfl rfl rfl rfl rfl rfl ?_ | done
  simp (maxSteps := 400000) -dsimp -implicitDefEqProofs (disch := first | exact TrueB.mk rfl | omega) only [go_sem, Nat.reduceMul, Nat.reduceAdd, Nat.reduceLT, Nat.reduceLeDiff, Nat.reducePow, Nat.reduceEqDiff, ↓reduceIte, reduceCtorEq, Int.reduceToNat]
  first | refine wpAct_call0 (c2 (by omega) (by omega) _ _) rfl rfl rfl rfl rfl rfl rfl rfl ?_ | done
  simp (maxSteps := 400000) -dsimp -implicitDefEqProofs (disch := first | exact TrueB.mk rfl | omega) only [go_sem, Nat.reduceMul, Nat.reduceAdd, Nat.reduceLT, Nat.reduceLeDiff, Nat.reducePow, Nat.reduceEqDiff, ↓reduceIte, reduceCtorEq, Int.reduceToNat]
  first | exact end_bool rfl (by simp) | done
end Go.Proofs.Ytpgklagjjimbhaa
