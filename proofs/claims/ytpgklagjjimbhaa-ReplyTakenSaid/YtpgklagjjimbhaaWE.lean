/- YtpgklagjjimbhaaWE: the laws ReplyJudges and ReplyAnswers, over the evaluator. No claim. -/
import Derived.Test.YtpgklagjjimbhaaWD
import Derived.Test.YtpgklagjjimbhaaV
set_option linter.unusedVariables false
set_option linter.unusedSimpArgs false
set_option maxRecDepth 100000
namespace Go.Proofs.Ytpgklagjjimbhaa
open Go Go.Proofs.Ytpgklagjjimbhaa.V

set_option maxHeartbeats 16000000 in
theorem replyJudges_runs (q p : Pkt) : Runs Try.prog env 20 [.pure false (pktV q), .pure false (pktV p)] [] (.pure true (.bool true)) [] := by
  refine Runs.of Try.func20 rfl (by simp [Try.ntmps20]) ?_
  have m1 := fun m => may_any q m
  have m2 := fun m => may_any p m
  have l1 := mayP_len (p := q)
  have l2 := mayP_len (p := p)
  have c1 := fun m m' => acks_any q p m m'
  have c2 := fun m m' => refAcks_any q p m m'
  have c3 := fun h h' m m' => rejects_any q p h h' m m'
  have c4 := fun h h' m m' => refRejects_any q p h h' m m'
  have c5 := fun h h' m m' => naks_any q p h h' m m'
  have c6 := fun h h' m m' => refNaks_any q p h h' m m'
  generalize acksP q p = ak at *
  generalize rejsP q p = rj at *
  generalize naksP q p = nk at *
  unfold pktV at *
  simp (maxSteps := 400000) -dsimp -implicitDefEqProofs (disch := first | exact TrueB.mk rfl | omega) only [go_sem, Nat.reduceMul, Nat.reduceAdd, Nat.reduceLT, Nat.reduceLeDiff, Nat.reducePow, Nat.reduceEqDiff, ↓reduceIte, reduceCtorEq, Int.reduceToNat, Try.ntmps20]
  first | refine wpAct_call0 (awake18_any) rfl rfl rfl rfl rfl rfl rfl rfl ?_ | done
  simp (maxSteps := 400000) -dsimp -implicitDefEqProofs (disch := first | exact TrueB.mk rfl | omega) only [go_sem, Nat.reduceMul, Nat.reduceAdd, Nat.reduceLT, Nat.reduceLeDiff, Nat.reducePow, Nat.reduceEqDiff, ↓reduceIte, reduceCtorEq, Int.reduceToNat]
  first | refine wpAct_call0 (m1 _) rfl rfl rfl rfl rfl rfl rfl rfl ?_ | done
  cases hm : mayP q with
  | false =>
    simp (maxSteps := 400000) -dsimp -implicitDefEqProofs (disch := first | exact TrueB.mk rfl | omega) only [go_sem, Nat.reduceMul, Nat.reduceAdd, Nat.reduceLT, Nat.reduceLeDiff, Nat.reducePow, Nat.reduceEqDiff, ↓reduceIte, reduceCtorEq, Int.reduceToNat]
    first | refine wpAct_call0 (awake18_any) rfl rfl rfl rfl rfl rfl rfl rfl ?_ | done
    simp (maxSteps := 400000) -dsimp -implicitDefEqProofs (disch := first | exact TrueB.mk rfl | omega) only [go_sem, Nat.reduceMul, Nat.reduceAdd, Nat.reduceLT, Nat.reduceLeDiff, Nat.reducePow, Nat.reduceEqDiff, ↓reduceIte, reduceCtorEq, Int.reduceToNat]
    first | exact end_bool rfl rfl | done
  | true =>
  have hql := (l1 hm).1
  simp (maxSteps := 400000) -dsimp -implicitDefEqProofs (disch := first | exact TrueB.mk rfl | omega) only [go_sem, Nat.reduceMul, Nat.reduceAdd, Nat.reduceLT, Nat.reduceLeDiff, Nat.reducePow, Nat.reduceEqDiff, ↓reduceIte, reduceCtorEq, Int.reduceToNat]
  first | refine wpAct_call0 (m2 _) rfl rfl rfl rfl rfl rfl rfl rfl ?_ | done
  cases hm2 : mayP p with
  | false =>
    simp (maxSteps := 400000) -dsimp -implicitDefEqProofs (disch := first | exact TrueB.mk rfl | omega) only [go_sem, Nat.reduceMul, Nat.reduceAdd, Nat.reduceLT, Nat.reduceLeDiff, Nat.reducePow, Nat.reduceEqDiff, ↓reduceIte, reduceCtorEq, Int.reduceToNat]
    first | refine wpAct_call0 (awake18_any) rfl rfl rfl rfl rfl rfl rfl rfl ?_ | done
    simp (maxSteps := 400000) -dsimp -implicitDefEqProofs (disch := first | exact TrueB.mk rfl | omega) only [go_sem, Nat.reduceMul, Nat.reduceAdd, Nat.reduceLT, Nat.reduceLeDiff, Nat.reducePow, Nat.reduceEqDiff, ↓reduceIte, reduceCtorEq, Int.reduceToNat]
    first | exact end_bool rfl rfl | done
  | true =>
  have hpl := (l2 hm2).1
  simp (maxSteps := 400000) -dsimp -implicitDefEqProofs (disch := first | exact TrueB.mk rfl | omega) only [go_sem, Nat.reduceMul, Nat.reduceAdd, Nat.reduceLT, Nat.reduceLeDiff, Nat.reducePow, Nat.reduceEqDiff, ↓reduceIte, reduceCtorEq, Int.reduceToNat]
  first | refine wpAct_call0 (c1 _ _) rfl rfl rfl rfl rfl rfl rfl rfl ?_ | done
  simp (maxSteps := 400000) -dsimp -implicitDefEqProofs (disch := first | exact TrueB.mk rfl | omega) only [go_sem, Nat.reduceMul, Nat.reduceAdd, Nat.reduceLT, Nat.reduceLeDiff, Nat.reducePow, Nat.reduceEqDiff, ↓reduceIte, reduceCtorEq, Int.reduceToNat]
  first | refine wpAct_call0 (c2 _ _) rfl rfl rfl rfl rfl rfl rfl rfl ?_ | done
  simp (maxSteps := 400000) -dsimp -implicitDefEqProofs (disch := first | exact TrueB.mk rfl | omega) only [go_sem, Nat.reduceMul, Nat.reduceAdd, Nat.reduceLT, Nat.reduceLeDiff, Nat.reducePow, Nat.reduceEqDiff, ↓reduceIte, reduceCtorEq, Int.reduceToNat, beq_same]
  first | refine wpAct_call0 (c3 (by omega) (by omega) _ _) rfl rfl rfl rfl rfl rfl rfl rfl ?_ | done
  simp (maxSteps := 400000) -dsimp -implicitDefEqProofs (disch := first | exact TrueB.mk rfl | omega) only [go_sem, Nat.reduceMul, Nat.reduceAdd, Nat.reduceLT, Nat.reduceLeDiff, Nat.reducePow, Nat.reduceEqDiff, ↓reduceIte, reduceCtorEq, Int.reduceToNat]
  first | refine wpAct_call0 (c4 (by omega) (by omega) _ _) rfl rfl rfl rfl rfl rfl rfl rfl ?_ | done
  simp (maxSteps := 400000) -dsimp -implicitDefEqProofs (disch := first | exact TrueB.mk rfl | omega) only [go_sem, Nat.reduceMul, Nat.reduceAdd, Nat.reduceLT, Nat.reduceLeDiff, Nat.reducePow, Nat.reduceEqDiff, ↓reduceIte, reduceCtorEq, Int.reduceToNat, beq_same]
  first | refine wpAct_call0 (c5 (by omega) (by omega) _ _) rfl rfl rfl rfl rfl rfl rfl rfl ?_ | done
  simp (maxSteps := 400000) -dsimp -implicitDefEqProofs (disch := first | exact TrueB.mk rfl | omega) only [go_sem, Nat.reduceMul, Nat.reduceAdd, Nat.reduceLT, Nat.reduceLeDiff, Nat.reducePow, Nat.reduceEqDiff, ↓reduceIte, reduceCtorEq, Int.reduceToNat]
  first | refine wpAct_call0 (c6 (by omega) (by omega) _ _) rfl rfl rfl rfl rfl rfl rfl rfl ?_ | done
  simp (maxSteps := 400000) -dsimp -implicitDefEqProofs (disch := first | exact TrueB.mk rfl | omega) only [go_sem, Nat.reduceMul, Nat.reduceAdd, Nat.reduceLT, Nat.reduceLeDiff, Nat.reducePow, Nat.reduceEqDiff, ↓reduceIte, reduceCtorEq, Int.reduceToNat]
  first | exact end_bool rfl (by simp) | done

theorem acksP_says {q p : Pkt} (h : acksP q p = true) : q.1 = 1 ∧ p.1 = 2 ∧ p.2.1 = q.2.1 ∧ p.2.2 = q.2.2 := by
  unfold acksP at h
  simp only [Bool.and_eq_true, decide_eq_true_eq, beq_iff_eq] at h
  exact ⟨h.1.1.1, h.1.1.2, h.1.2, h.2⟩
theorem bothP_says {q p : Pkt} {c : Int} (h : (bothP q p c).2.2 = true) : q.1 = 1 ∧ p.1 = c ∧ p.2.1 = q.2.1 ∧ (optsP p).2 = true ∧ 0 < (optsP p).1.length := by
  unfold bothP at h
  split at h
  · rename_i hf
    obtain ⟨h1, h2, h3⟩ := of_decide_eq_true hf
    simp only [Bool.and_eq_true, decide_eq_true_eq] at h
    exact ⟨h1, h2, h3, h.1.2, by omega⟩
  · cases h
theorem rejsP_says {q p : Pkt} (h : rejsP q p = true) : q.1 = 1 ∧ p.1 = 4 ∧ p.2.1 = q.2.1 := by
  unfold rejsP at h
  rw [Bool.and_eq_true] at h
  obtain ⟨h1, h2, h3, _⟩ := bothP_says h.1
  exact ⟨h1, h2, h3⟩
theorem naksP_says {q p : Pkt} (h : naksP q p = true) : q.1 = 1 ∧ p.1 = 3 ∧ p.2.1 = q.2.1 ∧ (optsP p).2 = true ∧ 0 < (optsP p).1.length := by
  unfold naksP at h
  rw [Bool.and_eq_true, Bool.and_eq_true] at h
  exact bothP_says h.1.1
def linkP (q : Pkt) : Lnk := ⟨0, 0, 0, true, false, q.2.1, q.2.2⟩
theorem event_acks {q p : Pkt} (h : acksP q p = true) : eventP (linkP q) p = 9 := by
  obtain ⟨h1, h2, h3, h4⟩ := acksP_says h
  unfold eventP linkP
  simp [h2, h3, h4]
theorem event_naks {q p : Pkt} (h : naksP q p = true) : eventP (linkP q) p = 10 := by
  obtain ⟨h1, h2, h3, h4, h5⟩ := naksP_says h
  unfold eventP linkP
  simp [h2, h3, h4, h5]
theorem event_rejs {q p : Pkt} (h : rejsP q p = true) : eventP (linkP q) p = 10 := by
  obtain ⟨h1, h2, h3⟩ := rejsP_says h
  have e : reqP (linkP q) = q := by
    unfold reqP linkP
    rw [← h1]
  unfold eventP
  rw [e, if_pos ⟨rfl, h3⟩, if_neg (by omega), if_neg (by omega), if_pos h2, if_pos h]
theorem event_off {l : Lnk} (p : Pkt) (h : l.sent = false) : eventP l p = 0 := by
  unfold eventP
  rw [if_neg (by simp [h])]

set_option maxHeartbeats 16000000 in
theorem replyAnswers_runs (q p : Pkt) : Runs Try.prog env 23 [.pure false (pktV q), .pure false (pktV p)] [] (.pure true (.bool true)) [] := by
  refine Runs.of Try.func23 rfl (by simp [Try.ntmps23]) ?_
  obtain ⟨pc, pi, pd⟩ := p
  obtain ⟨qc, qi, qd⟩ := q
  have m1 := fun m => may_any (qc, qi, qd) m
  have m2 := fun m => may_any (pc, pi, pd) m
  have l1 := mayP_len (p := (qc, qi, qd))
  have l2 := mayP_len (p := (pc, pi, pd))
  have c1 := fun m m' => acks_any (qc, qi, qd) (pc, pi, pd) m m'
  have c2 := fun h h' m m' => naks_any (qc, qi, qd) (pc, pi, pd) h h' m m'
  have c3 := fun h h' m m' => rejects_any (qc, qi, qd) (pc, pi, pd) h h' m m'
  have c4 := fun m m' => acks_any (qc, qi, qd) (2, qi, qd) m m'
  have c5 := fun h h' m m' => event_any (linkP (qc, qi, qd)) (pc, pi, pd) h h' m m'
  have c6 := fun h h' m m' => event_any { linkP (qc, qi, qd) with sent := false } (pc, pi, pd) h h' m m'
  rw [event_off (pc, pi, pd) rfl] at c6
  have e4 : acksP (qc, qi, qd) (2, qi, qd) = decide (qc = 1) := by unfold acksP; simp
  rw [e4] at c4
  have s1 := acksP_says (q := (qc, qi, qd)) (p := (pc, pi, pd))
  have s2 := naksP_says (q := (qc, qi, qd)) (p := (pc, pi, pd))
  have s3 := rejsP_says (q := (qc, qi, qd)) (p := (pc, pi, pd))
  have t1 := event_acks (q := (qc, qi, qd)) (p := (pc, pi, pd))
  have t2 := event_naks (q := (qc, qi, qd)) (p := (pc, pi, pd))
  have t3 := event_rejs (q := (qc, qi, qd)) (p := (pc, pi, pd))
  generalize acksP (qc, qi, qd) (pc, pi, pd) = ak at *
  generalize rejsP (qc, qi, qd) (pc, pi, pd) = rj at *
  generalize naksP (qc, qi, qd) (pc, pi, pd) = nk at *
  generalize eventP (linkP (qc, qi, qd)) (pc, pi, pd) = ev at *
  unfold linkP at c5 c6
  unfold lnkV at c5 c6
  unfold pktV at *
  simp only at l1 l2 s1 s2 s3 t1 t2 t3 c1 c2 c3 c4 c5 c6 m1 m2
  simp (maxSteps := 400000) -dsimp -implicitDefEqProofs (disch := first | exact TrueB.mk rfl | omega) only [go_sem, Nat.reduceMul, Nat.reduceAdd, Nat.reduceLT, Nat.reduceLeDiff, Nat.reducePow, Nat.reduceEqDiff, ↓reduceIte, reduceCtorEq, Int.reduceToNat, Try.ntmps23]
  first | refine wpAct_call0 (awake18_any) rfl rfl rfl rfl rfl rfl rfl rfl ?_ | done
  simp (maxSteps := 400000) -dsimp -implicitDefEqProofs (disch := first | exact TrueB.mk rfl | omega) only [go_sem, Nat.reduceMul, Nat.reduceAdd, Nat.reduceLT, Nat.reduceLeDiff, Nat.reducePow, Nat.reduceEqDiff, ↓reduceIte, reduceCtorEq, Int.reduceToNat]
  first | refine wpAct_call0 (m1 _) rfl rfl rfl rfl rfl rfl rfl rfl ?_ | done
  cases hm : mayP (qc, qi, qd) with
  | false =>
    simp (maxSteps := 400000) -dsimp -implicitDefEqProofs (disch := first | exact TrueB.mk rfl | omega) only [go_sem, Nat.reduceMul, Nat.reduceAdd, Nat.reduceLT, Nat.reduceLeDiff, Nat.reducePow, Nat.reduceEqDiff, ↓reduceIte, reduceCtorEq, Int.reduceToNat]
    first | refine wpAct_call0 (awake18_any) rfl rfl rfl rfl rfl rfl rfl rfl ?_ | done
    simp (maxSteps := 400000) -dsimp -implicitDefEqProofs (disch := first | exact TrueB.mk rfl | omega) only [go_sem, Nat.reduceMul, Nat.reduceAdd, Nat.reduceLT, Nat.reduceLeDiff, Nat.reducePow, Nat.reduceEqDiff, ↓reduceIte, reduceCtorEq, Int.reduceToNat]
    first | exact end_bool rfl rfl | done
  | true =>
  have hql := (l1 hm).1
  simp (maxSteps := 400000) -dsimp -implicitDefEqProofs (disch := first | exact TrueB.mk rfl | omega) only [go_sem, Nat.reduceMul, Nat.reduceAdd, Nat.reduceLT, Nat.reduceLeDiff, Nat.reducePow, Nat.reduceEqDiff, ↓reduceIte, reduceCtorEq, Int.reduceToNat]
  first | refine wpAct_call0 (m2 _) rfl rfl rfl rfl rfl rfl rfl rfl ?_ | done
  cases hm2 : mayP (pc, pi, pd) with
  | false =>
    simp (maxSteps := 400000) -dsimp -implicitDefEqProofs (disch := first | exact TrueB.mk rfl | omega) only [go_sem, Nat.reduceMul, Nat.reduceAdd, Nat.reduceLT, Nat.reduceLeDiff, Nat.reducePow, Nat.reduceEqDiff, ↓reduceIte, reduceCtorEq, Int.reduceToNat]
    first | refine wpAct_call0 (awake18_any) rfl rfl rfl rfl rfl rfl rfl rfl ?_ | done
    simp (maxSteps := 400000) -dsimp -implicitDefEqProofs (disch := first | exact TrueB.mk rfl | omega) only [go_sem, Nat.reduceMul, Nat.reduceAdd, Nat.reduceLT, Nat.reduceLeDiff, Nat.reducePow, Nat.reduceEqDiff, ↓reduceIte, reduceCtorEq, Int.reduceToNat]
    first | exact end_bool rfl rfl | done
  | true =>
  have hpl := (l2 hm2).1
  simp (maxSteps := 400000) -dsimp -implicitDefEqProofs (disch := first | exact TrueB.mk rfl | omega) only [go_sem, Nat.reduceMul, Nat.reduceAdd, Nat.reduceLT, Nat.reduceLeDiff, Nat.reducePow, Nat.reduceEqDiff, ↓reduceIte, reduceCtorEq, Int.reduceToNat]
  first | refine wpAct_call0 (c1 _ _) rfl rfl rfl rfl rfl rfl rfl rfl ?_ | done
  simp (maxSteps := 400000) -dsimp -implicitDefEqProofs (disch := first | exact TrueB.mk rfl | omega) only [go_sem, Nat.reduceMul, Nat.reduceAdd, Nat.reduceLT, Nat.reduceLeDiff, Nat.reducePow, Nat.reduceEqDiff, ↓reduceIte, reduceCtorEq, Int.reduceToNat]
  first | refine wpAct_call0 (c2 (by omega) (by omega) _ _) rfl rfl rfl rfl rfl rfl rfl rfl ?_ | done
  simp (maxSteps := 400000) -dsimp -implicitDefEqProofs (disch := first | exact TrueB.mk rfl | omega) only [go_sem, Nat.reduceMul, Nat.reduceAdd, Nat.reduceLT, Nat.reduceLeDiff, Nat.reducePow, Nat.reduceEqDiff, ↓reduceIte, reduceCtorEq, Int.reduceToNat]
  first | refine wpAct_call0 (c3 (by omega) (by omega) _ _) rfl rfl rfl rfl rfl rfl rfl rfl ?_ | done
  simp (maxSteps := 400000) -dsimp -implicitDefEqProofs (disch := first | exact TrueB.mk rfl | omega) only [go_sem, Nat.reduceMul, Nat.reduceAdd, Nat.reduceLT, Nat.reduceLeDiff, Nat.reducePow, Nat.reduceEqDiff, ↓reduceIte, reduceCtorEq, Int.reduceToNat]
  cases ak with
  | true =>
    obtain ⟨rfl, rfl, rfl, rfl⟩ := s1 rfl
    have e1 : nk = false := by cases nk; rfl; have := s2 rfl; omega
    have e2 : rj = false := by cases rj; rfl; have := s3 rfl; omega
    have e3 := t1 rfl
    subst e1 e2 e3
    simp (maxSteps := 400000) -dsimp -implicitDefEqProofs (disch := first | exact TrueB.mk rfl | omega) only [go_sem, Nat.reduceMul, Nat.reduceAdd, Nat.reduceLT, Nat.reduceLeDiff, Nat.reducePow, Nat.reduceEqDiff, ↓reduceIte, reduceCtorEq, Int.reduceToNat, decide_true, beq_same]
    first | refine wpAct_call0 (c5 (by omega) (by omega) _ _) rfl rfl rfl rfl rfl rfl rfl rfl ?_ | done
    simp (maxSteps := 400000) -dsimp -implicitDefEqProofs (disch := first | exact TrueB.mk rfl | omega) only [go_sem, Nat.reduceMul, Nat.reduceAdd, Nat.reduceLT, Nat.reduceLeDiff, Nat.reducePow, Nat.reduceEqDiff, ↓reduceIte, reduceCtorEq, Int.reduceToNat, decide_true, beq_same]
    first | refine wpAct_call0 (c4 _ _) rfl rfl rfl rfl rfl rfl rfl rfl ?_ | done
    simp (maxSteps := 400000) -dsimp -implicitDefEqProofs (disch := first | exact TrueB.mk rfl | omega) only [go_sem, Nat.reduceMul, Nat.reduceAdd, Nat.reduceLT, Nat.reduceLeDiff, Nat.reducePow, Nat.reduceEqDiff, ↓reduceIte, reduceCtorEq, Int.reduceToNat, decide_true, beq_same]
    first | refine wpAct_call0 (c6 (by omega) (by omega) _ _) rfl rfl rfl rfl rfl rfl rfl rfl ?_ | done
    simp (maxSteps := 400000) -dsimp -implicitDefEqProofs (disch := first | exact TrueB.mk rfl | omega) only [go_sem, Nat.reduceMul, Nat.reduceAdd, Nat.reduceLT, Nat.reduceLeDiff, Nat.reducePow, Nat.reduceEqDiff, ↓reduceIte, reduceCtorEq, Int.reduceToNat]
    first | exact end_bool rfl (by simp) | done
  | false =>
  cases nk with
  | true =>
    obtain ⟨rfl, rfl, rfl, _⟩ := s2 rfl
    have e2 : rj = false := by cases rj; rfl; have := s3 rfl; omega
    have e3 := t2 rfl
    subst e2 e3
    simp (maxSteps := 400000) -dsimp -implicitDefEqProofs (disch := first | exact TrueB.mk rfl | omega) only [go_sem, Nat.reduceMul, Nat.reduceAdd, Nat.reduceLT, Nat.reduceLeDiff, Nat.reducePow, Nat.reduceEqDiff, ↓reduceIte, reduceCtorEq, Int.reduceToNat, decide_true, beq_same]
    first | refine wpAct_call0 (c5 (by omega) (by omega) _ _) rfl rfl rfl rfl rfl rfl rfl rfl ?_ | done
    simp (maxSteps := 400000) -dsimp -implicitDefEqProofs (disch := first | exact TrueB.mk rfl | omega) only [go_sem, Nat.reduceMul, Nat.reduceAdd, Nat.reduceLT, Nat.reduceLeDiff, Nat.reducePow, Nat.reduceEqDiff, ↓reduceIte, reduceCtorEq, Int.reduceToNat, decide_true, beq_same]
    first | refine wpAct_call0 (c4 _ _) rfl rfl rfl rfl rfl rfl rfl rfl ?_ | done
    simp (maxSteps := 400000) -dsimp -implicitDefEqProofs (disch := first | exact TrueB.mk rfl | omega) only [go_sem, Nat.reduceMul, Nat.reduceAdd, Nat.reduceLT, Nat.reduceLeDiff, Nat.reducePow, Nat.reduceEqDiff, ↓reduceIte, reduceCtorEq, Int.reduceToNat, decide_true, beq_same]
    first | refine wpAct_call0 (c6 (by omega) (by omega) _ _) rfl rfl rfl rfl rfl rfl rfl rfl ?_ | done
    simp (maxSteps := 400000) -dsimp -implicitDefEqProofs (disch := first | exact TrueB.mk rfl | omega) only [go_sem, Nat.reduceMul, Nat.reduceAdd, Nat.reduceLT, Nat.reduceLeDiff, Nat.reducePow, Nat.reduceEqDiff, ↓reduceIte, reduceCtorEq, Int.reduceToNat]
    first | exact end_bool rfl (by simp) | done
  | false =>
  cases rj with
  | true =>
    obtain ⟨rfl, rfl, rfl⟩ := s3 rfl
    have e3 := t3 rfl
    subst e3
    simp (maxSteps := 400000) -dsimp -implicitDefEqProofs (disch := first | exact TrueB.mk rfl | omega) only [go_sem, Nat.reduceMul, Nat.reduceAdd, Nat.reduceLT, Nat.reduceLeDiff, Nat.reducePow, Nat.reduceEqDiff, ↓reduceIte, reduceCtorEq, Int.reduceToNat, decide_true, beq_same]
    first | refine wpAct_call0 (c5 (by omega) (by omega) _ _) rfl rfl rfl rfl rfl rfl rfl rfl ?_ | done
    simp (maxSteps := 400000) -dsimp -implicitDefEqProofs (disch := first | exact TrueB.mk rfl | omega) only [go_sem, Nat.reduceMul, Nat.reduceAdd, Nat.reduceLT, Nat.reduceLeDiff, Nat.reducePow, Nat.reduceEqDiff, ↓reduceIte, reduceCtorEq, Int.reduceToNat, decide_true, beq_same]
    first | refine wpAct_call0 (c4 _ _) rfl rfl rfl rfl rfl rfl rfl rfl ?_ | done
    simp (maxSteps := 400000) -dsimp -implicitDefEqProofs (disch := first | exact TrueB.mk rfl | omega) only [go_sem, Nat.reduceMul, Nat.reduceAdd, Nat.reduceLT, Nat.reduceLeDiff, Nat.reducePow, Nat.reduceEqDiff, ↓reduceIte, reduceCtorEq, Int.reduceToNat, decide_true, beq_same]
    first | refine wpAct_call0 (c6 (by omega) (by omega) _ _) rfl rfl rfl rfl rfl rfl rfl rfl ?_ | done
    simp (maxSteps := 400000) -dsimp -implicitDefEqProofs (disch := first | exact TrueB.mk rfl | omega) only [go_sem, Nat.reduceMul, Nat.reduceAdd, Nat.reduceLT, Nat.reduceLeDiff, Nat.reducePow, Nat.reduceEqDiff, ↓reduceIte, reduceCtorEq, Int.reduceToNat]
    first | exact end_bool rfl (by simp) | done
  | false =>
  rcases Classical.em (qc = 1) with rfl | h1
  · have d1 : decide ((1 : Int) = 1) = true := rfl
    simp (maxSteps := 400000) -dsimp -implicitDefEqProofs (disch := first | exact TrueB.mk rfl | omega) only [go_sem, Nat.reduceMul, Nat.reduceAdd, Nat.reduceLT, Nat.reduceLeDiff, Nat.reducePow, Nat.reduceEqDiff, ↓reduceIte, reduceCtorEq, Int.reduceToNat, d1, beq_same]
    first | refine wpAct_call0 (c5 (by omega) (by omega) _ _) rfl rfl rfl rfl rfl rfl rfl rfl ?_ | done
    simp (maxSteps := 400000) -dsimp -implicitDefEqProofs (disch := first | exact TrueB.mk rfl | omega) only [go_sem, Nat.reduceMul, Nat.reduceAdd, Nat.reduceLT, Nat.reduceLeDiff, Nat.reducePow, Nat.reduceEqDiff, ↓reduceIte, reduceCtorEq, Int.reduceToNat, d1, beq_same]
    first | refine wpAct_call0 (c4 _ _) rfl rfl rfl rfl rfl rfl rfl rfl ?_ | done
    simp (maxSteps := 400000) -dsimp -implicitDefEqProofs (disch := first | exact TrueB.mk rfl | omega) only [go_sem, Nat.reduceMul, Nat.reduceAdd, Nat.reduceLT, Nat.reduceLeDiff, Nat.reducePow, Nat.reduceEqDiff, ↓reduceIte, reduceCtorEq, Int.reduceToNat, d1, beq_same]
    first | refine wpAct_call0 (c6 (by omega) (by omega) _ _) rfl rfl rfl rfl rfl rfl rfl rfl ?_ | done
    simp (maxSteps := 400000) -dsimp -implicitDefEqProofs (disch := first | exact TrueB.mk rfl | omega) only [go_sem, Nat.reduceMul, Nat.reduceAdd, Nat.reduceLT, Nat.reduceLeDiff, Nat.reducePow, Nat.reduceEqDiff, ↓reduceIte, reduceCtorEq, Int.reduceToNat]
    first | exact end_bool rfl (by simp) | done
  · have d1 := decide_eq_false h1
    simp (maxSteps := 400000) -dsimp -implicitDefEqProofs (disch := first | exact TrueB.mk rfl | omega) only [go_sem, Nat.reduceMul, Nat.reduceAdd, Nat.reduceLT, Nat.reduceLeDiff, Nat.reducePow, Nat.reduceEqDiff, ↓reduceIte, reduceCtorEq, Int.reduceToNat, h1, d1, beq_same]
    first | refine wpAct_call0 (c5 (by omega) (by omega) _ _) rfl rfl rfl rfl rfl rfl rfl rfl ?_ | done
    simp (maxSteps := 400000) -dsimp -implicitDefEqProofs (disch := first | exact TrueB.mk rfl | omega) only [go_sem, Nat.reduceMul, Nat.reduceAdd, Nat.reduceLT, Nat.reduceLeDiff, Nat.reducePow, Nat.reduceEqDiff, ↓reduceIte, reduceCtorEq, Int.reduceToNat, h1, d1, beq_same]
    first | refine wpAct_call0 (c4 _ _) rfl rfl rfl rfl rfl rfl rfl rfl ?_ | done
    simp (maxSteps := 400000) -dsimp -implicitDefEqProofs (disch := first | exact TrueB.mk rfl | omega) only [go_sem, Nat.reduceMul, Nat.reduceAdd, Nat.reduceLT, Nat.reduceLeDiff, Nat.reducePow, Nat.reduceEqDiff, ↓reduceIte, reduceCtorEq, Int.reduceToNat, h1, d1, beq_same]
    first | refine wpAct_call0 (c6 (by omega) (by omega) _ _) rfl rfl rfl rfl rfl rfl rfl rfl ?_ | done
    simp (maxSteps := 400000) -dsimp -implicitDefEqProofs (disch := first | exact TrueB.mk rfl | omega) only [go_sem, Nat.reduceMul, Nat.reduceAdd, Nat.reduceLT, Nat.reduceLeDiff, Nat.reducePow, Nat.reduceEqDiff, ↓reduceIte, reduceCtorEq, Int.reduceToNat]
    first | exact end_bool rfl (by simp) | done
end Go.Proofs.Ytpgklagjjimbhaa
