/- YtpgklagjjimbhaaU: what an answer does; the law ReplyEvents over the evaluator. No claim. -/
import Derived.Test.YtpgklagjjimbhaaT
set_option linter.unusedVariables false
set_option linter.unusedSimpArgs false
set_option maxRecDepth 100000
namespace Go.Proofs.Ytpgklagjjimbhaa
open Go Go.Proofs.Ytpgklagjjimbhaa.V

def mayP (p : Pkt) : Bool := decide ((p.2.2.length : Int) ≤ 3000) && decide (badP p = 0)
theorem mayP_len {p : Pkt} (h : mayP p = true) : p.2.2.length ≤ 3000 ∧ badP p = 0 := by
  unfold mayP at h
  simp only [Bool.and_eq_true, decide_eq_true_eq] at h
  exact ⟨by omega, h.2⟩

set_option maxHeartbeats 4000000 in
theorem may_any (p : Pkt) (m : Bool) : Runs Try.prog env 67 [.pure m (pktV p)] [] (.pure true (.bool (mayP p))) [] := by
  obtain ⟨z, hz, c⟩ := refPktPut_all p (m && false)
  unfold mayP
  refine Runs.of Try.func67 rfl (by simp [Try.ntmps67]) ?_
  unfold pktV at c ⊢
  simp (maxSteps := 400000) -dsimp -implicitDefEqProofs (disch := first | exact TrueB.mk rfl | omega) only [go_sem, Nat.reduceMul, Nat.reduceAdd, Nat.reduceLT, Nat.reduceLeDiff, Nat.reducePow, Nat.reduceEqDiff, ↓reduceIte, reduceCtorEq, Int.reduceToNat, Try.ntmps67]
  first | refine wpAct_callG (c) rfl rfl rfl rfl rfl rfl rfl rfl rfl ?_ | done
  simp (maxSteps := 400000) -dsimp -implicitDefEqProofs (disch := first | exact TrueB.mk rfl | omega) only [go_sem, Nat.reduceMul, Nat.reduceAdd, Nat.reduceLT, Nat.reduceLeDiff, Nat.reducePow, Nat.reduceEqDiff, ↓reduceIte, reduceCtorEq, Int.reduceToNat]
  first | refine condK_dec (fun h => ?_) (fun h => ?_) | refine condK_ndec (fun h => ?_) (fun h => ?_) | refine condK_beq (fun h => ?_) (fun h => ?_) | refine condK_bne (fun h => ?_) (fun h => ?_) | refine condK_nbeq (fun h => ?_) (fun h => ?_) | refine guardK_dec (fun h => ?_) (fun h => ?_) | refine guardK_ndec (fun h => ?_) (fun h => ?_) | refine guardK_beq (fun h => ?_) (fun h => ?_) | refine guardK_bne (fun h => ?_) (fun h => ?_) | refine guardK_nbeq (fun h => ?_) (fun h => ?_) | refine condK_not (fun h => ?_) (fun h => ?_) | refine guardK_not (fun h => ?_) (fun h => ?_) | refine condK_bool (fun h => ?_) (fun h => ?_) | refine guardK_bool (fun h => ?_) (fun h => ?_) | done
  · simp (maxSteps := 400000) -dsimp -implicitDefEqProofs (disch := first | exact TrueB.mk rfl | omega) only [go_sem, Nat.reduceMul, Nat.reduceAdd, Nat.reduceLT, Nat.reduceLeDiff, Nat.reducePow, Nat.reduceEqDiff, ↓reduceIte, reduceCtorEq, Int.reduceToNat]
    have e : (((badP p : Nat) : Int) == 0) = decide (badP p = 0) := by
      by_cases h0 : badP p = 0
      · rw [h0]; rfl
      · rw [decide_eq_false h0]; simp; exact h0
    first | exact end_bool rfl e | done
  · simp (maxSteps := 400000) -dsimp -implicitDefEqProofs (disch := first | exact TrueB.mk rfl | omega) only [go_sem, Nat.reduceMul, Nat.reduceAdd, Nat.reduceLT, Nat.reduceLeDiff, Nat.reducePow, Nat.reduceEqDiff, ↓reduceIte, reduceCtorEq, Int.reduceToNat]
    first | exact end_bool rfl rfl | done

/-- One protocol's part of an endpoint: state, rest, Naks, was sent, was answered, Id, options. -/
structure Lnk where
  s : Int
  r : Int
  n : Int
  sent : Bool
  ans : Bool
  id : Int
  opts : List UInt8
def lnkV (l : Lnk) : PV := .agg [.int .i64 l.s, .int .i64 l.r, .int .i64 l.n, .bool l.sent, .bool l.ans, .int .i64 l.id, .str l.opts]
def reqP (l : Lnk) : Pkt := (1, l.id, l.opts)
def eventP (l : Lnk) (p : Pkt) : Nat :=
  if l.sent = true ∧ p.2.1 = l.id then
    (if p.1 = 2 then (if p.2.2 = l.opts then 9 else 0)
     else if p.1 = 3 then (if (optsP p).2 = true ∧ 0 < (optsP p).1.length then 10 else 0)
     else if p.1 = 4 then (if rejsP (reqP l) p = true then 10 else 0) else 0)
  else 0

set_option maxHeartbeats 8000000 in
theorem event_any (l : Lnk) (p : Pkt) (hl : l.opts.length ≤ 100000) (hp : p.2.2.length ≤ 100000) (m m' : Bool) : Runs Try.prog env 74 [.pure m (lnkV l), .pure m' (pktV p)] [] (.pure true (.int .i64 (eventP l p : Nat))) [] := by
  have c1 := fun m => pktOptions_any p hp m
  have c2 := fun m m' => rejects_any (reqP l) p hl hp m m'
  have c3 := fun m m' => acks_any (reqP l) p m m'
  unfold eventP
  generalize rejsP (reqP l) p = rj at *
  have hak : acksP (reqP l) p = (decide (p.1 = 2) && decide (p.2.1 = l.id) && (p.2.2 == l.opts)) := by unfold acksP reqP; simp
  rw [hak] at c3
  have hol := optsP_len p
  generalize optsP p = A at *
  unfold reqP at c2 c3
  unfold pktV at *
  unfold lnkV
  refine Runs.of Try.func74 rfl (by simp [Try.ntmps74]) ?_
  cases hs : l.sent with
  | false =>
    rw [if_neg (by simp)]
    simp (maxSteps := 400000) -dsimp -implicitDefEqProofs (disch := first | exact TrueB.mk rfl | omega) only [go_sem, Nat.reduceMul, Nat.reduceAdd, Nat.reduceLT, Nat.reduceLeDiff, Nat.reducePow, Nat.reduceEqDiff, ↓reduceIte, reduceCtorEq, Int.reduceToNat, Try.ntmps74, hs]
    first | exact end_int rfl rfl | done
  | true =>
    by_cases h1 : p.2.1 = l.id
    · rw [if_pos ⟨rfl, h1⟩]
      by_cases h2 : p.1 = 2
      · rw [if_pos h2]
        have e3 : (decide (p.1 = 2) && decide (p.2.1 = l.id) && (p.2.2 == l.opts)) = (p.2.2 == l.opts) := by rw [decide_eq_true h2, decide_eq_true h1]; rfl
        rw [e3] at c3
        simp (maxSteps := 400000) -dsimp -implicitDefEqProofs (disch := first | exact TrueB.mk rfl | omega) only [go_sem, Nat.reduceMul, Nat.reduceAdd, Nat.reduceLT, Nat.reduceLeDiff, Nat.reducePow, Nat.reduceEqDiff, ↓reduceIte, reduceCtorEq, Int.reduceToNat, Try.ntmps74, hs]
        first | refine wpAct_call0 (c3 _ _) rfl rfl rfl rfl rfl rfl rfl rfl ?_ | done
        simp (maxSteps := 400000) -dsimp -implicitDefEqProofs (disch := first | exact TrueB.mk rfl | omega) only [go_sem, Nat.reduceMul, Nat.reduceAdd, Nat.reduceLT, Nat.reduceLeDiff, Nat.reducePow, Nat.reduceEqDiff, ↓reduceIte, reduceCtorEq, Int.reduceToNat]
        first | refine condK_dec (fun h3 => ?_) (fun h3 => ?_) | refine condK_ndec (fun h3 => ?_) (fun h3 => ?_) | refine condK_beq (fun h3 => ?_) (fun h3 => ?_) | refine condK_bne (fun h3 => ?_) (fun h3 => ?_) | refine condK_nbeq (fun h3 => ?_) (fun h3 => ?_) | refine guardK_dec (fun h3 => ?_) (fun h3 => ?_) | refine guardK_ndec (fun h3 => ?_) (fun h3 => ?_) | refine guardK_beq (fun h3 => ?_) (fun h3 => ?_) | refine guardK_bne (fun h3 => ?_) (fun h3 => ?_) | refine guardK_nbeq (fun h3 => ?_) (fun h3 => ?_) | refine condK_not (fun h3 => ?_) (fun h3 => ?_) | refine guardK_not (fun h3 => ?_) (fun h3 => ?_) | refine condK_bool (fun h3 => ?_) (fun h3 => ?_) | refine guardK_bool (fun h3 => ?_) (fun h3 => ?_) | done
        · rw [if_pos h3]
          simp (maxSteps := 400000) -dsimp -implicitDefEqProofs (disch := first | exact TrueB.mk rfl | omega) only [go_sem, Nat.reduceMul, Nat.reduceAdd, Nat.reduceLT, Nat.reduceLeDiff, Nat.reducePow, Nat.reduceEqDiff, ↓reduceIte, reduceCtorEq, Int.reduceToNat]
          first | exact end_int rfl rfl | done
        · rw [if_neg h3]
          simp (maxSteps := 400000) -dsimp -implicitDefEqProofs (disch := first | exact TrueB.mk rfl | omega) only [go_sem, Nat.reduceMul, Nat.reduceAdd, Nat.reduceLT, Nat.reduceLeDiff, Nat.reducePow, Nat.reduceEqDiff, ↓reduceIte, reduceCtorEq, Int.reduceToNat]
          first | exact end_int rfl rfl | done
      · rw [if_neg h2]
        by_cases h3 : p.1 = 3
        · rw [if_pos h3]
          simp (maxSteps := 400000) -dsimp -implicitDefEqProofs (disch := first | exact TrueB.mk rfl | omega) only [go_sem, Nat.reduceMul, Nat.reduceAdd, Nat.reduceLT, Nat.reduceLeDiff, Nat.reducePow, Nat.reduceEqDiff, ↓reduceIte, reduceCtorEq, Int.reduceToNat, Try.ntmps74, hs]
          first | refine wpAct_callG (c1 _) rfl rfl rfl rfl rfl rfl rfl rfl rfl ?_ | done
          cases ha : A.2 with
          | false =>
            rw [if_neg (by simp)]
            simp (maxSteps := 400000) -dsimp -implicitDefEqProofs (disch := first | exact TrueB.mk rfl | omega) only [go_sem, Nat.reduceMul, Nat.reduceAdd, Nat.reduceLT, Nat.reduceLeDiff, Nat.reducePow, Nat.reduceEqDiff, ↓reduceIte, reduceCtorEq, Int.reduceToNat, ha]
            first | exact end_int rfl rfl | done
          | true =>
            simp (maxSteps := 400000) -dsimp -implicitDefEqProofs (disch := first | exact TrueB.mk rfl | omega) only [go_sem, Nat.reduceMul, Nat.reduceAdd, Nat.reduceLT, Nat.reduceLeDiff, Nat.reducePow, Nat.reduceEqDiff, ↓reduceIte, reduceCtorEq, Int.reduceToNat, ha]
            first | refine condK_dec (fun h4 => ?_) (fun h4 => ?_) | refine condK_ndec (fun h4 => ?_) (fun h4 => ?_) | refine condK_beq (fun h4 => ?_) (fun h4 => ?_) | refine condK_bne (fun h4 => ?_) (fun h4 => ?_) | refine condK_nbeq (fun h4 => ?_) (fun h4 => ?_) | refine guardK_dec (fun h4 => ?_) (fun h4 => ?_) | refine guardK_ndec (fun h4 => ?_) (fun h4 => ?_) | refine guardK_beq (fun h4 => ?_) (fun h4 => ?_) | refine guardK_bne (fun h4 => ?_) (fun h4 => ?_) | refine guardK_nbeq (fun h4 => ?_) (fun h4 => ?_) | refine condK_not (fun h4 => ?_) (fun h4 => ?_) | refine guardK_not (fun h4 => ?_) (fun h4 => ?_) | refine condK_bool (fun h4 => ?_) (fun h4 => ?_) | refine guardK_bool (fun h4 => ?_) (fun h4 => ?_) | done
            · rw [if_pos ⟨rfl, by omega⟩]
              simp (maxSteps := 400000) -dsimp -implicitDefEqProofs (disch := first | exact TrueB.mk rfl | omega) only [go_sem, Nat.reduceMul, Nat.reduceAdd, Nat.reduceLT, Nat.reduceLeDiff, Nat.reducePow, Nat.reduceEqDiff, ↓reduceIte, reduceCtorEq, Int.reduceToNat]
              first | exact end_int rfl rfl | done
            · rw [if_neg (by omega)]
              simp (maxSteps := 400000) -dsimp -implicitDefEqProofs (disch := first | exact TrueB.mk rfl | omega) only [go_sem, Nat.reduceMul, Nat.reduceAdd, Nat.reduceLT, Nat.reduceLeDiff, Nat.reducePow, Nat.reduceEqDiff, ↓reduceIte, reduceCtorEq, Int.reduceToNat]
              first | exact end_int rfl rfl | done
        · rw [if_neg h3]
          by_cases h4 : p.1 = 4
          · rw [if_pos h4]
            simp (maxSteps := 400000) -dsimp -implicitDefEqProofs (disch := first | exact TrueB.mk rfl | omega) only [go_sem, Nat.reduceMul, Nat.reduceAdd, Nat.reduceLT, Nat.reduceLeDiff, Nat.reducePow, Nat.reduceEqDiff, ↓reduceIte, reduceCtorEq, Int.reduceToNat, Try.ntmps74, hs]
            first | refine wpAct_call0 (c2 _ _) rfl rfl rfl rfl rfl rfl rfl rfl ?_ | done
            simp (maxSteps := 400000) -dsimp -implicitDefEqProofs (disch := first | exact TrueB.mk rfl | omega) only [go_sem, Nat.reduceMul, Nat.reduceAdd, Nat.reduceLT, Nat.reduceLeDiff, Nat.reducePow, Nat.reduceEqDiff, ↓reduceIte, reduceCtorEq, Int.reduceToNat]
            first | refine condK_dec (fun h5 => ?_) (fun h5 => ?_) | refine condK_ndec (fun h5 => ?_) (fun h5 => ?_) | refine condK_beq (fun h5 => ?_) (fun h5 => ?_) | refine condK_bne (fun h5 => ?_) (fun h5 => ?_) | refine condK_nbeq (fun h5 => ?_) (fun h5 => ?_) | refine guardK_dec (fun h5 => ?_) (fun h5 => ?_) | refine guardK_ndec (fun h5 => ?_) (fun h5 => ?_) | refine guardK_beq (fun h5 => ?_) (fun h5 => ?_) | refine guardK_bne (fun h5 => ?_) (fun h5 => ?_) | refine guardK_nbeq (fun h5 => ?_) (fun h5 => ?_) | refine condK_not (fun h5 => ?_) (fun h5 => ?_) | refine guardK_not (fun h5 => ?_) (fun h5 => ?_) | refine condK_bool (fun h5 => ?_) (fun h5 => ?_) | refine guardK_bool (fun h5 => ?_) (fun h5 => ?_) | done
            · rw [if_pos h5]
              simp (maxSteps := 400000) -dsimp -implicitDefEqProofs (disch := first | exact TrueB.mk rfl | omega) only [go_sem, Nat.reduceMul, Nat.reduceAdd, Nat.reduceLT, Nat.reduceLeDiff, Nat.reducePow, Nat.reduceEqDiff, ↓reduceIte, reduceCtorEq, Int.reduceToNat]
              first | exact end_int rfl rfl | done
            · rw [if_neg (by simp [h5])]
              simp (maxSteps := 400000) -dsimp -implicitDefEqProofs (disch := first | exact TrueB.mk rfl | omega) only [go_sem, Nat.reduceMul, Nat.reduceAdd, Nat.reduceLT, Nat.reduceLeDiff, Nat.reducePow, Nat.reduceEqDiff, ↓reduceIte, reduceCtorEq, Int.reduceToNat]
              first | exact end_int rfl rfl | done
          · rw [if_neg h4]
            simp (maxSteps := 400000) -dsimp -implicitDefEqProofs (disch := first | exact TrueB.mk rfl | omega) only [go_sem, Nat.reduceMul, Nat.reduceAdd, Nat.reduceLT, Nat.reduceLeDiff, Nat.reducePow, Nat.reduceEqDiff, ↓reduceIte, reduceCtorEq, Int.reduceToNat, Try.ntmps74, hs]
            first | exact end_int rfl rfl | done
    · rw [if_neg (by simp [h1])]
      simp (maxSteps := 400000) -dsimp -implicitDefEqProofs (disch := first | exact TrueB.mk rfl | omega) only [go_sem, Nat.reduceMul, Nat.reduceAdd, Nat.reduceLT, Nat.reduceLeDiff, Nat.reducePow, Nat.reduceEqDiff, ↓reduceIte, reduceCtorEq, Int.reduceToNat, Try.ntmps74, hs]
      first | exact end_int rfl rfl | done

theorem rejs_event (l : Lnk) (p : Pkt) (h1 : p.2.1 = l.id) (h4 : p.1 = 4) : rejsP (reqP l) p = ((readO l.opts).2.2 == 0 && ((optsP p).2 && decide ((0 : Int) < ((optsP p).1.length : Int))) && within (optsP p).1 (readO l.opts).1) := by
  unfold rejsP bothP
  have hf : fitsP (reqP l) p 4 = true := by unfold fitsP reqP; simp [h1, h4]
  have ho : optsP (reqP l) = ((readO l.opts).1, decide ((readO l.opts).2.2 = 0)) := by
    unfold optsP
    rw [if_pos (by unfold reqP; simp)]
    rfl
  rw [if_pos hf, ho]
  simp only
  have : decide ((readO l.opts).2.2 = 0) = ((readO l.opts).2.2 == 0) := rfl
  rw [this]
  cases ((readO l.opts).2.2 == 0) <;> cases (optsP p).2 <;> simp

set_option maxHeartbeats 8000000 in
theorem refEvent_any (l : Lnk) (p : Pkt) (hl : l.opts.length ≤ 100000) (hp : p.2.2.length ≤ 100000) (m m' : Bool) : Runs Try.prog env 75 [.pure m (lnkV l), .pure m' (pktV p)] [] (.pure true (.int .i64 (eventP l p : Nat))) [] := by
  have c1 := fun m => refPktOptions_any p hp m
  have c2 := fun m => refRead_any l.opts (by omega) m
  have hol := optsP_len p
  have hrl := readO_len l.opts
  have hrj := rejs_event l p
  have hop : ¬ (1 ≤ p.1 ∧ p.1 ≤ 4) → optsP p = ([], false) := fun h => if_neg h
  unfold eventP
  generalize rejsP (reqP l) p = rj at *
  generalize optsP p = A at *
  generalize readO l.opts = B at *
  unfold pktV at *
  unfold lnkV
  refine Runs.of Try.func75 rfl (by simp [Try.ntmps75]) ?_
  cases hs : l.sent with
  | false =>
    rw [if_neg (by simp)]
    simp (maxSteps := 400000) -dsimp -implicitDefEqProofs (disch := first | exact TrueB.mk rfl | omega) only [go_sem, Nat.reduceMul, Nat.reduceAdd, Nat.reduceLT, Nat.reduceLeDiff, Nat.reducePow, Nat.reduceEqDiff, ↓reduceIte, reduceCtorEq, Int.reduceToNat, Try.ntmps75, hs]
    first | exact end_int rfl rfl | done
  | true =>
    by_cases h1 : p.2.1 = l.id
    · rw [if_pos ⟨rfl, h1⟩]
      by_cases h2 : p.1 = 2
      · rw [if_pos h2]
        simp (maxSteps := 400000) -dsimp -implicitDefEqProofs (disch := first | exact TrueB.mk rfl | omega) only [go_sem, Nat.reduceMul, Nat.reduceAdd, Nat.reduceLT, Nat.reduceLeDiff, Nat.reducePow, Nat.reduceEqDiff, ↓reduceIte, reduceCtorEq, Int.reduceToNat, Try.ntmps75, hs]
        first | refine condK_dec (fun h3 => ?_) (fun h3 => ?_) | refine condK_ndec (fun h3 => ?_) (fun h3 => ?_) | refine condK_beq (fun h3 => ?_) (fun h3 => ?_) | refine condK_bne (fun h3 => ?_) (fun h3 => ?_) | refine condK_nbeq (fun h3 => ?_) (fun h3 => ?_) | refine guardK_dec (fun h3 => ?_) (fun h3 => ?_) | refine guardK_ndec (fun h3 => ?_) (fun h3 => ?_) | refine guardK_beq (fun h3 => ?_) (fun h3 => ?_) | refine guardK_bne (fun h3 => ?_) (fun h3 => ?_) | refine guardK_nbeq (fun h3 => ?_) (fun h3 => ?_) | refine condK_not (fun h3 => ?_) (fun h3 => ?_) | refine guardK_not (fun h3 => ?_) (fun h3 => ?_) | refine condK_bool (fun h3 => ?_) (fun h3 => ?_) | refine guardK_bool (fun h3 => ?_) (fun h3 => ?_) | done
        · rw [if_pos h3]
          simp (maxSteps := 400000) -dsimp -implicitDefEqProofs (disch := first | exact TrueB.mk rfl | omega) only [go_sem, Nat.reduceMul, Nat.reduceAdd, Nat.reduceLT, Nat.reduceLeDiff, Nat.reducePow, Nat.reduceEqDiff, ↓reduceIte, reduceCtorEq, Int.reduceToNat]
          first | exact end_int rfl rfl | done
        · rw [if_neg h3]
          simp (maxSteps := 400000) -dsimp -implicitDefEqProofs (disch := first | exact TrueB.mk rfl | omega) only [go_sem, Nat.reduceMul, Nat.reduceAdd, Nat.reduceLT, Nat.reduceLeDiff, Nat.reducePow, Nat.reduceEqDiff, ↓reduceIte, reduceCtorEq, Int.reduceToNat]
          first | refine wpAct_callG (c1 _) rfl rfl rfl rfl rfl rfl rfl rfl rfl ?_ | done
          simp (maxSteps := 400000) -dsimp -implicitDefEqProofs (disch := first | exact TrueB.mk rfl | omega) only [go_sem, Nat.reduceMul, Nat.reduceAdd, Nat.reduceLT, Nat.reduceLeDiff, Nat.reducePow, Nat.reduceEqDiff, ↓reduceIte, reduceCtorEq, Int.reduceToNat]
          first | refine wpAct_callG (c2 _) rfl rfl rfl rfl (argV_r rfl (bytesOf_length _).symm argV_nil) rfl rfl rfl rfl ?_ | done
          simp (maxSteps := 400000) -dsimp -implicitDefEqProofs (disch := first | exact TrueB.mk rfl | omega) only [go_sem, Nat.reduceMul, Nat.reduceAdd, Nat.reduceLT, Nat.reduceLeDiff, Nat.reducePow, Nat.reduceEqDiff, ↓reduceIte, reduceCtorEq, Int.reduceToNat]
          first | exact end_int rfl rfl | done
      · rw [if_neg h2]
        by_cases h3 : p.1 = 3
        · rw [if_pos h3]
          simp (maxSteps := 400000) -dsimp -implicitDefEqProofs (disch := first | exact TrueB.mk rfl | omega) only [go_sem, Nat.reduceMul, Nat.reduceAdd, Nat.reduceLT, Nat.reduceLeDiff, Nat.reducePow, Nat.reduceEqDiff, ↓reduceIte, reduceCtorEq, Int.reduceToNat, Try.ntmps75, hs]
          first | refine wpAct_callG (c1 _) rfl rfl rfl rfl rfl rfl rfl rfl rfl ?_ | done
          cases ha : A.2 with
          | false =>
            rw [if_neg (by simp)]
            simp (maxSteps := 400000) -dsimp -implicitDefEqProofs (disch := first | exact TrueB.mk rfl | omega) only [go_sem, Nat.reduceMul, Nat.reduceAdd, Nat.reduceLT, Nat.reduceLeDiff, Nat.reducePow, Nat.reduceEqDiff, ↓reduceIte, reduceCtorEq, Int.reduceToNat, ha]
            first | refine wpAct_callG (c2 _) rfl rfl rfl rfl (argV_r rfl (bytesOf_length _).symm argV_nil) rfl rfl rfl rfl ?_ | done
            simp (maxSteps := 400000) -dsimp -implicitDefEqProofs (disch := first | exact TrueB.mk rfl | omega) only [go_sem, Nat.reduceMul, Nat.reduceAdd, Nat.reduceLT, Nat.reduceLeDiff, Nat.reducePow, Nat.reduceEqDiff, ↓reduceIte, reduceCtorEq, Int.reduceToNat]
            first | exact end_int rfl rfl | done
          | true =>
            simp (maxSteps := 400000) -dsimp -implicitDefEqProofs (disch := first | exact TrueB.mk rfl | omega) only [go_sem, Nat.reduceMul, Nat.reduceAdd, Nat.reduceLT, Nat.reduceLeDiff, Nat.reducePow, Nat.reduceEqDiff, ↓reduceIte, reduceCtorEq, Int.reduceToNat, ha]
            first | refine condK_dec (fun h4 => ?_) (fun h4 => ?_) | refine condK_ndec (fun h4 => ?_) (fun h4 => ?_) | refine condK_beq (fun h4 => ?_) (fun h4 => ?_) | refine condK_bne (fun h4 => ?_) (fun h4 => ?_) | refine condK_nbeq (fun h4 => ?_) (fun h4 => ?_) | refine guardK_dec (fun h4 => ?_) (fun h4 => ?_) | refine guardK_ndec (fun h4 => ?_) (fun h4 => ?_) | refine guardK_beq (fun h4 => ?_) (fun h4 => ?_) | refine guardK_bne (fun h4 => ?_) (fun h4 => ?_) | refine guardK_nbeq (fun h4 => ?_) (fun h4 => ?_) | refine condK_not (fun h4 => ?_) (fun h4 => ?_) | refine guardK_not (fun h4 => ?_) (fun h4 => ?_) | refine condK_bool (fun h4 => ?_) (fun h4 => ?_) | refine guardK_bool (fun h4 => ?_) (fun h4 => ?_) | done
            · first | rw [if_pos (show 0 < A.1.length by omega)] | rw [if_pos ⟨rfl, by omega⟩]
              simp (maxSteps := 400000) -dsimp -implicitDefEqProofs (disch := first | exact TrueB.mk rfl | omega) only [go_sem, Nat.reduceMul, Nat.reduceAdd, Nat.reduceLT, Nat.reduceLeDiff, Nat.reducePow, Nat.reduceEqDiff, ↓reduceIte, reduceCtorEq, Int.reduceToNat]
              first | exact end_int rfl rfl | done
            · rw [if_neg (by omega)]
              simp (maxSteps := 400000) -dsimp -implicitDefEqProofs (disch := first | exact TrueB.mk rfl | omega) only [go_sem, Nat.reduceMul, Nat.reduceAdd, Nat.reduceLT, Nat.reduceLeDiff, Nat.reducePow, Nat.reduceEqDiff, ↓reduceIte, reduceCtorEq, Int.reduceToNat]
              first | refine wpAct_callG (c2 _) rfl rfl rfl rfl (argV_r rfl (bytesOf_length _).symm argV_nil) rfl rfl rfl rfl ?_ | done
              simp (maxSteps := 400000) -dsimp -implicitDefEqProofs (disch := first | exact TrueB.mk rfl | omega) only [go_sem, Nat.reduceMul, Nat.reduceAdd, Nat.reduceLT, Nat.reduceLeDiff, Nat.reducePow, Nat.reduceEqDiff, ↓reduceIte, reduceCtorEq, Int.reduceToNat]
              first | exact end_int rfl rfl | done
        · rw [if_neg h3]
          by_cases h4 : p.1 = 4
          · rw [if_pos h4, hrj h1 h4]
            simp (maxSteps := 400000) -dsimp -implicitDefEqProofs (disch := first | exact TrueB.mk rfl | omega) only [go_sem, Nat.reduceMul, Nat.reduceAdd, Nat.reduceLT, Nat.reduceLeDiff, Nat.reducePow, Nat.reduceEqDiff, ↓reduceIte, reduceCtorEq, Int.reduceToNat, Try.ntmps75, hs]
            first | refine wpAct_callG (c1 _) rfl rfl rfl rfl rfl rfl rfl rfl rfl ?_ | done
            simp (maxSteps := 400000) -dsimp -implicitDefEqProofs (disch := first | exact TrueB.mk rfl | omega) only [go_sem, Nat.reduceMul, Nat.reduceAdd, Nat.reduceLT, Nat.reduceLeDiff, Nat.reducePow, Nat.reduceEqDiff, ↓reduceIte, reduceCtorEq, Int.reduceToNat]
            first | refine wpAct_callG (c2 _) rfl rfl rfl rfl (argV_r rfl (bytesOf_length _).symm argV_nil) rfl rfl rfl rfl ?_ | done
            cases ha : A.2 with
            | false =>
              rw [if_neg (by simp)]
              simp (maxSteps := 400000) -dsimp -implicitDefEqProofs (disch := first | exact TrueB.mk rfl | omega) only [go_sem, Nat.reduceMul, Nat.reduceAdd, Nat.reduceLT, Nat.reduceLeDiff, Nat.reducePow, Nat.reduceEqDiff, ↓reduceIte, reduceCtorEq, Int.reduceToNat, ha]
              first | exact end_int rfl rfl | done
            | true =>
              simp (maxSteps := 400000) -dsimp -implicitDefEqProofs (disch := first | exact TrueB.mk rfl | omega) only [go_sem, Nat.reduceMul, Nat.reduceAdd, Nat.reduceLT, Nat.reduceLeDiff, Nat.reducePow, Nat.reduceEqDiff, ↓reduceIte, reduceCtorEq, Int.reduceToNat, ha]
              first | refine condK_dec (fun h5 => ?_) (fun h5 => ?_) | refine condK_ndec (fun h5 => ?_) (fun h5 => ?_) | refine condK_beq (fun h5 => ?_) (fun h5 => ?_) | refine condK_bne (fun h5 => ?_) (fun h5 => ?_) | refine condK_nbeq (fun h5 => ?_) (fun h5 => ?_) | refine guardK_dec (fun h5 => ?_) (fun h5 => ?_) | refine guardK_ndec (fun h5 => ?_) (fun h5 => ?_) | refine guardK_beq (fun h5 => ?_) (fun h5 => ?_) | refine guardK_bne (fun h5 => ?_) (fun h5 => ?_) | refine guardK_nbeq (fun h5 => ?_) (fun h5 => ?_) | refine condK_not (fun h5 => ?_) (fun h5 => ?_) | refine guardK_not (fun h5 => ?_) (fun h5 => ?_) | refine condK_bool (fun h5 => ?_) (fun h5 => ?_) | refine guardK_bool (fun h5 => ?_) (fun h5 => ?_) | done
              · simp (maxSteps := 400000) -dsimp -implicitDefEqProofs (disch := first | exact TrueB.mk rfl | omega) only [go_sem, Nat.reduceMul, Nat.reduceAdd, Nat.reduceLT, Nat.reduceLeDiff, Nat.reducePow, Nat.reduceEqDiff, ↓reduceIte, reduceCtorEq, Int.reduceToNat]
                first | refine condK_dec (fun h6 => ?_) (fun h6 => ?_) | refine condK_ndec (fun h6 => ?_) (fun h6 => ?_) | refine condK_beq (fun h6 => ?_) (fun h6 => ?_) | refine condK_bne (fun h6 => ?_) (fun h6 => ?_) | refine condK_nbeq (fun h6 => ?_) (fun h6 => ?_) | refine guardK_dec (fun h6 => ?_) (fun h6 => ?_) | refine guardK_ndec (fun h6 => ?_) (fun h6 => ?_) | refine guardK_beq (fun h6 => ?_) (fun h6 => ?_) | refine guardK_bne (fun h6 => ?_) (fun h6 => ?_) | refine guardK_nbeq (fun h6 => ?_) (fun h6 => ?_) | refine condK_not (fun h6 => ?_) (fun h6 => ?_) | refine guardK_not (fun h6 => ?_) (fun h6 => ?_) | refine condK_bool (fun h6 => ?_) (fun h6 => ?_) | refine guardK_bool (fun h6 => ?_) (fun h6 => ?_) | done
                · have h6' : B.2.2 = 0 := by omega
                  simp (maxSteps := 400000) -dsimp -implicitDefEqProofs (disch := first | exact TrueB.mk rfl | omega) only [go_sem, Nat.reduceMul, Nat.reduceAdd, Nat.reduceLT, Nat.reduceLeDiff, Nat.reducePow, Nat.reduceEqDiff, ↓reduceIte, reduceCtorEq, Int.reduceToNat]
                  first | refine wpAct_callF (refWithin_any A.1 B.1 (by omega) (by omega) _ _) rfl rfl rfl rfl (argV_r rfl (optsV_length _).symm (argV_r rfl (optsV_length _).symm argV_nil)) rfl rfl rfl rfl ?_ | done
                  simp (maxSteps := 400000) -dsimp -implicitDefEqProofs (disch := first | exact TrueB.mk rfl | omega) only [go_sem, Nat.reduceMul, Nat.reduceAdd, Nat.reduceLT, Nat.reduceLeDiff, Nat.reducePow, Nat.reduceEqDiff, ↓reduceIte, reduceCtorEq, Int.reduceToNat]
                  first | refine condK_dec (fun h7 => ?_) (fun h7 => ?_) | refine condK_ndec (fun h7 => ?_) (fun h7 => ?_) | refine condK_beq (fun h7 => ?_) (fun h7 => ?_) | refine condK_bne (fun h7 => ?_) (fun h7 => ?_) | refine condK_nbeq (fun h7 => ?_) (fun h7 => ?_) | refine guardK_dec (fun h7 => ?_) (fun h7 => ?_) | refine guardK_ndec (fun h7 => ?_) (fun h7 => ?_) | refine guardK_beq (fun h7 => ?_) (fun h7 => ?_) | refine guardK_bne (fun h7 => ?_) (fun h7 => ?_) | refine guardK_nbeq (fun h7 => ?_) (fun h7 => ?_) | refine condK_not (fun h7 => ?_) (fun h7 => ?_) | refine guardK_not (fun h7 => ?_) (fun h7 => ?_) | refine condK_bool (fun h7 => ?_) (fun h7 => ?_) | refine guardK_bool (fun h7 => ?_) (fun h7 => ?_) | done
                  · simp (maxSteps := 400000) -dsimp -implicitDefEqProofs (disch := first | exact TrueB.mk rfl | omega) only [go_sem, Nat.reduceMul, Nat.reduceAdd, Nat.reduceLT, Nat.reduceLeDiff, Nat.reducePow, Nat.reduceEqDiff, ↓reduceIte, reduceCtorEq, Int.reduceToNat, h7, h6']
                    first | exact end_int rfl (by simp) | done
                  · simp (maxSteps := 400000) -dsimp -implicitDefEqProofs (disch := first | exact TrueB.mk rfl | omega) only [go_sem, Nat.reduceMul, Nat.reduceAdd, Nat.reduceLT, Nat.reduceLeDiff, Nat.reducePow, Nat.reduceEqDiff, ↓reduceIte, reduceCtorEq, Int.reduceToNat, h7, h6']
                    first | exact end_int rfl (by simp) | done
                · have h6' : ¬ B.2.2 = 0 := by omega
                  rw [if_neg (by simp [h6'])]
                  simp (maxSteps := 400000) -dsimp -implicitDefEqProofs (disch := first | exact TrueB.mk rfl | omega) only [go_sem, Nat.reduceMul, Nat.reduceAdd, Nat.reduceLT, Nat.reduceLeDiff, Nat.reducePow, Nat.reduceEqDiff, ↓reduceIte, reduceCtorEq, Int.reduceToNat]
                  first | exact end_int rfl rfl | done
              · rw [if_neg (by simp only [decide_eq_false h5]; simp)]
                simp (maxSteps := 400000) -dsimp -implicitDefEqProofs (disch := first | exact TrueB.mk rfl | omega) only [go_sem, Nat.reduceMul, Nat.reduceAdd, Nat.reduceLT, Nat.reduceLeDiff, Nat.reducePow, Nat.reduceEqDiff, ↓reduceIte, reduceCtorEq, Int.reduceToNat]
                first | exact end_int rfl rfl | done
          · rw [if_neg h4]
            simp (maxSteps := 400000) -dsimp -implicitDefEqProofs (disch := first | exact TrueB.mk rfl | omega) only [go_sem, Nat.reduceMul, Nat.reduceAdd, Nat.reduceLT, Nat.reduceLeDiff, Nat.reducePow, Nat.reduceEqDiff, ↓reduceIte, reduceCtorEq, Int.reduceToNat, Try.ntmps75, hs]
            first | refine wpAct_callG (c1 _) rfl rfl rfl rfl rfl rfl rfl rfl rfl ?_ | done
            simp (maxSteps := 400000) -dsimp -implicitDefEqProofs (disch := first | exact TrueB.mk rfl | omega) only [go_sem, Nat.reduceMul, Nat.reduceAdd, Nat.reduceLT, Nat.reduceLeDiff, Nat.reducePow, Nat.reduceEqDiff, ↓reduceIte, reduceCtorEq, Int.reduceToNat]
            first | refine wpAct_callG (c2 _) rfl rfl rfl rfl (argV_r rfl (bytesOf_length _).symm argV_nil) rfl rfl rfl rfl ?_ | done
            simp (maxSteps := 400000) -dsimp -implicitDefEqProofs (disch := first | exact TrueB.mk rfl | omega) only [go_sem, Nat.reduceMul, Nat.reduceAdd, Nat.reduceLT, Nat.reduceLeDiff, Nat.reducePow, Nat.reduceEqDiff, ↓reduceIte, reduceCtorEq, Int.reduceToNat]
            first | exact end_int rfl rfl | done
    · rw [if_neg (by simp [h1])]
      simp (maxSteps := 400000) -dsimp -implicitDefEqProofs (disch := first | exact TrueB.mk rfl | omega) only [go_sem, Nat.reduceMul, Nat.reduceAdd, Nat.reduceLT, Nat.reduceLeDiff, Nat.reducePow, Nat.reduceEqDiff, ↓reduceIte, reduceCtorEq, Int.reduceToNat, Try.ntmps75, hs]
      first | exact end_int rfl rfl | done
end Go.Proofs.Ytpgklagjjimbhaa
