/- YtpgklagjjimbhaaO: packets are read by the document; options of packets. No claim. -/
import Derived.Test.YtpgklagjjimbhaaN
import Derived.Test.YtpgklagjjimbhaaI
set_option linter.unusedVariables false
set_option linter.unusedSimpArgs false
set_option maxRecDepth 100000
namespace Go.Proofs.Ytpgklagjjimbhaa
open Go Go.Proofs.Ytpgklagjjimbhaa.V

set_option maxHeartbeats 8000000 in
theorem refPktGet_any (b : List UInt8) (hb : b.length ≤ 1000000) (m : Bool) : Runs Try.prog env 45 [.pure m (.sl (bytesOf b))] [] (.tuple [.pure true (pktV (getP b).1), .pure true (.int .i64 ((getP b).2 : Nat))]) [] := by
  refine Runs.of Try.func45 rfl (by simp [Try.ntmps45]) ?_
  by_cases h4 : b.length < 4
  · rw [getP_short h4]
    simp (maxSteps := 400000) -dsimp -implicitDefEqProofs (disch := first | exact TrueB.mk rfl | omega) only [go_sem, Nat.reduceMul, Nat.reduceAdd, Nat.reduceLT, Nat.reduceLeDiff, Nat.reducePow, Nat.reduceEqDiff, ↓reduceIte, reduceCtorEq, Int.reduceToNat, Try.ntmps45]
    first | (refine Eq.trans (end_cv rfl rfl rfl rfl rfl rfl) ?_; rfl) | done
  · obtain ⟨c, i, u, l, r, rfl⟩ : ∃ c i u l r, b = c :: i :: u :: l :: r := by
      match b, h4 with
      | [], h => simp at h
      | [_], h => simp at h
      | [_, _], h => simp at h
      | [_, _, _], h => simp at h
      | c :: i :: u :: l :: r, _ => exact ⟨c, i, u, l, r, rfl⟩
    have hget : getP (c :: i :: u :: l :: r) = if u.toNat * 256 + l.toNat < 4 then ((0, 0, []), 3)
      else if r.length + 4 < u.toNat * 256 + l.toNat then ((0, 0, []), 2)
      else (((c.toNat : Int), (i.toNat : Int), r.take (u.toNat * 256 + l.toNat - 4)), 0) := rfl
    have g0 : (bytesOf (c :: i :: u :: l :: r))[0]? = some (.int .u8 c.toNat) := rfl
    have g1 : (bytesOf (c :: i :: u :: l :: r))[1]? = some (.int .u8 i.toNat) := rfl
    have g2 : (bytesOf (c :: i :: u :: l :: r))[2]? = some (.int .u8 u.toNat) := rfl
    have g3 : (bytesOf (c :: i :: u :: l :: r))[3]? = some (.int .u8 l.toNat) := rfl
    have gd : (c :: i :: u :: l :: r).drop 4 = r := rfl
    have gl : (c :: i :: u :: l :: r).length = r.length + 4 := rfl
    rw [gl] at hb h4
    have hc := c.toNat_lt
    have hi := i.toNat_lt
    have hu := u.toNat_lt
    have hl := l.toNat_lt
    have ho1 : (256 : Int) * (u.toNat : Int) = ((u.toNat * 256 : Nat) : Int) := by omega
    have ho2 : ((u.toNat * 256 : Nat) : Int) + (l.toNat : Int) = ((u.toNat * 256 + l.toNat : Nat) : Int) := by omega
    generalize hn : u.toNat * 256 + l.toNat = n at *
    generalize c :: i :: u :: l :: r = B at *
    rw [hget]
    by_cases h1 : n < 4
    · rw [if_pos h1]
      simp (maxSteps := 400000) -dsimp -implicitDefEqProofs (disch := first | exact TrueB.mk rfl | omega) only [go_sem, Nat.reduceMul, Nat.reduceAdd, Nat.reduceLT, Nat.reduceLeDiff, Nat.reducePow, Nat.reduceEqDiff, ↓reduceIte, reduceCtorEq, Int.reduceToNat, Try.ntmps45, gl, g2, g3, ho1, ho2]
      first | (refine Eq.trans (end_cv rfl rfl rfl rfl rfl rfl) ?_; rfl) | done
    · rw [if_neg h1]
      by_cases h2 : r.length + 4 < n
      · rw [if_pos h2]
        simp (maxSteps := 400000) -dsimp -implicitDefEqProofs (disch := first | exact TrueB.mk rfl | omega) only [go_sem, Nat.reduceMul, Nat.reduceAdd, Nat.reduceLT, Nat.reduceLeDiff, Nat.reducePow, Nat.reduceEqDiff, ↓reduceIte, reduceCtorEq, Int.reduceToNat, Try.ntmps45, gl, g2, g3, ho1, ho2]
        first | (refine Eq.trans (end_cv rfl rfl rfl rfl rfl rfl) ?_; rfl) | done
      · rw [if_neg h2]
        have hq : (r.take (n - 4)).length ≤ 1000000 := by rw [List.length_take]; omega
        simp (maxSteps := 400000) -dsimp -implicitDefEqProofs (disch := first | exact TrueB.mk rfl | omega) only [go_sem, Nat.reduceMul, Nat.reduceAdd, Nat.reduceLT, Nat.reduceLeDiff, Nat.reducePow, Nat.reduceEqDiff, ↓reduceIte, reduceCtorEq, Int.reduceToNat, Try.ntmps45, gl, gd, g0, g1, g2, g3, ho1, ho2]
        first | (refine Eq.trans (end_cv rfl rfl rfl rfl rfl rfl) ?_; rfl) | done

/-- A Configure packet's options, if these are some. -/
def optsP (p : Pkt) : List Opt × Bool := if 1 ≤ p.1 ∧ p.1 ≤ 4 then ((readO p.2.2).1, decide ((readO p.2.2).2.2 = 0)) else ([], false)

set_option maxHeartbeats 8000000 in
theorem pktOptions_any (p : Pkt) (hp : p.2.2.length ≤ 100000) (m : Bool) : Runs Try.prog env 48 [.pure m (pktV p)] [] (.tuple [.row 0 (optsP p).1.length, .pure true (.bool (optsP p).2)]) [(0, .row true (zOf (optsP p).1) ((optsP p).1.length - 1) (optsV (optsP p).1))] := by
  refine Runs.of Try.func48 rfl (by simp [Try.ntmps48]) ?_
  unfold pktV
  by_cases h : 1 ≤ p.1 ∧ p.1 ≤ 4
  · have e : optsP p = ((readO p.2.2).1, decide ((readO p.2.2).2.2 = 0)) := if_pos h
    rw [e]
    have c := fun m => optRead_any p.2.2 (by omega) m
    have fin : ∀ (L : List Opt) (a e2 : Nat), readO p.2.2 = (L, a, e2) → (decide (a = 0) && decide (e2 = 0)) = decide (e2 = 0) := by
      intro L a e2 hr
      rcases readO_cases p.2.2 with ⟨l, h1, _⟩ | ⟨q, w, h1, h2, _⟩
      · rw [h1] at hr; cases hr; rfl
      · rw [h1] at hr
        cases hr
        have : ¬ e2 = 0 := by omega
        simp [this]
    generalize hr : readO p.2.2 = R at *
    obtain ⟨L, a, e2⟩ := R
    have fin2 := fin L a e2 rfl
    clear fin
    simp only at c ⊢
    rcases (by omega : p.1 = 1 ∨ p.1 = 2 ∨ p.1 = 3 ∨ p.1 = 4) with h1 | h1 | h1 | h1
    · simp (maxSteps := 400000) -dsimp -implicitDefEqProofs (disch := first | exact TrueB.mk rfl | omega) only [go_sem, Nat.reduceMul, Nat.reduceAdd, Nat.reduceLT, Nat.reduceLeDiff, Nat.reducePow, Nat.reduceEqDiff, ↓reduceIte, reduceCtorEq, Int.reduceToNat, Try.ntmps48, h1]
      first | refine wpAct_callG (c _) rfl rfl rfl rfl rfl rfl rfl rfl rfl ?_ | done
      simp (maxSteps := 400000) -dsimp -implicitDefEqProofs (disch := first | exact TrueB.mk rfl | omega) only [go_sem, Nat.reduceMul, Nat.reduceAdd, Nat.reduceLT, Nat.reduceLeDiff, Nat.reducePow, Nat.reduceEqDiff, ↓reduceIte, reduceCtorEq, Int.reduceToNat]
      refine Eq.trans (end_rowT2 rfl rfl rfl (optsV_length _).symm rfl rfl) ?_
      rw [lim_opts, fin2]
      rfl
    · simp (maxSteps := 400000) -dsimp -implicitDefEqProofs (disch := first | exact TrueB.mk rfl | omega) only [go_sem, Nat.reduceMul, Nat.reduceAdd, Nat.reduceLT, Nat.reduceLeDiff, Nat.reducePow, Nat.reduceEqDiff, ↓reduceIte, reduceCtorEq, Int.reduceToNat, Try.ntmps48, h1]
      first | refine wpAct_callG (c _) rfl rfl rfl rfl rfl rfl rfl rfl rfl ?_ | done
      simp (maxSteps := 400000) -dsimp -implicitDefEqProofs (disch := first | exact TrueB.mk rfl | omega) only [go_sem, Nat.reduceMul, Nat.reduceAdd, Nat.reduceLT, Nat.reduceLeDiff, Nat.reducePow, Nat.reduceEqDiff, ↓reduceIte, reduceCtorEq, Int.reduceToNat]
      refine Eq.trans (end_rowT2 rfl rfl rfl (optsV_length _).symm rfl rfl) ?_
      rw [lim_opts, fin2]
      rfl
    · simp (maxSteps := 400000) -dsimp -implicitDefEqProofs (disch := first | exact TrueB.mk rfl | omega) only [go_sem, Nat.reduceMul, Nat.reduceAdd, Nat.reduceLT, Nat.reduceLeDiff, Nat.reducePow, Nat.reduceEqDiff, ↓reduceIte, reduceCtorEq, Int.reduceToNat, Try.ntmps48, h1]
      first | refine wpAct_callG (c _) rfl rfl rfl rfl rfl rfl rfl rfl rfl ?_ | done
      simp (maxSteps := 400000) -dsimp -implicitDefEqProofs (disch := first | exact TrueB.mk rfl | omega) only [go_sem, Nat.reduceMul, Nat.reduceAdd, Nat.reduceLT, Nat.reduceLeDiff, Nat.reducePow, Nat.reduceEqDiff, ↓reduceIte, reduceCtorEq, Int.reduceToNat]
      refine Eq.trans (end_rowT2 rfl rfl rfl (optsV_length _).symm rfl rfl) ?_
      rw [lim_opts, fin2]
      rfl
    · simp (maxSteps := 400000) -dsimp -implicitDefEqProofs (disch := first | exact TrueB.mk rfl | omega) only [go_sem, Nat.reduceMul, Nat.reduceAdd, Nat.reduceLT, Nat.reduceLeDiff, Nat.reducePow, Nat.reduceEqDiff, ↓reduceIte, reduceCtorEq, Int.reduceToNat, Try.ntmps48, h1]
      first | refine wpAct_callG (c _) rfl rfl rfl rfl rfl rfl rfl rfl rfl ?_ | done
      simp (maxSteps := 400000) -dsimp -implicitDefEqProofs (disch := first | exact TrueB.mk rfl | omega) only [go_sem, Nat.reduceMul, Nat.reduceAdd, Nat.reduceLT, Nat.reduceLeDiff, Nat.reducePow, Nat.reduceEqDiff, ↓reduceIte, reduceCtorEq, Int.reduceToNat]
      refine Eq.trans (end_rowT2 rfl rfl rfl (optsV_length _).symm rfl rfl) ?_
      rw [lim_opts, fin2]
      rfl
  · have e : optsP p = ([], false) := if_neg h
    rw [e]
    have h1 : p.1 ≠ 1 := by omega
    have h2 : p.1 ≠ 2 := by omega
    have h3 : p.1 ≠ 3 := by omega
    have h4 : p.1 ≠ 4 := by omega
    simp (maxSteps := 400000) -dsimp -implicitDefEqProofs (disch := first | exact TrueB.mk rfl | omega) only [go_sem, Nat.reduceMul, Nat.reduceAdd, Nat.reduceLT, Nat.reduceLeDiff, Nat.reducePow, Nat.reduceEqDiff, ↓reduceIte, reduceCtorEq, Int.reduceToNat, Try.ntmps48]
    first | exact end_row2 rfl rfl rfl rfl rfl rfl rfl | done

set_option maxHeartbeats 8000000 in
theorem refPktOptions_any (p : Pkt) (hp : p.2.2.length ≤ 100000) (m : Bool) : Runs Try.prog env 49 [.pure m (pktV p)] [] (.tuple [.row 0 (optsP p).1.length, .pure true (.bool (optsP p).2)]) [(0, .row true (zOf (optsP p).1) ((optsP p).1.length - 1) (optsV (optsP p).1))] := by
  refine Runs.of Try.func49 rfl (by simp [Try.ntmps49]) ?_
  unfold pktV
  by_cases h : 1 ≤ p.1 ∧ p.1 ≤ 4
  · have e : optsP p = ((readO p.2.2).1, decide ((readO p.2.2).2.2 = 0)) := if_pos h
    rw [e]
    have c := fun m => refRead_any p.2.2 (by omega) m
    generalize readO p.2.2 = R at *
    obtain ⟨L, a, e2⟩ := R
    simp only at c ⊢
    simp (maxSteps := 400000) -dsimp -implicitDefEqProofs (disch := first | exact TrueB.mk rfl | omega) only [go_sem, Nat.reduceMul, Nat.reduceAdd, Nat.reduceLT, Nat.reduceLeDiff, Nat.reducePow, Nat.reduceEqDiff, ↓reduceIte, reduceCtorEq, Int.reduceToNat, Try.ntmps49]
    first | refine wpAct_callG (c _) rfl rfl rfl rfl rfl rfl rfl rfl rfl ?_ | done
    simp (maxSteps := 400000) -dsimp -implicitDefEqProofs (disch := first | exact TrueB.mk rfl | omega) only [go_sem, Nat.reduceMul, Nat.reduceAdd, Nat.reduceLT, Nat.reduceLeDiff, Nat.reducePow, Nat.reduceEqDiff, ↓reduceIte, reduceCtorEq, Int.reduceToNat]
    refine Eq.trans (end_rowT2 rfl rfl rfl (optsV_length _).symm rfl rfl) ?_
    rw [lim_opts]
    have : (((e2 : Nat) : Int) == 0) = decide (e2 = 0) := by
      by_cases h0 : e2 = 0
      · subst h0; rfl
      · rw [decide_eq_false h0]; simp; exact h0
    rw [this]
    rfl
  · have e : optsP p = ([], false) := if_neg h
    rw [e]
    rcases Classical.em (p.1 < 1) with h1 | h1
    · simp (maxSteps := 400000) -dsimp -implicitDefEqProofs (disch := first | exact TrueB.mk rfl | omega) only [go_sem, Nat.reduceMul, Nat.reduceAdd, Nat.reduceLT, Nat.reduceLeDiff, Nat.reducePow, Nat.reduceEqDiff, ↓reduceIte, reduceCtorEq, Int.reduceToNat, Try.ntmps49]
      first | exact end_row2 rfl rfl rfl rfl rfl rfl rfl | done
    · simp (maxSteps := 400000) -dsimp -implicitDefEqProofs (disch := first | exact TrueB.mk rfl | omega) only [go_sem, Nat.reduceMul, Nat.reduceAdd, Nat.reduceLT, Nat.reduceLeDiff, Nat.reducePow, Nat.reduceEqDiff, ↓reduceIte, reduceCtorEq, Int.reduceToNat, Try.ntmps49]
      first | exact end_row2 rfl rfl rfl rfl rfl rfl rfl | done

def begP (d : List UInt8) (k : Nat) : Nat × List UInt8 × Bool := if k ≤ d.length then (numB (d.take k), d.drop k, true) else (0, [], false)

set_option maxHeartbeats 8000000 in
theorem begins_any (p : Pkt) (hp : p.2.2.length ≤ 1000000) (k : Nat) (hk : 1 ≤ k) (hk2 : k ≤ 7) (m m' : Bool) : ∃ z, (z = 1 ∨ (begP p.2.2 k).2.1 = []) ∧
    Runs Try.prog env 88 [.pure m (pktV p), .pure m' (.int .i64 k)] [] (.tuple [.pure true (.int .u64 ((begP p.2.2 k).1 : Nat)), .row 0 (begP p.2.2 k).2.1.length, .pure true (.bool (begP p.2.2 k).2.2)]) [(0, .row true z 0 (bytesOf (begP p.2.2 k).2.1))] := by
  unfold pktV
  by_cases h : k ≤ p.2.2.length
  · have e : begP p.2.2 k = (numB (p.2.2.take k), p.2.2.drop k, true) := if_pos h
    rw [e]
    refine ⟨1, .inl rfl, ?_⟩
    refine Runs.of Try.func88 rfl (by simp [Try.ntmps88]) ?_
    have c1 := cut_ok p.2.2 (by omega) 0 k (by omega)
    have e1 : (p.2.2.drop 0).take k = p.2.2.take k := by rw [List.drop_zero]
    have e2 : (p.2.2.take k).length = k := by rw [List.length_take]; omega
    rw [e1, e2] at c1
    have c2 := octGet_any (p.2.2.take k) (by omega) (by omega)
    simp (maxSteps := 400000) -dsimp -implicitDefEqProofs (disch := first | exact TrueB.mk rfl | omega) only [go_sem, Nat.reduceMul, Nat.reduceAdd, Nat.reduceLT, Nat.reduceLeDiff, Nat.reducePow, Nat.reduceEqDiff, ↓reduceIte, reduceCtorEq, Int.reduceToNat, Try.ntmps88]
    first | refine wpAct_callG (c1 _ _ _) rfl rfl rfl rfl rfl rfl rfl rfl rfl ?_ | done
    simp (maxSteps := 400000) -dsimp -implicitDefEqProofs (disch := first | exact TrueB.mk rfl | omega) only [go_sem, Nat.reduceMul, Nat.reduceAdd, Nat.reduceLT, Nat.reduceLeDiff, Nat.reducePow, Nat.reduceEqDiff, ↓reduceIte, reduceCtorEq, Int.reduceToNat]
    first | refine wpAct_callF (c2 _ _) rfl rfl rfl rfl (argV_r rfl (by rw [bytesOf_length, e2]) (argV_p rfl argV_nil)) rfl rfl rfl rfl ?_ | done
    simp (maxSteps := 400000) -dsimp -implicitDefEqProofs (disch := first | exact TrueB.mk rfl | omega) only [go_sem, Nat.reduceMul, Nat.reduceAdd, Nat.reduceLT, Nat.reduceLeDiff, Nat.reducePow, Nat.reduceEqDiff, ↓reduceIte, reduceCtorEq, Int.reduceToNat]
    first | refine wpAct_callG (behind_any p.2.2 (by omega) k (by omega) _ _) rfl rfl rfl rfl rfl rfl rfl rfl rfl ?_ | done
    simp (maxSteps := 400000) -dsimp -implicitDefEqProofs (disch := first | exact TrueB.mk rfl | omega) only [go_sem, Nat.reduceMul, Nat.reduceAdd, Nat.reduceLT, Nat.reduceLeDiff, Nat.reducePow, Nat.reduceEqDiff, ↓reduceIte, reduceCtorEq, Int.reduceToNat]
    refine Eq.trans (end_vrv rfl rfl rfl rfl (by rw [bytesOf_length]) rfl rfl rfl rfl) ?_
    rw [allScalar_bytesOf]
    rfl
  · have e : begP p.2.2 k = (0, [], false) := if_neg h
    rw [e]
    refine ⟨0, .inr rfl, ?_⟩
    refine Runs.of Try.func88 rfl (by simp [Try.ntmps88]) ?_
    simp (maxSteps := 400000) -dsimp -implicitDefEqProofs (disch := first | exact TrueB.mk rfl | omega) only [go_sem, Nat.reduceMul, Nat.reduceAdd, Nat.reduceLT, Nat.reduceLeDiff, Nat.reducePow, Nat.reduceEqDiff, ↓reduceIte, reduceCtorEq, Int.reduceToNat, Try.ntmps88]
    first | refine wpAct_callG (cut_no p.2.2 (by omega) 0 k (by omega) (by omega) (by omega) _ _ _) rfl rfl rfl rfl rfl rfl rfl rfl rfl ?_ | done
    simp (maxSteps := 400000) -dsimp -implicitDefEqProofs (disch := first | exact TrueB.mk rfl | omega) only [go_sem, Nat.reduceMul, Nat.reduceAdd, Nat.reduceLT, Nat.reduceLeDiff, Nat.reducePow, Nat.reduceEqDiff, ↓reduceIte, reduceCtorEq, Int.reduceToNat]
    first | (refine Eq.trans (end_vrv rfl rfl rfl rfl rfl rfl rfl rfl rfl) ?_; rfl) | done
end Go.Proofs.Ytpgklagjjimbhaa
