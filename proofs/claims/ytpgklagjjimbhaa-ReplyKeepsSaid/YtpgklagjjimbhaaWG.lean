/- YtpgklagjjimbhaaWG: the law ReplyKeeps, over the evaluator. No claim. -/
import Derived.Test.YtpgklagjjimbhaaWA
import Derived.Test.YtpgklagjjimbhaaWD
import Derived.Test.YtpgklagjjimbhaaK
import Derived.Test.YtpgklagjjimbhaaU
set_option linter.unusedVariables false
set_option linter.unusedSimpArgs false
set_option maxRecDepth 100000
namespace Go.Proofs.Ytpgklagjjimbhaa
open Go Go.Proofs.Ytpgklagjjimbhaa.V

set_option maxHeartbeats 16000000 in
theorem replyKeeps_runs (b : List UInt8) (q p : Pkt) (mru : Int) : Runs Try.prog env 25 [.pure false (.sl (bytesOf b)), .pure false (pktV q), .pure false (pktV p), .pure false (.int .i64 mru)] [] (.pure true (.bool true)) [] := by
  refine Runs.of Try.func25 rfl (by simp [Try.ntmps25]) ?_
  have m1 := fun m => may_any q m
  have m2 := fun m => may_any p m
  have l1 := mayP_len (p := q)
  have l2 := mayP_len (p := p)
  have c1 := fun h h' m m' => naks_any q p h h' m m'
  have c2 := fun h h' m m' => rejects_any q p h h' m m'
  generalize rejsP q p = rj at *
  generalize naksP q p = nk at *
  unfold pktV at *
  simp (maxSteps := 400000) -dsimp -implicitDefEqProofs (disch := first | exact TrueB.mk rfl | omega) only [go_sem, Nat.reduceMul, Nat.reduceAdd, Nat.reduceLT, Nat.reduceLeDiff, Nat.reducePow, Nat.reduceEqDiff, ↓reduceIte, reduceCtorEq, Int.reduceToNat, Try.ntmps25]
  first | refine wpAct_call0 (awake18_any) rfl rfl rfl rfl rfl rfl rfl rfl ?_ | done
  simp (maxSteps := 400000) -dsimp -implicitDefEqProofs (disch := first | exact TrueB.mk rfl | omega) only [go_sem, Nat.reduceMul, Nat.reduceAdd, Nat.reduceLT, Nat.reduceLeDiff, Nat.reducePow, Nat.reduceEqDiff, ↓reduceIte, reduceCtorEq, Int.reduceToNat]
  first | refine condK_dec (fun hb => ?_) (fun hb => ?_) | refine condK_ndec (fun hb => ?_) (fun hb => ?_) | refine condK_beq (fun hb => ?_) (fun hb => ?_) | refine condK_bne (fun hb => ?_) (fun hb => ?_) | refine condK_nbeq (fun hb => ?_) (fun hb => ?_) | refine guardK_dec (fun hb => ?_) (fun hb => ?_) | refine guardK_ndec (fun hb => ?_) (fun hb => ?_) | refine guardK_beq (fun hb => ?_) (fun hb => ?_) | refine guardK_bne (fun hb => ?_) (fun hb => ?_) | refine guardK_nbeq (fun hb => ?_) (fun hb => ?_) | refine condK_not (fun hb => ?_) (fun hb => ?_) | refine guardK_not (fun hb => ?_) (fun hb => ?_) | refine condK_bool (fun hb => ?_) (fun hb => ?_) | refine guardK_bool (fun hb => ?_) (fun hb => ?_) | done
  rotate_left
  · simp (maxSteps := 400000) -dsimp -implicitDefEqProofs (disch := first | exact TrueB.mk rfl | omega) only [go_sem, Nat.reduceMul, Nat.reduceAdd, Nat.reduceLT, Nat.reduceLeDiff, Nat.reducePow, Nat.reduceEqDiff, ↓reduceIte, reduceCtorEq, Int.reduceToNat]
    first | refine wpAct_call0 (awake18_any) rfl rfl rfl rfl rfl rfl rfl rfl ?_ | done
    simp (maxSteps := 400000) -dsimp -implicitDefEqProofs (disch := first | exact TrueB.mk rfl | omega) only [go_sem, Nat.reduceMul, Nat.reduceAdd, Nat.reduceLT, Nat.reduceLeDiff, Nat.reducePow, Nat.reduceEqDiff, ↓reduceIte, reduceCtorEq, Int.reduceToNat]
    first | exact end_bool rfl rfl | done
  have hb' : b.length ≤ 1000000 := by omega
  simp (maxSteps := 400000) -dsimp -implicitDefEqProofs (disch := first | exact TrueB.mk rfl | omega) only [go_sem, Nat.reduceMul, Nat.reduceAdd, Nat.reduceLT, Nat.reduceLeDiff, Nat.reducePow, Nat.reduceEqDiff, ↓reduceIte, reduceCtorEq, Int.reduceToNat]
  first | refine wpAct_call0 (m1 _) rfl rfl rfl rfl rfl rfl rfl rfl ?_ | done
  cases hm : mayP q with
  | false =>
    simp (maxSteps := 400000) -dsimp -implicitDefEqProofs (disch := first | exact TrueB.mk rfl | omega) only [go_sem, Nat.reduceMul, Nat.reduceAdd, Nat.reduceLT, Nat.reduceLeDiff, Nat.reducePow, Nat.reduceEqDiff, ↓reduceIte, reduceCtorEq, Int.reduceToNat]
    first | refine wpAct_call0 (awake18_any) rfl rfl rfl rfl rfl rfl rfl rfl ?_ | done
    simp (maxSteps := 400000) -dsimp -implicitDefEqProofs (disch := first | exact TrueB.mk rfl | omega) only [go_sem, Nat.reduceMul, Nat.reduceAdd, Nat.reduceLT, Nat.reduceLeDiff, Nat.reducePow, Nat.reduceEqDiff, ↓reduceIte, reduceCtorEq, Int.reduceToNat]
    first | exact end_bool rfl rfl | done
  | true =>
  have hql := (l1 hm).1
  simp (maxSteps := 400000) -dsimp -implicitDefEqProofs (disch := first | exact TrueB.mk rfl | omega) only [go_sem, Nat.reduceMul, Nat.reduceAdd, Nat.reduceLT, Nat.reduceLeDiff, Nat.reducePow, Nat.reduceEqDiff, ↓reduceIte, reduceCtorEq, Int.reduceToNat]
  first | refine wpAct_call0 (m2 _) rfl rfl rfl rfl rfl rfl rfl rfl ?_ | done
  cases hm2 : mayP p with
  | false =>
    simp (maxSteps := 400000) -dsimp -implicitDefEqProofs (disch := first | exact TrueB.mk rfl | omega) only [go_sem, Nat.reduceMul, Nat.reduceAdd, Nat.reduceLT, Nat.reduceLeDiff, Nat.reducePow, Nat.reduceEqDiff, ↓reduceIte, reduceCtorEq, Int.reduceToNat]
    first | refine wpAct_call0 (awake18_any) rfl rfl rfl rfl rfl rfl rfl rfl ?_ | done
    simp (maxSteps := 400000) -dsimp -implicitDefEqProofs (disch := first | exact TrueB.mk rfl | omega) only [go_sem, Nat.reduceMul, Nat.reduceAdd, Nat.reduceLT, Nat.reduceLeDiff, Nat.reducePow, Nat.reduceEqDiff, ↓reduceIte, reduceCtorEq, Int.reduceToNat]
    first | exact end_bool rfl rfl | done
  | true =>
  have hpl := (l2 hm2).1
  simp (maxSteps := 400000) -dsimp -implicitDefEqProofs (disch := first | exact TrueB.mk rfl | omega) only [go_sem, Nat.reduceMul, Nat.reduceAdd, Nat.reduceLT, Nat.reduceLeDiff, Nat.reducePow, Nat.reduceEqDiff, ↓reduceIte, reduceCtorEq, Int.reduceToNat]
  first | refine wpAct_callG (codeReject_any b hb' mru _ _) rfl rfl rfl rfl (argV_r rfl (bytesOf_length _).symm (argV_p rfl argV_nil)) rfl rfl rfl rfl ?_ | done
  simp (maxSteps := 400000) -dsimp -implicitDefEqProofs (disch := first | exact TrueB.mk rfl | omega) only [go_sem, Nat.reduceMul, Nat.reduceAdd, Nat.reduceLT, Nat.reduceLeDiff, Nat.reducePow, Nat.reduceEqDiff, ↓reduceIte, reduceCtorEq, Int.reduceToNat]
  first | refine wpAct_callG (protoReject_any 5 (by omega) b hb' mru _ _ _) rfl rfl rfl rfl (argV_p rfl (argV_r rfl (bytesOf_length _).symm (argV_p rfl argV_nil))) rfl rfl rfl rfl ?_ | done
  simp (maxSteps := 400000) -dsimp -implicitDefEqProofs (disch := first | exact TrueB.mk rfl | omega) only [go_sem, Nat.reduceMul, Nat.reduceAdd, Nat.reduceLT, Nat.reduceLeDiff, Nat.reducePow, Nat.reduceEqDiff, ↓reduceIte, reduceCtorEq, Int.reduceToNat]
  first | refine wpAct_call0 (c1 (by omega) (by omega) _ _) rfl rfl rfl rfl rfl rfl rfl rfl ?_ | done
  simp (maxSteps := 400000) -dsimp -implicitDefEqProofs (disch := first | exact TrueB.mk rfl | omega) only [go_sem, Nat.reduceMul, Nat.reduceAdd, Nat.reduceLT, Nat.reduceLeDiff, Nat.reducePow, Nat.reduceEqDiff, ↓reduceIte, reduceCtorEq, Int.reduceToNat]
  first | refine wpAct_call0 (c2 (by omega) (by omega) _ _) rfl rfl rfl rfl rfl rfl rfl rfl ?_ | done
  simp (maxSteps := 400000) -dsimp -implicitDefEqProofs (disch := first | exact TrueB.mk rfl | omega) only [go_sem, Nat.reduceMul, Nat.reduceAdd, Nat.reduceLT, Nat.reduceLeDiff, Nat.reducePow, Nat.reduceEqDiff, ↓reduceIte, reduceCtorEq, Int.reduceToNat, beq_same]
  obtain ⟨zx, hzx, c5⟩ := refCodeReject_any b hb' mru (false && false) (false && false)
  have hzx' : zx = 1 ∨ bytesOf (b.take (fitM mru - 4)) = [] := hzx.imp_right fun e => by rw [e]; rfl
  have c6 := fun m m' m2 => refProtoReject_any 5 (by omega) b hb' mru m m' m2
  refine wpLoop_ind (α := Nat × List UInt8)
    (fun a => ⟨[(0, .pure false (.sl (bytesOf b))), (3, .pure false (.int .i64 mru)), (9, .row 1712 b.length), (10, .row 1713 (b.take (fitM mru - 4)).length), (11, .row 1714 (protoP 5 b mru).length), (14, .pure true (.int .i64 a.1))], [(1712, .row true 1 0 (bytesOf a.2)), (1713, .row true 1 0 (bytesOf (b.take (fitM mru - 4)))), (1714, .row true 1 0 (bytesOf (protoP 5 b mru)))]⟩)
    (fun a => a.1 ≤ b.length ∧ a.2.length = b.length) (fun a => b.length - a.1) ?_ (0, b) ⟨by simp, rfl⟩ rfl
  rintro ⟨i, own⟩ ⟨hi, ho⟩
  simp only at hi ho
  simp (maxSteps := 400000) -dsimp -implicitDefEqProofs (disch := first | exact TrueB.mk rfl | omega) only [go_sem, Nat.reduceMul, Nat.reduceAdd, Nat.reduceLT, Nat.reduceLeDiff, Nat.reducePow, Nat.reduceEqDiff, ↓reduceIte, reduceCtorEq, Int.reduceToNat]
  first | refine condK_dec (fun h1 => ?_) (fun h1 => ?_) | refine condK_ndec (fun h1 => ?_) (fun h1 => ?_) | refine condK_beq (fun h1 => ?_) (fun h1 => ?_) | refine condK_bne (fun h1 => ?_) (fun h1 => ?_) | refine condK_nbeq (fun h1 => ?_) (fun h1 => ?_) | refine guardK_dec (fun h1 => ?_) (fun h1 => ?_) | refine guardK_ndec (fun h1 => ?_) (fun h1 => ?_) | refine guardK_beq (fun h1 => ?_) (fun h1 => ?_) | refine guardK_bne (fun h1 => ?_) (fun h1 => ?_) | refine guardK_nbeq (fun h1 => ?_) (fun h1 => ?_) | refine condK_not (fun h1 => ?_) (fun h1 => ?_) | refine guardK_not (fun h1 => ?_) (fun h1 => ?_) | refine condK_bool (fun h1 => ?_) (fun h1 => ?_) | refine guardK_bool (fun h1 => ?_) (fun h1 => ?_) | done
  · have hlt : i < own.length := by omega
    have g1 := bytes_at hlt
    simp (maxSteps := 400000) -dsimp -implicitDefEqProofs (disch := first | exact TrueB.mk rfl | omega) only [go_sem, Nat.reduceMul, Nat.reduceAdd, Nat.reduceLT, Nat.reduceLeDiff, Nat.reducePow, Nat.reduceEqDiff, ↓reduceIte, reduceCtorEq, Int.reduceToNat, g1, ho, u8_step, bytes_set, Nat.zero_le, eq_self]
    refine again_mk ⟨(i + 1, own.set i (own[i] + 1)), ⟨by show i + 1 ≤ _; omega, by show (own.set i (own[i] + 1)).length = _; rw [List.length_set]; exact ho⟩, by show _ - (i + 1) < _ - i; omega, rfl⟩
  simp (maxSteps := 400000) -dsimp -implicitDefEqProofs (disch := first | exact TrueB.mk rfl | omega) only [go_sem, Nat.reduceMul, Nat.reduceAdd, Nat.reduceLT, Nat.reduceLeDiff, Nat.reducePow, Nat.reduceEqDiff, ↓reduceIte, reduceCtorEq, Int.reduceToNat]
  first | refine wpAct_callG (c5) rfl rfl rfl rfl rfl rfl rfl rfl rfl ?_ | done
  simp (maxSteps := 400000) -dsimp -implicitDefEqProofs (disch := first | exact TrueB.mk rfl | omega) only [go_sem, Nat.reduceMul, Nat.reduceAdd, Nat.reduceLT, Nat.reduceLeDiff, Nat.reducePow, Nat.reduceEqDiff, ↓reduceIte, reduceCtorEq, Int.reduceToNat, hzx', beq_same]
  first | refine wpAct_callG (c6 _ _ _) rfl rfl rfl rfl rfl rfl rfl rfl rfl ?_ | done
  simp (maxSteps := 400000) -dsimp -implicitDefEqProofs (disch := first | exact TrueB.mk rfl | omega) only [go_sem, Nat.reduceMul, Nat.reduceAdd, Nat.reduceLT, Nat.reduceLeDiff, Nat.reducePow, Nat.reduceEqDiff, ↓reduceIte, reduceCtorEq, Int.reduceToNat]
  first | exact end_bool rfl (by simp) | done
end Go.Proofs.Ytpgklagjjimbhaa
