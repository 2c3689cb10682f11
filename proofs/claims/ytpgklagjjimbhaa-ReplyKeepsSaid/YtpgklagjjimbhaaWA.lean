/- YtpgklagjjimbhaaWA: a number of two bytes, what a protocol reject carries. No claim. -/
import Derived.Test.YtpgklagjjimbhaaW
import Derived.Test.YtpgklagjjimbhaaS
import Derived.Test.YtpgklagjjimbhaaX
set_option linter.unusedVariables false
set_option linter.unusedSimpArgs false
set_option maxRecDepth 100000
namespace Go.Proofs.Ytpgklagjjimbhaa
open Go Go.Proofs.Ytpgklagjjimbhaa.V

def put2 (n i : Nat) : List UInt8 := match i with
  | 0 => [0, 0]
  | 1 => [loB n, 0]
  | _ => [loB n, hiB n]
set_option maxHeartbeats 8000000 in
theorem octPut2_any (n : Nat) (hn : n < 65536) (m m' m2 : Bool) : Runs Try.prog env 101 [.pure m (.int .u64 n), .pure m' (.int .i64 2), .pure m2 (.bool true)] [] (.tuple [.row 0 2, .pure true (.bool true)]) [(0, .row true 1 0 (bytesOf [hiB n, loB n]))] := by
  refine Runs.of Try.func101 rfl (by simp [Try.ntmps101]) ?_
  simp (maxSteps := 400000) -dsimp -implicitDefEqProofs (disch := first | exact TrueB.mk rfl | omega) only [go_sem, Nat.reduceMul, Nat.reduceAdd, Nat.reduceLT, Nat.reduceLeDiff, Nat.reducePow, Nat.reduceEqDiff, ↓reduceIte, reduceCtorEq, Int.reduceToNat, Try.ntmps101]
  first | refine wpAct_call0 (fits2_any n hn _ _) rfl rfl rfl rfl rfl rfl rfl rfl ?_ | done
  simp (maxSteps := 400000) -dsimp -implicitDefEqProofs (disch := first | exact TrueB.mk rfl | omega) only [go_sem, Nat.reduceMul, Nat.reduceAdd, Nat.reduceLT, Nat.reduceLeDiff, Nat.reducePow, Nat.reduceEqDiff, ↓reduceIte, reduceCtorEq, Int.reduceToNat]
  refine wpLoop_ind (α := Nat)
    (fun i => ⟨[(0, .pure m (.int .u64 n)), (2, .pure m2 (.bool true)), (8, .row 528 2), (16, .pure m' (.int .i64 2)), (17, .pure true (.int .i64 (i : Nat)))], [(528, .row true 1 0 (bytesOf (put2 n i)))]⟩)
    (fun i => i ≤ 2) (fun i => 2 - i) ?_ 0 (by decide) rfl
  intro i hi
  have hi' : i = 0 ∨ i = 1 ∨ i = 2 := by omega
  have w0 : IntKind.u8.wrap ((n : Int).fdiv (2 ^ min (8 * ((0 : Nat) : Int)).toNat 64)) = ((loB n).toNat : Int) := by
    have : (n : Int).fdiv (2 ^ min (8 * ((0 : Nat) : Int)).toNat 64) = (n : Int) := by
      show (n : Int).fdiv 1 = _
      rw [Int.fdiv_one]
    rw [this, wrap_u8m, loB_nat]
  have w1 : IntKind.u8.wrap ((n : Int).fdiv (2 ^ min (8 * ((1 : Nat) : Int)).toNat 64)) = ((hiB n).toNat : Int) := by
    have : (n : Int).fdiv (2 ^ min (8 * ((1 : Nat) : Int)).toNat 64) = (n : Int) / 256 := by
      show (n : Int).fdiv 256 = _
      exact Int.fdiv_eq_ediv_of_nonneg _ (by decide)
    rw [this, wrap_u8 (by omega) (by omega), hiB_nat hn]
    omega
  have g0 : (bytesOf [(0 : UInt8), 0])[0]? = some (.int .u8 0) := rfl
  have g1 : (bytesOf [loB n, 0])[1]? = some (.int .u8 0) := rfl
  rcases hi' with rfl | rfl | rfl
  · simp (maxSteps := 400000) -dsimp -implicitDefEqProofs (disch := first | exact TrueB.mk rfl | omega) only [go_sem, Nat.reduceMul, Nat.reduceAdd, Nat.reduceLT, Nat.reduceLeDiff, Nat.reducePow, Nat.reduceEqDiff, ↓reduceIte, reduceCtorEq, Int.reduceToNat, put2, g0]
    refine again_mk ⟨1, by decide, by decide, ?_⟩
    rw [w0]
    rfl
  · simp (maxSteps := 400000) -dsimp -implicitDefEqProofs (disch := first | exact TrueB.mk rfl | omega) only [go_sem, Nat.reduceMul, Nat.reduceAdd, Nat.reduceLT, Nat.reduceLeDiff, Nat.reducePow, Nat.reduceEqDiff, ↓reduceIte, reduceCtorEq, Int.reduceToNat, put2, g1]
    refine again_mk ⟨2, by decide, by decide, ?_⟩
    rw [w1]
    rfl
  · simp (maxSteps := 400000) -dsimp -implicitDefEqProofs (disch := first | exact TrueB.mk rfl | omega) only [go_sem, Nat.reduceMul, Nat.reduceAdd, Nat.reduceLT, Nat.reduceLeDiff, Nat.reducePow, Nat.reduceEqDiff, ↓reduceIte, reduceCtorEq, Int.reduceToNat, put2]
    first | refine wpAct_callS [528] (reverse2_any (loB n) (hiB n) _) rfl rfl rfl rfl rfl rfl rfl rfl rfl rfl ?_ | done
    simp (maxSteps := 400000) -dsimp -implicitDefEqProofs (disch := first | exact TrueB.mk rfl | omega) only [go_sem, Nat.reduceMul, Nat.reduceAdd, Nat.reduceLT, Nat.reduceLeDiff, Nat.reducePow, Nat.reduceEqDiff, ↓reduceIte, reduceCtorEq, Int.reduceToNat]
    first | exact end_row2 rfl rfl rfl rfl rfl rfl rfl | done

def protoP (n : Nat) (b : List UInt8) (mru : Int) : List UInt8 := [hiB n, loB n] ++ b.take (fitM mru - 6)

set_option maxHeartbeats 8000000 in
theorem protoReject_any (n : Nat) (hn : n < 65536) (b : List UInt8) (hb : b.length ≤ 1000000) (mru : Int) (m m' m2 : Bool) : Runs Try.prog env 77 [.pure m (.int .i64 n), .pure m' (.sl (bytesOf b)), .pure m2 (.int .i64 mru)] [] (.row 0 (protoP n b mru).length) [(0, .row true 1 0 (bytesOf (protoP n b mru)))] := by
  have hf : fitM mru ≤ 65531 := Nat.min_le_right _ _
  have c := rcut_any b hb ((fitM mru : Int) - 4 - 2) (by omega) (by omega)
  have e : ((fitM mru : Int) - 4 - 2).toNat = fitM mru - 6 := by omega
  rw [e] at c
  have hl : 2 + (b.take (fitM mru - 6)).length ≤ 140737488355328 := by rw [List.length_take]; omega
  have w : IntKind.u64.wrap (n : Int) = (n : Int) := by rw [wrap_u64 (by omega) (by omega)]
  unfold protoP
  rw [show ([hiB n, loB n] ++ b.take (fitM mru - 6)).length = 2 + (b.take (fitM mru - 6)).length from by rw [List.length_append]; rfl]
  refine Runs.of Try.func77 rfl (by simp [Try.ntmps77]) ?_
  simp (maxSteps := 400000) -dsimp -implicitDefEqProofs (disch := first | exact TrueB.mk rfl | omega) only [go_sem, Nat.reduceMul, Nat.reduceAdd, Nat.reduceLT, Nat.reduceLeDiff, Nat.reducePow, Nat.reduceEqDiff, ↓reduceIte, reduceCtorEq, Int.reduceToNat, Try.ntmps77, w]
  first | refine wpAct_callG (octPut2_any n hn _ _ _) rfl rfl rfl rfl rfl rfl rfl rfl rfl ?_ | done
  simp (maxSteps := 400000) -dsimp -implicitDefEqProofs (disch := first | exact TrueB.mk rfl | omega) only [go_sem, Nat.reduceMul, Nat.reduceAdd, Nat.reduceLT, Nat.reduceLeDiff, Nat.reducePow, Nat.reduceEqDiff, ↓reduceIte, reduceCtorEq, Int.reduceToNat]
  first | refine wpAct_call0 (fit_any mru _) rfl rfl rfl rfl rfl rfl rfl rfl ?_ | done
  simp (maxSteps := 400000) -dsimp -implicitDefEqProofs (disch := first | exact TrueB.mk rfl | omega) only [go_sem, Nat.reduceMul, Nat.reduceAdd, Nat.reduceLT, Nat.reduceLeDiff, Nat.reducePow, Nat.reduceEqDiff, ↓reduceIte, reduceCtorEq, Int.reduceToNat]
  first | refine wpAct_callG (c _ _) rfl rfl rfl rfl rfl rfl rfl rfl rfl ?_ | done
  simp (maxSteps := 400000) -dsimp -implicitDefEqProofs (disch := first | exact TrueB.mk rfl | omega) only [go_sem, Nat.reduceMul, Nat.reduceAdd, Nat.reduceLT, Nat.reduceLeDiff, Nat.reducePow, Nat.reduceEqDiff, ↓reduceIte, reduceCtorEq, Int.reduceToNat, hl]
  first | exact end_row rfl rfl (by rw [bytesOf_length, List.length_cons, List.length_cons]; omega) (allScalar_bytesOf _) | done

set_option maxHeartbeats 8000000 in
theorem refProtoReject_any (n : Nat) (hn : n < 65536) (b : List UInt8) (hb : b.length ≤ 1000000) (mru : Int) (m m' m2 : Bool) : Runs Try.prog env 79 [.pure m (.int .i64 n), .pure m' (.sl (bytesOf b)), .pure m2 (.int .i64 mru)] [] (.row 0 (protoP n b mru).length) [(0, .row true 1 0 (bytesOf (protoP n b mru)))] := by
  have hf : fitM mru = min mru.toNat 65531 := rfl
  have q1 : ((n / 256 : Nat) : Int) = ((hiB n).toNat : Int) := by rw [hiB_nat hn]
  have q2 : ((n % 256 : Nat) : Int) = ((loB n).toNat : Int) := by rw [loB_nat]
  have hl : 2 + (b.take (fitM mru - 6)).length ≤ 140737488355328 := by rw [List.length_take]; omega
  have hz : (if b.take (fitM mru - 6) = [] then 0 else 1) = 1 ∨ bytesOf (b.take (fitM mru - 6)) = [] := (zB_or _).imp_right fun e => by rw [e]; rfl
  unfold protoP
  rw [show ([hiB n, loB n] ++ b.take (fitM mru - 6)).length = 2 + (b.take (fitM mru - 6)).length from by rw [List.length_append]; rfl]
  rcases Classical.em (mru < 6) with h1 | h1
  · have e : b.take (fitM mru - 6) = [] := by
      have : fitM mru - 6 = 0 := by omega
      rw [this]; rfl
    rw [e]
    refine Runs.of Try.func79 rfl (by simp [Try.ntmps79]) ?_
    simp (maxSteps := 400000) -dsimp -implicitDefEqProofs (disch := first | exact TrueB.mk rfl | omega) only [go_sem, Nat.reduceMul, Nat.reduceAdd, Nat.reduceLT, Nat.reduceLeDiff, Nat.reducePow, Nat.reduceEqDiff, ↓reduceIte, reduceCtorEq, Int.reduceToNat, Try.ntmps79, q1, q2]
    first | exact end_row (xs := bytesOf [hiB n, loB n]) rfl rfl rfl rfl | done
  · rcases Classical.em (65531 < mru) with h2 | h2
    · have c := refCut_any b hb (65531 - 6)
      have e : ((65531 : Int) - 6).toNat = fitM mru - 6 := by omega
      rw [e] at c
      refine Runs.of Try.func79 rfl (by simp [Try.ntmps79]) ?_
      simp (maxSteps := 400000) -dsimp -implicitDefEqProofs (disch := first | exact TrueB.mk rfl | omega) only [go_sem, Nat.reduceMul, Nat.reduceAdd, Nat.reduceLT, Nat.reduceLeDiff, Nat.reducePow, Nat.reduceEqDiff, ↓reduceIte, reduceCtorEq, Int.reduceToNat, Try.ntmps79, q1, q2]
      first | refine wpAct_callG (c _ _) rfl rfl rfl rfl rfl rfl rfl rfl rfl ?_ | done
      simp (maxSteps := 400000) -dsimp -implicitDefEqProofs (disch := first | exact TrueB.mk rfl | omega) only [go_sem, Nat.reduceMul, Nat.reduceAdd, Nat.reduceLT, Nat.reduceLeDiff, Nat.reducePow, Nat.reduceEqDiff, ↓reduceIte, reduceCtorEq, Int.reduceToNat, hl, hz, q1, q2]
      first | exact end_row rfl rfl (by rw [bytesOf_length, List.length_cons, List.length_cons]; omega) (allScalar_bytesOf _) | done
    · have c := refCut_any b hb (mru - 6)
      have e : (mru - 6).toNat = fitM mru - 6 := by omega
      rw [e] at c
      refine Runs.of Try.func79 rfl (by simp [Try.ntmps79]) ?_
      simp (maxSteps := 400000) -dsimp -implicitDefEqProofs (disch := first | exact TrueB.mk rfl | omega) only [go_sem, Nat.reduceMul, Nat.reduceAdd, Nat.reduceLT, Nat.reduceLeDiff, Nat.reducePow, Nat.reduceEqDiff, ↓reduceIte, reduceCtorEq, Int.reduceToNat, Try.ntmps79, q1, q2]
      first | refine wpAct_callG (c _ _) rfl rfl rfl rfl rfl rfl rfl rfl rfl ?_ | done
      simp (maxSteps := 400000) -dsimp -implicitDefEqProofs (disch := first | exact TrueB.mk rfl | omega) only [go_sem, Nat.reduceMul, Nat.reduceAdd, Nat.reduceLT, Nat.reduceLeDiff, Nat.reducePow, Nat.reduceEqDiff, ↓reduceIte, reduceCtorEq, Int.reduceToNat, hl, hz, q1, q2]
      first | exact end_row rfl rfl (by rw [bytesOf_length, List.length_cons, List.length_cons]; omega) (allScalar_bytesOf _) | done

set_option maxHeartbeats 16000000 in
theorem replyCopies_runs (b : List UInt8) (n : Nat) (hn : n < 65536) (mru : Int) : Runs Try.prog env 22 [.pure false (.sl (bytesOf b)), .pure false (.int .u16 n), .pure false (.int .i64 mru)] [] (.pure true (.bool true)) [] := by
  refine Runs.of Try.func22 rfl (by simp [Try.ntmps22]) ?_
  simp (maxSteps := 400000) -dsimp -implicitDefEqProofs (disch := first | exact TrueB.mk rfl | omega) only [go_sem, Nat.reduceMul, Nat.reduceAdd, Nat.reduceLT, Nat.reduceLeDiff, Nat.reducePow, Nat.reduceEqDiff, ↓reduceIte, reduceCtorEq, Int.reduceToNat, Try.ntmps22]
  first | refine wpAct_call0 (awake18_any) rfl rfl rfl rfl rfl rfl rfl rfl ?_ | done
  simp (maxSteps := 400000) -dsimp -implicitDefEqProofs (disch := first | exact TrueB.mk rfl | omega) only [go_sem, Nat.reduceMul, Nat.reduceAdd, Nat.reduceLT, Nat.reduceLeDiff, Nat.reducePow, Nat.reduceEqDiff, ↓reduceIte, reduceCtorEq, Int.reduceToNat]
  first | refine condK_dec (fun hb => ?_) (fun hb => ?_) | refine condK_ndec (fun hb => ?_) (fun hb => ?_) | refine condK_beq (fun hb => ?_) (fun hb => ?_) | refine condK_bne (fun hb => ?_) (fun hb => ?_) | refine condK_nbeq (fun hb => ?_) (fun hb => ?_) | refine guardK_dec (fun hb => ?_) (fun hb => ?_) | refine guardK_ndec (fun hb => ?_) (fun hb => ?_) | refine guardK_beq (fun hb => ?_) (fun hb => ?_) | refine guardK_bne (fun hb => ?_) (fun hb => ?_) | refine guardK_nbeq (fun hb => ?_) (fun hb => ?_) | refine condK_not (fun hb => ?_) (fun hb => ?_) | refine guardK_not (fun hb => ?_) (fun hb => ?_) | refine condK_bool (fun hb => ?_) (fun hb => ?_) | refine guardK_bool (fun hb => ?_) (fun hb => ?_) | done
  · simp (maxSteps := 400000) -dsimp -implicitDefEqProofs (disch := first | exact TrueB.mk rfl | omega) only [go_sem, Nat.reduceMul, Nat.reduceAdd, Nat.reduceLT, Nat.reduceLeDiff, Nat.reducePow, Nat.reduceEqDiff, ↓reduceIte, reduceCtorEq, Int.reduceToNat]
    first | refine wpAct_call0 (awake18_any) rfl rfl rfl rfl rfl rfl rfl rfl ?_ | done
    simp (maxSteps := 400000) -dsimp -implicitDefEqProofs (disch := first | exact TrueB.mk rfl | omega) only [go_sem, Nat.reduceMul, Nat.reduceAdd, Nat.reduceLT, Nat.reduceLeDiff, Nat.reducePow, Nat.reduceEqDiff, ↓reduceIte, reduceCtorEq, Int.reduceToNat]
    first | exact end_bool rfl rfl | done
  have hb' : b.length ≤ 1000000 := by omega
  have w : IntKind.i64.wrap (n : Int) = (n : Int) := by rw [wrap_i64 (by omega) (by omega)]
  obtain ⟨z, hz, c3⟩ := refCodeReject_any b hb' mru (false && false) (false && false)
  have hz' : z = 1 ∨ bytesOf (b.take (fitM mru - 4)) = [] := hz.imp_right fun e => by rw [e]; rfl
  simp (maxSteps := 400000) -dsimp -implicitDefEqProofs (disch := first | exact TrueB.mk rfl | omega) only [go_sem, Nat.reduceMul, Nat.reduceAdd, Nat.reduceLT, Nat.reduceLeDiff, Nat.reducePow, Nat.reduceEqDiff, ↓reduceIte, reduceCtorEq, Int.reduceToNat]
  first | refine wpAct_callG (codeReject_any b hb' mru _ _) rfl rfl rfl rfl rfl rfl rfl rfl rfl ?_ | done
  simp (maxSteps := 400000) -dsimp -implicitDefEqProofs (disch := first | exact TrueB.mk rfl | omega) only [go_sem, Nat.reduceMul, Nat.reduceAdd, Nat.reduceLT, Nat.reduceLeDiff, Nat.reducePow, Nat.reduceEqDiff, ↓reduceIte, reduceCtorEq, Int.reduceToNat, w]
  first | refine wpAct_callG (protoReject_any n hn b hb' mru _ _ _) rfl rfl rfl rfl rfl rfl rfl rfl rfl ?_ | done
  simp (maxSteps := 400000) -dsimp -implicitDefEqProofs (disch := first | exact TrueB.mk rfl | omega) only [go_sem, Nat.reduceMul, Nat.reduceAdd, Nat.reduceLT, Nat.reduceLeDiff, Nat.reducePow, Nat.reduceEqDiff, ↓reduceIte, reduceCtorEq, Int.reduceToNat]
  first | refine wpAct_callG (c3) rfl rfl rfl rfl rfl rfl rfl rfl rfl ?_ | done
  simp (maxSteps := 400000) -dsimp -implicitDefEqProofs (disch := first | exact TrueB.mk rfl | omega) only [go_sem, Nat.reduceMul, Nat.reduceAdd, Nat.reduceLT, Nat.reduceLeDiff, Nat.reducePow, Nat.reduceEqDiff, ↓reduceIte, reduceCtorEq, Int.reduceToNat, w, hz']
  first | refine wpAct_callG (refProtoReject_any n hn b hb' mru _ _ _) rfl rfl rfl rfl rfl rfl rfl rfl rfl ?_ | done
  simp (maxSteps := 400000) -dsimp -implicitDefEqProofs (disch := first | exact TrueB.mk rfl | omega) only [go_sem, Nat.reduceMul, Nat.reduceAdd, Nat.reduceLT, Nat.reduceLeDiff, Nat.reducePow, Nat.reduceEqDiff, ↓reduceIte, reduceCtorEq, Int.reduceToNat]
  first | exact end_bool rfl (by simp) | done
end Go.Proofs.Ytpgklagjjimbhaa
