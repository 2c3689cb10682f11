/- YtkjoolmkgpmlfaaC: the law AutoBound, over the evaluator. No claim. -/
import Derived.Test.YtkjoolmkgpmlfaaD
set_option linter.unusedVariables false
set_option linter.unusedSimpArgs false
set_option maxRecDepth 100000
namespace Go.Proofs.Ytkjoolmkgpmlfaa
open Go Go.Proofs.Ytkjoolmkgpmlfaa.V

set_option maxHeartbeats 4000000 in
theorem conf_any (x y : UInt8) (m m' : Bool) : Runs Try.prog env 10 [.pure m (.int .u8 x.toNat), .pure m' (.int .u8 y.toNat)] [] (.pure true (confV (1 + (x.toNat % 255 : Nat)) (1 + (y.toNat % 255 : Nat)) 1)) [] := by
  have hx := x.toNat_lt
  have hy := y.toNat_lt
  have w1 : IntKind.i64.wrap (x.toNat : Int) = (x.toNat : Int) := by rw [wrap_i64 (by omega) (by omega)]
  have w2 : IntKind.i64.wrap (y.toNat : Int) = (y.toNat : Int) := by rw [wrap_i64 (by omega) (by omega)]
  have w3 : IntKind.i64.wrap (1 + ((x.toNat % 255 : Nat) : Int)) = 1 + ((x.toNat % 255 : Nat) : Int) := by rw [wrap_i64 (by omega) (by omega)]
  have w4 : IntKind.i64.wrap (1 + ((y.toNat % 255 : Nat) : Int)) = 1 + ((y.toNat % 255 : Nat) : Int) := by rw [wrap_i64 (by omega) (by omega)]
  unfold confV
  refine Runs.of Try.func10 rfl (by simp [Try.ntmps10]) ?_
  simp (maxSteps := 400000) -dsimp -implicitDefEqProofs (disch := first | exact TrueB.mk rfl | omega) only [go_sem, Nat.reduceMul, Nat.reduceAdd, Nat.reduceLT, Nat.reduceLeDiff, Nat.reducePow, Nat.reduceEqDiff, ↓reduceIte, reduceCtorEq, Int.reduceToNat, Try.ntmps10, w1, w2, w3, w4, tmod_nat]
  first | exact rfl | done

/-- What a timeout does, of states that have one. -/
def stepT (s r : Int) : Int × Int × Int := if 0 < r then ((if s = 4 then 4 else if s = 5 then 5 else if s = 8 then 8 else 6), r - 1, (if s = 4 ∨ s = 5 then 10 else 7)) else ((if s = 4 then 2 else 3), 0, 4)
theorem five {s : Int} (h : 4 ≤ s ∧ s ≤ 8) : s = 4 ∨ s = 5 ∨ s = 6 ∨ s = 7 ∨ s = 8 := by omega
theorem stepT_any (a b c s r : Int) (hs : 4 ≤ s ∧ s ≤ 8) (h0 : 0 ≤ r) (hr : r ≤ 255) (mc m m' : Bool) : Runs Try.prog env 12 [.pure mc (confV a b c), .pure m (autV s r), .pure m' (.int .i64 (timedA s r))] [] (.tuple [.pure false (autV (stepT s r).1 (stepT s r).2.1), .pure false (.sl [.int .i64 (stepT s r).2.2]), .pure true (.bool true)]) [] := by
  rcases Classical.em (0 < r) with h | h
  · have e : timedA s r = 5 := by unfold timedA; rw [if_pos hs, if_pos h]
    rw [e]
    unfold stepT
    rw [if_pos h]
    rcases five hs with rfl | rfl | rfl | rfl | rfl
    · exact step_4_5 a b c r h hr mc m m'
    · exact step_5_5 a b c r h hr mc m m'
    · exact step_6_5 a b c r h hr mc m m'
    · exact step_7_5 a b c r h hr mc m m'
    · exact step_8_5 a b c r h hr mc m m'
  · have e : timedA s r = 6 := by unfold timedA; rw [if_pos hs, if_neg h]
    have r0 : r = 0 := by omega
    rw [e]
    subst r0
    unfold stepT
    rw [if_neg h]
    rcases five hs with rfl | rfl | rfl | rfl | rfl
    · exact step_4_6 a b c mc m m'
    · exact step_5_6 a b c mc m m'
    · exact step_6_6 a b c mc m m'
    · exact step_7_6 a b c mc m m'
    · exact step_8_6 a b c mc m m'
theorem stepN_any (a b c s r e : Int) (h1 : 0 ≤ s ∧ s ≤ 9) (h2 : ¬ (4 ≤ s ∧ s ≤ 8)) (he : e = 5 ∨ e = 6) (mc m m' : Bool) : Runs Try.prog env 12 [.pure mc (confV a b c), .pure m (autV s r), .pure m' (.int .i64 e)] [] (.tuple [.pure true (autV 0 0), .row 0 0, .pure true (.bool false)]) [(0, .row true 0 0 [])] := by
  have h3 : s = 0 ∨ s = 1 ∨ s = 2 ∨ s = 3 ∨ s = 9 := by omega
  rcases he with rfl | rfl
  · rcases h3 with rfl | rfl | rfl | rfl | rfl
    · exact stepNo_0_5 a b c r mc m m'
    · exact stepNo_1_5 a b c r mc m m'
    · exact stepNo_2_5 a b c r mc m m'
    · exact stepNo_3_5 a b c r mc m m'
    · exact stepNo_9_5 a b c r mc m m'
  · rcases h3 with rfl | rfl | rfl | rfl | rfl
    · exact stepNo_0_6 a b c r mc m m'
    · exact stepNo_1_6 a b c r mc m m'
    · exact stepNo_2_6 a b c r mc m m'
    · exact stepNo_3_6 a b c r mc m m'
    · exact stepNo_9_6 a b c r mc m m'

def boundI (r : Int) (i : Nat) (s' r' sent : Int) : Prop := 0 ≤ r' ∧ r' ≤ 255 ∧ sent = r - r' ∧ ((4 ≤ s' ∧ s' ≤ 8) ∧ (i : Int) + r' = r ∨ (s' = 2 ∨ s' = 3) ∧ r' = 0 ∧ (i : Int) = r + 1)

set_option maxHeartbeats 16000000 in
theorem autoBound_runs (s r : Int) (x y : UInt8) : Runs Try.prog env 4 [.pure false (autV s r), .pure false (.int .u8 x.toNat), .pure false (.int .u8 y.toNat)] [] (.pure true (.bool true)) [] := by
  have c1 := fun m => refRight_any s r m
  have c2 := fun m m' => conf_any x y m m'
  generalize (1 + ((x.toNat % 255 : Nat) : Int)) = ca at *
  generalize (1 + ((y.toNat % 255 : Nat) : Int)) = cb at *
  have c3 := fun h m => timed_any s r h m
  have c4 := fun e h1 h2 he mc m m' => stepN_any ca cb 1 s r e h1 h2 he mc m m'
  unfold autV at c1 c3 c4 ⊢
  unfold confV at c2 c4
  refine Runs.of Try.func4 rfl (by simp [Try.ntmps4]) ?_
  simp (maxSteps := 400000) -dsimp -implicitDefEqProofs (disch := first | exact TrueB.mk rfl | omega) only [go_sem, Nat.reduceMul, Nat.reduceAdd, Nat.reduceLT, Nat.reduceLeDiff, Nat.reducePow, Nat.reduceEqDiff, ↓reduceIte, reduceCtorEq, Int.reduceToNat, Try.ntmps4]
  first | refine wpAct_call0 (awake20_any) rfl rfl rfl rfl rfl rfl rfl rfl ?_ | done
  simp (maxSteps := 400000) -dsimp -implicitDefEqProofs (disch := first | exact TrueB.mk rfl | omega) only [go_sem, Nat.reduceMul, Nat.reduceAdd, Nat.reduceLT, Nat.reduceLeDiff, Nat.reducePow, Nat.reduceEqDiff, ↓reduceIte, reduceCtorEq, Int.reduceToNat]
  first | refine wpAct_call0 (c1 _) rfl rfl rfl rfl rfl rfl rfl rfl ?_ | done
  cases hR : rightA s r with
  | false =>
    simp (maxSteps := 400000) -dsimp -implicitDefEqProofs (disch := first | exact TrueB.mk rfl | omega) only [go_sem, Nat.reduceMul, Nat.reduceAdd, Nat.reduceLT, Nat.reduceLeDiff, Nat.reducePow, Nat.reduceEqDiff, ↓reduceIte, reduceCtorEq, Int.reduceToNat]
    first | refine wpAct_call0 (awake20_any) rfl rfl rfl rfl rfl rfl rfl rfl ?_ | done
    simp (maxSteps := 400000) -dsimp -implicitDefEqProofs (disch := first | exact TrueB.mk rfl | omega) only [go_sem, Nat.reduceMul, Nat.reduceAdd, Nat.reduceLT, Nat.reduceLeDiff, Nat.reducePow, Nat.reduceEqDiff, ↓reduceIte, reduceCtorEq, Int.reduceToNat]
    first | exact end_bool rfl rfl | done
  | true =>
  obtain ⟨h1, h2, h3, h4⟩ := of_decide_eq_true hR
  simp (maxSteps := 400000) -dsimp -implicitDefEqProofs (disch := first | exact TrueB.mk rfl | omega) only [go_sem, Nat.reduceMul, Nat.reduceAdd, Nat.reduceLT, Nat.reduceLeDiff, Nat.reducePow, Nat.reduceEqDiff, ↓reduceIte, reduceCtorEq, Int.reduceToNat]
  first | refine wpAct_call0 (c2 _ _) rfl rfl rfl rfl rfl rfl rfl rfl ?_ | done
  simp (maxSteps := 400000) -dsimp -implicitDefEqProofs (disch := first | exact TrueB.mk rfl | omega) only [go_sem, Nat.reduceMul, Nat.reduceAdd, Nat.reduceLT, Nat.reduceLeDiff, Nat.reducePow, Nat.reduceEqDiff, ↓reduceIte, reduceCtorEq, Int.reduceToNat]
  first | refine wpAct_call0 (c3 ⟨h1, h2⟩ _) rfl rfl rfl rfl rfl rfl rfl rfl ?_ | done
  rcases Classical.em (4 ≤ s ∧ s ≤ 8) with h5 | h5
  rotate_left
  · have e0 : timedA s r = 0 := if_neg h5
    simp (maxSteps := 400000) -dsimp -implicitDefEqProofs (disch := first | exact TrueB.mk rfl | omega) only [go_sem, Nat.reduceMul, Nat.reduceAdd, Nat.reduceLT, Nat.reduceLeDiff, Nat.reducePow, Nat.reduceEqDiff, ↓reduceIte, reduceCtorEq, Int.reduceToNat, e0]
    first | refine wpAct_callG (c4 5 ⟨h1, h2⟩ h5 (.inl rfl) _ _ _) rfl rfl rfl rfl rfl rfl rfl rfl rfl ?_ | done
    simp (maxSteps := 400000) -dsimp -implicitDefEqProofs (disch := first | exact TrueB.mk rfl | omega) only [go_sem, Nat.reduceMul, Nat.reduceAdd, Nat.reduceLT, Nat.reduceLeDiff, Nat.reducePow, Nat.reduceEqDiff, ↓reduceIte, reduceCtorEq, Int.reduceToNat]
    first | refine wpAct_callG (c4 6 ⟨h1, h2⟩ h5 (.inr rfl) _ _ _) rfl rfl rfl rfl rfl rfl rfl rfl rfl ?_ | done
    simp (maxSteps := 400000) -dsimp -implicitDefEqProofs (disch := first | exact TrueB.mk rfl | omega) only [go_sem, Nat.reduceMul, Nat.reduceAdd, Nat.reduceLT, Nat.reduceLeDiff, Nat.reducePow, Nat.reduceEqDiff, ↓reduceIte, reduceCtorEq, Int.reduceToNat]
    first | exact end_bool rfl rfl | done
  have e0 : ¬ timedA s r = 0 := by unfold timedA; rw [if_pos h5]; split <;> decide
  have d1 := fun s r h m => timed_any s r h m
  have d2 := fun s r h h0 hr mc m m' => stepT_any ca cb 1 s r h h0 hr mc m m'
  unfold autV at d1 d2
  unfold confV at d2
  clear c1 c2 c3 c4
  simp (maxSteps := 400000) -dsimp -implicitDefEqProofs (disch := first | exact TrueB.mk rfl | omega) only [go_sem, Nat.reduceMul, Nat.reduceAdd, Nat.reduceLT, Nat.reduceLeDiff, Nat.reducePow, Nat.reduceEqDiff, ↓reduceIte, reduceCtorEq, Int.reduceToNat, e0]
  refine wpLoop_ind (α := Nat × Int × Int × Int)
    (fun a => ⟨[(3, .ptr 2048 0), (7, .ptr 2049 0), (14, .pure false (.int .i64 r)), (15, .pure true (.int .i64 a.2.2.2)), (16, .pure true (.int .i64 a.1))], [(2048, .box [.pure false (.int .i64 a.2.1), .pure false (.int .i64 a.2.2.1)]), (2049, .box [.pure true (.int .i64 ca), .pure true (.int .i64 cb), .pure true (.int .i64 1), .pure true (.int .i64 0), .pure true (.str []), .pure true (.str []), .pure true (.int .i64 0), .pure true (.int .u32 0), .pure true (.bool false)])]⟩)
    (fun a => boundI r a.1 a.2.1 a.2.2.1 a.2.2.2) (fun a => 300 - a.1) ?_ (0, s, r, 0) ⟨h3, h4, by show (0 : Int) = r - r; omega, .inl ⟨h5, by simp⟩⟩ rfl
  rintro ⟨i, s1, r1, sent⟩ ⟨g1, g2, g3, g4⟩
  simp only at g1 g2 g3 g4
  have gi : (i : Int) ≤ 256 := by omega
  simp (maxSteps := 400000) -dsimp -implicitDefEqProofs (disch := first | exact TrueB.mk rfl | omega) only [go_sem, Nat.reduceMul, Nat.reduceAdd, Nat.reduceLT, Nat.reduceLeDiff, Nat.reducePow, Nat.reduceEqDiff, ↓reduceIte, reduceCtorEq, Int.reduceToNat, gi]
  first | refine wpAct_call0 (d1 s1 r1 (by omega) _) rfl rfl rfl rfl rfl rfl rfl rfl ?_ | done
  rcases g4 with ⟨g5, g6⟩ | ⟨g5, g6, g7⟩
  rotate_left
  · have e1 : timedA s1 r1 = 0 := if_neg (by omega)
    have es : sent = r := by omega
    subst g6 es
    simp (maxSteps := 400000) -dsimp -implicitDefEqProofs (disch := first | exact TrueB.mk rfl | omega) only [go_sem, Nat.reduceMul, Nat.reduceAdd, Nat.reduceLT, Nat.reduceLeDiff, Nat.reducePow, Nat.reduceEqDiff, ↓reduceIte, reduceCtorEq, Int.reduceToNat, e1]
    first | refine wpAct_call0 (d1 s1 0 (by omega) _) rfl rfl rfl rfl rfl rfl rfl rfl ?_ | done
    rcases g5 with rfl | rfl
    · simp (maxSteps := 400000) -dsimp -implicitDefEqProofs (disch := first | exact TrueB.mk rfl | omega) only [go_sem, Nat.reduceMul, Nat.reduceAdd, Nat.reduceLT, Nat.reduceLeDiff, Nat.reducePow, Nat.reduceEqDiff, ↓reduceIte, reduceCtorEq, Int.reduceToNat, e1]
      first | exact end_bool rfl rfl | done
    · simp (maxSteps := 400000) -dsimp -implicitDefEqProofs (disch := first | exact TrueB.mk rfl | omega) only [go_sem, Nat.reduceMul, Nat.reduceAdd, Nat.reduceLT, Nat.reduceLeDiff, Nat.reducePow, Nat.reduceEqDiff, ↓reduceIte, reduceCtorEq, Int.reduceToNat, e1]
      first | exact end_bool rfl rfl | done
  have wsent : IntKind.i64.wrap (sent + 1) = sent + 1 := by rw [wrap_i64 (by omega) (by omega)]
  rcases Classical.em (0 < r1) with k1 | k1
  · have e1 : timedA s1 r1 = 5 := by unfold timedA; rw [if_pos g5, if_pos k1]
    obtain ⟨s2, act, q1, q2, q3⟩ : ∃ s2 act, stepT s1 r1 = (s2, r1 - 1, act) ∧ (4 ≤ s2 ∧ s2 ≤ 8) ∧ (act = 10 ∨ act = 7) := by
      unfold stepT
      rw [if_pos k1]
      refine ⟨_, _, rfl, ?_, ?_⟩
      · split
        · omega
        · split
          · omega
          · split <;> omega
      · split
        · exact .inl rfl
        · exact .inr rfl
    have d3 := d2 s1 r1 g5 g1 g2
    rw [q1, e1] at d3
    simp (maxSteps := 400000) -dsimp -implicitDefEqProofs (disch := first | exact TrueB.mk rfl | omega) only [go_sem, Nat.reduceMul, Nat.reduceAdd, Nat.reduceLT, Nat.reduceLeDiff, Nat.reducePow, Nat.reduceEqDiff, ↓reduceIte, reduceCtorEq, Int.reduceToNat, e1]
    first | refine wpAct_call0 (d3 _ _ _) rfl rfl rfl rfl rfl rfl rfl rfl ?_ | done
    rcases q3 with rfl | rfl
    · simp (maxSteps := 400000) -dsimp -implicitDefEqProofs (disch := first | exact TrueB.mk rfl | omega) only [go_sem, Nat.reduceMul, Nat.reduceAdd, Nat.reduceLT, Nat.reduceLeDiff, Nat.reducePow, Nat.reduceEqDiff, ↓reduceIte, reduceCtorEq, Int.reduceToNat, k1]
      refine wpLoop_ind (α := Nat)
        (fun k => ⟨[(3, .ptr 2048 0), (7, .ptr 2049 0), (14, .pure false (.int .i64 r)), (15, .pure true (.int .i64 (if k = 0 then sent else (sent + 1)))), (16, .pure true (.int .i64 i)), (18, .ptr 2050 0), (19, .pure false (.sl [.int .i64 10])), (21, .pure true (.int .i64 k))], [(2048, .box [.pure false (.int .i64 s1), .pure false (.int .i64 r1)]), (2049, .box [.pure true (.int .i64 ca), .pure true (.int .i64 cb), .pure true (.int .i64 1), .pure true (.int .i64 0), .pure true (.str []), .pure true (.str []), .pure true (.int .i64 0), .pure true (.int .u32 0), .pure true (.bool false)]), (2050, .box [.pure false (.int .i64 s2), .pure false (.int .i64 (r1 - 1))])]⟩)
        (fun k => k ≤ 1) (fun k => 1 - k) ?_ 0 (by omega) rfl
      rintro k hk
      have hkk : k = 0 ∨ k = 1 := by omega
      rcases hkk with rfl | rfl
      · simp only [if_true]
        simp (maxSteps := 400000) -dsimp -implicitDefEqProofs (disch := first | exact TrueB.mk rfl | omega) only [go_sem, Nat.reduceMul, Nat.reduceAdd, Nat.reduceLT, Nat.reduceLeDiff, Nat.reducePow, Nat.reduceEqDiff, ↓reduceIte, reduceCtorEq, Int.reduceToNat, wsent]
        first | exact again_mk ⟨1, by omega, by omega, rfl⟩ | done
      · simp only [show ¬ (1 : Nat) = 0 by decide, if_false]
        simp (maxSteps := 400000) -dsimp -implicitDefEqProofs (disch := first | exact TrueB.mk rfl | omega) only [go_sem, Nat.reduceMul, Nat.reduceAdd, Nat.reduceLT, Nat.reduceLeDiff, Nat.reducePow, Nat.reduceEqDiff, ↓reduceIte, reduceCtorEq, Int.reduceToNat]
        refine again_mk ⟨(i + 1, s2, (r1 - 1), (sent + 1)), ?_, by show 300 - (i + 1) < 300 - i; omega, rfl⟩
        exact ⟨by show 0 ≤ r1 - 1; omega, by show r1 - 1 ≤ 255; omega, by show sent + 1 = r - (r1 - 1); omega, .inl ⟨q2, by show ((i + 1 : Nat) : Int) + (r1 - 1) = r; omega⟩⟩
    · simp (maxSteps := 400000) -dsimp -implicitDefEqProofs (disch := first | exact TrueB.mk rfl | omega) only [go_sem, Nat.reduceMul, Nat.reduceAdd, Nat.reduceLT, Nat.reduceLeDiff, Nat.reducePow, Nat.reduceEqDiff, ↓reduceIte, reduceCtorEq, Int.reduceToNat, k1]
      refine wpLoop_ind (α := Nat)
        (fun k => ⟨[(3, .ptr 2048 0), (7, .ptr 2049 0), (14, .pure false (.int .i64 r)), (15, .pure true (.int .i64 (if k = 0 then sent else (sent + 1)))), (16, .pure true (.int .i64 i)), (18, .ptr 2050 0), (19, .pure false (.sl [.int .i64 7])), (21, .pure true (.int .i64 k))], [(2048, .box [.pure false (.int .i64 s1), .pure false (.int .i64 r1)]), (2049, .box [.pure true (.int .i64 ca), .pure true (.int .i64 cb), .pure true (.int .i64 1), .pure true (.int .i64 0), .pure true (.str []), .pure true (.str []), .pure true (.int .i64 0), .pure true (.int .u32 0), .pure true (.bool false)]), (2050, .box [.pure false (.int .i64 s2), .pure false (.int .i64 (r1 - 1))])]⟩)
        (fun k => k ≤ 1) (fun k => 1 - k) ?_ 0 (by omega) rfl
      rintro k hk
      have hkk : k = 0 ∨ k = 1 := by omega
      rcases hkk with rfl | rfl
      · simp only [if_true]
        simp (maxSteps := 400000) -dsimp -implicitDefEqProofs (disch := first | exact TrueB.mk rfl | omega) only [go_sem, Nat.reduceMul, Nat.reduceAdd, Nat.reduceLT, Nat.reduceLeDiff, Nat.reducePow, Nat.reduceEqDiff, ↓reduceIte, reduceCtorEq, Int.reduceToNat, wsent]
        first | exact again_mk ⟨1, by omega, by omega, rfl⟩ | done
      · simp only [show ¬ (1 : Nat) = 0 by decide, if_false]
        simp (maxSteps := 400000) -dsimp -implicitDefEqProofs (disch := first | exact TrueB.mk rfl | omega) only [go_sem, Nat.reduceMul, Nat.reduceAdd, Nat.reduceLT, Nat.reduceLeDiff, Nat.reducePow, Nat.reduceEqDiff, ↓reduceIte, reduceCtorEq, Int.reduceToNat]
        refine again_mk ⟨(i + 1, s2, (r1 - 1), (sent + 1)), ?_, by show 300 - (i + 1) < 300 - i; omega, rfl⟩
        exact ⟨by show 0 ≤ r1 - 1; omega, by show r1 - 1 ≤ 255; omega, by show sent + 1 = r - (r1 - 1); omega, .inl ⟨q2, by show ((i + 1 : Nat) : Int) + (r1 - 1) = r; omega⟩⟩
  · have e1 : timedA s1 r1 = 6 := by unfold timedA; rw [if_pos g5, if_neg k1]
    have r0 : r1 = 0 := by omega
    obtain ⟨s2, q1, q2⟩ : ∃ s2, stepT s1 r1 = (s2, 0, 4) ∧ (s2 = 2 ∨ s2 = 3) := by
      unfold stepT
      rw [if_neg k1]
      refine ⟨_, rfl, ?_⟩
      split
      · exact .inl rfl
      · exact .inr rfl
    have d3 := d2 s1 r1 g5 g1 g2
    rw [q1, e1] at d3
    subst r0
    simp (maxSteps := 400000) -dsimp -implicitDefEqProofs (disch := first | exact TrueB.mk rfl | omega) only [go_sem, Nat.reduceMul, Nat.reduceAdd, Nat.reduceLT, Nat.reduceLeDiff, Nat.reducePow, Nat.reduceEqDiff, ↓reduceIte, reduceCtorEq, Int.reduceToNat, e1]
    first | refine wpAct_call0 (d3 _ _ _) rfl rfl rfl rfl rfl rfl rfl rfl ?_ | done
    simp (maxSteps := 400000) -dsimp -implicitDefEqProofs (disch := first | exact TrueB.mk rfl | omega) only [go_sem, Nat.reduceMul, Nat.reduceAdd, Nat.reduceLT, Nat.reduceLeDiff, Nat.reducePow, Nat.reduceEqDiff, ↓reduceIte, reduceCtorEq, Int.reduceToNat]
    refine wpLoop_ind (α := Nat)
      (fun k => ⟨[(3, .ptr 2048 0), (7, .ptr 2049 0), (14, .pure false (.int .i64 r)), (15, .pure true (.int .i64 (if k = 0 then sent else sent))), (16, .pure true (.int .i64 i)), (18, .ptr 2050 0), (19, .pure false (.sl [.int .i64 4])), (21, .pure true (.int .i64 k))], [(2048, .box [.pure false (.int .i64 s1), .pure false (.int .i64 0)]), (2049, .box [.pure true (.int .i64 ca), .pure true (.int .i64 cb), .pure true (.int .i64 1), .pure true (.int .i64 0), .pure true (.str []), .pure true (.str []), .pure true (.int .i64 0), .pure true (.int .u32 0), .pure true (.bool false)]), (2050, .box [.pure false (.int .i64 s2), .pure false (.int .i64 0)])]⟩)
      (fun k => k ≤ 1) (fun k => 1 - k) ?_ 0 (by omega) rfl
    rintro k hk
    have hkk : k = 0 ∨ k = 1 := by omega
    rcases hkk with rfl | rfl
    · simp only [if_true]
      simp (maxSteps := 400000) -dsimp -implicitDefEqProofs (disch := first | exact TrueB.mk rfl | omega) only [go_sem, Nat.reduceMul, Nat.reduceAdd, Nat.reduceLT, Nat.reduceLeDiff, Nat.reducePow, Nat.reduceEqDiff, ↓reduceIte, reduceCtorEq, Int.reduceToNat, wsent]
      first | exact again_mk ⟨1, by omega, by omega, rfl⟩ | done
    · simp only [show ¬ (1 : Nat) = 0 by decide, if_false]
      simp (maxSteps := 400000) -dsimp -implicitDefEqProofs (disch := first | exact TrueB.mk rfl | omega) only [go_sem, Nat.reduceMul, Nat.reduceAdd, Nat.reduceLT, Nat.reduceLeDiff, Nat.reducePow, Nat.reduceEqDiff, ↓reduceIte, reduceCtorEq, Int.reduceToNat]
      refine again_mk ⟨(i + 1, s2, 0, sent), ?_, by show 300 - (i + 1) < 300 - i; omega, rfl⟩
      exact ⟨by show (0 : Int) ≤ 0; omega, by show (0 : Int) ≤ 255; omega, by show sent = r - 0; omega, .inr ⟨q2, rfl, by show ((i + 1 : Nat) : Int) = r + 1; omega⟩⟩
end Go.Proofs.Ytkjoolmkgpmlfaa
