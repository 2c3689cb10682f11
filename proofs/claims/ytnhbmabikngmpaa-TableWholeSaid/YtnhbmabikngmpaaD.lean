/- YtnhbmabikngmpaaD: the law TableWhole, over the evaluator. No claim. -/
import Derived.Test.YtnhbmabikngmpaaC
set_option linter.unusedVariables false
set_option linter.unusedSimpArgs false
set_option maxRecDepth 100000
namespace Go.Proofs.Ytnhbmabikngmpaa
open Go Go.Proofs.Ytnhbmabikngmpaa.V

def wholeOk (s e : Nat) : Bool := match cellT s e with
  | none => !(decide (2 ≤ s) && decide (7 ≤ e) && decide (e ≤ 16))
  | some (n, l) => decide (n ≤ 9)
theorem whole_all : ∀ s : Fin 10, ∀ e : Fin 18, wholeOk s e = true := by decide +kernel
theorem cell_some {s e : Int} {n : Nat} {l : List Nat} (h : cellI s e = some (n, l)) : 0 ≤ s ∧ s ≤ 9 ∧ n ≤ 9 := by
  unfold cellI at h
  split at h
  · rename_i hin
    have := whole_all ⟨s.toNat, by omega⟩ ⟨e.toNat, by omega⟩
    unfold wholeOk at this
    simp only [h, decide_eq_true_eq] at this
    exact ⟨by omega, by omega, this⟩
  · cases h
theorem cell_none {s e : Int} (h : cellI s e = none) : ¬ (2 ≤ s ∧ s ≤ 9 ∧ 7 ≤ e ∧ e ≤ 16) := by
  rintro ⟨h1, h2, h3, h4⟩
  unfold cellI at h
  rw [if_pos (by omega)] at h
  have := whole_all ⟨s.toNat, by omega⟩ ⟨e.toNat, by omega⟩
  unfold wholeOk at this
  simp only [h, Bool.not_eq_true', Bool.and_eq_false_iff, decide_eq_false_iff_not] at this
  omega
def evL (s : Nat) : List Nat := (evT[s]?).getD []
theorem ev_any (s : Nat) (h : s ≤ 9) (m : Bool) : 3 ≤ (evL s).length ∧ (evL s).length ≤ 20 ∧ Runs Try.prog env 8 [.pure m (.int .i64 s)] [] (.row 0 (evL s).length) [(0, .row true 1 0 (intsOf (evL s)))] := by
  have h2 : s = 0 ∨ s = 1 ∨ s = 2 ∨ s = 3 ∨ s = 4 ∨ s = 5 ∨ s = 6 ∨ s = 7 ∨ s = 8 ∨ s = 9 := by omega
  rcases h2 with rfl | rfl | rfl | rfl | rfl | rfl | rfl | rfl | rfl | rfl
  · exact ⟨by decide, by decide, ev_0 m⟩
  · exact ⟨by decide, by decide, ev_1 m⟩
  · exact ⟨by decide, by decide, ev_2 m⟩
  · exact ⟨by decide, by decide, ev_3 m⟩
  · exact ⟨by decide, by decide, ev_4 m⟩
  · exact ⟨by decide, by decide, ev_5 m⟩
  · exact ⟨by decide, by decide, ev_6 m⟩
  · exact ⟨by decide, by decide, ev_7 m⟩
  · exact ⟨by decide, by decide, ev_8 m⟩
  · exact ⟨by decide, by decide, ev_9 m⟩

set_option maxHeartbeats 16000000 in
theorem tableWhole_runs (s e : Int) (b : List UInt8) : Runs Try.prog env 3 [.pure false (.int .i64 s), .pure false (.int .i64 e), .pure false (.sl (bytesOf b))] [] (.pure true (.bool true)) [] := by
  have c := fun m m' => look_any s e m m'
  have h1 := fun n l => cell_some (s := s) (e := e) (n := n) (l := l)
  have h2 := cell_none (s := s) (e := e)
  generalize cellI s e = C at *
  refine Runs.of Try.func3 rfl (by simp [Try.ntmps3]) ?_
  simp (maxSteps := 400000) -dsimp -implicitDefEqProofs (disch := first | exact TrueB.mk rfl | omega) only [go_sem, Nat.reduceMul, Nat.reduceAdd, Nat.reduceLT, Nat.reduceLeDiff, Nat.reducePow, Nat.reduceEqDiff, ↓reduceIte, reduceCtorEq, Int.reduceToNat, Try.ntmps3]
  first | refine wpAct_call0 (awake19_any) rfl rfl rfl rfl rfl rfl rfl rfl ?_ | done
  simp (maxSteps := 400000) -dsimp -implicitDefEqProofs (disch := first | exact TrueB.mk rfl | omega) only [go_sem, Nat.reduceMul, Nat.reduceAdd, Nat.reduceLT, Nat.reduceLeDiff, Nat.reducePow, Nat.reduceEqDiff, ↓reduceIte, reduceCtorEq, Int.reduceToNat]
  first | refine condK_dec (fun hb => ?_) (fun hb => ?_) | refine condK_ndec (fun hb => ?_) (fun hb => ?_) | refine condK_beq (fun hb => ?_) (fun hb => ?_) | refine condK_bne (fun hb => ?_) (fun hb => ?_) | refine condK_nbeq (fun hb => ?_) (fun hb => ?_) | refine guardK_dec (fun hb => ?_) (fun hb => ?_) | refine guardK_ndec (fun hb => ?_) (fun hb => ?_) | refine guardK_beq (fun hb => ?_) (fun hb => ?_) | refine guardK_bne (fun hb => ?_) (fun hb => ?_) | refine guardK_nbeq (fun hb => ?_) (fun hb => ?_) | refine condK_not (fun hb => ?_) (fun hb => ?_) | refine guardK_not (fun hb => ?_) (fun hb => ?_) | refine condK_bool (fun hb => ?_) (fun hb => ?_) | refine guardK_bool (fun hb => ?_) (fun hb => ?_) | done
  · simp (maxSteps := 400000) -dsimp -implicitDefEqProofs (disch := first | exact TrueB.mk rfl | omega) only [go_sem, Nat.reduceMul, Nat.reduceAdd, Nat.reduceLT, Nat.reduceLeDiff, Nat.reducePow, Nat.reduceEqDiff, ↓reduceIte, reduceCtorEq, Int.reduceToNat]
    first | refine wpAct_call0 (awake19_any) rfl rfl rfl rfl rfl rfl rfl rfl ?_ | done
    simp (maxSteps := 400000) -dsimp -implicitDefEqProofs (disch := first | exact TrueB.mk rfl | omega) only [go_sem, Nat.reduceMul, Nat.reduceAdd, Nat.reduceLT, Nat.reduceLeDiff, Nat.reducePow, Nat.reduceEqDiff, ↓reduceIte, reduceCtorEq, Int.reduceToNat]
    first | exact end_bool rfl rfl | done
  simp (maxSteps := 400000) -dsimp -implicitDefEqProofs (disch := first | exact TrueB.mk rfl | omega) only [go_sem, Nat.reduceMul, Nat.reduceAdd, Nat.reduceLT, Nat.reduceLeDiff, Nat.reducePow, Nat.reduceEqDiff, ↓reduceIte, reduceCtorEq, Int.reduceToNat]
  rcases C with _ | ⟨n, l⟩
  · have h3 := h2 rfl
    unfold lookR at c
    first | refine wpAct_call0 (c _ _) rfl rfl rfl rfl rfl rfl rfl rfl ?_ | done
    rcases Classical.em (2 ≤ s) with k2 | k2
    all_goals
      rcases Classical.em (s ≤ 9) with k3 | k3
    all_goals
      rcases Classical.em (7 ≤ e) with k4 | k4
    all_goals
      rcases Classical.em (e ≤ 16) with k5 | k5
    all_goals
      first
      | omega
      | skip
    all_goals
      simp (maxSteps := 400000) -dsimp -implicitDefEqProofs (disch := first | exact TrueB.mk rfl | omega) only [go_sem, Nat.reduceMul, Nat.reduceAdd, Nat.reduceLT, Nat.reduceLeDiff, Nat.reducePow, Nat.reduceEqDiff, ↓reduceIte, reduceCtorEq, Int.reduceToNat]
      refine wpLoop_ind (α := Nat × Nat × Bool)
        (fun a => ⟨[(2, .pure false (.sl (bytesOf b))), (10, .pure a.2.2 (.int .i64 a.2.1)), (11, .pure true (.int .i64 a.1))], []⟩)
        (fun a => a.1 ≤ b.length ∧ a.2.1 ≤ 9) (fun a => b.length - a.1) ?_ (0, 0, true) ⟨by simp, by simp⟩ rfl
      rintro ⟨i, st, q⟩ ⟨hi, hst⟩
      simp only at hi hst
      simp (maxSteps := 400000) -dsimp -implicitDefEqProofs (disch := first | exact TrueB.mk rfl | omega) only [go_sem, Nat.reduceMul, Nat.reduceAdd, Nat.reduceLT, Nat.reduceLeDiff, Nat.reducePow, Nat.reduceEqDiff, ↓reduceIte, reduceCtorEq, Int.reduceToNat]
      first | refine condK_dec (fun k1 => ?_) (fun k1 => ?_) | refine condK_ndec (fun k1 => ?_) (fun k1 => ?_) | refine condK_beq (fun k1 => ?_) (fun k1 => ?_) | refine condK_bne (fun k1 => ?_) (fun k1 => ?_) | refine condK_nbeq (fun k1 => ?_) (fun k1 => ?_) | refine guardK_dec (fun k1 => ?_) (fun k1 => ?_) | refine guardK_ndec (fun k1 => ?_) (fun k1 => ?_) | refine guardK_beq (fun k1 => ?_) (fun k1 => ?_) | refine guardK_bne (fun k1 => ?_) (fun k1 => ?_) | refine guardK_nbeq (fun k1 => ?_) (fun k1 => ?_) | refine condK_not (fun k1 => ?_) (fun k1 => ?_) | refine guardK_not (fun k1 => ?_) (fun k1 => ?_) | refine condK_bool (fun k1 => ?_) (fun k1 => ?_) | refine guardK_bool (fun k1 => ?_) (fun k1 => ?_) | done
      · have hlt : i < b.length := by omega
        have g1 : (bytesOf b)[i]? = some (.int .u8 ((b[i]'hlt).toNat : Int)) := by simp [bytesOf, hlt]
        have hx := (b[i]'hlt).toNat_lt
        have wx : IntKind.i64.wrap ((b[i]'hlt).toNat : Int) = ((b[i]'hlt).toNat : Int) := by rw [wrap_i64 (by omega) (by omega)]
        have d := fun m m' => look_any (st : Int) (((b[i]'hlt).toNat % 18 : Nat) : Int) m m'
        have d1 := fun n l => cell_some (s := (st : Int)) (e := (((b[i]'hlt).toNat % 18 : Nat) : Int)) (n := n) (l := l)
        generalize cellI (st : Int) (((b[i]'hlt).toNat % 18 : Nat) : Int) = D at *
        simp (maxSteps := 400000) -dsimp -implicitDefEqProofs (disch := first | exact TrueB.mk rfl | omega) only [go_sem, Nat.reduceMul, Nat.reduceAdd, Nat.reduceLT, Nat.reduceLeDiff, Nat.reducePow, Nat.reduceEqDiff, ↓reduceIte, reduceCtorEq, Int.reduceToNat, g1, wx, tmod_nat]
        cases D with
        | none =>
          unfold lookR at d
          first | refine wpAct_call0 (d _ _) rfl rfl rfl rfl rfl rfl rfl rfl ?_ | done
          simp (maxSteps := 400000) -dsimp -implicitDefEqProofs (disch := first | exact TrueB.mk rfl | omega) only [go_sem, Nat.reduceMul, Nat.reduceAdd, Nat.reduceLT, Nat.reduceLeDiff, Nat.reducePow, Nat.reduceEqDiff, ↓reduceIte, reduceCtorEq, Int.reduceToNat]
          first | exact again_mk ⟨(i + 1, st, q), ⟨by show i + 1 ≤ _; omega, hst⟩, by show _ - (i + 1) < _ - i; omega, rfl⟩ | done
        | some r =>
          obtain ⟨n2, l2⟩ := r
          have d2 := (d1 n2 l2 rfl).2.2
          unfold lookR at d
          first | refine wpAct_call0 (d _ _) rfl rfl rfl rfl rfl rfl rfl rfl ?_ | done
          simp (maxSteps := 400000) -dsimp -implicitDefEqProofs (disch := first | exact TrueB.mk rfl | omega) only [go_sem, Nat.reduceMul, Nat.reduceAdd, Nat.reduceLT, Nat.reduceLeDiff, Nat.reducePow, Nat.reduceEqDiff, ↓reduceIte, reduceCtorEq, Int.reduceToNat]
          first | exact again_mk ⟨(i + 1, n2, false), ⟨by show i + 1 ≤ _; omega, d2⟩, by show _ - (i + 1) < _ - i; omega, rfl⟩ | done
      · obtain ⟨v1, v2, v3⟩ := ev_any st hst (q && true)
        simp (maxSteps := 400000) -dsimp -implicitDefEqProofs (disch := first | exact TrueB.mk rfl | omega) only [go_sem, Nat.reduceMul, Nat.reduceAdd, Nat.reduceLT, Nat.reduceLeDiff, Nat.reducePow, Nat.reduceEqDiff, ↓reduceIte, reduceCtorEq, Int.reduceToNat]
        first | refine wpAct_callG (v3) rfl rfl rfl rfl rfl rfl rfl rfl rfl ?_ | done
        simp (maxSteps := 400000) -dsimp -implicitDefEqProofs (disch := first | exact TrueB.mk rfl | omega) only [go_sem, Nat.reduceMul, Nat.reduceAdd, Nat.reduceLT, Nat.reduceLeDiff, Nat.reducePow, Nat.reduceEqDiff, ↓reduceIte, reduceCtorEq, Int.reduceToNat]
        first | exact end_bool rfl rfl | done
  · obtain ⟨h3, h4, h5⟩ := h1 n l rfl
    unfold lookR at c
    first | refine wpAct_call0 (c _ _) rfl rfl rfl rfl rfl rfl rfl rfl ?_ | done
    rcases Classical.em (2 ≤ s) with k2 | k2
    all_goals
      rcases Classical.em (7 ≤ e) with k4 | k4
    all_goals
      rcases Classical.em (e ≤ 16) with k5 | k5
    all_goals
      first
      | omega
      | skip
    all_goals
      simp (maxSteps := 400000) -dsimp -implicitDefEqProofs (disch := first | exact TrueB.mk rfl | omega) only [go_sem, Nat.reduceMul, Nat.reduceAdd, Nat.reduceLT, Nat.reduceLeDiff, Nat.reducePow, Nat.reduceEqDiff, ↓reduceIte, reduceCtorEq, Int.reduceToNat]
      refine wpLoop_ind (α := Nat × Nat × Bool)
        (fun a => ⟨[(2, .pure false (.sl (bytesOf b))), (10, .pure a.2.2 (.int .i64 a.2.1)), (11, .pure true (.int .i64 a.1))], []⟩)
        (fun a => a.1 ≤ b.length ∧ a.2.1 ≤ 9) (fun a => b.length - a.1) ?_ (0, 0, true) ⟨by simp, by simp⟩ rfl
      rintro ⟨i, st, q⟩ ⟨hi, hst⟩
      simp only at hi hst
      simp (maxSteps := 400000) -dsimp -implicitDefEqProofs (disch := first | exact TrueB.mk rfl | omega) only [go_sem, Nat.reduceMul, Nat.reduceAdd, Nat.reduceLT, Nat.reduceLeDiff, Nat.reducePow, Nat.reduceEqDiff, ↓reduceIte, reduceCtorEq, Int.reduceToNat]
      first | refine condK_dec (fun k1 => ?_) (fun k1 => ?_) | refine condK_ndec (fun k1 => ?_) (fun k1 => ?_) | refine condK_beq (fun k1 => ?_) (fun k1 => ?_) | refine condK_bne (fun k1 => ?_) (fun k1 => ?_) | refine condK_nbeq (fun k1 => ?_) (fun k1 => ?_) | refine guardK_dec (fun k1 => ?_) (fun k1 => ?_) | refine guardK_ndec (fun k1 => ?_) (fun k1 => ?_) | refine guardK_beq (fun k1 => ?_) (fun k1 => ?_) | refine guardK_bne (fun k1 => ?_) (fun k1 => ?_) | refine guardK_nbeq (fun k1 => ?_) (fun k1 => ?_) | refine condK_not (fun k1 => ?_) (fun k1 => ?_) | refine guardK_not (fun k1 => ?_) (fun k1 => ?_) | refine condK_bool (fun k1 => ?_) (fun k1 => ?_) | refine guardK_bool (fun k1 => ?_) (fun k1 => ?_) | done
      · have hlt : i < b.length := by omega
        have g1 : (bytesOf b)[i]? = some (.int .u8 ((b[i]'hlt).toNat : Int)) := by simp [bytesOf, hlt]
        have hx := (b[i]'hlt).toNat_lt
        have wx : IntKind.i64.wrap ((b[i]'hlt).toNat : Int) = ((b[i]'hlt).toNat : Int) := by rw [wrap_i64 (by omega) (by omega)]
        have d := fun m m' => look_any (st : Int) (((b[i]'hlt).toNat % 18 : Nat) : Int) m m'
        have d1 := fun n l => cell_some (s := (st : Int)) (e := (((b[i]'hlt).toNat % 18 : Nat) : Int)) (n := n) (l := l)
        generalize cellI (st : Int) (((b[i]'hlt).toNat % 18 : Nat) : Int) = D at *
        simp (maxSteps := 400000) -dsimp -implicitDefEqProofs (disch := first | exact TrueB.mk rfl | omega) only [go_sem, Nat.reduceMul, Nat.reduceAdd, Nat.reduceLT, Nat.reduceLeDiff, Nat.reducePow, Nat.reduceEqDiff, ↓reduceIte, reduceCtorEq, Int.reduceToNat, g1, wx, tmod_nat]
        cases D with
        | none =>
          unfold lookR at d
          first | refine wpAct_call0 (d _ _) rfl rfl rfl rfl rfl rfl rfl rfl ?_ | done
          simp (maxSteps := 400000) -dsimp -implicitDefEqProofs (disch := first | exact TrueB.mk rfl | omega) only [go_sem, Nat.reduceMul, Nat.reduceAdd, Nat.reduceLT, Nat.reduceLeDiff, Nat.reducePow, Nat.reduceEqDiff, ↓reduceIte, reduceCtorEq, Int.reduceToNat]
          first | exact again_mk ⟨(i + 1, st, q), ⟨by show i + 1 ≤ _; omega, hst⟩, by show _ - (i + 1) < _ - i; omega, rfl⟩ | done
        | some r =>
          obtain ⟨n2, l2⟩ := r
          have d2 := (d1 n2 l2 rfl).2.2
          unfold lookR at d
          first | refine wpAct_call0 (d _ _) rfl rfl rfl rfl rfl rfl rfl rfl ?_ | done
          simp (maxSteps := 400000) -dsimp -implicitDefEqProofs (disch := first | exact TrueB.mk rfl | omega) only [go_sem, Nat.reduceMul, Nat.reduceAdd, Nat.reduceLT, Nat.reduceLeDiff, Nat.reducePow, Nat.reduceEqDiff, ↓reduceIte, reduceCtorEq, Int.reduceToNat]
          first | exact again_mk ⟨(i + 1, n2, false), ⟨by show i + 1 ≤ _; omega, d2⟩, by show _ - (i + 1) < _ - i; omega, rfl⟩ | done
      · obtain ⟨v1, v2, v3⟩ := ev_any st hst (q && true)
        simp (maxSteps := 400000) -dsimp -implicitDefEqProofs (disch := first | exact TrueB.mk rfl | omega) only [go_sem, Nat.reduceMul, Nat.reduceAdd, Nat.reduceLT, Nat.reduceLeDiff, Nat.reducePow, Nat.reduceEqDiff, ↓reduceIte, reduceCtorEq, Int.reduceToNat]
        first | refine wpAct_callG (v3) rfl rfl rfl rfl rfl rfl rfl rfl rfl ?_ | done
        simp (maxSteps := 400000) -dsimp -implicitDefEqProofs (disch := first | exact TrueB.mk rfl | omega) only [go_sem, Nat.reduceMul, Nat.reduceAdd, Nat.reduceLT, Nat.reduceLeDiff, Nat.reducePow, Nat.reduceEqDiff, ↓reduceIte, reduceCtorEq, Int.reduceToNat]
        first | exact end_bool rfl rfl | done
end Go.Proofs.Ytnhbmabikngmpaa
