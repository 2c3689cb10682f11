/- YtnhbmabikngmpaaDoorZI: the events that can be. No claim. -/
import Derived.Test.YtnhbmabikngmpaaDoorZHZ
set_option linter.unusedVariables false
set_option linter.unusedSimpArgs false
set_option maxRecDepth 100000
namespace Go.Proofs.YtnhbmabikngmpaaDoorZ
open Go Go.Proofs.YtnhbmabikngmpaaDoorZ.V

def evI (s : Int) : List Nat := if 0 ≤ s ∧ s ≤ 9 then evL s.toNat else []
set_option maxHeartbeats 4000000 in
theorem evOut_any (s : Int) (h : ¬ (0 ≤ s ∧ s ≤ 9)) (m : Bool) : Runs Tryd.prog env 10 [.pure m (.int .i64 s)] [] (.row 0 0) [(0, .row true 0 0 [])] := by
  have c := fun (e : Int) m m' => findOut_any s e (fun h' => h ⟨h'.1, h'.2.1⟩) m m'
  refine Runs.of Tryd.func10 rfl (by simp [Tryd.ntmps10]) ?_
  simp (maxSteps := 400000) -dsimp -implicitDefEqProofs (disch := first | exact TrueB.mk rfl | omega) only [go_sem, Nat.reduceMul, Nat.reduceAdd, Nat.reduceLT, Nat.reduceLeDiff, Nat.reducePow, Nat.reduceEqDiff, ↓reduceIte, reduceCtorEq, Int.reduceToNat, Tryd.ntmps10]
  refine wpLoop_ind (α := Nat)
    (fun e => ⟨[(0, .pure m (.int .i64 s)), (3, .row 368 0), (4, .pure true (.int .i64 e))], [(368, .row true 0 0 [])]⟩)
    (fun e => 1 ≤ e ∧ e ≤ 17) (fun e => 17 - e) ?_ 1 (by omega) rfl
  rintro e ⟨h1, h2⟩
  simp (maxSteps := 400000) -dsimp -implicitDefEqProofs (disch := first | exact TrueB.mk rfl | omega) only [go_sem, Nat.reduceMul, Nat.reduceAdd, Nat.reduceLT, Nat.reduceLeDiff, Nat.reducePow, Nat.reduceEqDiff, ↓reduceIte, reduceCtorEq, Int.reduceToNat]
  first | refine condK_dec (fun h3 => ?_) (fun h3 => ?_) | refine condK_ndec (fun h3 => ?_) (fun h3 => ?_) | refine condK_beq (fun h3 => ?_) (fun h3 => ?_) | refine condK_bne (fun h3 => ?_) (fun h3 => ?_) | refine condK_nbeq (fun h3 => ?_) (fun h3 => ?_) | refine guardK_dec (fun h3 => ?_) (fun h3 => ?_) | refine guardK_ndec (fun h3 => ?_) (fun h3 => ?_) | refine guardK_beq (fun h3 => ?_) (fun h3 => ?_) | refine guardK_bne (fun h3 => ?_) (fun h3 => ?_) | refine guardK_nbeq (fun h3 => ?_) (fun h3 => ?_) | refine condK_not (fun h3 => ?_) (fun h3 => ?_) | refine guardK_not (fun h3 => ?_) (fun h3 => ?_) | refine condK_bool (fun h3 => ?_) (fun h3 => ?_) | refine guardK_bool (fun h3 => ?_) (fun h3 => ?_) | done
  · simp (maxSteps := 400000) -dsimp -implicitDefEqProofs (disch := first | exact TrueB.mk rfl | omega) only [go_sem, Nat.reduceMul, Nat.reduceAdd, Nat.reduceLT, Nat.reduceLeDiff, Nat.reducePow, Nat.reduceEqDiff, ↓reduceIte, reduceCtorEq, Int.reduceToNat]
    first | refine wpAct_call0 (c _ _ _) rfl rfl rfl rfl rfl rfl rfl rfl ?_ | done
    simp (maxSteps := 400000) -dsimp -implicitDefEqProofs (disch := first | exact TrueB.mk rfl | omega) only [go_sem, Nat.reduceMul, Nat.reduceAdd, Nat.reduceLT, Nat.reduceLeDiff, Nat.reducePow, Nat.reduceEqDiff, ↓reduceIte, reduceCtorEq, Int.reduceToNat]
    first | exact again_mk ⟨e + 1, by omega, by omega, rfl⟩ | done
  · simp (maxSteps := 400000) -dsimp -implicitDefEqProofs (disch := first | exact TrueB.mk rfl | omega) only [go_sem, Nat.reduceMul, Nat.reduceAdd, Nat.reduceLT, Nat.reduceLeDiff, Nat.reducePow, Nat.reduceEqDiff, ↓reduceIte, reduceCtorEq, Int.reduceToNat]
    exact end_row (m := true) (k := 368) (xs := []) rfl rfl rfl rfl

theorem ev_anyI (s : Int) (m : Bool) : Runs Tryd.prog env 10 [.pure m (.int .i64 s)] [] (.row 0 (evI s).length) [(0, .row true (zOf (evI s)) 0 (intsOf (evI s)))] := by
  unfold evI
  by_cases h : 0 ≤ s ∧ s ≤ 9
  · rw [if_pos h]
    obtain ⟨t, rfl⟩ : ∃ t : Nat, s = t := ⟨s.toNat, by omega⟩
    have c := ev_any t (by omega) m
    have hz : ∀ s : Fin 10, zOf (evL s) = 1 := by decide +kernel
    have := hz ⟨t, by omega⟩
    show Runs _ _ _ _ _ _ [(0, .row true (zOf (evL t)) 0 (intsOf (evL t)))]
    rw [this]
    exact c
  · rw [if_neg h]
    exact evOut_any s h m

end Go.Proofs.YtnhbmabikngmpaaDoorZ
