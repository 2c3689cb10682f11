/- YtnhbmabikngmpaaDoorI: the law TableEvents, over the evaluator. No claim. -/
import Derived.Test.YtnhbmabikngmpaaDoorH
set_option linter.unusedVariables false
set_option linter.unusedSimpArgs false
set_option maxRecDepth 100000
namespace Go.Proofs.YtnhbmabikngmpaaDoor
open Go Go.Proofs.YtnhbmabikngmpaaDoor.V

def evI (s : Int) : List Nat := if 0 ≤ s ∧ s ≤ 9 then evL s.toNat else []
def cntI (s : Int) (e : Nat) : Nat := ((evI s).filter (· < e)).length
def evOk (s e : Nat) : Bool := match cellT s e with
  | none => ((evL s).filter (· < e + 1)).length == ((evL s).filter (· < e)).length
  | some _ => (evL s)[((evL s).filter (· < e)).length]? == some e && ((evL s).filter (· < e + 1)).length == ((evL s).filter (· < e)).length + 1
theorem ev_facts : ∀ s : Fin 10, (∀ e : Fin 16, evOk s (e + 1) = true) ∧ ((evL s).filter (· < 1)).length = 0 ∧ ((evL s).filter (· < 17)).length = (evL s).length := by decide +kernel
theorem cnt_first (s : Int) : cntI s 1 = 0 := by
  unfold cntI evI
  split
  · exact (ev_facts ⟨s.toNat, by omega⟩).2.1
  · rfl
theorem cnt_last (s : Int) : cntI s 17 = (evI s).length := by
  unfold cntI evI
  split
  · exact (ev_facts ⟨s.toNat, by omega⟩).2.2
  · rfl
theorem cnt_none {s : Int} {e : Nat} (h1 : 1 ≤ e) (h2 : e ≤ 16) (h : cellI s e = none) : cntI s (e + 1) = cntI s e := by
  unfold cntI evI
  split
  · rename_i hs
    unfold cellI at h
    rw [if_pos (by omega)] at h
    have := (ev_facts ⟨s.toNat, by omega⟩).1 ⟨e - 1, by omega⟩
    simp only [show e - 1 + 1 = e by omega] at this
    unfold evOk at this
    rw [show ((e : Nat) : Int).toNat = e by omega] at h
    simp only [h] at this
    simpa using this
  · rfl
theorem cnt_some {s : Int} {e : Nat} {p : Nat × List Nat} (h1 : 1 ≤ e) (h2 : e ≤ 16) (h : cellI s e = some p) : (evI s)[cntI s e]? = some e ∧ cntI s (e + 1) = cntI s e + 1 := by
  have h' := h
  unfold cellI at h
  split at h
  · rename_i hs
    rw [show ((e : Nat) : Int).toNat = e by omega] at h
    have := (ev_facts ⟨s.toNat, by omega⟩).1 ⟨e - 1, by omega⟩
    simp only [show e - 1 + 1 = e by omega] at this
    unfold evOk at this
    simp only [h] at this
    unfold cntI evI
    rw [if_pos ⟨hs.1, hs.2.1⟩]
    simpa using this
  · cases h

set_option maxHeartbeats 4000000 in
theorem evOut_any (s : Int) (h : ¬ (0 ≤ s ∧ s ≤ 9)) (m : Bool) : Runs Tryd.prog env 10 [.pure m (.int .i64 s)] [] (.row 0 0) [(0, .row true 0 0 [])] := by
  have c := fun (e : Int) m m' => findOut_any s e (fun h' => h ⟨h'.1, h'.2.1⟩) m m'
  refine Runs.of Tryd.func10 rfl (by simp [Tryd.ntmps10]) ?_
  simp (maxSteps := 400000) -dsimp -implicitDefEqProofs (disch := first | exact TrueB.mk rfl | omega) only [go_sem, Nat.reduceMul, Nat.reduceAdd, Nat.reduceLT, Nat.reduceLeDiff, Nat.reducePow, Nat.reduceEqDiff, ↓reduceIte, reduceCtorEq, Int.reduceToNat, Tryd.ntmps10]
  refine wpLoop_ind (α := Nat)
    (fun e => ⟨[(0, .pure m (.int .i64 s)), (3, .row 368 0), (4, .pure true (.int .i64 e))], [(368, .row true 0 0 [])]⟩)
    (fun e => 1 ≤ e ∧ e ≤ 17) (fun e => 17 - e) ?_ 1 (by omega) rfl
  rintro e ⟨h1, h2⟩
  simp (maxSteps := 400000) -dsimp -implicitDefEqProofs (disch := first | exact TrueB.mk rfl | omega) only [go_sem, Nat.reduceMul, Nat.reduceAdd, Nat.reduceLT, Nat.reduceLeDiff, Nat.reducePow, Nat.reduceEqDiff, ↓reduceIte, reduceCtorEq, Int.reduceToNat]
  first | refine condK_dec (fun h3 => ?_) (fun h3 => ?_) | refine condK_ndec (fun h3 => ?_) (fun h3 => ?_) | refine condK_beq (fun h3 => ?_) (fun h3 => ?_) | refine condK_bne (fun h3 => ?_) (fun h3 => ?_) | refine condK_nbeq (fun h3 => ?_) (fun h3 => ?_) | refine guardK_dec (fun h3 => ?_) (fun h3 => ?_) | refine guardK_ndec (fun h3 => ?_) (fun h3 => ?_) | refine guardK_beq (fun h3 => ?_) (fun h3 => ?_) | refine guardK_bne (fun h3 => ?_) (fun h3 => ?_) | refine guardK_nbeq (fun h3 => ?_) (fun h3 => ?_) | refine condK_not (fun h3 => ?_) (fun h3 => ?_) | refine guardK_not (fun h3 => ?_) (fun h3 => ?_) | refine condK_bool (fun h3 => ?_) (fun h3 => ?_) | refine guardK_bool (fun h3 => ?_) (fun h3 => ?_) | done
  · simp (maxSteps := 400000) -dsimp -implicitDefEqProofs (disch := first | exact TrueB.mk rfl | omega) only [go_sem, Nat.reduceMul, Nat.reduceAdd, Nat.reduceLT, Nat.reduceLeDiff, Nat.reducePow, Nat.reduceEqDiff, ↓reduceIte, reduceCtorEq, Int.reduceToNat]
    first | refine wpAct_call0 (c _ _ _) rfl rfl rfl rfl rfl rfl rfl rfl ?_ | done
    simp (maxSteps := 400000) -dsimp -implicitDefEqProofs (disch := first | exact TrueB.mk rfl | omega) only [go_sem, Nat.reduceMul, Nat.reduceAdd, Nat.reduceLT, Nat.reduceLeDiff, Nat.reducePow, Nat.reduceEqDiff, ↓reduceIte, reduceCtorEq, Int.reduceToNat]
    first | exact again_mk ⟨e + 1, by omega, by omega, rfl⟩ | done
  · simp (maxSteps := 400000) -dsimp -implicitDefEqProofs (disch := first | exact TrueB.mk rfl | omega) only [go_sem, Nat.reduceMul, Nat.reduceAdd, Nat.reduceLT, Nat.reduceLeDiff, Nat.reducePow, Nat.reduceEqDiff, ↓reduceIte, reduceCtorEq, Int.reduceToNat]
    exact end_row (m := true) (k := 368) (xs := []) rfl rfl rfl rfl

theorem ev_anyI (s : Int) (m : Bool) : Runs Tryd.prog env 10 [.pure m (.int .i64 s)] [] (.row 0 (evI s).length) [(0, .row true (zOf (evI s)) 0 (intsOf (evI s)))] := by
  unfold evI
  by_cases h : 0 ≤ s ∧ s ≤ 9
  · rw [if_pos h]
    obtain ⟨t, rfl⟩ : ∃ t : Nat, s = t := ⟨s.toNat, by omega⟩
    have c := ev_any t (by omega) m
    have hz : ∀ s : Fin 10, zOf (evL s) = 1 := by decide +kernel
    have := hz ⟨t, by omega⟩
    show Runs _ _ _ _ _ _ [(0, .row true (zOf (evL t)) 0 (intsOf (evL t)))]
    rw [this]
    exact c
  · rw [if_neg h]
    exact evOut_any s h m

set_option maxHeartbeats 4000000 in
theorem sends_any (a : Int) (m : Bool) : Runs Tryd.prog env 11 [.pure m (.int .i64 a)] [] (.pure true (.bool (decide (7 ≤ a) && decide (a ≤ 13)))) [] := by
  rcases Classical.em (7 ≤ a) with h1 | h1
  · rcases Classical.em (a ≤ 13) with h2 | h2
    · rw [decide_eq_true h1, decide_eq_true h2]
      refine Runs.of Tryd.func11 rfl (by simp [Tryd.ntmps11]) ?_
      simp (maxSteps := 400000) -dsimp -implicitDefEqProofs (disch := first | exact TrueB.mk rfl | omega) only [go_sem, Nat.reduceMul, Nat.reduceAdd, Nat.reduceLT, Nat.reduceLeDiff, Nat.reducePow, Nat.reduceEqDiff, ↓reduceIte, reduceCtorEq, Int.reduceToNat, Tryd.ntmps11]
      first | exact end_bool rfl rfl | done
    · rw [decide_eq_true h1, decide_eq_false h2]
      refine Runs.of Tryd.func11 rfl (by simp [Tryd.ntmps11]) ?_
      simp (maxSteps := 400000) -dsimp -implicitDefEqProofs (disch := first | exact TrueB.mk rfl | omega) only [go_sem, Nat.reduceMul, Nat.reduceAdd, Nat.reduceLT, Nat.reduceLeDiff, Nat.reducePow, Nat.reduceEqDiff, ↓reduceIte, reduceCtorEq, Int.reduceToNat, Tryd.ntmps11]
      first | exact end_bool rfl rfl | done
  · rw [decide_eq_false h1]
    refine Runs.of Tryd.func11 rfl (by simp [Tryd.ntmps11]) ?_
    simp (maxSteps := 400000) -dsimp -implicitDefEqProofs (disch := first | exact TrueB.mk rfl | omega) only [go_sem, Nat.reduceMul, Nat.reduceAdd, Nat.reduceLT, Nat.reduceLeDiff, Nat.reducePow, Nat.reduceEqDiff, ↓reduceIte, reduceCtorEq, Int.reduceToNat, Tryd.ntmps11]
    first | exact end_bool rfl rfl | done

set_option maxHeartbeats 16000000 in
theorem tableEvents_runs (s a : Int) : Runs Tryd.prog env 4 [.pure false (.int .i64 s), .pure false (.int .i64 a)] [] (.pure true (.bool true)) [] := by
  have c1 := fun m => ev_anyI s m
  have c2 := fun (e : Int) m m' => rlook_any s e m m'
  have c3 := fun m => sends_any a m
  have hl := intsOf_length (evI s)
  have k1 := cnt_first s
  have k2 := cnt_last s
  refine Runs.of Tryd.func4 rfl (by simp [Tryd.ntmps4]) ?_
  simp (maxSteps := 400000) -dsimp -implicitDefEqProofs (disch := first | exact TrueB.mk rfl | omega) only [go_sem, Nat.reduceMul, Nat.reduceAdd, Nat.reduceLT, Nat.reduceLeDiff, Nat.reducePow, Nat.reduceEqDiff, ↓reduceIte, reduceCtorEq, Int.reduceToNat, Tryd.ntmps4]
  first | refine wpAct_call0 (awake19_any) rfl rfl rfl rfl rfl rfl rfl rfl ?_ | done
  simp (maxSteps := 400000) -dsimp -implicitDefEqProofs (disch := first | exact TrueB.mk rfl | omega) only [go_sem, Nat.reduceMul, Nat.reduceAdd, Nat.reduceLT, Nat.reduceLeDiff, Nat.reducePow, Nat.reduceEqDiff, ↓reduceIte, reduceCtorEq, Int.reduceToNat]
  first | refine wpAct_callG (c1 _) rfl rfl rfl rfl rfl rfl rfl rfl rfl ?_ | done
  simp (maxSteps := 400000) -dsimp -implicitDefEqProofs (disch := first | exact TrueB.mk rfl | omega) only [go_sem, Nat.reduceMul, Nat.reduceAdd, Nat.reduceLT, Nat.reduceLeDiff, Nat.reducePow, Nat.reduceEqDiff, ↓reduceIte, reduceCtorEq, Int.reduceToNat]
  refine wpLoop_ind (α := Nat)
    (fun e => ⟨[(0, .pure false (.int .i64 s)), (1, .pure false (.int .i64 a)), (5, .row 912 (evI s).length), (6, .pure true (.int .i64 (cntI s e : Nat))), (7, .pure true (.int .i64 e))], [(912, .row true (zOf (evI s)) 0 (intsOf (evI s)))]⟩)
    (fun e => 1 ≤ e ∧ e ≤ 17) (fun e => 17 - e) ?_ 1 (by omega) (by rw [k1]; rfl)
  rintro e ⟨h1, h2⟩
  have d := fun m m' => c2 e m m'
  have n1 := cnt_none (s := s) (e := e) h1
  have n2 := fun p => cnt_some (s := s) (e := e) (p := p) h1
  generalize cellI s e = C at *
  simp (maxSteps := 400000) -dsimp -implicitDefEqProofs (disch := first | exact TrueB.mk rfl | omega) only [go_sem, Nat.reduceMul, Nat.reduceAdd, Nat.reduceLT, Nat.reduceLeDiff, Nat.reducePow, Nat.reduceEqDiff, ↓reduceIte, reduceCtorEq, Int.reduceToNat]
  first | refine condK_dec (fun h3 => ?_) (fun h3 => ?_) | refine condK_ndec (fun h3 => ?_) (fun h3 => ?_) | refine condK_beq (fun h3 => ?_) (fun h3 => ?_) | refine condK_bne (fun h3 => ?_) (fun h3 => ?_) | refine condK_nbeq (fun h3 => ?_) (fun h3 => ?_) | refine guardK_dec (fun h3 => ?_) (fun h3 => ?_) | refine guardK_ndec (fun h3 => ?_) (fun h3 => ?_) | refine guardK_beq (fun h3 => ?_) (fun h3 => ?_) | refine guardK_bne (fun h3 => ?_) (fun h3 => ?_) | refine guardK_nbeq (fun h3 => ?_) (fun h3 => ?_) | refine condK_not (fun h3 => ?_) (fun h3 => ?_) | refine guardK_not (fun h3 => ?_) (fun h3 => ?_) | refine condK_bool (fun h3 => ?_) (fun h3 => ?_) | refine guardK_bool (fun h3 => ?_) (fun h3 => ?_) | done
  · have h4 : e ≤ 16 := by omega
    cases C with
    | none =>
      have n3 := n1 h4 rfl
      unfold rlookR rlookS at d
      simp (maxSteps := 400000) -dsimp -implicitDefEqProofs (disch := first | exact TrueB.mk rfl | omega) only [go_sem, Nat.reduceMul, Nat.reduceAdd, Nat.reduceLT, Nat.reduceLeDiff, Nat.reducePow, Nat.reduceEqDiff, ↓reduceIte, reduceCtorEq, Int.reduceToNat]
      first | refine wpAct_callG (d _ _) rfl rfl rfl rfl rfl rfl rfl rfl rfl ?_ | done
      simp (maxSteps := 400000) -dsimp -implicitDefEqProofs (disch := first | exact TrueB.mk rfl | omega) only [go_sem, Nat.reduceMul, Nat.reduceAdd, Nat.reduceLT, Nat.reduceLeDiff, Nat.reducePow, Nat.reduceEqDiff, ↓reduceIte, reduceCtorEq, Int.reduceToNat]
      first | exact again_mk ⟨e + 1, by omega, by omega, by rw [n3]; rfl⟩ | done
    | some p =>
      obtain ⟨n, l⟩ := p
      obtain ⟨n3, n4⟩ := n2 _ h4 rfl
      have n5 : cntI s e < (evI s).length := (List.getElem?_eq_some_iff.1 n3).1
      have n6 : (intsOf (evI s))[cntI s e]? = some (.int .i64 (e : Nat)) := by
        unfold intsOf
        rw [List.getElem?_map, n3]
        rfl
      unfold rlookR rlookS at d
      simp (maxSteps := 400000) -dsimp -implicitDefEqProofs (disch := first | exact TrueB.mk rfl | omega) only [go_sem, Nat.reduceMul, Nat.reduceAdd, Nat.reduceLT, Nat.reduceLeDiff, Nat.reducePow, Nat.reduceEqDiff, ↓reduceIte, reduceCtorEq, Int.reduceToNat]
      have n8 : (evI s).length ≤ 100 := by
        unfold evI
        split
        · exact (show ∀ s : Fin 10, (evL s).length ≤ 100 by decide +kernel) ⟨s.toNat, by omega⟩
        · simp
      have n7 : zOf (evI s) = 1 := by
        unfold zOf
        cases hv : evI s with
        | nil => rw [hv] at n5; simp at n5
        | cons _ _ => rfl
      first | refine wpAct_callG (d _ _) rfl rfl rfl rfl rfl rfl rfl rfl rfl ?_ | done
      simp (maxSteps := 400000) -dsimp -implicitDefEqProofs (disch := first | exact TrueB.mk rfl | omega) only [go_sem, Nat.reduceMul, Nat.reduceAdd, Nat.reduceLT, Nat.reduceLeDiff, Nat.reducePow, Nat.reduceEqDiff, ↓reduceIte, reduceCtorEq, Int.reduceToNat, n6, n7]
      refine again_mk ⟨e + 1, by omega, by omega, ?_⟩
      rw [n4, n7]
      rfl
  · have h4 : e = 17 := by omega
    subst h4
    rw [k2]
    rcases Classical.em (7 ≤ a) with h1 | h1
    · rcases Classical.em (a ≤ 13) with h2 | h2
      · rw [decide_eq_true h1, decide_eq_true h2] at c3
        simp (maxSteps := 400000) -dsimp -implicitDefEqProofs (disch := first | exact TrueB.mk rfl | omega) only [go_sem, Nat.reduceMul, Nat.reduceAdd, Nat.reduceLT, Nat.reduceLeDiff, Nat.reducePow, Nat.reduceEqDiff, ↓reduceIte, reduceCtorEq, Int.reduceToNat]
        first | refine wpAct_call0 (c3 _) rfl rfl rfl rfl rfl rfl rfl rfl ?_ | done
        simp (maxSteps := 400000) -dsimp -implicitDefEqProofs (disch := first | exact TrueB.mk rfl | omega) only [go_sem, Nat.reduceMul, Nat.reduceAdd, Nat.reduceLT, Nat.reduceLeDiff, Nat.reducePow, Nat.reduceEqDiff, ↓reduceIte, reduceCtorEq, Int.reduceToNat]
        first | exact end_bool rfl rfl | done
      · rw [decide_eq_true h1, decide_eq_false h2] at c3
        simp (maxSteps := 400000) -dsimp -implicitDefEqProofs (disch := first | exact TrueB.mk rfl | omega) only [go_sem, Nat.reduceMul, Nat.reduceAdd, Nat.reduceLT, Nat.reduceLeDiff, Nat.reducePow, Nat.reduceEqDiff, ↓reduceIte, reduceCtorEq, Int.reduceToNat]
        first | refine wpAct_call0 (c3 _) rfl rfl rfl rfl rfl rfl rfl rfl ?_ | done
        simp (maxSteps := 400000) -dsimp -implicitDefEqProofs (disch := first | exact TrueB.mk rfl | omega) only [go_sem, Nat.reduceMul, Nat.reduceAdd, Nat.reduceLT, Nat.reduceLeDiff, Nat.reducePow, Nat.reduceEqDiff, ↓reduceIte, reduceCtorEq, Int.reduceToNat]
        first | exact end_bool rfl rfl | done
    · rw [decide_eq_false h1] at c3
      simp (maxSteps := 400000) -dsimp -implicitDefEqProofs (disch := first | exact TrueB.mk rfl | omega) only [go_sem, Nat.reduceMul, Nat.reduceAdd, Nat.reduceLT, Nat.reduceLeDiff, Nat.reducePow, Nat.reduceEqDiff, ↓reduceIte, reduceCtorEq, Int.reduceToNat]
      first | refine wpAct_call0 (c3 _) rfl rfl rfl rfl rfl rfl rfl rfl ?_ | done
      simp (maxSteps := 400000) -dsimp -implicitDefEqProofs (disch := first | exact TrueB.mk rfl | omega) only [go_sem, Nat.reduceMul, Nat.reduceAdd, Nat.reduceLT, Nat.reduceLeDiff, Nat.reducePow, Nat.reduceEqDiff, ↓reduceIte, reduceCtorEq, Int.reduceToNat]
      first | exact end_bool rfl rfl | done
end Go.Proofs.YtnhbmabikngmpaaDoor
