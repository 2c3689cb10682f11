/- YtnhbmabikngmpaaDoorZP: the law TableKeeps, over the evaluator. No claim. -/
import Derived.Test.YtnhbmabikngmpaaDoorZI
set_option linter.unusedVariables false
set_option linter.unusedSimpArgs false
set_option maxRecDepth 100000
namespace Go.Proofs.YtnhbmabikngmpaaDoorZ
open Go Go.Proofs.YtnhbmabikngmpaaDoorZ.V

set_option maxHeartbeats 4000000 in
theorem same_any (l : List Nat) (hl : l.length ≤ 1000) (m m' : Bool) : Runs Tryd.prog env 9 [.pure m (.sl (intsOf l)), .pure m' (.sl (intsOf l))] [] (.pure true (.bool true)) [] := by
  have hil := intsOf_length l
  refine Runs.of Tryd.func9 rfl (by simp [Tryd.ntmps9]) ?_
  simp (maxSteps := 400000) -dsimp -implicitDefEqProofs (disch := first | exact TrueB.mk rfl | omega) only [go_sem, Nat.reduceMul, Nat.reduceAdd, Nat.reduceLT, Nat.reduceLeDiff, Nat.reducePow, Nat.reduceEqDiff, ↓reduceIte, reduceCtorEq, Int.reduceToNat, Tryd.ntmps9, hil]
  refine wpLoop_ind (α := Nat)
    (fun i => ⟨[(0, .pure m (.sl (intsOf l))), (1, .pure m' (.sl (intsOf l))), (5, .pure true (.int .i64 i))], []⟩)
    (fun i => i ≤ l.length) (fun i => l.length - i) ?_ 0 (by omega) rfl
  rintro i hi
  rcases Classical.em (i < l.length) with h1 | h1
  · have g1 := ints_at h1
    simp (maxSteps := 400000) -dsimp -implicitDefEqProofs (disch := first | exact TrueB.mk rfl | omega) only [go_sem, Nat.reduceMul, Nat.reduceAdd, Nat.reduceLT, Nat.reduceLeDiff, Nat.reducePow, Nat.reduceEqDiff, ↓reduceIte, reduceCtorEq, Int.reduceToNat, g1, hil]
    first | exact again_mk ⟨i + 1, by omega, by omega, rfl⟩ | done
  · simp (maxSteps := 400000) -dsimp -implicitDefEqProofs (disch := first | exact TrueB.mk rfl | omega) only [go_sem, Nat.reduceMul, Nat.reduceAdd, Nat.reduceLT, Nat.reduceLeDiff, Nat.reducePow, Nat.reduceEqDiff, ↓reduceIte, reduceCtorEq, Int.reduceToNat, hil]
    first | exact end_bool rfl rfl | done

set_option maxHeartbeats 4000000 in
theorem has_no (l : List Nat) (hl : l.length ≤ 1000) (h : ∀ i (hi : i < l.length), l[i] ≠ 99) (m m' : Bool) : Runs Tryd.prog env 12 [.pure m (.sl (intsOf l)), .pure m' (.int .i64 99)] [] (.pure true (.bool false)) [] := by
  have hil := intsOf_length l
  refine Runs.of Tryd.func12 rfl (by simp [Tryd.ntmps12]) ?_
  simp (maxSteps := 400000) -dsimp -implicitDefEqProofs (disch := first | exact TrueB.mk rfl | omega) only [go_sem, Nat.reduceMul, Nat.reduceAdd, Nat.reduceLT, Nat.reduceLeDiff, Nat.reducePow, Nat.reduceEqDiff, ↓reduceIte, reduceCtorEq, Int.reduceToNat, Tryd.ntmps12, hil]
  refine wpLoop_ind (α := Nat)
    (fun i => ⟨[(0, .pure m (.sl (intsOf l))), (1, .pure m' (.int .i64 99)), (5, .pure true (.int .i64 i))], []⟩)
    (fun i => i ≤ l.length) (fun i => l.length - i) ?_ 0 (by omega) rfl
  rintro i hi
  rcases Classical.em (i < l.length) with h1 | h1
  · have g1 := ints_at h1
    have g2 := h i h1
    have g3 : ¬ ((l[i] : Nat) : Int) = 99 := by omega
    simp (maxSteps := 400000) -dsimp -implicitDefEqProofs (disch := first | exact TrueB.mk rfl | omega) only [go_sem, Nat.reduceMul, Nat.reduceAdd, Nat.reduceLT, Nat.reduceLeDiff, Nat.reducePow, Nat.reduceEqDiff, ↓reduceIte, reduceCtorEq, Int.reduceToNat, g1, g3, hil]
    first | exact again_mk ⟨i + 1, by omega, by omega, rfl⟩ | done
  · simp (maxSteps := 400000) -dsimp -implicitDefEqProofs (disch := first | exact TrueB.mk rfl | omega) only [go_sem, Nat.reduceMul, Nat.reduceAdd, Nat.reduceLT, Nat.reduceLeDiff, Nat.reducePow, Nat.reduceEqDiff, ↓reduceIte, reduceCtorEq, Int.reduceToNat, hil]
    first | exact end_bool rfl rfl | done

theorem evI_facts (s : Int) : (evI s).length ≤ 100 ∧ ∀ i (hi : i < (evI s).length), (evI s)[i] ≠ 99 := by
  unfold evI
  split
  · have := (show ∀ s : Fin 10, (evL s).length ≤ 100 ∧ (evL s).all (fun k => k != 99) = true by decide +kernel) ⟨s.toNat, by omega⟩
    refine ⟨this.1, fun i hi => ?_⟩
    have := List.all_eq_true.1 this.2 _ (List.getElem_mem hi)
    simpa using this
  · exact ⟨by simp, fun i hi => by simp at hi⟩
theorem cell_len : ∀ s : Fin 10, ∀ e : Fin 17, (match cellT s e with | none => true | some (n, l) => decide (l.length ≤ 100)) = true := by decide +kernel
theorem cell_short {s e : Int} {n : Nat} {l : List Nat} (h : cellI s e = some (n, l)) : l.length ≤ 100 := by
  unfold cellI at h
  split at h
  · have := cell_len ⟨s.toNat, by omega⟩ ⟨e.toNat, by omega⟩
    simpa only [h, decide_eq_true_eq] using this
  · cases h
theorem ints_set {l : List Nat} {i : Nat} : (intsOf l).set i (.int .i64 99) = intsOf (l.set i 99) := by
  unfold intsOf
  rw [List.map_set]
  rfl
theorem z_one {l : List Nat} {i : Nat} (h : i < l.length) : zOf l = 1 := by
  unfold zOf
  cases l with
  | nil => simp at h
  | cons _ _ => rfl

theorem newR (q b : Bool) (a : Int) (n : Nat) : newV (.tuple [.pure q (.int .i64 a), .row 0 n, .pure true (.bool b)]) = true := by cases q <;> rfl

set_option maxHeartbeats 32000000 in
theorem keeps_none (s e : Int) {fl g b b' : Bool} {n0 n1 : Int} (c2 : Runs Tryd.prog env 7 [.pure false (.int .i64 s), .pure false (.int .i64 e)] [] (.tuple [.pure fl (.int .i64 n0), .pure g (.sl []), .pure true (.bool b)]) [])
    (c3 : ∀ m m' : Bool, Runs Tryd.prog env 8 [.pure m (.int .i64 s), .pure m' (.int .i64 e)] [] (.tuple [.pure true (.int .i64 n1), .row 0 0, .pure true (.bool b')]) [(0, .row true 0 0 [])]) :
    Runs Tryd.prog env 5 [.pure false (.int .i64 s), .pure false (.int .i64 e)] [] (.pure true (.bool true)) [] := by
  have c1 := fun m => ev_anyI s m
  obtain ⟨hk, hn⟩ := evI_facts s
  have c4 := fun m m' => has_no (evI s) (by omega) hn m m'
  generalize evI s = k at *
  have c5 := same_any [] (by simp)
  have hkl := intsOf_length k
  refine Runs.of Tryd.func5 rfl (by simp [Tryd.ntmps5]) ?_
  simp (maxSteps := 400000) -dsimp -implicitDefEqProofs (disch := first | exact TrueB.mk rfl | omega) only [go_sem, Nat.reduceMul, Nat.reduceAdd, Nat.reduceLT, Nat.reduceLeDiff, Nat.reducePow, Nat.reduceEqDiff, ↓reduceIte, reduceCtorEq, Int.reduceToNat, Tryd.ntmps5]
  first | refine wpAct_call0 (awake19_any) rfl rfl rfl rfl rfl rfl rfl rfl ?_ | done
  simp (maxSteps := 400000) -dsimp -implicitDefEqProofs (disch := first | exact TrueB.mk rfl | omega) only [go_sem, Nat.reduceMul, Nat.reduceAdd, Nat.reduceLT, Nat.reduceLeDiff, Nat.reducePow, Nat.reduceEqDiff, ↓reduceIte, reduceCtorEq, Int.reduceToNat]
  first | refine wpAct_call0 (c2) rfl rfl rfl rfl rfl rfl rfl rfl ?_ | done
  simp (maxSteps := 400000) -dsimp -implicitDefEqProofs (disch := first | exact TrueB.mk rfl | omega) only [go_sem, Nat.reduceMul, Nat.reduceAdd, Nat.reduceLT, Nat.reduceLeDiff, Nat.reducePow, Nat.reduceEqDiff, ↓reduceIte, reduceCtorEq, Int.reduceToNat]
  first | refine wpAct_callG (c1 _) rfl rfl rfl rfl rfl rfl rfl rfl rfl ?_ | done
  simp (maxSteps := 400000) -dsimp -implicitDefEqProofs (disch := first | exact TrueB.mk rfl | omega) only [go_sem, Nat.reduceMul, Nat.reduceAdd, Nat.reduceLT, Nat.reduceLeDiff, Nat.reducePow, Nat.reduceEqDiff, ↓reduceIte, reduceCtorEq, Int.reduceToNat]
  refine wpLoop_ind (α := Nat)
    (fun i => ⟨[(0, .pure false (.int .i64 s)), (1, .pure false (.int .i64 e)), (6, .pure g (.sl [])), (8, .row 1104 k.length), (9, .pure true (.int .i64 (i : Nat)))], [(1104, .row true (zOf k) 0 (intsOf k))]⟩)
    (fun i => i = 0) (fun i => 0) ?_ 0 rfl rfl
  rintro i rfl
  simp (maxSteps := 400000) -dsimp -implicitDefEqProofs (disch := first | exact TrueB.mk rfl | omega) only [go_sem, Nat.reduceMul, Nat.reduceAdd, Nat.reduceLT, Nat.reduceLeDiff, Nat.reducePow, Nat.reduceEqDiff, ↓reduceIte, reduceCtorEq, Int.reduceToNat]
  refine wpLoop_ind (α := Nat × List Nat)
    (fun a => ⟨[(0, .pure false (.int .i64 s)), (1, .pure false (.int .i64 e)), (8, .row 1104 k.length), (10, .pure true (.int .i64 (a.1 : Nat)))], [(1104, .row true (zOf k) 0 (intsOf a.2))]⟩)
    (fun a => a.1 ≤ k.length ∧ a.2.length = k.length) (fun a => k.length - a.1) ?_ (0, k) ⟨by simp, rfl⟩ rfl
  rintro ⟨i, k2⟩ ⟨i1, i2⟩
  simp only at i1 i2
  rcases Classical.em (i < k.length) with h1 | h1
  · have hz := z_one h1
    have g1 := ints_at (l := k2) (i := i) (by omega)
    have g2 := intsOf_length k2
    have g3 := ints_set (l := k2) (i := i)
    simp (maxSteps := 400000) -dsimp -implicitDefEqProofs (disch := first | exact TrueB.mk rfl | omega) only [go_sem, Nat.reduceMul, Nat.reduceAdd, Nat.reduceLT, Nat.reduceLeDiff, Nat.reducePow, Nat.reduceEqDiff, ↓reduceIte, reduceCtorEq, Int.reduceToNat, g1, g2, g3, hz, i2]
    exact again_mk ⟨(i + 1, k2.set i 99), ⟨by omega, by simp [i2]⟩, by omega, by rw [hz]; rfl⟩
  · simp (maxSteps := 400000) -dsimp -implicitDefEqProofs (disch := first | exact TrueB.mk rfl | omega) only [go_sem, Nat.reduceMul, Nat.reduceAdd, Nat.reduceLT, Nat.reduceLeDiff, Nat.reducePow, Nat.reduceEqDiff, ↓reduceIte, reduceCtorEq, Int.reduceToNat]
    first | refine wpAct_call0 (c2) rfl rfl rfl rfl rfl rfl rfl rfl ?_ | done
    simp (maxSteps := 400000) -dsimp -implicitDefEqProofs (disch := first | exact TrueB.mk rfl | omega) only [go_sem, Nat.reduceMul, Nat.reduceAdd, Nat.reduceLT, Nat.reduceLeDiff, Nat.reducePow, Nat.reduceEqDiff, ↓reduceIte, reduceCtorEq, Int.reduceToNat]
    first | refine wpAct_callG (c3 _ _) rfl rfl rfl rfl rfl rfl rfl rfl rfl ?_ | done
    simp (maxSteps := 400000) -dsimp -implicitDefEqProofs (disch := first | exact TrueB.mk rfl | omega) only [go_sem, Nat.reduceMul, Nat.reduceAdd, Nat.reduceLT, Nat.reduceLeDiff, Nat.reducePow, Nat.reduceEqDiff, ↓reduceIte, reduceCtorEq, Int.reduceToNat]
    first | refine wpAct_callF (c5 _ _) rfl rfl rfl rfl (argV_p rfl (argV_r rfl rfl argV_nil)) rfl rfl rfl rfl ?_ | done
    simp (maxSteps := 400000) -dsimp -implicitDefEqProofs (disch := first | exact TrueB.mk rfl | omega) only [go_sem, Nat.reduceMul, Nat.reduceAdd, Nat.reduceLT, Nat.reduceLeDiff, Nat.reducePow, Nat.reduceEqDiff, ↓reduceIte, reduceCtorEq, Int.reduceToNat]
    first | refine wpAct_callG (c1 _) rfl rfl rfl rfl rfl rfl rfl rfl rfl ?_ | done
    simp (maxSteps := 400000) -dsimp -implicitDefEqProofs (disch := first | exact TrueB.mk rfl | omega) only [go_sem, Nat.reduceMul, Nat.reduceAdd, Nat.reduceLT, Nat.reduceLeDiff, Nat.reducePow, Nat.reduceEqDiff, ↓reduceIte, reduceCtorEq, Int.reduceToNat]
    first | refine wpAct_callF (c4 _ _) rfl rfl rfl rfl (argV_r rfl hkl.symm (argV_p rfl argV_nil)) rfl rfl rfl rfl ?_ | done
    simp (maxSteps := 400000) -dsimp -implicitDefEqProofs (disch := first | exact TrueB.mk rfl | omega) only [go_sem, Nat.reduceMul, Nat.reduceAdd, Nat.reduceLT, Nat.reduceLeDiff, Nat.reducePow, Nat.reduceEqDiff, ↓reduceIte, reduceCtorEq, Int.reduceToNat]
    first | exact end_bool rfl rfl | done

set_option maxHeartbeats 32000000 in
theorem keeps_row (s e : Int) {fl b b' : Bool} {n0 n1 : Int} {l : List Nat} (hl : l.length ≤ 100) (h0 : 0 < l.length) (c2 : Runs Tryd.prog env 7 [.pure false (.int .i64 s), .pure false (.int .i64 e)] [] (.tuple [.pure fl (.int .i64 n0), .row 0 l.length, .pure true (.bool b)]) [(0, .row true 1 0 (intsOf l))])
    (c3 : ∀ m m' : Bool, Runs Tryd.prog env 8 [.pure m (.int .i64 s), .pure m' (.int .i64 e)] [] (.tuple [.pure true (.int .i64 n1), .row 0 l.length, .pure true (.bool b')]) [(0, .row true (zOf l) 0 (intsOf l))]) :
    Runs Tryd.prog env 5 [.pure false (.int .i64 s), .pure false (.int .i64 e)] [] (.pure true (.bool true)) [] := by
  have c1 := fun m => ev_anyI s m
  obtain ⟨hk, hn⟩ := evI_facts s
  have c4 := fun m m' => has_no (evI s) (by omega) hn m m'
  generalize evI s = k at *
  have c5 := same_any l (by omega)
  have hkl := intsOf_length k
  have hll := intsOf_length l
  refine Runs.of Tryd.func5 rfl (by simp [Tryd.ntmps5]) ?_
  simp (maxSteps := 400000) -dsimp -implicitDefEqProofs (disch := first | exact TrueB.mk rfl | omega) only [go_sem, Nat.reduceMul, Nat.reduceAdd, Nat.reduceLT, Nat.reduceLeDiff, Nat.reducePow, Nat.reduceEqDiff, ↓reduceIte, reduceCtorEq, Int.reduceToNat, Tryd.ntmps5]
  first | refine wpAct_call0 (awake19_any) rfl rfl rfl rfl rfl rfl rfl rfl ?_ | done
  simp (maxSteps := 400000) -dsimp -implicitDefEqProofs (disch := first | exact TrueB.mk rfl | omega) only [go_sem, Nat.reduceMul, Nat.reduceAdd, Nat.reduceLT, Nat.reduceLeDiff, Nat.reducePow, Nat.reduceEqDiff, ↓reduceIte, reduceCtorEq, Int.reduceToNat]
  refine wpAct_callG c2 rfl rfl rfl rfl rfl rfl (newR _ _ _ _) rfl rfl ?_
  simp (maxSteps := 400000) -dsimp -implicitDefEqProofs (disch := first | exact TrueB.mk rfl | omega) only [go_sem, Nat.reduceMul, Nat.reduceAdd, Nat.reduceLT, Nat.reduceLeDiff, Nat.reducePow, Nat.reduceEqDiff, ↓reduceIte, reduceCtorEq, Int.reduceToNat]
  first | refine wpAct_callG (c1 _) rfl rfl rfl rfl rfl rfl rfl rfl rfl ?_ | done
  simp (maxSteps := 400000) -dsimp -implicitDefEqProofs (disch := first | exact TrueB.mk rfl | omega) only [go_sem, Nat.reduceMul, Nat.reduceAdd, Nat.reduceLT, Nat.reduceLeDiff, Nat.reducePow, Nat.reduceEqDiff, ↓reduceIte, reduceCtorEq, Int.reduceToNat]
  refine wpLoop_ind (α := Nat × List Nat)
    (fun a => ⟨[(0, .pure false (.int .i64 s)), (1, .pure false (.int .i64 e)), (6, .row 1104 l.length), (8, .row 1105 k.length), (9, .pure true (.int .i64 (a.1 : Nat)))], [(1104, .row true 1 0 (intsOf a.2)), (1105, .row true (zOf k) 0 (intsOf k))]⟩)
    (fun a => a.1 ≤ l.length ∧ a.2.length = l.length) (fun a => l.length - a.1) ?_ (0, l) ⟨by simp, rfl⟩ rfl
  rintro ⟨i, l2⟩ ⟨i1, i2⟩
  simp only at i1 i2
  rcases Classical.em (i < l.length) with h1 | h1
  · have g1 := ints_at (l := l2) (i := i) (by omega)
    have g2 := intsOf_length l2
    have g3 := ints_set (l := l2) (i := i)
    simp (maxSteps := 400000) -dsimp -implicitDefEqProofs (disch := first | exact TrueB.mk rfl | omega) only [go_sem, Nat.reduceMul, Nat.reduceAdd, Nat.reduceLT, Nat.reduceLeDiff, Nat.reducePow, Nat.reduceEqDiff, ↓reduceIte, reduceCtorEq, Int.reduceToNat, g1, g2, g3, i2]
    exact again_mk ⟨(i + 1, l2.set i 99), ⟨by omega, by simp [i2]⟩, by omega, rfl⟩
  simp (maxSteps := 400000) -dsimp -implicitDefEqProofs (disch := first | exact TrueB.mk rfl | omega) only [go_sem, Nat.reduceMul, Nat.reduceAdd, Nat.reduceLT, Nat.reduceLeDiff, Nat.reducePow, Nat.reduceEqDiff, ↓reduceIte, reduceCtorEq, Int.reduceToNat]
  refine wpLoop_ind (α := Nat × List Nat)
    (fun a => ⟨[(0, .pure false (.int .i64 s)), (1, .pure false (.int .i64 e)), (8, .row 1104 k.length), (10, .pure true (.int .i64 (a.1 : Nat)))], [(1104, .row true (zOf k) 0 (intsOf a.2))]⟩)
    (fun a => a.1 ≤ k.length ∧ a.2.length = k.length) (fun a => k.length - a.1) ?_ (0, k) ⟨by simp, rfl⟩ rfl
  rintro ⟨i, k2⟩ ⟨i1, i2⟩
  simp only at i1 i2
  rcases Classical.em (i < k.length) with h1 | h1
  · have hz := z_one h1
    have g1 := ints_at (l := k2) (i := i) (by omega)
    have g2 := intsOf_length k2
    have g3 := ints_set (l := k2) (i := i)
    simp (maxSteps := 400000) -dsimp -implicitDefEqProofs (disch := first | exact TrueB.mk rfl | omega) only [go_sem, Nat.reduceMul, Nat.reduceAdd, Nat.reduceLT, Nat.reduceLeDiff, Nat.reducePow, Nat.reduceEqDiff, ↓reduceIte, reduceCtorEq, Int.reduceToNat, g1, g2, g3, hz, i2]
    exact again_mk ⟨(i + 1, k2.set i 99), ⟨by omega, by simp [i2]⟩, by omega, by rw [hz]; rfl⟩
  · simp (maxSteps := 400000) -dsimp -implicitDefEqProofs (disch := first | exact TrueB.mk rfl | omega) only [go_sem, Nat.reduceMul, Nat.reduceAdd, Nat.reduceLT, Nat.reduceLeDiff, Nat.reducePow, Nat.reduceEqDiff, ↓reduceIte, reduceCtorEq, Int.reduceToNat]
    refine wpAct_callG c2 rfl rfl rfl rfl rfl rfl (newR _ _ _ _) rfl rfl ?_
    simp (maxSteps := 400000) -dsimp -implicitDefEqProofs (disch := first | exact TrueB.mk rfl | omega) only [go_sem, Nat.reduceMul, Nat.reduceAdd, Nat.reduceLT, Nat.reduceLeDiff, Nat.reducePow, Nat.reduceEqDiff, ↓reduceIte, reduceCtorEq, Int.reduceToNat]
    first | refine wpAct_callG (c3 _ _) rfl rfl rfl rfl rfl rfl rfl rfl rfl ?_ | done
    simp (maxSteps := 400000) -dsimp -implicitDefEqProofs (disch := first | exact TrueB.mk rfl | omega) only [go_sem, Nat.reduceMul, Nat.reduceAdd, Nat.reduceLT, Nat.reduceLeDiff, Nat.reducePow, Nat.reduceEqDiff, ↓reduceIte, reduceCtorEq, Int.reduceToNat]
    first | refine wpAct_callF (c5 _ _) rfl rfl rfl rfl (argV_r rfl hll.symm (argV_r rfl hll.symm argV_nil)) rfl rfl rfl rfl ?_ | done
    simp (maxSteps := 400000) -dsimp -implicitDefEqProofs (disch := first | exact TrueB.mk rfl | omega) only [go_sem, Nat.reduceMul, Nat.reduceAdd, Nat.reduceLT, Nat.reduceLeDiff, Nat.reducePow, Nat.reduceEqDiff, ↓reduceIte, reduceCtorEq, Int.reduceToNat]
    first | refine wpAct_callG (c1 _) rfl rfl rfl rfl rfl rfl rfl rfl rfl ?_ | done
    simp (maxSteps := 400000) -dsimp -implicitDefEqProofs (disch := first | exact TrueB.mk rfl | omega) only [go_sem, Nat.reduceMul, Nat.reduceAdd, Nat.reduceLT, Nat.reduceLeDiff, Nat.reducePow, Nat.reduceEqDiff, ↓reduceIte, reduceCtorEq, Int.reduceToNat]
    first | refine wpAct_callF (c4 _ _) rfl rfl rfl rfl (argV_r rfl hkl.symm (argV_p rfl argV_nil)) rfl rfl rfl rfl ?_ | done
    simp (maxSteps := 400000) -dsimp -implicitDefEqProofs (disch := first | exact TrueB.mk rfl | omega) only [go_sem, Nat.reduceMul, Nat.reduceAdd, Nat.reduceLT, Nat.reduceLeDiff, Nat.reducePow, Nat.reduceEqDiff, ↓reduceIte, reduceCtorEq, Int.reduceToNat]
    first | exact end_bool rfl rfl | done

theorem tableKeeps_runs (s e : Int) : Runs Tryd.prog env 5 [.pure false (.int .i64 s), .pure false (.int .i64 e)] [] (.pure true (.bool true)) [] := by
  obtain ⟨f, c2⟩ := lookz_any s e
  have c3 := fun m m' => rlook_any s e m m'
  have hc := fun n l => cell_short (s := s) (e := e) (n := n) (l := l)
  generalize cellI s e = C at *
  cases C with
  | none => exact keeps_none s e c2 c3
  | some p =>
    obtain ⟨n, l⟩ := p
    cases l with
    | nil => exact keeps_none s e c2 c3
    | cons x t => exact keeps_row s e (hc _ _ rfl) (by simp) c2 c3
end Go.Proofs.YtnhbmabikngmpaaDoorZ
