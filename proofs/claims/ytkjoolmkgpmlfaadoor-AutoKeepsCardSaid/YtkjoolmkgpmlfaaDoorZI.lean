/- YtkjoolmkgpmlfaaDoorZI: what an automaton and a config are; lists; timeouts. No claim. -/
import Derived.Test.YtkjoolmkgpmlfaaDoorZHZ
set_option linter.unusedVariables false
set_option linter.unusedSimpArgs false
set_option maxRecDepth 100000
namespace Go.Proofs.YtkjoolmkgpmlfaaDoorZ
open Go Go.Proofs.YtkjoolmkgpmlfaaDoorZ.V

theorem beq_same {α : Type} [BEq α] [LawfulBEq α] (s : α) : (s == s) = true := by simp
def autV (s r : Int) : PV := .agg [.int .i64 s, .int .i64 r]
def rightA (s r : Int) : Bool := decide (0 ≤ s ∧ s ≤ 9 ∧ 0 ≤ r ∧ r ≤ 255)
def confV (a b c : Int) : PV := .agg [.int .i64 a, .int .i64 b, .int .i64 c, .int .i64 0, .str [], .str [], .int .i64 0, .int .u32 0, .bool false]
set_option maxHeartbeats 4000000 in
theorem right_any (s r : Int) (m : Bool) : Runs Tryd.prog env 14 [.pure m (autV s r)] [] (.pure true (.bool (rightA s r))) [] := by
  unfold autV rightA
  refine Runs.of Tryd.func14 rfl (by simp [Tryd.ntmps14]) ?_
  rcases Classical.em (0 ≤ s) with h1 | h1
  · rcases Classical.em (s ≤ 9) with h2 | h2
    · rcases Classical.em (0 ≤ r) with h3 | h3
      · simp (maxSteps := 400000) -dsimp -implicitDefEqProofs (disch := first | exact TrueB.mk rfl | omega) only [go_sem, Nat.reduceMul, Nat.reduceAdd, Nat.reduceLT, Nat.reduceLeDiff, Nat.reducePow, Nat.reduceEqDiff, ↓reduceIte, reduceCtorEq, Int.reduceToNat, Tryd.ntmps14]
        first | exact end_bool rfl (by simp [h1, h2, h3]) | done
      · simp (maxSteps := 400000) -dsimp -implicitDefEqProofs (disch := first | exact TrueB.mk rfl | omega) only [go_sem, Nat.reduceMul, Nat.reduceAdd, Nat.reduceLT, Nat.reduceLeDiff, Nat.reducePow, Nat.reduceEqDiff, ↓reduceIte, reduceCtorEq, Int.reduceToNat, Tryd.ntmps14]
        first | exact end_bool rfl (by simp [h3]) | done
    · simp (maxSteps := 400000) -dsimp -implicitDefEqProofs (disch := first | exact TrueB.mk rfl | omega) only [go_sem, Nat.reduceMul, Nat.reduceAdd, Nat.reduceLT, Nat.reduceLeDiff, Nat.reducePow, Nat.reduceEqDiff, ↓reduceIte, reduceCtorEq, Int.reduceToNat, Tryd.ntmps14]
      first | exact end_bool rfl (by simp [h2]) | done
  · simp (maxSteps := 400000) -dsimp -implicitDefEqProofs (disch := first | exact TrueB.mk rfl | omega) only [go_sem, Nat.reduceMul, Nat.reduceAdd, Nat.reduceLT, Nat.reduceLeDiff, Nat.reducePow, Nat.reduceEqDiff, ↓reduceIte, reduceCtorEq, Int.reduceToNat, Tryd.ntmps14]
    first | exact end_bool rfl (by simp [h1]) | done

set_option maxHeartbeats 4000000 in
theorem refRight_any (s r : Int) (m : Bool) : Runs Tryd.prog env 7 [.pure m (autV s r)] [] (.pure true (.bool (rightA s r))) [] := by
  unfold autV rightA
  refine Runs.of Tryd.func7 rfl (by simp [Tryd.ntmps7]) ?_
  rcases Classical.em (0 ≤ s) with h1 | h1
  · rcases Classical.em (s ≤ 9) with h2 | h2
    · rcases Classical.em (0 ≤ r) with h3 | h3
      · simp (maxSteps := 400000) -dsimp -implicitDefEqProofs (disch := first | exact TrueB.mk rfl | omega) only [go_sem, Nat.reduceMul, Nat.reduceAdd, Nat.reduceLT, Nat.reduceLeDiff, Nat.reducePow, Nat.reduceEqDiff, ↓reduceIte, reduceCtorEq, Int.reduceToNat, Tryd.ntmps7]
        first | exact end_bool rfl (by simp [h1, h2, h3]) | done
      · simp (maxSteps := 400000) -dsimp -implicitDefEqProofs (disch := first | exact TrueB.mk rfl | omega) only [go_sem, Nat.reduceMul, Nat.reduceAdd, Nat.reduceLT, Nat.reduceLeDiff, Nat.reducePow, Nat.reduceEqDiff, ↓reduceIte, reduceCtorEq, Int.reduceToNat, Tryd.ntmps7]
        first | exact end_bool rfl (by simp [h3]) | done
    · simp (maxSteps := 400000) -dsimp -implicitDefEqProofs (disch := first | exact TrueB.mk rfl | omega) only [go_sem, Nat.reduceMul, Nat.reduceAdd, Nat.reduceLT, Nat.reduceLeDiff, Nat.reducePow, Nat.reduceEqDiff, ↓reduceIte, reduceCtorEq, Int.reduceToNat, Tryd.ntmps7]
      first | exact end_bool rfl (by simp [h2]) | done
  · simp (maxSteps := 400000) -dsimp -implicitDefEqProofs (disch := first | exact TrueB.mk rfl | omega) only [go_sem, Nat.reduceMul, Nat.reduceAdd, Nat.reduceLT, Nat.reduceLeDiff, Nat.reducePow, Nat.reduceEqDiff, ↓reduceIte, reduceCtorEq, Int.reduceToNat, Tryd.ntmps7]
    first | exact end_bool rfl (by simp [h1]) | done


set_option maxHeartbeats 4000000 in
theorem conf_any (x y : UInt8) (m m' : Bool) : Runs Tryd.prog env 8 [.pure m (.int .u8 x.toNat), .pure m' (.int .u8 y.toNat)] [] (.pure true (confV (1 + (x.toNat % 255 : Nat)) (1 + (y.toNat % 255 : Nat)) 1)) [] := by
  have hx := x.toNat_lt
  have hy := y.toNat_lt
  have w1 : IntKind.i64.wrap (x.toNat : Int) = (x.toNat : Int) := by rw [wrap_i64 (by omega) (by omega)]
  have w2 : IntKind.i64.wrap (y.toNat : Int) = (y.toNat : Int) := by rw [wrap_i64 (by omega) (by omega)]
  have w3 : IntKind.i64.wrap (1 + ((x.toNat % 255 : Nat) : Int)) = 1 + ((x.toNat % 255 : Nat) : Int) := by rw [wrap_i64 (by omega) (by omega)]
  have w4 : IntKind.i64.wrap (1 + ((y.toNat % 255 : Nat) : Int)) = 1 + ((y.toNat % 255 : Nat) : Int) := by rw [wrap_i64 (by omega) (by omega)]
  unfold confV
  refine Runs.of Tryd.func8 rfl (by simp [Tryd.ntmps8]) ?_
  simp (maxSteps := 400000) -dsimp -implicitDefEqProofs (disch := first | exact TrueB.mk rfl | omega) only [go_sem, Nat.reduceMul, Nat.reduceAdd, Nat.reduceLT, Nat.reduceLeDiff, Nat.reducePow, Nat.reduceEqDiff, ↓reduceIte, reduceCtorEq, Int.reduceToNat, Tryd.ntmps8, w1, w2, w3, w4, tmod_nat]
  first | exact rfl | done


def hasN (l : List Nat) (n : Nat) : Bool := l.contains n
theorem has_cons {k : Nat} {t : List Nat} {n : Nat} : hasN (k :: t) n = (decide (k = n) || hasN t n) := by
  unfold hasN
  rw [List.contains_cons]
  congr 1
  rw [Bool.eq_iff_iff, beq_iff_eq, decide_eq_true_eq]
  exact eq_comm
theorem has_first {l : List Nat} {n : Nat} (h : hasN l n = true) : ∃ j, ∃ hj : j < l.length, l[j] = n ∧ ∀ i (hi : i < l.length), i < j → l[i] ≠ n := by
  induction l with
  | nil => cases h
  | cons k t ih =>
    rw [has_cons] at h
    by_cases hk : k = n
    · exact ⟨0, by simp, hk, fun i hi h => by omega⟩
    · rw [decide_eq_false hk, Bool.false_or] at h
      obtain ⟨j, hj, h1, h2⟩ := ih h
      refine ⟨j + 1, by simp; omega, by simpa using h1, fun i hi hij => ?_⟩
      cases i with
      | zero => exact hk
      | succ i =>
        have := h2 i (by simp at hi; omega) (by omega)
        simpa using this
theorem has_none {l : List Nat} {n : Nat} (h : hasN l n = false) (i : Nat) (hi : i < l.length) : l[i] ≠ n := by
  intro e
  have : hasN l n = true := by
    unfold hasN
    rw [List.contains_iff_mem]
    exact e ▸ List.getElem_mem hi
  rw [h] at this
  cases this

set_option maxHeartbeats 4000000 in
theorem index_yes (l : List Nat) (n : Nat) (hl : l.length ≤ 1000) {j : Nat} (hj : j < l.length) (h1 : l[j] = n) (h2 : ∀ i (hi : i < l.length), i < j → l[i] ≠ n) (m m' : Bool) : Runs Tryd.prog env 20 [.pure m (.sl (intsOf l)), .pure m' (.int .i64 (n : Nat))] [] (.pure true (.int .i64 (j : Nat))) [] := by
  refine Runs.of Tryd.func20 rfl (by simp [Tryd.ntmps20]) ?_
  simp (maxSteps := 400000) -dsimp -implicitDefEqProofs (disch := first | exact TrueB.mk rfl | omega) only [go_sem, Nat.reduceMul, Nat.reduceAdd, Nat.reduceLT, Nat.reduceLeDiff, Nat.reducePow, Nat.reduceEqDiff, ↓reduceIte, reduceCtorEq, Int.reduceToNat, Tryd.ntmps20, intsOf_length]
  refine wpLoop_ind (α := Nat)
    (fun i => ⟨[(0, .pure m (.sl (intsOf l))), (1, .pure m' (.int .i64 (n : Nat))), (7, .pure true (.int .i64 (l.length : Nat))), (8, .pure true (.int .i64 i))], []⟩)
    (fun i => i ≤ j) (fun i => l.length - i) ?_ 0 (by omega) rfl
  rintro i hi
  have hlt : i < l.length := by omega
  have g1 := ints_at hlt
  rcases Classical.em (i = j) with rfl | h3
  · have h4 : ((n : Nat) : Int) = ((l[i] : Nat) : Int) := by omega
    simp (maxSteps := 400000) -dsimp -implicitDefEqProofs (disch := first | exact TrueB.mk rfl | omega) only [go_sem, Nat.reduceMul, Nat.reduceAdd, Nat.reduceLT, Nat.reduceLeDiff, Nat.reducePow, Nat.reduceEqDiff, ↓reduceIte, reduceCtorEq, Int.reduceToNat, g1, h4]
    first | exact end_int rfl rfl | done
  · have h5 := h2 i hlt (by omega)
    have h4 : ¬ ((n : Nat) : Int) = ((l[i] : Nat) : Int) := by omega
    simp (maxSteps := 400000) -dsimp -implicitDefEqProofs (disch := first | exact TrueB.mk rfl | omega) only [go_sem, Nat.reduceMul, Nat.reduceAdd, Nat.reduceLT, Nat.reduceLeDiff, Nat.reducePow, Nat.reduceEqDiff, ↓reduceIte, reduceCtorEq, Int.reduceToNat, g1, h4]
    first | exact again_mk ⟨i + 1, by omega, by omega, rfl⟩ | done

set_option maxHeartbeats 4000000 in
theorem index_no (l : List Nat) (n : Nat) (hl : l.length ≤ 1000) (h2 : ∀ i (hi : i < l.length), l[i] ≠ n) (m m' : Bool) : Runs Tryd.prog env 20 [.pure m (.sl (intsOf l)), .pure m' (.int .i64 (n : Nat))] [] (.pure true (.int .i64 (-1))) [] := by
  refine Runs.of Tryd.func20 rfl (by simp [Tryd.ntmps20]) ?_
  simp (maxSteps := 400000) -dsimp -implicitDefEqProofs (disch := first | exact TrueB.mk rfl | omega) only [go_sem, Nat.reduceMul, Nat.reduceAdd, Nat.reduceLT, Nat.reduceLeDiff, Nat.reducePow, Nat.reduceEqDiff, ↓reduceIte, reduceCtorEq, Int.reduceToNat, Tryd.ntmps20, intsOf_length]
  refine wpLoop_ind (α := Nat)
    (fun i => ⟨[(0, .pure m (.sl (intsOf l))), (1, .pure m' (.int .i64 (n : Nat))), (7, .pure true (.int .i64 (l.length : Nat))), (8, .pure true (.int .i64 i))], []⟩)
    (fun i => i ≤ l.length) (fun i => l.length - i) ?_ 0 (by omega) rfl
  rintro i hi
  rcases Classical.em (i < l.length) with hlt | h3
  · have g1 := ints_at hlt
    have h5 := h2 i hlt
    have h4 : ¬ ((n : Nat) : Int) = ((l[i] : Nat) : Int) := by omega
    simp (maxSteps := 400000) -dsimp -implicitDefEqProofs (disch := first | exact TrueB.mk rfl | omega) only [go_sem, Nat.reduceMul, Nat.reduceAdd, Nat.reduceLT, Nat.reduceLeDiff, Nat.reducePow, Nat.reduceEqDiff, ↓reduceIte, reduceCtorEq, Int.reduceToNat, g1, h4]
    first | exact again_mk ⟨i + 1, by omega, by omega, rfl⟩ | done
  · simp (maxSteps := 400000) -dsimp -implicitDefEqProofs (disch := first | exact TrueB.mk rfl | omega) only [go_sem, Nat.reduceMul, Nat.reduceAdd, Nat.reduceLT, Nat.reduceLeDiff, Nat.reducePow, Nat.reduceEqDiff, ↓reduceIte, reduceCtorEq, Int.reduceToNat]
    first | exact end_int rfl rfl | done

set_option maxHeartbeats 4000000 in
theorem contains_any (l : List Nat) (n : Nat) (hl : l.length ≤ 1000) (m m' : Bool) : Runs Tryd.prog env 17 [.pure m (.sl (intsOf l)), .pure m' (.int .i64 (n : Nat))] [] (.pure true (.bool (hasN l n))) [] := by
  cases h : hasN l n with
  | true =>
    obtain ⟨j, hj, h1, h2⟩ := has_first h
    have c := fun m m' => index_yes l n hl hj h1 h2 m m'
    refine Runs.of Tryd.func17 rfl (by simp [Tryd.ntmps17]) ?_
    simp (maxSteps := 400000) -dsimp -implicitDefEqProofs (disch := first | exact TrueB.mk rfl | omega) only [go_sem, Nat.reduceMul, Nat.reduceAdd, Nat.reduceLT, Nat.reduceLeDiff, Nat.reducePow, Nat.reduceEqDiff, ↓reduceIte, reduceCtorEq, Int.reduceToNat, Tryd.ntmps17]
    first | refine wpAct_call0 (c _ _) rfl rfl rfl rfl rfl rfl rfl rfl ?_ | done
    simp (maxSteps := 400000) -dsimp -implicitDefEqProofs (disch := first | exact TrueB.mk rfl | omega) only [go_sem, Nat.reduceMul, Nat.reduceAdd, Nat.reduceLT, Nat.reduceLeDiff, Nat.reducePow, Nat.reduceEqDiff, ↓reduceIte, reduceCtorEq, Int.reduceToNat]
    first | exact end_bool rfl rfl | done
  | false =>
    have c := fun m m' => index_no l n hl (has_none h) m m'
    refine Runs.of Tryd.func17 rfl (by simp [Tryd.ntmps17]) ?_
    simp (maxSteps := 400000) -dsimp -implicitDefEqProofs (disch := first | exact TrueB.mk rfl | omega) only [go_sem, Nat.reduceMul, Nat.reduceAdd, Nat.reduceLT, Nat.reduceLeDiff, Nat.reducePow, Nat.reduceEqDiff, ↓reduceIte, reduceCtorEq, Int.reduceToNat, Tryd.ntmps17]
    first | refine wpAct_call0 (c _ _) rfl rfl rfl rfl rfl rfl rfl rfl ?_ | done
    simp (maxSteps := 400000) -dsimp -implicitDefEqProofs (disch := first | exact TrueB.mk rfl | omega) only [go_sem, Nat.reduceMul, Nat.reduceAdd, Nat.reduceLT, Nat.reduceLeDiff, Nat.reducePow, Nat.reduceEqDiff, ↓reduceIte, reduceCtorEq, Int.reduceToNat]
    first | exact end_bool rfl rfl | done

end Go.Proofs.YtkjoolmkgpmlfaaDoorZ
