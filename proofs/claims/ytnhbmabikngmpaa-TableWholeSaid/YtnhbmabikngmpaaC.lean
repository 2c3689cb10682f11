/- YtnhbmabikngmpaaC: what is no cell; the law TableOpens, over the evaluator. No claim. -/
import Derived.Test.YtnhbmabikngmpaaB
import Derived.Test.YtnhbmabikngmpaaX
set_option linter.unusedVariables false
set_option linter.unusedSimpArgs false
set_option maxRecDepth 100000
namespace Go.Proofs.Ytnhbmabikngmpaa
open Go Go.Proofs.Ytnhbmabikngmpaa.V

theorem b_beq4 {E : Env} {m m' p q : Bool} : binV Try.prog E .eql 4 (.pure m (.bool p)) (.pure m' (.bool q)) = some (.bool (p == q)) := b_beql Try.underlying4
theorem b_bne4 {E : Env} {m m' p q : Bool} : binV Try.prog E .neq 4 (.pure m (.bool p)) (.pure m' (.bool q)) = some (.bool !(p == q)) := b_bneq Try.underlying4
theorem beq_tt : (true == true) = true := rfl
theorem beq_ff : (false == false) = true := rfl
attribute [go_sem] b_beq4 b_bne4 beq_tt beq_ff
def inT (s e : Int) : Prop := 0 ≤ s ∧ s ≤ 9 ∧ 1 ≤ e ∧ e ≤ 16
theorem none_any : Runs Try.prog env 13 [] [] (.tuple [.pure true (.agg [.int .i64 0, .sl []]), .pure true (.bool false)]) [] := ⟨60, by kernel_rfl⟩

set_option maxHeartbeats 4000000 in
theorem findOut_any (s e : Int) (h : ¬ inT s e) (m m' : Bool) : Runs Try.prog env 12 [.pure m (.int .i64 s), .pure m' (.int .i64 e)] [] (.tuple [.pure true (.agg [.int .i64 0, .sl []]), .pure true (.bool false)]) [] := by
  unfold inT at h
  refine Runs.of Try.func12 rfl (by simp [Try.ntmps12]) ?_
  rcases Classical.em (s < 0) with h1 | h1
  · simp (maxSteps := 400000) -dsimp -implicitDefEqProofs (disch := first | exact TrueB.mk rfl | omega) only [go_sem, Nat.reduceMul, Nat.reduceAdd, Nat.reduceLT, Nat.reduceLeDiff, Nat.reducePow, Nat.reduceEqDiff, ↓reduceIte, reduceCtorEq, Int.reduceToNat, Try.ntmps12]
    first | refine wpAct_call0 (none_any) rfl rfl rfl rfl rfl rfl rfl rfl ?_ | done
    simp (maxSteps := 400000) -dsimp -implicitDefEqProofs (disch := first | exact TrueB.mk rfl | omega) only [go_sem, Nat.reduceMul, Nat.reduceAdd, Nat.reduceLT, Nat.reduceLeDiff, Nat.reducePow, Nat.reduceEqDiff, ↓reduceIte, reduceCtorEq, Int.reduceToNat]
    first | exact rfl | done
  · rcases Classical.em (9 < s) with h2 | h2
    · simp (maxSteps := 400000) -dsimp -implicitDefEqProofs (disch := first | exact TrueB.mk rfl | omega) only [go_sem, Nat.reduceMul, Nat.reduceAdd, Nat.reduceLT, Nat.reduceLeDiff, Nat.reducePow, Nat.reduceEqDiff, ↓reduceIte, reduceCtorEq, Int.reduceToNat, Try.ntmps12]
      first | refine wpAct_call0 (none_any) rfl rfl rfl rfl rfl rfl rfl rfl ?_ | done
      simp (maxSteps := 400000) -dsimp -implicitDefEqProofs (disch := first | exact TrueB.mk rfl | omega) only [go_sem, Nat.reduceMul, Nat.reduceAdd, Nat.reduceLT, Nat.reduceLeDiff, Nat.reducePow, Nat.reduceEqDiff, ↓reduceIte, reduceCtorEq, Int.reduceToNat]
      first | exact rfl | done
    · rcases Classical.em (e < 1) with h3 | h3
      · simp (maxSteps := 400000) -dsimp -implicitDefEqProofs (disch := first | exact TrueB.mk rfl | omega) only [go_sem, Nat.reduceMul, Nat.reduceAdd, Nat.reduceLT, Nat.reduceLeDiff, Nat.reducePow, Nat.reduceEqDiff, ↓reduceIte, reduceCtorEq, Int.reduceToNat, Try.ntmps12]
        first | refine wpAct_call0 (none_any) rfl rfl rfl rfl rfl rfl rfl rfl ?_ | done
        simp (maxSteps := 400000) -dsimp -implicitDefEqProofs (disch := first | exact TrueB.mk rfl | omega) only [go_sem, Nat.reduceMul, Nat.reduceAdd, Nat.reduceLT, Nat.reduceLeDiff, Nat.reducePow, Nat.reduceEqDiff, ↓reduceIte, reduceCtorEq, Int.reduceToNat]
        first | exact rfl | done
      · have h4 : 16 < e := by omega
        simp (maxSteps := 400000) -dsimp -implicitDefEqProofs (disch := first | exact TrueB.mk rfl | omega) only [go_sem, Nat.reduceMul, Nat.reduceAdd, Nat.reduceLT, Nat.reduceLeDiff, Nat.reducePow, Nat.reduceEqDiff, ↓reduceIte, reduceCtorEq, Int.reduceToNat, Try.ntmps12]
        first | refine wpAct_call0 (none_any) rfl rfl rfl rfl rfl rfl rfl rfl ?_ | done
        simp (maxSteps := 400000) -dsimp -implicitDefEqProofs (disch := first | exact TrueB.mk rfl | omega) only [go_sem, Nat.reduceMul, Nat.reduceAdd, Nat.reduceLT, Nat.reduceLeDiff, Nat.reducePow, Nat.reduceEqDiff, ↓reduceIte, reduceCtorEq, Int.reduceToNat]
        first | exact rfl | done

set_option maxHeartbeats 4000000 in
theorem lookOut_any (s e : Int) (h : ¬ inT s e) (m m' : Bool) : Runs Try.prog env 7 [.pure m (.int .i64 s), .pure m' (.int .i64 e)] [] (lookR none) [] := by
  have c := fun m m' => findOut_any s e h m m'
  unfold lookR
  refine Runs.of Try.func7 rfl (by simp [Try.ntmps7]) ?_
  simp (maxSteps := 400000) -dsimp -implicitDefEqProofs (disch := first | exact TrueB.mk rfl | omega) only [go_sem, Nat.reduceMul, Nat.reduceAdd, Nat.reduceLT, Nat.reduceLeDiff, Nat.reducePow, Nat.reduceEqDiff, ↓reduceIte, reduceCtorEq, Int.reduceToNat, Try.ntmps7]
  first | refine wpAct_call0 (c _ _) rfl rfl rfl rfl rfl rfl rfl rfl ?_ | done
  simp (maxSteps := 400000) -dsimp -implicitDefEqProofs (disch := first | exact TrueB.mk rfl | omega) only [go_sem, Nat.reduceMul, Nat.reduceAdd, Nat.reduceLT, Nat.reduceLeDiff, Nat.reducePow, Nat.reduceEqDiff, ↓reduceIte, reduceCtorEq, Int.reduceToNat]
  first | exact rfl | done

def cellI (s e : Int) : Option (Nat × List Nat) := if 0 ≤ s ∧ s ≤ 9 ∧ 1 ≤ e ∧ e ≤ 16 then cellT s.toNat e.toNat else none
theorem look_any (s e : Int) (m m' : Bool) : Runs Try.prog env 7 [.pure m (.int .i64 s), .pure m' (.int .i64 e)] [] (lookR (cellI s e)) [] := by
  unfold cellI
  by_cases h : 0 ≤ s ∧ s ≤ 9 ∧ 1 ≤ e ∧ e ≤ 16
  · rw [if_pos h]
    obtain ⟨h1, h2, h3, h4⟩ := h
    have c := lookC s.toNat e.toNat (by omega) (by omega) m m'
    rw [show ((s.toNat : Nat) : Int) = s by omega, show ((e.toNat : Nat) : Int) = e by omega] at c
    exact c
  · rw [if_neg h]
    exact lookOut_any s e h m m'

def hasN (l : List Nat) (n : Int) : Bool := l.any fun (k : Nat) => decide ((k : Int) = n)
theorem ints_at {l : List Nat} {i : Nat} (h : i < l.length) : (intsOf l)[i]? = some (.int .i64 (l[i] : Nat)) := by simp [intsOf, h]
theorem intsOf_length (l : List Nat) : (intsOf l).length = l.length := by simp [intsOf]
def hasTo (l : List Nat) (n : Int) (i : Nat) : Prop := i ≤ l.length ∧ hasN (l.take i) n = false
theorem has_next {l : List Nat} {n : Int} {i : Nat} (h : i < l.length) : hasN (l.take (i + 1)) n = (hasN (l.take i) n || decide ((l[i] : Int) = n)) := by
  unfold hasN
  rw [← List.take_append_getElem h, List.any_append]
  simp
theorem has_at {l : List Nat} {n : Int} {i : Nat} (h : i < l.length) (e : (l[i] : Int) = n) : hasN l n = true := by
  unfold hasN
  rw [List.any_eq_true]
  exact ⟨_, List.getElem_mem h, by simpa using e⟩

set_option maxHeartbeats 4000000 in
theorem has_any (l : List Nat) (n : Int) (hl : l.length ≤ 1000) (m m' : Bool) : Runs Try.prog env 9 [.pure m (.sl (intsOf l)), .pure m' (.int .i64 n)] [] (.pure true (.bool (hasN l n))) [] := by
  refine Runs.of Try.func9 rfl (by simp [Try.ntmps9]) ?_
  simp (maxSteps := 400000) -dsimp -implicitDefEqProofs (disch := first | exact TrueB.mk rfl | omega) only [go_sem, Nat.reduceMul, Nat.reduceAdd, Nat.reduceLT, Nat.reduceLeDiff, Nat.reducePow, Nat.reduceEqDiff, ↓reduceIte, reduceCtorEq, Int.reduceToNat, Try.ntmps9, intsOf_length]
  refine wpLoop_ind (α := Nat)
    (fun i => ⟨[(0, .pure m (.sl (intsOf l))), (1, .pure m' (.int .i64 n)), (5, .pure true (.int .i64 i))], []⟩)
    (hasTo l n) (fun i => l.length - i) ?_ 0 ⟨by simp, rfl⟩ rfl
  rintro i ⟨hi, ho⟩
  simp (maxSteps := 400000) -dsimp -implicitDefEqProofs (disch := first | exact TrueB.mk rfl | omega) only [go_sem, Nat.reduceMul, Nat.reduceAdd, Nat.reduceLT, Nat.reduceLeDiff, Nat.reducePow, Nat.reduceEqDiff, ↓reduceIte, reduceCtorEq, Int.reduceToNat, intsOf_length]
  first | refine condK_dec (fun h1 => ?_) (fun h1 => ?_) | refine condK_ndec (fun h1 => ?_) (fun h1 => ?_) | refine condK_beq (fun h1 => ?_) (fun h1 => ?_) | refine condK_bne (fun h1 => ?_) (fun h1 => ?_) | refine condK_nbeq (fun h1 => ?_) (fun h1 => ?_) | refine guardK_dec (fun h1 => ?_) (fun h1 => ?_) | refine guardK_ndec (fun h1 => ?_) (fun h1 => ?_) | refine guardK_beq (fun h1 => ?_) (fun h1 => ?_) | refine guardK_bne (fun h1 => ?_) (fun h1 => ?_) | refine guardK_nbeq (fun h1 => ?_) (fun h1 => ?_) | refine condK_not (fun h1 => ?_) (fun h1 => ?_) | refine guardK_not (fun h1 => ?_) (fun h1 => ?_) | refine condK_bool (fun h1 => ?_) (fun h1 => ?_) | refine guardK_bool (fun h1 => ?_) (fun h1 => ?_) | done
  · have hlt : i < l.length := by omega
    have g1 := ints_at hlt
    have g2 := has_next (n := n) hlt
    rcases Classical.em ((l[i] : Int) = n) with h2 | h2
    · simp (maxSteps := 400000) -dsimp -implicitDefEqProofs (disch := first | exact TrueB.mk rfl | omega) only [go_sem, Nat.reduceMul, Nat.reduceAdd, Nat.reduceLT, Nat.reduceLeDiff, Nat.reducePow, Nat.reduceEqDiff, ↓reduceIte, reduceCtorEq, Int.reduceToNat, g1, h2]
      first | exact end_bool rfl (has_at hlt h2).symm | done
    · simp (maxSteps := 400000) -dsimp -implicitDefEqProofs (disch := first | exact TrueB.mk rfl | omega) only [go_sem, Nat.reduceMul, Nat.reduceAdd, Nat.reduceLT, Nat.reduceLeDiff, Nat.reducePow, Nat.reduceEqDiff, ↓reduceIte, reduceCtorEq, Int.reduceToNat, g1, h2]
      rw [ho, decide_eq_false h2] at g2
      first | exact again_mk ⟨i + 1, ⟨by omega, g2⟩, by omega, rfl⟩ | done
  · simp (maxSteps := 400000) -dsimp -implicitDefEqProofs (disch := first | exact TrueB.mk rfl | omega) only [go_sem, Nat.reduceMul, Nat.reduceAdd, Nat.reduceLT, Nat.reduceLeDiff, Nat.reducePow, Nat.reduceEqDiff, ↓reduceIte, reduceCtorEq, Int.reduceToNat]
    rw [List.take_of_length_le (by omega)] at ho
    first | exact end_bool rfl ho.symm | done

def opensOk (s e : Nat) : Bool := match cellT s e with
  | none => true
  | some (n, l) => (hasN l 1 == (decide (¬ s = 9) && decide (n = 9))) && (hasN l 2 == (decide (s = 9) && decide (¬ n = 9))) && decide (l.length ≤ 10) && decide (n ≤ 9)
theorem opens_all : ∀ s : Fin 10, ∀ e : Fin 18, opensOk s e = true := by decide +kernel

set_option maxHeartbeats 8000000 in
theorem tableOpens_runs (s e : Int) : Runs Try.prog env 4 [.pure false (.int .i64 s), .pure false (.int .i64 e)] [] (.pure true (.bool true)) [] := by
  have c := fun m m' => look_any s e m m'
  have h : ∀ n l, cellI s e = some (n, l) → hasN l 1 = (decide (¬ s = 9) && decide (n = 9)) ∧ hasN l 2 = (decide (s = 9) && decide (¬ n = 9)) ∧ l.length ≤ 10 ∧ n ≤ 9 := by
    intro n l hc
    unfold cellI at hc
    split at hc
    · rename_i hin
      have := opens_all ⟨s.toNat, by omega⟩ ⟨e.toNat, by omega⟩
      unfold opensOk at this
      simp only [hc, Bool.and_eq_true, decide_eq_true_eq, beq_iff_eq] at this
      obtain ⟨⟨⟨t1, t2⟩, t3⟩, t4⟩ := this
      rw [t1, t2]
      refine ⟨?_, ?_, t3, t4⟩
      · congr 1
        rw [decide_eq_decide]
        show ¬ s.toNat = 9 ↔ _
        omega
      · congr 1
        rw [decide_eq_decide]
        show s.toNat = 9 ↔ _
        omega
    · cases hc
  generalize cellI s e = C at *
  refine Runs.of Try.func4 rfl (by simp [Try.ntmps4]) ?_
  simp (maxSteps := 400000) -dsimp -implicitDefEqProofs (disch := first | exact TrueB.mk rfl | omega) only [go_sem, Nat.reduceMul, Nat.reduceAdd, Nat.reduceLT, Nat.reduceLeDiff, Nat.reducePow, Nat.reduceEqDiff, ↓reduceIte, reduceCtorEq, Int.reduceToNat, Try.ntmps4]
  first | refine wpAct_call0 (awake19_any) rfl rfl rfl rfl rfl rfl rfl rfl ?_ | done
  simp (maxSteps := 400000) -dsimp -implicitDefEqProofs (disch := first | exact TrueB.mk rfl | omega) only [go_sem, Nat.reduceMul, Nat.reduceAdd, Nat.reduceLT, Nat.reduceLeDiff, Nat.reducePow, Nat.reduceEqDiff, ↓reduceIte, reduceCtorEq, Int.reduceToNat]
  cases C with
  | none =>
    unfold lookR at c
    first | refine wpAct_call0 (c _ _) rfl rfl rfl rfl rfl rfl rfl rfl ?_ | done
    simp (maxSteps := 400000) -dsimp -implicitDefEqProofs (disch := first | exact TrueB.mk rfl | omega) only [go_sem, Nat.reduceMul, Nat.reduceAdd, Nat.reduceLT, Nat.reduceLeDiff, Nat.reducePow, Nat.reduceEqDiff, ↓reduceIte, reduceCtorEq, Int.reduceToNat]
    first | exact end_bool rfl rfl | done
  | some p =>
    obtain ⟨n, l⟩ := p
    obtain ⟨h1, h2, h3, h4⟩ := h n l rfl
    have d1 := fun m m' => has_any l 1 (by omega) m m'
    have d2 := fun m m' => has_any l 2 (by omega) m m'
    rw [h1] at d1
    rw [h2] at d2
    unfold lookR at c
    first | refine wpAct_call0 (c _ _) rfl rfl rfl rfl rfl rfl rfl rfl ?_ | done
    simp (maxSteps := 400000) -dsimp -implicitDefEqProofs (disch := first | exact TrueB.mk rfl | omega) only [go_sem, Nat.reduceMul, Nat.reduceAdd, Nat.reduceLT, Nat.reduceLeDiff, Nat.reducePow, Nat.reduceEqDiff, ↓reduceIte, reduceCtorEq, Int.reduceToNat]
    first | refine wpAct_call0 (d1 _ _) rfl rfl rfl rfl rfl rfl rfl rfl ?_ | done
    simp (maxSteps := 400000) -dsimp -implicitDefEqProofs (disch := first | exact TrueB.mk rfl | omega) only [go_sem, Nat.reduceMul, Nat.reduceAdd, Nat.reduceLT, Nat.reduceLeDiff, Nat.reducePow, Nat.reduceEqDiff, ↓reduceIte, reduceCtorEq, Int.reduceToNat]
    first | refine wpAct_call0 (d2 _ _) rfl rfl rfl rfl rfl rfl rfl rfl ?_ | done
    rcases Classical.em (s = 9) with h5 | h5
    · rcases Classical.em (n = 9) with h6 | h6
      · simp (maxSteps := 400000) -dsimp -implicitDefEqProofs (disch := first | exact TrueB.mk rfl | omega) only [go_sem, Nat.reduceMul, Nat.reduceAdd, Nat.reduceLT, Nat.reduceLeDiff, Nat.reducePow, Nat.reduceEqDiff, ↓reduceIte, reduceCtorEq, Int.reduceToNat, h5, h6]
        first | exact end_bool rfl (by simp) | done
      · simp (maxSteps := 400000) -dsimp -implicitDefEqProofs (disch := first | exact TrueB.mk rfl | omega) only [go_sem, Nat.reduceMul, Nat.reduceAdd, Nat.reduceLT, Nat.reduceLeDiff, Nat.reducePow, Nat.reduceEqDiff, ↓reduceIte, reduceCtorEq, Int.reduceToNat, h5, h6]
        first | exact end_bool rfl (by simp) | done
    · rcases Classical.em (n = 9) with h6 | h6
      · simp (maxSteps := 400000) -dsimp -implicitDefEqProofs (disch := first | exact TrueB.mk rfl | omega) only [go_sem, Nat.reduceMul, Nat.reduceAdd, Nat.reduceLT, Nat.reduceLeDiff, Nat.reducePow, Nat.reduceEqDiff, ↓reduceIte, reduceCtorEq, Int.reduceToNat, h5, h6]
        first | exact end_bool rfl (by simp) | done
      · simp (maxSteps := 400000) -dsimp -implicitDefEqProofs (disch := first | exact TrueB.mk rfl | omega) only [go_sem, Nat.reduceMul, Nat.reduceAdd, Nat.reduceLT, Nat.reduceLeDiff, Nat.reducePow, Nat.reduceEqDiff, ↓reduceIte, reduceCtorEq, Int.reduceToNat, h5, h6]
        first | exact end_bool rfl (by simp) | done
end Go.Proofs.Ytnhbmabikngmpaa
