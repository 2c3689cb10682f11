/- YticdhmcbooabaaaDoorWA: parts of the proof of CellsKeeps. No claim. -/
import Derived.Test.YticdhmcbooabaaaDoorMN
set_option linter.unusedVariables false
set_option linter.unusedSimpArgs false
set_option maxRecDepth 1000000
namespace Go.Proofs.YticdhmcbooabaaaDoor
open Go Go.Proofs.YticdhmcbooabaaaDoor.V

set_option maxHeartbeats 4000000 in
theorem open_any (a0 r0 a1 r1 a2 r2 : Int) (s0 s1 s2 : Bool) (f0 f1 f2 f3 f4 f5 g0 g1 g2 : Bool) :
    Runs Tryd.prog env 46 [.ptr 0 0] [(0, .box [.pure f0 (.int .i64 a0), .pure f1 (.int .i64 r0), .pure f2 (.int .i64 a1), .pure f3 (.int .i64 r1), .pure f4 (.int .i64 a2), .pure f5 (.int .i64 r2), .pure g0 (.bool s0), .pure g1 (.bool s1), .pure g2 (.bool s2)])] (.pure true (.bool (decide (a0 = 9)))) [(0, .box [.pure f0 (.int .i64 a0), .pure f1 (.int .i64 r0), .pure f2 (.int .i64 a1), .pure f3 (.int .i64 r1), .pure f4 (.int .i64 a2), .pure f5 (.int .i64 r2), .pure g0 (.bool s0), .pure g1 (.bool s1), .pure g2 (.bool s2)])] := by
  refine Runs.of Tryd.func46 rfl (by simp [Tryd.ntmps46]) ?_
  rcases Classical.em (a0 = 9) with h | h
  · subst h
    simp (maxSteps := 400000) -dsimp -implicitDefEqProofs (disch := first | exact TrueB.mk rfl | omega) only [go_sem, Tryd.ntmps46]
    first | exact rfl | done
  · simp (maxSteps := 400000) -dsimp -implicitDefEqProofs (disch := first | exact TrueB.mk rfl | omega) only [go_sem, Tryd.ntmps46, h]
    first | exact rfl | done

set_option maxHeartbeats 4000000 in
theorem index_p (p : Int) (h : p ≠ 49185 ∧ p ≠ 32801 ∧ p ≠ 32855) (m m' : Bool) : Runs Tryd.prog env 44 [.pure m (.sl [.int .i64 49185, .int .i64 32801, .int .i64 32855]), .pure m' (.int .i64 p)] [] (.pure true (.int .i64 (-1))) [] := by
  obtain ⟨h1, h2, h3⟩ := h
  have q1 : ¬ p = 49185 := h1
  have q2 : ¬ p = 32801 := h2
  have q3 : ¬ p = 32855 := h3
  refine Runs.of Tryd.func44 rfl (by simp [Tryd.ntmps44]) ?_
  simp (maxSteps := 400000) -dsimp -implicitDefEqProofs (disch := first | exact TrueB.mk rfl | omega) only [go_sem, Tryd.ntmps44]
  refine wpLoop_ind (α := Nat)
    (fun i => ⟨[(0, .pure m (.sl [.int .i64 49185, .int .i64 32801, .int .i64 32855])), (1, .pure m' (.int .i64 p)), (7, .pure true (.int .i64 3)), (8, .pure true (.int .i64 i))], []⟩)
    (fun i => i ≤ 3) (fun i => 3 - i) ?_ 0 (by omega) rfl
  rintro i hi
  have hi4 : i = 0 ∨ i = 1 ∨ i = 2 ∨ i = 3 := by omega
  have p1 : ¬ (49185 : Int) = p := fun e => h1 e.symm
  have p2 : ¬ (32801 : Int) = p := fun e => h2 e.symm
  have p3 : ¬ (32855 : Int) = p := fun e => h3 e.symm
  rcases hi4 with rfl | rfl | rfl | rfl
  · simp (maxSteps := 400000) -dsimp -implicitDefEqProofs (disch := first | exact TrueB.mk rfl | omega) only [go_sem, p1, q1]
    first | exact again_mk ⟨1, by decide, by decide, rfl⟩ | done
  · simp (maxSteps := 400000) -dsimp -implicitDefEqProofs (disch := first | exact TrueB.mk rfl | omega) only [go_sem, p2, q2]
    first | exact again_mk ⟨2, by decide, by decide, rfl⟩ | done
  · simp (maxSteps := 400000) -dsimp -implicitDefEqProofs (disch := first | exact TrueB.mk rfl | omega) only [go_sem, p3, q3]
    first | exact again_mk ⟨3, by decide, by decide, rfl⟩ | done
  · simp (maxSteps := 400000) -dsimp -implicitDefEqProofs (disch := first | exact TrueB.mk rfl | omega) only [go_sem]
    first | exact end_int rfl rfl | done
theorem index_p0 (m m' : Bool) : Runs Tryd.prog env 44 [.pure m (.sl [.int .i64 49185, .int .i64 32801, .int .i64 32855]), .pure m' (.int .i64 49185)] [] (.pure true (.int .i64 0)) [] := by cases m <;> cases m' <;> exact ⟨60, by kernel_rfl⟩
theorem index_p1 (m m' : Bool) : Runs Tryd.prog env 44 [.pure m (.sl [.int .i64 49185, .int .i64 32801, .int .i64 32855]), .pure m' (.int .i64 32801)] [] (.pure true (.int .i64 1)) [] := by cases m <;> cases m' <;> exact ⟨60, by kernel_rfl⟩
theorem index_p2 (m m' : Bool) : Runs Tryd.prog env 44 [.pure m (.sl [.int .i64 49185, .int .i64 32801, .int .i64 32855]), .pure m' (.int .i64 32855)] [] (.pure true (.int .i64 2)) [] := by cases m <;> cases m' <;> exact ⟨60, by kernel_rfl⟩

def mayP (i : Nat) (o s : Bool) (e : Int) : Bool :=
  if e = 1 ∨ e = 2 ∨ e = 16 then decide (i = 0) else if e = 9 ∨ e = 10 then s && (decide (i = 0) || o) else decide (i = 0) || decide (e < 7) || o

set_option maxHeartbeats 16000000 in
theorem may_0 (a0 r0 a1 r1 a2 r2 : Int) (s0 s1 s2 : Bool) (e : Int) (f0 f1 f2 f3 f4 f5 g0 g1 g2 : Bool) (m m' : Bool) :
    Runs Tryd.prog env 45 [.ptr 0 0, .pure m (.int .i64 0), .pure m' (.int .i64 e)] [(0, .box [.pure f0 (.int .i64 a0), .pure f1 (.int .i64 r0), .pure f2 (.int .i64 a1), .pure f3 (.int .i64 r1), .pure f4 (.int .i64 a2), .pure f5 (.int .i64 r2), .pure g0 (.bool s0), .pure g1 (.bool s1), .pure g2 (.bool s2)])] (.pure true (.bool (mayP 0 (decide (a0 = 9)) s0 e))) [(0, .box [.pure f0 (.int .i64 a0), .pure f1 (.int .i64 r0), .pure f2 (.int .i64 a1), .pure f3 (.int .i64 r1), .pure f4 (.int .i64 a2), .pure f5 (.int .i64 r2), .pure g0 (.bool s0), .pure g1 (.bool s1), .pure g2 (.bool s2)])] := by
  have oo := open_any a0 r0 a1 r1 a2 r2 s0 s1 s2
  refine Runs.of Tryd.func45 rfl (by simp [Tryd.ntmps45]) ?_
  rcases Classical.em (e = 1) with e1 | e1
  · subst e1
    simp (maxSteps := 400000) -dsimp -implicitDefEqProofs (disch := first | exact TrueB.mk rfl | omega) only [go_sem, Tryd.ntmps45]
    exact rfl
  rcases Classical.em (e = 2) with e2 | e2
  · subst e2
    simp (maxSteps := 400000) -dsimp -implicitDefEqProofs (disch := first | exact TrueB.mk rfl | omega) only [go_sem, Tryd.ntmps45]
    exact rfl
  rcases Classical.em (e = 16) with e16 | e16
  · subst e16
    simp (maxSteps := 400000) -dsimp -implicitDefEqProofs (disch := first | exact TrueB.mk rfl | omega) only [go_sem, Tryd.ntmps45]
    exact rfl
  rcases Classical.em (e = 9) with e9 | e9
  · subst e9
    cases s0 with
    | false =>
      simp (maxSteps := 400000) -dsimp -implicitDefEqProofs (disch := first | exact TrueB.mk rfl | omega) only [go_sem, Tryd.ntmps45]
      exact rfl
    | true =>
      simp (maxSteps := 400000) -dsimp -implicitDefEqProofs (disch := first | exact TrueB.mk rfl | omega) only [go_sem, Tryd.ntmps45]
      exact rfl
  rcases Classical.em (e = 10) with e10 | e10
  · subst e10
    cases s0 with
    | false =>
      simp (maxSteps := 400000) -dsimp -implicitDefEqProofs (disch := first | exact TrueB.mk rfl | omega) only [go_sem, Tryd.ntmps45]
      exact rfl
    | true =>
      simp (maxSteps := 400000) -dsimp -implicitDefEqProofs (disch := first | exact TrueB.mk rfl | omega) only [go_sem, Tryd.ntmps45]
      exact rfl
  have hm : mayP 0 (decide (a0 = 9)) s0 e = (decide (0 = 0) || decide (e < 7) || decide (a0 = 9)) := by simp [mayP, e1, e2, e16, e9, e10]
  rw [hm]
  simp (maxSteps := 400000) -dsimp -implicitDefEqProofs (disch := first | exact TrueB.mk rfl | omega) only [go_sem, Tryd.ntmps45, e1, e2, e16, e9, e10]
  exact rfl

set_option maxHeartbeats 16000000 in
theorem may_1 (a0 r0 a1 r1 a2 r2 : Int) (s0 s1 s2 : Bool) (e : Int) (f0 f1 f2 f3 f4 f5 g0 g1 g2 : Bool) (m m' : Bool) :
    Runs Tryd.prog env 45 [.ptr 0 0, .pure m (.int .i64 1), .pure m' (.int .i64 e)] [(0, .box [.pure f0 (.int .i64 a0), .pure f1 (.int .i64 r0), .pure f2 (.int .i64 a1), .pure f3 (.int .i64 r1), .pure f4 (.int .i64 a2), .pure f5 (.int .i64 r2), .pure g0 (.bool s0), .pure g1 (.bool s1), .pure g2 (.bool s2)])] (.pure true (.bool (mayP 1 (decide (a0 = 9)) s1 e))) [(0, .box [.pure f0 (.int .i64 a0), .pure f1 (.int .i64 r0), .pure f2 (.int .i64 a1), .pure f3 (.int .i64 r1), .pure f4 (.int .i64 a2), .pure f5 (.int .i64 r2), .pure g0 (.bool s0), .pure g1 (.bool s1), .pure g2 (.bool s2)])] := by
  have oo := open_any a0 r0 a1 r1 a2 r2 s0 s1 s2
  refine Runs.of Tryd.func45 rfl (by simp [Tryd.ntmps45]) ?_
  rcases Classical.em (e = 1) with e1 | e1
  · subst e1
    simp (maxSteps := 400000) -dsimp -implicitDefEqProofs (disch := first | exact TrueB.mk rfl | omega) only [go_sem, Tryd.ntmps45]
    exact rfl
  rcases Classical.em (e = 2) with e2 | e2
  · subst e2
    simp (maxSteps := 400000) -dsimp -implicitDefEqProofs (disch := first | exact TrueB.mk rfl | omega) only [go_sem, Tryd.ntmps45]
    exact rfl
  rcases Classical.em (e = 16) with e16 | e16
  · subst e16
    simp (maxSteps := 400000) -dsimp -implicitDefEqProofs (disch := first | exact TrueB.mk rfl | omega) only [go_sem, Tryd.ntmps45]
    exact rfl
  rcases Classical.em (e = 9) with e9 | e9
  · subst e9
    cases s1 with
    | false =>
      simp (maxSteps := 400000) -dsimp -implicitDefEqProofs (disch := first | exact TrueB.mk rfl | omega) only [go_sem, Tryd.ntmps45]
      exact rfl
    | true =>
      by_cases ho : a0 = 9
      · rw [decide_eq_true ho] at *
        simp (maxSteps := 400000) -dsimp -implicitDefEqProofs (disch := first | exact TrueB.mk rfl | omega) only [go_sem, Tryd.ntmps45]
        first | refine wpAct_callS [0] (oo _ _ _ _ _ _ _ _ _) rfl rfl rfl rfl rfl rfl rfl rfl rfl rfl ?_ | done
        simp (maxSteps := 400000) -dsimp -implicitDefEqProofs (disch := first | exact TrueB.mk rfl | omega) only [go_sem]
        exact rfl
      · rw [decide_eq_false ho] at *
        simp (maxSteps := 400000) -dsimp -implicitDefEqProofs (disch := first | exact TrueB.mk rfl | omega) only [go_sem, Tryd.ntmps45]
        first | refine wpAct_callS [0] (oo _ _ _ _ _ _ _ _ _) rfl rfl rfl rfl rfl rfl rfl rfl rfl rfl ?_ | done
        simp (maxSteps := 400000) -dsimp -implicitDefEqProofs (disch := first | exact TrueB.mk rfl | omega) only [go_sem]
        exact rfl
  rcases Classical.em (e = 10) with e10 | e10
  · subst e10
    cases s1 with
    | false =>
      simp (maxSteps := 400000) -dsimp -implicitDefEqProofs (disch := first | exact TrueB.mk rfl | omega) only [go_sem, Tryd.ntmps45]
      exact rfl
    | true =>
      by_cases ho : a0 = 9
      · rw [decide_eq_true ho] at *
        simp (maxSteps := 400000) -dsimp -implicitDefEqProofs (disch := first | exact TrueB.mk rfl | omega) only [go_sem, Tryd.ntmps45]
        first | refine wpAct_callS [0] (oo _ _ _ _ _ _ _ _ _) rfl rfl rfl rfl rfl rfl rfl rfl rfl rfl ?_ | done
        simp (maxSteps := 400000) -dsimp -implicitDefEqProofs (disch := first | exact TrueB.mk rfl | omega) only [go_sem]
        exact rfl
      · rw [decide_eq_false ho] at *
        simp (maxSteps := 400000) -dsimp -implicitDefEqProofs (disch := first | exact TrueB.mk rfl | omega) only [go_sem, Tryd.ntmps45]
        first | refine wpAct_callS [0] (oo _ _ _ _ _ _ _ _ _) rfl rfl rfl rfl rfl rfl rfl rfl rfl rfl ?_ | done
        simp (maxSteps := 400000) -dsimp -implicitDefEqProofs (disch := first | exact TrueB.mk rfl | omega) only [go_sem]
        exact rfl
  have hm : mayP 1 (decide (a0 = 9)) s1 e = (decide (1 = 0) || decide (e < 7) || decide (a0 = 9)) := by simp [mayP, e1, e2, e16, e9, e10]
  rw [hm]
  rcases Classical.em (e < 7) with e7 | e7
  · rw [decide_eq_true e7]
    simp (maxSteps := 400000) -dsimp -implicitDefEqProofs (disch := first | exact TrueB.mk rfl | omega) only [go_sem, Tryd.ntmps45, e1, e2, e16, e9, e10, e7]
    exact rfl
  · rw [decide_eq_false e7]
    by_cases ho : a0 = 9
    · rw [decide_eq_true ho] at *
      simp (maxSteps := 400000) -dsimp -implicitDefEqProofs (disch := first | exact TrueB.mk rfl | omega) only [go_sem, Tryd.ntmps45, e1, e2, e16, e9, e10, e7]
      first | refine wpAct_callS [0] (oo _ _ _ _ _ _ _ _ _) rfl rfl rfl rfl rfl rfl rfl rfl rfl rfl ?_ | done
      simp (maxSteps := 400000) -dsimp -implicitDefEqProofs (disch := first | exact TrueB.mk rfl | omega) only [go_sem, e1, e2, e16, e9, e10, e7]
      exact rfl
    · rw [decide_eq_false ho] at *
      simp (maxSteps := 400000) -dsimp -implicitDefEqProofs (disch := first | exact TrueB.mk rfl | omega) only [go_sem, Tryd.ntmps45, e1, e2, e16, e9, e10, e7]
      first | refine wpAct_callS [0] (oo _ _ _ _ _ _ _ _ _) rfl rfl rfl rfl rfl rfl rfl rfl rfl rfl ?_ | done
      simp (maxSteps := 400000) -dsimp -implicitDefEqProofs (disch := first | exact TrueB.mk rfl | omega) only [go_sem, e1, e2, e16, e9, e10, e7]
      exact rfl

set_option maxHeartbeats 16000000 in
theorem may_2 (a0 r0 a1 r1 a2 r2 : Int) (s0 s1 s2 : Bool) (e : Int) (f0 f1 f2 f3 f4 f5 g0 g1 g2 : Bool) (m m' : Bool) :
    Runs Tryd.prog env 45 [.ptr 0 0, .pure m (.int .i64 2), .pure m' (.int .i64 e)] [(0, .box [.pure f0 (.int .i64 a0), .pure f1 (.int .i64 r0), .pure f2 (.int .i64 a1), .pure f3 (.int .i64 r1), .pure f4 (.int .i64 a2), .pure f5 (.int .i64 r2), .pure g0 (.bool s0), .pure g1 (.bool s1), .pure g2 (.bool s2)])] (.pure true (.bool (mayP 2 (decide (a0 = 9)) s2 e))) [(0, .box [.pure f0 (.int .i64 a0), .pure f1 (.int .i64 r0), .pure f2 (.int .i64 a1), .pure f3 (.int .i64 r1), .pure f4 (.int .i64 a2), .pure f5 (.int .i64 r2), .pure g0 (.bool s0), .pure g1 (.bool s1), .pure g2 (.bool s2)])] := by
  have oo := open_any a0 r0 a1 r1 a2 r2 s0 s1 s2
  refine Runs.of Tryd.func45 rfl (by simp [Tryd.ntmps45]) ?_
  rcases Classical.em (e = 1) with e1 | e1
  · subst e1
    simp (maxSteps := 400000) -dsimp -implicitDefEqProofs (disch := first | exact TrueB.mk rfl | omega) only [go_sem, Tryd.ntmps45]
    exact rfl
  rcases Classical.em (e = 2) with e2 | e2
  · subst e2
    simp (maxSteps := 400000) -dsimp -implicitDefEqProofs (disch := first | exact TrueB.mk rfl | omega) only [go_sem, Tryd.ntmps45]
    exact rfl
  rcases Classical.em (e = 16) with e16 | e16
  · subst e16
    simp (maxSteps := 400000) -dsimp -implicitDefEqProofs (disch := first | exact TrueB.mk rfl | omega) only [go_sem, Tryd.ntmps45]
    exact rfl
  rcases Classical.em (e = 9) with e9 | e9
  · subst e9
    cases s2 with
    | false =>
      simp (maxSteps := 400000) -dsimp -implicitDefEqProofs (disch := first | exact TrueB.mk rfl | omega) only [go_sem, Tryd.ntmps45]
      exact rfl
    | true =>
      by_cases ho : a0 = 9
      · rw [decide_eq_true ho] at *
        simp (maxSteps := 400000) -dsimp -implicitDefEqProofs (disch := first | exact TrueB.mk rfl | omega) only [go_sem, Tryd.ntmps45]
        first | refine wpAct_callS [0] (oo _ _ _ _ _ _ _ _ _) rfl rfl rfl rfl rfl rfl rfl rfl rfl rfl ?_ | done
        simp (maxSteps := 400000) -dsimp -implicitDefEqProofs (disch := first | exact TrueB.mk rfl | omega) only [go_sem]
        exact rfl
      · rw [decide_eq_false ho] at *
        simp (maxSteps := 400000) -dsimp -implicitDefEqProofs (disch := first | exact TrueB.mk rfl | omega) only [go_sem, Tryd.ntmps45]
        first | refine wpAct_callS [0] (oo _ _ _ _ _ _ _ _ _) rfl rfl rfl rfl rfl rfl rfl rfl rfl rfl ?_ | done
        simp (maxSteps := 400000) -dsimp -implicitDefEqProofs (disch := first | exact TrueB.mk rfl | omega) only [go_sem]
        exact rfl
  rcases Classical.em (e = 10) with e10 | e10
  · subst e10
    cases s2 with
    | false =>
      simp (maxSteps := 400000) -dsimp -implicitDefEqProofs (disch := first | exact TrueB.mk rfl | omega) only [go_sem, Tryd.ntmps45]
      exact rfl
    | true =>
      by_cases ho : a0 = 9
      · rw [decide_eq_true ho] at *
        simp (maxSteps := 400000) -dsimp -implicitDefEqProofs (disch := first | exact TrueB.mk rfl | omega) only [go_sem, Tryd.ntmps45]
        first | refine wpAct_callS [0] (oo _ _ _ _ _ _ _ _ _) rfl rfl rfl rfl rfl rfl rfl rfl rfl rfl ?_ | done
        simp (maxSteps := 400000) -dsimp -implicitDefEqProofs (disch := first | exact TrueB.mk rfl | omega) only [go_sem]
        exact rfl
      · rw [decide_eq_false ho] at *
        simp (maxSteps := 400000) -dsimp -implicitDefEqProofs (disch := first | exact TrueB.mk rfl | omega) only [go_sem, Tryd.ntmps45]
        first | refine wpAct_callS [0] (oo _ _ _ _ _ _ _ _ _) rfl rfl rfl rfl rfl rfl rfl rfl rfl rfl ?_ | done
        simp (maxSteps := 400000) -dsimp -implicitDefEqProofs (disch := first | exact TrueB.mk rfl | omega) only [go_sem]
        exact rfl
  have hm : mayP 2 (decide (a0 = 9)) s2 e = (decide (2 = 0) || decide (e < 7) || decide (a0 = 9)) := by simp [mayP, e1, e2, e16, e9, e10]
  rw [hm]
  rcases Classical.em (e < 7) with e7 | e7
  · rw [decide_eq_true e7]
    simp (maxSteps := 400000) -dsimp -implicitDefEqProofs (disch := first | exact TrueB.mk rfl | omega) only [go_sem, Tryd.ntmps45, e1, e2, e16, e9, e10, e7]
    exact rfl
  · rw [decide_eq_false e7]
    by_cases ho : a0 = 9
    · rw [decide_eq_true ho] at *
      simp (maxSteps := 400000) -dsimp -implicitDefEqProofs (disch := first | exact TrueB.mk rfl | omega) only [go_sem, Tryd.ntmps45, e1, e2, e16, e9, e10, e7]
      first | refine wpAct_callS [0] (oo _ _ _ _ _ _ _ _ _) rfl rfl rfl rfl rfl rfl rfl rfl rfl rfl ?_ | done
      simp (maxSteps := 400000) -dsimp -implicitDefEqProofs (disch := first | exact TrueB.mk rfl | omega) only [go_sem, e1, e2, e16, e9, e10, e7]
      exact rfl
    · rw [decide_eq_false ho] at *
      simp (maxSteps := 400000) -dsimp -implicitDefEqProofs (disch := first | exact TrueB.mk rfl | omega) only [go_sem, Tryd.ntmps45, e1, e2, e16, e9, e10, e7]
      first | refine wpAct_callS [0] (oo _ _ _ _ _ _ _ _ _) rfl rfl rfl rfl rfl rfl rfl rfl rfl rfl ?_ | done
      simp (maxSteps := 400000) -dsimp -implicitDefEqProofs (disch := first | exact TrueB.mk rfl | omega) only [go_sem, e1, e2, e16, e9, e10, e7]
      exact rfl

/-- A bench: each link's state, count, whether it sent. -/
abbrev L3 := Int × Int × Bool
abbrev Bn := L3 × L3 × L3
def okL (x : L3) : Prop := 0 ≤ x.2.1 ∧ x.2.1 ≤ 255
def okB (b : Bn) : Prop := okL b.1 ∧ okL b.2.1 ∧ okL b.2.2
/-- How it stands in memory. -/
def boxW (w0 w1 w2 v0 v1 v2 : Bool) (b : Bn) : Ob := .box [.pure w0 (.int .i64 b.1.1), .pure w0 (.int .i64 b.1.2.1), .pure w1 (.int .i64 b.2.1.1), .pure w1 (.int .i64 b.2.1.2.1), .pure w2 (.int .i64 b.2.2.1), .pure w2 (.int .i64 b.2.2.2.1), .pure v0 (.bool b.1.2.2), .pure v1 (.bool b.2.1.2.2), .pure v2 (.bool b.2.2.2.2)]
def wof : Bool → Bool → Bool
  | true, _ => false
  | false, w => w
def vof : Bool → Bool → Bool
  | true, _ => true
  | false, v => v
theorem vof_true {t : Bool} : vof t true = true := by cases t <;> rfl
def hapL (cf tm : Int) (x : L3) (e : Int) : Option L3 := match stepOut x.1 e x.2.1 with
  | none => none
  | some (n, l) => some ((n : Nat), restA cf tm l x.2.1, x.2.2 || hasN l 7)
def openL (x : L3) : Bool := decide (x.1 = 9)
/-- What a step comes to: the bench, its cells (and which cell of the bench was written last). -/
def follL (cf tm : Int) (x' y z : L3) (c : C3) (v : Int) : Bn × List C3 × Bool × Bool × Bool := match hapL cf tm y v, hapL cf tm z v with
  | none, none => ((x', y, z), [c], true, false, false)
  | some y', none => ((x', y', z), [c, (32801, y.1, v)], true, true, false)
  | none, some z' => ((x', y, z'), [c, (32855, z.1, v)], true, false, true)
  | some y', some z' => ((x', y', z'), [c, (32801, y.1, v), (32855, z.1, v)], true, true, true)
def stepL (cf tm : Int) (b : Bn) (p e : Int) : Option (Bn × List C3 × Bool × Bool × Bool) :=
  if p = 49185 then (if mayP 0 (openL b.1) b.1.2.2 e then match hapL cf tm b.1 e with
    | none => none
    | some x' => if openL b.1 = openL x' then some ((x', b.2.1, b.2.2), [(49185, b.1.1, e)], true, false, false) else some (follL cf tm x' b.2.1 b.2.2 (49185, b.1.1, e) (if openL x' then 1 else 2)) else none)
  else if p = 32801 then (if mayP 1 (openL b.1) b.2.1.2.2 e then match hapL cf tm b.2.1 e with
    | none => none
    | some y' => some ((b.1, y', b.2.2), [(32801, b.2.1.1, e)], false, true, false) else none)
  else if p = 32855 then (if mayP 2 (openL b.1) b.2.2.2.2 e then match hapL cf tm b.2.2 e with
    | none => none
    | some z' => some ((b.1, b.2.1, z'), [(32855, b.2.2.1, e)], false, false, true) else none)
  else none
def shortB : Bool := rowsT.all fun r => r.all fun o => match o with
  | none => true
  | some p => decide (p.2.length ≤ 100)
theorem short_ok : shortB = true := by kernel_rfl
theorem cell_short {s e : Int} {n : Nat} {l : List Nat} (h : cellI s e = some (n, l)) : l.length ≤ 100 := by
  unfold cellI at h
  split at h
  · unfold cellT at h
    have h2 : ∃ r ∈ rowsT, some (n, l) ∈ r := by
      cases h3 : rowsT[s.toNat]? with
      | none => rw [h3] at h; simp at h
      | some r =>
        rw [h3] at h
        simp only [Option.getD_some] at h
        refine ⟨r, List.mem_of_getElem? h3, ?_⟩
        cases h4 : r[e.toNat]? with
        | none => rw [h4] at h; simp at h
        | some o =>
          rw [h4] at h
          simp only [Option.getD_some] at h
          subst h
          exact List.mem_of_getElem? h4
    obtain ⟨r, hr, hm⟩ := h2
    have := List.all_eq_true.1 (List.all_eq_true.1 short_ok r hr) _ hm
    simpa using this
  · cases h
theorem step_short {s e r : Int} {n : Nat} {l : List Nat} (h : stepOut s e r = some (n, l)) : l.length ≤ 100 := by
  unfold stepOut at h
  split at h
  · cases h
  · rename_i p hp
    split at h
    · cases h
    · cases h
      exact cell_short hp
theorem hapL_no {cf tm : Int} {x : L3} {e : Int} (h : hapL cf tm x e = none) : stepOut x.1 e x.2.1 = none := by
  unfold hapL at h
  split at h
  · assumption
  · cases h
theorem hapL_yes {cf tm : Int} {x x' : L3} {e : Int} (h : hapL cf tm x e = some x') : ∃ n l, stepOut x.1 e x.2.1 = some (n, l) ∧ l.length ≤ 100 ∧ x' = (((n : Nat) : Int), restA cf tm l x.2.1, x.2.2 || hasN l 7) := by
  unfold hapL at h
  split at h
  · cases h
  · rename_i n l h2
    cases h
    exact ⟨n, l, h2, step_short h2, rfl⟩
theorem hapL_ok {cf tm : Int} (h1 : 1 ≤ cf ∧ cf ≤ 255) (h2 : 1 ≤ tm ∧ tm ≤ 255) {x x' : L3} {e : Int} (hx : okL x) (h : hapL cf tm x e = some x') : okL x' := by
  obtain ⟨n, l, _, _, rfl⟩ := hapL_yes h
  exact restA_in h1 h2 hx

theorem hapN_0 {w0 w1 w2 v0 v1 v2 : Bool} {cf tm : Int} {x y z : L3} {e : Int} (hx : okL x) (h : hapL cf tm x e = none) (mc mi me : Bool) :
    Runs Tryd.prog env 47 [.ptr 0 0, .pure mc (confV cf tm 1), .pure mi (.int .i64 0), .pure me (.int .i64 e)] [(0, boxW w0 w1 w2 v0 v1 v2 (x, y, z))] (.tuple [.pure true (.agg [.int .i64 0, .int .i64 0, .int .i64 0]), .pure true (.bool false)]) [(0, boxW w0 w1 w2 v0 v1 v2 (x, y, z))] :=
  happen_no_0 x.1 x.2.1 y.1 y.2.1 z.1 z.2.1 e cf tm x.2.2 y.2.2 z.2.2 hx.1 (hapL_no h) w0 w0 w1 w1 w2 w2 v0 v1 v2 mc mi me
theorem hapY_0 {w0 w1 w2 v0 v1 v2 : Bool} {cf tm : Int} (h1 : 1 ≤ cf ∧ cf ≤ 255) (h2 : 1 ≤ tm ∧ tm ≤ 255) {x y z x' : L3} {e : Int} (hx : okL x) (h : hapL cf tm x e = some x') (mc mi me : Bool) :
    Runs Tryd.prog env 47 [.ptr 0 0, .pure mc (confV cf tm 1), .pure mi (.int .i64 0), .pure me (.int .i64 e)] [(0, boxW w0 w1 w2 v0 v1 v2 (x, y, z))] (.tuple [.pure (w0 && me) (.agg [.int .i64 49185, .int .i64 x.1, .int .i64 e]), .pure true (.bool true)]) [(0, boxW false w1 w2 true v1 v2 (x', y, z))] := by
  obtain ⟨n, l, h3, h4, rfl⟩ := hapL_yes h
  exact happen_yes_0 x.1 x.2.1 y.1 y.2.1 z.1 z.2.1 e cf tm x.2.2 y.2.2 z.2.2 h1 h2 hx h3 h4 w0 w0 w1 w1 w2 w2 v0 v1 v2 mc mi me
theorem mayL_0 {w0 w1 w2 v0 v1 v2 : Bool} (x y z : L3) (e : Int) (m m' : Bool) :
    Runs Tryd.prog env 45 [.ptr 0 0, .pure m (.int .i64 0), .pure m' (.int .i64 e)] [(0, boxW w0 w1 w2 v0 v1 v2 (x, y, z))] (.pure true (.bool (mayP 0 (openL x) x.2.2 e))) [(0, boxW w0 w1 w2 v0 v1 v2 (x, y, z))] :=
  may_0 x.1 x.2.1 y.1 y.2.1 z.1 z.2.1 x.2.2 y.2.2 z.2.2 e w0 w0 w1 w1 w2 w2 v0 v1 v2 m m'

theorem hapN_1 {w0 w1 w2 v0 v1 v2 : Bool} {cf tm : Int} {x y z : L3} {e : Int} (hx : okL y) (h : hapL cf tm y e = none) (mc mi me : Bool) :
    Runs Tryd.prog env 47 [.ptr 0 0, .pure mc (confV cf tm 1), .pure mi (.int .i64 1), .pure me (.int .i64 e)] [(0, boxW w0 w1 w2 v0 v1 v2 (x, y, z))] (.tuple [.pure true (.agg [.int .i64 0, .int .i64 0, .int .i64 0]), .pure true (.bool false)]) [(0, boxW w0 w1 w2 v0 v1 v2 (x, y, z))] :=
  happen_no_1 x.1 x.2.1 y.1 y.2.1 z.1 z.2.1 e cf tm x.2.2 y.2.2 z.2.2 hx.1 (hapL_no h) w0 w0 w1 w1 w2 w2 v0 v1 v2 mc mi me
theorem hapY_1 {w0 w1 w2 v0 v1 v2 : Bool} {cf tm : Int} (h1 : 1 ≤ cf ∧ cf ≤ 255) (h2 : 1 ≤ tm ∧ tm ≤ 255) {x y z y' : L3} {e : Int} (hx : okL y) (h : hapL cf tm y e = some y') (mc mi me : Bool) :
    Runs Tryd.prog env 47 [.ptr 0 0, .pure mc (confV cf tm 1), .pure mi (.int .i64 1), .pure me (.int .i64 e)] [(0, boxW w0 w1 w2 v0 v1 v2 (x, y, z))] (.tuple [.pure (w1 && me) (.agg [.int .i64 32801, .int .i64 y.1, .int .i64 e]), .pure true (.bool true)]) [(0, boxW w0 false w2 v0 true v2 (x, y', z))] := by
  obtain ⟨n, l, h3, h4, rfl⟩ := hapL_yes h
  exact happen_yes_1 x.1 x.2.1 y.1 y.2.1 z.1 z.2.1 e cf tm x.2.2 y.2.2 z.2.2 h1 h2 hx h3 h4 w0 w0 w1 w1 w2 w2 v0 v1 v2 mc mi me
theorem mayL_1 {w0 w1 w2 v0 v1 v2 : Bool} (x y z : L3) (e : Int) (m m' : Bool) :
    Runs Tryd.prog env 45 [.ptr 0 0, .pure m (.int .i64 1), .pure m' (.int .i64 e)] [(0, boxW w0 w1 w2 v0 v1 v2 (x, y, z))] (.pure true (.bool (mayP 1 (openL x) y.2.2 e))) [(0, boxW w0 w1 w2 v0 v1 v2 (x, y, z))] :=
  may_1 x.1 x.2.1 y.1 y.2.1 z.1 z.2.1 x.2.2 y.2.2 z.2.2 e w0 w0 w1 w1 w2 w2 v0 v1 v2 m m'

theorem hapN_2 {w0 w1 w2 v0 v1 v2 : Bool} {cf tm : Int} {x y z : L3} {e : Int} (hx : okL z) (h : hapL cf tm z e = none) (mc mi me : Bool) :
    Runs Tryd.prog env 47 [.ptr 0 0, .pure mc (confV cf tm 1), .pure mi (.int .i64 2), .pure me (.int .i64 e)] [(0, boxW w0 w1 w2 v0 v1 v2 (x, y, z))] (.tuple [.pure true (.agg [.int .i64 0, .int .i64 0, .int .i64 0]), .pure true (.bool false)]) [(0, boxW w0 w1 w2 v0 v1 v2 (x, y, z))] :=
  happen_no_2 x.1 x.2.1 y.1 y.2.1 z.1 z.2.1 e cf tm x.2.2 y.2.2 z.2.2 hx.1 (hapL_no h) w0 w0 w1 w1 w2 w2 v0 v1 v2 mc mi me
theorem hapY_2 {w0 w1 w2 v0 v1 v2 : Bool} {cf tm : Int} (h1 : 1 ≤ cf ∧ cf ≤ 255) (h2 : 1 ≤ tm ∧ tm ≤ 255) {x y z z' : L3} {e : Int} (hx : okL z) (h : hapL cf tm z e = some z') (mc mi me : Bool) :
    Runs Tryd.prog env 47 [.ptr 0 0, .pure mc (confV cf tm 1), .pure mi (.int .i64 2), .pure me (.int .i64 e)] [(0, boxW w0 w1 w2 v0 v1 v2 (x, y, z))] (.tuple [.pure (w2 && me) (.agg [.int .i64 32855, .int .i64 z.1, .int .i64 e]), .pure true (.bool true)]) [(0, boxW w0 w1 false v0 v1 true (x, y, z'))] := by
  obtain ⟨n, l, h3, h4, rfl⟩ := hapL_yes h
  exact happen_yes_2 x.1 x.2.1 y.1 y.2.1 z.1 z.2.1 e cf tm x.2.2 y.2.2 z.2.2 h1 h2 hx h3 h4 w0 w0 w1 w1 w2 w2 v0 v1 v2 mc mi me
theorem mayL_2 {w0 w1 w2 v0 v1 v2 : Bool} (x y z : L3) (e : Int) (m m' : Bool) :
    Runs Tryd.prog env 45 [.ptr 0 0, .pure m (.int .i64 2), .pure m' (.int .i64 e)] [(0, boxW w0 w1 w2 v0 v1 v2 (x, y, z))] (.pure true (.bool (mayP 2 (openL x) z.2.2 e))) [(0, boxW w0 w1 w2 v0 v1 v2 (x, y, z))] :=
  may_2 x.1 x.2.1 y.1 y.2.1 z.1 z.2.1 x.2.2 y.2.2 z.2.2 e w0 w0 w1 w1 w2 w2 v0 v1 v2 m m'

theorem openL_any {w0 w1 w2 v0 v1 v2 : Bool} (x y z : L3) : Runs Tryd.prog env 46 [.ptr 0 0] [(0, boxW w0 w1 w2 v0 v1 v2 (x, y, z))] (.pure true (.bool (openL x))) [(0, boxW w0 w1 w2 v0 v1 v2 (x, y, z))] :=
  open_any x.1 x.2.1 y.1 y.2.1 z.1 z.2.1 x.2.2 y.2.2 z.2.2 w0 w0 w1 w1 w2 w2 v0 v1 v2
theorem sc3 {a b c : Int} : PV.scalar.go [.int .i64 a, .int .i64 b, .int .i64 c] = true := rfl

set_option maxHeartbeats 64000000 in
theorem step_no {w0 w1 w2 v : Bool} {cf tm : Int} {x y z : L3} (hb : okB (x, y, z)) {p e : Int} (h : stepL cf tm (x, y, z) p e = none) (mc mx : Bool) :
    Runs Tryd.prog env 33 [.ptr 0 0, .pure mc (confV cf tm 1), .pure mx (.agg [.int .i64 p, .int .i64 e])] [(0, boxW w0 w1 w2 v v v (x, y, z))] (.tuple [.row 1 0, .pure true (.bool false)]) [(0, boxW w0 w1 w2 v v v (x, y, z)), (1, .row true 0 0 [])] := by
  obtain ⟨hx, hy, hz⟩ := hb
  simp only at hx hy hz
  have oo := openL_any (w0 := w0) (w1 := w1) (w2 := w2) (v0 := v) (v1 := v) (v2 := v) x y z
  unfold stepL at h
  simp only at h
  rcases Classical.em (p = 49185) with p0 | p0
  · rw [if_pos p0] at h
    subst p0
    have mm := mayL_0 (w0 := w0) (w1 := w1) (w2 := w2) (v0 := v) (v1 := v) (v2 := v) x y z e
    have ip := index_p0
    cases hm : mayP 0 (openL x) x.2.2 e with
    | false =>
      rw [hm] at mm
      unfold confV at *
      unfold boxW at *
      refine Runs.of Tryd.func33 rfl (by simp [Tryd.ntmps33]) ?_
      simp (maxSteps := 400000) -dsimp -implicitDefEqProofs (disch := first | exact TrueB.mk rfl | omega) only [go_sem, Tryd.ntmps33]
      first | refine wpAct_call0 (protos_any) rfl rfl rfl rfl rfl rfl rfl rfl ?_ | done
      simp (maxSteps := 400000) -dsimp -implicitDefEqProofs (disch := first | exact TrueB.mk rfl | omega) only [go_sem]
      first | refine wpAct_callF (ip _ _) rfl rfl rfl rfl rfl rfl rfl rfl rfl ?_ | done
      simp (maxSteps := 400000) -dsimp -implicitDefEqProofs (disch := first | exact TrueB.mk rfl | omega) only [go_sem]
      refine wpAct_callS [0] (mm _ _) rfl rfl rfl rfl rfl rfl rfl rfl (by cases w0 <;> cases w1 <;> cases w2 <;> cases v <;> rfl) rfl ?_
      simp (maxSteps := 400000) -dsimp -implicitDefEqProofs (disch := first | exact TrueB.mk rfl | omega) only [go_sem]
      first | exact rfl | done
    | true =>
      rw [hm] at mm h
      rw [if_pos rfl] at h
      cases hh : hapL cf tm x e with
      | some w => rw [hh] at h; simp only at h; split at h <;> simp at h
      | none =>
        have hn := fun mc mi me => hapN_0 (w0 := w0) (w1 := w1) (w2 := w2) (v0 := v) (v1 := v) (v2 := v) (x := x) (y := y) (z := z) hx hh mc mi me
        unfold confV at *
        unfold boxW at *
        refine Runs.of Tryd.func33 rfl (by simp [Tryd.ntmps33]) ?_
        simp (maxSteps := 400000) -dsimp -implicitDefEqProofs (disch := first | exact TrueB.mk rfl | omega) only [go_sem, Tryd.ntmps33]
        first | refine wpAct_call0 (protos_any) rfl rfl rfl rfl rfl rfl rfl rfl ?_ | done
        simp (maxSteps := 400000) -dsimp -implicitDefEqProofs (disch := first | exact TrueB.mk rfl | omega) only [go_sem]
        first | refine wpAct_callF (ip _ _) rfl rfl rfl rfl rfl rfl rfl rfl rfl ?_ | done
        simp (maxSteps := 400000) -dsimp -implicitDefEqProofs (disch := first | exact TrueB.mk rfl | omega) only [go_sem]
        refine wpAct_callS [0] (mm _ _) rfl rfl rfl rfl rfl rfl rfl rfl (by cases w0 <;> cases w1 <;> cases w2 <;> cases v <;> rfl) rfl ?_
        simp (maxSteps := 400000) -dsimp -implicitDefEqProofs (disch := first | exact TrueB.mk rfl | omega) only [go_sem]
        refine wpAct_callS [0] (oo) rfl rfl rfl rfl rfl rfl rfl rfl (by cases w0 <;> cases w1 <;> cases w2 <;> cases v <;> rfl) rfl ?_
        simp (maxSteps := 400000) -dsimp -implicitDefEqProofs (disch := first | exact TrueB.mk rfl | omega) only [go_sem]
        refine wpAct_callS [0] (hn _ _ _) rfl rfl rfl rfl rfl rfl rfl rfl (by cases w0 <;> cases w1 <;> cases w2 <;> cases v <;> rfl) rfl ?_
        simp (maxSteps := 400000) -dsimp -implicitDefEqProofs (disch := first | exact TrueB.mk rfl | omega) only [go_sem]
        first | exact rfl | done
  rw [if_neg p0] at h
  rcases Classical.em (p = 32801) with p1 | p1
  · rw [if_pos p1] at h
    subst p1
    have mm := mayL_1 (w0 := w0) (w1 := w1) (w2 := w2) (v0 := v) (v1 := v) (v2 := v) x y z e
    have ip := index_p1
    cases hm : mayP 1 (openL x) y.2.2 e with
    | false =>
      rw [hm] at mm
      unfold confV at *
      unfold boxW at *
      refine Runs.of Tryd.func33 rfl (by simp [Tryd.ntmps33]) ?_
      simp (maxSteps := 400000) -dsimp -implicitDefEqProofs (disch := first | exact TrueB.mk rfl | omega) only [go_sem, Tryd.ntmps33]
      first | refine wpAct_call0 (protos_any) rfl rfl rfl rfl rfl rfl rfl rfl ?_ | done
      simp (maxSteps := 400000) -dsimp -implicitDefEqProofs (disch := first | exact TrueB.mk rfl | omega) only [go_sem]
      first | refine wpAct_callF (ip _ _) rfl rfl rfl rfl rfl rfl rfl rfl rfl ?_ | done
      simp (maxSteps := 400000) -dsimp -implicitDefEqProofs (disch := first | exact TrueB.mk rfl | omega) only [go_sem]
      refine wpAct_callS [0] (mm _ _) rfl rfl rfl rfl rfl rfl rfl rfl (by cases w0 <;> cases w1 <;> cases w2 <;> cases v <;> rfl) rfl ?_
      simp (maxSteps := 400000) -dsimp -implicitDefEqProofs (disch := first | exact TrueB.mk rfl | omega) only [go_sem]
      first | exact rfl | done
    | true =>
      rw [hm] at mm h
      rw [if_pos rfl] at h
      cases hh : hapL cf tm y e with
      | some w => rw [hh] at h; simp only at h; cases h
      | none =>
        have hn := fun mc mi me => hapN_1 (w0 := w0) (w1 := w1) (w2 := w2) (v0 := v) (v1 := v) (v2 := v) (x := x) (y := y) (z := z) hy hh mc mi me
        unfold confV at *
        unfold boxW at *
        refine Runs.of Tryd.func33 rfl (by simp [Tryd.ntmps33]) ?_
        simp (maxSteps := 400000) -dsimp -implicitDefEqProofs (disch := first | exact TrueB.mk rfl | omega) only [go_sem, Tryd.ntmps33]
        first | refine wpAct_call0 (protos_any) rfl rfl rfl rfl rfl rfl rfl rfl ?_ | done
        simp (maxSteps := 400000) -dsimp -implicitDefEqProofs (disch := first | exact TrueB.mk rfl | omega) only [go_sem]
        first | refine wpAct_callF (ip _ _) rfl rfl rfl rfl rfl rfl rfl rfl rfl ?_ | done
        simp (maxSteps := 400000) -dsimp -implicitDefEqProofs (disch := first | exact TrueB.mk rfl | omega) only [go_sem]
        refine wpAct_callS [0] (mm _ _) rfl rfl rfl rfl rfl rfl rfl rfl (by cases w0 <;> cases w1 <;> cases w2 <;> cases v <;> rfl) rfl ?_
        simp (maxSteps := 400000) -dsimp -implicitDefEqProofs (disch := first | exact TrueB.mk rfl | omega) only [go_sem]
        refine wpAct_callS [0] (oo) rfl rfl rfl rfl rfl rfl rfl rfl (by cases w0 <;> cases w1 <;> cases w2 <;> cases v <;> rfl) rfl ?_
        simp (maxSteps := 400000) -dsimp -implicitDefEqProofs (disch := first | exact TrueB.mk rfl | omega) only [go_sem]
        refine wpAct_callS [0] (hn _ _ _) rfl rfl rfl rfl rfl rfl rfl rfl (by cases w0 <;> cases w1 <;> cases w2 <;> cases v <;> rfl) rfl ?_
        simp (maxSteps := 400000) -dsimp -implicitDefEqProofs (disch := first | exact TrueB.mk rfl | omega) only [go_sem]
        first | exact rfl | done
  rw [if_neg p1] at h
  rcases Classical.em (p = 32855) with p2 | p2
  · rw [if_pos p2] at h
    subst p2
    have mm := mayL_2 (w0 := w0) (w1 := w1) (w2 := w2) (v0 := v) (v1 := v) (v2 := v) x y z e
    have ip := index_p2
    cases hm : mayP 2 (openL x) z.2.2 e with
    | false =>
      rw [hm] at mm
      unfold confV at *
      unfold boxW at *
      refine Runs.of Tryd.func33 rfl (by simp [Tryd.ntmps33]) ?_
      simp (maxSteps := 400000) -dsimp -implicitDefEqProofs (disch := first | exact TrueB.mk rfl | omega) only [go_sem, Tryd.ntmps33]
      first | refine wpAct_call0 (protos_any) rfl rfl rfl rfl rfl rfl rfl rfl ?_ | done
      simp (maxSteps := 400000) -dsimp -implicitDefEqProofs (disch := first | exact TrueB.mk rfl | omega) only [go_sem]
      first | refine wpAct_callF (ip _ _) rfl rfl rfl rfl rfl rfl rfl rfl rfl ?_ | done
      simp (maxSteps := 400000) -dsimp -implicitDefEqProofs (disch := first | exact TrueB.mk rfl | omega) only [go_sem]
      refine wpAct_callS [0] (mm _ _) rfl rfl rfl rfl rfl rfl rfl rfl (by cases w0 <;> cases w1 <;> cases w2 <;> cases v <;> rfl) rfl ?_
      simp (maxSteps := 400000) -dsimp -implicitDefEqProofs (disch := first | exact TrueB.mk rfl | omega) only [go_sem]
      first | exact rfl | done
    | true =>
      rw [hm] at mm h
      rw [if_pos rfl] at h
      cases hh : hapL cf tm z e with
      | some w => rw [hh] at h; simp only at h; cases h
      | none =>
        have hn := fun mc mi me => hapN_2 (w0 := w0) (w1 := w1) (w2 := w2) (v0 := v) (v1 := v) (v2 := v) (x := x) (y := y) (z := z) hz hh mc mi me
        unfold confV at *
        unfold boxW at *
        refine Runs.of Tryd.func33 rfl (by simp [Tryd.ntmps33]) ?_
        simp (maxSteps := 400000) -dsimp -implicitDefEqProofs (disch := first | exact TrueB.mk rfl | omega) only [go_sem, Tryd.ntmps33]
        first | refine wpAct_call0 (protos_any) rfl rfl rfl rfl rfl rfl rfl rfl ?_ | done
        simp (maxSteps := 400000) -dsimp -implicitDefEqProofs (disch := first | exact TrueB.mk rfl | omega) only [go_sem]
        first | refine wpAct_callF (ip _ _) rfl rfl rfl rfl rfl rfl rfl rfl rfl ?_ | done
        simp (maxSteps := 400000) -dsimp -implicitDefEqProofs (disch := first | exact TrueB.mk rfl | omega) only [go_sem]
        refine wpAct_callS [0] (mm _ _) rfl rfl rfl rfl rfl rfl rfl rfl (by cases w0 <;> cases w1 <;> cases w2 <;> cases v <;> rfl) rfl ?_
        simp (maxSteps := 400000) -dsimp -implicitDefEqProofs (disch := first | exact TrueB.mk rfl | omega) only [go_sem]
        refine wpAct_callS [0] (oo) rfl rfl rfl rfl rfl rfl rfl rfl (by cases w0 <;> cases w1 <;> cases w2 <;> cases v <;> rfl) rfl ?_
        simp (maxSteps := 400000) -dsimp -implicitDefEqProofs (disch := first | exact TrueB.mk rfl | omega) only [go_sem]
        refine wpAct_callS [0] (hn _ _ _) rfl rfl rfl rfl rfl rfl rfl rfl (by cases w0 <;> cases w1 <;> cases w2 <;> cases v <;> rfl) rfl ?_
        simp (maxSteps := 400000) -dsimp -implicitDefEqProofs (disch := first | exact TrueB.mk rfl | omega) only [go_sem]
        first | exact rfl | done
  have ip := index_p p ⟨p0, p1, p2⟩
  unfold confV at *
  unfold boxW at *
  refine Runs.of Tryd.func33 rfl (by simp [Tryd.ntmps33]) ?_
  simp (maxSteps := 400000) -dsimp -implicitDefEqProofs (disch := first | exact TrueB.mk rfl | omega) only [go_sem, Tryd.ntmps33]
  first | refine wpAct_call0 (protos_any) rfl rfl rfl rfl rfl rfl rfl rfl ?_ | done
  simp (maxSteps := 400000) -dsimp -implicitDefEqProofs (disch := first | exact TrueB.mk rfl | omega) only [go_sem]
  first | refine wpAct_callF (ip _ _) rfl rfl rfl rfl rfl rfl rfl rfl rfl ?_ | done
  simp (maxSteps := 400000) -dsimp -implicitDefEqProofs (disch := first | exact TrueB.mk rfl | omega) only [go_sem]
  first | exact rfl | done

end Go.Proofs.YticdhmcbooabaaaDoor
