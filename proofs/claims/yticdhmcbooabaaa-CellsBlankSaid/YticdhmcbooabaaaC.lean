/- YticdhmcbooabaaaC: CellsBlank over the evaluator. No claim. -/
import Derived.Test.YticdhmcbooabaaaA
set_option linter.unusedVariables false
set_option linter.unusedSimpArgs false
set_option maxRecDepth 1000000
namespace Go.Proofs.Yticdhmcbooabaaa
open Go Go.Proofs.Yticdhmcbooabaaa.V

def inB (l : List C3) : Bool := l.all fun c => decide (0 ≤ c.2.1) && decide (c.2.1 ≤ 9) && decide (1 ≤ c.2.2) && decide (c.2.2 ≤ 16)
theorem in1 : inB reach1 = true := by kernel_rfl
theorem in2 : inB reach2 = true := by kernel_rfl
def blankB (two : Bool) (l : List C3) (s e : Int) : Bool :=
  let lcp := decide (((49185, s, e) : C3) ∈ l)
  let ncp := decide (((32801, s, e) : C3) ∈ l)
  let six := decide (((32855, s, e) : C3) ∈ l)
  let is := (cellI s e).isSome
  (!(lcp || ncp) || is) && (ncp == six) && (ncp == (lcp && !decide (e = 16))) && (if s = 7 ∧ e = 6 then !lcp else !two || (lcp == is))
def gridB (two : Bool) (l : List C3) : Bool := (List.range 10).all fun s => (List.range 16).all fun e => blankB two l (s : Int) ((e : Int) + 1)
theorem grid1 : gridB false reach1 = true := by kernel_rfl
theorem grid2 : gridB true reach2 = true := by kernel_rfl
theorem inB_of {l : List C3} (h : inB l = true) {p s e : Int} (hm : ((p, s, e) : C3) ∈ l) : 0 ≤ s ∧ s ≤ 9 ∧ 1 ≤ e ∧ e ≤ 16 := by
  have := List.all_eq_true.1 h _ hm
  simpa [Bool.and_eq_true, and_assoc] using this
theorem blank_of {two : Bool} {l : List C3} (h1 : inB l = true) (h2 : gridB two l = true) (s e : Int) : blankB two l s e = true := by
  by_cases h : 0 ≤ s ∧ s ≤ 9 ∧ 1 ≤ e ∧ e ≤ 16
  · obtain ⟨a1, a2, a3, a4⟩ := h
    have g := List.all_eq_true.1 (List.all_eq_true.1 h2 s.toNat (List.mem_range.2 (by omega))) (e - 1).toNat (List.mem_range.2 (by omega))
    have e1 : ((s.toNat : Nat) : Int) = s := by omega
    have e2 : (((e - 1).toNat : Nat) : Int) + 1 = e := by omega
    simp only [e1, e2] at g
    exact g
  · have n1 : ¬ ((49185, s, e) : C3) ∈ l := fun hm => h (inB_of h1 hm)
    have n2 : ¬ ((32801, s, e) : C3) ∈ l := fun hm => h (inB_of h1 hm)
    have n3 : ¬ ((32855, s, e) : C3) ∈ l := fun hm => h (inB_of h1 hm)
    have n4 : cellI s e = none := by unfold cellI; rw [if_neg h]
    unfold blankB
    rw [decide_eq_false n1, decide_eq_false n2, decide_eq_false n3, n4]
    split <;> simp
theorem blank_all (cf tm s e : Int) (h2 : 1 ≤ tm ∧ tm ≤ 4) : blankB (decide (2 ≤ tm)) (reachL tm) s e = true := by
  unfold reachL
  by_cases h : tm = 1
  · rw [if_pos h, h]
    exact blank_of in1 grid1 s e
  · rw [if_neg h, decide_eq_true (by omega)]
    exact blank_of in2 grid2 s e

set_option maxHeartbeats 64000000 in
theorem cellsBlank_runs (x y : UInt8) (s e : Int) (m1 m2 m3 m4 : Bool) : Runs Try.prog env 4 [.pure m1 (.int .u8 x.toNat), .pure m2 (.int .u8 y.toNat), .pure m3 (.int .i64 s), .pure m4 (.int .i64 e)] [] (.pure true (.bool true)) [] := by
  have hcf : 1 ≤ 1 + ((x.toNat % 4 : Nat) : Int) ∧ 1 + ((x.toNat % 4 : Nat) : Int) ≤ 4 := by omega
  have htm : 1 ≤ 1 + ((y.toNat % 4 : Nat) : Int) ∧ 1 + ((y.toNat % 4 : Nat) : Int) ≤ 4 := by omega
  have cc := fun m m' => conf_any x y m m'
  generalize 1 + ((x.toNat % 4 : Nat) : Int) = cf at *
  generalize 1 + ((y.toNat % 4 : Nat) : Int) = tm at *
  have hb := blank_all cf tm s e htm
  have hr := fun m => reach_ok cf tm hcf htm m
  have hl := reachL_length tm
  have hh := fun p => has_any (reachL tm) (p, s, e) (by omega)
  generalize reachL tm = L at *
  have hll := cellsV_length L
  unfold blankB at hb
  have hk := fun m m' => look_any s e m m'
  generalize cellI s e = C at *
  have d1 := hh 49185
  have d2 := hh 32801
  have d3 := hh 32855
  simp only at d1 d2 d3 hb
  generalize decide (((49185, s, e) : C3) ∈ L) = lcp at *
  generalize decide (((32801, s, e) : C3) ∈ L) = ncp at *
  generalize decide (((32855, s, e) : C3) ∈ L) = six at *
  clear hh
  obtain ⟨is, w1, w2, n', l', hC⟩ : ∃ (is w1 w2 : Bool) (n' : Int) (l' : List PV), lookR C = .tuple [.pure w1 (.int .i64 n'), .pure w1 (.sl l'), .pure true (.bool is)] ∧ C.isSome = is := by
    cases C with
    | none => exact ⟨false, true, true, 0, [], rfl, rfl⟩
    | some p => exact ⟨true, false, false, p.1, intsOf p.2, rfl, rfl⟩
  rw [hC.1] at hk
  rw [hC.2] at hb
  unfold confV at *
  refine Runs.of Try.func4 rfl (by simp [Try.ntmps4]) ?_
  simp (maxSteps := 400000) -dsimp -implicitDefEqProofs (disch := first | exact TrueB.mk rfl | omega) only [go_sem, Nat.reduceMul, Nat.reduceAdd, Nat.reduceLT, Nat.reduceLeDiff, Nat.reducePow, Nat.reduceEqDiff, ↓reduceIte, reduceCtorEq, Int.reduceToNat, Try.ntmps4]
  first | refine wpAct_call0 (awake_ok) rfl rfl rfl rfl rfl rfl rfl rfl ?_ | done
  simp (maxSteps := 400000) -dsimp -implicitDefEqProofs (disch := first | exact TrueB.mk rfl | omega) only [go_sem, Nat.reduceMul, Nat.reduceAdd, Nat.reduceLT, Nat.reduceLeDiff, Nat.reducePow, Nat.reduceEqDiff, ↓reduceIte, reduceCtorEq, Int.reduceToNat]
  first | refine wpAct_call0 (cc _ _) rfl rfl rfl rfl rfl rfl rfl rfl ?_ | done
  simp (maxSteps := 400000) -dsimp -implicitDefEqProofs (disch := first | exact TrueB.mk rfl | omega) only [go_sem, Nat.reduceMul, Nat.reduceAdd, Nat.reduceLT, Nat.reduceLeDiff, Nat.reducePow, Nat.reduceEqDiff, ↓reduceIte, reduceCtorEq, Int.reduceToNat]
  first | refine wpAct_callG (hr _) rfl rfl rfl rfl rfl rfl rfl rfl rfl ?_ | done
  simp (maxSteps := 400000) -dsimp -implicitDefEqProofs (disch := first | exact TrueB.mk rfl | omega) only [go_sem, Nat.reduceMul, Nat.reduceAdd, Nat.reduceLT, Nat.reduceLeDiff, Nat.reducePow, Nat.reduceEqDiff, ↓reduceIte, reduceCtorEq, Int.reduceToNat]
  first | refine wpAct_call0 (hk _ _) rfl rfl rfl rfl rfl rfl rfl rfl ?_ | done
  simp (maxSteps := 400000) -dsimp -implicitDefEqProofs (disch := first | exact TrueB.mk rfl | omega) only [go_sem, Nat.reduceMul, Nat.reduceAdd, Nat.reduceLT, Nat.reduceLeDiff, Nat.reducePow, Nat.reduceEqDiff, ↓reduceIte, reduceCtorEq, Int.reduceToNat]
  first | refine wpAct_callF (d1 _ _) rfl rfl rfl rfl (argV_r rfl hll.symm (argV_p rfl argV_nil)) rfl rfl rfl rfl ?_ | done
  simp (maxSteps := 400000) -dsimp -implicitDefEqProofs (disch := first | exact TrueB.mk rfl | omega) only [go_sem, Nat.reduceMul, Nat.reduceAdd, Nat.reduceLT, Nat.reduceLeDiff, Nat.reducePow, Nat.reduceEqDiff, ↓reduceIte, reduceCtorEq, Int.reduceToNat]
  first | refine wpAct_callF (d2 _ _) rfl rfl rfl rfl (argV_r rfl hll.symm (argV_p rfl argV_nil)) rfl rfl rfl rfl ?_ | done
  simp (maxSteps := 400000) -dsimp -implicitDefEqProofs (disch := first | exact TrueB.mk rfl | omega) only [go_sem, Nat.reduceMul, Nat.reduceAdd, Nat.reduceLT, Nat.reduceLeDiff, Nat.reducePow, Nat.reduceEqDiff, ↓reduceIte, reduceCtorEq, Int.reduceToNat]
  first | refine wpAct_callF (d3 _ _) rfl rfl rfl rfl (argV_r rfl hll.symm (argV_p rfl argV_nil)) rfl rfl rfl rfl ?_ | done
  simp (maxSteps := 400000) -dsimp -implicitDefEqProofs (disch := first | exact TrueB.mk rfl | omega) only [go_sem, Nat.reduceMul, Nat.reduceAdd, Nat.reduceLT, Nat.reduceLeDiff, Nat.reducePow, Nat.reduceEqDiff, ↓reduceIte, reduceCtorEq, Int.reduceToNat]
  clear hk d1 d2 d3 hr cc hll hl
  have fin : ∀ q : Bool, (q = true) → q = true := fun _ h => h
  rcases Classical.em (e = 16) with e16 | e16
  · subst e16
    have hb2 : (lcp = true → is = true) ∧ ncp = six ∧ ncp = false ∧ (decide (2 ≤ tm) = true → lcp = is) := by
      have h76 : ¬ (s = 7 ∧ (16 : Int) = 6) := by omega
      rw [if_neg h76] at hb
      cases lcp <;> cases ncp <;> cases six <;> cases is <;> simp_all
    obtain ⟨b1, b2, b3, b4⟩ := hb2
    subst b3
    subst b2
    have e6 : ¬ (16 : Int) = 6 := by omega
    cases lcp with
    | true =>
      obtain rfl := b1 rfl
      rcases Classical.em (s = 7) with s7 | s7
      all_goals rcases Classical.em (cf < 2) with c2 | c2
      all_goals rcases Classical.em (tm < 2) with t2 | t2
      all_goals
        simp (maxSteps := 400000) -dsimp -implicitDefEqProofs (disch := first | exact TrueB.mk rfl | omega) only [go_sem, Nat.reduceMul, Nat.reduceAdd, Nat.reduceLT, Nat.reduceLeDiff, Nat.reducePow, Nat.reduceEqDiff, ↓reduceIte, reduceCtorEq, Int.reduceToNat, s7, c2, t2, e6]
        first | exact end_bool rfl rfl | done
    | false =>
      cases is with
      | false =>
        rcases Classical.em (s = 7) with s7 | s7
        all_goals rcases Classical.em (cf < 2) with c2 | c2
        all_goals rcases Classical.em (tm < 2) with t2 | t2
        all_goals
          simp (maxSteps := 400000) -dsimp -implicitDefEqProofs (disch := first | exact TrueB.mk rfl | omega) only [go_sem, Nat.reduceMul, Nat.reduceAdd, Nat.reduceLT, Nat.reduceLeDiff, Nat.reducePow, Nat.reduceEqDiff, ↓reduceIte, reduceCtorEq, Int.reduceToNat, s7, c2, t2, e6]
          first | exact end_bool rfl rfl | done
      | true =>
        have t2 : tm < 2 := by
          rcases Classical.em (tm < 2) with t2 | t2
          · exact t2
          · exact absurd (b4 (decide_eq_true (by omega))) (by simp)
        rcases Classical.em (s = 7) with s7 | s7
        all_goals rcases Classical.em (cf < 2) with c2 | c2
        all_goals
          simp (maxSteps := 400000) -dsimp -implicitDefEqProofs (disch := first | exact TrueB.mk rfl | omega) only [go_sem, Nat.reduceMul, Nat.reduceAdd, Nat.reduceLT, Nat.reduceLeDiff, Nat.reducePow, Nat.reduceEqDiff, ↓reduceIte, reduceCtorEq, Int.reduceToNat, s7, c2, t2, e6]
          first | exact end_bool rfl rfl | done
  · have hb2 : (lcp = true → is = true) ∧ ncp = six ∧ ncp = lcp ∧ ((s = 7 ∧ e = 6) → lcp = false) ∧ (¬ (s = 7 ∧ e = 6) → decide (2 ≤ tm) = true → lcp = is) := by
      by_cases h76 : s = 7 ∧ e = 6
      · rw [if_pos h76] at hb
        cases lcp <;> cases ncp <;> cases six <;> cases is <;> simp_all
      · rw [if_neg h76] at hb
        cases lcp <;> cases ncp <;> cases six <;> cases is <;> simp_all
    obtain ⟨b1, b2, b3, b4, b5⟩ := hb2
    subst b3
    subst b2
    cases ncp with
    | true =>
      obtain rfl := b1 rfl
      rcases Classical.em (s = 7) with s7 | s7
      · have e6 : ¬ e = 6 := fun h => by cases b4 ⟨s7, h⟩
        rcases Classical.em (cf < 2) with c2 | c2
        all_goals rcases Classical.em (tm < 2) with t2 | t2
        all_goals
          simp (maxSteps := 400000) -dsimp -implicitDefEqProofs (disch := first | exact TrueB.mk rfl | omega) only [go_sem, Nat.reduceMul, Nat.reduceAdd, Nat.reduceLT, Nat.reduceLeDiff, Nat.reducePow, Nat.reduceEqDiff, ↓reduceIte, reduceCtorEq, Int.reduceToNat, s7, c2, t2, e6, e16]
          first | exact end_bool rfl rfl | done
      · rcases Classical.em (cf < 2) with c2 | c2
        all_goals rcases Classical.em (tm < 2) with t2 | t2
        all_goals
          simp (maxSteps := 400000) -dsimp -implicitDefEqProofs (disch := first | exact TrueB.mk rfl | omega) only [go_sem, Nat.reduceMul, Nat.reduceAdd, Nat.reduceLT, Nat.reduceLeDiff, Nat.reducePow, Nat.reduceEqDiff, ↓reduceIte, reduceCtorEq, Int.reduceToNat, s7, c2, t2, e16]
          first | exact end_bool rfl rfl | done
    | false =>
      rcases Classical.em (s = 7) with s7 | s7
      · rcases Classical.em (e = 6) with e6 | e6
        · subst e6
          cases is
          all_goals
            simp (maxSteps := 400000) -dsimp -implicitDefEqProofs (disch := first | exact TrueB.mk rfl | omega) only [go_sem, Nat.reduceMul, Nat.reduceAdd, Nat.reduceLT, Nat.reduceLeDiff, Nat.reducePow, Nat.reduceEqDiff, ↓reduceIte, reduceCtorEq, Int.reduceToNat, s7, e16]
            first | exact end_bool rfl rfl | done
        · cases is with
          | false =>
            rcases Classical.em (cf < 2) with c2 | c2
            all_goals rcases Classical.em (tm < 2) with t2 | t2
            all_goals
              simp (maxSteps := 400000) -dsimp -implicitDefEqProofs (disch := first | exact TrueB.mk rfl | omega) only [go_sem, Nat.reduceMul, Nat.reduceAdd, Nat.reduceLT, Nat.reduceLeDiff, Nat.reducePow, Nat.reduceEqDiff, ↓reduceIte, reduceCtorEq, Int.reduceToNat, s7, c2, t2, e6, e16]
              first | exact end_bool rfl rfl | done
          | true =>
            have t2 : tm < 2 := by
              rcases Classical.em (tm < 2) with t2 | t2
              · exact t2
              · exact absurd (b5 (fun h => e6 h.2) (decide_eq_true (by omega))) (by simp)
            rcases Classical.em (cf < 2) with c2 | c2
            all_goals
              simp (maxSteps := 400000) -dsimp -implicitDefEqProofs (disch := first | exact TrueB.mk rfl | omega) only [go_sem, Nat.reduceMul, Nat.reduceAdd, Nat.reduceLT, Nat.reduceLeDiff, Nat.reducePow, Nat.reduceEqDiff, ↓reduceIte, reduceCtorEq, Int.reduceToNat, s7, c2, t2, e6, e16]
              first | exact end_bool rfl rfl | done
      · cases is with
        | false =>
          rcases Classical.em (cf < 2) with c2 | c2
          all_goals rcases Classical.em (tm < 2) with t2 | t2
          all_goals
            simp (maxSteps := 400000) -dsimp -implicitDefEqProofs (disch := first | exact TrueB.mk rfl | omega) only [go_sem, Nat.reduceMul, Nat.reduceAdd, Nat.reduceLT, Nat.reduceLeDiff, Nat.reducePow, Nat.reduceEqDiff, ↓reduceIte, reduceCtorEq, Int.reduceToNat, s7, c2, t2, e16]
            first | exact end_bool rfl rfl | done
        | true =>
          have t2 : tm < 2 := by
            rcases Classical.em (tm < 2) with t2 | t2
            · exact t2
            · exact absurd (b5 (fun h => s7 h.1) (decide_eq_true (by omega))) (by simp)
          rcases Classical.em (cf < 2) with c2 | c2
          all_goals
            simp (maxSteps := 400000) -dsimp -implicitDefEqProofs (disch := first | exact TrueB.mk rfl | omega) only [go_sem, Nat.reduceMul, Nat.reduceAdd, Nat.reduceLT, Nat.reduceLeDiff, Nat.reducePow, Nat.reduceEqDiff, ↓reduceIte, reduceCtorEq, Int.reduceToNat, s7, c2, t2, e16]
            first | exact end_bool rfl rfl | done
end Go.Proofs.Yticdhmcbooabaaa
