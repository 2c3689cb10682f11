/- YticdhmcbooabaaaDoorDN: parts of the proof of CellsKeeps. No claim. -/
import Derived.Test.YticdhmcbooabaaaDoorDD
set_option linter.unusedVariables false
set_option linter.unusedSimpArgs false
set_option maxRecDepth 1000000
namespace Go.Proofs.YticdhmcbooabaaaDoor
open Go Go.Proofs.YticdhmcbooabaaaDoor.V

set_option maxHeartbeats 64000000 in
theorem DoN_0 {cf tm : Int} {a r : Int} {s : Bool} {y z : L3} (hb : okB ((a, r, s), y, z)) {e : Int} (h : stepL cf tm ((a, r, s), y, z) 49185 e = none) (mc mb mx : Bool) :
    Runs Tryd.prog env 29 [.pure mc (confV cf tm 1), .pure mb (benchV ((a, r, s), y, z)), .pure mx (sV (49185, e))] [] (.tuple [.pure mb (benchV ((a, r, s), y, z)), .row 0 0, .pure true (.bool false)]) [(0, .row true 0 0 [])] := by
  obtain ⟨hx, hy, hz⟩ := hb
  simp only at hx hy hz
  unfold stepL at h
  rw [if_pos rfl] at h
  simp only at h
  rcases Classical.em (e = 9) with e9 | e9
  · subst e9
    cases s with
    | false =>
      unfold confV benchV sV at *
      refine Runs.of Tryd.func29 rfl (by simp [Tryd.ntmps29]) ?_
      simp (maxSteps := 400000) -dsimp -implicitDefEqProofs (disch := first | exact TrueB.mk rfl | omega) only [go_sem, Tryd.ntmps29]
      first | refine wpAct_call0 (link_0 _) rfl rfl rfl rfl rfl rfl rfl rfl ?_ | done
      simp (maxSteps := 400000) -dsimp -implicitDefEqProofs (disch := first | exact TrueB.mk rfl | omega) only [go_sem]
      cases mb <;> exact rfl
    | true =>
      have hm : mayP 0 (openL (a, r, true)) (a, r, true).2.2 9 = true := by simp [mayP]
      rw [hm, if_pos rfl] at h
      cases hh : hapL cf tm (a, r, true) 9 with
      | some w =>
        rw [hh] at h
        simp only at h
        split at h <;> simp at h
      | none =>
        have hn := fun mc mb mi me => HapN_0 (x := (a, r, true)) (y := y) (z := z) hx hh mc mb mi me
        unfold confV benchV sV at *
        refine Runs.of Tryd.func29 rfl (by simp [Tryd.ntmps29]) ?_
        simp (maxSteps := 400000) -dsimp -implicitDefEqProofs (disch := first | exact TrueB.mk rfl | omega) only [go_sem, Tryd.ntmps29]
        first | refine wpAct_call0 (link_0 _) rfl rfl rfl rfl rfl rfl rfl rfl ?_ | done
        simp (maxSteps := 400000) -dsimp -implicitDefEqProofs (disch := first | exact TrueB.mk rfl | omega) only [go_sem]
        first | refine wpAct_call0 (hn _ _ _ _) rfl rfl rfl rfl rfl rfl rfl rfl ?_ | done
        simp (maxSteps := 400000) -dsimp -implicitDefEqProofs (disch := first | exact TrueB.mk rfl | omega) only [go_sem]
        cases mb <;> exact rfl
  rcases Classical.em (e = 10) with e10 | e10
  · subst e10
    cases s with
    | false =>
      unfold confV benchV sV at *
      refine Runs.of Tryd.func29 rfl (by simp [Tryd.ntmps29]) ?_
      simp (maxSteps := 400000) -dsimp -implicitDefEqProofs (disch := first | exact TrueB.mk rfl | omega) only [go_sem, Tryd.ntmps29]
      first | refine wpAct_call0 (link_0 _) rfl rfl rfl rfl rfl rfl rfl rfl ?_ | done
      simp (maxSteps := 400000) -dsimp -implicitDefEqProofs (disch := first | exact TrueB.mk rfl | omega) only [go_sem]
      cases mb <;> exact rfl
    | true =>
      have hm : mayP 0 (openL (a, r, true)) (a, r, true).2.2 10 = true := by simp [mayP]
      rw [hm, if_pos rfl] at h
      cases hh : hapL cf tm (a, r, true) 10 with
      | some w =>
        rw [hh] at h
        simp only at h
        split at h <;> simp at h
      | none =>
        have hn := fun mc mb mi me => HapN_0 (x := (a, r, true)) (y := y) (z := z) hx hh mc mb mi me
        unfold confV benchV sV at *
        refine Runs.of Tryd.func29 rfl (by simp [Tryd.ntmps29]) ?_
        simp (maxSteps := 400000) -dsimp -implicitDefEqProofs (disch := first | exact TrueB.mk rfl | omega) only [go_sem, Tryd.ntmps29]
        first | refine wpAct_call0 (link_0 _) rfl rfl rfl rfl rfl rfl rfl rfl ?_ | done
        simp (maxSteps := 400000) -dsimp -implicitDefEqProofs (disch := first | exact TrueB.mk rfl | omega) only [go_sem]
        first | refine wpAct_call0 (hn _ _ _ _) rfl rfl rfl rfl rfl rfl rfl rfl ?_ | done
        simp (maxSteps := 400000) -dsimp -implicitDefEqProofs (disch := first | exact TrueB.mk rfl | omega) only [go_sem]
        cases mb <;> exact rfl

  have hm : mayP 0 (openL (a, r, s)) (a, r, s).2.2 e = true := by unfold mayP; split <;> simp_all
  rw [hm, if_pos rfl] at h
  cases hh : hapL cf tm (a, r, s) e with
  | some w =>
    rw [hh] at h
    simp only at h
    split at h <;> simp at h
  | none =>
    have hn := fun mc mb mi me => HapN_0 (x := (a, r, s)) (y := y) (z := z) hx hh mc mb mi me
    unfold confV benchV sV at *
    refine Runs.of Tryd.func29 rfl (by simp [Tryd.ntmps29]) ?_
    simp (maxSteps := 400000) -dsimp -implicitDefEqProofs (disch := first | exact TrueB.mk rfl | omega) only [go_sem, Tryd.ntmps29]
    first | refine wpAct_call0 (link_0 _) rfl rfl rfl rfl rfl rfl rfl rfl ?_ | done
    simp (maxSteps := 400000) -dsimp -implicitDefEqProofs (disch := first | exact TrueB.mk rfl | omega) only [go_sem, e9, e10]
    first | refine wpAct_call0 (hn _ _ _ _) rfl rfl rfl rfl rfl rfl rfl rfl ?_ | done
    simp (maxSteps := 400000) -dsimp -implicitDefEqProofs (disch := first | exact TrueB.mk rfl | omega) only [go_sem]
    cases mb <;> exact rfl

set_option maxHeartbeats 64000000 in
theorem DoN_p {cf tm : Int} {a r : Int} {s : Bool} {y z : L3} (hb : okB ((a, r, s), y, z)) {p e : Int} (hp : p ≠ 49185 ∧ p ≠ 32801 ∧ p ≠ 32855) (h : stepL cf tm ((a, r, s), y, z) p e = none) (mc mb mx : Bool) :
    Runs Tryd.prog env 29 [.pure mc (confV cf tm 1), .pure mb (benchV ((a, r, s), y, z)), .pure mx (sV (p, e))] [] (.tuple [.pure mb (benchV ((a, r, s), y, z)), .row 0 0, .pure true (.bool false)]) [(0, .row true 0 0 [])] := by
  obtain ⟨hx, hy, hz⟩ := hb
  simp only at hx hy hz
  unfold stepL at h
  have lp := link_p p hp
  unfold confV benchV sV at *
  refine Runs.of Tryd.func29 rfl (by simp [Tryd.ntmps29]) ?_
  simp (maxSteps := 400000) -dsimp -implicitDefEqProofs (disch := first | exact TrueB.mk rfl | omega) only [go_sem, Tryd.ntmps29]
  first | refine wpAct_call0 (lp _) rfl rfl rfl rfl rfl rfl rfl rfl ?_ | done
  simp (maxSteps := 400000) -dsimp -implicitDefEqProofs (disch := first | exact TrueB.mk rfl | omega) only [go_sem]
  cases mb <;> exact rfl

set_option maxHeartbeats 64000000 in
theorem DoN_1 {cf tm : Int} {a r : Int} {s : Bool} {y z : L3} (hb : okB ((a, r, s), y, z)) {e : Int} (h : stepL cf tm ((a, r, s), y, z) 32801 e = none) (mc mb mx : Bool) :
    Runs Tryd.prog env 29 [.pure mc (confV cf tm 1), .pure mb (benchV ((a, r, s), y, z)), .pure mx (sV (32801, e))] [] (.tuple [.pure mb (benchV ((a, r, s), y, z)), .row 0 0, .pure true (.bool false)]) [(0, .row true 0 0 [])] := by
  obtain ⟨hx, hy, hz⟩ := hb
  simp only at hx hy hz
  unfold stepL at h
  rw [if_neg (by decide)] at h
  rw [if_pos rfl] at h
  simp only at h
  obtain ⟨a1, r1, s1⟩ := y
  rcases Classical.em (e = 9) with e9 | e9
  · subst e9
    cases s1 with
    | false =>
      unfold confV benchV sV at *
      refine Runs.of Tryd.func29 rfl (by simp [Tryd.ntmps29]) ?_
      simp (maxSteps := 400000) -dsimp -implicitDefEqProofs (disch := first | exact TrueB.mk rfl | omega) only [go_sem, Tryd.ntmps29]
      first | refine wpAct_call0 (link_1 _) rfl rfl rfl rfl rfl rfl rfl rfl ?_ | done
      simp (maxSteps := 400000) -dsimp -implicitDefEqProofs (disch := first | exact TrueB.mk rfl | omega) only [go_sem]
      cases mb <;> exact rfl
    | true =>
      rcases Classical.em (a = 9) with a9 | a9
      · subst a9
        have hm : mayP 1 (openL (9, r, s)) true 9 = true := by simp [mayP, openL]
        rw [hm, if_pos rfl] at h
        cases hh : hapL cf tm (a1, r1, true) 9 with
        | some w =>
          rw [hh] at h
          simp only at h
          cases h
        | none =>
          have hn := fun mc mb mi me => HapN_1 (x := (9, r, s)) (y := (a1, r1, true)) (z := z) hy hh mc mb mi me
          unfold confV benchV sV at *
          refine Runs.of Tryd.func29 rfl (by simp [Tryd.ntmps29]) ?_
          simp (maxSteps := 400000) -dsimp -implicitDefEqProofs (disch := first | exact TrueB.mk rfl | omega) only [go_sem, Tryd.ntmps29]
          first | refine wpAct_call0 (link_1 _) rfl rfl rfl rfl rfl rfl rfl rfl ?_ | done
          simp (maxSteps := 400000) -dsimp -implicitDefEqProofs (disch := first | exact TrueB.mk rfl | omega) only [go_sem]
          first | refine wpAct_call0 (hn _ _ _ _) rfl rfl rfl rfl rfl rfl rfl rfl ?_ | done
          simp (maxSteps := 400000) -dsimp -implicitDefEqProofs (disch := first | exact TrueB.mk rfl | omega) only [go_sem]
          cases mb <;> exact rfl
      · unfold confV benchV sV at *
        refine Runs.of Tryd.func29 rfl (by simp [Tryd.ntmps29]) ?_
        simp (maxSteps := 400000) -dsimp -implicitDefEqProofs (disch := first | exact TrueB.mk rfl | omega) only [go_sem, Tryd.ntmps29]
        first | refine wpAct_call0 (link_1 _) rfl rfl rfl rfl rfl rfl rfl rfl ?_ | done
        simp (maxSteps := 400000) -dsimp -implicitDefEqProofs (disch := first | exact TrueB.mk rfl | omega) only [go_sem, a9]
        cases mb <;> exact rfl
  rcases Classical.em (e = 10) with e10 | e10
  · subst e10
    cases s1 with
    | false =>
      unfold confV benchV sV at *
      refine Runs.of Tryd.func29 rfl (by simp [Tryd.ntmps29]) ?_
      simp (maxSteps := 400000) -dsimp -implicitDefEqProofs (disch := first | exact TrueB.mk rfl | omega) only [go_sem, Tryd.ntmps29]
      first | refine wpAct_call0 (link_1 _) rfl rfl rfl rfl rfl rfl rfl rfl ?_ | done
      simp (maxSteps := 400000) -dsimp -implicitDefEqProofs (disch := first | exact TrueB.mk rfl | omega) only [go_sem]
      cases mb <;> exact rfl
    | true =>
      rcases Classical.em (a = 9) with a9 | a9
      · subst a9
        have hm : mayP 1 (openL (9, r, s)) true 10 = true := by simp [mayP, openL]
        rw [hm, if_pos rfl] at h
        cases hh : hapL cf tm (a1, r1, true) 10 with
        | some w =>
          rw [hh] at h
          simp only at h
          cases h
        | none =>
          have hn := fun mc mb mi me => HapN_1 (x := (9, r, s)) (y := (a1, r1, true)) (z := z) hy hh mc mb mi me
          unfold confV benchV sV at *
          refine Runs.of Tryd.func29 rfl (by simp [Tryd.ntmps29]) ?_
          simp (maxSteps := 400000) -dsimp -implicitDefEqProofs (disch := first | exact TrueB.mk rfl | omega) only [go_sem, Tryd.ntmps29]
          first | refine wpAct_call0 (link_1 _) rfl rfl rfl rfl rfl rfl rfl rfl ?_ | done
          simp (maxSteps := 400000) -dsimp -implicitDefEqProofs (disch := first | exact TrueB.mk rfl | omega) only [go_sem]
          first | refine wpAct_call0 (hn _ _ _ _) rfl rfl rfl rfl rfl rfl rfl rfl ?_ | done
          simp (maxSteps := 400000) -dsimp -implicitDefEqProofs (disch := first | exact TrueB.mk rfl | omega) only [go_sem]
          cases mb <;> exact rfl
      · unfold confV benchV sV at *
        refine Runs.of Tryd.func29 rfl (by simp [Tryd.ntmps29]) ?_
        simp (maxSteps := 400000) -dsimp -implicitDefEqProofs (disch := first | exact TrueB.mk rfl | omega) only [go_sem, Tryd.ntmps29]
        first | refine wpAct_call0 (link_1 _) rfl rfl rfl rfl rfl rfl rfl rfl ?_ | done
        simp (maxSteps := 400000) -dsimp -implicitDefEqProofs (disch := first | exact TrueB.mk rfl | omega) only [go_sem, a9]
        cases mb <;> exact rfl
  rcases Classical.em (e ≤ 2) with e2 | e2
  · unfold confV benchV sV at *
    refine Runs.of Tryd.func29 rfl (by simp [Tryd.ntmps29]) ?_
    simp (maxSteps := 400000) -dsimp -implicitDefEqProofs (disch := first | exact TrueB.mk rfl | omega) only [go_sem, Tryd.ntmps29]
    first | refine wpAct_call0 (link_1 _) rfl rfl rfl rfl rfl rfl rfl rfl ?_ | done
    simp (maxSteps := 400000) -dsimp -implicitDefEqProofs (disch := first | exact TrueB.mk rfl | omega) only [go_sem, e9, e10, e2]
    cases mb <;> exact rfl
  rcases Classical.em (e = 16) with e16 | e16
  · subst e16
    unfold confV benchV sV at *
    refine Runs.of Tryd.func29 rfl (by simp [Tryd.ntmps29]) ?_
    simp (maxSteps := 400000) -dsimp -implicitDefEqProofs (disch := first | exact TrueB.mk rfl | omega) only [go_sem, Tryd.ntmps29]
    first | refine wpAct_call0 (link_1 _) rfl rfl rfl rfl rfl rfl rfl rfl ?_ | done
    simp (maxSteps := 400000) -dsimp -implicitDefEqProofs (disch := first | exact TrueB.mk rfl | omega) only [go_sem]
    cases mb <;> exact rfl
  rcases Classical.em (7 ≤ e) with e7 | e7
  · rcases Classical.em (a = 9) with a9 | a9
    · subst a9
      have hm : mayP 1 (openL (9, r, s)) s1 e = true := by unfold mayP openL; split <;> simp_all <;> omega
      rw [hm, if_pos rfl] at h
      cases hh : hapL cf tm (a1, r1, s1) e with
      | some w =>
        rw [hh] at h
        simp only at h
        cases h
      | none =>
        have hn := fun mc mb mi me => HapN_1 (x := (9, r, s)) (y := (a1, r1, s1)) (z := z) hy hh mc mb mi me
        unfold confV benchV sV at *
        refine Runs.of Tryd.func29 rfl (by simp [Tryd.ntmps29]) ?_
        simp (maxSteps := 400000) -dsimp -implicitDefEqProofs (disch := first | exact TrueB.mk rfl | omega) only [go_sem, Tryd.ntmps29]
        first | refine wpAct_call0 (link_1 _) rfl rfl rfl rfl rfl rfl rfl rfl ?_ | done
        simp (maxSteps := 400000) -dsimp -implicitDefEqProofs (disch := first | exact TrueB.mk rfl | omega) only [go_sem, e9, e10, e2, e16, e7]
        first | refine wpAct_call0 (hn _ _ _ _) rfl rfl rfl rfl rfl rfl rfl rfl ?_ | done
        simp (maxSteps := 400000) -dsimp -implicitDefEqProofs (disch := first | exact TrueB.mk rfl | omega) only [go_sem]
        cases mb <;> exact rfl
    · unfold confV benchV sV at *
      refine Runs.of Tryd.func29 rfl (by simp [Tryd.ntmps29]) ?_
      simp (maxSteps := 400000) -dsimp -implicitDefEqProofs (disch := first | exact TrueB.mk rfl | omega) only [go_sem, Tryd.ntmps29]
      first | refine wpAct_call0 (link_1 _) rfl rfl rfl rfl rfl rfl rfl rfl ?_ | done
      simp (maxSteps := 400000) -dsimp -implicitDefEqProofs (disch := first | exact TrueB.mk rfl | omega) only [go_sem, e9, e10, e2, e16, e7, a9]
      cases mb <;> exact rfl
  · have hm : mayP 1 (openL (a, r, s)) s1 e = true := by unfold mayP openL; split <;> simp_all <;> omega
    rw [hm, if_pos rfl] at h
    cases hh : hapL cf tm (a1, r1, s1) e with
    | some w =>
      rw [hh] at h
      simp only at h
      cases h
    | none =>
      have hn := fun mc mb mi me => HapN_1 (x := (a, r, s)) (y := (a1, r1, s1)) (z := z) hy hh mc mb mi me
      unfold confV benchV sV at *
      refine Runs.of Tryd.func29 rfl (by simp [Tryd.ntmps29]) ?_
      simp (maxSteps := 400000) -dsimp -implicitDefEqProofs (disch := first | exact TrueB.mk rfl | omega) only [go_sem, Tryd.ntmps29]
      first | refine wpAct_call0 (link_1 _) rfl rfl rfl rfl rfl rfl rfl rfl ?_ | done
      simp (maxSteps := 400000) -dsimp -implicitDefEqProofs (disch := first | exact TrueB.mk rfl | omega) only [go_sem, e9, e10, e2, e16, e7]
      first | refine wpAct_call0 (hn _ _ _ _) rfl rfl rfl rfl rfl rfl rfl rfl ?_ | done
      simp (maxSteps := 400000) -dsimp -implicitDefEqProofs (disch := first | exact TrueB.mk rfl | omega) only [go_sem]
      cases mb <;> exact rfl

set_option maxHeartbeats 64000000 in
theorem DoN_2 {cf tm : Int} {a r : Int} {s : Bool} {y z : L3} (hb : okB ((a, r, s), y, z)) {e : Int} (h : stepL cf tm ((a, r, s), y, z) 32855 e = none) (mc mb mx : Bool) :
    Runs Tryd.prog env 29 [.pure mc (confV cf tm 1), .pure mb (benchV ((a, r, s), y, z)), .pure mx (sV (32855, e))] [] (.tuple [.pure mb (benchV ((a, r, s), y, z)), .row 0 0, .pure true (.bool false)]) [(0, .row true 0 0 [])] := by
  obtain ⟨hx, hy, hz⟩ := hb
  simp only at hx hy hz
  unfold stepL at h
  rw [if_neg (by decide)] at h
  rw [if_neg (by decide)] at h
  rw [if_pos rfl] at h
  simp only at h
  obtain ⟨a2, r2, s2⟩ := z
  rcases Classical.em (e = 9) with e9 | e9
  · subst e9
    cases s2 with
    | false =>
      unfold confV benchV sV at *
      refine Runs.of Tryd.func29 rfl (by simp [Tryd.ntmps29]) ?_
      simp (maxSteps := 400000) -dsimp -implicitDefEqProofs (disch := first | exact TrueB.mk rfl | omega) only [go_sem, Tryd.ntmps29]
      first | refine wpAct_call0 (link_2 _) rfl rfl rfl rfl rfl rfl rfl rfl ?_ | done
      simp (maxSteps := 400000) -dsimp -implicitDefEqProofs (disch := first | exact TrueB.mk rfl | omega) only [go_sem]
      cases mb <;> exact rfl
    | true =>
      rcases Classical.em (a = 9) with a9 | a9
      · subst a9
        have hm : mayP 2 (openL (9, r, s)) true 9 = true := by simp [mayP, openL]
        rw [hm, if_pos rfl] at h
        cases hh : hapL cf tm (a2, r2, true) 9 with
        | some w =>
          rw [hh] at h
          simp only at h
          cases h
        | none =>
          have hn := fun mc mb mi me => HapN_2 (x := (9, r, s)) (y := y) (z := (a2, r2, true)) hz hh mc mb mi me
          unfold confV benchV sV at *
          refine Runs.of Tryd.func29 rfl (by simp [Tryd.ntmps29]) ?_
          simp (maxSteps := 400000) -dsimp -implicitDefEqProofs (disch := first | exact TrueB.mk rfl | omega) only [go_sem, Tryd.ntmps29]
          first | refine wpAct_call0 (link_2 _) rfl rfl rfl rfl rfl rfl rfl rfl ?_ | done
          simp (maxSteps := 400000) -dsimp -implicitDefEqProofs (disch := first | exact TrueB.mk rfl | omega) only [go_sem]
          first | refine wpAct_call0 (hn _ _ _ _) rfl rfl rfl rfl rfl rfl rfl rfl ?_ | done
          simp (maxSteps := 400000) -dsimp -implicitDefEqProofs (disch := first | exact TrueB.mk rfl | omega) only [go_sem]
          cases mb <;> exact rfl
      · unfold confV benchV sV at *
        refine Runs.of Tryd.func29 rfl (by simp [Tryd.ntmps29]) ?_
        simp (maxSteps := 400000) -dsimp -implicitDefEqProofs (disch := first | exact TrueB.mk rfl | omega) only [go_sem, Tryd.ntmps29]
        first | refine wpAct_call0 (link_2 _) rfl rfl rfl rfl rfl rfl rfl rfl ?_ | done
        simp (maxSteps := 400000) -dsimp -implicitDefEqProofs (disch := first | exact TrueB.mk rfl | omega) only [go_sem, a9]
        cases mb <;> exact rfl
  rcases Classical.em (e = 10) with e10 | e10
  · subst e10
    cases s2 with
    | false =>
      unfold confV benchV sV at *
      refine Runs.of Tryd.func29 rfl (by simp [Tryd.ntmps29]) ?_
      simp (maxSteps := 400000) -dsimp -implicitDefEqProofs (disch := first | exact TrueB.mk rfl | omega) only [go_sem, Tryd.ntmps29]
      first | refine wpAct_call0 (link_2 _) rfl rfl rfl rfl rfl rfl rfl rfl ?_ | done
      simp (maxSteps := 400000) -dsimp -implicitDefEqProofs (disch := first | exact TrueB.mk rfl | omega) only [go_sem]
      cases mb <;> exact rfl
    | true =>
      rcases Classical.em (a = 9) with a9 | a9
      · subst a9
        have hm : mayP 2 (openL (9, r, s)) true 10 = true := by simp [mayP, openL]
        rw [hm, if_pos rfl] at h
        cases hh : hapL cf tm (a2, r2, true) 10 with
        | some w =>
          rw [hh] at h
          simp only at h
          cases h
        | none =>
          have hn := fun mc mb mi me => HapN_2 (x := (9, r, s)) (y := y) (z := (a2, r2, true)) hz hh mc mb mi me
          unfold confV benchV sV at *
          refine Runs.of Tryd.func29 rfl (by simp [Tryd.ntmps29]) ?_
          simp (maxSteps := 400000) -dsimp -implicitDefEqProofs (disch := first | exact TrueB.mk rfl | omega) only [go_sem, Tryd.ntmps29]
          first | refine wpAct_call0 (link_2 _) rfl rfl rfl rfl rfl rfl rfl rfl ?_ | done
          simp (maxSteps := 400000) -dsimp -implicitDefEqProofs (disch := first | exact TrueB.mk rfl | omega) only [go_sem]
          first | refine wpAct_call0 (hn _ _ _ _) rfl rfl rfl rfl rfl rfl rfl rfl ?_ | done
          simp (maxSteps := 400000) -dsimp -implicitDefEqProofs (disch := first | exact TrueB.mk rfl | omega) only [go_sem]
          cases mb <;> exact rfl
      · unfold confV benchV sV at *
        refine Runs.of Tryd.func29 rfl (by simp [Tryd.ntmps29]) ?_
        simp (maxSteps := 400000) -dsimp -implicitDefEqProofs (disch := first | exact TrueB.mk rfl | omega) only [go_sem, Tryd.ntmps29]
        first | refine wpAct_call0 (link_2 _) rfl rfl rfl rfl rfl rfl rfl rfl ?_ | done
        simp (maxSteps := 400000) -dsimp -implicitDefEqProofs (disch := first | exact TrueB.mk rfl | omega) only [go_sem, a9]
        cases mb <;> exact rfl
  rcases Classical.em (e ≤ 2) with e2 | e2
  · unfold confV benchV sV at *
    refine Runs.of Tryd.func29 rfl (by simp [Tryd.ntmps29]) ?_
    simp (maxSteps := 400000) -dsimp -implicitDefEqProofs (disch := first | exact TrueB.mk rfl | omega) only [go_sem, Tryd.ntmps29]
    first | refine wpAct_call0 (link_2 _) rfl rfl rfl rfl rfl rfl rfl rfl ?_ | done
    simp (maxSteps := 400000) -dsimp -implicitDefEqProofs (disch := first | exact TrueB.mk rfl | omega) only [go_sem, e9, e10, e2]
    cases mb <;> exact rfl
  rcases Classical.em (e = 16) with e16 | e16
  · subst e16
    unfold confV benchV sV at *
    refine Runs.of Tryd.func29 rfl (by simp [Tryd.ntmps29]) ?_
    simp (maxSteps := 400000) -dsimp -implicitDefEqProofs (disch := first | exact TrueB.mk rfl | omega) only [go_sem, Tryd.ntmps29]
    first | refine wpAct_call0 (link_2 _) rfl rfl rfl rfl rfl rfl rfl rfl ?_ | done
    simp (maxSteps := 400000) -dsimp -implicitDefEqProofs (disch := first | exact TrueB.mk rfl | omega) only [go_sem]
    cases mb <;> exact rfl
  rcases Classical.em (7 ≤ e) with e7 | e7
  · rcases Classical.em (a = 9) with a9 | a9
    · subst a9
      have hm : mayP 2 (openL (9, r, s)) s2 e = true := by unfold mayP openL; split <;> simp_all <;> omega
      rw [hm, if_pos rfl] at h
      cases hh : hapL cf tm (a2, r2, s2) e with
      | some w =>
        rw [hh] at h
        simp only at h
        cases h
      | none =>
        have hn := fun mc mb mi me => HapN_2 (x := (9, r, s)) (y := y) (z := (a2, r2, s2)) hz hh mc mb mi me
        unfold confV benchV sV at *
        refine Runs.of Tryd.func29 rfl (by simp [Tryd.ntmps29]) ?_
        simp (maxSteps := 400000) -dsimp -implicitDefEqProofs (disch := first | exact TrueB.mk rfl | omega) only [go_sem, Tryd.ntmps29]
        first | refine wpAct_call0 (link_2 _) rfl rfl rfl rfl rfl rfl rfl rfl ?_ | done
        simp (maxSteps := 400000) -dsimp -implicitDefEqProofs (disch := first | exact TrueB.mk rfl | omega) only [go_sem, e9, e10, e2, e16, e7]
        first | refine wpAct_call0 (hn _ _ _ _) rfl rfl rfl rfl rfl rfl rfl rfl ?_ | done
        simp (maxSteps := 400000) -dsimp -implicitDefEqProofs (disch := first | exact TrueB.mk rfl | omega) only [go_sem]
        cases mb <;> exact rfl
    · unfold confV benchV sV at *
      refine Runs.of Tryd.func29 rfl (by simp [Tryd.ntmps29]) ?_
      simp (maxSteps := 400000) -dsimp -implicitDefEqProofs (disch := first | exact TrueB.mk rfl | omega) only [go_sem, Tryd.ntmps29]
      first | refine wpAct_call0 (link_2 _) rfl rfl rfl rfl rfl rfl rfl rfl ?_ | done
      simp (maxSteps := 400000) -dsimp -implicitDefEqProofs (disch := first | exact TrueB.mk rfl | omega) only [go_sem, e9, e10, e2, e16, e7, a9]
      cases mb <;> exact rfl
  · have hm : mayP 2 (openL (a, r, s)) s2 e = true := by unfold mayP openL; split <;> simp_all <;> omega
    rw [hm, if_pos rfl] at h
    cases hh : hapL cf tm (a2, r2, s2) e with
    | some w =>
      rw [hh] at h
      simp only at h
      cases h
    | none =>
      have hn := fun mc mb mi me => HapN_2 (x := (a, r, s)) (y := y) (z := (a2, r2, s2)) hz hh mc mb mi me
      unfold confV benchV sV at *
      refine Runs.of Tryd.func29 rfl (by simp [Tryd.ntmps29]) ?_
      simp (maxSteps := 400000) -dsimp -implicitDefEqProofs (disch := first | exact TrueB.mk rfl | omega) only [go_sem, Tryd.ntmps29]
      first | refine wpAct_call0 (link_2 _) rfl rfl rfl rfl rfl rfl rfl rfl ?_ | done
      simp (maxSteps := 400000) -dsimp -implicitDefEqProofs (disch := first | exact TrueB.mk rfl | omega) only [go_sem, e9, e10, e2, e16, e7]
      first | refine wpAct_call0 (hn _ _ _ _) rfl rfl rfl rfl rfl rfl rfl rfl ?_ | done
      simp (maxSteps := 400000) -dsimp -implicitDefEqProofs (disch := first | exact TrueB.mk rfl | omega) only [go_sem]
      cases mb <;> exact rfl

theorem DoN {cf tm : Int} {b : Bn} (hb : okB b) {p e : Int} (h : stepL cf tm b p e = none) (mc mb mx : Bool) :
    Runs Tryd.prog env 29 [.pure mc (confV cf tm 1), .pure mb (benchV b), .pure mx (sV (p, e))] [] (.tuple [.pure mb (benchV b), .row 0 0, .pure true (.bool false)]) [(0, .row true 0 0 [])] := by
  obtain ⟨⟨a, r, s⟩, y, z⟩ := b
  by_cases p0 : p = 49185
  · subst p0; exact DoN_0 hb h mc mb mx
  · by_cases p1 : p = 32801
    · subst p1; exact DoN_1 hb h mc mb mx
    · by_cases p2 : p = 32855
      · subst p2; exact DoN_2 hb h mc mb mx
      · exact DoN_p hb ⟨p0, p1, p2⟩ h mc mb mx

end Go.Proofs.YticdhmcbooabaaaDoor
