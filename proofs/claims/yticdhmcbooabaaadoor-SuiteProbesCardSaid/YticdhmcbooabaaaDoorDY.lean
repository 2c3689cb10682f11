/- YticdhmcbooabaaaDoorDY: parts of the proof of CellsKeeps. No claim. -/
import Derived.Test.YticdhmcbooabaaaDoorD7
set_option linter.unusedVariables false
set_option linter.unusedSimpArgs false
set_option maxRecDepth 1000000
namespace Go.Proofs.YticdhmcbooabaaaDoor
open Go Go.Proofs.YticdhmcbooabaaaDoor.V

theorem hapL_in1 {cf tm : Int} {x x' : L3} {e : Int} (h : hapL cf tm x e = some x') : 1 ≤ e ∧ e ≤ 16 := by
  obtain ⟨n, l, h2, _⟩ := hapL_yes h
  unfold stepOut at h2
  split at h2
  · cases h2
  · rename_i p hp
    unfold cellI at hp
    split at hp
    · rename_i h3; exact ⟨h3.2.2.1, h3.2.2.2⟩
    · cases hp

set_option maxHeartbeats 64000000 in
theorem DoY_1 {cf tm : Int} (h1 : 1 ≤ cf ∧ cf ≤ 255) (h2 : 1 ≤ tm ∧ tm ≤ 255) {a r : Int} {s : Bool} {y z : L3} (hb : okB ((a, r, s), y, z)) {e : Int} {b' : Bn} {l : List C3} {t : Bool × Bool × Bool} (h : stepL cf tm ((a, r, s), y, z) 32801 e = some (b', l, t)) (mc mb mx : Bool) :
    ∃ res S1, Runs Tryd.prog env 29 [.pure mc (confV cf tm 1), .pure mb (benchV ((a, r, s), y, z)), .pure mx (sV (32801, e))] [] res S1 ∧ (S1 = [(0, .row true 3 0 (cellsV l))] ∧ ∃ q, res = .tuple [.pure q (benchV b'), .row 0 l.length, .pure true (.bool true)]) := by
  obtain ⟨hx, hy, hz⟩ := hb
  simp only at hx hy hz
  unfold stepL at h
  rw [if_neg (by decide)] at h
  rw [if_pos rfl] at h
  simp only at h
  obtain ⟨ai, ri, si⟩ := y
  rcases Classical.em (e = 9) with e9 | e9
  · subst e9
    cases si with
    | false =>
      exfalso
      have hmm : mayP 1 (openL (a, r, s)) false 9 = false := by simp [mayP]
      rw [hmm] at h
      simp at h
    | true =>
      rcases Classical.em (a = 9) with a9 | a9
      · subst a9
        have hmm : mayP 1 (openL (9, r, s)) true 9 = true := by
          cases hm : mayP 1 (openL (9, r, s)) true 9 with
          | true => rfl
          | false => rw [hm] at h; simp at h
        rw [hmm, if_pos rfl] at h
        cases hh : hapL cf tm (ai, ri, true) 9 with
        | none => rw [hh] at h; simp at h
        | some w =>
        rw [hh] at h
        simp only [Option.some.injEq, Prod.mk.injEq] at h
        obtain ⟨rfl, rfl, rfl⟩ := h
        obtain ⟨qf, qg, hs⟩ := HapS_1 h1 h2 (x := (9, r, s)) (y := (ai, ri, true)) (z := z) hy hh
        have hw : okL w := hapL_ok h1 h2 hy hh
        have qy := fun mc mb mi me => HapN_1 (x := (9, r, s)) (y := w) (z := z) hw (hapL_0 cf tm w) mc mb mi me
        have qz := fun mc mb mi me => HapN_2 (x := (9, r, s)) (y := w) (z := z) hz (hapL_0 cf tm z) mc mb mi me

        unfold confV benchV sV at *
        refine RunsX.of Tryd.func29 rfl (by simp [Tryd.ntmps29]) ?_
        simp (maxSteps := 400000) -dsimp -implicitDefEqProofs (disch := first | exact TrueB.mk rfl | omega) only [go_sem, Tryd.ntmps29, endX_ret, endX_normal]
        first | refine wpAct_call0 (link_1 _) rfl rfl rfl rfl rfl rfl rfl rfl ?_ | done
        simp (maxSteps := 400000) -dsimp -implicitDefEqProofs (disch := first | exact TrueB.mk rfl | omega) only [go_sem, endX_ret, endX_normal]
        first | refine wpAct_call0 (hs _ _ _ _) rfl rfl rfl rfl rfl rfl rfl rfl ?_ | done
        simp (maxSteps := 400000) -dsimp -implicitDefEqProofs (disch := first | exact TrueB.mk rfl | omega) only [go_sem, sc3, Bool.or_true, endX_ret, endX_normal]
        refine wpLoop_ind (α := Nat × Bool) (fun x => match x with
          | (1, q) => ⟨[(3, .ptr 1936 0), (6, .ptr 1937 0), (10, .pure true (.bool true)), (11, .ptr 1938 0), (14, .row 1939 1), (15, .pure true (.bool true)), (16, .pure true (.int .i64 1))], [(1936, .box [.pure mc (.int .i64 cf), .pure mc (.int .i64 tm), .pure mc (.int .i64 1), .pure mc (.int .i64 0), .pure mc (.str []), .pure mc (.str []), .pure mc (.int .i64 0), .pure mc (.int .u32 0), .pure mc (.bool false)]), (1937, boxA true zeroB), (1938, boxA q ((9, r, s), w, z)), (1939, .row true 3 0 [.agg [.int .i64 32801, .int .i64 ai, .int .i64 9]])]⟩
          | (2, q) => ⟨[(3, .ptr 1936 0), (6, .ptr 1937 0), (10, .pure true (.bool true)), (11, .ptr 1938 0), (14, .row 1939 1), (15, .pure true (.bool true)), (16, .pure true (.int .i64 2))], [(1936, .box [.pure mc (.int .i64 cf), .pure mc (.int .i64 tm), .pure mc (.int .i64 1), .pure mc (.int .i64 0), .pure mc (.str []), .pure mc (.str []), .pure mc (.int .i64 0), .pure mc (.int .u32 0), .pure mc (.bool false)]), (1937, boxA true zeroB), (1938, boxA q ((9, r, s), w, z)), (1939, .row true 3 0 [.agg [.int .i64 32801, .int .i64 ai, .int .i64 9]])]⟩
          | (_, q) => ⟨[(3, .ptr 1936 0), (6, .ptr 1937 0), (10, .pure true (.bool true)), (11, .ptr 1938 0), (14, .row 1939 1), (15, .pure true (.bool true)), (16, .pure true (.int .i64 3))], [(1936, .box [.pure mc (.int .i64 cf), .pure mc (.int .i64 tm), .pure mc (.int .i64 1), .pure mc (.int .i64 0), .pure mc (.str []), .pure mc (.str []), .pure mc (.int .i64 0), .pure mc (.int .u32 0), .pure mc (.bool false)]), (1937, boxA true zeroB), (1938, boxA q ((9, r, s), w, z)), (1939, .row true 3 0 [.agg [.int .i64 32801, .int .i64 ai, .int .i64 9]])]⟩) (fun x => x.1 = 1 ∨ x.1 = 2 ∨ x.1 = 3) (fun x => 3 - x.1) ?_ (1, _) (.inl rfl) rfl
        rintro ⟨k, q⟩ hk
        simp only at hk
        rcases hk with rfl | rfl | rfl
        · simp only [boxA, boxW, zeroB]
          simp (maxSteps := 400000) -dsimp -implicitDefEqProofs (disch := first | exact TrueB.mk rfl | omega) only [go_sem, endX_ret, endX_normal]
          first | refine wpAct_call0 (qy _ _ _ _) rfl rfl rfl rfl rfl rfl rfl rfl ?_ | done
          simp (maxSteps := 400000) -dsimp -implicitDefEqProofs (disch := first | exact TrueB.mk rfl | omega) only [go_sem, sc3, Bool.or_true, endX_ret, endX_normal]
          exact again_mk ⟨(2, _), .inr (.inl rfl), (show (3 - 2 : Nat) < 3 - 1 by decide), rfl⟩
        · simp only [boxA, boxW, zeroB]
          simp (maxSteps := 400000) -dsimp -implicitDefEqProofs (disch := first | exact TrueB.mk rfl | omega) only [go_sem, endX_ret, endX_normal]
          first | refine wpAct_call0 (qz _ _ _ _) rfl rfl rfl rfl rfl rfl rfl rfl ?_ | done
          simp (maxSteps := 400000) -dsimp -implicitDefEqProofs (disch := first | exact TrueB.mk rfl | omega) only [go_sem, sc3, Bool.or_true, endX_ret, endX_normal]
          exact again_mk ⟨(3, _), .inr (.inr rfl), (show (3 - 3 : Nat) < 3 - 2 by decide), rfl⟩
        · simp only [boxA, boxW, zeroB]
          simp (maxSteps := 400000) -dsimp -implicitDefEqProofs (disch := first | exact TrueB.mk rfl | omega) only [go_sem, endX_ret, endX_normal]
          cases q <;> exact ⟨_, _, rfl, rfl, _, rfl⟩
      · exfalso
        have hmm : mayP 1 (openL (a, r, s)) true 9 = false := by simp [mayP, openL, a9]
        rw [hmm] at h
        simp at h
  rcases Classical.em (e = 10) with e10 | e10
  · subst e10
    cases si with
    | false =>
      exfalso
      have hmm : mayP 1 (openL (a, r, s)) false 10 = false := by simp [mayP]
      rw [hmm] at h
      simp at h
    | true =>
      rcases Classical.em (a = 9) with a9 | a9
      · subst a9
        have hmm : mayP 1 (openL (9, r, s)) true 10 = true := by
          cases hm : mayP 1 (openL (9, r, s)) true 10 with
          | true => rfl
          | false => rw [hm] at h; simp at h
        rw [hmm, if_pos rfl] at h
        cases hh : hapL cf tm (ai, ri, true) 10 with
        | none => rw [hh] at h; simp at h
        | some w =>
        rw [hh] at h
        simp only [Option.some.injEq, Prod.mk.injEq] at h
        obtain ⟨rfl, rfl, rfl⟩ := h
        obtain ⟨qf, qg, hs⟩ := HapS_1 h1 h2 (x := (9, r, s)) (y := (ai, ri, true)) (z := z) hy hh
        have hw : okL w := hapL_ok h1 h2 hy hh
        have qy := fun mc mb mi me => HapN_1 (x := (9, r, s)) (y := w) (z := z) hw (hapL_0 cf tm w) mc mb mi me
        have qz := fun mc mb mi me => HapN_2 (x := (9, r, s)) (y := w) (z := z) hz (hapL_0 cf tm z) mc mb mi me

        unfold confV benchV sV at *
        refine RunsX.of Tryd.func29 rfl (by simp [Tryd.ntmps29]) ?_
        simp (maxSteps := 400000) -dsimp -implicitDefEqProofs (disch := first | exact TrueB.mk rfl | omega) only [go_sem, Tryd.ntmps29, endX_ret, endX_normal]
        first | refine wpAct_call0 (link_1 _) rfl rfl rfl rfl rfl rfl rfl rfl ?_ | done
        simp (maxSteps := 400000) -dsimp -implicitDefEqProofs (disch := first | exact TrueB.mk rfl | omega) only [go_sem, endX_ret, endX_normal]
        first | refine wpAct_call0 (hs _ _ _ _) rfl rfl rfl rfl rfl rfl rfl rfl ?_ | done
        simp (maxSteps := 400000) -dsimp -implicitDefEqProofs (disch := first | exact TrueB.mk rfl | omega) only [go_sem, sc3, Bool.or_true, endX_ret, endX_normal]
        refine wpLoop_ind (α := Nat × Bool) (fun x => match x with
          | (1, q) => ⟨[(3, .ptr 1936 0), (6, .ptr 1937 0), (10, .pure true (.bool true)), (11, .ptr 1938 0), (14, .row 1939 1), (15, .pure true (.bool true)), (16, .pure true (.int .i64 1))], [(1936, .box [.pure mc (.int .i64 cf), .pure mc (.int .i64 tm), .pure mc (.int .i64 1), .pure mc (.int .i64 0), .pure mc (.str []), .pure mc (.str []), .pure mc (.int .i64 0), .pure mc (.int .u32 0), .pure mc (.bool false)]), (1937, boxA true zeroB), (1938, boxA q ((9, r, s), w, z)), (1939, .row true 3 0 [.agg [.int .i64 32801, .int .i64 ai, .int .i64 10]])]⟩
          | (2, q) => ⟨[(3, .ptr 1936 0), (6, .ptr 1937 0), (10, .pure true (.bool true)), (11, .ptr 1938 0), (14, .row 1939 1), (15, .pure true (.bool true)), (16, .pure true (.int .i64 2))], [(1936, .box [.pure mc (.int .i64 cf), .pure mc (.int .i64 tm), .pure mc (.int .i64 1), .pure mc (.int .i64 0), .pure mc (.str []), .pure mc (.str []), .pure mc (.int .i64 0), .pure mc (.int .u32 0), .pure mc (.bool false)]), (1937, boxA true zeroB), (1938, boxA q ((9, r, s), w, z)), (1939, .row true 3 0 [.agg [.int .i64 32801, .int .i64 ai, .int .i64 10]])]⟩
          | (_, q) => ⟨[(3, .ptr 1936 0), (6, .ptr 1937 0), (10, .pure true (.bool true)), (11, .ptr 1938 0), (14, .row 1939 1), (15, .pure true (.bool true)), (16, .pure true (.int .i64 3))], [(1936, .box [.pure mc (.int .i64 cf), .pure mc (.int .i64 tm), .pure mc (.int .i64 1), .pure mc (.int .i64 0), .pure mc (.str []), .pure mc (.str []), .pure mc (.int .i64 0), .pure mc (.int .u32 0), .pure mc (.bool false)]), (1937, boxA true zeroB), (1938, boxA q ((9, r, s), w, z)), (1939, .row true 3 0 [.agg [.int .i64 32801, .int .i64 ai, .int .i64 10]])]⟩) (fun x => x.1 = 1 ∨ x.1 = 2 ∨ x.1 = 3) (fun x => 3 - x.1) ?_ (1, _) (.inl rfl) rfl
        rintro ⟨k, q⟩ hk
        simp only at hk
        rcases hk with rfl | rfl | rfl
        · simp only [boxA, boxW, zeroB]
          simp (maxSteps := 400000) -dsimp -implicitDefEqProofs (disch := first | exact TrueB.mk rfl | omega) only [go_sem, endX_ret, endX_normal]
          first | refine wpAct_call0 (qy _ _ _ _) rfl rfl rfl rfl rfl rfl rfl rfl ?_ | done
          simp (maxSteps := 400000) -dsimp -implicitDefEqProofs (disch := first | exact TrueB.mk rfl | omega) only [go_sem, sc3, Bool.or_true, endX_ret, endX_normal]
          exact again_mk ⟨(2, _), .inr (.inl rfl), (show (3 - 2 : Nat) < 3 - 1 by decide), rfl⟩
        · simp only [boxA, boxW, zeroB]
          simp (maxSteps := 400000) -dsimp -implicitDefEqProofs (disch := first | exact TrueB.mk rfl | omega) only [go_sem, endX_ret, endX_normal]
          first | refine wpAct_call0 (qz _ _ _ _) rfl rfl rfl rfl rfl rfl rfl rfl ?_ | done
          simp (maxSteps := 400000) -dsimp -implicitDefEqProofs (disch := first | exact TrueB.mk rfl | omega) only [go_sem, sc3, Bool.or_true, endX_ret, endX_normal]
          exact again_mk ⟨(3, _), .inr (.inr rfl), (show (3 - 3 : Nat) < 3 - 2 by decide), rfl⟩
        · simp only [boxA, boxW, zeroB]
          simp (maxSteps := 400000) -dsimp -implicitDefEqProofs (disch := first | exact TrueB.mk rfl | omega) only [go_sem, endX_ret, endX_normal]
          cases q <;> exact ⟨_, _, rfl, rfl, _, rfl⟩
      · exfalso
        have hmm : mayP 1 (openL (a, r, s)) true 10 = false := by simp [mayP, openL, a9]
        rw [hmm] at h
        simp at h
  have hin : 1 ≤ e ∧ e ≤ 16 := by
    cases hh : hapL cf tm (ai, ri, si) e with
    | none => rw [hh] at h; split at h <;> simp at h
    | some w => exact hapL_in1 hh
  rcases Classical.em (e = 1 ∨ e = 2 ∨ e = 16) with e1 | e1
  · exfalso
    have hmm : mayP 1 (openL (a, r, s)) si e = false := by unfold mayP; rw [if_pos e1]; rfl
    rw [hmm] at h
    simp at h
  have e2 : ¬ e ≤ 2 := by omega
  have e16 : ¬ e = 16 := by omega
  rcases Classical.em (7 ≤ e) with e7 | e7
  · rcases Classical.em (a = 9) with a9 | a9
    · subst a9
      have hmm : mayP 1 (openL (9, r, s)) si e = true := by
        cases hm : mayP 1 (openL (9, r, s)) si e with
        | true => rfl
        | false => rw [hm] at h; simp at h
      rw [hmm, if_pos rfl] at h
      cases hh : hapL cf tm (ai, ri, si) e with
      | none => rw [hh] at h; simp at h
      | some w =>
      rw [hh] at h
      simp only [Option.some.injEq, Prod.mk.injEq] at h
      obtain ⟨rfl, rfl, rfl⟩ := h
      obtain ⟨qf, qg, hs⟩ := HapS_1 h1 h2 (x := (9, r, s)) (y := (ai, ri, si)) (z := z) hy hh
      have hw : okL w := hapL_ok h1 h2 hy hh
      have qy := fun mc mb mi me => HapN_1 (x := (9, r, s)) (y := w) (z := z) hw (hapL_0 cf tm w) mc mb mi me
      have qz := fun mc mb mi me => HapN_2 (x := (9, r, s)) (y := w) (z := z) hz (hapL_0 cf tm z) mc mb mi me

      unfold confV benchV sV at *
      refine RunsX.of Tryd.func29 rfl (by simp [Tryd.ntmps29]) ?_
      simp (maxSteps := 400000) -dsimp -implicitDefEqProofs (disch := first | exact TrueB.mk rfl | omega) only [go_sem, Tryd.ntmps29, endX_ret, endX_normal]
      first | refine wpAct_call0 (link_1 _) rfl rfl rfl rfl rfl rfl rfl rfl ?_ | done
      simp (maxSteps := 400000) -dsimp -implicitDefEqProofs (disch := first | exact TrueB.mk rfl | omega) only [go_sem, e9, e10, e2, e16, e7, endX_ret, endX_normal]
      first | refine wpAct_call0 (hs _ _ _ _) rfl rfl rfl rfl rfl rfl rfl rfl ?_ | done
      simp (maxSteps := 400000) -dsimp -implicitDefEqProofs (disch := first | exact TrueB.mk rfl | omega) only [go_sem, e9, e10, e2, e16, e7, sc3, Bool.or_true, endX_ret, endX_normal]
      refine wpLoop_ind (α := Nat × Bool) (fun x => match x with
        | (1, q) => ⟨[(3, .ptr 1936 0), (6, .ptr 1937 0), (10, .pure true (.bool true)), (11, .ptr 1938 0), (14, .row 1939 1), (15, .pure true (.bool true)), (16, .pure true (.int .i64 1))], [(1936, .box [.pure mc (.int .i64 cf), .pure mc (.int .i64 tm), .pure mc (.int .i64 1), .pure mc (.int .i64 0), .pure mc (.str []), .pure mc (.str []), .pure mc (.int .i64 0), .pure mc (.int .u32 0), .pure mc (.bool false)]), (1937, boxA true zeroB), (1938, boxA q ((9, r, s), w, z)), (1939, .row true 3 0 [.agg [.int .i64 32801, .int .i64 ai, .int .i64 e]])]⟩
        | (2, q) => ⟨[(3, .ptr 1936 0), (6, .ptr 1937 0), (10, .pure true (.bool true)), (11, .ptr 1938 0), (14, .row 1939 1), (15, .pure true (.bool true)), (16, .pure true (.int .i64 2))], [(1936, .box [.pure mc (.int .i64 cf), .pure mc (.int .i64 tm), .pure mc (.int .i64 1), .pure mc (.int .i64 0), .pure mc (.str []), .pure mc (.str []), .pure mc (.int .i64 0), .pure mc (.int .u32 0), .pure mc (.bool false)]), (1937, boxA true zeroB), (1938, boxA q ((9, r, s), w, z)), (1939, .row true 3 0 [.agg [.int .i64 32801, .int .i64 ai, .int .i64 e]])]⟩
        | (_, q) => ⟨[(3, .ptr 1936 0), (6, .ptr 1937 0), (10, .pure true (.bool true)), (11, .ptr 1938 0), (14, .row 1939 1), (15, .pure true (.bool true)), (16, .pure true (.int .i64 3))], [(1936, .box [.pure mc (.int .i64 cf), .pure mc (.int .i64 tm), .pure mc (.int .i64 1), .pure mc (.int .i64 0), .pure mc (.str []), .pure mc (.str []), .pure mc (.int .i64 0), .pure mc (.int .u32 0), .pure mc (.bool false)]), (1937, boxA true zeroB), (1938, boxA q ((9, r, s), w, z)), (1939, .row true 3 0 [.agg [.int .i64 32801, .int .i64 ai, .int .i64 e]])]⟩) (fun x => x.1 = 1 ∨ x.1 = 2 ∨ x.1 = 3) (fun x => 3 - x.1) ?_ (1, _) (.inl rfl) rfl
      rintro ⟨k, q⟩ hk
      simp only at hk
      rcases hk with rfl | rfl | rfl
      · simp only [boxA, boxW, zeroB]
        simp (maxSteps := 400000) -dsimp -implicitDefEqProofs (disch := first | exact TrueB.mk rfl | omega) only [go_sem, endX_ret, endX_normal]
        first | refine wpAct_call0 (qy _ _ _ _) rfl rfl rfl rfl rfl rfl rfl rfl ?_ | done
        simp (maxSteps := 400000) -dsimp -implicitDefEqProofs (disch := first | exact TrueB.mk rfl | omega) only [go_sem, sc3, Bool.or_true, endX_ret, endX_normal]
        exact again_mk ⟨(2, _), .inr (.inl rfl), (show (3 - 2 : Nat) < 3 - 1 by decide), rfl⟩
      · simp only [boxA, boxW, zeroB]
        simp (maxSteps := 400000) -dsimp -implicitDefEqProofs (disch := first | exact TrueB.mk rfl | omega) only [go_sem, endX_ret, endX_normal]
        first | refine wpAct_call0 (qz _ _ _ _) rfl rfl rfl rfl rfl rfl rfl rfl ?_ | done
        simp (maxSteps := 400000) -dsimp -implicitDefEqProofs (disch := first | exact TrueB.mk rfl | omega) only [go_sem, sc3, Bool.or_true, endX_ret, endX_normal]
        exact again_mk ⟨(3, _), .inr (.inr rfl), (show (3 - 3 : Nat) < 3 - 2 by decide), rfl⟩
      · simp only [boxA, boxW, zeroB]
        simp (maxSteps := 400000) -dsimp -implicitDefEqProofs (disch := first | exact TrueB.mk rfl | omega) only [go_sem, endX_ret, endX_normal]
        cases q <;> exact ⟨_, _, rfl, rfl, _, rfl⟩
    · exfalso
      have hmm : mayP 1 (openL (a, r, s)) si e = false := by unfold mayP; rw [if_neg e1, if_neg (by omega), decide_eq_false (show ¬ e < 7 by omega)]; simp [openL, a9]
      rw [hmm] at h
      simp at h
  · rcases Classical.em (a = 9) with a9 | a9
    · subst a9
      have hmm : mayP 1 (openL (9, r, s)) si e = true := by
        cases hm : mayP 1 (openL (9, r, s)) si e with
        | true => rfl
        | false => rw [hm] at h; simp at h
      rw [hmm, if_pos rfl] at h
      cases hh : hapL cf tm (ai, ri, si) e with
      | none => rw [hh] at h; simp at h
      | some w =>
      rw [hh] at h
      simp only [Option.some.injEq, Prod.mk.injEq] at h
      obtain ⟨rfl, rfl, rfl⟩ := h
      obtain ⟨qf, qg, hs⟩ := HapS_1 h1 h2 (x := (9, r, s)) (y := (ai, ri, si)) (z := z) hy hh
      have hw : okL w := hapL_ok h1 h2 hy hh
      have qy := fun mc mb mi me => HapN_1 (x := (9, r, s)) (y := w) (z := z) hw (hapL_0 cf tm w) mc mb mi me
      have qz := fun mc mb mi me => HapN_2 (x := (9, r, s)) (y := w) (z := z) hz (hapL_0 cf tm z) mc mb mi me

      unfold confV benchV sV at *
      refine RunsX.of Tryd.func29 rfl (by simp [Tryd.ntmps29]) ?_
      simp (maxSteps := 400000) -dsimp -implicitDefEqProofs (disch := first | exact TrueB.mk rfl | omega) only [go_sem, Tryd.ntmps29, endX_ret, endX_normal]
      first | refine wpAct_call0 (link_1 _) rfl rfl rfl rfl rfl rfl rfl rfl ?_ | done
      simp (maxSteps := 400000) -dsimp -implicitDefEqProofs (disch := first | exact TrueB.mk rfl | omega) only [go_sem, e9, e10, e2, e16, e7, endX_ret, endX_normal]
      first | refine wpAct_call0 (hs _ _ _ _) rfl rfl rfl rfl rfl rfl rfl rfl ?_ | done
      simp (maxSteps := 400000) -dsimp -implicitDefEqProofs (disch := first | exact TrueB.mk rfl | omega) only [go_sem, e9, e10, e2, e16, e7, sc3, Bool.or_true, endX_ret, endX_normal]
      refine wpLoop_ind (α := Nat × Bool) (fun x => match x with
        | (1, q) => ⟨[(3, .ptr 1936 0), (6, .ptr 1937 0), (10, .pure true (.bool true)), (11, .ptr 1938 0), (14, .row 1939 1), (15, .pure true (.bool true)), (16, .pure true (.int .i64 1))], [(1936, .box [.pure mc (.int .i64 cf), .pure mc (.int .i64 tm), .pure mc (.int .i64 1), .pure mc (.int .i64 0), .pure mc (.str []), .pure mc (.str []), .pure mc (.int .i64 0), .pure mc (.int .u32 0), .pure mc (.bool false)]), (1937, boxA true zeroB), (1938, boxA q ((9, r, s), w, z)), (1939, .row true 3 0 [.agg [.int .i64 32801, .int .i64 ai, .int .i64 e]])]⟩
        | (2, q) => ⟨[(3, .ptr 1936 0), (6, .ptr 1937 0), (10, .pure true (.bool true)), (11, .ptr 1938 0), (14, .row 1939 1), (15, .pure true (.bool true)), (16, .pure true (.int .i64 2))], [(1936, .box [.pure mc (.int .i64 cf), .pure mc (.int .i64 tm), .pure mc (.int .i64 1), .pure mc (.int .i64 0), .pure mc (.str []), .pure mc (.str []), .pure mc (.int .i64 0), .pure mc (.int .u32 0), .pure mc (.bool false)]), (1937, boxA true zeroB), (1938, boxA q ((9, r, s), w, z)), (1939, .row true 3 0 [.agg [.int .i64 32801, .int .i64 ai, .int .i64 e]])]⟩
        | (_, q) => ⟨[(3, .ptr 1936 0), (6, .ptr 1937 0), (10, .pure true (.bool true)), (11, .ptr 1938 0), (14, .row 1939 1), (15, .pure true (.bool true)), (16, .pure true (.int .i64 3))], [(1936, .box [.pure mc (.int .i64 cf), .pure mc (.int .i64 tm), .pure mc (.int .i64 1), .pure mc (.int .i64 0), .pure mc (.str []), .pure mc (.str []), .pure mc (.int .i64 0), .pure mc (.int .u32 0), .pure mc (.bool false)]), (1937, boxA true zeroB), (1938, boxA q ((9, r, s), w, z)), (1939, .row true 3 0 [.agg [.int .i64 32801, .int .i64 ai, .int .i64 e]])]⟩) (fun x => x.1 = 1 ∨ x.1 = 2 ∨ x.1 = 3) (fun x => 3 - x.1) ?_ (1, _) (.inl rfl) rfl
      rintro ⟨k, q⟩ hk
      simp only at hk
      rcases hk with rfl | rfl | rfl
      · simp only [boxA, boxW, zeroB]
        simp (maxSteps := 400000) -dsimp -implicitDefEqProofs (disch := first | exact TrueB.mk rfl | omega) only [go_sem, endX_ret, endX_normal]
        first | refine wpAct_call0 (qy _ _ _ _) rfl rfl rfl rfl rfl rfl rfl rfl ?_ | done
        simp (maxSteps := 400000) -dsimp -implicitDefEqProofs (disch := first | exact TrueB.mk rfl | omega) only [go_sem, sc3, Bool.or_true, endX_ret, endX_normal]
        exact again_mk ⟨(2, _), .inr (.inl rfl), (show (3 - 2 : Nat) < 3 - 1 by decide), rfl⟩
      · simp only [boxA, boxW, zeroB]
        simp (maxSteps := 400000) -dsimp -implicitDefEqProofs (disch := first | exact TrueB.mk rfl | omega) only [go_sem, endX_ret, endX_normal]
        first | refine wpAct_call0 (qz _ _ _ _) rfl rfl rfl rfl rfl rfl rfl rfl ?_ | done
        simp (maxSteps := 400000) -dsimp -implicitDefEqProofs (disch := first | exact TrueB.mk rfl | omega) only [go_sem, sc3, Bool.or_true, endX_ret, endX_normal]
        exact again_mk ⟨(3, _), .inr (.inr rfl), (show (3 - 3 : Nat) < 3 - 2 by decide), rfl⟩
      · simp only [boxA, boxW, zeroB]
        simp (maxSteps := 400000) -dsimp -implicitDefEqProofs (disch := first | exact TrueB.mk rfl | omega) only [go_sem, endX_ret, endX_normal]
        cases q <;> exact ⟨_, _, rfl, rfl, _, rfl⟩
    · have hmm : mayP 1 (openL (a, r, s)) si e = true := by
        cases hm : mayP 1 (openL (a, r, s)) si e with
        | true => rfl
        | false => rw [hm] at h; simp at h
      rw [hmm, if_pos rfl] at h
      cases hh : hapL cf tm (ai, ri, si) e with
      | none => rw [hh] at h; simp at h
      | some w =>
      rw [hh] at h
      simp only [Option.some.injEq, Prod.mk.injEq] at h
      obtain ⟨rfl, rfl, rfl⟩ := h
      obtain ⟨qf, qg, hs⟩ := HapS_1 h1 h2 (x := (a, r, s)) (y := (ai, ri, si)) (z := z) hy hh
      have hw : okL w := hapL_ok h1 h2 hy hh
      have qy := fun mc mb mi me => HapN_1 (x := (a, r, s)) (y := w) (z := z) hw (hapL_0 cf tm w) mc mb mi me
      have qz := fun mc mb mi me => HapN_2 (x := (a, r, s)) (y := w) (z := z) hz (hapL_0 cf tm z) mc mb mi me

      unfold confV benchV sV at *
      refine RunsX.of Tryd.func29 rfl (by simp [Tryd.ntmps29]) ?_
      simp (maxSteps := 400000) -dsimp -implicitDefEqProofs (disch := first | exact TrueB.mk rfl | omega) only [go_sem, Tryd.ntmps29, endX_ret, endX_normal]
      first | refine wpAct_call0 (link_1 _) rfl rfl rfl rfl rfl rfl rfl rfl ?_ | done
      simp (maxSteps := 400000) -dsimp -implicitDefEqProofs (disch := first | exact TrueB.mk rfl | omega) only [go_sem, e9, e10, e2, e16, e7, a9, endX_ret, endX_normal]
      first | refine wpAct_call0 (hs _ _ _ _) rfl rfl rfl rfl rfl rfl rfl rfl ?_ | done
      simp (maxSteps := 400000) -dsimp -implicitDefEqProofs (disch := first | exact TrueB.mk rfl | omega) only [go_sem, e9, e10, e2, e16, e7, a9, sc3, Bool.or_true, endX_ret, endX_normal]
      refine wpLoop_ind (α := Nat × Bool) (fun x => match x with
        | (1, q) => ⟨[(3, .ptr 1936 0), (6, .ptr 1937 0), (10, .pure true (.bool false)), (11, .ptr 1938 0), (14, .row 1939 1), (15, .pure true (.bool false)), (16, .pure true (.int .i64 1))], [(1936, .box [.pure mc (.int .i64 cf), .pure mc (.int .i64 tm), .pure mc (.int .i64 1), .pure mc (.int .i64 0), .pure mc (.str []), .pure mc (.str []), .pure mc (.int .i64 0), .pure mc (.int .u32 0), .pure mc (.bool false)]), (1937, boxA true zeroB), (1938, boxA q ((a, r, s), w, z)), (1939, .row true 3 0 [.agg [.int .i64 32801, .int .i64 ai, .int .i64 e]])]⟩
        | (2, q) => ⟨[(3, .ptr 1936 0), (6, .ptr 1937 0), (10, .pure true (.bool false)), (11, .ptr 1938 0), (14, .row 1939 1), (15, .pure true (.bool false)), (16, .pure true (.int .i64 2))], [(1936, .box [.pure mc (.int .i64 cf), .pure mc (.int .i64 tm), .pure mc (.int .i64 1), .pure mc (.int .i64 0), .pure mc (.str []), .pure mc (.str []), .pure mc (.int .i64 0), .pure mc (.int .u32 0), .pure mc (.bool false)]), (1937, boxA true zeroB), (1938, boxA q ((a, r, s), w, z)), (1939, .row true 3 0 [.agg [.int .i64 32801, .int .i64 ai, .int .i64 e]])]⟩
        | (_, q) => ⟨[(3, .ptr 1936 0), (6, .ptr 1937 0), (10, .pure true (.bool false)), (11, .ptr 1938 0), (14, .row 1939 1), (15, .pure true (.bool false)), (16, .pure true (.int .i64 3))], [(1936, .box [.pure mc (.int .i64 cf), .pure mc (.int .i64 tm), .pure mc (.int .i64 1), .pure mc (.int .i64 0), .pure mc (.str []), .pure mc (.str []), .pure mc (.int .i64 0), .pure mc (.int .u32 0), .pure mc (.bool false)]), (1937, boxA true zeroB), (1938, boxA q ((a, r, s), w, z)), (1939, .row true 3 0 [.agg [.int .i64 32801, .int .i64 ai, .int .i64 e]])]⟩) (fun x => x.1 = 1 ∨ x.1 = 2 ∨ x.1 = 3) (fun x => 3 - x.1) ?_ (1, _) (.inl rfl) rfl
      rintro ⟨k, q⟩ hk
      simp only at hk
      rcases hk with rfl | rfl | rfl
      · simp only [boxA, boxW, zeroB]
        simp (maxSteps := 400000) -dsimp -implicitDefEqProofs (disch := first | exact TrueB.mk rfl | omega) only [go_sem, endX_ret, endX_normal]
        first | refine wpAct_call0 (qy _ _ _ _) rfl rfl rfl rfl rfl rfl rfl rfl ?_ | done
        simp (maxSteps := 400000) -dsimp -implicitDefEqProofs (disch := first | exact TrueB.mk rfl | omega) only [go_sem, sc3, Bool.or_true, endX_ret, endX_normal]
        exact again_mk ⟨(2, _), .inr (.inl rfl), (show (3 - 2 : Nat) < 3 - 1 by decide), rfl⟩
      · simp only [boxA, boxW, zeroB]
        simp (maxSteps := 400000) -dsimp -implicitDefEqProofs (disch := first | exact TrueB.mk rfl | omega) only [go_sem, endX_ret, endX_normal]
        first | refine wpAct_call0 (qz _ _ _ _) rfl rfl rfl rfl rfl rfl rfl rfl ?_ | done
        simp (maxSteps := 400000) -dsimp -implicitDefEqProofs (disch := first | exact TrueB.mk rfl | omega) only [go_sem, sc3, Bool.or_true, endX_ret, endX_normal]
        exact again_mk ⟨(3, _), .inr (.inr rfl), (show (3 - 3 : Nat) < 3 - 2 by decide), rfl⟩
      · simp only [boxA, boxW, zeroB]
        simp (maxSteps := 400000) -dsimp -implicitDefEqProofs (disch := first | exact TrueB.mk rfl | omega) only [go_sem, endX_ret, endX_normal]
        cases q <;> exact ⟨_, _, rfl, rfl, _, rfl⟩

theorem hapL_in2 {cf tm : Int} {x x' : L3} {e : Int} (h : hapL cf tm x e = some x') : 1 ≤ e ∧ e ≤ 16 := by
  obtain ⟨n, l, h2, _⟩ := hapL_yes h
  unfold stepOut at h2
  split at h2
  · cases h2
  · rename_i p hp
    unfold cellI at hp
    split at hp
    · rename_i h3; exact ⟨h3.2.2.1, h3.2.2.2⟩
    · cases hp

set_option maxHeartbeats 64000000 in
theorem DoY_2 {cf tm : Int} (h1 : 1 ≤ cf ∧ cf ≤ 255) (h2 : 1 ≤ tm ∧ tm ≤ 255) {a r : Int} {s : Bool} {y z : L3} (hb : okB ((a, r, s), y, z)) {e : Int} {b' : Bn} {l : List C3} {t : Bool × Bool × Bool} (h : stepL cf tm ((a, r, s), y, z) 32855 e = some (b', l, t)) (mc mb mx : Bool) :
    ∃ res S1, Runs Tryd.prog env 29 [.pure mc (confV cf tm 1), .pure mb (benchV ((a, r, s), y, z)), .pure mx (sV (32855, e))] [] res S1 ∧ (S1 = [(0, .row true 3 0 (cellsV l))] ∧ ∃ q, res = .tuple [.pure q (benchV b'), .row 0 l.length, .pure true (.bool true)]) := by
  obtain ⟨hx, hy, hz⟩ := hb
  simp only at hx hy hz
  unfold stepL at h
  rw [if_neg (by decide)] at h
  rw [if_neg (by decide)] at h
  rw [if_pos rfl] at h
  simp only at h
  obtain ⟨ai, ri, si⟩ := z
  rcases Classical.em (e = 9) with e9 | e9
  · subst e9
    cases si with
    | false =>
      exfalso
      have hmm : mayP 2 (openL (a, r, s)) false 9 = false := by simp [mayP]
      rw [hmm] at h
      simp at h
    | true =>
      rcases Classical.em (a = 9) with a9 | a9
      · subst a9
        have hmm : mayP 2 (openL (9, r, s)) true 9 = true := by
          cases hm : mayP 2 (openL (9, r, s)) true 9 with
          | true => rfl
          | false => rw [hm] at h; simp at h
        rw [hmm, if_pos rfl] at h
        cases hh : hapL cf tm (ai, ri, true) 9 with
        | none => rw [hh] at h; simp at h
        | some w =>
        rw [hh] at h
        simp only [Option.some.injEq, Prod.mk.injEq] at h
        obtain ⟨rfl, rfl, rfl⟩ := h
        obtain ⟨qf, qg, hs⟩ := HapS_2 h1 h2 (x := (9, r, s)) (y := y) (z := (ai, ri, true)) hz hh
        have hw : okL w := hapL_ok h1 h2 hz hh
        have qy := fun mc mb mi me => HapN_1 (x := (9, r, s)) (y := y) (z := w) hy (hapL_0 cf tm y) mc mb mi me
        have qz := fun mc mb mi me => HapN_2 (x := (9, r, s)) (y := y) (z := w) hw (hapL_0 cf tm w) mc mb mi me

        unfold confV benchV sV at *
        refine RunsX.of Tryd.func29 rfl (by simp [Tryd.ntmps29]) ?_
        simp (maxSteps := 400000) -dsimp -implicitDefEqProofs (disch := first | exact TrueB.mk rfl | omega) only [go_sem, Tryd.ntmps29, endX_ret, endX_normal]
        first | refine wpAct_call0 (link_2 _) rfl rfl rfl rfl rfl rfl rfl rfl ?_ | done
        simp (maxSteps := 400000) -dsimp -implicitDefEqProofs (disch := first | exact TrueB.mk rfl | omega) only [go_sem, endX_ret, endX_normal]
        first | refine wpAct_call0 (hs _ _ _ _) rfl rfl rfl rfl rfl rfl rfl rfl ?_ | done
        simp (maxSteps := 400000) -dsimp -implicitDefEqProofs (disch := first | exact TrueB.mk rfl | omega) only [go_sem, sc3, Bool.or_true, endX_ret, endX_normal]
        refine wpLoop_ind (α := Nat × Bool) (fun x => match x with
          | (1, q) => ⟨[(3, .ptr 1936 0), (6, .ptr 1937 0), (10, .pure true (.bool true)), (11, .ptr 1938 0), (14, .row 1939 1), (15, .pure true (.bool true)), (16, .pure true (.int .i64 1))], [(1936, .box [.pure mc (.int .i64 cf), .pure mc (.int .i64 tm), .pure mc (.int .i64 1), .pure mc (.int .i64 0), .pure mc (.str []), .pure mc (.str []), .pure mc (.int .i64 0), .pure mc (.int .u32 0), .pure mc (.bool false)]), (1937, boxA true zeroB), (1938, boxA q ((9, r, s), y, w)), (1939, .row true 3 0 [.agg [.int .i64 32855, .int .i64 ai, .int .i64 9]])]⟩
          | (2, q) => ⟨[(3, .ptr 1936 0), (6, .ptr 1937 0), (10, .pure true (.bool true)), (11, .ptr 1938 0), (14, .row 1939 1), (15, .pure true (.bool true)), (16, .pure true (.int .i64 2))], [(1936, .box [.pure mc (.int .i64 cf), .pure mc (.int .i64 tm), .pure mc (.int .i64 1), .pure mc (.int .i64 0), .pure mc (.str []), .pure mc (.str []), .pure mc (.int .i64 0), .pure mc (.int .u32 0), .pure mc (.bool false)]), (1937, boxA true zeroB), (1938, boxA q ((9, r, s), y, w)), (1939, .row true 3 0 [.agg [.int .i64 32855, .int .i64 ai, .int .i64 9]])]⟩
          | (_, q) => ⟨[(3, .ptr 1936 0), (6, .ptr 1937 0), (10, .pure true (.bool true)), (11, .ptr 1938 0), (14, .row 1939 1), (15, .pure true (.bool true)), (16, .pure true (.int .i64 3))], [(1936, .box [.pure mc (.int .i64 cf), .pure mc (.int .i64 tm), .pure mc (.int .i64 1), .pure mc (.int .i64 0), .pure mc (.str []), .pure mc (.str []), .pure mc (.int .i64 0), .pure mc (.int .u32 0), .pure mc (.bool false)]), (1937, boxA true zeroB), (1938, boxA q ((9, r, s), y, w)), (1939, .row true 3 0 [.agg [.int .i64 32855, .int .i64 ai, .int .i64 9]])]⟩) (fun x => x.1 = 1 ∨ x.1 = 2 ∨ x.1 = 3) (fun x => 3 - x.1) ?_ (1, _) (.inl rfl) rfl
        rintro ⟨k, q⟩ hk
        simp only at hk
        rcases hk with rfl | rfl | rfl
        · simp only [boxA, boxW, zeroB]
          simp (maxSteps := 400000) -dsimp -implicitDefEqProofs (disch := first | exact TrueB.mk rfl | omega) only [go_sem, endX_ret, endX_normal]
          first | refine wpAct_call0 (qy _ _ _ _) rfl rfl rfl rfl rfl rfl rfl rfl ?_ | done
          simp (maxSteps := 400000) -dsimp -implicitDefEqProofs (disch := first | exact TrueB.mk rfl | omega) only [go_sem, sc3, Bool.or_true, endX_ret, endX_normal]
          exact again_mk ⟨(2, _), .inr (.inl rfl), (show (3 - 2 : Nat) < 3 - 1 by decide), rfl⟩
        · simp only [boxA, boxW, zeroB]
          simp (maxSteps := 400000) -dsimp -implicitDefEqProofs (disch := first | exact TrueB.mk rfl | omega) only [go_sem, endX_ret, endX_normal]
          first | refine wpAct_call0 (qz _ _ _ _) rfl rfl rfl rfl rfl rfl rfl rfl ?_ | done
          simp (maxSteps := 400000) -dsimp -implicitDefEqProofs (disch := first | exact TrueB.mk rfl | omega) only [go_sem, sc3, Bool.or_true, endX_ret, endX_normal]
          exact again_mk ⟨(3, _), .inr (.inr rfl), (show (3 - 3 : Nat) < 3 - 2 by decide), rfl⟩
        · simp only [boxA, boxW, zeroB]
          simp (maxSteps := 400000) -dsimp -implicitDefEqProofs (disch := first | exact TrueB.mk rfl | omega) only [go_sem, endX_ret, endX_normal]
          cases q <;> exact ⟨_, _, rfl, rfl, _, rfl⟩
      · exfalso
        have hmm : mayP 2 (openL (a, r, s)) true 9 = false := by simp [mayP, openL, a9]
        rw [hmm] at h
        simp at h
  rcases Classical.em (e = 10) with e10 | e10
  · subst e10
    cases si with
    | false =>
      exfalso
      have hmm : mayP 2 (openL (a, r, s)) false 10 = false := by simp [mayP]
      rw [hmm] at h
      simp at h
    | true =>
      rcases Classical.em (a = 9) with a9 | a9
      · subst a9
        have hmm : mayP 2 (openL (9, r, s)) true 10 = true := by
          cases hm : mayP 2 (openL (9, r, s)) true 10 with
          | true => rfl
          | false => rw [hm] at h; simp at h
        rw [hmm, if_pos rfl] at h
        cases hh : hapL cf tm (ai, ri, true) 10 with
        | none => rw [hh] at h; simp at h
        | some w =>
        rw [hh] at h
        simp only [Option.some.injEq, Prod.mk.injEq] at h
        obtain ⟨rfl, rfl, rfl⟩ := h
        obtain ⟨qf, qg, hs⟩ := HapS_2 h1 h2 (x := (9, r, s)) (y := y) (z := (ai, ri, true)) hz hh
        have hw : okL w := hapL_ok h1 h2 hz hh
        have qy := fun mc mb mi me => HapN_1 (x := (9, r, s)) (y := y) (z := w) hy (hapL_0 cf tm y) mc mb mi me
        have qz := fun mc mb mi me => HapN_2 (x := (9, r, s)) (y := y) (z := w) hw (hapL_0 cf tm w) mc mb mi me

        unfold confV benchV sV at *
        refine RunsX.of Tryd.func29 rfl (by simp [Tryd.ntmps29]) ?_
        simp (maxSteps := 400000) -dsimp -implicitDefEqProofs (disch := first | exact TrueB.mk rfl | omega) only [go_sem, Tryd.ntmps29, endX_ret, endX_normal]
        first | refine wpAct_call0 (link_2 _) rfl rfl rfl rfl rfl rfl rfl rfl ?_ | done
        simp (maxSteps := 400000) -dsimp -implicitDefEqProofs (disch := first | exact TrueB.mk rfl | omega) only [go_sem, endX_ret, endX_normal]
        first | refine wpAct_call0 (hs _ _ _ _) rfl rfl rfl rfl rfl rfl rfl rfl ?_ | done
        simp (maxSteps := 400000) -dsimp -implicitDefEqProofs (disch := first | exact TrueB.mk rfl | omega) only [go_sem, sc3, Bool.or_true, endX_ret, endX_normal]
        refine wpLoop_ind (α := Nat × Bool) (fun x => match x with
          | (1, q) => ⟨[(3, .ptr 1936 0), (6, .ptr 1937 0), (10, .pure true (.bool true)), (11, .ptr 1938 0), (14, .row 1939 1), (15, .pure true (.bool true)), (16, .pure true (.int .i64 1))], [(1936, .box [.pure mc (.int .i64 cf), .pure mc (.int .i64 tm), .pure mc (.int .i64 1), .pure mc (.int .i64 0), .pure mc (.str []), .pure mc (.str []), .pure mc (.int .i64 0), .pure mc (.int .u32 0), .pure mc (.bool false)]), (1937, boxA true zeroB), (1938, boxA q ((9, r, s), y, w)), (1939, .row true 3 0 [.agg [.int .i64 32855, .int .i64 ai, .int .i64 10]])]⟩
          | (2, q) => ⟨[(3, .ptr 1936 0), (6, .ptr 1937 0), (10, .pure true (.bool true)), (11, .ptr 1938 0), (14, .row 1939 1), (15, .pure true (.bool true)), (16, .pure true (.int .i64 2))], [(1936, .box [.pure mc (.int .i64 cf), .pure mc (.int .i64 tm), .pure mc (.int .i64 1), .pure mc (.int .i64 0), .pure mc (.str []), .pure mc (.str []), .pure mc (.int .i64 0), .pure mc (.int .u32 0), .pure mc (.bool false)]), (1937, boxA true zeroB), (1938, boxA q ((9, r, s), y, w)), (1939, .row true 3 0 [.agg [.int .i64 32855, .int .i64 ai, .int .i64 10]])]⟩
          | (_, q) => ⟨[(3, .ptr 1936 0), (6, .ptr 1937 0), (10, .pure true (.bool true)), (11, .ptr 1938 0), (14, .row 1939 1), (15, .pure true (.bool true)), (16, .pure true (.int .i64 3))], [(1936, .box [.pure mc (.int .i64 cf), .pure mc (.int .i64 tm), .pure mc (.int .i64 1), .pure mc (.int .i64 0), .pure mc (.str []), .pure mc (.str []), .pure mc (.int .i64 0), .pure mc (.int .u32 0), .pure mc (.bool false)]), (1937, boxA true zeroB), (1938, boxA q ((9, r, s), y, w)), (1939, .row true 3 0 [.agg [.int .i64 32855, .int .i64 ai, .int .i64 10]])]⟩) (fun x => x.1 = 1 ∨ x.1 = 2 ∨ x.1 = 3) (fun x => 3 - x.1) ?_ (1, _) (.inl rfl) rfl
        rintro ⟨k, q⟩ hk
        simp only at hk
        rcases hk with rfl | rfl | rfl
        · simp only [boxA, boxW, zeroB]
          simp (maxSteps := 400000) -dsimp -implicitDefEqProofs (disch := first | exact TrueB.mk rfl | omega) only [go_sem, endX_ret, endX_normal]
          first | refine wpAct_call0 (qy _ _ _ _) rfl rfl rfl rfl rfl rfl rfl rfl ?_ | done
          simp (maxSteps := 400000) -dsimp -implicitDefEqProofs (disch := first | exact TrueB.mk rfl | omega) only [go_sem, sc3, Bool.or_true, endX_ret, endX_normal]
          exact again_mk ⟨(2, _), .inr (.inl rfl), (show (3 - 2 : Nat) < 3 - 1 by decide), rfl⟩
        · simp only [boxA, boxW, zeroB]
          simp (maxSteps := 400000) -dsimp -implicitDefEqProofs (disch := first | exact TrueB.mk rfl | omega) only [go_sem, endX_ret, endX_normal]
          first | refine wpAct_call0 (qz _ _ _ _) rfl rfl rfl rfl rfl rfl rfl rfl ?_ | done
          simp (maxSteps := 400000) -dsimp -implicitDefEqProofs (disch := first | exact TrueB.mk rfl | omega) only [go_sem, sc3, Bool.or_true, endX_ret, endX_normal]
          exact again_mk ⟨(3, _), .inr (.inr rfl), (show (3 - 3 : Nat) < 3 - 2 by decide), rfl⟩
        · simp only [boxA, boxW, zeroB]
          simp (maxSteps := 400000) -dsimp -implicitDefEqProofs (disch := first | exact TrueB.mk rfl | omega) only [go_sem, endX_ret, endX_normal]
          cases q <;> exact ⟨_, _, rfl, rfl, _, rfl⟩
      · exfalso
        have hmm : mayP 2 (openL (a, r, s)) true 10 = false := by simp [mayP, openL, a9]
        rw [hmm] at h
        simp at h
  have hin : 1 ≤ e ∧ e ≤ 16 := by
    cases hh : hapL cf tm (ai, ri, si) e with
    | none => rw [hh] at h; split at h <;> simp at h
    | some w => exact hapL_in2 hh
  rcases Classical.em (e = 1 ∨ e = 2 ∨ e = 16) with e1 | e1
  · exfalso
    have hmm : mayP 2 (openL (a, r, s)) si e = false := by unfold mayP; rw [if_pos e1]; rfl
    rw [hmm] at h
    simp at h
  have e2 : ¬ e ≤ 2 := by omega
  have e16 : ¬ e = 16 := by omega
  rcases Classical.em (7 ≤ e) with e7 | e7
  · rcases Classical.em (a = 9) with a9 | a9
    · subst a9
      have hmm : mayP 2 (openL (9, r, s)) si e = true := by
        cases hm : mayP 2 (openL (9, r, s)) si e with
        | true => rfl
        | false => rw [hm] at h; simp at h
      rw [hmm, if_pos rfl] at h
      cases hh : hapL cf tm (ai, ri, si) e with
      | none => rw [hh] at h; simp at h
      | some w =>
      rw [hh] at h
      simp only [Option.some.injEq, Prod.mk.injEq] at h
      obtain ⟨rfl, rfl, rfl⟩ := h
      obtain ⟨qf, qg, hs⟩ := HapS_2 h1 h2 (x := (9, r, s)) (y := y) (z := (ai, ri, si)) hz hh
      have hw : okL w := hapL_ok h1 h2 hz hh
      have qy := fun mc mb mi me => HapN_1 (x := (9, r, s)) (y := y) (z := w) hy (hapL_0 cf tm y) mc mb mi me
      have qz := fun mc mb mi me => HapN_2 (x := (9, r, s)) (y := y) (z := w) hw (hapL_0 cf tm w) mc mb mi me

      unfold confV benchV sV at *
      refine RunsX.of Tryd.func29 rfl (by simp [Tryd.ntmps29]) ?_
      simp (maxSteps := 400000) -dsimp -implicitDefEqProofs (disch := first | exact TrueB.mk rfl | omega) only [go_sem, Tryd.ntmps29, endX_ret, endX_normal]
      first | refine wpAct_call0 (link_2 _) rfl rfl rfl rfl rfl rfl rfl rfl ?_ | done
      simp (maxSteps := 400000) -dsimp -implicitDefEqProofs (disch := first | exact TrueB.mk rfl | omega) only [go_sem, e9, e10, e2, e16, e7, endX_ret, endX_normal]
      first | refine wpAct_call0 (hs _ _ _ _) rfl rfl rfl rfl rfl rfl rfl rfl ?_ | done
      simp (maxSteps := 400000) -dsimp -implicitDefEqProofs (disch := first | exact TrueB.mk rfl | omega) only [go_sem, e9, e10, e2, e16, e7, sc3, Bool.or_true, endX_ret, endX_normal]
      refine wpLoop_ind (α := Nat × Bool) (fun x => match x with
        | (1, q) => ⟨[(3, .ptr 1936 0), (6, .ptr 1937 0), (10, .pure true (.bool true)), (11, .ptr 1938 0), (14, .row 1939 1), (15, .pure true (.bool true)), (16, .pure true (.int .i64 1))], [(1936, .box [.pure mc (.int .i64 cf), .pure mc (.int .i64 tm), .pure mc (.int .i64 1), .pure mc (.int .i64 0), .pure mc (.str []), .pure mc (.str []), .pure mc (.int .i64 0), .pure mc (.int .u32 0), .pure mc (.bool false)]), (1937, boxA true zeroB), (1938, boxA q ((9, r, s), y, w)), (1939, .row true 3 0 [.agg [.int .i64 32855, .int .i64 ai, .int .i64 e]])]⟩
        | (2, q) => ⟨[(3, .ptr 1936 0), (6, .ptr 1937 0), (10, .pure true (.bool true)), (11, .ptr 1938 0), (14, .row 1939 1), (15, .pure true (.bool true)), (16, .pure true (.int .i64 2))], [(1936, .box [.pure mc (.int .i64 cf), .pure mc (.int .i64 tm), .pure mc (.int .i64 1), .pure mc (.int .i64 0), .pure mc (.str []), .pure mc (.str []), .pure mc (.int .i64 0), .pure mc (.int .u32 0), .pure mc (.bool false)]), (1937, boxA true zeroB), (1938, boxA q ((9, r, s), y, w)), (1939, .row true 3 0 [.agg [.int .i64 32855, .int .i64 ai, .int .i64 e]])]⟩
        | (_, q) => ⟨[(3, .ptr 1936 0), (6, .ptr 1937 0), (10, .pure true (.bool true)), (11, .ptr 1938 0), (14, .row 1939 1), (15, .pure true (.bool true)), (16, .pure true (.int .i64 3))], [(1936, .box [.pure mc (.int .i64 cf), .pure mc (.int .i64 tm), .pure mc (.int .i64 1), .pure mc (.int .i64 0), .pure mc (.str []), .pure mc (.str []), .pure mc (.int .i64 0), .pure mc (.int .u32 0), .pure mc (.bool false)]), (1937, boxA true zeroB), (1938, boxA q ((9, r, s), y, w)), (1939, .row true 3 0 [.agg [.int .i64 32855, .int .i64 ai, .int .i64 e]])]⟩) (fun x => x.1 = 1 ∨ x.1 = 2 ∨ x.1 = 3) (fun x => 3 - x.1) ?_ (1, _) (.inl rfl) rfl
      rintro ⟨k, q⟩ hk
      simp only at hk
      rcases hk with rfl | rfl | rfl
      · simp only [boxA, boxW, zeroB]
        simp (maxSteps := 400000) -dsimp -implicitDefEqProofs (disch := first | exact TrueB.mk rfl | omega) only [go_sem, endX_ret, endX_normal]
        first | refine wpAct_call0 (qy _ _ _ _) rfl rfl rfl rfl rfl rfl rfl rfl ?_ | done
        simp (maxSteps := 400000) -dsimp -implicitDefEqProofs (disch := first | exact TrueB.mk rfl | omega) only [go_sem, sc3, Bool.or_true, endX_ret, endX_normal]
        exact again_mk ⟨(2, _), .inr (.inl rfl), (show (3 - 2 : Nat) < 3 - 1 by decide), rfl⟩
      · simp only [boxA, boxW, zeroB]
        simp (maxSteps := 400000) -dsimp -implicitDefEqProofs (disch := first | exact TrueB.mk rfl | omega) only [go_sem, endX_ret, endX_normal]
        first | refine wpAct_call0 (qz _ _ _ _) rfl rfl rfl rfl rfl rfl rfl rfl ?_ | done
        simp (maxSteps := 400000) -dsimp -implicitDefEqProofs (disch := first | exact TrueB.mk rfl | omega) only [go_sem, sc3, Bool.or_true, endX_ret, endX_normal]
        exact again_mk ⟨(3, _), .inr (.inr rfl), (show (3 - 3 : Nat) < 3 - 2 by decide), rfl⟩
      · simp only [boxA, boxW, zeroB]
        simp (maxSteps := 400000) -dsimp -implicitDefEqProofs (disch := first | exact TrueB.mk rfl | omega) only [go_sem, endX_ret, endX_normal]
        cases q <;> exact ⟨_, _, rfl, rfl, _, rfl⟩
    · exfalso
      have hmm : mayP 2 (openL (a, r, s)) si e = false := by unfold mayP; rw [if_neg e1, if_neg (by omega), decide_eq_false (show ¬ e < 7 by omega)]; simp [openL, a9]
      rw [hmm] at h
      simp at h
  · rcases Classical.em (a = 9) with a9 | a9
    · subst a9
      have hmm : mayP 2 (openL (9, r, s)) si e = true := by
        cases hm : mayP 2 (openL (9, r, s)) si e with
        | true => rfl
        | false => rw [hm] at h; simp at h
      rw [hmm, if_pos rfl] at h
      cases hh : hapL cf tm (ai, ri, si) e with
      | none => rw [hh] at h; simp at h
      | some w =>
      rw [hh] at h
      simp only [Option.some.injEq, Prod.mk.injEq] at h
      obtain ⟨rfl, rfl, rfl⟩ := h
      obtain ⟨qf, qg, hs⟩ := HapS_2 h1 h2 (x := (9, r, s)) (y := y) (z := (ai, ri, si)) hz hh
      have hw : okL w := hapL_ok h1 h2 hz hh
      have qy := fun mc mb mi me => HapN_1 (x := (9, r, s)) (y := y) (z := w) hy (hapL_0 cf tm y) mc mb mi me
      have qz := fun mc mb mi me => HapN_2 (x := (9, r, s)) (y := y) (z := w) hw (hapL_0 cf tm w) mc mb mi me

      unfold confV benchV sV at *
      refine RunsX.of Tryd.func29 rfl (by simp [Tryd.ntmps29]) ?_
      simp (maxSteps := 400000) -dsimp -implicitDefEqProofs (disch := first | exact TrueB.mk rfl | omega) only [go_sem, Tryd.ntmps29, endX_ret, endX_normal]
      first | refine wpAct_call0 (link_2 _) rfl rfl rfl rfl rfl rfl rfl rfl ?_ | done
      simp (maxSteps := 400000) -dsimp -implicitDefEqProofs (disch := first | exact TrueB.mk rfl | omega) only [go_sem, e9, e10, e2, e16, e7, endX_ret, endX_normal]
      first | refine wpAct_call0 (hs _ _ _ _) rfl rfl rfl rfl rfl rfl rfl rfl ?_ | done
      simp (maxSteps := 400000) -dsimp -implicitDefEqProofs (disch := first | exact TrueB.mk rfl | omega) only [go_sem, e9, e10, e2, e16, e7, sc3, Bool.or_true, endX_ret, endX_normal]
      refine wpLoop_ind (α := Nat × Bool) (fun x => match x with
        | (1, q) => ⟨[(3, .ptr 1936 0), (6, .ptr 1937 0), (10, .pure true (.bool true)), (11, .ptr 1938 0), (14, .row 1939 1), (15, .pure true (.bool true)), (16, .pure true (.int .i64 1))], [(1936, .box [.pure mc (.int .i64 cf), .pure mc (.int .i64 tm), .pure mc (.int .i64 1), .pure mc (.int .i64 0), .pure mc (.str []), .pure mc (.str []), .pure mc (.int .i64 0), .pure mc (.int .u32 0), .pure mc (.bool false)]), (1937, boxA true zeroB), (1938, boxA q ((9, r, s), y, w)), (1939, .row true 3 0 [.agg [.int .i64 32855, .int .i64 ai, .int .i64 e]])]⟩
        | (2, q) => ⟨[(3, .ptr 1936 0), (6, .ptr 1937 0), (10, .pure true (.bool true)), (11, .ptr 1938 0), (14, .row 1939 1), (15, .pure true (.bool true)), (16, .pure true (.int .i64 2))], [(1936, .box [.pure mc (.int .i64 cf), .pure mc (.int .i64 tm), .pure mc (.int .i64 1), .pure mc (.int .i64 0), .pure mc (.str []), .pure mc (.str []), .pure mc (.int .i64 0), .pure mc (.int .u32 0), .pure mc (.bool false)]), (1937, boxA true zeroB), (1938, boxA q ((9, r, s), y, w)), (1939, .row true 3 0 [.agg [.int .i64 32855, .int .i64 ai, .int .i64 e]])]⟩
        | (_, q) => ⟨[(3, .ptr 1936 0), (6, .ptr 1937 0), (10, .pure true (.bool true)), (11, .ptr 1938 0), (14, .row 1939 1), (15, .pure true (.bool true)), (16, .pure true (.int .i64 3))], [(1936, .box [.pure mc (.int .i64 cf), .pure mc (.int .i64 tm), .pure mc (.int .i64 1), .pure mc (.int .i64 0), .pure mc (.str []), .pure mc (.str []), .pure mc (.int .i64 0), .pure mc (.int .u32 0), .pure mc (.bool false)]), (1937, boxA true zeroB), (1938, boxA q ((9, r, s), y, w)), (1939, .row true 3 0 [.agg [.int .i64 32855, .int .i64 ai, .int .i64 e]])]⟩) (fun x => x.1 = 1 ∨ x.1 = 2 ∨ x.1 = 3) (fun x => 3 - x.1) ?_ (1, _) (.inl rfl) rfl
      rintro ⟨k, q⟩ hk
      simp only at hk
      rcases hk with rfl | rfl | rfl
      · simp only [boxA, boxW, zeroB]
        simp (maxSteps := 400000) -dsimp -implicitDefEqProofs (disch := first | exact TrueB.mk rfl | omega) only [go_sem, endX_ret, endX_normal]
        first | refine wpAct_call0 (qy _ _ _ _) rfl rfl rfl rfl rfl rfl rfl rfl ?_ | done
        simp (maxSteps := 400000) -dsimp -implicitDefEqProofs (disch := first | exact TrueB.mk rfl | omega) only [go_sem, sc3, Bool.or_true, endX_ret, endX_normal]
        exact again_mk ⟨(2, _), .inr (.inl rfl), (show (3 - 2 : Nat) < 3 - 1 by decide), rfl⟩
      · simp only [boxA, boxW, zeroB]
        simp (maxSteps := 400000) -dsimp -implicitDefEqProofs (disch := first | exact TrueB.mk rfl | omega) only [go_sem, endX_ret, endX_normal]
        first | refine wpAct_call0 (qz _ _ _ _) rfl rfl rfl rfl rfl rfl rfl rfl ?_ | done
        simp (maxSteps := 400000) -dsimp -implicitDefEqProofs (disch := first | exact TrueB.mk rfl | omega) only [go_sem, sc3, Bool.or_true, endX_ret, endX_normal]
        exact again_mk ⟨(3, _), .inr (.inr rfl), (show (3 - 3 : Nat) < 3 - 2 by decide), rfl⟩
      · simp only [boxA, boxW, zeroB]
        simp (maxSteps := 400000) -dsimp -implicitDefEqProofs (disch := first | exact TrueB.mk rfl | omega) only [go_sem, endX_ret, endX_normal]
        cases q <;> exact ⟨_, _, rfl, rfl, _, rfl⟩
    · have hmm : mayP 2 (openL (a, r, s)) si e = true := by
        cases hm : mayP 2 (openL (a, r, s)) si e with
        | true => rfl
        | false => rw [hm] at h; simp at h
      rw [hmm, if_pos rfl] at h
      cases hh : hapL cf tm (ai, ri, si) e with
      | none => rw [hh] at h; simp at h
      | some w =>
      rw [hh] at h
      simp only [Option.some.injEq, Prod.mk.injEq] at h
      obtain ⟨rfl, rfl, rfl⟩ := h
      obtain ⟨qf, qg, hs⟩ := HapS_2 h1 h2 (x := (a, r, s)) (y := y) (z := (ai, ri, si)) hz hh
      have hw : okL w := hapL_ok h1 h2 hz hh
      have qy := fun mc mb mi me => HapN_1 (x := (a, r, s)) (y := y) (z := w) hy (hapL_0 cf tm y) mc mb mi me
      have qz := fun mc mb mi me => HapN_2 (x := (a, r, s)) (y := y) (z := w) hw (hapL_0 cf tm w) mc mb mi me

      unfold confV benchV sV at *
      refine RunsX.of Tryd.func29 rfl (by simp [Tryd.ntmps29]) ?_
      simp (maxSteps := 400000) -dsimp -implicitDefEqProofs (disch := first | exact TrueB.mk rfl | omega) only [go_sem, Tryd.ntmps29, endX_ret, endX_normal]
      first | refine wpAct_call0 (link_2 _) rfl rfl rfl rfl rfl rfl rfl rfl ?_ | done
      simp (maxSteps := 400000) -dsimp -implicitDefEqProofs (disch := first | exact TrueB.mk rfl | omega) only [go_sem, e9, e10, e2, e16, e7, a9, endX_ret, endX_normal]
      first | refine wpAct_call0 (hs _ _ _ _) rfl rfl rfl rfl rfl rfl rfl rfl ?_ | done
      simp (maxSteps := 400000) -dsimp -implicitDefEqProofs (disch := first | exact TrueB.mk rfl | omega) only [go_sem, e9, e10, e2, e16, e7, a9, sc3, Bool.or_true, endX_ret, endX_normal]
      refine wpLoop_ind (α := Nat × Bool) (fun x => match x with
        | (1, q) => ⟨[(3, .ptr 1936 0), (6, .ptr 1937 0), (10, .pure true (.bool false)), (11, .ptr 1938 0), (14, .row 1939 1), (15, .pure true (.bool false)), (16, .pure true (.int .i64 1))], [(1936, .box [.pure mc (.int .i64 cf), .pure mc (.int .i64 tm), .pure mc (.int .i64 1), .pure mc (.int .i64 0), .pure mc (.str []), .pure mc (.str []), .pure mc (.int .i64 0), .pure mc (.int .u32 0), .pure mc (.bool false)]), (1937, boxA true zeroB), (1938, boxA q ((a, r, s), y, w)), (1939, .row true 3 0 [.agg [.int .i64 32855, .int .i64 ai, .int .i64 e]])]⟩
        | (2, q) => ⟨[(3, .ptr 1936 0), (6, .ptr 1937 0), (10, .pure true (.bool false)), (11, .ptr 1938 0), (14, .row 1939 1), (15, .pure true (.bool false)), (16, .pure true (.int .i64 2))], [(1936, .box [.pure mc (.int .i64 cf), .pure mc (.int .i64 tm), .pure mc (.int .i64 1), .pure mc (.int .i64 0), .pure mc (.str []), .pure mc (.str []), .pure mc (.int .i64 0), .pure mc (.int .u32 0), .pure mc (.bool false)]), (1937, boxA true zeroB), (1938, boxA q ((a, r, s), y, w)), (1939, .row true 3 0 [.agg [.int .i64 32855, .int .i64 ai, .int .i64 e]])]⟩
        | (_, q) => ⟨[(3, .ptr 1936 0), (6, .ptr 1937 0), (10, .pure true (.bool false)), (11, .ptr 1938 0), (14, .row 1939 1), (15, .pure true (.bool false)), (16, .pure true (.int .i64 3))], [(1936, .box [.pure mc (.int .i64 cf), .pure mc (.int .i64 tm), .pure mc (.int .i64 1), .pure mc (.int .i64 0), .pure mc (.str []), .pure mc (.str []), .pure mc (.int .i64 0), .pure mc (.int .u32 0), .pure mc (.bool false)]), (1937, boxA true zeroB), (1938, boxA q ((a, r, s), y, w)), (1939, .row true 3 0 [.agg [.int .i64 32855, .int .i64 ai, .int .i64 e]])]⟩) (fun x => x.1 = 1 ∨ x.1 = 2 ∨ x.1 = 3) (fun x => 3 - x.1) ?_ (1, _) (.inl rfl) rfl
      rintro ⟨k, q⟩ hk
      simp only at hk
      rcases hk with rfl | rfl | rfl
      · simp only [boxA, boxW, zeroB]
        simp (maxSteps := 400000) -dsimp -implicitDefEqProofs (disch := first | exact TrueB.mk rfl | omega) only [go_sem, endX_ret, endX_normal]
        first | refine wpAct_call0 (qy _ _ _ _) rfl rfl rfl rfl rfl rfl rfl rfl ?_ | done
        simp (maxSteps := 400000) -dsimp -implicitDefEqProofs (disch := first | exact TrueB.mk rfl | omega) only [go_sem, sc3, Bool.or_true, endX_ret, endX_normal]
        exact again_mk ⟨(2, _), .inr (.inl rfl), (show (3 - 2 : Nat) < 3 - 1 by decide), rfl⟩
      · simp only [boxA, boxW, zeroB]
        simp (maxSteps := 400000) -dsimp -implicitDefEqProofs (disch := first | exact TrueB.mk rfl | omega) only [go_sem, endX_ret, endX_normal]
        first | refine wpAct_call0 (qz _ _ _ _) rfl rfl rfl rfl rfl rfl rfl rfl ?_ | done
        simp (maxSteps := 400000) -dsimp -implicitDefEqProofs (disch := first | exact TrueB.mk rfl | omega) only [go_sem, sc3, Bool.or_true, endX_ret, endX_normal]
        exact again_mk ⟨(3, _), .inr (.inr rfl), (show (3 - 3 : Nat) < 3 - 2 by decide), rfl⟩
      · simp only [boxA, boxW, zeroB]
        simp (maxSteps := 400000) -dsimp -implicitDefEqProofs (disch := first | exact TrueB.mk rfl | omega) only [go_sem, endX_ret, endX_normal]
        cases q <;> exact ⟨_, _, rfl, rfl, _, rfl⟩

end Go.Proofs.YticdhmcbooabaaaDoor
