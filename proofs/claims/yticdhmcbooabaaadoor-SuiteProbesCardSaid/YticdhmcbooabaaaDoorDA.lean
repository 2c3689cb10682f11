/- YticdhmcbooabaaaDoorDA: the document: a step of LCP that can be (other events). No claim. -/
import Derived.Test.YticdhmcbooabaaaDoorD7
set_option linter.unusedVariables false
set_option linter.unusedSimpArgs false
set_option maxRecDepth 100000
namespace Go.Proofs.YticdhmcbooabaaaDoor
open Go Go.Proofs.YticdhmcbooabaaaDoor.V


set_option maxHeartbeats 64000000 in
theorem DoY_0_o {cf tm : Int} (h1 : 1 ≤ cf ∧ cf ≤ 255) (h2 : 1 ≤ tm ∧ tm ≤ 255) {a r : Int} {s : Bool} {y z : L3} (hb : okB ((a, r, s), y, z)) {e : Int} (e9 : ¬ e = 9) (e10 : ¬ e = 10) {b' : Bn} {l : List C3} {t : Bool × Bool × Bool} (h : stepL cf tm ((a, r, s), y, z) 49185 e = some (b', l, t)) (mc mb mx : Bool) :
    ∃ res S1, Runs Tryd.prog env 29 [.pure mc (confV cf tm 1), .pure mb (benchV ((a, r, s), y, z)), .pure mx (sV (49185, e))] [] res S1 ∧ (S1 = [(0, .row true 3 0 (cellsV l))] ∧ ∃ q, res = .tuple [.pure q (benchV b'), .row 0 l.length, .pure true (.bool true)]) := by
  obtain ⟨hx, hy, hz⟩ := hb
  simp only at hx hy hz
  unfold stepL at h
  rw [if_pos rfl] at h
  simp only at h
  have hmm : mayP 0 (openL (a, r, s)) s e = true := by
    cases hm : mayP 0 (openL (a, r, s)) s e with
    | true => rfl
    | false => rw [hm] at h; simp at h
  rw [hmm, if_pos rfl] at h
  cases hh : hapL cf tm (a, r, s) e with
  | none => rw [hh] at h; simp at h
  | some w =>
  rw [hh] at h
  simp only at h
  obtain ⟨a', r', s'⟩ := w
  obtain ⟨qf, qg, hs⟩ := HapS_0 h1 h2 (x := (a, r, s)) (y := y) (z := z) hx hh
  rcases Classical.em (a = 9) with a9 | a9
  · subst a9
    rcases Classical.em (a' = 9) with a9' | a9'
    · subst a9'
      have ho : openL (9, r, s) = openL (9, r', s') := by simp [openL]
      rw [if_pos ho] at h
      simp only [Option.some.injEq, Prod.mk.injEq] at h
      obtain ⟨rfl, rfl, rfl⟩ := h
      have qy := fun mc mb mi me => HapN_1 (x := (9, r', s')) (y := y) (z := z) hy (hapL_0 cf tm y) mc mb mi me
      have qz := fun mc mb mi me => HapN_2 (x := (9, r', s')) (y := y) (z := z) hz (hapL_0 cf tm z) mc mb mi me

      unfold confV benchV sV at *
      refine RunsX.of Tryd.func29 rfl (by simp [Tryd.ntmps29]) ?_
      simp (maxSteps := 400000) -dsimp -implicitDefEqProofs (disch := first | exact TrueB.mk rfl | omega) only [go_sem, Tryd.ntmps29, endX_ret, endX_normal]
      first | refine wpAct_call0 (link_0 _) rfl rfl rfl rfl rfl rfl rfl rfl ?_ | done
      simp (maxSteps := 400000) -dsimp -implicitDefEqProofs (disch := first | exact TrueB.mk rfl | omega) only [go_sem, e9, e10, endX_ret, endX_normal]
      first | refine wpAct_call0 (hs _ _ _ _) rfl rfl rfl rfl rfl rfl rfl rfl ?_ | done
      simp (maxSteps := 400000) -dsimp -implicitDefEqProofs (disch := first | exact TrueB.mk rfl | omega) only [go_sem, e9, e10, sc3, Bool.or_true, endX_ret, endX_normal]
      refine wpLoop_ind (α := Nat × Bool) (fun x => match x with
        | (1, q) => ⟨[(3, .ptr 1936 0), (6, .ptr 1937 0), (10, .pure true (.bool true)), (11, .ptr 1938 0), (14, .row 1939 1), (15, .pure true (.bool true)), (16, .pure true (.int .i64 1))], [(1936, .box [.pure mc (.int .i64 cf), .pure mc (.int .i64 tm), .pure mc (.int .i64 1), .pure mc (.int .i64 0), .pure mc (.str []), .pure mc (.str []), .pure mc (.int .i64 0), .pure mc (.int .u32 0), .pure mc (.bool false)]), (1937, boxA true zeroB), (1938, boxA q ((9, r', s'), y, z)), (1939, .row true 3 0 [.agg [.int .i64 49185, .int .i64 9, .int .i64 e]])]⟩
        | (2, q) => ⟨[(3, .ptr 1936 0), (6, .ptr 1937 0), (10, .pure true (.bool true)), (11, .ptr 1938 0), (14, .row 1939 1), (15, .pure true (.bool true)), (16, .pure true (.int .i64 2))], [(1936, .box [.pure mc (.int .i64 cf), .pure mc (.int .i64 tm), .pure mc (.int .i64 1), .pure mc (.int .i64 0), .pure mc (.str []), .pure mc (.str []), .pure mc (.int .i64 0), .pure mc (.int .u32 0), .pure mc (.bool false)]), (1937, boxA true zeroB), (1938, boxA q ((9, r', s'), y, z)), (1939, .row true 3 0 [.agg [.int .i64 49185, .int .i64 9, .int .i64 e]])]⟩
        | (_, q) => ⟨[(3, .ptr 1936 0), (6, .ptr 1937 0), (10, .pure true (.bool true)), (11, .ptr 1938 0), (14, .row 1939 1), (15, .pure true (.bool true)), (16, .pure true (.int .i64 3))], [(1936, .box [.pure mc (.int .i64 cf), .pure mc (.int .i64 tm), .pure mc (.int .i64 1), .pure mc (.int .i64 0), .pure mc (.str []), .pure mc (.str []), .pure mc (.int .i64 0), .pure mc (.int .u32 0), .pure mc (.bool false)]), (1937, boxA true zeroB), (1938, boxA q ((9, r', s'), y, z)), (1939, .row true 3 0 [.agg [.int .i64 49185, .int .i64 9, .int .i64 e]])]⟩) (fun x => x.1 = 1 ∨ x.1 = 2 ∨ x.1 = 3) (fun x => 3 - x.1) ?_ (1, _) (.inl rfl) rfl
      rintro ⟨k, q⟩ hk
      simp only at hk
      rcases hk with rfl | rfl | rfl
      · simp only [boxA, boxW, zeroB]
        simp (maxSteps := 400000) -dsimp -implicitDefEqProofs (disch := first | exact TrueB.mk rfl | omega) only [go_sem, endX_ret, endX_normal]
        first | refine wpAct_call0 (qy _ _ _ _) rfl rfl rfl rfl rfl rfl rfl rfl ?_ | done
        simp (maxSteps := 400000) -dsimp -implicitDefEqProofs (disch := first | exact TrueB.mk rfl | omega) only [go_sem, sc3, Bool.or_true, endX_ret, endX_normal]
        exact again_mk ⟨(2, _), .inr (.inl rfl), (show (3 - 2 : Nat) < 3 - 1 by decide), rfl⟩
      · simp only [boxA, boxW, zeroB]
        simp (maxSteps := 400000) -dsimp -implicitDefEqProofs (disch := first | exact TrueB.mk rfl | omega) only [go_sem, endX_ret, endX_normal]
        first | refine wpAct_call0 (qz _ _ _ _) rfl rfl rfl rfl rfl rfl rfl rfl ?_ | done
        simp (maxSteps := 400000) -dsimp -implicitDefEqProofs (disch := first | exact TrueB.mk rfl | omega) only [go_sem, sc3, Bool.or_true, endX_ret, endX_normal]
        exact again_mk ⟨(3, _), .inr (.inr rfl), (show (3 - 3 : Nat) < 3 - 2 by decide), rfl⟩
      · simp only [boxA, boxW, zeroB]
        simp (maxSteps := 400000) -dsimp -implicitDefEqProofs (disch := first | exact TrueB.mk rfl | omega) only [go_sem, endX_ret, endX_normal]
        cases q <;> exact ⟨_, _, rfl, rfl, _, rfl⟩
    · have ho : ¬ openL (9, r, s) = openL (a', r', s') := by simp [openL, a9']
      have hv : openL (a', r', s') = false := by simp [openL, a9']
      rw [if_neg ho, hv] at h
      simp only [if_true, Bool.false_eq_true, if_false] at h
      unfold follL at h
      cases ey : hapL cf tm y 2 with
      | none =>
        rw [ey] at h
        cases ez : hapL cf tm z 2 with
        | none =>
          rw [ez] at h
          simp only [Option.some.injEq, Prod.mk.injEq] at h
          obtain ⟨rfl, rfl, rfl⟩ := h
          have qy := fun mc mb mi me => HapN_1 (x := (a', r', s')) (y := y) (z := z) hy ey mc mb mi me
          have qz := fun mc mb mi me => HapN_2 (x := (a', r', s')) (y := y) (z := z) hz ez mc mb mi me

          unfold confV benchV sV at *
          refine RunsX.of Tryd.func29 rfl (by simp [Tryd.ntmps29]) ?_
          simp (maxSteps := 400000) -dsimp -implicitDefEqProofs (disch := first | exact TrueB.mk rfl | omega) only [go_sem, Tryd.ntmps29, endX_ret, endX_normal]
          first | refine wpAct_call0 (link_0 _) rfl rfl rfl rfl rfl rfl rfl rfl ?_ | done
          simp (maxSteps := 400000) -dsimp -implicitDefEqProofs (disch := first | exact TrueB.mk rfl | omega) only [go_sem, e9, e10, a9', endX_ret, endX_normal]
          first | refine wpAct_call0 (hs _ _ _ _) rfl rfl rfl rfl rfl rfl rfl rfl ?_ | done
          simp (maxSteps := 400000) -dsimp -implicitDefEqProofs (disch := first | exact TrueB.mk rfl | omega) only [go_sem, e9, e10, a9', sc3, Bool.or_true, endX_ret, endX_normal]
          refine wpLoop_ind (α := Nat × Bool) (fun x => match x with
            | (1, q) => ⟨[(3, .ptr 1936 0), (6, .ptr 1937 0), (10, .pure true (.bool true)), (11, .ptr 1938 0), (14, .row 1939 1), (15, .pure true (.bool false)), (16, .pure true (.int .i64 1))], [(1936, .box [.pure mc (.int .i64 cf), .pure mc (.int .i64 tm), .pure mc (.int .i64 1), .pure mc (.int .i64 0), .pure mc (.str []), .pure mc (.str []), .pure mc (.int .i64 0), .pure mc (.int .u32 0), .pure mc (.bool false)]), (1937, boxA true zeroB), (1938, boxA q ((a', r', s'), y, z)), (1939, .row true 3 0 [.agg [.int .i64 49185, .int .i64 9, .int .i64 e]])]⟩
            | (2, q) => ⟨[(3, .ptr 1936 0), (6, .ptr 1937 0), (10, .pure true (.bool true)), (11, .ptr 1938 0), (14, .row 1939 1), (15, .pure true (.bool false)), (16, .pure true (.int .i64 2))], [(1936, .box [.pure mc (.int .i64 cf), .pure mc (.int .i64 tm), .pure mc (.int .i64 1), .pure mc (.int .i64 0), .pure mc (.str []), .pure mc (.str []), .pure mc (.int .i64 0), .pure mc (.int .u32 0), .pure mc (.bool false)]), (1937, boxA true zeroB), (1938, boxA q ((a', r', s'), y, z)), (1939, .row true 3 0 [.agg [.int .i64 49185, .int .i64 9, .int .i64 e]])]⟩
            | (_, q) => ⟨[(3, .ptr 1936 0), (6, .ptr 1937 0), (10, .pure true (.bool true)), (11, .ptr 1938 0), (14, .row 1939 1), (15, .pure true (.bool false)), (16, .pure true (.int .i64 3))], [(1936, .box [.pure mc (.int .i64 cf), .pure mc (.int .i64 tm), .pure mc (.int .i64 1), .pure mc (.int .i64 0), .pure mc (.str []), .pure mc (.str []), .pure mc (.int .i64 0), .pure mc (.int .u32 0), .pure mc (.bool false)]), (1937, boxA true zeroB), (1938, boxA q ((a', r', s'), y, z)), (1939, .row true 3 0 [.agg [.int .i64 49185, .int .i64 9, .int .i64 e]])]⟩) (fun x => x.1 = 1 ∨ x.1 = 2 ∨ x.1 = 3) (fun x => 3 - x.1) ?_ (1, _) (.inl rfl) rfl
          rintro ⟨k, q⟩ hk
          simp only at hk
          rcases hk with rfl | rfl | rfl
          · simp only [boxA, boxW, zeroB]
            simp (maxSteps := 400000) -dsimp -implicitDefEqProofs (disch := first | exact TrueB.mk rfl | omega) only [go_sem, endX_ret, endX_normal]
            first | refine wpAct_call0 (qy _ _ _ _) rfl rfl rfl rfl rfl rfl rfl rfl ?_ | done
            simp (maxSteps := 400000) -dsimp -implicitDefEqProofs (disch := first | exact TrueB.mk rfl | omega) only [go_sem, sc3, Bool.or_true, endX_ret, endX_normal]
            exact again_mk ⟨(2, _), .inr (.inl rfl), (show (3 - 2 : Nat) < 3 - 1 by decide), rfl⟩
          · simp only [boxA, boxW, zeroB]
            simp (maxSteps := 400000) -dsimp -implicitDefEqProofs (disch := first | exact TrueB.mk rfl | omega) only [go_sem, endX_ret, endX_normal]
            first | refine wpAct_call0 (qz _ _ _ _) rfl rfl rfl rfl rfl rfl rfl rfl ?_ | done
            simp (maxSteps := 400000) -dsimp -implicitDefEqProofs (disch := first | exact TrueB.mk rfl | omega) only [go_sem, sc3, Bool.or_true, endX_ret, endX_normal]
            exact again_mk ⟨(3, _), .inr (.inr rfl), (show (3 - 3 : Nat) < 3 - 2 by decide), rfl⟩
          · simp only [boxA, boxW, zeroB]
            simp (maxSteps := 400000) -dsimp -implicitDefEqProofs (disch := first | exact TrueB.mk rfl | omega) only [go_sem, endX_ret, endX_normal]
            cases q <;> exact ⟨_, _, rfl, rfl, _, rfl⟩
        | some t2 =>
          rw [ez] at h
          simp only [Option.some.injEq, Prod.mk.injEq] at h
          obtain ⟨rfl, rfl, rfl⟩ := h
          have qy := fun mc mb mi me => HapN_1 (x := (a', r', s')) (y := y) (z := z) hy ey mc mb mi me
          obtain ⟨qf2, qg2, qz⟩ := HapS_2 h1 h2 (x := (a', r', s')) (y := y) (z := z) hz ez

          unfold confV benchV sV at *
          refine RunsX.of Tryd.func29 rfl (by simp [Tryd.ntmps29]) ?_
          simp (maxSteps := 400000) -dsimp -implicitDefEqProofs (disch := first | exact TrueB.mk rfl | omega) only [go_sem, Tryd.ntmps29, endX_ret, endX_normal]
          first | refine wpAct_call0 (link_0 _) rfl rfl rfl rfl rfl rfl rfl rfl ?_ | done
          simp (maxSteps := 400000) -dsimp -implicitDefEqProofs (disch := first | exact TrueB.mk rfl | omega) only [go_sem, e9, e10, a9', endX_ret, endX_normal]
          first | refine wpAct_call0 (hs _ _ _ _) rfl rfl rfl rfl rfl rfl rfl rfl ?_ | done
          simp (maxSteps := 400000) -dsimp -implicitDefEqProofs (disch := first | exact TrueB.mk rfl | omega) only [go_sem, e9, e10, a9', sc3, Bool.or_true, endX_ret, endX_normal]
          refine wpLoop_ind (α := Nat × Bool) (fun x => match x with
            | (1, q) => ⟨[(3, .ptr 1936 0), (6, .ptr 1937 0), (10, .pure true (.bool true)), (11, .ptr 1938 0), (14, .row 1939 1), (15, .pure true (.bool false)), (16, .pure true (.int .i64 1))], [(1936, .box [.pure mc (.int .i64 cf), .pure mc (.int .i64 tm), .pure mc (.int .i64 1), .pure mc (.int .i64 0), .pure mc (.str []), .pure mc (.str []), .pure mc (.int .i64 0), .pure mc (.int .u32 0), .pure mc (.bool false)]), (1937, boxA true zeroB), (1938, boxA q ((a', r', s'), y, z)), (1939, .row true 3 0 [.agg [.int .i64 49185, .int .i64 9, .int .i64 e]])]⟩
            | (2, q) => ⟨[(3, .ptr 1936 0), (6, .ptr 1937 0), (10, .pure true (.bool true)), (11, .ptr 1938 0), (14, .row 1939 1), (15, .pure true (.bool false)), (16, .pure true (.int .i64 2))], [(1936, .box [.pure mc (.int .i64 cf), .pure mc (.int .i64 tm), .pure mc (.int .i64 1), .pure mc (.int .i64 0), .pure mc (.str []), .pure mc (.str []), .pure mc (.int .i64 0), .pure mc (.int .u32 0), .pure mc (.bool false)]), (1937, boxA true zeroB), (1938, boxA q ((a', r', s'), y, z)), (1939, .row true 3 0 [.agg [.int .i64 49185, .int .i64 9, .int .i64 e]])]⟩
            | (_, q) => ⟨[(3, .ptr 1936 0), (6, .ptr 1937 0), (10, .pure true (.bool true)), (11, .ptr 1938 0), (14, .row 1939 2), (15, .pure true (.bool false)), (16, .pure true (.int .i64 3))], [(1936, .box [.pure mc (.int .i64 cf), .pure mc (.int .i64 tm), .pure mc (.int .i64 1), .pure mc (.int .i64 0), .pure mc (.str []), .pure mc (.str []), .pure mc (.int .i64 0), .pure mc (.int .u32 0), .pure mc (.bool false)]), (1937, boxA true zeroB), (1938, boxA q ((a', r', s'), y, t2)), (1939, .row true 3 1 [.agg [.int .i64 49185, .int .i64 9, .int .i64 e], .agg [.int .i64 32855, .int .i64 z.1, .int .i64 2]])]⟩) (fun x => x.1 = 1 ∨ x.1 = 2 ∨ x.1 = 3) (fun x => 3 - x.1) ?_ (1, _) (.inl rfl) rfl
          rintro ⟨k, q⟩ hk
          simp only at hk
          rcases hk with rfl | rfl | rfl
          · simp only [boxA, boxW, zeroB]
            simp (maxSteps := 400000) -dsimp -implicitDefEqProofs (disch := first | exact TrueB.mk rfl | omega) only [go_sem, endX_ret, endX_normal]
            first | refine wpAct_call0 (qy _ _ _ _) rfl rfl rfl rfl rfl rfl rfl rfl ?_ | done
            simp (maxSteps := 400000) -dsimp -implicitDefEqProofs (disch := first | exact TrueB.mk rfl | omega) only [go_sem, sc3, Bool.or_true, endX_ret, endX_normal]
            exact again_mk ⟨(2, _), .inr (.inl rfl), (show (3 - 2 : Nat) < 3 - 1 by decide), rfl⟩
          · simp only [boxA, boxW, zeroB]
            simp (maxSteps := 400000) -dsimp -implicitDefEqProofs (disch := first | exact TrueB.mk rfl | omega) only [go_sem, endX_ret, endX_normal]
            first | refine wpAct_call0 (qz _ _ _ _) rfl rfl rfl rfl rfl rfl rfl rfl ?_ | done
            simp (maxSteps := 400000) -dsimp -implicitDefEqProofs (disch := first | exact TrueB.mk rfl | omega) only [go_sem, sc3, Bool.or_true, endX_ret, endX_normal]
            exact again_mk ⟨(3, _), .inr (.inr rfl), (show (3 - 3 : Nat) < 3 - 2 by decide), rfl⟩
          · simp only [boxA, boxW, zeroB]
            simp (maxSteps := 400000) -dsimp -implicitDefEqProofs (disch := first | exact TrueB.mk rfl | omega) only [go_sem, endX_ret, endX_normal]
            cases q <;> exact ⟨_, _, rfl, rfl, _, rfl⟩
      | some u =>
        rw [ey] at h
        cases ez : hapL cf tm z 2 with
        | none =>
          rw [ez] at h
          simp only [Option.some.injEq, Prod.mk.injEq] at h
          obtain ⟨rfl, rfl, rfl⟩ := h
          obtain ⟨qf1, qg1, qy⟩ := HapS_1 h1 h2 (x := (a', r', s')) (y := y) (z := z) hy ey
          have qz := fun mc mb mi me => HapN_2 (x := (a', r', s')) (y := u) (z := z) hz ez mc mb mi me

          unfold confV benchV sV at *
          refine RunsX.of Tryd.func29 rfl (by simp [Tryd.ntmps29]) ?_
          simp (maxSteps := 400000) -dsimp -implicitDefEqProofs (disch := first | exact TrueB.mk rfl | omega) only [go_sem, Tryd.ntmps29, endX_ret, endX_normal]
          first | refine wpAct_call0 (link_0 _) rfl rfl rfl rfl rfl rfl rfl rfl ?_ | done
          simp (maxSteps := 400000) -dsimp -implicitDefEqProofs (disch := first | exact TrueB.mk rfl | omega) only [go_sem, e9, e10, a9', endX_ret, endX_normal]
          first | refine wpAct_call0 (hs _ _ _ _) rfl rfl rfl rfl rfl rfl rfl rfl ?_ | done
          simp (maxSteps := 400000) -dsimp -implicitDefEqProofs (disch := first | exact TrueB.mk rfl | omega) only [go_sem, e9, e10, a9', sc3, Bool.or_true, endX_ret, endX_normal]
          refine wpLoop_ind (α := Nat × Bool) (fun x => match x with
            | (1, q) => ⟨[(3, .ptr 1936 0), (6, .ptr 1937 0), (10, .pure true (.bool true)), (11, .ptr 1938 0), (14, .row 1939 1), (15, .pure true (.bool false)), (16, .pure true (.int .i64 1))], [(1936, .box [.pure mc (.int .i64 cf), .pure mc (.int .i64 tm), .pure mc (.int .i64 1), .pure mc (.int .i64 0), .pure mc (.str []), .pure mc (.str []), .pure mc (.int .i64 0), .pure mc (.int .u32 0), .pure mc (.bool false)]), (1937, boxA true zeroB), (1938, boxA q ((a', r', s'), y, z)), (1939, .row true 3 0 [.agg [.int .i64 49185, .int .i64 9, .int .i64 e]])]⟩
            | (2, q) => ⟨[(3, .ptr 1936 0), (6, .ptr 1937 0), (10, .pure true (.bool true)), (11, .ptr 1938 0), (14, .row 1939 2), (15, .pure true (.bool false)), (16, .pure true (.int .i64 2))], [(1936, .box [.pure mc (.int .i64 cf), .pure mc (.int .i64 tm), .pure mc (.int .i64 1), .pure mc (.int .i64 0), .pure mc (.str []), .pure mc (.str []), .pure mc (.int .i64 0), .pure mc (.int .u32 0), .pure mc (.bool false)]), (1937, boxA true zeroB), (1938, boxA q ((a', r', s'), u, z)), (1939, .row true 3 1 [.agg [.int .i64 49185, .int .i64 9, .int .i64 e], .agg [.int .i64 32801, .int .i64 y.1, .int .i64 2]])]⟩
            | (_, q) => ⟨[(3, .ptr 1936 0), (6, .ptr 1937 0), (10, .pure true (.bool true)), (11, .ptr 1938 0), (14, .row 1939 2), (15, .pure true (.bool false)), (16, .pure true (.int .i64 3))], [(1936, .box [.pure mc (.int .i64 cf), .pure mc (.int .i64 tm), .pure mc (.int .i64 1), .pure mc (.int .i64 0), .pure mc (.str []), .pure mc (.str []), .pure mc (.int .i64 0), .pure mc (.int .u32 0), .pure mc (.bool false)]), (1937, boxA true zeroB), (1938, boxA q ((a', r', s'), u, z)), (1939, .row true 3 1 [.agg [.int .i64 49185, .int .i64 9, .int .i64 e], .agg [.int .i64 32801, .int .i64 y.1, .int .i64 2]])]⟩) (fun x => x.1 = 1 ∨ x.1 = 2 ∨ x.1 = 3) (fun x => 3 - x.1) ?_ (1, _) (.inl rfl) rfl
          rintro ⟨k, q⟩ hk
          simp only at hk
          rcases hk with rfl | rfl | rfl
          · simp only [boxA, boxW, zeroB]
            simp (maxSteps := 400000) -dsimp -implicitDefEqProofs (disch := first | exact TrueB.mk rfl | omega) only [go_sem, endX_ret, endX_normal]
            first | refine wpAct_call0 (qy _ _ _ _) rfl rfl rfl rfl rfl rfl rfl rfl ?_ | done
            simp (maxSteps := 400000) -dsimp -implicitDefEqProofs (disch := first | exact TrueB.mk rfl | omega) only [go_sem, sc3, Bool.or_true, endX_ret, endX_normal]
            exact again_mk ⟨(2, _), .inr (.inl rfl), (show (3 - 2 : Nat) < 3 - 1 by decide), rfl⟩
          · simp only [boxA, boxW, zeroB]
            simp (maxSteps := 400000) -dsimp -implicitDefEqProofs (disch := first | exact TrueB.mk rfl | omega) only [go_sem, endX_ret, endX_normal]
            first | refine wpAct_call0 (qz _ _ _ _) rfl rfl rfl rfl rfl rfl rfl rfl ?_ | done
            simp (maxSteps := 400000) -dsimp -implicitDefEqProofs (disch := first | exact TrueB.mk rfl | omega) only [go_sem, sc3, Bool.or_true, endX_ret, endX_normal]
            exact again_mk ⟨(3, _), .inr (.inr rfl), (show (3 - 3 : Nat) < 3 - 2 by decide), rfl⟩
          · simp only [boxA, boxW, zeroB]
            simp (maxSteps := 400000) -dsimp -implicitDefEqProofs (disch := first | exact TrueB.mk rfl | omega) only [go_sem, endX_ret, endX_normal]
            cases q <;> exact ⟨_, _, rfl, rfl, _, rfl⟩
        | some t2 =>
          rw [ez] at h
          simp only [Option.some.injEq, Prod.mk.injEq] at h
          obtain ⟨rfl, rfl, rfl⟩ := h
          obtain ⟨qf1, qg1, qy⟩ := HapS_1 h1 h2 (x := (a', r', s')) (y := y) (z := z) hy ey
          obtain ⟨qf2, qg2, qz⟩ := HapS_2 h1 h2 (x := (a', r', s')) (y := u) (z := z) hz ez

          unfold confV benchV sV at *
          refine RunsX.of Tryd.func29 rfl (by simp [Tryd.ntmps29]) ?_
          simp (maxSteps := 400000) -dsimp -implicitDefEqProofs (disch := first | exact TrueB.mk rfl | omega) only [go_sem, Tryd.ntmps29, endX_ret, endX_normal]
          first | refine wpAct_call0 (link_0 _) rfl rfl rfl rfl rfl rfl rfl rfl ?_ | done
          simp (maxSteps := 400000) -dsimp -implicitDefEqProofs (disch := first | exact TrueB.mk rfl | omega) only [go_sem, e9, e10, a9', endX_ret, endX_normal]
          first | refine wpAct_call0 (hs _ _ _ _) rfl rfl rfl rfl rfl rfl rfl rfl ?_ | done
          simp (maxSteps := 400000) -dsimp -implicitDefEqProofs (disch := first | exact TrueB.mk rfl | omega) only [go_sem, e9, e10, a9', sc3, Bool.or_true, endX_ret, endX_normal]
          refine wpLoop_ind (α := Nat × Bool) (fun x => match x with
            | (1, q) => ⟨[(3, .ptr 1936 0), (6, .ptr 1937 0), (10, .pure true (.bool true)), (11, .ptr 1938 0), (14, .row 1939 1), (15, .pure true (.bool false)), (16, .pure true (.int .i64 1))], [(1936, .box [.pure mc (.int .i64 cf), .pure mc (.int .i64 tm), .pure mc (.int .i64 1), .pure mc (.int .i64 0), .pure mc (.str []), .pure mc (.str []), .pure mc (.int .i64 0), .pure mc (.int .u32 0), .pure mc (.bool false)]), (1937, boxA true zeroB), (1938, boxA q ((a', r', s'), y, z)), (1939, .row true 3 0 [.agg [.int .i64 49185, .int .i64 9, .int .i64 e]])]⟩
            | (2, q) => ⟨[(3, .ptr 1936 0), (6, .ptr 1937 0), (10, .pure true (.bool true)), (11, .ptr 1938 0), (14, .row 1939 2), (15, .pure true (.bool false)), (16, .pure true (.int .i64 2))], [(1936, .box [.pure mc (.int .i64 cf), .pure mc (.int .i64 tm), .pure mc (.int .i64 1), .pure mc (.int .i64 0), .pure mc (.str []), .pure mc (.str []), .pure mc (.int .i64 0), .pure mc (.int .u32 0), .pure mc (.bool false)]), (1937, boxA true zeroB), (1938, boxA q ((a', r', s'), u, z)), (1939, .row true 3 1 [.agg [.int .i64 49185, .int .i64 9, .int .i64 e], .agg [.int .i64 32801, .int .i64 y.1, .int .i64 2]])]⟩
            | (_, q) => ⟨[(3, .ptr 1936 0), (6, .ptr 1937 0), (10, .pure true (.bool true)), (11, .ptr 1938 0), (14, .row 1939 3), (15, .pure true (.bool false)), (16, .pure true (.int .i64 3))], [(1936, .box [.pure mc (.int .i64 cf), .pure mc (.int .i64 tm), .pure mc (.int .i64 1), .pure mc (.int .i64 0), .pure mc (.str []), .pure mc (.str []), .pure mc (.int .i64 0), .pure mc (.int .u32 0), .pure mc (.bool false)]), (1937, boxA true zeroB), (1938, boxA q ((a', r', s'), u, t2)), (1939, .row true 3 2 [.agg [.int .i64 49185, .int .i64 9, .int .i64 e], .agg [.int .i64 32801, .int .i64 y.1, .int .i64 2], .agg [.int .i64 32855, .int .i64 z.1, .int .i64 2]])]⟩) (fun x => x.1 = 1 ∨ x.1 = 2 ∨ x.1 = 3) (fun x => 3 - x.1) ?_ (1, _) (.inl rfl) rfl
          rintro ⟨k, q⟩ hk
          simp only at hk
          rcases hk with rfl | rfl | rfl
          · simp only [boxA, boxW, zeroB]
            simp (maxSteps := 400000) -dsimp -implicitDefEqProofs (disch := first | exact TrueB.mk rfl | omega) only [go_sem, endX_ret, endX_normal]
            first | refine wpAct_call0 (qy _ _ _ _) rfl rfl rfl rfl rfl rfl rfl rfl ?_ | done
            simp (maxSteps := 400000) -dsimp -implicitDefEqProofs (disch := first | exact TrueB.mk rfl | omega) only [go_sem, sc3, Bool.or_true, endX_ret, endX_normal]
            exact again_mk ⟨(2, _), .inr (.inl rfl), (show (3 - 2 : Nat) < 3 - 1 by decide), rfl⟩
          · simp only [boxA, boxW, zeroB]
            simp (maxSteps := 400000) -dsimp -implicitDefEqProofs (disch := first | exact TrueB.mk rfl | omega) only [go_sem, endX_ret, endX_normal]
            first | refine wpAct_call0 (qz _ _ _ _) rfl rfl rfl rfl rfl rfl rfl rfl ?_ | done
            simp (maxSteps := 400000) -dsimp -implicitDefEqProofs (disch := first | exact TrueB.mk rfl | omega) only [go_sem, sc3, Bool.or_true, endX_ret, endX_normal]
            exact again_mk ⟨(3, _), .inr (.inr rfl), (show (3 - 3 : Nat) < 3 - 2 by decide), rfl⟩
          · simp only [boxA, boxW, zeroB]
            simp (maxSteps := 400000) -dsimp -implicitDefEqProofs (disch := first | exact TrueB.mk rfl | omega) only [go_sem, endX_ret, endX_normal]
            cases q <;> exact ⟨_, _, rfl, rfl, _, rfl⟩
  · rcases Classical.em (a' = 9) with a9' | a9'
    · subst a9'
      have ho : ¬ openL (a, r, s) = openL (9, r', s') := by simp [openL, a9]
      have hv : openL (9, r', s') = true := by simp [openL]
      rw [if_neg ho, hv] at h
      simp only [if_true, Bool.false_eq_true, if_false] at h
      unfold follL at h
      cases ey : hapL cf tm y 1 with
      | none =>
        rw [ey] at h
        cases ez : hapL cf tm z 1 with
        | none =>
          rw [ez] at h
          simp only [Option.some.injEq, Prod.mk.injEq] at h
          obtain ⟨rfl, rfl, rfl⟩ := h
          have qy := fun mc mb mi me => HapN_1 (x := (9, r', s')) (y := y) (z := z) hy ey mc mb mi me
          have qz := fun mc mb mi me => HapN_2 (x := (9, r', s')) (y := y) (z := z) hz ez mc mb mi me

          unfold confV benchV sV at *
          refine RunsX.of Tryd.func29 rfl (by simp [Tryd.ntmps29]) ?_
          simp (maxSteps := 400000) -dsimp -implicitDefEqProofs (disch := first | exact TrueB.mk rfl | omega) only [go_sem, Tryd.ntmps29, endX_ret, endX_normal]
          first | refine wpAct_call0 (link_0 _) rfl rfl rfl rfl rfl rfl rfl rfl ?_ | done
          simp (maxSteps := 400000) -dsimp -implicitDefEqProofs (disch := first | exact TrueB.mk rfl | omega) only [go_sem, e9, e10, a9, endX_ret, endX_normal]
          first | refine wpAct_call0 (hs _ _ _ _) rfl rfl rfl rfl rfl rfl rfl rfl ?_ | done
          simp (maxSteps := 400000) -dsimp -implicitDefEqProofs (disch := first | exact TrueB.mk rfl | omega) only [go_sem, e9, e10, a9, sc3, Bool.or_true, endX_ret, endX_normal]
          refine wpLoop_ind (α := Nat × Bool) (fun x => match x with
            | (1, q) => ⟨[(3, .ptr 1936 0), (6, .ptr 1937 0), (10, .pure true (.bool false)), (11, .ptr 1938 0), (14, .row 1939 1), (15, .pure true (.bool true)), (16, .pure true (.int .i64 1))], [(1936, .box [.pure mc (.int .i64 cf), .pure mc (.int .i64 tm), .pure mc (.int .i64 1), .pure mc (.int .i64 0), .pure mc (.str []), .pure mc (.str []), .pure mc (.int .i64 0), .pure mc (.int .u32 0), .pure mc (.bool false)]), (1937, boxA true zeroB), (1938, boxA q ((9, r', s'), y, z)), (1939, .row true 3 0 [.agg [.int .i64 49185, .int .i64 a, .int .i64 e]])]⟩
            | (2, q) => ⟨[(3, .ptr 1936 0), (6, .ptr 1937 0), (10, .pure true (.bool false)), (11, .ptr 1938 0), (14, .row 1939 1), (15, .pure true (.bool true)), (16, .pure true (.int .i64 2))], [(1936, .box [.pure mc (.int .i64 cf), .pure mc (.int .i64 tm), .pure mc (.int .i64 1), .pure mc (.int .i64 0), .pure mc (.str []), .pure mc (.str []), .pure mc (.int .i64 0), .pure mc (.int .u32 0), .pure mc (.bool false)]), (1937, boxA true zeroB), (1938, boxA q ((9, r', s'), y, z)), (1939, .row true 3 0 [.agg [.int .i64 49185, .int .i64 a, .int .i64 e]])]⟩
            | (_, q) => ⟨[(3, .ptr 1936 0), (6, .ptr 1937 0), (10, .pure true (.bool false)), (11, .ptr 1938 0), (14, .row 1939 1), (15, .pure true (.bool true)), (16, .pure true (.int .i64 3))], [(1936, .box [.pure mc (.int .i64 cf), .pure mc (.int .i64 tm), .pure mc (.int .i64 1), .pure mc (.int .i64 0), .pure mc (.str []), .pure mc (.str []), .pure mc (.int .i64 0), .pure mc (.int .u32 0), .pure mc (.bool false)]), (1937, boxA true zeroB), (1938, boxA q ((9, r', s'), y, z)), (1939, .row true 3 0 [.agg [.int .i64 49185, .int .i64 a, .int .i64 e]])]⟩) (fun x => x.1 = 1 ∨ x.1 = 2 ∨ x.1 = 3) (fun x => 3 - x.1) ?_ (1, _) (.inl rfl) rfl
          rintro ⟨k, q⟩ hk
          simp only at hk
          rcases hk with rfl | rfl | rfl
          · simp only [boxA, boxW, zeroB]
            simp (maxSteps := 400000) -dsimp -implicitDefEqProofs (disch := first | exact TrueB.mk rfl | omega) only [go_sem, endX_ret, endX_normal]
            first | refine wpAct_call0 (qy _ _ _ _) rfl rfl rfl rfl rfl rfl rfl rfl ?_ | done
            simp (maxSteps := 400000) -dsimp -implicitDefEqProofs (disch := first | exact TrueB.mk rfl | omega) only [go_sem, sc3, Bool.or_true, endX_ret, endX_normal]
            exact again_mk ⟨(2, _), .inr (.inl rfl), (show (3 - 2 : Nat) < 3 - 1 by decide), rfl⟩
          · simp only [boxA, boxW, zeroB]
            simp (maxSteps := 400000) -dsimp -implicitDefEqProofs (disch := first | exact TrueB.mk rfl | omega) only [go_sem, endX_ret, endX_normal]
            first | refine wpAct_call0 (qz _ _ _ _) rfl rfl rfl rfl rfl rfl rfl rfl ?_ | done
            simp (maxSteps := 400000) -dsimp -implicitDefEqProofs (disch := first | exact TrueB.mk rfl | omega) only [go_sem, sc3, Bool.or_true, endX_ret, endX_normal]
            exact again_mk ⟨(3, _), .inr (.inr rfl), (show (3 - 3 : Nat) < 3 - 2 by decide), rfl⟩
          · simp only [boxA, boxW, zeroB]
            simp (maxSteps := 400000) -dsimp -implicitDefEqProofs (disch := first | exact TrueB.mk rfl | omega) only [go_sem, endX_ret, endX_normal]
            cases q <;> exact ⟨_, _, rfl, rfl, _, rfl⟩
        | some t2 =>
          rw [ez] at h
          simp only [Option.some.injEq, Prod.mk.injEq] at h
          obtain ⟨rfl, rfl, rfl⟩ := h
          have qy := fun mc mb mi me => HapN_1 (x := (9, r', s')) (y := y) (z := z) hy ey mc mb mi me
          obtain ⟨qf2, qg2, qz⟩ := HapS_2 h1 h2 (x := (9, r', s')) (y := y) (z := z) hz ez

          unfold confV benchV sV at *
          refine RunsX.of Tryd.func29 rfl (by simp [Tryd.ntmps29]) ?_
          simp (maxSteps := 400000) -dsimp -implicitDefEqProofs (disch := first | exact TrueB.mk rfl | omega) only [go_sem, Tryd.ntmps29, endX_ret, endX_normal]
          first | refine wpAct_call0 (link_0 _) rfl rfl rfl rfl rfl rfl rfl rfl ?_ | done
          simp (maxSteps := 400000) -dsimp -implicitDefEqProofs (disch := first | exact TrueB.mk rfl | omega) only [go_sem, e9, e10, a9, endX_ret, endX_normal]
          first | refine wpAct_call0 (hs _ _ _ _) rfl rfl rfl rfl rfl rfl rfl rfl ?_ | done
          simp (maxSteps := 400000) -dsimp -implicitDefEqProofs (disch := first | exact TrueB.mk rfl | omega) only [go_sem, e9, e10, a9, sc3, Bool.or_true, endX_ret, endX_normal]
          refine wpLoop_ind (α := Nat × Bool) (fun x => match x with
            | (1, q) => ⟨[(3, .ptr 1936 0), (6, .ptr 1937 0), (10, .pure true (.bool false)), (11, .ptr 1938 0), (14, .row 1939 1), (15, .pure true (.bool true)), (16, .pure true (.int .i64 1))], [(1936, .box [.pure mc (.int .i64 cf), .pure mc (.int .i64 tm), .pure mc (.int .i64 1), .pure mc (.int .i64 0), .pure mc (.str []), .pure mc (.str []), .pure mc (.int .i64 0), .pure mc (.int .u32 0), .pure mc (.bool false)]), (1937, boxA true zeroB), (1938, boxA q ((9, r', s'), y, z)), (1939, .row true 3 0 [.agg [.int .i64 49185, .int .i64 a, .int .i64 e]])]⟩
            | (2, q) => ⟨[(3, .ptr 1936 0), (6, .ptr 1937 0), (10, .pure true (.bool false)), (11, .ptr 1938 0), (14, .row 1939 1), (15, .pure true (.bool true)), (16, .pure true (.int .i64 2))], [(1936, .box [.pure mc (.int .i64 cf), .pure mc (.int .i64 tm), .pure mc (.int .i64 1), .pure mc (.int .i64 0), .pure mc (.str []), .pure mc (.str []), .pure mc (.int .i64 0), .pure mc (.int .u32 0), .pure mc (.bool false)]), (1937, boxA true zeroB), (1938, boxA q ((9, r', s'), y, z)), (1939, .row true 3 0 [.agg [.int .i64 49185, .int .i64 a, .int .i64 e]])]⟩
            | (_, q) => ⟨[(3, .ptr 1936 0), (6, .ptr 1937 0), (10, .pure true (.bool false)), (11, .ptr 1938 0), (14, .row 1939 2), (15, .pure true (.bool true)), (16, .pure true (.int .i64 3))], [(1936, .box [.pure mc (.int .i64 cf), .pure mc (.int .i64 tm), .pure mc (.int .i64 1), .pure mc (.int .i64 0), .pure mc (.str []), .pure mc (.str []), .pure mc (.int .i64 0), .pure mc (.int .u32 0), .pure mc (.bool false)]), (1937, boxA true zeroB), (1938, boxA q ((9, r', s'), y, t2)), (1939, .row true 3 1 [.agg [.int .i64 49185, .int .i64 a, .int .i64 e], .agg [.int .i64 32855, .int .i64 z.1, .int .i64 1]])]⟩) (fun x => x.1 = 1 ∨ x.1 = 2 ∨ x.1 = 3) (fun x => 3 - x.1) ?_ (1, _) (.inl rfl) rfl
          rintro ⟨k, q⟩ hk
          simp only at hk
          rcases hk with rfl | rfl | rfl
          · simp only [boxA, boxW, zeroB]
            simp (maxSteps := 400000) -dsimp -implicitDefEqProofs (disch := first | exact TrueB.mk rfl | omega) only [go_sem, endX_ret, endX_normal]
            first | refine wpAct_call0 (qy _ _ _ _) rfl rfl rfl rfl rfl rfl rfl rfl ?_ | done
            simp (maxSteps := 400000) -dsimp -implicitDefEqProofs (disch := first | exact TrueB.mk rfl | omega) only [go_sem, sc3, Bool.or_true, endX_ret, endX_normal]
            exact again_mk ⟨(2, _), .inr (.inl rfl), (show (3 - 2 : Nat) < 3 - 1 by decide), rfl⟩
          · simp only [boxA, boxW, zeroB]
            simp (maxSteps := 400000) -dsimp -implicitDefEqProofs (disch := first | exact TrueB.mk rfl | omega) only [go_sem, endX_ret, endX_normal]
            first | refine wpAct_call0 (qz _ _ _ _) rfl rfl rfl rfl rfl rfl rfl rfl ?_ | done
            simp (maxSteps := 400000) -dsimp -implicitDefEqProofs (disch := first | exact TrueB.mk rfl | omega) only [go_sem, sc3, Bool.or_true, endX_ret, endX_normal]
            exact again_mk ⟨(3, _), .inr (.inr rfl), (show (3 - 3 : Nat) < 3 - 2 by decide), rfl⟩
          · simp only [boxA, boxW, zeroB]
            simp (maxSteps := 400000) -dsimp -implicitDefEqProofs (disch := first | exact TrueB.mk rfl | omega) only [go_sem, endX_ret, endX_normal]
            cases q <;> exact ⟨_, _, rfl, rfl, _, rfl⟩
      | some u =>
        rw [ey] at h
        cases ez : hapL cf tm z 1 with
        | none =>
          rw [ez] at h
          simp only [Option.some.injEq, Prod.mk.injEq] at h
          obtain ⟨rfl, rfl, rfl⟩ := h
          obtain ⟨qf1, qg1, qy⟩ := HapS_1 h1 h2 (x := (9, r', s')) (y := y) (z := z) hy ey
          have qz := fun mc mb mi me => HapN_2 (x := (9, r', s')) (y := u) (z := z) hz ez mc mb mi me

          unfold confV benchV sV at *
          refine RunsX.of Tryd.func29 rfl (by simp [Tryd.ntmps29]) ?_
          simp (maxSteps := 400000) -dsimp -implicitDefEqProofs (disch := first | exact TrueB.mk rfl | omega) only [go_sem, Tryd.ntmps29, endX_ret, endX_normal]
          first | refine wpAct_call0 (link_0 _) rfl rfl rfl rfl rfl rfl rfl rfl ?_ | done
          simp (maxSteps := 400000) -dsimp -implicitDefEqProofs (disch := first | exact TrueB.mk rfl | omega) only [go_sem, e9, e10, a9, endX_ret, endX_normal]
          first | refine wpAct_call0 (hs _ _ _ _) rfl rfl rfl rfl rfl rfl rfl rfl ?_ | done
          simp (maxSteps := 400000) -dsimp -implicitDefEqProofs (disch := first | exact TrueB.mk rfl | omega) only [go_sem, e9, e10, a9, sc3, Bool.or_true, endX_ret, endX_normal]
          refine wpLoop_ind (α := Nat × Bool) (fun x => match x with
            | (1, q) => ⟨[(3, .ptr 1936 0), (6, .ptr 1937 0), (10, .pure true (.bool false)), (11, .ptr 1938 0), (14, .row 1939 1), (15, .pure true (.bool true)), (16, .pure true (.int .i64 1))], [(1936, .box [.pure mc (.int .i64 cf), .pure mc (.int .i64 tm), .pure mc (.int .i64 1), .pure mc (.int .i64 0), .pure mc (.str []), .pure mc (.str []), .pure mc (.int .i64 0), .pure mc (.int .u32 0), .pure mc (.bool false)]), (1937, boxA true zeroB), (1938, boxA q ((9, r', s'), y, z)), (1939, .row true 3 0 [.agg [.int .i64 49185, .int .i64 a, .int .i64 e]])]⟩
            | (2, q) => ⟨[(3, .ptr 1936 0), (6, .ptr 1937 0), (10, .pure true (.bool false)), (11, .ptr 1938 0), (14, .row 1939 2), (15, .pure true (.bool true)), (16, .pure true (.int .i64 2))], [(1936, .box [.pure mc (.int .i64 cf), .pure mc (.int .i64 tm), .pure mc (.int .i64 1), .pure mc (.int .i64 0), .pure mc (.str []), .pure mc (.str []), .pure mc (.int .i64 0), .pure mc (.int .u32 0), .pure mc (.bool false)]), (1937, boxA true zeroB), (1938, boxA q ((9, r', s'), u, z)), (1939, .row true 3 1 [.agg [.int .i64 49185, .int .i64 a, .int .i64 e], .agg [.int .i64 32801, .int .i64 y.1, .int .i64 1]])]⟩
            | (_, q) => ⟨[(3, .ptr 1936 0), (6, .ptr 1937 0), (10, .pure true (.bool false)), (11, .ptr 1938 0), (14, .row 1939 2), (15, .pure true (.bool true)), (16, .pure true (.int .i64 3))], [(1936, .box [.pure mc (.int .i64 cf), .pure mc (.int .i64 tm), .pure mc (.int .i64 1), .pure mc (.int .i64 0), .pure mc (.str []), .pure mc (.str []), .pure mc (.int .i64 0), .pure mc (.int .u32 0), .pure mc (.bool false)]), (1937, boxA true zeroB), (1938, boxA q ((9, r', s'), u, z)), (1939, .row true 3 1 [.agg [.int .i64 49185, .int .i64 a, .int .i64 e], .agg [.int .i64 32801, .int .i64 y.1, .int .i64 1]])]⟩) (fun x => x.1 = 1 ∨ x.1 = 2 ∨ x.1 = 3) (fun x => 3 - x.1) ?_ (1, _) (.inl rfl) rfl
          rintro ⟨k, q⟩ hk
          simp only at hk
          rcases hk with rfl | rfl | rfl
          · simp only [boxA, boxW, zeroB]
            simp (maxSteps := 400000) -dsimp -implicitDefEqProofs (disch := first | exact TrueB.mk rfl | omega) only [go_sem, endX_ret, endX_normal]
            first | refine wpAct_call0 (qy _ _ _ _) rfl rfl rfl rfl rfl rfl rfl rfl ?_ | done
            simp (maxSteps := 400000) -dsimp -implicitDefEqProofs (disch := first | exact TrueB.mk rfl | omega) only [go_sem, sc3, Bool.or_true, endX_ret, endX_normal]
            exact again_mk ⟨(2, _), .inr (.inl rfl), (show (3 - 2 : Nat) < 3 - 1 by decide), rfl⟩
          · simp only [boxA, boxW, zeroB]
            simp (maxSteps := 400000) -dsimp -implicitDefEqProofs (disch := first | exact TrueB.mk rfl | omega) only [go_sem, endX_ret, endX_normal]
            first | refine wpAct_call0 (qz _ _ _ _) rfl rfl rfl rfl rfl rfl rfl rfl ?_ | done
            simp (maxSteps := 400000) -dsimp -implicitDefEqProofs (disch := first | exact TrueB.mk rfl | omega) only [go_sem, sc3, Bool.or_true, endX_ret, endX_normal]
            exact again_mk ⟨(3, _), .inr (.inr rfl), (show (3 - 3 : Nat) < 3 - 2 by decide), rfl⟩
          · simp only [boxA, boxW, zeroB]
            simp (maxSteps := 400000) -dsimp -implicitDefEqProofs (disch := first | exact TrueB.mk rfl | omega) only [go_sem, endX_ret, endX_normal]
            cases q <;> exact ⟨_, _, rfl, rfl, _, rfl⟩
        | some t2 =>
          rw [ez] at h
          simp only [Option.some.injEq, Prod.mk.injEq] at h
          obtain ⟨rfl, rfl, rfl⟩ := h
          obtain ⟨qf1, qg1, qy⟩ := HapS_1 h1 h2 (x := (9, r', s')) (y := y) (z := z) hy ey
          obtain ⟨qf2, qg2, qz⟩ := HapS_2 h1 h2 (x := (9, r', s')) (y := u) (z := z) hz ez

          unfold confV benchV sV at *
          refine RunsX.of Tryd.func29 rfl (by simp [Tryd.ntmps29]) ?_
          simp (maxSteps := 400000) -dsimp -implicitDefEqProofs (disch := first | exact TrueB.mk rfl | omega) only [go_sem, Tryd.ntmps29, endX_ret, endX_normal]
          first | refine wpAct_call0 (link_0 _) rfl rfl rfl rfl rfl rfl rfl rfl ?_ | done
          simp (maxSteps := 400000) -dsimp -implicitDefEqProofs (disch := first | exact TrueB.mk rfl | omega) only [go_sem, e9, e10, a9, endX_ret, endX_normal]
          first | refine wpAct_call0 (hs _ _ _ _) rfl rfl rfl rfl rfl rfl rfl rfl ?_ | done
          simp (maxSteps := 400000) -dsimp -implicitDefEqProofs (disch := first | exact TrueB.mk rfl | omega) only [go_sem, e9, e10, a9, sc3, Bool.or_true, endX_ret, endX_normal]
          refine wpLoop_ind (α := Nat × Bool) (fun x => match x with
            | (1, q) => ⟨[(3, .ptr 1936 0), (6, .ptr 1937 0), (10, .pure true (.bool false)), (11, .ptr 1938 0), (14, .row 1939 1), (15, .pure true (.bool true)), (16, .pure true (.int .i64 1))], [(1936, .box [.pure mc (.int .i64 cf), .pure mc (.int .i64 tm), .pure mc (.int .i64 1), .pure mc (.int .i64 0), .pure mc (.str []), .pure mc (.str []), .pure mc (.int .i64 0), .pure mc (.int .u32 0), .pure mc (.bool false)]), (1937, boxA true zeroB), (1938, boxA q ((9, r', s'), y, z)), (1939, .row true 3 0 [.agg [.int .i64 49185, .int .i64 a, .int .i64 e]])]⟩
            | (2, q) => ⟨[(3, .ptr 1936 0), (6, .ptr 1937 0), (10, .pure true (.bool false)), (11, .ptr 1938 0), (14, .row 1939 2), (15, .pure true (.bool true)), (16, .pure true (.int .i64 2))], [(1936, .box [.pure mc (.int .i64 cf), .pure mc (.int .i64 tm), .pure mc (.int .i64 1), .pure mc (.int .i64 0), .pure mc (.str []), .pure mc (.str []), .pure mc (.int .i64 0), .pure mc (.int .u32 0), .pure mc (.bool false)]), (1937, boxA true zeroB), (1938, boxA q ((9, r', s'), u, z)), (1939, .row true 3 1 [.agg [.int .i64 49185, .int .i64 a, .int .i64 e], .agg [.int .i64 32801, .int .i64 y.1, .int .i64 1]])]⟩
            | (_, q) => ⟨[(3, .ptr 1936 0), (6, .ptr 1937 0), (10, .pure true (.bool false)), (11, .ptr 1938 0), (14, .row 1939 3), (15, .pure true (.bool true)), (16, .pure true (.int .i64 3))], [(1936, .box [.pure mc (.int .i64 cf), .pure mc (.int .i64 tm), .pure mc (.int .i64 1), .pure mc (.int .i64 0), .pure mc (.str []), .pure mc (.str []), .pure mc (.int .i64 0), .pure mc (.int .u32 0), .pure mc (.bool false)]), (1937, boxA true zeroB), (1938, boxA q ((9, r', s'), u, t2)), (1939, .row true 3 2 [.agg [.int .i64 49185, .int .i64 a, .int .i64 e], .agg [.int .i64 32801, .int .i64 y.1, .int .i64 1], .agg [.int .i64 32855, .int .i64 z.1, .int .i64 1]])]⟩) (fun x => x.1 = 1 ∨ x.1 = 2 ∨ x.1 = 3) (fun x => 3 - x.1) ?_ (1, _) (.inl rfl) rfl
          rintro ⟨k, q⟩ hk
          simp only at hk
          rcases hk with rfl | rfl | rfl
          · simp only [boxA, boxW, zeroB]
            simp (maxSteps := 400000) -dsimp -implicitDefEqProofs (disch := first | exact TrueB.mk rfl | omega) only [go_sem, endX_ret, endX_normal]
            first | refine wpAct_call0 (qy _ _ _ _) rfl rfl rfl rfl rfl rfl rfl rfl ?_ | done
            simp (maxSteps := 400000) -dsimp -implicitDefEqProofs (disch := first | exact TrueB.mk rfl | omega) only [go_sem, sc3, Bool.or_true, endX_ret, endX_normal]
            exact again_mk ⟨(2, _), .inr (.inl rfl), (show (3 - 2 : Nat) < 3 - 1 by decide), rfl⟩
          · simp only [boxA, boxW, zeroB]
            simp (maxSteps := 400000) -dsimp -implicitDefEqProofs (disch := first | exact TrueB.mk rfl | omega) only [go_sem, endX_ret, endX_normal]
            first | refine wpAct_call0 (qz _ _ _ _) rfl rfl rfl rfl rfl rfl rfl rfl ?_ | done
            simp (maxSteps := 400000) -dsimp -implicitDefEqProofs (disch := first | exact TrueB.mk rfl | omega) only [go_sem, sc3, Bool.or_true, endX_ret, endX_normal]
            exact again_mk ⟨(3, _), .inr (.inr rfl), (show (3 - 3 : Nat) < 3 - 2 by decide), rfl⟩
          · simp only [boxA, boxW, zeroB]
            simp (maxSteps := 400000) -dsimp -implicitDefEqProofs (disch := first | exact TrueB.mk rfl | omega) only [go_sem, endX_ret, endX_normal]
            cases q <;> exact ⟨_, _, rfl, rfl, _, rfl⟩
    · have ho : openL (a, r, s) = openL (a', r', s') := by simp [openL, a9, a9']
      rw [if_pos ho] at h
      simp only [Option.some.injEq, Prod.mk.injEq] at h
      obtain ⟨rfl, rfl, rfl⟩ := h
      have qy := fun mc mb mi me => HapN_1 (x := (a', r', s')) (y := y) (z := z) hy (hapL_0 cf tm y) mc mb mi me
      have qz := fun mc mb mi me => HapN_2 (x := (a', r', s')) (y := y) (z := z) hz (hapL_0 cf tm z) mc mb mi me

      unfold confV benchV sV at *
      refine RunsX.of Tryd.func29 rfl (by simp [Tryd.ntmps29]) ?_
      simp (maxSteps := 400000) -dsimp -implicitDefEqProofs (disch := first | exact TrueB.mk rfl | omega) only [go_sem, Tryd.ntmps29, endX_ret, endX_normal]
      first | refine wpAct_call0 (link_0 _) rfl rfl rfl rfl rfl rfl rfl rfl ?_ | done
      simp (maxSteps := 400000) -dsimp -implicitDefEqProofs (disch := first | exact TrueB.mk rfl | omega) only [go_sem, e9, e10, a9, a9', endX_ret, endX_normal]
      first | refine wpAct_call0 (hs _ _ _ _) rfl rfl rfl rfl rfl rfl rfl rfl ?_ | done
      simp (maxSteps := 400000) -dsimp -implicitDefEqProofs (disch := first | exact TrueB.mk rfl | omega) only [go_sem, e9, e10, a9, a9', sc3, Bool.or_true, endX_ret, endX_normal]
      refine wpLoop_ind (α := Nat × Bool) (fun x => match x with
        | (1, q) => ⟨[(3, .ptr 1936 0), (6, .ptr 1937 0), (10, .pure true (.bool false)), (11, .ptr 1938 0), (14, .row 1939 1), (15, .pure true (.bool false)), (16, .pure true (.int .i64 1))], [(1936, .box [.pure mc (.int .i64 cf), .pure mc (.int .i64 tm), .pure mc (.int .i64 1), .pure mc (.int .i64 0), .pure mc (.str []), .pure mc (.str []), .pure mc (.int .i64 0), .pure mc (.int .u32 0), .pure mc (.bool false)]), (1937, boxA true zeroB), (1938, boxA q ((a', r', s'), y, z)), (1939, .row true 3 0 [.agg [.int .i64 49185, .int .i64 a, .int .i64 e]])]⟩
        | (2, q) => ⟨[(3, .ptr 1936 0), (6, .ptr 1937 0), (10, .pure true (.bool false)), (11, .ptr 1938 0), (14, .row 1939 1), (15, .pure true (.bool false)), (16, .pure true (.int .i64 2))], [(1936, .box [.pure mc (.int .i64 cf), .pure mc (.int .i64 tm), .pure mc (.int .i64 1), .pure mc (.int .i64 0), .pure mc (.str []), .pure mc (.str []), .pure mc (.int .i64 0), .pure mc (.int .u32 0), .pure mc (.bool false)]), (1937, boxA true zeroB), (1938, boxA q ((a', r', s'), y, z)), (1939, .row true 3 0 [.agg [.int .i64 49185, .int .i64 a, .int .i64 e]])]⟩
        | (_, q) => ⟨[(3, .ptr 1936 0), (6, .ptr 1937 0), (10, .pure true (.bool false)), (11, .ptr 1938 0), (14, .row 1939 1), (15, .pure true (.bool false)), (16, .pure true (.int .i64 3))], [(1936, .box [.pure mc (.int .i64 cf), .pure mc (.int .i64 tm), .pure mc (.int .i64 1), .pure mc (.int .i64 0), .pure mc (.str []), .pure mc (.str []), .pure mc (.int .i64 0), .pure mc (.int .u32 0), .pure mc (.bool false)]), (1937, boxA true zeroB), (1938, boxA q ((a', r', s'), y, z)), (1939, .row true 3 0 [.agg [.int .i64 49185, .int .i64 a, .int .i64 e]])]⟩) (fun x => x.1 = 1 ∨ x.1 = 2 ∨ x.1 = 3) (fun x => 3 - x.1) ?_ (1, _) (.inl rfl) rfl
      rintro ⟨k, q⟩ hk
      simp only at hk
      rcases hk with rfl | rfl | rfl
      · simp only [boxA, boxW, zeroB]
        simp (maxSteps := 400000) -dsimp -implicitDefEqProofs (disch := first | exact TrueB.mk rfl | omega) only [go_sem, endX_ret, endX_normal]
        first | refine wpAct_call0 (qy _ _ _ _) rfl rfl rfl rfl rfl rfl rfl rfl ?_ | done
        simp (maxSteps := 400000) -dsimp -implicitDefEqProofs (disch := first | exact TrueB.mk rfl | omega) only [go_sem, sc3, Bool.or_true, endX_ret, endX_normal]
        exact again_mk ⟨(2, _), .inr (.inl rfl), (show (3 - 2 : Nat) < 3 - 1 by decide), rfl⟩
      · simp only [boxA, boxW, zeroB]
        simp (maxSteps := 400000) -dsimp -implicitDefEqProofs (disch := first | exact TrueB.mk rfl | omega) only [go_sem, endX_ret, endX_normal]
        first | refine wpAct_call0 (qz _ _ _ _) rfl rfl rfl rfl rfl rfl rfl rfl ?_ | done
        simp (maxSteps := 400000) -dsimp -implicitDefEqProofs (disch := first | exact TrueB.mk rfl | omega) only [go_sem, sc3, Bool.or_true, endX_ret, endX_normal]
        exact again_mk ⟨(3, _), .inr (.inr rfl), (show (3 - 3 : Nat) < 3 - 2 by decide), rfl⟩
      · simp only [boxA, boxW, zeroB]
        simp (maxSteps := 400000) -dsimp -implicitDefEqProofs (disch := first | exact TrueB.mk rfl | omega) only [go_sem, endX_ret, endX_normal]
        cases q <;> exact ⟨_, _, rfl, rfl, _, rfl⟩
end Go.Proofs.YticdhmcbooabaaaDoor
