/- YticdhmcbooabaaaDoorW3: a step of the bench that can be. No claim. -/
import Derived.Test.YticdhmcbooabaaaDoorWA
set_option linter.unusedVariables false
set_option linter.unusedSimpArgs false
set_option maxRecDepth 100000
namespace Go.Proofs.YticdhmcbooabaaaDoor
open Go Go.Proofs.YticdhmcbooabaaaDoor.V


set_option maxHeartbeats 64000000 in
theorem step_yes {w0 w1 w2 v : Bool} {cf tm : Int} (h1 : 1 ≤ cf ∧ cf ≤ 255) (h2 : 1 ≤ tm ∧ tm ≤ 255) {x y z : L3} (hb : okB (x, y, z)) {p e : Int} {b' : Bn} {l : List C3} {t0 t1 t2 : Bool} (h : stepL cf tm (x, y, z) p e = some (b', l, t0, t1, t2)) (mc mx : Bool) :
    Runs Tryd.prog env 33 [.ptr 0 0, .pure mc (confV cf tm 1), .pure mx (.agg [.int .i64 p, .int .i64 e])] [(0, boxW w0 w1 w2 v v v (x, y, z))] (.tuple [.row 1 l.length, .pure true (.bool true)]) [(0, boxW (wof t0 w0) (wof t1 w1) (wof t2 w2) (vof t0 v) (vof t1 v) (vof t2 v) b'), (1, .row true 3 (l.length - 1) (cellsV l))] := by
  obtain ⟨hx, hy, hz⟩ := hb
  simp only at hx hy hz
  unfold stepL at h
  simp only at h
  rcases Classical.em (p = 49185) with p0 | p0
  · rw [if_pos p0] at h
    subst p0
    have mm := mayL_0 (w0 := w0) (w1 := w1) (w2 := w2) (v0 := v) (v1 := v) (v2 := v) x y z e
    have ip := index_p0
    cases hm : mayP 0 (openL x) x.2.2 e with
    | false => rw [hm] at h; simp at h
    | true =>
    rw [hm] at mm h
    rw [if_pos rfl] at h
    cases hh : hapL cf tm x e with
    | none => rw [hh] at h; simp at h
    | some w =>
    rw [hh] at h
    simp only at h
    have hw := hapL_ok h1 h2 hx hh
    have hn := fun mc mi me => hapY_0 (w0 := w0) (w1 := w1) (w2 := w2) (v0 := v) (v1 := v) (v2 := v) h1 h2 (x := x) (y := y) (z := z) hx hh mc mi me
    have oo := openL_any (w0 := w0) (w1 := w1) (w2 := w2) (v0 := v) (v1 := v) (v2 := v) x y z
    by_cases ho : openL x = openL w
    · rw [if_pos ho] at h
      simp only [Option.some.injEq, Prod.mk.injEq] at h
      obtain ⟨rfl, rfl, rfl, rfl, rfl⟩ := h
      have oo2 := openL_any (w0 := false) (w1 := w1) (w2 := w2) (v0 := true) (v1 := v) (v2 := v) w y z
      rw [← ho] at oo2
      unfold boxW at *
      generalize openL x = o at *
      clear ho
      cases o with
      | true =>
        unfold confV at *
        refine Runs.of Tryd.func33 rfl (by simp [Tryd.ntmps33]) ?_
        simp (maxSteps := 400000) -dsimp -implicitDefEqProofs (disch := first | exact TrueB.mk rfl | omega) only [go_sem, Tryd.ntmps33]
        first | refine wpAct_call0 (protos_any) rfl rfl rfl rfl rfl rfl rfl rfl ?_ | done
        simp (maxSteps := 400000) -dsimp -implicitDefEqProofs (disch := first | exact TrueB.mk rfl | omega) only [go_sem, sc3, Bool.or_true]
        first | refine wpAct_callF (ip _ _) rfl rfl rfl rfl rfl rfl rfl rfl rfl ?_ | done
        simp (maxSteps := 400000) -dsimp -implicitDefEqProofs (disch := first | exact TrueB.mk rfl | omega) only [go_sem, sc3, Bool.or_true]
        refine wpAct_callS [0] (mm _ _) rfl rfl rfl rfl rfl rfl rfl rfl (by cases w0 <;> cases w1 <;> cases w2 <;> cases v <;> rfl) rfl ?_
        simp (maxSteps := 400000) -dsimp -implicitDefEqProofs (disch := first | exact TrueB.mk rfl | omega) only [go_sem, sc3, Bool.or_true]
        refine wpAct_callS [0] (oo) rfl rfl rfl rfl rfl rfl rfl rfl (by cases w0 <;> cases w1 <;> cases w2 <;> cases v <;> rfl) rfl ?_
        simp (maxSteps := 400000) -dsimp -implicitDefEqProofs (disch := first | exact TrueB.mk rfl | omega) only [go_sem, sc3, Bool.or_true]
        refine wpAct_callS [0] (hn _ _ _) rfl rfl rfl rfl rfl rfl rfl rfl (by cases w0 <;> cases w1 <;> cases w2 <;> cases v <;> rfl) rfl ?_
        simp (maxSteps := 400000) -dsimp -implicitDefEqProofs (disch := first | exact TrueB.mk rfl | omega) only [go_sem, sc3, Bool.or_true]
        refine wpAct_callS [0] (oo2) rfl rfl rfl rfl rfl rfl rfl rfl (by cases w0 <;> cases w1 <;> cases w2 <;> cases v <;> rfl) rfl ?_
        simp (maxSteps := 400000) -dsimp -implicitDefEqProofs (disch := first | exact TrueB.mk rfl | omega) only [go_sem, sc3, Bool.or_true]
        refine wpLoop_ind (α := Unit) (fun _ => ⟨[(0, .ptr 0 0), (4, .ptr 1185 0), (10, .pure true (.bool true)), (13, .row 1186 1), (14, .pure true (.int .i64 1)), (15, .pure true (.int .i64 1))], [(0, (boxW false w1 w2 true v v (w, y, z))), (1185, .box [.pure mc (.int .i64 cf), .pure mc (.int .i64 tm), .pure mc (.int .i64 1), .pure mc (.int .i64 0), .pure mc (.str []), .pure mc (.str []), .pure mc (.int .i64 0), .pure mc (.int .u32 0), .pure mc (.bool false)]), (1186, .row true 3 0 [.agg [.int .i64 49185, .int .i64 x.1, .int .i64 e]])]⟩) (fun _ => True) (fun _ => 0) ?_ () trivial rfl
        rintro _ _
        unfold boxW
        simp (maxSteps := 400000) -dsimp -implicitDefEqProofs (disch := first | exact TrueB.mk rfl | omega) only [go_sem, sc3, Bool.or_true]
        refine wpAct_callS [0] (oo2) rfl rfl rfl rfl rfl rfl rfl rfl (by cases w0 <;> cases w1 <;> cases w2 <;> cases v <;> rfl) rfl ?_
        simp (maxSteps := 400000) -dsimp -implicitDefEqProofs (disch := first | exact TrueB.mk rfl | omega) only [go_sem, sc3, Bool.or_true]
        first | exact rfl | done
      | false =>
        unfold confV at *
        refine Runs.of Tryd.func33 rfl (by simp [Tryd.ntmps33]) ?_
        simp (maxSteps := 400000) -dsimp -implicitDefEqProofs (disch := first | exact TrueB.mk rfl | omega) only [go_sem, Tryd.ntmps33]
        first | refine wpAct_call0 (protos_any) rfl rfl rfl rfl rfl rfl rfl rfl ?_ | done
        simp (maxSteps := 400000) -dsimp -implicitDefEqProofs (disch := first | exact TrueB.mk rfl | omega) only [go_sem, sc3, Bool.or_true]
        first | refine wpAct_callF (ip _ _) rfl rfl rfl rfl rfl rfl rfl rfl rfl ?_ | done
        simp (maxSteps := 400000) -dsimp -implicitDefEqProofs (disch := first | exact TrueB.mk rfl | omega) only [go_sem, sc3, Bool.or_true]
        refine wpAct_callS [0] (mm _ _) rfl rfl rfl rfl rfl rfl rfl rfl (by cases w0 <;> cases w1 <;> cases w2 <;> cases v <;> rfl) rfl ?_
        simp (maxSteps := 400000) -dsimp -implicitDefEqProofs (disch := first | exact TrueB.mk rfl | omega) only [go_sem, sc3, Bool.or_true]
        refine wpAct_callS [0] (oo) rfl rfl rfl rfl rfl rfl rfl rfl (by cases w0 <;> cases w1 <;> cases w2 <;> cases v <;> rfl) rfl ?_
        simp (maxSteps := 400000) -dsimp -implicitDefEqProofs (disch := first | exact TrueB.mk rfl | omega) only [go_sem, sc3, Bool.or_true]
        refine wpAct_callS [0] (hn _ _ _) rfl rfl rfl rfl rfl rfl rfl rfl (by cases w0 <;> cases w1 <;> cases w2 <;> cases v <;> rfl) rfl ?_
        simp (maxSteps := 400000) -dsimp -implicitDefEqProofs (disch := first | exact TrueB.mk rfl | omega) only [go_sem, sc3, Bool.or_true]
        refine wpAct_callS [0] (oo2) rfl rfl rfl rfl rfl rfl rfl rfl (by cases w0 <;> cases w1 <;> cases w2 <;> cases v <;> rfl) rfl ?_
        simp (maxSteps := 400000) -dsimp -implicitDefEqProofs (disch := first | exact TrueB.mk rfl | omega) only [go_sem, sc3, Bool.or_true]
        refine wpLoop_ind (α := Unit) (fun _ => ⟨[(0, .ptr 0 0), (4, .ptr 1185 0), (10, .pure true (.bool false)), (13, .row 1186 1), (14, .pure true (.int .i64 2)), (15, .pure true (.int .i64 1))], [(0, (boxW false w1 w2 true v v (w, y, z))), (1185, .box [.pure mc (.int .i64 cf), .pure mc (.int .i64 tm), .pure mc (.int .i64 1), .pure mc (.int .i64 0), .pure mc (.str []), .pure mc (.str []), .pure mc (.int .i64 0), .pure mc (.int .u32 0), .pure mc (.bool false)]), (1186, .row true 3 0 [.agg [.int .i64 49185, .int .i64 x.1, .int .i64 e]])]⟩) (fun _ => True) (fun _ => 0) ?_ () trivial rfl
        rintro _ _
        unfold boxW
        simp (maxSteps := 400000) -dsimp -implicitDefEqProofs (disch := first | exact TrueB.mk rfl | omega) only [go_sem, sc3, Bool.or_true]
        refine wpAct_callS [0] (oo2) rfl rfl rfl rfl rfl rfl rfl rfl (by cases w0 <;> cases w1 <;> cases w2 <;> cases v <;> rfl) rfl ?_
        simp (maxSteps := 400000) -dsimp -implicitDefEqProofs (disch := first | exact TrueB.mk rfl | omega) only [go_sem, sc3, Bool.or_true]
        first | exact rfl | done
    · rw [if_neg ho] at h
      have oo2 := openL_any (w0 := false) (w1 := w1) (w2 := w2) (v0 := true) (v1 := v) (v2 := v) w y z
      rcases Bool.eq_false_or_eq_true (openL w) with ow | ow
      · have ox : openL x = false := by
          cases hq : openL x with
          | false => rfl
          | true => exact absurd (hq.trans ow.symm) ho
        rw [ow] at h oo2
        rw [ox] at oo
        simp only [if_true, Bool.false_eq_true, if_false] at h
        unfold follL at h
        cases ey : hapL cf tm y 1 with
        | none =>
          rw [ey] at h
          cases ez : hapL cf tm z 1 with
          | none =>
            rw [ez] at h
            simp only [Option.some.injEq, Prod.mk.injEq] at h
            obtain ⟨rfl, rfl, rfl, rfl, rfl⟩ := h
            have qy := fun mc mi me => hapN_1 (w0 := false) (w1 := w1) (w2 := w2) (v0 := true) (v1 := v) (v2 := v) (x := w) (y := y) (z := z) hy ey mc mi me
            have qz := fun mc mi me => hapN_2 (w0 := false) (w1 := w1) (w2 := w2) (v0 := true) (v1 := v) (v2 := v) (x := w) (y := y) (z := z) hz ez mc mi me
            have oo3 := openL_any (w0 := false) (w1 := w1) (w2 := w2) (v0 := true) (v1 := v) (v2 := v) w y z
            rw [ow] at oo3
            unfold boxW at *
            unfold confV at *
            refine Runs.of Tryd.func33 rfl (by simp [Tryd.ntmps33]) ?_
            simp (maxSteps := 400000) -dsimp -implicitDefEqProofs (disch := first | exact TrueB.mk rfl | omega) only [go_sem, Tryd.ntmps33]
            first | refine wpAct_call0 (protos_any) rfl rfl rfl rfl rfl rfl rfl rfl ?_ | done
            simp (maxSteps := 400000) -dsimp -implicitDefEqProofs (disch := first | exact TrueB.mk rfl | omega) only [go_sem, sc3, Bool.or_true]
            first | refine wpAct_callF (ip _ _) rfl rfl rfl rfl rfl rfl rfl rfl rfl ?_ | done
            simp (maxSteps := 400000) -dsimp -implicitDefEqProofs (disch := first | exact TrueB.mk rfl | omega) only [go_sem, sc3, Bool.or_true]
            refine wpAct_callS [0] (mm _ _) rfl rfl rfl rfl rfl rfl rfl rfl (by cases w0 <;> cases w1 <;> cases w2 <;> cases v <;> rfl) rfl ?_
            simp (maxSteps := 400000) -dsimp -implicitDefEqProofs (disch := first | exact TrueB.mk rfl | omega) only [go_sem, sc3, Bool.or_true]
            refine wpAct_callS [0] (oo) rfl rfl rfl rfl rfl rfl rfl rfl (by cases w0 <;> cases w1 <;> cases w2 <;> cases v <;> rfl) rfl ?_
            simp (maxSteps := 400000) -dsimp -implicitDefEqProofs (disch := first | exact TrueB.mk rfl | omega) only [go_sem, sc3, Bool.or_true]
            refine wpAct_callS [0] (hn _ _ _) rfl rfl rfl rfl rfl rfl rfl rfl (by cases w0 <;> cases w1 <;> cases w2 <;> cases v <;> rfl) rfl ?_
            simp (maxSteps := 400000) -dsimp -implicitDefEqProofs (disch := first | exact TrueB.mk rfl | omega) only [go_sem, sc3, Bool.or_true]
            refine wpAct_callS [0] (oo2) rfl rfl rfl rfl rfl rfl rfl rfl (by cases w0 <;> cases w1 <;> cases w2 <;> cases v <;> rfl) rfl ?_
            simp (maxSteps := 400000) -dsimp -implicitDefEqProofs (disch := first | exact TrueB.mk rfl | omega) only [go_sem, sc3, Bool.or_true]
            refine wpLoop_ind (α := Nat) (fun k => match k with
                | 1 => ⟨[(0, .ptr 0 0), (4, .ptr 1185 0), (10, .pure true (.bool false)), (13, .row 1186 1), (14, .pure true (.int .i64 1)), (15, .pure true (.int .i64 1))], [(0, boxW false w1 w2 true v v (w, y, z)), (1185, .box [.pure mc (.int .i64 cf), .pure mc (.int .i64 tm), .pure mc (.int .i64 1), .pure mc (.int .i64 0), .pure mc (.str []), .pure mc (.str []), .pure mc (.int .i64 0), .pure mc (.int .u32 0), .pure mc (.bool false)]), (1186, .row true 3 0 [.agg [.int .i64 49185, .int .i64 x.1, .int .i64 e]])]⟩
                | 2 => ⟨[(0, .ptr 0 0), (4, .ptr 1185 0), (10, .pure true (.bool false)), (13, .row 1186 1), (14, .pure true (.int .i64 1)), (15, .pure true (.int .i64 2))], [(0, boxW false w1 w2 true v v (w, y, z)), (1185, .box [.pure mc (.int .i64 cf), .pure mc (.int .i64 tm), .pure mc (.int .i64 1), .pure mc (.int .i64 0), .pure mc (.str []), .pure mc (.str []), .pure mc (.int .i64 0), .pure mc (.int .u32 0), .pure mc (.bool false)]), (1186, .row true 3 0 [.agg [.int .i64 49185, .int .i64 x.1, .int .i64 e]])]⟩
                | _ => ⟨[(0, .ptr 0 0), (4, .ptr 1185 0), (10, .pure true (.bool false)), (13, .row 1186 1), (14, .pure true (.int .i64 1)), (15, .pure true (.int .i64 3))], [(0, boxW false w1 w2 true v v (w, y, z)), (1185, .box [.pure mc (.int .i64 cf), .pure mc (.int .i64 tm), .pure mc (.int .i64 1), .pure mc (.int .i64 0), .pure mc (.str []), .pure mc (.str []), .pure mc (.int .i64 0), .pure mc (.int .u32 0), .pure mc (.bool false)]), (1186, .row true 3 0 [.agg [.int .i64 49185, .int .i64 x.1, .int .i64 e]])]⟩) (fun k => k = 1 ∨ k = 2 ∨ k = 3) (fun k => 3 - k) ?_ 1 (.inl rfl) rfl
            intro k hk
            rcases hk with rfl | rfl | rfl
            · simp only [boxW]
              simp (maxSteps := 400000) -dsimp -implicitDefEqProofs (disch := first | exact TrueB.mk rfl | omega) only [go_sem, sc3, Bool.or_true]
              refine wpAct_callS [0] (oo2) rfl rfl rfl rfl rfl rfl rfl rfl (by cases w0 <;> cases w1 <;> cases w2 <;> cases v <;> rfl) rfl ?_
              simp (maxSteps := 400000) -dsimp -implicitDefEqProofs (disch := first | exact TrueB.mk rfl | omega) only [go_sem, sc3, Bool.or_true]
              refine wpAct_callS [0] (qy _ _ _) rfl rfl rfl rfl rfl rfl rfl rfl (by cases w0 <;> cases w1 <;> cases w2 <;> cases v <;> rfl) rfl ?_
              simp (maxSteps := 400000) -dsimp -implicitDefEqProofs (disch := first | exact TrueB.mk rfl | omega) only [go_sem, sc3, Bool.or_true]
              first | exact again_mk ⟨2, .inr (.inl rfl), by decide, rfl⟩ | done
            · simp only [boxW]
              simp (maxSteps := 400000) -dsimp -implicitDefEqProofs (disch := first | exact TrueB.mk rfl | omega) only [go_sem, sc3, Bool.or_true]
              refine wpAct_callS [0] (oo3) rfl rfl rfl rfl rfl rfl rfl rfl (by cases w0 <;> cases w1 <;> cases w2 <;> cases v <;> rfl) rfl ?_
              simp (maxSteps := 400000) -dsimp -implicitDefEqProofs (disch := first | exact TrueB.mk rfl | omega) only [go_sem, sc3, Bool.or_true]
              refine wpAct_callS [0] (qz _ _ _) rfl rfl rfl rfl rfl rfl rfl rfl (by cases w0 <;> cases w1 <;> cases w2 <;> cases v <;> rfl) rfl ?_
              simp (maxSteps := 400000) -dsimp -implicitDefEqProofs (disch := first | exact TrueB.mk rfl | omega) only [go_sem, sc3, Bool.or_true]
              first | exact again_mk ⟨3, .inr (.inr rfl), by decide, rfl⟩ | done
            · simp only [boxW]
              simp (maxSteps := 400000) -dsimp -implicitDefEqProofs (disch := first | exact TrueB.mk rfl | omega) only [go_sem, sc3, Bool.or_true]
              first | exact rfl | done
          | some t =>
            rw [ez] at h
            simp only [Option.some.injEq, Prod.mk.injEq] at h
            obtain ⟨rfl, rfl, rfl, rfl, rfl⟩ := h
            have qy := fun mc mi me => hapN_1 (w0 := false) (w1 := w1) (w2 := w2) (v0 := true) (v1 := v) (v2 := v) (x := w) (y := y) (z := z) hy ey mc mi me
            have qz := fun mc mi me => hapY_2 (w0 := false) (w1 := w1) (w2 := w2) (v0 := true) (v1 := v) (v2 := v) h1 h2 (x := w) (y := y) (z := z) hz ez mc mi me
            have oo3 := openL_any (w0 := false) (w1 := w1) (w2 := w2) (v0 := true) (v1 := v) (v2 := v) w y z
            rw [ow] at oo3
            unfold boxW at *
            unfold confV at *
            refine Runs.of Tryd.func33 rfl (by simp [Tryd.ntmps33]) ?_
            simp (maxSteps := 400000) -dsimp -implicitDefEqProofs (disch := first | exact TrueB.mk rfl | omega) only [go_sem, Tryd.ntmps33]
            first | refine wpAct_call0 (protos_any) rfl rfl rfl rfl rfl rfl rfl rfl ?_ | done
            simp (maxSteps := 400000) -dsimp -implicitDefEqProofs (disch := first | exact TrueB.mk rfl | omega) only [go_sem, sc3, Bool.or_true]
            first | refine wpAct_callF (ip _ _) rfl rfl rfl rfl rfl rfl rfl rfl rfl ?_ | done
            simp (maxSteps := 400000) -dsimp -implicitDefEqProofs (disch := first | exact TrueB.mk rfl | omega) only [go_sem, sc3, Bool.or_true]
            refine wpAct_callS [0] (mm _ _) rfl rfl rfl rfl rfl rfl rfl rfl (by cases w0 <;> cases w1 <;> cases w2 <;> cases v <;> rfl) rfl ?_
            simp (maxSteps := 400000) -dsimp -implicitDefEqProofs (disch := first | exact TrueB.mk rfl | omega) only [go_sem, sc3, Bool.or_true]
            refine wpAct_callS [0] (oo) rfl rfl rfl rfl rfl rfl rfl rfl (by cases w0 <;> cases w1 <;> cases w2 <;> cases v <;> rfl) rfl ?_
            simp (maxSteps := 400000) -dsimp -implicitDefEqProofs (disch := first | exact TrueB.mk rfl | omega) only [go_sem, sc3, Bool.or_true]
            refine wpAct_callS [0] (hn _ _ _) rfl rfl rfl rfl rfl rfl rfl rfl (by cases w0 <;> cases w1 <;> cases w2 <;> cases v <;> rfl) rfl ?_
            simp (maxSteps := 400000) -dsimp -implicitDefEqProofs (disch := first | exact TrueB.mk rfl | omega) only [go_sem, sc3, Bool.or_true]
            refine wpAct_callS [0] (oo2) rfl rfl rfl rfl rfl rfl rfl rfl (by cases w0 <;> cases w1 <;> cases w2 <;> cases v <;> rfl) rfl ?_
            simp (maxSteps := 400000) -dsimp -implicitDefEqProofs (disch := first | exact TrueB.mk rfl | omega) only [go_sem, sc3, Bool.or_true]
            refine wpLoop_ind (α := Nat) (fun k => match k with
                | 1 => ⟨[(0, .ptr 0 0), (4, .ptr 1185 0), (10, .pure true (.bool false)), (13, .row 1186 1), (14, .pure true (.int .i64 1)), (15, .pure true (.int .i64 1))], [(0, boxW false w1 w2 true v v (w, y, z)), (1185, .box [.pure mc (.int .i64 cf), .pure mc (.int .i64 tm), .pure mc (.int .i64 1), .pure mc (.int .i64 0), .pure mc (.str []), .pure mc (.str []), .pure mc (.int .i64 0), .pure mc (.int .u32 0), .pure mc (.bool false)]), (1186, .row true 3 0 [.agg [.int .i64 49185, .int .i64 x.1, .int .i64 e]])]⟩
                | 2 => ⟨[(0, .ptr 0 0), (4, .ptr 1185 0), (10, .pure true (.bool false)), (13, .row 1186 1), (14, .pure true (.int .i64 1)), (15, .pure true (.int .i64 2))], [(0, boxW false w1 w2 true v v (w, y, z)), (1185, .box [.pure mc (.int .i64 cf), .pure mc (.int .i64 tm), .pure mc (.int .i64 1), .pure mc (.int .i64 0), .pure mc (.str []), .pure mc (.str []), .pure mc (.int .i64 0), .pure mc (.int .u32 0), .pure mc (.bool false)]), (1186, .row true 3 0 [.agg [.int .i64 49185, .int .i64 x.1, .int .i64 e]])]⟩
                | _ => ⟨[(0, .ptr 0 0), (4, .ptr 1185 0), (10, .pure true (.bool false)), (13, .row 1186 2), (14, .pure true (.int .i64 1)), (15, .pure true (.int .i64 3))], [(0, boxW false w1 false true v true (w, y, t)), (1185, .box [.pure mc (.int .i64 cf), .pure mc (.int .i64 tm), .pure mc (.int .i64 1), .pure mc (.int .i64 0), .pure mc (.str []), .pure mc (.str []), .pure mc (.int .i64 0), .pure mc (.int .u32 0), .pure mc (.bool false)]), (1186, .row true 3 1 [.agg [.int .i64 49185, .int .i64 x.1, .int .i64 e], .agg [.int .i64 32855, .int .i64 z.1, .int .i64 1]])]⟩) (fun k => k = 1 ∨ k = 2 ∨ k = 3) (fun k => 3 - k) ?_ 1 (.inl rfl) rfl
            intro k hk
            rcases hk with rfl | rfl | rfl
            · simp only [boxW]
              simp (maxSteps := 400000) -dsimp -implicitDefEqProofs (disch := first | exact TrueB.mk rfl | omega) only [go_sem, sc3, Bool.or_true]
              refine wpAct_callS [0] (oo2) rfl rfl rfl rfl rfl rfl rfl rfl (by cases w0 <;> cases w1 <;> cases w2 <;> cases v <;> rfl) rfl ?_
              simp (maxSteps := 400000) -dsimp -implicitDefEqProofs (disch := first | exact TrueB.mk rfl | omega) only [go_sem, sc3, Bool.or_true]
              refine wpAct_callS [0] (qy _ _ _) rfl rfl rfl rfl rfl rfl rfl rfl (by cases w0 <;> cases w1 <;> cases w2 <;> cases v <;> rfl) rfl ?_
              simp (maxSteps := 400000) -dsimp -implicitDefEqProofs (disch := first | exact TrueB.mk rfl | omega) only [go_sem, sc3, Bool.or_true]
              first | exact again_mk ⟨2, .inr (.inl rfl), by decide, rfl⟩ | done
            · simp only [boxW]
              simp (maxSteps := 400000) -dsimp -implicitDefEqProofs (disch := first | exact TrueB.mk rfl | omega) only [go_sem, sc3, Bool.or_true]
              refine wpAct_callS [0] (oo3) rfl rfl rfl rfl rfl rfl rfl rfl (by cases w0 <;> cases w1 <;> cases w2 <;> cases v <;> rfl) rfl ?_
              simp (maxSteps := 400000) -dsimp -implicitDefEqProofs (disch := first | exact TrueB.mk rfl | omega) only [go_sem, sc3, Bool.or_true]
              refine wpAct_callS [0] (qz _ _ _) rfl rfl rfl rfl rfl rfl rfl rfl (by cases w0 <;> cases w1 <;> cases w2 <;> cases v <;> rfl) rfl ?_
              simp (maxSteps := 400000) -dsimp -implicitDefEqProofs (disch := first | exact TrueB.mk rfl | omega) only [go_sem, sc3, Bool.or_true]
              first | exact again_mk ⟨3, .inr (.inr rfl), by decide, rfl⟩ | done
            · simp only [boxW]
              simp (maxSteps := 400000) -dsimp -implicitDefEqProofs (disch := first | exact TrueB.mk rfl | omega) only [go_sem, sc3, Bool.or_true]
              first | exact rfl | done
        | some u =>
          rw [ey] at h
          cases ez : hapL cf tm z 1 with
          | none =>
            rw [ez] at h
            simp only [Option.some.injEq, Prod.mk.injEq] at h
            obtain ⟨rfl, rfl, rfl, rfl, rfl⟩ := h
            have qy := fun mc mi me => hapY_1 (w0 := false) (w1 := w1) (w2 := w2) (v0 := true) (v1 := v) (v2 := v) h1 h2 (x := w) (y := y) (z := z) hy ey mc mi me
            have qz := fun mc mi me => hapN_2 (w0 := false) (w1 := false) (w2 := w2) (v0 := true) (v1 := true) (v2 := v) (x := w) (y := u) (z := z) hz ez mc mi me
            have oo3 := openL_any (w0 := false) (w1 := false) (w2 := w2) (v0 := true) (v1 := true) (v2 := v) w u z
            rw [ow] at oo3
            unfold boxW at *
            unfold confV at *
            refine Runs.of Tryd.func33 rfl (by simp [Tryd.ntmps33]) ?_
            simp (maxSteps := 400000) -dsimp -implicitDefEqProofs (disch := first | exact TrueB.mk rfl | omega) only [go_sem, Tryd.ntmps33]
            first | refine wpAct_call0 (protos_any) rfl rfl rfl rfl rfl rfl rfl rfl ?_ | done
            simp (maxSteps := 400000) -dsimp -implicitDefEqProofs (disch := first | exact TrueB.mk rfl | omega) only [go_sem, sc3, Bool.or_true]
            first | refine wpAct_callF (ip _ _) rfl rfl rfl rfl rfl rfl rfl rfl rfl ?_ | done
            simp (maxSteps := 400000) -dsimp -implicitDefEqProofs (disch := first | exact TrueB.mk rfl | omega) only [go_sem, sc3, Bool.or_true]
            refine wpAct_callS [0] (mm _ _) rfl rfl rfl rfl rfl rfl rfl rfl (by cases w0 <;> cases w1 <;> cases w2 <;> cases v <;> rfl) rfl ?_
            simp (maxSteps := 400000) -dsimp -implicitDefEqProofs (disch := first | exact TrueB.mk rfl | omega) only [go_sem, sc3, Bool.or_true]
            refine wpAct_callS [0] (oo) rfl rfl rfl rfl rfl rfl rfl rfl (by cases w0 <;> cases w1 <;> cases w2 <;> cases v <;> rfl) rfl ?_
            simp (maxSteps := 400000) -dsimp -implicitDefEqProofs (disch := first | exact TrueB.mk rfl | omega) only [go_sem, sc3, Bool.or_true]
            refine wpAct_callS [0] (hn _ _ _) rfl rfl rfl rfl rfl rfl rfl rfl (by cases w0 <;> cases w1 <;> cases w2 <;> cases v <;> rfl) rfl ?_
            simp (maxSteps := 400000) -dsimp -implicitDefEqProofs (disch := first | exact TrueB.mk rfl | omega) only [go_sem, sc3, Bool.or_true]
            refine wpAct_callS [0] (oo2) rfl rfl rfl rfl rfl rfl rfl rfl (by cases w0 <;> cases w1 <;> cases w2 <;> cases v <;> rfl) rfl ?_
            simp (maxSteps := 400000) -dsimp -implicitDefEqProofs (disch := first | exact TrueB.mk rfl | omega) only [go_sem, sc3, Bool.or_true]
            refine wpLoop_ind (α := Nat) (fun k => match k with
                | 1 => ⟨[(0, .ptr 0 0), (4, .ptr 1185 0), (10, .pure true (.bool false)), (13, .row 1186 1), (14, .pure true (.int .i64 1)), (15, .pure true (.int .i64 1))], [(0, boxW false w1 w2 true v v (w, y, z)), (1185, .box [.pure mc (.int .i64 cf), .pure mc (.int .i64 tm), .pure mc (.int .i64 1), .pure mc (.int .i64 0), .pure mc (.str []), .pure mc (.str []), .pure mc (.int .i64 0), .pure mc (.int .u32 0), .pure mc (.bool false)]), (1186, .row true 3 0 [.agg [.int .i64 49185, .int .i64 x.1, .int .i64 e]])]⟩
                | 2 => ⟨[(0, .ptr 0 0), (4, .ptr 1185 0), (10, .pure true (.bool false)), (13, .row 1186 2), (14, .pure true (.int .i64 1)), (15, .pure true (.int .i64 2))], [(0, boxW false false w2 true true v (w, u, z)), (1185, .box [.pure mc (.int .i64 cf), .pure mc (.int .i64 tm), .pure mc (.int .i64 1), .pure mc (.int .i64 0), .pure mc (.str []), .pure mc (.str []), .pure mc (.int .i64 0), .pure mc (.int .u32 0), .pure mc (.bool false)]), (1186, .row true 3 1 [.agg [.int .i64 49185, .int .i64 x.1, .int .i64 e], .agg [.int .i64 32801, .int .i64 y.1, .int .i64 1]])]⟩
                | _ => ⟨[(0, .ptr 0 0), (4, .ptr 1185 0), (10, .pure true (.bool false)), (13, .row 1186 2), (14, .pure true (.int .i64 1)), (15, .pure true (.int .i64 3))], [(0, boxW false false w2 true true v (w, u, z)), (1185, .box [.pure mc (.int .i64 cf), .pure mc (.int .i64 tm), .pure mc (.int .i64 1), .pure mc (.int .i64 0), .pure mc (.str []), .pure mc (.str []), .pure mc (.int .i64 0), .pure mc (.int .u32 0), .pure mc (.bool false)]), (1186, .row true 3 1 [.agg [.int .i64 49185, .int .i64 x.1, .int .i64 e], .agg [.int .i64 32801, .int .i64 y.1, .int .i64 1]])]⟩) (fun k => k = 1 ∨ k = 2 ∨ k = 3) (fun k => 3 - k) ?_ 1 (.inl rfl) rfl
            intro k hk
            rcases hk with rfl | rfl | rfl
            · simp only [boxW]
              simp (maxSteps := 400000) -dsimp -implicitDefEqProofs (disch := first | exact TrueB.mk rfl | omega) only [go_sem, sc3, Bool.or_true]
              refine wpAct_callS [0] (oo2) rfl rfl rfl rfl rfl rfl rfl rfl (by cases w0 <;> cases w1 <;> cases w2 <;> cases v <;> rfl) rfl ?_
              simp (maxSteps := 400000) -dsimp -implicitDefEqProofs (disch := first | exact TrueB.mk rfl | omega) only [go_sem, sc3, Bool.or_true]
              refine wpAct_callS [0] (qy _ _ _) rfl rfl rfl rfl rfl rfl rfl rfl (by cases w0 <;> cases w1 <;> cases w2 <;> cases v <;> rfl) rfl ?_
              simp (maxSteps := 400000) -dsimp -implicitDefEqProofs (disch := first | exact TrueB.mk rfl | omega) only [go_sem, sc3, Bool.or_true]
              first | exact again_mk ⟨2, .inr (.inl rfl), by decide, rfl⟩ | done
            · simp only [boxW]
              simp (maxSteps := 400000) -dsimp -implicitDefEqProofs (disch := first | exact TrueB.mk rfl | omega) only [go_sem, sc3, Bool.or_true]
              refine wpAct_callS [0] (oo3) rfl rfl rfl rfl rfl rfl rfl rfl (by cases w0 <;> cases w1 <;> cases w2 <;> cases v <;> rfl) rfl ?_
              simp (maxSteps := 400000) -dsimp -implicitDefEqProofs (disch := first | exact TrueB.mk rfl | omega) only [go_sem, sc3, Bool.or_true]
              refine wpAct_callS [0] (qz _ _ _) rfl rfl rfl rfl rfl rfl rfl rfl (by cases w0 <;> cases w1 <;> cases w2 <;> cases v <;> rfl) rfl ?_
              simp (maxSteps := 400000) -dsimp -implicitDefEqProofs (disch := first | exact TrueB.mk rfl | omega) only [go_sem, sc3, Bool.or_true]
              first | exact again_mk ⟨3, .inr (.inr rfl), by decide, rfl⟩ | done
            · simp only [boxW]
              simp (maxSteps := 400000) -dsimp -implicitDefEqProofs (disch := first | exact TrueB.mk rfl | omega) only [go_sem, sc3, Bool.or_true]
              first | exact rfl | done
          | some t =>
            rw [ez] at h
            simp only [Option.some.injEq, Prod.mk.injEq] at h
            obtain ⟨rfl, rfl, rfl, rfl, rfl⟩ := h
            have qy := fun mc mi me => hapY_1 (w0 := false) (w1 := w1) (w2 := w2) (v0 := true) (v1 := v) (v2 := v) h1 h2 (x := w) (y := y) (z := z) hy ey mc mi me
            have qz := fun mc mi me => hapY_2 (w0 := false) (w1 := false) (w2 := w2) (v0 := true) (v1 := true) (v2 := v) h1 h2 (x := w) (y := u) (z := z) hz ez mc mi me
            have oo3 := openL_any (w0 := false) (w1 := false) (w2 := w2) (v0 := true) (v1 := true) (v2 := v) w u z
            rw [ow] at oo3
            unfold boxW at *
            unfold confV at *
            refine Runs.of Tryd.func33 rfl (by simp [Tryd.ntmps33]) ?_
            simp (maxSteps := 400000) -dsimp -implicitDefEqProofs (disch := first | exact TrueB.mk rfl | omega) only [go_sem, Tryd.ntmps33]
            first | refine wpAct_call0 (protos_any) rfl rfl rfl rfl rfl rfl rfl rfl ?_ | done
            simp (maxSteps := 400000) -dsimp -implicitDefEqProofs (disch := first | exact TrueB.mk rfl | omega) only [go_sem, sc3, Bool.or_true]
            first | refine wpAct_callF (ip _ _) rfl rfl rfl rfl rfl rfl rfl rfl rfl ?_ | done
            simp (maxSteps := 400000) -dsimp -implicitDefEqProofs (disch := first | exact TrueB.mk rfl | omega) only [go_sem, sc3, Bool.or_true]
            refine wpAct_callS [0] (mm _ _) rfl rfl rfl rfl rfl rfl rfl rfl (by cases w0 <;> cases w1 <;> cases w2 <;> cases v <;> rfl) rfl ?_
            simp (maxSteps := 400000) -dsimp -implicitDefEqProofs (disch := first | exact TrueB.mk rfl | omega) only [go_sem, sc3, Bool.or_true]
            refine wpAct_callS [0] (oo) rfl rfl rfl rfl rfl rfl rfl rfl (by cases w0 <;> cases w1 <;> cases w2 <;> cases v <;> rfl) rfl ?_
            simp (maxSteps := 400000) -dsimp -implicitDefEqProofs (disch := first | exact TrueB.mk rfl | omega) only [go_sem, sc3, Bool.or_true]
            refine wpAct_callS [0] (hn _ _ _) rfl rfl rfl rfl rfl rfl rfl rfl (by cases w0 <;> cases w1 <;> cases w2 <;> cases v <;> rfl) rfl ?_
            simp (maxSteps := 400000) -dsimp -implicitDefEqProofs (disch := first | exact TrueB.mk rfl | omega) only [go_sem, sc3, Bool.or_true]
            refine wpAct_callS [0] (oo2) rfl rfl rfl rfl rfl rfl rfl rfl (by cases w0 <;> cases w1 <;> cases w2 <;> cases v <;> rfl) rfl ?_
            simp (maxSteps := 400000) -dsimp -implicitDefEqProofs (disch := first | exact TrueB.mk rfl | omega) only [go_sem, sc3, Bool.or_true]
            refine wpLoop_ind (α := Nat) (fun k => match k with
                | 1 => ⟨[(0, .ptr 0 0), (4, .ptr 1185 0), (10, .pure true (.bool false)), (13, .row 1186 1), (14, .pure true (.int .i64 1)), (15, .pure true (.int .i64 1))], [(0, boxW false w1 w2 true v v (w, y, z)), (1185, .box [.pure mc (.int .i64 cf), .pure mc (.int .i64 tm), .pure mc (.int .i64 1), .pure mc (.int .i64 0), .pure mc (.str []), .pure mc (.str []), .pure mc (.int .i64 0), .pure mc (.int .u32 0), .pure mc (.bool false)]), (1186, .row true 3 0 [.agg [.int .i64 49185, .int .i64 x.1, .int .i64 e]])]⟩
                | 2 => ⟨[(0, .ptr 0 0), (4, .ptr 1185 0), (10, .pure true (.bool false)), (13, .row 1186 2), (14, .pure true (.int .i64 1)), (15, .pure true (.int .i64 2))], [(0, boxW false false w2 true true v (w, u, z)), (1185, .box [.pure mc (.int .i64 cf), .pure mc (.int .i64 tm), .pure mc (.int .i64 1), .pure mc (.int .i64 0), .pure mc (.str []), .pure mc (.str []), .pure mc (.int .i64 0), .pure mc (.int .u32 0), .pure mc (.bool false)]), (1186, .row true 3 1 [.agg [.int .i64 49185, .int .i64 x.1, .int .i64 e], .agg [.int .i64 32801, .int .i64 y.1, .int .i64 1]])]⟩
                | _ => ⟨[(0, .ptr 0 0), (4, .ptr 1185 0), (10, .pure true (.bool false)), (13, .row 1186 3), (14, .pure true (.int .i64 1)), (15, .pure true (.int .i64 3))], [(0, boxW false false false true true true (w, u, t)), (1185, .box [.pure mc (.int .i64 cf), .pure mc (.int .i64 tm), .pure mc (.int .i64 1), .pure mc (.int .i64 0), .pure mc (.str []), .pure mc (.str []), .pure mc (.int .i64 0), .pure mc (.int .u32 0), .pure mc (.bool false)]), (1186, .row true 3 2 [.agg [.int .i64 49185, .int .i64 x.1, .int .i64 e], .agg [.int .i64 32801, .int .i64 y.1, .int .i64 1], .agg [.int .i64 32855, .int .i64 z.1, .int .i64 1]])]⟩) (fun k => k = 1 ∨ k = 2 ∨ k = 3) (fun k => 3 - k) ?_ 1 (.inl rfl) rfl
            intro k hk
            rcases hk with rfl | rfl | rfl
            · simp only [boxW]
              simp (maxSteps := 400000) -dsimp -implicitDefEqProofs (disch := first | exact TrueB.mk rfl | omega) only [go_sem, sc3, Bool.or_true]
              refine wpAct_callS [0] (oo2) rfl rfl rfl rfl rfl rfl rfl rfl (by cases w0 <;> cases w1 <;> cases w2 <;> cases v <;> rfl) rfl ?_
              simp (maxSteps := 400000) -dsimp -implicitDefEqProofs (disch := first | exact TrueB.mk rfl | omega) only [go_sem, sc3, Bool.or_true]
              refine wpAct_callS [0] (qy _ _ _) rfl rfl rfl rfl rfl rfl rfl rfl (by cases w0 <;> cases w1 <;> cases w2 <;> cases v <;> rfl) rfl ?_
              simp (maxSteps := 400000) -dsimp -implicitDefEqProofs (disch := first | exact TrueB.mk rfl | omega) only [go_sem, sc3, Bool.or_true]
              first | exact again_mk ⟨2, .inr (.inl rfl), by decide, rfl⟩ | done
            · simp only [boxW]
              simp (maxSteps := 400000) -dsimp -implicitDefEqProofs (disch := first | exact TrueB.mk rfl | omega) only [go_sem, sc3, Bool.or_true]
              refine wpAct_callS [0] (oo3) rfl rfl rfl rfl rfl rfl rfl rfl (by cases w0 <;> cases w1 <;> cases w2 <;> cases v <;> rfl) rfl ?_
              simp (maxSteps := 400000) -dsimp -implicitDefEqProofs (disch := first | exact TrueB.mk rfl | omega) only [go_sem, sc3, Bool.or_true]
              refine wpAct_callS [0] (qz _ _ _) rfl rfl rfl rfl rfl rfl rfl rfl (by cases w0 <;> cases w1 <;> cases w2 <;> cases v <;> rfl) rfl ?_
              simp (maxSteps := 400000) -dsimp -implicitDefEqProofs (disch := first | exact TrueB.mk rfl | omega) only [go_sem, sc3, Bool.or_true]
              first | exact again_mk ⟨3, .inr (.inr rfl), by decide, rfl⟩ | done
            · simp only [boxW]
              simp (maxSteps := 400000) -dsimp -implicitDefEqProofs (disch := first | exact TrueB.mk rfl | omega) only [go_sem, sc3, Bool.or_true]
              first | exact rfl | done
      · have ox : openL x = true := by
          cases hq : openL x with
          | true => rfl
          | false => exact absurd (hq.trans ow.symm) ho
        rw [ow] at h oo2
        rw [ox] at oo
        simp only [if_true, Bool.false_eq_true, if_false] at h
        unfold follL at h
        cases ey : hapL cf tm y 2 with
        | none =>
          rw [ey] at h
          cases ez : hapL cf tm z 2 with
          | none =>
            rw [ez] at h
            simp only [Option.some.injEq, Prod.mk.injEq] at h
            obtain ⟨rfl, rfl, rfl, rfl, rfl⟩ := h
            have qy := fun mc mi me => hapN_1 (w0 := false) (w1 := w1) (w2 := w2) (v0 := true) (v1 := v) (v2 := v) (x := w) (y := y) (z := z) hy ey mc mi me
            have qz := fun mc mi me => hapN_2 (w0 := false) (w1 := w1) (w2 := w2) (v0 := true) (v1 := v) (v2 := v) (x := w) (y := y) (z := z) hz ez mc mi me
            have oo3 := openL_any (w0 := false) (w1 := w1) (w2 := w2) (v0 := true) (v1 := v) (v2 := v) w y z
            rw [ow] at oo3
            unfold boxW at *
            unfold confV at *
            refine Runs.of Tryd.func33 rfl (by simp [Tryd.ntmps33]) ?_
            simp (maxSteps := 400000) -dsimp -implicitDefEqProofs (disch := first | exact TrueB.mk rfl | omega) only [go_sem, Tryd.ntmps33]
            first | refine wpAct_call0 (protos_any) rfl rfl rfl rfl rfl rfl rfl rfl ?_ | done
            simp (maxSteps := 400000) -dsimp -implicitDefEqProofs (disch := first | exact TrueB.mk rfl | omega) only [go_sem, sc3, Bool.or_true]
            first | refine wpAct_callF (ip _ _) rfl rfl rfl rfl rfl rfl rfl rfl rfl ?_ | done
            simp (maxSteps := 400000) -dsimp -implicitDefEqProofs (disch := first | exact TrueB.mk rfl | omega) only [go_sem, sc3, Bool.or_true]
            refine wpAct_callS [0] (mm _ _) rfl rfl rfl rfl rfl rfl rfl rfl (by cases w0 <;> cases w1 <;> cases w2 <;> cases v <;> rfl) rfl ?_
            simp (maxSteps := 400000) -dsimp -implicitDefEqProofs (disch := first | exact TrueB.mk rfl | omega) only [go_sem, sc3, Bool.or_true]
            refine wpAct_callS [0] (oo) rfl rfl rfl rfl rfl rfl rfl rfl (by cases w0 <;> cases w1 <;> cases w2 <;> cases v <;> rfl) rfl ?_
            simp (maxSteps := 400000) -dsimp -implicitDefEqProofs (disch := first | exact TrueB.mk rfl | omega) only [go_sem, sc3, Bool.or_true]
            refine wpAct_callS [0] (hn _ _ _) rfl rfl rfl rfl rfl rfl rfl rfl (by cases w0 <;> cases w1 <;> cases w2 <;> cases v <;> rfl) rfl ?_
            simp (maxSteps := 400000) -dsimp -implicitDefEqProofs (disch := first | exact TrueB.mk rfl | omega) only [go_sem, sc3, Bool.or_true]
            refine wpAct_callS [0] (oo2) rfl rfl rfl rfl rfl rfl rfl rfl (by cases w0 <;> cases w1 <;> cases w2 <;> cases v <;> rfl) rfl ?_
            simp (maxSteps := 400000) -dsimp -implicitDefEqProofs (disch := first | exact TrueB.mk rfl | omega) only [go_sem, sc3, Bool.or_true]
            refine wpLoop_ind (α := Nat) (fun k => match k with
                | 1 => ⟨[(0, .ptr 0 0), (4, .ptr 1185 0), (10, .pure true (.bool true)), (13, .row 1186 1), (14, .pure true (.int .i64 2)), (15, .pure true (.int .i64 1))], [(0, boxW false w1 w2 true v v (w, y, z)), (1185, .box [.pure mc (.int .i64 cf), .pure mc (.int .i64 tm), .pure mc (.int .i64 1), .pure mc (.int .i64 0), .pure mc (.str []), .pure mc (.str []), .pure mc (.int .i64 0), .pure mc (.int .u32 0), .pure mc (.bool false)]), (1186, .row true 3 0 [.agg [.int .i64 49185, .int .i64 x.1, .int .i64 e]])]⟩
                | 2 => ⟨[(0, .ptr 0 0), (4, .ptr 1185 0), (10, .pure true (.bool true)), (13, .row 1186 1), (14, .pure true (.int .i64 2)), (15, .pure true (.int .i64 2))], [(0, boxW false w1 w2 true v v (w, y, z)), (1185, .box [.pure mc (.int .i64 cf), .pure mc (.int .i64 tm), .pure mc (.int .i64 1), .pure mc (.int .i64 0), .pure mc (.str []), .pure mc (.str []), .pure mc (.int .i64 0), .pure mc (.int .u32 0), .pure mc (.bool false)]), (1186, .row true 3 0 [.agg [.int .i64 49185, .int .i64 x.1, .int .i64 e]])]⟩
                | _ => ⟨[(0, .ptr 0 0), (4, .ptr 1185 0), (10, .pure true (.bool true)), (13, .row 1186 1), (14, .pure true (.int .i64 2)), (15, .pure true (.int .i64 3))], [(0, boxW false w1 w2 true v v (w, y, z)), (1185, .box [.pure mc (.int .i64 cf), .pure mc (.int .i64 tm), .pure mc (.int .i64 1), .pure mc (.int .i64 0), .pure mc (.str []), .pure mc (.str []), .pure mc (.int .i64 0), .pure mc (.int .u32 0), .pure mc (.bool false)]), (1186, .row true 3 0 [.agg [.int .i64 49185, .int .i64 x.1, .int .i64 e]])]⟩) (fun k => k = 1 ∨ k = 2 ∨ k = 3) (fun k => 3 - k) ?_ 1 (.inl rfl) rfl
            intro k hk
            rcases hk with rfl | rfl | rfl
            · simp only [boxW]
              simp (maxSteps := 400000) -dsimp -implicitDefEqProofs (disch := first | exact TrueB.mk rfl | omega) only [go_sem, sc3, Bool.or_true]
              refine wpAct_callS [0] (oo2) rfl rfl rfl rfl rfl rfl rfl rfl (by cases w0 <;> cases w1 <;> cases w2 <;> cases v <;> rfl) rfl ?_
              simp (maxSteps := 400000) -dsimp -implicitDefEqProofs (disch := first | exact TrueB.mk rfl | omega) only [go_sem, sc3, Bool.or_true]
              refine wpAct_callS [0] (qy _ _ _) rfl rfl rfl rfl rfl rfl rfl rfl (by cases w0 <;> cases w1 <;> cases w2 <;> cases v <;> rfl) rfl ?_
              simp (maxSteps := 400000) -dsimp -implicitDefEqProofs (disch := first | exact TrueB.mk rfl | omega) only [go_sem, sc3, Bool.or_true]
              first | exact again_mk ⟨2, .inr (.inl rfl), by decide, rfl⟩ | done
            · simp only [boxW]
              simp (maxSteps := 400000) -dsimp -implicitDefEqProofs (disch := first | exact TrueB.mk rfl | omega) only [go_sem, sc3, Bool.or_true]
              refine wpAct_callS [0] (oo3) rfl rfl rfl rfl rfl rfl rfl rfl (by cases w0 <;> cases w1 <;> cases w2 <;> cases v <;> rfl) rfl ?_
              simp (maxSteps := 400000) -dsimp -implicitDefEqProofs (disch := first | exact TrueB.mk rfl | omega) only [go_sem, sc3, Bool.or_true]
              refine wpAct_callS [0] (qz _ _ _) rfl rfl rfl rfl rfl rfl rfl rfl (by cases w0 <;> cases w1 <;> cases w2 <;> cases v <;> rfl) rfl ?_
              simp (maxSteps := 400000) -dsimp -implicitDefEqProofs (disch := first | exact TrueB.mk rfl | omega) only [go_sem, sc3, Bool.or_true]
              first | exact again_mk ⟨3, .inr (.inr rfl), by decide, rfl⟩ | done
            · simp only [boxW]
              simp (maxSteps := 400000) -dsimp -implicitDefEqProofs (disch := first | exact TrueB.mk rfl | omega) only [go_sem, sc3, Bool.or_true]
              first | exact rfl | done
          | some t =>
            rw [ez] at h
            simp only [Option.some.injEq, Prod.mk.injEq] at h
            obtain ⟨rfl, rfl, rfl, rfl, rfl⟩ := h
            have qy := fun mc mi me => hapN_1 (w0 := false) (w1 := w1) (w2 := w2) (v0 := true) (v1 := v) (v2 := v) (x := w) (y := y) (z := z) hy ey mc mi me
            have qz := fun mc mi me => hapY_2 (w0 := false) (w1 := w1) (w2 := w2) (v0 := true) (v1 := v) (v2 := v) h1 h2 (x := w) (y := y) (z := z) hz ez mc mi me
            have oo3 := openL_any (w0 := false) (w1 := w1) (w2 := w2) (v0 := true) (v1 := v) (v2 := v) w y z
            rw [ow] at oo3
            unfold boxW at *
            unfold confV at *
            refine Runs.of Tryd.func33 rfl (by simp [Tryd.ntmps33]) ?_
            simp (maxSteps := 400000) -dsimp -implicitDefEqProofs (disch := first | exact TrueB.mk rfl | omega) only [go_sem, Tryd.ntmps33]
            first | refine wpAct_call0 (protos_any) rfl rfl rfl rfl rfl rfl rfl rfl ?_ | done
            simp (maxSteps := 400000) -dsimp -implicitDefEqProofs (disch := first | exact TrueB.mk rfl | omega) only [go_sem, sc3, Bool.or_true]
            first | refine wpAct_callF (ip _ _) rfl rfl rfl rfl rfl rfl rfl rfl rfl ?_ | done
            simp (maxSteps := 400000) -dsimp -implicitDefEqProofs (disch := first | exact TrueB.mk rfl | omega) only [go_sem, sc3, Bool.or_true]
            refine wpAct_callS [0] (mm _ _) rfl rfl rfl rfl rfl rfl rfl rfl (by cases w0 <;> cases w1 <;> cases w2 <;> cases v <;> rfl) rfl ?_
            simp (maxSteps := 400000) -dsimp -implicitDefEqProofs (disch := first | exact TrueB.mk rfl | omega) only [go_sem, sc3, Bool.or_true]
            refine wpAct_callS [0] (oo) rfl rfl rfl rfl rfl rfl rfl rfl (by cases w0 <;> cases w1 <;> cases w2 <;> cases v <;> rfl) rfl ?_
            simp (maxSteps := 400000) -dsimp -implicitDefEqProofs (disch := first | exact TrueB.mk rfl | omega) only [go_sem, sc3, Bool.or_true]
            refine wpAct_callS [0] (hn _ _ _) rfl rfl rfl rfl rfl rfl rfl rfl (by cases w0 <;> cases w1 <;> cases w2 <;> cases v <;> rfl) rfl ?_
            simp (maxSteps := 400000) -dsimp -implicitDefEqProofs (disch := first | exact TrueB.mk rfl | omega) only [go_sem, sc3, Bool.or_true]
            refine wpAct_callS [0] (oo2) rfl rfl rfl rfl rfl rfl rfl rfl (by cases w0 <;> cases w1 <;> cases w2 <;> cases v <;> rfl) rfl ?_
            simp (maxSteps := 400000) -dsimp -implicitDefEqProofs (disch := first | exact TrueB.mk rfl | omega) only [go_sem, sc3, Bool.or_true]
            refine wpLoop_ind (α := Nat) (fun k => match k with
                | 1 => ⟨[(0, .ptr 0 0), (4, .ptr 1185 0), (10, .pure true (.bool true)), (13, .row 1186 1), (14, .pure true (.int .i64 2)), (15, .pure true (.int .i64 1))], [(0, boxW false w1 w2 true v v (w, y, z)), (1185, .box [.pure mc (.int .i64 cf), .pure mc (.int .i64 tm), .pure mc (.int .i64 1), .pure mc (.int .i64 0), .pure mc (.str []), .pure mc (.str []), .pure mc (.int .i64 0), .pure mc (.int .u32 0), .pure mc (.bool false)]), (1186, .row true 3 0 [.agg [.int .i64 49185, .int .i64 x.1, .int .i64 e]])]⟩
                | 2 => ⟨[(0, .ptr 0 0), (4, .ptr 1185 0), (10, .pure true (.bool true)), (13, .row 1186 1), (14, .pure true (.int .i64 2)), (15, .pure true (.int .i64 2))], [(0, boxW false w1 w2 true v v (w, y, z)), (1185, .box [.pure mc (.int .i64 cf), .pure mc (.int .i64 tm), .pure mc (.int .i64 1), .pure mc (.int .i64 0), .pure mc (.str []), .pure mc (.str []), .pure mc (.int .i64 0), .pure mc (.int .u32 0), .pure mc (.bool false)]), (1186, .row true 3 0 [.agg [.int .i64 49185, .int .i64 x.1, .int .i64 e]])]⟩
                | _ => ⟨[(0, .ptr 0 0), (4, .ptr 1185 0), (10, .pure true (.bool true)), (13, .row 1186 2), (14, .pure true (.int .i64 2)), (15, .pure true (.int .i64 3))], [(0, boxW false w1 false true v true (w, y, t)), (1185, .box [.pure mc (.int .i64 cf), .pure mc (.int .i64 tm), .pure mc (.int .i64 1), .pure mc (.int .i64 0), .pure mc (.str []), .pure mc (.str []), .pure mc (.int .i64 0), .pure mc (.int .u32 0), .pure mc (.bool false)]), (1186, .row true 3 1 [.agg [.int .i64 49185, .int .i64 x.1, .int .i64 e], .agg [.int .i64 32855, .int .i64 z.1, .int .i64 2]])]⟩) (fun k => k = 1 ∨ k = 2 ∨ k = 3) (fun k => 3 - k) ?_ 1 (.inl rfl) rfl
            intro k hk
            rcases hk with rfl | rfl | rfl
            · simp only [boxW]
              simp (maxSteps := 400000) -dsimp -implicitDefEqProofs (disch := first | exact TrueB.mk rfl | omega) only [go_sem, sc3, Bool.or_true]
              refine wpAct_callS [0] (oo2) rfl rfl rfl rfl rfl rfl rfl rfl (by cases w0 <;> cases w1 <;> cases w2 <;> cases v <;> rfl) rfl ?_
              simp (maxSteps := 400000) -dsimp -implicitDefEqProofs (disch := first | exact TrueB.mk rfl | omega) only [go_sem, sc3, Bool.or_true]
              refine wpAct_callS [0] (qy _ _ _) rfl rfl rfl rfl rfl rfl rfl rfl (by cases w0 <;> cases w1 <;> cases w2 <;> cases v <;> rfl) rfl ?_
              simp (maxSteps := 400000) -dsimp -implicitDefEqProofs (disch := first | exact TrueB.mk rfl | omega) only [go_sem, sc3, Bool.or_true]
              first | exact again_mk ⟨2, .inr (.inl rfl), by decide, rfl⟩ | done
            · simp only [boxW]
              simp (maxSteps := 400000) -dsimp -implicitDefEqProofs (disch := first | exact TrueB.mk rfl | omega) only [go_sem, sc3, Bool.or_true]
              refine wpAct_callS [0] (oo3) rfl rfl rfl rfl rfl rfl rfl rfl (by cases w0 <;> cases w1 <;> cases w2 <;> cases v <;> rfl) rfl ?_
              simp (maxSteps := 400000) -dsimp -implicitDefEqProofs (disch := first | exact TrueB.mk rfl | omega) only [go_sem, sc3, Bool.or_true]
              refine wpAct_callS [0] (qz _ _ _) rfl rfl rfl rfl rfl rfl rfl rfl (by cases w0 <;> cases w1 <;> cases w2 <;> cases v <;> rfl) rfl ?_
              simp (maxSteps := 400000) -dsimp -implicitDefEqProofs (disch := first | exact TrueB.mk rfl | omega) only [go_sem, sc3, Bool.or_true]
              first | exact again_mk ⟨3, .inr (.inr rfl), by decide, rfl⟩ | done
            · simp only [boxW]
              simp (maxSteps := 400000) -dsimp -implicitDefEqProofs (disch := first | exact TrueB.mk rfl | omega) only [go_sem, sc3, Bool.or_true]
              first | exact rfl | done
        | some u =>
          rw [ey] at h
          cases ez : hapL cf tm z 2 with
          | none =>
            rw [ez] at h
            simp only [Option.some.injEq, Prod.mk.injEq] at h
            obtain ⟨rfl, rfl, rfl, rfl, rfl⟩ := h
            have qy := fun mc mi me => hapY_1 (w0 := false) (w1 := w1) (w2 := w2) (v0 := true) (v1 := v) (v2 := v) h1 h2 (x := w) (y := y) (z := z) hy ey mc mi me
            have qz := fun mc mi me => hapN_2 (w0 := false) (w1 := false) (w2 := w2) (v0 := true) (v1 := true) (v2 := v) (x := w) (y := u) (z := z) hz ez mc mi me
            have oo3 := openL_any (w0 := false) (w1 := false) (w2 := w2) (v0 := true) (v1 := true) (v2 := v) w u z
            rw [ow] at oo3
            unfold boxW at *
            unfold confV at *
            refine Runs.of Tryd.func33 rfl (by simp [Tryd.ntmps33]) ?_
            simp (maxSteps := 400000) -dsimp -implicitDefEqProofs (disch := first | exact TrueB.mk rfl | omega) only [go_sem, Tryd.ntmps33]
            first | refine wpAct_call0 (protos_any) rfl rfl rfl rfl rfl rfl rfl rfl ?_ | done
            simp (maxSteps := 400000) -dsimp -implicitDefEqProofs (disch := first | exact TrueB.mk rfl | omega) only [go_sem, sc3, Bool.or_true]
            first | refine wpAct_callF (ip _ _) rfl rfl rfl rfl rfl rfl rfl rfl rfl ?_ | done
            simp (maxSteps := 400000) -dsimp -implicitDefEqProofs (disch := first | exact TrueB.mk rfl | omega) only [go_sem, sc3, Bool.or_true]
            refine wpAct_callS [0] (mm _ _) rfl rfl rfl rfl rfl rfl rfl rfl (by cases w0 <;> cases w1 <;> cases w2 <;> cases v <;> rfl) rfl ?_
            simp (maxSteps := 400000) -dsimp -implicitDefEqProofs (disch := first | exact TrueB.mk rfl | omega) only [go_sem, sc3, Bool.or_true]
            refine wpAct_callS [0] (oo) rfl rfl rfl rfl rfl rfl rfl rfl (by cases w0 <;> cases w1 <;> cases w2 <;> cases v <;> rfl) rfl ?_
            simp (maxSteps := 400000) -dsimp -implicitDefEqProofs (disch := first | exact TrueB.mk rfl | omega) only [go_sem, sc3, Bool.or_true]
            refine wpAct_callS [0] (hn _ _ _) rfl rfl rfl rfl rfl rfl rfl rfl (by cases w0 <;> cases w1 <;> cases w2 <;> cases v <;> rfl) rfl ?_
            simp (maxSteps := 400000) -dsimp -implicitDefEqProofs (disch := first | exact TrueB.mk rfl | omega) only [go_sem, sc3, Bool.or_true]
            refine wpAct_callS [0] (oo2) rfl rfl rfl rfl rfl rfl rfl rfl (by cases w0 <;> cases w1 <;> cases w2 <;> cases v <;> rfl) rfl ?_
            simp (maxSteps := 400000) -dsimp -implicitDefEqProofs (disch := first | exact TrueB.mk rfl | omega) only [go_sem, sc3, Bool.or_true]
            refine wpLoop_ind (α := Nat) (fun k => match k with
                | 1 => ⟨[(0, .ptr 0 0), (4, .ptr 1185 0), (10, .pure true (.bool true)), (13, .row 1186 1), (14, .pure true (.int .i64 2)), (15, .pure true (.int .i64 1))], [(0, boxW false w1 w2 true v v (w, y, z)), (1185, .box [.pure mc (.int .i64 cf), .pure mc (.int .i64 tm), .pure mc (.int .i64 1), .pure mc (.int .i64 0), .pure mc (.str []), .pure mc (.str []), .pure mc (.int .i64 0), .pure mc (.int .u32 0), .pure mc (.bool false)]), (1186, .row true 3 0 [.agg [.int .i64 49185, .int .i64 x.1, .int .i64 e]])]⟩
                | 2 => ⟨[(0, .ptr 0 0), (4, .ptr 1185 0), (10, .pure true (.bool true)), (13, .row 1186 2), (14, .pure true (.int .i64 2)), (15, .pure true (.int .i64 2))], [(0, boxW false false w2 true true v (w, u, z)), (1185, .box [.pure mc (.int .i64 cf), .pure mc (.int .i64 tm), .pure mc (.int .i64 1), .pure mc (.int .i64 0), .pure mc (.str []), .pure mc (.str []), .pure mc (.int .i64 0), .pure mc (.int .u32 0), .pure mc (.bool false)]), (1186, .row true 3 1 [.agg [.int .i64 49185, .int .i64 x.1, .int .i64 e], .agg [.int .i64 32801, .int .i64 y.1, .int .i64 2]])]⟩
                | _ => ⟨[(0, .ptr 0 0), (4, .ptr 1185 0), (10, .pure true (.bool true)), (13, .row 1186 2), (14, .pure true (.int .i64 2)), (15, .pure true (.int .i64 3))], [(0, boxW false false w2 true true v (w, u, z)), (1185, .box [.pure mc (.int .i64 cf), .pure mc (.int .i64 tm), .pure mc (.int .i64 1), .pure mc (.int .i64 0), .pure mc (.str []), .pure mc (.str []), .pure mc (.int .i64 0), .pure mc (.int .u32 0), .pure mc (.bool false)]), (1186, .row true 3 1 [.agg [.int .i64 49185, .int .i64 x.1, .int .i64 e], .agg [.int .i64 32801, .int .i64 y.1, .int .i64 2]])]⟩) (fun k => k = 1 ∨ k = 2 ∨ k = 3) (fun k => 3 - k) ?_ 1 (.inl rfl) rfl
            intro k hk
            rcases hk with rfl | rfl | rfl
            · simp only [boxW]
              simp (maxSteps := 400000) -dsimp -implicitDefEqProofs (disch := first | exact TrueB.mk rfl | omega) only [go_sem, sc3, Bool.or_true]
              refine wpAct_callS [0] (oo2) rfl rfl rfl rfl rfl rfl rfl rfl (by cases w0 <;> cases w1 <;> cases w2 <;> cases v <;> rfl) rfl ?_
              simp (maxSteps := 400000) -dsimp -implicitDefEqProofs (disch := first | exact TrueB.mk rfl | omega) only [go_sem, sc3, Bool.or_true]
              refine wpAct_callS [0] (qy _ _ _) rfl rfl rfl rfl rfl rfl rfl rfl (by cases w0 <;> cases w1 <;> cases w2 <;> cases v <;> rfl) rfl ?_
              simp (maxSteps := 400000) -dsimp -implicitDefEqProofs (disch := first | exact TrueB.mk rfl | omega) only [go_sem, sc3, Bool.or_true]
              first | exact again_mk ⟨2, .inr (.inl rfl), by decide, rfl⟩ | done
            · simp only [boxW]
              simp (maxSteps := 400000) -dsimp -implicitDefEqProofs (disch := first | exact TrueB.mk rfl | omega) only [go_sem, sc3, Bool.or_true]
              refine wpAct_callS [0] (oo3) rfl rfl rfl rfl rfl rfl rfl rfl (by cases w0 <;> cases w1 <;> cases w2 <;> cases v <;> rfl) rfl ?_
              simp (maxSteps := 400000) -dsimp -implicitDefEqProofs (disch := first | exact TrueB.mk rfl | omega) only [go_sem, sc3, Bool.or_true]
              refine wpAct_callS [0] (qz _ _ _) rfl rfl rfl rfl rfl rfl rfl rfl (by cases w0 <;> cases w1 <;> cases w2 <;> cases v <;> rfl) rfl ?_
              simp (maxSteps := 400000) -dsimp -implicitDefEqProofs (disch := first | exact TrueB.mk rfl | omega) only [go_sem, sc3, Bool.or_true]
              first | exact again_mk ⟨3, .inr (.inr rfl), by decide, rfl⟩ | done
            · simp only [boxW]
              simp (maxSteps := 400000) -dsimp -implicitDefEqProofs (disch := first | exact TrueB.mk rfl | omega) only [go_sem, sc3, Bool.or_true]
              first | exact rfl | done
          | some t =>
            rw [ez] at h
            simp only [Option.some.injEq, Prod.mk.injEq] at h
            obtain ⟨rfl, rfl, rfl, rfl, rfl⟩ := h
            have qy := fun mc mi me => hapY_1 (w0 := false) (w1 := w1) (w2 := w2) (v0 := true) (v1 := v) (v2 := v) h1 h2 (x := w) (y := y) (z := z) hy ey mc mi me
            have qz := fun mc mi me => hapY_2 (w0 := false) (w1 := false) (w2 := w2) (v0 := true) (v1 := true) (v2 := v) h1 h2 (x := w) (y := u) (z := z) hz ez mc mi me
            have oo3 := openL_any (w0 := false) (w1 := false) (w2 := w2) (v0 := true) (v1 := true) (v2 := v) w u z
            rw [ow] at oo3
            unfold boxW at *
            unfold confV at *
            refine Runs.of Tryd.func33 rfl (by simp [Tryd.ntmps33]) ?_
            simp (maxSteps := 400000) -dsimp -implicitDefEqProofs (disch := first | exact TrueB.mk rfl | omega) only [go_sem, Tryd.ntmps33]
            first | refine wpAct_call0 (protos_any) rfl rfl rfl rfl rfl rfl rfl rfl ?_ | done
            simp (maxSteps := 400000) -dsimp -implicitDefEqProofs (disch := first | exact TrueB.mk rfl | omega) only [go_sem, sc3, Bool.or_true]
            first | refine wpAct_callF (ip _ _) rfl rfl rfl rfl rfl rfl rfl rfl rfl ?_ | done
            simp (maxSteps := 400000) -dsimp -implicitDefEqProofs (disch := first | exact TrueB.mk rfl | omega) only [go_sem, sc3, Bool.or_true]
            refine wpAct_callS [0] (mm _ _) rfl rfl rfl rfl rfl rfl rfl rfl (by cases w0 <;> cases w1 <;> cases w2 <;> cases v <;> rfl) rfl ?_
            simp (maxSteps := 400000) -dsimp -implicitDefEqProofs (disch := first | exact TrueB.mk rfl | omega) only [go_sem, sc3, Bool.or_true]
            refine wpAct_callS [0] (oo) rfl rfl rfl rfl rfl rfl rfl rfl (by cases w0 <;> cases w1 <;> cases w2 <;> cases v <;> rfl) rfl ?_
            simp (maxSteps := 400000) -dsimp -implicitDefEqProofs (disch := first | exact TrueB.mk rfl | omega) only [go_sem, sc3, Bool.or_true]
            refine wpAct_callS [0] (hn _ _ _) rfl rfl rfl rfl rfl rfl rfl rfl (by cases w0 <;> cases w1 <;> cases w2 <;> cases v <;> rfl) rfl ?_
            simp (maxSteps := 400000) -dsimp -implicitDefEqProofs (disch := first | exact TrueB.mk rfl | omega) only [go_sem, sc3, Bool.or_true]
            refine wpAct_callS [0] (oo2) rfl rfl rfl rfl rfl rfl rfl rfl (by cases w0 <;> cases w1 <;> cases w2 <;> cases v <;> rfl) rfl ?_
            simp (maxSteps := 400000) -dsimp -implicitDefEqProofs (disch := first | exact TrueB.mk rfl | omega) only [go_sem, sc3, Bool.or_true]
            refine wpLoop_ind (α := Nat) (fun k => match k with
                | 1 => ⟨[(0, .ptr 0 0), (4, .ptr 1185 0), (10, .pure true (.bool true)), (13, .row 1186 1), (14, .pure true (.int .i64 2)), (15, .pure true (.int .i64 1))], [(0, boxW false w1 w2 true v v (w, y, z)), (1185, .box [.pure mc (.int .i64 cf), .pure mc (.int .i64 tm), .pure mc (.int .i64 1), .pure mc (.int .i64 0), .pure mc (.str []), .pure mc (.str []), .pure mc (.int .i64 0), .pure mc (.int .u32 0), .pure mc (.bool false)]), (1186, .row true 3 0 [.agg [.int .i64 49185, .int .i64 x.1, .int .i64 e]])]⟩
                | 2 => ⟨[(0, .ptr 0 0), (4, .ptr 1185 0), (10, .pure true (.bool true)), (13, .row 1186 2), (14, .pure true (.int .i64 2)), (15, .pure true (.int .i64 2))], [(0, boxW false false w2 true true v (w, u, z)), (1185, .box [.pure mc (.int .i64 cf), .pure mc (.int .i64 tm), .pure mc (.int .i64 1), .pure mc (.int .i64 0), .pure mc (.str []), .pure mc (.str []), .pure mc (.int .i64 0), .pure mc (.int .u32 0), .pure mc (.bool false)]), (1186, .row true 3 1 [.agg [.int .i64 49185, .int .i64 x.1, .int .i64 e], .agg [.int .i64 32801, .int .i64 y.1, .int .i64 2]])]⟩
                | _ => ⟨[(0, .ptr 0 0), (4, .ptr 1185 0), (10, .pure true (.bool true)), (13, .row 1186 3), (14, .pure true (.int .i64 2)), (15, .pure true (.int .i64 3))], [(0, boxW false false false true true true (w, u, t)), (1185, .box [.pure mc (.int .i64 cf), .pure mc (.int .i64 tm), .pure mc (.int .i64 1), .pure mc (.int .i64 0), .pure mc (.str []), .pure mc (.str []), .pure mc (.int .i64 0), .pure mc (.int .u32 0), .pure mc (.bool false)]), (1186, .row true 3 2 [.agg [.int .i64 49185, .int .i64 x.1, .int .i64 e], .agg [.int .i64 32801, .int .i64 y.1, .int .i64 2], .agg [.int .i64 32855, .int .i64 z.1, .int .i64 2]])]⟩) (fun k => k = 1 ∨ k = 2 ∨ k = 3) (fun k => 3 - k) ?_ 1 (.inl rfl) rfl
            intro k hk
            rcases hk with rfl | rfl | rfl
            · simp only [boxW]
              simp (maxSteps := 400000) -dsimp -implicitDefEqProofs (disch := first | exact TrueB.mk rfl | omega) only [go_sem, sc3, Bool.or_true]
              refine wpAct_callS [0] (oo2) rfl rfl rfl rfl rfl rfl rfl rfl (by cases w0 <;> cases w1 <;> cases w2 <;> cases v <;> rfl) rfl ?_
              simp (maxSteps := 400000) -dsimp -implicitDefEqProofs (disch := first | exact TrueB.mk rfl | omega) only [go_sem, sc3, Bool.or_true]
              refine wpAct_callS [0] (qy _ _ _) rfl rfl rfl rfl rfl rfl rfl rfl (by cases w0 <;> cases w1 <;> cases w2 <;> cases v <;> rfl) rfl ?_
              simp (maxSteps := 400000) -dsimp -implicitDefEqProofs (disch := first | exact TrueB.mk rfl | omega) only [go_sem, sc3, Bool.or_true]
              first | exact again_mk ⟨2, .inr (.inl rfl), by decide, rfl⟩ | done
            · simp only [boxW]
              simp (maxSteps := 400000) -dsimp -implicitDefEqProofs (disch := first | exact TrueB.mk rfl | omega) only [go_sem, sc3, Bool.or_true]
              refine wpAct_callS [0] (oo3) rfl rfl rfl rfl rfl rfl rfl rfl (by cases w0 <;> cases w1 <;> cases w2 <;> cases v <;> rfl) rfl ?_
              simp (maxSteps := 400000) -dsimp -implicitDefEqProofs (disch := first | exact TrueB.mk rfl | omega) only [go_sem, sc3, Bool.or_true]
              refine wpAct_callS [0] (qz _ _ _) rfl rfl rfl rfl rfl rfl rfl rfl (by cases w0 <;> cases w1 <;> cases w2 <;> cases v <;> rfl) rfl ?_
              simp (maxSteps := 400000) -dsimp -implicitDefEqProofs (disch := first | exact TrueB.mk rfl | omega) only [go_sem, sc3, Bool.or_true]
              first | exact again_mk ⟨3, .inr (.inr rfl), by decide, rfl⟩ | done
            · simp only [boxW]
              simp (maxSteps := 400000) -dsimp -implicitDefEqProofs (disch := first | exact TrueB.mk rfl | omega) only [go_sem, sc3, Bool.or_true]
              first | exact rfl | done
  rw [if_neg p0] at h
  rcases Classical.em (p = 32801) with p1 | p1
  · rw [if_pos p1] at h
    subst p1
    have mm := mayL_1 (w0 := w0) (w1 := w1) (w2 := w2) (v0 := v) (v1 := v) (v2 := v) x y z e
    have ip := index_p1
    cases hm : mayP 1 (openL x) y.2.2 e with
    | false => rw [hm] at h; simp at h
    | true =>
    rw [hm] at mm h
    rw [if_pos rfl] at h
    cases hh : hapL cf tm y e with
    | none => rw [hh] at h; simp at h
    | some w =>
      rw [hh] at h
      simp only [Option.some.injEq, Prod.mk.injEq] at h
      obtain ⟨rfl, rfl, rfl, rfl, rfl⟩ := h
      have hn := fun mc mi me => hapY_1 (w0 := w0) (w1 := w1) (w2 := w2) (v0 := v) (v1 := v) (v2 := v) h1 h2 (x := x) (y := y) (z := z) hy hh mc mi me
      have oo := openL_any (w0 := w0) (w1 := w1) (w2 := w2) (v0 := v) (v1 := v) (v2 := v) x y z
      have oo2 := openL_any (w0 := w0) (v0 := v) (w1 := false) (v1 := true) (w2 := w2) (v2 := v) x w z
      unfold boxW at *
      generalize openL x = o at *
      cases o with
      | true =>
        unfold confV at *
        refine Runs.of Tryd.func33 rfl (by simp [Tryd.ntmps33]) ?_
        simp (maxSteps := 400000) -dsimp -implicitDefEqProofs (disch := first | exact TrueB.mk rfl | omega) only [go_sem, Tryd.ntmps33]
        first | refine wpAct_call0 (protos_any) rfl rfl rfl rfl rfl rfl rfl rfl ?_ | done
        simp (maxSteps := 400000) -dsimp -implicitDefEqProofs (disch := first | exact TrueB.mk rfl | omega) only [go_sem, sc3, Bool.or_true]
        first | refine wpAct_callF (ip _ _) rfl rfl rfl rfl rfl rfl rfl rfl rfl ?_ | done
        simp (maxSteps := 400000) -dsimp -implicitDefEqProofs (disch := first | exact TrueB.mk rfl | omega) only [go_sem, sc3, Bool.or_true]
        refine wpAct_callS [0] (mm _ _) rfl rfl rfl rfl rfl rfl rfl rfl (by cases w0 <;> cases w1 <;> cases w2 <;> cases v <;> rfl) rfl ?_
        simp (maxSteps := 400000) -dsimp -implicitDefEqProofs (disch := first | exact TrueB.mk rfl | omega) only [go_sem, sc3, Bool.or_true]
        refine wpAct_callS [0] (oo) rfl rfl rfl rfl rfl rfl rfl rfl (by cases w0 <;> cases w1 <;> cases w2 <;> cases v <;> rfl) rfl ?_
        simp (maxSteps := 400000) -dsimp -implicitDefEqProofs (disch := first | exact TrueB.mk rfl | omega) only [go_sem, sc3, Bool.or_true]
        refine wpAct_callS [0] (hn _ _ _) rfl rfl rfl rfl rfl rfl rfl rfl (by cases w0 <;> cases w1 <;> cases w2 <;> cases v <;> rfl) rfl ?_
        simp (maxSteps := 400000) -dsimp -implicitDefEqProofs (disch := first | exact TrueB.mk rfl | omega) only [go_sem, sc3, Bool.or_true]
        refine wpAct_callS [0] (oo2) rfl rfl rfl rfl rfl rfl rfl rfl (by cases w0 <;> cases w1 <;> cases w2 <;> cases v <;> rfl) rfl ?_
        simp (maxSteps := 400000) -dsimp -implicitDefEqProofs (disch := first | exact TrueB.mk rfl | omega) only [go_sem, sc3, Bool.or_true]
        refine wpLoop_ind (α := Unit) (fun _ => ⟨[(0, .ptr 0 0), (4, .ptr 1185 0), (10, .pure true (.bool true)), (13, .row 1186 1), (14, .pure true (.int .i64 1)), (15, .pure true (.int .i64 1))], [(0, (boxW w0 false w2 v true v (x, w, z))), (1185, .box [.pure mc (.int .i64 cf), .pure mc (.int .i64 tm), .pure mc (.int .i64 1), .pure mc (.int .i64 0), .pure mc (.str []), .pure mc (.str []), .pure mc (.int .i64 0), .pure mc (.int .u32 0), .pure mc (.bool false)]), (1186, .row true 3 0 [.agg [.int .i64 32801, .int .i64 y.1, .int .i64 e]])]⟩) (fun _ => True) (fun _ => 0) ?_ () trivial rfl
        rintro _ _
        unfold boxW
        simp (maxSteps := 400000) -dsimp -implicitDefEqProofs (disch := first | exact TrueB.mk rfl | omega) only [go_sem, sc3, Bool.or_true]
        refine wpAct_callS [0] (oo2) rfl rfl rfl rfl rfl rfl rfl rfl (by cases w0 <;> cases w1 <;> cases w2 <;> cases v <;> rfl) rfl ?_
        simp (maxSteps := 400000) -dsimp -implicitDefEqProofs (disch := first | exact TrueB.mk rfl | omega) only [go_sem, sc3, Bool.or_true]
        first | exact rfl | done
      | false =>
        unfold confV at *
        refine Runs.of Tryd.func33 rfl (by simp [Tryd.ntmps33]) ?_
        simp (maxSteps := 400000) -dsimp -implicitDefEqProofs (disch := first | exact TrueB.mk rfl | omega) only [go_sem, Tryd.ntmps33]
        first | refine wpAct_call0 (protos_any) rfl rfl rfl rfl rfl rfl rfl rfl ?_ | done
        simp (maxSteps := 400000) -dsimp -implicitDefEqProofs (disch := first | exact TrueB.mk rfl | omega) only [go_sem, sc3, Bool.or_true]
        first | refine wpAct_callF (ip _ _) rfl rfl rfl rfl rfl rfl rfl rfl rfl ?_ | done
        simp (maxSteps := 400000) -dsimp -implicitDefEqProofs (disch := first | exact TrueB.mk rfl | omega) only [go_sem, sc3, Bool.or_true]
        refine wpAct_callS [0] (mm _ _) rfl rfl rfl rfl rfl rfl rfl rfl (by cases w0 <;> cases w1 <;> cases w2 <;> cases v <;> rfl) rfl ?_
        simp (maxSteps := 400000) -dsimp -implicitDefEqProofs (disch := first | exact TrueB.mk rfl | omega) only [go_sem, sc3, Bool.or_true]
        refine wpAct_callS [0] (oo) rfl rfl rfl rfl rfl rfl rfl rfl (by cases w0 <;> cases w1 <;> cases w2 <;> cases v <;> rfl) rfl ?_
        simp (maxSteps := 400000) -dsimp -implicitDefEqProofs (disch := first | exact TrueB.mk rfl | omega) only [go_sem, sc3, Bool.or_true]
        refine wpAct_callS [0] (hn _ _ _) rfl rfl rfl rfl rfl rfl rfl rfl (by cases w0 <;> cases w1 <;> cases w2 <;> cases v <;> rfl) rfl ?_
        simp (maxSteps := 400000) -dsimp -implicitDefEqProofs (disch := first | exact TrueB.mk rfl | omega) only [go_sem, sc3, Bool.or_true]
        refine wpAct_callS [0] (oo2) rfl rfl rfl rfl rfl rfl rfl rfl (by cases w0 <;> cases w1 <;> cases w2 <;> cases v <;> rfl) rfl ?_
        simp (maxSteps := 400000) -dsimp -implicitDefEqProofs (disch := first | exact TrueB.mk rfl | omega) only [go_sem, sc3, Bool.or_true]
        refine wpLoop_ind (α := Unit) (fun _ => ⟨[(0, .ptr 0 0), (4, .ptr 1185 0), (10, .pure true (.bool false)), (13, .row 1186 1), (14, .pure true (.int .i64 2)), (15, .pure true (.int .i64 1))], [(0, (boxW w0 false w2 v true v (x, w, z))), (1185, .box [.pure mc (.int .i64 cf), .pure mc (.int .i64 tm), .pure mc (.int .i64 1), .pure mc (.int .i64 0), .pure mc (.str []), .pure mc (.str []), .pure mc (.int .i64 0), .pure mc (.int .u32 0), .pure mc (.bool false)]), (1186, .row true 3 0 [.agg [.int .i64 32801, .int .i64 y.1, .int .i64 e]])]⟩) (fun _ => True) (fun _ => 0) ?_ () trivial rfl
        rintro _ _
        unfold boxW
        simp (maxSteps := 400000) -dsimp -implicitDefEqProofs (disch := first | exact TrueB.mk rfl | omega) only [go_sem, sc3, Bool.or_true]
        refine wpAct_callS [0] (oo2) rfl rfl rfl rfl rfl rfl rfl rfl (by cases w0 <;> cases w1 <;> cases w2 <;> cases v <;> rfl) rfl ?_
        simp (maxSteps := 400000) -dsimp -implicitDefEqProofs (disch := first | exact TrueB.mk rfl | omega) only [go_sem, sc3, Bool.or_true]
        first | exact rfl | done
  rw [if_neg p1] at h
  rcases Classical.em (p = 32855) with p2 | p2
  · rw [if_pos p2] at h
    subst p2
    have mm := mayL_2 (w0 := w0) (w1 := w1) (w2 := w2) (v0 := v) (v1 := v) (v2 := v) x y z e
    have ip := index_p2
    cases hm : mayP 2 (openL x) z.2.2 e with
    | false => rw [hm] at h; simp at h
    | true =>
    rw [hm] at mm h
    rw [if_pos rfl] at h
    cases hh : hapL cf tm z e with
    | none => rw [hh] at h; simp at h
    | some w =>
      rw [hh] at h
      simp only [Option.some.injEq, Prod.mk.injEq] at h
      obtain ⟨rfl, rfl, rfl, rfl, rfl⟩ := h
      have hn := fun mc mi me => hapY_2 (w0 := w0) (w1 := w1) (w2 := w2) (v0 := v) (v1 := v) (v2 := v) h1 h2 (x := x) (y := y) (z := z) hz hh mc mi me
      have oo := openL_any (w0 := w0) (w1 := w1) (w2 := w2) (v0 := v) (v1 := v) (v2 := v) x y z
      have oo2 := openL_any (w0 := w0) (v0 := v) (w1 := w1) (v1 := v) (w2 := false) (v2 := true) x y w
      unfold boxW at *
      generalize openL x = o at *
      cases o with
      | true =>
        unfold confV at *
        refine Runs.of Tryd.func33 rfl (by simp [Tryd.ntmps33]) ?_
        simp (maxSteps := 400000) -dsimp -implicitDefEqProofs (disch := first | exact TrueB.mk rfl | omega) only [go_sem, Tryd.ntmps33]
        first | refine wpAct_call0 (protos_any) rfl rfl rfl rfl rfl rfl rfl rfl ?_ | done
        simp (maxSteps := 400000) -dsimp -implicitDefEqProofs (disch := first | exact TrueB.mk rfl | omega) only [go_sem, sc3, Bool.or_true]
        first | refine wpAct_callF (ip _ _) rfl rfl rfl rfl rfl rfl rfl rfl rfl ?_ | done
        simp (maxSteps := 400000) -dsimp -implicitDefEqProofs (disch := first | exact TrueB.mk rfl | omega) only [go_sem, sc3, Bool.or_true]
        refine wpAct_callS [0] (mm _ _) rfl rfl rfl rfl rfl rfl rfl rfl (by cases w0 <;> cases w1 <;> cases w2 <;> cases v <;> rfl) rfl ?_
        simp (maxSteps := 400000) -dsimp -implicitDefEqProofs (disch := first | exact TrueB.mk rfl | omega) only [go_sem, sc3, Bool.or_true]
        refine wpAct_callS [0] (oo) rfl rfl rfl rfl rfl rfl rfl rfl (by cases w0 <;> cases w1 <;> cases w2 <;> cases v <;> rfl) rfl ?_
        simp (maxSteps := 400000) -dsimp -implicitDefEqProofs (disch := first | exact TrueB.mk rfl | omega) only [go_sem, sc3, Bool.or_true]
        refine wpAct_callS [0] (hn _ _ _) rfl rfl rfl rfl rfl rfl rfl rfl (by cases w0 <;> cases w1 <;> cases w2 <;> cases v <;> rfl) rfl ?_
        simp (maxSteps := 400000) -dsimp -implicitDefEqProofs (disch := first | exact TrueB.mk rfl | omega) only [go_sem, sc3, Bool.or_true]
        refine wpAct_callS [0] (oo2) rfl rfl rfl rfl rfl rfl rfl rfl (by cases w0 <;> cases w1 <;> cases w2 <;> cases v <;> rfl) rfl ?_
        simp (maxSteps := 400000) -dsimp -implicitDefEqProofs (disch := first | exact TrueB.mk rfl | omega) only [go_sem, sc3, Bool.or_true]
        refine wpLoop_ind (α := Unit) (fun _ => ⟨[(0, .ptr 0 0), (4, .ptr 1185 0), (10, .pure true (.bool true)), (13, .row 1186 1), (14, .pure true (.int .i64 1)), (15, .pure true (.int .i64 1))], [(0, (boxW w0 w1 false v v true (x, y, w))), (1185, .box [.pure mc (.int .i64 cf), .pure mc (.int .i64 tm), .pure mc (.int .i64 1), .pure mc (.int .i64 0), .pure mc (.str []), .pure mc (.str []), .pure mc (.int .i64 0), .pure mc (.int .u32 0), .pure mc (.bool false)]), (1186, .row true 3 0 [.agg [.int .i64 32855, .int .i64 z.1, .int .i64 e]])]⟩) (fun _ => True) (fun _ => 0) ?_ () trivial rfl
        rintro _ _
        unfold boxW
        simp (maxSteps := 400000) -dsimp -implicitDefEqProofs (disch := first | exact TrueB.mk rfl | omega) only [go_sem, sc3, Bool.or_true]
        refine wpAct_callS [0] (oo2) rfl rfl rfl rfl rfl rfl rfl rfl (by cases w0 <;> cases w1 <;> cases w2 <;> cases v <;> rfl) rfl ?_
        simp (maxSteps := 400000) -dsimp -implicitDefEqProofs (disch := first | exact TrueB.mk rfl | omega) only [go_sem, sc3, Bool.or_true]
        first | exact rfl | done
      | false =>
        unfold confV at *
        refine Runs.of Tryd.func33 rfl (by simp [Tryd.ntmps33]) ?_
        simp (maxSteps := 400000) -dsimp -implicitDefEqProofs (disch := first | exact TrueB.mk rfl | omega) only [go_sem, Tryd.ntmps33]
        first | refine wpAct_call0 (protos_any) rfl rfl rfl rfl rfl rfl rfl rfl ?_ | done
        simp (maxSteps := 400000) -dsimp -implicitDefEqProofs (disch := first | exact TrueB.mk rfl | omega) only [go_sem, sc3, Bool.or_true]
        first | refine wpAct_callF (ip _ _) rfl rfl rfl rfl rfl rfl rfl rfl rfl ?_ | done
        simp (maxSteps := 400000) -dsimp -implicitDefEqProofs (disch := first | exact TrueB.mk rfl | omega) only [go_sem, sc3, Bool.or_true]
        refine wpAct_callS [0] (mm _ _) rfl rfl rfl rfl rfl rfl rfl rfl (by cases w0 <;> cases w1 <;> cases w2 <;> cases v <;> rfl) rfl ?_
        simp (maxSteps := 400000) -dsimp -implicitDefEqProofs (disch := first | exact TrueB.mk rfl | omega) only [go_sem, sc3, Bool.or_true]
        refine wpAct_callS [0] (oo) rfl rfl rfl rfl rfl rfl rfl rfl (by cases w0 <;> cases w1 <;> cases w2 <;> cases v <;> rfl) rfl ?_
        simp (maxSteps := 400000) -dsimp -implicitDefEqProofs (disch := first | exact TrueB.mk rfl | omega) only [go_sem, sc3, Bool.or_true]
        refine wpAct_callS [0] (hn _ _ _) rfl rfl rfl rfl rfl rfl rfl rfl (by cases w0 <;> cases w1 <;> cases w2 <;> cases v <;> rfl) rfl ?_
        simp (maxSteps := 400000) -dsimp -implicitDefEqProofs (disch := first | exact TrueB.mk rfl | omega) only [go_sem, sc3, Bool.or_true]
        refine wpAct_callS [0] (oo2) rfl rfl rfl rfl rfl rfl rfl rfl (by cases w0 <;> cases w1 <;> cases w2 <;> cases v <;> rfl) rfl ?_
        simp (maxSteps := 400000) -dsimp -implicitDefEqProofs (disch := first | exact TrueB.mk rfl | omega) only [go_sem, sc3, Bool.or_true]
        refine wpLoop_ind (α := Unit) (fun _ => ⟨[(0, .ptr 0 0), (4, .ptr 1185 0), (10, .pure true (.bool false)), (13, .row 1186 1), (14, .pure true (.int .i64 2)), (15, .pure true (.int .i64 1))], [(0, (boxW w0 w1 false v v true (x, y, w))), (1185, .box [.pure mc (.int .i64 cf), .pure mc (.int .i64 tm), .pure mc (.int .i64 1), .pure mc (.int .i64 0), .pure mc (.str []), .pure mc (.str []), .pure mc (.int .i64 0), .pure mc (.int .u32 0), .pure mc (.bool false)]), (1186, .row true 3 0 [.agg [.int .i64 32855, .int .i64 z.1, .int .i64 e]])]⟩) (fun _ => True) (fun _ => 0) ?_ () trivial rfl
        rintro _ _
        unfold boxW
        simp (maxSteps := 400000) -dsimp -implicitDefEqProofs (disch := first | exact TrueB.mk rfl | omega) only [go_sem, sc3, Bool.or_true]
        refine wpAct_callS [0] (oo2) rfl rfl rfl rfl rfl rfl rfl rfl (by cases w0 <;> cases w1 <;> cases w2 <;> cases v <;> rfl) rfl ?_
        simp (maxSteps := 400000) -dsimp -implicitDefEqProofs (disch := first | exact TrueB.mk rfl | omega) only [go_sem, sc3, Bool.or_true]
        first | exact rfl | done
  rw [if_neg p2] at h
  cases h
end Go.Proofs.YticdhmcbooabaaaDoor
