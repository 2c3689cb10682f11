/- YticdhmcbooabaaaDoorRD1: the document searches the automata of link 1: the rounds of one automaton. No claim. -/
import Derived.Test.YticdhmcbooabaaaDoorRO
set_option linter.unusedVariables false
set_option linter.unusedSimpArgs false
set_option maxRecDepth 100000
namespace Go.Proofs.YticdhmcbooabaaaDoor
open Go Go.Proofs.YticdhmcbooabaaaDoor.V

abbrev X11_1 := Nat × List C3 × List T3 × Nat × Nat
def st11_1 (cf tm : Int) (m : Bool) (L : List C3) (lim k : Nat) (A : List T3) (x : X11_1) : St :=
  ⟨[(1, .ptr 1936 0), (3, .row 1937 L.length), (4, .pure true (.int .i64 1)), (5, .row 1938 (A ++ x.2.2.1).length), (6, .row 1939 x.2.1.length), (7, .pure true (.int .i64 (k : Nat))), (8, .pure true (.int .i64 (17 - (x.1 : Int))))], [(1936, .box [.pure m (.int .i64 cf), .pure m (.int .i64 tm), .pure m (.int .i64 1), .pure m (.int .i64 0), .pure m (.str []), .pure m (.str []), .pure m (.int .i64 0), .pure m (.int .u32 0), .pure m (.bool false)]), (1937, .row true (zC L) lim (cellsV L)), (1938, .row true 9 x.2.2.2.1 ((A ++ x.2.2.1).map bV1)), (1939, .row true (zC x.2.1) x.2.2.2.2 (cellsV x.2.1))]⟩
def I11_1 (cf tm : Int) (b : T3) (f : Nat) (A : List T3) (Fi : List C3) (x : X11_1) : Prop := x.1 ≤ 16 ∧ x.2.2.1.length ≤ 100001 ∧ ∃ s', inn cf tm 1 32801 b x.1 (x.2.1, A ++ x.2.2.1, x.2.2.1) = some s' ∧ outs cf tm 1 32801 f s' = some Fi

set_option maxHeartbeats 64000000 in
theorem rd_1 {c : Code} (hcode : findLoop 11 (Tryd.f20.body.getD .skip) = some c) {cf tm : Int} (h1 : 1 ≤ cf ∧ cf ≤ 255) (h2 : 1 ≤ tm ∧ tm ≤ 255) {f k : Nat} (hk : k ≤ 100000) {Fi : List C3} (hB : Fi.length ≤ 100000) {A : List T3} (hAl : A.length = k + 1) {a r : Int} {s : Bool} (hAk : A[k]? = some (a, r, s)) {L : List C3} {lim : Nat} {m : Bool} {j : Nat} {F : List C3} {T : List T3} {l2 l3 : Nat} (hI : I11_1 cf tm (a, r, s) f A Fi (j + 1, F, T, l2, l3)) {Q : Ex → Slots → Store → Prop} :
    wpX Tryd.prog env 0 1936 (env.ann 20) (env.reg 20) c (st11_1 cf tm m L lim k A (j + 1, F, T, l2, l3)).slots (st11_1 cf tm m L lim k A (j + 1, F, T, l2, l3)).store
      (thenV (again (fun s_1 S => ∃ a', I11_1 cf tm (a, r, s) f A Fi a' ∧ a'.1 < j + 1 ∧ canon 0 1936 (env.ann 20 (firstRegion c)) ⟨s_1, S⟩ = st11_1 cf tm m L lim k A a') ⟨⟩) Q) := by
  have hx : findLoop 11 (Tryd.f20.body.getD .skip) = some _ := rfl
  rw [hx] at hcode
  cases hcode
  obtain ⟨hj, hTb, s', hi', ho⟩ := hI
  simp only at hj hTb hi' ho
  simp only [st11_1]
  have hFl := cellsV_length F
  have e0 : (17 : Int) - ((j + 1 : Nat) : Int) = 16 - (j : Int) := by omega
  rw [e0]
  simp only [inn] at hi'
  split at hi'
  · cases hi'
  rename_i s1 hr
  obtain ⟨e, he⟩ : ∃ e : Int, e = 16 - (j : Int) := ⟨_, rfl⟩
  rw [← he] at hr ⊢
  have hk' : (17 : Int) - (j : Int) = e + 1 := by omega
  have b1 : 1 ≤ e := by omega
  have b2 : e ≤ 16 := by omega
  have g1 : ((A ++ T).map bV1)[k]? = some (bV1 (a, r, s)) := by
    rw [List.getElem?_map, List.getElem?_append_left (by omega), hAk]
    rfl
  have hWl : (A ++ T).length = k + 1 + T.length := by rw [List.length_append, hAl]
  obtain ⟨W, hW⟩ : ∃ W, W = A ++ T := ⟨_, rfl⟩
  rw [← hW] at g1 hWl hr ⊢
  simp only [bV1] at g1
  have g2 : (W.map bV1).length = W.length := List.length_map ..
  have hFb : F.length ≤ 100000 := by
    have q1 := rnd_mono hr
    have q2 := inn_mono _ hi'
    have q3 := outs_mono _ ho
    simp only at q1
    omega
  have hz : zC F = 3 ∨ zC F = 0 := by cases F <;> simp [zC]
  have sc3 : ∀ a b c : Int, PV.scalar.go [.int .i64 a, .int .i64 b, .int .i64 c] = true := fun _ _ _ => rfl
  have sc9 : ∀ (a b c d e f : Int) (x y z : Bool), PV.scalar.go [.int .i64 a, .int .i64 b, .int .i64 c, .int .i64 d, .int .i64 e, .int .i64 f, .bool x, .bool y, .bool z] = true := fun _ _ _ _ _ _ _ _ _ => rfl
  clear e0
  rcases Classical.em (e = 9) with e9 | e9
  · subst e9
    cases s with
    | false =>
      obtain rfl : s1 = (F, W, T) := by
        have := rnd_skip (cf := cf) (tm := tm) (i := 1) (p := 32801) (b := (a, r, false)) (e := 9) (s := (F, W, T)) rfl
        rw [this] at hr
        cases hr
        rfl
      simp (maxSteps := 400000) -dsimp -implicitDefEqProofs (disch := first | exact TrueB.mk rfl | omega) only [go_sem, g2, g1]
      refine again_mk ⟨(j, F, T, l2, l3), ⟨(show j ≤ 16 by omega), hTb, s', by rw [← hW]; exact hi', ho⟩, Nat.lt_succ_self j, ?_⟩
      simp only [st11_1, hk', ← hW]
      rfl
    | true =>
      obtain ⟨hok, q⟩ := rndL (s := true) (e := 9) (by rfl) hr
      rcases q with ⟨q, rfl⟩ | ⟨t, q, q2⟩
      · have hn := fun mc mb mi me => HapN_1 (x := (0, 0, false)) (y := (a, r, true)) (z := (0, 0, false)) hok q mc mb mi me
        unfold confV benchV at hn
        simp only at hn
        simp (maxSteps := 400000) -dsimp -implicitDefEqProofs (disch := first | exact TrueB.mk rfl | omega) only [go_sem, g2, g1]
        first | refine wpAct_call0 (hn _ _ _ _) rfl rfl rfl rfl rfl rfl rfl rfl ?_ | done
        simp (maxSteps := 400000) -dsimp -implicitDefEqProofs (disch := first | exact TrueB.mk rfl | omega) only [go_sem]
        refine again_mk ⟨(j, F, T, l2, l3), ⟨(show j ≤ 16 by omega), hTb, s', by rw [← hW]; exact hi', ho⟩, Nat.lt_succ_self j, ?_⟩
        simp only [st11_1, hk', ← hW]
        rfl
      · obtain ⟨qf, qg, hs⟩ := HapS_1 h1 h2 (x := (0, 0, false)) (y := (a, r, true)) (z := (0, 0, false)) hok q
        have hd := has_any F (32801, a, 9) hFb
        obtain ⟨a', r', s1'⟩ := t
        unfold confV benchV at hs
        simp only at hs hd
        simp (maxSteps := 400000) -dsimp -implicitDefEqProofs (disch := first | exact TrueB.mk rfl | omega) only [go_sem, g2, g1]
        first | refine wpAct_call0 (hs _ _ _ _) rfl rfl rfl rfl rfl rfl rfl rfl ?_ | done
        simp (maxSteps := 400000) -dsimp -implicitDefEqProofs (disch := first | exact TrueB.mk rfl | omega) only [go_sem]
        by_cases hm : ((32801, a, 9) : C3) ∈ F
        · have hadd : addC F (32801, a, 9) = F := by unfold addC; rw [if_pos hm]
          rw [decide_eq_true hm] at hd
          first | refine wpAct_callF (hd _ _) rfl rfl rfl rfl (argV_r rfl hFl.symm (argV_p rfl argV_nil)) rfl rfl rfl rfl ?_ | done
          simp (maxSteps := 400000) -dsimp -implicitDefEqProofs (disch := first | exact TrueB.mk rfl | omega) only [go_sem, g2]
          refine old_1 rfl (W := W) (by omega) rfl rfl ?_
          rcases q2 with ⟨q3, rfl⟩ | ⟨q3, q4, rfl⟩
          · rw [decide_eq_true q3]
            simp (maxSteps := 400000) -dsimp -implicitDefEqProofs (disch := first | exact TrueB.mk rfl | omega) only [go_sem]
            refine again_mk ⟨(j, F, T, l2, l3), ⟨(show j ≤ 16 by omega), hTb, s', by rw [← hW]; rw [hadd] at hi'; exact hi', ho⟩, Nat.lt_succ_self j, ?_⟩
            simp only [st11_1, hk', ← hW]
            rfl
          · rw [decide_eq_false q3]
            simp (maxSteps := 400000) -dsimp -implicitDefEqProofs (disch := first | exact TrueB.mk rfl | omega) only [go_sem, g2, sc9, Bool.or_true]
            refine again_mk ⟨(j, F, T ++ [(a', r', s1')], W.length, l3), ⟨(show j ≤ 16 by omega), (show (T ++ [(a', r', s1')]).length ≤ 100001 by rw [List.length_append]; exact Nat.succ_le_succ q4), s', by rw [← List.append_assoc, ← hW]; rw [hadd] at hi'; exact hi', ho⟩, Nat.lt_succ_self j, ?_⟩
            simp only [st11_1, hk', ← List.append_assoc, ← hW, List.map_append, List.map_cons, List.map_nil, List.length_append, List.length_cons, List.length_nil]
            rfl
        · have hadd : addC F (32801, a, 9) = F ++ [(32801, a, 9)] := by unfold addC; rw [if_neg hm]
          have hz2 : zC (F ++ [((32801, a, 9) : C3)]) = 3 := by cases F <;> rfl
          rw [decide_eq_false hm] at hd
          generalize zC F = z at hz ⊢
          first | refine wpAct_callF (hd _ _) rfl rfl rfl rfl (argV_r rfl hFl.symm (argV_p rfl argV_nil)) rfl rfl rfl rfl ?_ | done
          simp (maxSteps := 400000) -dsimp -implicitDefEqProofs (disch := first | exact TrueB.mk rfl | omega) only [go_sem, g2, hFl, hz, sc3, Bool.or_true]
          refine old_1 rfl (W := W) (by omega) rfl rfl ?_
          rcases q2 with ⟨q3, rfl⟩ | ⟨q3, q4, rfl⟩
          · rw [decide_eq_true q3]
            simp (maxSteps := 400000) -dsimp -implicitDefEqProofs (disch := first | exact TrueB.mk rfl | omega) only [go_sem]
            refine again_mk ⟨(j, (F ++ [(32801, a, 9)]), T, l2, F.length), ⟨(show j ≤ 16 by omega), hTb, s', by rw [← hW]; rw [hadd] at hi'; exact hi', ho⟩, Nat.lt_succ_self j, ?_⟩
            simp only [st11_1, hk', ← hW, hz2, cellsV, List.map_append, List.map_cons, List.map_nil, List.length_append, List.length_cons, List.length_nil]
            rfl
          · rw [decide_eq_false q3]
            simp (maxSteps := 400000) -dsimp -implicitDefEqProofs (disch := first | exact TrueB.mk rfl | omega) only [go_sem, g2, sc9, Bool.or_true]
            refine again_mk ⟨(j, (F ++ [(32801, a, 9)]), T ++ [(a', r', s1')], W.length, F.length), ⟨(show j ≤ 16 by omega), (show (T ++ [(a', r', s1')]).length ≤ 100001 by rw [List.length_append]; exact Nat.succ_le_succ q4), s', by rw [← List.append_assoc, ← hW]; rw [hadd] at hi'; exact hi', ho⟩, Nat.lt_succ_self j, ?_⟩
            simp only [st11_1, hk', ← List.append_assoc, ← hW, List.map_append, List.map_cons, List.map_nil, List.length_append, List.length_cons, List.length_nil, hz2, cellsV]
            rfl
  rcases Classical.em (e = 10) with e10 | e10
  · subst e10
    cases s with
    | false =>
      obtain rfl : s1 = (F, W, T) := by
        have := rnd_skip (cf := cf) (tm := tm) (i := 1) (p := 32801) (b := (a, r, false)) (e := 10) (s := (F, W, T)) rfl
        rw [this] at hr
        cases hr
        rfl
      simp (maxSteps := 400000) -dsimp -implicitDefEqProofs (disch := first | exact TrueB.mk rfl | omega) only [go_sem, g2, g1]
      refine again_mk ⟨(j, F, T, l2, l3), ⟨(show j ≤ 16 by omega), hTb, s', by rw [← hW]; exact hi', ho⟩, Nat.lt_succ_self j, ?_⟩
      simp only [st11_1, hk', ← hW]
      rfl
    | true =>
      obtain ⟨hok, q⟩ := rndL (s := true) (e := 10) (by rfl) hr
      rcases q with ⟨q, rfl⟩ | ⟨t, q, q2⟩
      · have hn := fun mc mb mi me => HapN_1 (x := (0, 0, false)) (y := (a, r, true)) (z := (0, 0, false)) hok q mc mb mi me
        unfold confV benchV at hn
        simp only at hn
        simp (maxSteps := 400000) -dsimp -implicitDefEqProofs (disch := first | exact TrueB.mk rfl | omega) only [go_sem, g2, g1]
        first | refine wpAct_call0 (hn _ _ _ _) rfl rfl rfl rfl rfl rfl rfl rfl ?_ | done
        simp (maxSteps := 400000) -dsimp -implicitDefEqProofs (disch := first | exact TrueB.mk rfl | omega) only [go_sem]
        refine again_mk ⟨(j, F, T, l2, l3), ⟨(show j ≤ 16 by omega), hTb, s', by rw [← hW]; exact hi', ho⟩, Nat.lt_succ_self j, ?_⟩
        simp only [st11_1, hk', ← hW]
        rfl
      · obtain ⟨qf, qg, hs⟩ := HapS_1 h1 h2 (x := (0, 0, false)) (y := (a, r, true)) (z := (0, 0, false)) hok q
        have hd := has_any F (32801, a, 10) hFb
        obtain ⟨a', r', s1'⟩ := t
        unfold confV benchV at hs
        simp only at hs hd
        simp (maxSteps := 400000) -dsimp -implicitDefEqProofs (disch := first | exact TrueB.mk rfl | omega) only [go_sem, g2, g1]
        first | refine wpAct_call0 (hs _ _ _ _) rfl rfl rfl rfl rfl rfl rfl rfl ?_ | done
        simp (maxSteps := 400000) -dsimp -implicitDefEqProofs (disch := first | exact TrueB.mk rfl | omega) only [go_sem]
        by_cases hm : ((32801, a, 10) : C3) ∈ F
        · have hadd : addC F (32801, a, 10) = F := by unfold addC; rw [if_pos hm]
          rw [decide_eq_true hm] at hd
          first | refine wpAct_callF (hd _ _) rfl rfl rfl rfl (argV_r rfl hFl.symm (argV_p rfl argV_nil)) rfl rfl rfl rfl ?_ | done
          simp (maxSteps := 400000) -dsimp -implicitDefEqProofs (disch := first | exact TrueB.mk rfl | omega) only [go_sem, g2]
          refine old_1 rfl (W := W) (by omega) rfl rfl ?_
          rcases q2 with ⟨q3, rfl⟩ | ⟨q3, q4, rfl⟩
          · rw [decide_eq_true q3]
            simp (maxSteps := 400000) -dsimp -implicitDefEqProofs (disch := first | exact TrueB.mk rfl | omega) only [go_sem]
            refine again_mk ⟨(j, F, T, l2, l3), ⟨(show j ≤ 16 by omega), hTb, s', by rw [← hW]; rw [hadd] at hi'; exact hi', ho⟩, Nat.lt_succ_self j, ?_⟩
            simp only [st11_1, hk', ← hW]
            rfl
          · rw [decide_eq_false q3]
            simp (maxSteps := 400000) -dsimp -implicitDefEqProofs (disch := first | exact TrueB.mk rfl | omega) only [go_sem, g2, sc9, Bool.or_true]
            refine again_mk ⟨(j, F, T ++ [(a', r', s1')], W.length, l3), ⟨(show j ≤ 16 by omega), (show (T ++ [(a', r', s1')]).length ≤ 100001 by rw [List.length_append]; exact Nat.succ_le_succ q4), s', by rw [← List.append_assoc, ← hW]; rw [hadd] at hi'; exact hi', ho⟩, Nat.lt_succ_self j, ?_⟩
            simp only [st11_1, hk', ← List.append_assoc, ← hW, List.map_append, List.map_cons, List.map_nil, List.length_append, List.length_cons, List.length_nil]
            rfl
        · have hadd : addC F (32801, a, 10) = F ++ [(32801, a, 10)] := by unfold addC; rw [if_neg hm]
          have hz2 : zC (F ++ [((32801, a, 10) : C3)]) = 3 := by cases F <;> rfl
          rw [decide_eq_false hm] at hd
          generalize zC F = z at hz ⊢
          first | refine wpAct_callF (hd _ _) rfl rfl rfl rfl (argV_r rfl hFl.symm (argV_p rfl argV_nil)) rfl rfl rfl rfl ?_ | done
          simp (maxSteps := 400000) -dsimp -implicitDefEqProofs (disch := first | exact TrueB.mk rfl | omega) only [go_sem, g2, hFl, hz, sc3, Bool.or_true]
          refine old_1 rfl (W := W) (by omega) rfl rfl ?_
          rcases q2 with ⟨q3, rfl⟩ | ⟨q3, q4, rfl⟩
          · rw [decide_eq_true q3]
            simp (maxSteps := 400000) -dsimp -implicitDefEqProofs (disch := first | exact TrueB.mk rfl | omega) only [go_sem]
            refine again_mk ⟨(j, (F ++ [(32801, a, 10)]), T, l2, F.length), ⟨(show j ≤ 16 by omega), hTb, s', by rw [← hW]; rw [hadd] at hi'; exact hi', ho⟩, Nat.lt_succ_self j, ?_⟩
            simp only [st11_1, hk', ← hW, hz2, cellsV, List.map_append, List.map_cons, List.map_nil, List.length_append, List.length_cons, List.length_nil]
            rfl
          · rw [decide_eq_false q3]
            simp (maxSteps := 400000) -dsimp -implicitDefEqProofs (disch := first | exact TrueB.mk rfl | omega) only [go_sem, g2, sc9, Bool.or_true]
            refine again_mk ⟨(j, (F ++ [(32801, a, 10)]), T ++ [(a', r', s1')], W.length, F.length), ⟨(show j ≤ 16 by omega), (show (T ++ [(a', r', s1')]).length ≤ 100001 by rw [List.length_append]; exact Nat.succ_le_succ q4), s', by rw [← List.append_assoc, ← hW]; rw [hadd] at hi'; exact hi', ho⟩, Nat.lt_succ_self j, ?_⟩
            simp only [st11_1, hk', ← List.append_assoc, ← hW, List.map_append, List.map_cons, List.map_nil, List.length_append, List.length_cons, List.length_nil, hz2, cellsV]
            rfl
  rcases Classical.em (e = 16) with e16 | e16
  · subst e16
    obtain rfl : s1 = (F, W, T) := by
      have := rnd_skip (cf := cf) (tm := tm) (i := 1) (p := 32801) (b := (a, r, s)) (e := 16) (s := (F, W, T)) rfl
      rw [this] at hr
      cases hr
      rfl
    simp (maxSteps := 400000) -dsimp -implicitDefEqProofs (disch := first | exact TrueB.mk rfl | omega) only [go_sem, g2, g1]
    refine again_mk ⟨(j, F, T, l2, l3), ⟨(show j ≤ 16 by omega), hTb, s', by rw [← hW]; exact hi', ho⟩, Nat.lt_succ_self j, ?_⟩
    simp only [st11_1, hk', ← hW]
    rfl
  obtain ⟨hok, q⟩ := rndL (s := s) (e := e) (by simp [skip3, e9, e10, e16]) hr
  rcases q with ⟨q, rfl⟩ | ⟨t, q, q2⟩
  · have hn := fun mc mb mi me => HapN_1 (x := (0, 0, false)) (y := (a, r, s)) (z := (0, 0, false)) hok q mc mb mi me
    unfold confV benchV at hn
    simp only at hn
    simp (maxSteps := 400000) -dsimp -implicitDefEqProofs (disch := first | exact TrueB.mk rfl | omega) only [go_sem, g2, g1, e9, e10, e16]
    first | refine wpAct_call0 (hn _ _ _ _) rfl rfl rfl rfl rfl rfl rfl rfl ?_ | done
    simp (maxSteps := 400000) -dsimp -implicitDefEqProofs (disch := first | exact TrueB.mk rfl | omega) only [go_sem]
    refine again_mk ⟨(j, F, T, l2, l3), ⟨(show j ≤ 16 by omega), hTb, s', by rw [← hW]; exact hi', ho⟩, Nat.lt_succ_self j, ?_⟩
    simp only [st11_1, hk', ← hW]
    rfl
  · obtain ⟨qf, qg, hs⟩ := HapS_1 h1 h2 (x := (0, 0, false)) (y := (a, r, s)) (z := (0, 0, false)) hok q
    have hd := has_any F (32801, a, e) hFb
    obtain ⟨a', r', s1'⟩ := t
    unfold confV benchV at hs
    simp only at hs hd
    simp (maxSteps := 400000) -dsimp -implicitDefEqProofs (disch := first | exact TrueB.mk rfl | omega) only [go_sem, g2, g1, e9, e10, e16]
    first | refine wpAct_call0 (hs _ _ _ _) rfl rfl rfl rfl rfl rfl rfl rfl ?_ | done
    simp (maxSteps := 400000) -dsimp -implicitDefEqProofs (disch := first | exact TrueB.mk rfl | omega) only [go_sem]
    by_cases hm : ((32801, a, e) : C3) ∈ F
    · have hadd : addC F (32801, a, e) = F := by unfold addC; rw [if_pos hm]
      rw [decide_eq_true hm] at hd
      first | refine wpAct_callF (hd _ _) rfl rfl rfl rfl (argV_r rfl hFl.symm (argV_p rfl argV_nil)) rfl rfl rfl rfl ?_ | done
      simp (maxSteps := 400000) -dsimp -implicitDefEqProofs (disch := first | exact TrueB.mk rfl | omega) only [go_sem, g2]
      refine old_1 rfl (W := W) (by omega) rfl rfl ?_
      rcases q2 with ⟨q3, rfl⟩ | ⟨q3, q4, rfl⟩
      · rw [decide_eq_true q3]
        simp (maxSteps := 400000) -dsimp -implicitDefEqProofs (disch := first | exact TrueB.mk rfl | omega) only [go_sem]
        refine again_mk ⟨(j, F, T, l2, l3), ⟨(show j ≤ 16 by omega), hTb, s', by rw [← hW]; rw [hadd] at hi'; exact hi', ho⟩, Nat.lt_succ_self j, ?_⟩
        simp only [st11_1, hk', ← hW]
        rfl
      · rw [decide_eq_false q3]
        simp (maxSteps := 400000) -dsimp -implicitDefEqProofs (disch := first | exact TrueB.mk rfl | omega) only [go_sem, g2, sc9, Bool.or_true]
        refine again_mk ⟨(j, F, T ++ [(a', r', s1')], W.length, l3), ⟨(show j ≤ 16 by omega), (show (T ++ [(a', r', s1')]).length ≤ 100001 by rw [List.length_append]; exact Nat.succ_le_succ q4), s', by rw [← List.append_assoc, ← hW]; rw [hadd] at hi'; exact hi', ho⟩, Nat.lt_succ_self j, ?_⟩
        simp only [st11_1, hk', ← List.append_assoc, ← hW, List.map_append, List.map_cons, List.map_nil, List.length_append, List.length_cons, List.length_nil]
        rfl
    · have hadd : addC F (32801, a, e) = F ++ [(32801, a, e)] := by unfold addC; rw [if_neg hm]
      have hz2 : zC (F ++ [((32801, a, e) : C3)]) = 3 := by cases F <;> rfl
      rw [decide_eq_false hm] at hd
      generalize zC F = z at hz ⊢
      first | refine wpAct_callF (hd _ _) rfl rfl rfl rfl (argV_r rfl hFl.symm (argV_p rfl argV_nil)) rfl rfl rfl rfl ?_ | done
      simp (maxSteps := 400000) -dsimp -implicitDefEqProofs (disch := first | exact TrueB.mk rfl | omega) only [go_sem, g2, hFl, hz, sc3, Bool.or_true]
      refine old_1 rfl (W := W) (by omega) rfl rfl ?_
      rcases q2 with ⟨q3, rfl⟩ | ⟨q3, q4, rfl⟩
      · rw [decide_eq_true q3]
        simp (maxSteps := 400000) -dsimp -implicitDefEqProofs (disch := first | exact TrueB.mk rfl | omega) only [go_sem]
        refine again_mk ⟨(j, (F ++ [(32801, a, e)]), T, l2, F.length), ⟨(show j ≤ 16 by omega), hTb, s', by rw [← hW]; rw [hadd] at hi'; exact hi', ho⟩, Nat.lt_succ_self j, ?_⟩
        simp only [st11_1, hk', ← hW, hz2, cellsV, List.map_append, List.map_cons, List.map_nil, List.length_append, List.length_cons, List.length_nil]
        rfl
      · rw [decide_eq_false q3]
        simp (maxSteps := 400000) -dsimp -implicitDefEqProofs (disch := first | exact TrueB.mk rfl | omega) only [go_sem, g2, sc9, Bool.or_true]
        refine again_mk ⟨(j, (F ++ [(32801, a, e)]), T ++ [(a', r', s1')], W.length, F.length), ⟨(show j ≤ 16 by omega), (show (T ++ [(a', r', s1')]).length ≤ 100001 by rw [List.length_append]; exact Nat.succ_le_succ q4), s', by rw [← List.append_assoc, ← hW]; rw [hadd] at hi'; exact hi', ho⟩, Nat.lt_succ_self j, ?_⟩
        simp only [st11_1, hk', ← List.append_assoc, ← hW, List.map_append, List.map_cons, List.map_nil, List.length_append, List.length_cons, List.length_nil, hz2, cellsV]
        rfl

set_option maxHeartbeats 64000000 in
theorem l11_1 {c : Code} (hcode : findLoop 11 (Tryd.f20.body.getD .skip) = some c) {cf tm : Int} (h1 : 1 ≤ cf ∧ cf ≤ 255) (h2 : 1 ≤ tm ∧ tm ≤ 255) {f k : Nat} (hk : k ≤ 100000) {Fi : List C3} (hB : Fi.length ≤ 100000) {A : List T3} (hAl : A.length = k + 1) {a r : Int} {s : Bool} (hAk : A[k]? = some (a, r, s)) {L : List C3} {lim : Nat} {m : Bool} {x : X11_1} (hx16 : x.1 = 16) (hI : I11_1 cf tm (a, r, s) f A Fi x) {sl : Slots} {S : Store} {Q : Ex → Slots → Store → Prop}
    (hc : canon 0 1936 (env.ann 20 (firstRegion c)) ⟨sl, S⟩ = st11_1 cf tm m L lim k A x)
    (hQ : ∀ F T l2 l3, T.length ≤ 100001 → outs cf tm 1 32801 f (F, A ++ T, T) = some Fi → Q (.exit 4) ((30, .pure true (.bool false)) :: (29, .pure true (.int .i64 17)) :: [(1, .ptr 1936 0), (3, .row 1937 L.length), (4, .pure true (.int .i64 1)), (5, .row 1938 (A.length + T.length)), (6, .row 1939 F.length), (7, .pure true (.int .i64 (k : Nat))), (8, .pure true (.int .i64 17))]) [(1936, .box [.pure m (.int .i64 cf), .pure m (.int .i64 tm), .pure m (.int .i64 1), .pure m (.int .i64 0), .pure m (.str []), .pure m (.str []), .pure m (.int .i64 0), .pure m (.int .u32 0), .pure m (.bool false)]), (1937, .row true (zC L) lim (cellsV L)), (1938, .row true 9 l2 ((A ++ T).map bV1)), (1939, .row true (zC F) l3 (cellsV F))]) :
    wpLoop Tryd.prog env 0 1936 (env.ann 20) (env.reg 20) c sl S Q := by
  refine wpLoop_ind (st11_1 cf tm m L lim k A) (I11_1 cf tm (a, r, s) f A Fi) (fun x => x.1) ?_ x hI hc
  clear hc hI hx16 x
  rintro ⟨j, F, T, l2, l3⟩ hI
  cases j with
  | succ j => exact rd_1 hcode h1 h2 hk hB hAl hAk hI
  | zero =>
    have hx : findLoop 11 (Tryd.f20.body.getD .skip) = some _ := rfl
    rw [hx] at hcode
    cases hcode
    obtain ⟨hj, hTb, s', hi', ho⟩ := hI
    simp only [inn, Option.some.injEq] at hi'
    subst hi'
    have hq := hQ F T l2 l3 hTb ho
    clear hQ
    simp only [st11_1]
    have e0 : (17 : Int) - ((0 : Nat) : Int) = 17 := rfl
    simp (maxSteps := 400000) -dsimp -implicitDefEqProofs (disch := first | exact TrueB.mk rfl | omega) only [go_sem, e0]
    exact hq
end Go.Proofs.YticdhmcbooabaaaDoor
