/- YticdhmcbooabaaaDoorST: parts of the proof of CellsKeeps. No claim. -/
import Derived.Test.YticdhmcbooabaaaDoorQS
set_option linter.unusedVariables false
set_option linter.unusedSimpArgs false
set_option maxRecDepth 1000000
namespace Go.Proofs.YticdhmcbooabaaaDoor
open Go Go.Proofs.YticdhmcbooabaaaDoor.V

set_option maxHeartbeats 64000000 in
theorem alone_1 (cf tm : Int) (h1 : 1 ≤ cf ∧ cf ≤ 255) (h2 : 1 ≤ tm ∧ tm ≤ 255) (f : Nat) (G : List C3) (h : outs cf tm 1 32801 f ([], [(0, 0, false)], [(0, 0, false)]) = some G) (mc mi : Bool) :
    Runs Tryd.prog env 36 [.pure mc (confV cf tm 1), .pure mi (.int .i64 1)] [] (.map 0) [(0, .map true (firedM G))] := by
  have hapN := happen_no_1
  have hapY := happen_yes_1
  unfold confV at *
  refine Runs.of Tryd.func36 rfl (by simp [Tryd.ntmps36]) ?_
  have k1 : ∀ v, evalO env v (.const (.map none)) = .pure true (.opq (.map none)) := fun _ => rfl
  have k2 : isNilSlice (.const (.map none)) = false := rfl
  have g1 : mapFind (PV.agg [.int .i64 0, .int .i64 0, .int .i64 0, .int .i64 0, .int .i64 0, .int .i64 0, .bool false, .bool false, .bool false]) ([] : List (PV × PV)) = some none := rfl
  have g2 : mapPut (PV.agg [.int .i64 0, .int .i64 0, .int .i64 0, .int .i64 0, .int .i64 0, .int .i64 0, .bool false, .bool false, .bool false]) (.bool true) ([] : List (PV × PV)) = seenM bV1 [(0, 0, false)] := rfl
  simp (maxSteps := 400000) -dsimp -implicitDefEqProofs (disch := first | exact TrueB.mk rfl | omega) only [go_sem, Tryd.ntmps36, k1, k2, g1, g2]
  clear g1 g2
  refine wpLoop_ind (α := Nat × S3 × Nat)
    (fun x => ⟨[(1, .pure mi (.int .i64 1)), (2, .ptr 1168 0), (5, .map 1169), (6, .map 1170), (7, todoS x.2.1.2.2)], [(1168, .box [.pure mc (.int .i64 cf), .pure mc (.int .i64 tm), .pure mc (.int .i64 1), .pure mc (.int .i64 0), .pure mc (.str []), .pure mc (.str []), .pure mc (.int .i64 0), .pure mc (.int .u32 0), .pure mc (.bool false)]), (1169, .map true (firedM x.2.1.1)), (1170, .map true (seenM bV1 x.2.1.2.1))] ++ todoO bV1 x.2.1.2.2 x.2.2⟩)
    (fun x => outs cf tm 1 32801 x.1 x.2.1 = some G) (fun x => x.1) ?_ (f, ([], [(0, 0, false)], [(0, 0, false)]), 0) h rfl
  clear h f
  rintro ⟨f, ⟨F, Sn, T⟩, lim⟩ hI
  cases f with
  | zero => cases hI
  | succ f =>
  cases T with
  | nil =>
    simp only [outs] at hI
    cases hI
    simp only [todoS, todoO, List.append_nil]
    simp (maxSteps := 400000) -dsimp -implicitDefEqProofs (disch := first | exact TrueB.mk rfl | omega) only [go_sem]
    first | exact rfl | done
  | cons b T =>
  obtain ⟨a, r, s⟩ := b
  simp only [outs] at hI
  simp only [todoS, todoO, List.cons_append, List.nil_append]
  simp (maxSteps := 400000) -dsimp -implicitDefEqProofs (disch := first | exact TrueB.mk rfl | omega) only [go_sem, List.length_map]
  refine wpLoop_ind (α := Nat × S3 × Nat)
    (fun x => ⟨[(1, .pure mi (.int .i64 1)), (2, .ptr 1168 0), (5, .map 1169), (6, .map 1170), (7, .row 1171 (x.2.1.2.2.length + 1)), (8, .pure true (.int .i64 (17 - (x.1 : Int))))], [(1168, .box [.pure mc (.int .i64 cf), .pure mc (.int .i64 tm), .pure mc (.int .i64 1), .pure mc (.int .i64 0), .pure mc (.str []), .pure mc (.str []), .pure mc (.int .i64 0), .pure mc (.int .u32 0), .pure mc (.bool false)]), (1169, .map true (firedM x.2.1.1)), (1170, .map true (seenM bV1 x.2.1.2.1)), (1171, .row true 9 x.2.2 (bV1 (a, r, s) :: x.2.1.2.2.map bV1))]⟩)
    (fun x => x.1 ≤ 16 ∧ ∃ s', inn cf tm 1 32801 (a, r, s) x.1 x.2.1 = some s' ∧ outs cf tm 1 32801 f s' = some G) (fun x => x.1) ?_ (16, (F, Sn, T), lim) ?_ rfl
  rotate_left
  · split at hI
    · cases hI
    · rename_i s' hs'
      exact ⟨Nat.le_refl _, s', hs', hI⟩
  clear hI F Sn T lim
  rintro ⟨k, ⟨F, Sn, T⟩, lim⟩ ⟨hk, s', hi, ho⟩
  simp only at hk hi ho ⊢
  cases k with
  | zero =>
    simp only [inn] at hi
    cases hi
    have e0 : (17 : Int) - ((0 : Nat) : Int) = 17 := rfl
    cases T with
    | nil =>
      simp (maxSteps := 400000) -dsimp -implicitDefEqProofs (disch := first | exact TrueB.mk rfl | omega) only [go_sem, e0, bV1]
      refine again_mk ⟨(f, (F, Sn, []), 0), ho, Nat.lt_succ_self f, ?_⟩
      rfl
    | cons b' T' =>
      simp (maxSteps := 400000) -dsimp -implicitDefEqProofs (disch := first | exact TrueB.mk rfl | omega) only [go_sem, e0, List.length_map]
      refine again_mk ⟨(f, (F, Sn, b' :: T'), T'.length + 1), ho, Nat.lt_succ_self f, ?_⟩
      rfl
  | succ k =>
  have e0 : (17 : Int) - ((k + 1 : Nat) : Int) = 16 - (k : Int) := by omega
  have e1 : 1 + (16 - (k : Int)) = 17 - (k : Int) := by omega
  have e2 : (16 - (k : Int)) + 1 = 17 - (k : Int) := by omega
  rw [e0]
  simp only [inn] at hi
  split at hi
  · cases hi
  rename_i s1 hr
  obtain ⟨e, he⟩ : ∃ e : Int, e = 16 - (k : Int) := ⟨_, rfl⟩
  rw [← he] at hr ⊢
  have hb : bV1 (a, r, s) = .agg [.int .i64 0, .int .i64 0, .int .i64 a, .int .i64 r, .int .i64 0, .int .i64 0, .bool false, .bool s, .bool false] := rfl
  have hk' : (17 : Int) - (k : Int) = e + 1 := by omega
  have b1 : 1 ≤ e := by omega
  have b2 : e ≤ 16 := by omega
  rw [hb]
  clear e0 e1 e2
  rcases Classical.em (e = 9) with e9 | e9
  · subst e9
    cases s with
    | false =>
      simp (maxSteps := 400000) -dsimp -implicitDefEqProofs (disch := first | exact TrueB.mk rfl | omega) only [go_sem, List.length_map, Bool.not_false]
      obtain rfl : s1 = (F, Sn, T) := by
        have := rnd_skip (cf := cf) (tm := tm) (i := 1) (p := 32801) (b := (a, r, false)) (e := 9) (s := (F, Sn, T)) rfl
        rw [this] at hr
        cases hr
        rfl
      refine again_mk ⟨(k, (F, Sn, T), lim), ⟨by omega, s', hi, ho⟩, Nat.lt_succ_self k, ?_⟩
      simp only [hk']
      rfl
    | true =>
      have hs0 : skip3 1 9 ((a, r, true) : T3).2.2 = false := rfl
      cases hst : stepOut a 9 r with
      | none =>
        obtain ⟨rfl, q1⟩ := rnd_no hs0 hr hst
        have c := fun f0 f1 f2 f3 f4 f5 g0 g1 g2 mc mi me => hapN 0 0 a r 0 0 9 cf tm false true false q1 hst f0 f1 f2 f3 f4 f5 g0 g1 g2 mc mi me
        simp (maxSteps := 400000) -dsimp -implicitDefEqProofs (disch := first | exact TrueB.mk rfl | omega) only [go_sem, List.length_map, Bool.not_true]
        first | refine wpAct_callS [144] (c _ _ _ _ _ _ _ _ _ _ _ _) rfl rfl rfl rfl rfl rfl rfl rfl rfl rfl ?_ | done
        simp (maxSteps := 400000) -dsimp -implicitDefEqProofs (disch := first | exact TrueB.mk rfl | omega) only [go_sem]
        refine again_mk ⟨(k, (F, Sn, T), lim), ⟨by omega, s', hi, ho⟩, Nat.lt_succ_self k, ?_⟩
        simp only [hk']
        rfl
      | some q =>
        obtain ⟨n, l⟩ := q
        obtain ⟨q1, q2, q3⟩ := rnd_yes hs0 hr hst
        have c := fun f0 f1 f2 f3 f4 f5 g0 g1 g2 mc mi me => hapY 0 0 a r 0 0 9 cf tm false true false h1 h2 q1 hst q2 f0 f1 f2 f3 f4 f5 g0 g1 g2 mc mi me
        simp only at q3
        generalize (true || hasN l 7) = y at c q3
        generalize restA cf tm l r = x at c q3
        generalize ((n : Nat) : Int) = n' at c q3
        have gf1 := find_fired (32801, a, 9) F
        have gf2 := put_fired (32801, a, 9) F
        have gs1 := find_seen apart1 (n', x, y) Sn
        simp only [cV] at gf1 gf2
        rcases q3 with ⟨q4, rfl⟩ | ⟨q4, q5, rfl⟩
        · rw [if_pos q4] at gs1
          simp only [bV1] at gs1
          simp (maxSteps := 400000) -dsimp -implicitDefEqProofs (disch := first | exact TrueB.mk rfl | omega) only [go_sem, List.length_map, Bool.not_true]
          first | refine wpAct_callS [144] (c _ _ _ _ _ _ _ _ _ _ _ _) rfl rfl rfl rfl rfl rfl rfl rfl rfl rfl ?_ | done
          simp (maxSteps := 400000) -dsimp -implicitDefEqProofs (disch := first | exact TrueB.mk rfl | omega) only [go_sem, gf1, gf2, gs1]
          refine again_mk ⟨(k, (addC F (32801, a, 9), Sn, T), lim), ⟨by omega, s', hi, ho⟩, Nat.lt_succ_self k, ?_⟩
          simp only [hk']
          rfl
        · rw [if_neg q4] at gs1
          have gs2 := put_seen apart1 (n', x, y) Sn q4
          simp only [bV1] at gs1 gs2
          simp (maxSteps := 400000) -dsimp -implicitDefEqProofs (disch := first | exact TrueB.mk rfl | omega) only [go_sem, List.length_map, Bool.not_true]
          first | refine wpAct_callS [144] (c _ _ _ _ _ _ _ _ _ _ _ _) rfl rfl rfl rfl rfl rfl rfl rfl rfl rfl ?_ | done
          simp (maxSteps := 400000) -dsimp -implicitDefEqProofs (disch := first | exact TrueB.mk rfl | omega) only [go_sem, gf1, gf2, gs1, gs2, List.length_map]
          refine again_mk ⟨(k, (addC F (32801, a, 9), Sn ++ [(n', x, y)], T ++ [(n', x, y)]), T.length + 1), ⟨by omega, s', hi, ho⟩, Nat.lt_succ_self k, ?_⟩
          simp only [hk', List.map_append, List.map_cons, List.map_nil, List.length_append, List.length_cons, List.length_nil]
          rfl
  rcases Classical.em (e = 10) with e10 | e10
  · subst e10
    cases s with
    | false =>
      simp (maxSteps := 400000) -dsimp -implicitDefEqProofs (disch := first | exact TrueB.mk rfl | omega) only [go_sem, List.length_map, Bool.not_false]
      obtain rfl : s1 = (F, Sn, T) := by
        have := rnd_skip (cf := cf) (tm := tm) (i := 1) (p := 32801) (b := (a, r, false)) (e := 10) (s := (F, Sn, T)) rfl
        rw [this] at hr
        cases hr
        rfl
      refine again_mk ⟨(k, (F, Sn, T), lim), ⟨by omega, s', hi, ho⟩, Nat.lt_succ_self k, ?_⟩
      simp only [hk']
      rfl
    | true =>
      have hs0 : skip3 1 10 ((a, r, true) : T3).2.2 = false := rfl
      cases hst : stepOut a 10 r with
      | none =>
        obtain ⟨rfl, q1⟩ := rnd_no hs0 hr hst
        have c := fun f0 f1 f2 f3 f4 f5 g0 g1 g2 mc mi me => hapN 0 0 a r 0 0 10 cf tm false true false q1 hst f0 f1 f2 f3 f4 f5 g0 g1 g2 mc mi me
        simp (maxSteps := 400000) -dsimp -implicitDefEqProofs (disch := first | exact TrueB.mk rfl | omega) only [go_sem, List.length_map, Bool.not_true]
        first | refine wpAct_callS [144] (c _ _ _ _ _ _ _ _ _ _ _ _) rfl rfl rfl rfl rfl rfl rfl rfl rfl rfl ?_ | done
        simp (maxSteps := 400000) -dsimp -implicitDefEqProofs (disch := first | exact TrueB.mk rfl | omega) only [go_sem]
        refine again_mk ⟨(k, (F, Sn, T), lim), ⟨by omega, s', hi, ho⟩, Nat.lt_succ_self k, ?_⟩
        simp only [hk']
        rfl
      | some q =>
        obtain ⟨n, l⟩ := q
        obtain ⟨q1, q2, q3⟩ := rnd_yes hs0 hr hst
        have c := fun f0 f1 f2 f3 f4 f5 g0 g1 g2 mc mi me => hapY 0 0 a r 0 0 10 cf tm false true false h1 h2 q1 hst q2 f0 f1 f2 f3 f4 f5 g0 g1 g2 mc mi me
        simp only at q3
        generalize (true || hasN l 7) = y at c q3
        generalize restA cf tm l r = x at c q3
        generalize ((n : Nat) : Int) = n' at c q3
        have gf1 := find_fired (32801, a, 10) F
        have gf2 := put_fired (32801, a, 10) F
        have gs1 := find_seen apart1 (n', x, y) Sn
        simp only [cV] at gf1 gf2
        rcases q3 with ⟨q4, rfl⟩ | ⟨q4, q5, rfl⟩
        · rw [if_pos q4] at gs1
          simp only [bV1] at gs1
          simp (maxSteps := 400000) -dsimp -implicitDefEqProofs (disch := first | exact TrueB.mk rfl | omega) only [go_sem, List.length_map, Bool.not_true]
          first | refine wpAct_callS [144] (c _ _ _ _ _ _ _ _ _ _ _ _) rfl rfl rfl rfl rfl rfl rfl rfl rfl rfl ?_ | done
          simp (maxSteps := 400000) -dsimp -implicitDefEqProofs (disch := first | exact TrueB.mk rfl | omega) only [go_sem, gf1, gf2, gs1]
          refine again_mk ⟨(k, (addC F (32801, a, 10), Sn, T), lim), ⟨by omega, s', hi, ho⟩, Nat.lt_succ_self k, ?_⟩
          simp only [hk']
          rfl
        · rw [if_neg q4] at gs1
          have gs2 := put_seen apart1 (n', x, y) Sn q4
          simp only [bV1] at gs1 gs2
          simp (maxSteps := 400000) -dsimp -implicitDefEqProofs (disch := first | exact TrueB.mk rfl | omega) only [go_sem, List.length_map, Bool.not_true]
          first | refine wpAct_callS [144] (c _ _ _ _ _ _ _ _ _ _ _ _) rfl rfl rfl rfl rfl rfl rfl rfl rfl rfl ?_ | done
          simp (maxSteps := 400000) -dsimp -implicitDefEqProofs (disch := first | exact TrueB.mk rfl | omega) only [go_sem, gf1, gf2, gs1, gs2, List.length_map]
          refine again_mk ⟨(k, (addC F (32801, a, 10), Sn ++ [(n', x, y)], T ++ [(n', x, y)]), T.length + 1), ⟨by omega, s', hi, ho⟩, Nat.lt_succ_self k, ?_⟩
          simp only [hk', List.map_append, List.map_cons, List.map_nil, List.length_append, List.length_cons, List.length_nil]
          rfl
  rcases Classical.em (e = 16) with e16 | e16
  · subst e16
    simp (maxSteps := 400000) -dsimp -implicitDefEqProofs (disch := first | exact TrueB.mk rfl | omega) only [go_sem, List.length_map, Bool.not_false]
    obtain rfl : s1 = (F, Sn, T) := by
      have := rnd_skip (cf := cf) (tm := tm) (i := 1) (p := 32801) (b := (a, r, s)) (e := 16) (s := (F, Sn, T)) rfl
      rw [this] at hr
      cases hr
      rfl
    refine again_mk ⟨(k, (F, Sn, T), lim), ⟨by omega, s', hi, ho⟩, Nat.lt_succ_self k, ?_⟩
    simp only [hk']
    rfl
  have hs0 : skip3 1 e ((a, r, s) : T3).2.2 = false := by simp [skip3, e9, e10, e16]
  cases hst : stepOut a e r with
  | none =>
    obtain ⟨rfl, q1⟩ := rnd_no hs0 hr hst
    have c := fun f0 f1 f2 f3 f4 f5 g0 g1 g2 mc mi me => hapN 0 0 a r 0 0 e cf tm false s false q1 hst f0 f1 f2 f3 f4 f5 g0 g1 g2 mc mi me
    simp (maxSteps := 400000) -dsimp -implicitDefEqProofs (disch := first | exact TrueB.mk rfl | omega) only [go_sem, List.length_map, Bool.not_true, e9, e10, e16]
    first | refine wpAct_callS [144] (c _ _ _ _ _ _ _ _ _ _ _ _) rfl rfl rfl rfl rfl rfl rfl rfl rfl rfl ?_ | done
    simp (maxSteps := 400000) -dsimp -implicitDefEqProofs (disch := first | exact TrueB.mk rfl | omega) only [go_sem]
    refine again_mk ⟨(k, (F, Sn, T), lim), ⟨by omega, s', hi, ho⟩, Nat.lt_succ_self k, ?_⟩
    simp only [hk']
    rfl
  | some q =>
    obtain ⟨n, l⟩ := q
    obtain ⟨q1, q2, q3⟩ := rnd_yes hs0 hr hst
    have c := fun f0 f1 f2 f3 f4 f5 g0 g1 g2 mc mi me => hapY 0 0 a r 0 0 e cf tm false s false h1 h2 q1 hst q2 f0 f1 f2 f3 f4 f5 g0 g1 g2 mc mi me
    simp only at q3
    generalize (s || hasN l 7) = y at c q3
    generalize restA cf tm l r = x at c q3
    generalize ((n : Nat) : Int) = n' at c q3
    have gf1 := find_fired (32801, a, e) F
    have gf2 := put_fired (32801, a, e) F
    have gs1 := find_seen apart1 (n', x, y) Sn
    simp only [cV] at gf1 gf2
    rcases q3 with ⟨q4, rfl⟩ | ⟨q4, q5, rfl⟩
    · rw [if_pos q4] at gs1
      simp only [bV1] at gs1
      simp (maxSteps := 400000) -dsimp -implicitDefEqProofs (disch := first | exact TrueB.mk rfl | omega) only [go_sem, List.length_map, Bool.not_true, e9, e10, e16]
      first | refine wpAct_callS [144] (c _ _ _ _ _ _ _ _ _ _ _ _) rfl rfl rfl rfl rfl rfl rfl rfl rfl rfl ?_ | done
      simp (maxSteps := 400000) -dsimp -implicitDefEqProofs (disch := first | exact TrueB.mk rfl | omega) only [go_sem, gf1, gf2, gs1]
      refine again_mk ⟨(k, (addC F (32801, a, e), Sn, T), lim), ⟨by omega, s', hi, ho⟩, Nat.lt_succ_self k, ?_⟩
      simp only [hk']
      rfl
    · rw [if_neg q4] at gs1
      have gs2 := put_seen apart1 (n', x, y) Sn q4
      simp only [bV1] at gs1 gs2
      simp (maxSteps := 400000) -dsimp -implicitDefEqProofs (disch := first | exact TrueB.mk rfl | omega) only [go_sem, List.length_map, Bool.not_true, e9, e10, e16]
      first | refine wpAct_callS [144] (c _ _ _ _ _ _ _ _ _ _ _ _) rfl rfl rfl rfl rfl rfl rfl rfl rfl rfl ?_ | done
      simp (maxSteps := 400000) -dsimp -implicitDefEqProofs (disch := first | exact TrueB.mk rfl | omega) only [go_sem, gf1, gf2, gs1, gs2, List.length_map]
      refine again_mk ⟨(k, (addC F (32801, a, e), Sn ++ [(n', x, y)], T ++ [(n', x, y)]), T.length + 1), ⟨by omega, s', hi, ho⟩, Nat.lt_succ_self k, ?_⟩
      simp only [hk', List.map_append, List.map_cons, List.map_nil, List.length_append, List.length_cons, List.length_nil]
      rfl

set_option maxHeartbeats 64000000 in
theorem alone_2 (cf tm : Int) (h1 : 1 ≤ cf ∧ cf ≤ 255) (h2 : 1 ≤ tm ∧ tm ≤ 255) (f : Nat) (G : List C3) (h : outs cf tm 2 32855 f ([], [(0, 0, false)], [(0, 0, false)]) = some G) (mc mi : Bool) :
    Runs Tryd.prog env 36 [.pure mc (confV cf tm 1), .pure mi (.int .i64 2)] [] (.map 0) [(0, .map true (firedM G))] := by
  have hapN := happen_no_2
  have hapY := happen_yes_2
  unfold confV at *
  refine Runs.of Tryd.func36 rfl (by simp [Tryd.ntmps36]) ?_
  have k1 : ∀ v, evalO env v (.const (.map none)) = .pure true (.opq (.map none)) := fun _ => rfl
  have k2 : isNilSlice (.const (.map none)) = false := rfl
  have g1 : mapFind (PV.agg [.int .i64 0, .int .i64 0, .int .i64 0, .int .i64 0, .int .i64 0, .int .i64 0, .bool false, .bool false, .bool false]) ([] : List (PV × PV)) = some none := rfl
  have g2 : mapPut (PV.agg [.int .i64 0, .int .i64 0, .int .i64 0, .int .i64 0, .int .i64 0, .int .i64 0, .bool false, .bool false, .bool false]) (.bool true) ([] : List (PV × PV)) = seenM bV2 [(0, 0, false)] := rfl
  simp (maxSteps := 400000) -dsimp -implicitDefEqProofs (disch := first | exact TrueB.mk rfl | omega) only [go_sem, Tryd.ntmps36, k1, k2, g1, g2]
  clear g1 g2
  refine wpLoop_ind (α := Nat × S3 × Nat)
    (fun x => ⟨[(1, .pure mi (.int .i64 2)), (2, .ptr 1168 0), (5, .map 1169), (6, .map 1170), (7, todoS x.2.1.2.2)], [(1168, .box [.pure mc (.int .i64 cf), .pure mc (.int .i64 tm), .pure mc (.int .i64 1), .pure mc (.int .i64 0), .pure mc (.str []), .pure mc (.str []), .pure mc (.int .i64 0), .pure mc (.int .u32 0), .pure mc (.bool false)]), (1169, .map true (firedM x.2.1.1)), (1170, .map true (seenM bV2 x.2.1.2.1))] ++ todoO bV2 x.2.1.2.2 x.2.2⟩)
    (fun x => outs cf tm 2 32855 x.1 x.2.1 = some G) (fun x => x.1) ?_ (f, ([], [(0, 0, false)], [(0, 0, false)]), 0) h rfl
  clear h f
  rintro ⟨f, ⟨F, Sn, T⟩, lim⟩ hI
  cases f with
  | zero => cases hI
  | succ f =>
  cases T with
  | nil =>
    simp only [outs] at hI
    cases hI
    simp only [todoS, todoO, List.append_nil]
    simp (maxSteps := 400000) -dsimp -implicitDefEqProofs (disch := first | exact TrueB.mk rfl | omega) only [go_sem]
    first | exact rfl | done
  | cons b T =>
  obtain ⟨a, r, s⟩ := b
  simp only [outs] at hI
  simp only [todoS, todoO, List.cons_append, List.nil_append]
  simp (maxSteps := 400000) -dsimp -implicitDefEqProofs (disch := first | exact TrueB.mk rfl | omega) only [go_sem, List.length_map]
  refine wpLoop_ind (α := Nat × S3 × Nat)
    (fun x => ⟨[(1, .pure mi (.int .i64 2)), (2, .ptr 1168 0), (5, .map 1169), (6, .map 1170), (7, .row 1171 (x.2.1.2.2.length + 1)), (8, .pure true (.int .i64 (17 - (x.1 : Int))))], [(1168, .box [.pure mc (.int .i64 cf), .pure mc (.int .i64 tm), .pure mc (.int .i64 1), .pure mc (.int .i64 0), .pure mc (.str []), .pure mc (.str []), .pure mc (.int .i64 0), .pure mc (.int .u32 0), .pure mc (.bool false)]), (1169, .map true (firedM x.2.1.1)), (1170, .map true (seenM bV2 x.2.1.2.1)), (1171, .row true 9 x.2.2 (bV2 (a, r, s) :: x.2.1.2.2.map bV2))]⟩)
    (fun x => x.1 ≤ 16 ∧ ∃ s', inn cf tm 2 32855 (a, r, s) x.1 x.2.1 = some s' ∧ outs cf tm 2 32855 f s' = some G) (fun x => x.1) ?_ (16, (F, Sn, T), lim) ?_ rfl
  rotate_left
  · split at hI
    · cases hI
    · rename_i s' hs'
      exact ⟨Nat.le_refl _, s', hs', hI⟩
  clear hI F Sn T lim
  rintro ⟨k, ⟨F, Sn, T⟩, lim⟩ ⟨hk, s', hi, ho⟩
  simp only at hk hi ho ⊢
  cases k with
  | zero =>
    simp only [inn] at hi
    cases hi
    have e0 : (17 : Int) - ((0 : Nat) : Int) = 17 := rfl
    cases T with
    | nil =>
      simp (maxSteps := 400000) -dsimp -implicitDefEqProofs (disch := first | exact TrueB.mk rfl | omega) only [go_sem, e0, bV2]
      refine again_mk ⟨(f, (F, Sn, []), 0), ho, Nat.lt_succ_self f, ?_⟩
      rfl
    | cons b' T' =>
      simp (maxSteps := 400000) -dsimp -implicitDefEqProofs (disch := first | exact TrueB.mk rfl | omega) only [go_sem, e0, List.length_map]
      refine again_mk ⟨(f, (F, Sn, b' :: T'), T'.length + 1), ho, Nat.lt_succ_self f, ?_⟩
      rfl
  | succ k =>
  have e0 : (17 : Int) - ((k + 1 : Nat) : Int) = 16 - (k : Int) := by omega
  have e1 : 1 + (16 - (k : Int)) = 17 - (k : Int) := by omega
  have e2 : (16 - (k : Int)) + 1 = 17 - (k : Int) := by omega
  rw [e0]
  simp only [inn] at hi
  split at hi
  · cases hi
  rename_i s1 hr
  obtain ⟨e, he⟩ : ∃ e : Int, e = 16 - (k : Int) := ⟨_, rfl⟩
  rw [← he] at hr ⊢
  have hb : bV2 (a, r, s) = .agg [.int .i64 0, .int .i64 0, .int .i64 0, .int .i64 0, .int .i64 a, .int .i64 r, .bool false, .bool false, .bool s] := rfl
  have hk' : (17 : Int) - (k : Int) = e + 1 := by omega
  have b1 : 1 ≤ e := by omega
  have b2 : e ≤ 16 := by omega
  rw [hb]
  clear e0 e1 e2
  rcases Classical.em (e = 9) with e9 | e9
  · subst e9
    cases s with
    | false =>
      simp (maxSteps := 400000) -dsimp -implicitDefEqProofs (disch := first | exact TrueB.mk rfl | omega) only [go_sem, List.length_map, Bool.not_false]
      obtain rfl : s1 = (F, Sn, T) := by
        have := rnd_skip (cf := cf) (tm := tm) (i := 2) (p := 32855) (b := (a, r, false)) (e := 9) (s := (F, Sn, T)) rfl
        rw [this] at hr
        cases hr
        rfl
      refine again_mk ⟨(k, (F, Sn, T), lim), ⟨by omega, s', hi, ho⟩, Nat.lt_succ_self k, ?_⟩
      simp only [hk']
      rfl
    | true =>
      have hs0 : skip3 2 9 ((a, r, true) : T3).2.2 = false := rfl
      cases hst : stepOut a 9 r with
      | none =>
        obtain ⟨rfl, q1⟩ := rnd_no hs0 hr hst
        have c := fun f0 f1 f2 f3 f4 f5 g0 g1 g2 mc mi me => hapN 0 0 0 0 a r 9 cf tm false false true q1 hst f0 f1 f2 f3 f4 f5 g0 g1 g2 mc mi me
        simp (maxSteps := 400000) -dsimp -implicitDefEqProofs (disch := first | exact TrueB.mk rfl | omega) only [go_sem, List.length_map, Bool.not_true]
        first | refine wpAct_callS [144] (c _ _ _ _ _ _ _ _ _ _ _ _) rfl rfl rfl rfl rfl rfl rfl rfl rfl rfl ?_ | done
        simp (maxSteps := 400000) -dsimp -implicitDefEqProofs (disch := first | exact TrueB.mk rfl | omega) only [go_sem]
        refine again_mk ⟨(k, (F, Sn, T), lim), ⟨by omega, s', hi, ho⟩, Nat.lt_succ_self k, ?_⟩
        simp only [hk']
        rfl
      | some q =>
        obtain ⟨n, l⟩ := q
        obtain ⟨q1, q2, q3⟩ := rnd_yes hs0 hr hst
        have c := fun f0 f1 f2 f3 f4 f5 g0 g1 g2 mc mi me => hapY 0 0 0 0 a r 9 cf tm false false true h1 h2 q1 hst q2 f0 f1 f2 f3 f4 f5 g0 g1 g2 mc mi me
        simp only at q3
        generalize (true || hasN l 7) = y at c q3
        generalize restA cf tm l r = x at c q3
        generalize ((n : Nat) : Int) = n' at c q3
        have gf1 := find_fired (32855, a, 9) F
        have gf2 := put_fired (32855, a, 9) F
        have gs1 := find_seen apart2 (n', x, y) Sn
        simp only [cV] at gf1 gf2
        rcases q3 with ⟨q4, rfl⟩ | ⟨q4, q5, rfl⟩
        · rw [if_pos q4] at gs1
          simp only [bV2] at gs1
          simp (maxSteps := 400000) -dsimp -implicitDefEqProofs (disch := first | exact TrueB.mk rfl | omega) only [go_sem, List.length_map, Bool.not_true]
          first | refine wpAct_callS [144] (c _ _ _ _ _ _ _ _ _ _ _ _) rfl rfl rfl rfl rfl rfl rfl rfl rfl rfl ?_ | done
          simp (maxSteps := 400000) -dsimp -implicitDefEqProofs (disch := first | exact TrueB.mk rfl | omega) only [go_sem, gf1, gf2, gs1]
          refine again_mk ⟨(k, (addC F (32855, a, 9), Sn, T), lim), ⟨by omega, s', hi, ho⟩, Nat.lt_succ_self k, ?_⟩
          simp only [hk']
          rfl
        · rw [if_neg q4] at gs1
          have gs2 := put_seen apart2 (n', x, y) Sn q4
          simp only [bV2] at gs1 gs2
          simp (maxSteps := 400000) -dsimp -implicitDefEqProofs (disch := first | exact TrueB.mk rfl | omega) only [go_sem, List.length_map, Bool.not_true]
          first | refine wpAct_callS [144] (c _ _ _ _ _ _ _ _ _ _ _ _) rfl rfl rfl rfl rfl rfl rfl rfl rfl rfl ?_ | done
          simp (maxSteps := 400000) -dsimp -implicitDefEqProofs (disch := first | exact TrueB.mk rfl | omega) only [go_sem, gf1, gf2, gs1, gs2, List.length_map]
          refine again_mk ⟨(k, (addC F (32855, a, 9), Sn ++ [(n', x, y)], T ++ [(n', x, y)]), T.length + 1), ⟨by omega, s', hi, ho⟩, Nat.lt_succ_self k, ?_⟩
          simp only [hk', List.map_append, List.map_cons, List.map_nil, List.length_append, List.length_cons, List.length_nil]
          rfl
  rcases Classical.em (e = 10) with e10 | e10
  · subst e10
    cases s with
    | false =>
      simp (maxSteps := 400000) -dsimp -implicitDefEqProofs (disch := first | exact TrueB.mk rfl | omega) only [go_sem, List.length_map, Bool.not_false]
      obtain rfl : s1 = (F, Sn, T) := by
        have := rnd_skip (cf := cf) (tm := tm) (i := 2) (p := 32855) (b := (a, r, false)) (e := 10) (s := (F, Sn, T)) rfl
        rw [this] at hr
        cases hr
        rfl
      refine again_mk ⟨(k, (F, Sn, T), lim), ⟨by omega, s', hi, ho⟩, Nat.lt_succ_self k, ?_⟩
      simp only [hk']
      rfl
    | true =>
      have hs0 : skip3 2 10 ((a, r, true) : T3).2.2 = false := rfl
      cases hst : stepOut a 10 r with
      | none =>
        obtain ⟨rfl, q1⟩ := rnd_no hs0 hr hst
        have c := fun f0 f1 f2 f3 f4 f5 g0 g1 g2 mc mi me => hapN 0 0 0 0 a r 10 cf tm false false true q1 hst f0 f1 f2 f3 f4 f5 g0 g1 g2 mc mi me
        simp (maxSteps := 400000) -dsimp -implicitDefEqProofs (disch := first | exact TrueB.mk rfl | omega) only [go_sem, List.length_map, Bool.not_true]
        first | refine wpAct_callS [144] (c _ _ _ _ _ _ _ _ _ _ _ _) rfl rfl rfl rfl rfl rfl rfl rfl rfl rfl ?_ | done
        simp (maxSteps := 400000) -dsimp -implicitDefEqProofs (disch := first | exact TrueB.mk rfl | omega) only [go_sem]
        refine again_mk ⟨(k, (F, Sn, T), lim), ⟨by omega, s', hi, ho⟩, Nat.lt_succ_self k, ?_⟩
        simp only [hk']
        rfl
      | some q =>
        obtain ⟨n, l⟩ := q
        obtain ⟨q1, q2, q3⟩ := rnd_yes hs0 hr hst
        have c := fun f0 f1 f2 f3 f4 f5 g0 g1 g2 mc mi me => hapY 0 0 0 0 a r 10 cf tm false false true h1 h2 q1 hst q2 f0 f1 f2 f3 f4 f5 g0 g1 g2 mc mi me
        simp only at q3
        generalize (true || hasN l 7) = y at c q3
        generalize restA cf tm l r = x at c q3
        generalize ((n : Nat) : Int) = n' at c q3
        have gf1 := find_fired (32855, a, 10) F
        have gf2 := put_fired (32855, a, 10) F
        have gs1 := find_seen apart2 (n', x, y) Sn
        simp only [cV] at gf1 gf2
        rcases q3 with ⟨q4, rfl⟩ | ⟨q4, q5, rfl⟩
        · rw [if_pos q4] at gs1
          simp only [bV2] at gs1
          simp (maxSteps := 400000) -dsimp -implicitDefEqProofs (disch := first | exact TrueB.mk rfl | omega) only [go_sem, List.length_map, Bool.not_true]
          first | refine wpAct_callS [144] (c _ _ _ _ _ _ _ _ _ _ _ _) rfl rfl rfl rfl rfl rfl rfl rfl rfl rfl ?_ | done
          simp (maxSteps := 400000) -dsimp -implicitDefEqProofs (disch := first | exact TrueB.mk rfl | omega) only [go_sem, gf1, gf2, gs1]
          refine again_mk ⟨(k, (addC F (32855, a, 10), Sn, T), lim), ⟨by omega, s', hi, ho⟩, Nat.lt_succ_self k, ?_⟩
          simp only [hk']
          rfl
        · rw [if_neg q4] at gs1
          have gs2 := put_seen apart2 (n', x, y) Sn q4
          simp only [bV2] at gs1 gs2
          simp (maxSteps := 400000) -dsimp -implicitDefEqProofs (disch := first | exact TrueB.mk rfl | omega) only [go_sem, List.length_map, Bool.not_true]
          first | refine wpAct_callS [144] (c _ _ _ _ _ _ _ _ _ _ _ _) rfl rfl rfl rfl rfl rfl rfl rfl rfl rfl ?_ | done
          simp (maxSteps := 400000) -dsimp -implicitDefEqProofs (disch := first | exact TrueB.mk rfl | omega) only [go_sem, gf1, gf2, gs1, gs2, List.length_map]
          refine again_mk ⟨(k, (addC F (32855, a, 10), Sn ++ [(n', x, y)], T ++ [(n', x, y)]), T.length + 1), ⟨by omega, s', hi, ho⟩, Nat.lt_succ_self k, ?_⟩
          simp only [hk', List.map_append, List.map_cons, List.map_nil, List.length_append, List.length_cons, List.length_nil]
          rfl
  rcases Classical.em (e = 16) with e16 | e16
  · subst e16
    simp (maxSteps := 400000) -dsimp -implicitDefEqProofs (disch := first | exact TrueB.mk rfl | omega) only [go_sem, List.length_map, Bool.not_false]
    obtain rfl : s1 = (F, Sn, T) := by
      have := rnd_skip (cf := cf) (tm := tm) (i := 2) (p := 32855) (b := (a, r, s)) (e := 16) (s := (F, Sn, T)) rfl
      rw [this] at hr
      cases hr
      rfl
    refine again_mk ⟨(k, (F, Sn, T), lim), ⟨by omega, s', hi, ho⟩, Nat.lt_succ_self k, ?_⟩
    simp only [hk']
    rfl
  have hs0 : skip3 2 e ((a, r, s) : T3).2.2 = false := by simp [skip3, e9, e10, e16]
  cases hst : stepOut a e r with
  | none =>
    obtain ⟨rfl, q1⟩ := rnd_no hs0 hr hst
    have c := fun f0 f1 f2 f3 f4 f5 g0 g1 g2 mc mi me => hapN 0 0 0 0 a r e cf tm false false s q1 hst f0 f1 f2 f3 f4 f5 g0 g1 g2 mc mi me
    simp (maxSteps := 400000) -dsimp -implicitDefEqProofs (disch := first | exact TrueB.mk rfl | omega) only [go_sem, List.length_map, Bool.not_true, e9, e10, e16]
    first | refine wpAct_callS [144] (c _ _ _ _ _ _ _ _ _ _ _ _) rfl rfl rfl rfl rfl rfl rfl rfl rfl rfl ?_ | done
    simp (maxSteps := 400000) -dsimp -implicitDefEqProofs (disch := first | exact TrueB.mk rfl | omega) only [go_sem]
    refine again_mk ⟨(k, (F, Sn, T), lim), ⟨by omega, s', hi, ho⟩, Nat.lt_succ_self k, ?_⟩
    simp only [hk']
    rfl
  | some q =>
    obtain ⟨n, l⟩ := q
    obtain ⟨q1, q2, q3⟩ := rnd_yes hs0 hr hst
    have c := fun f0 f1 f2 f3 f4 f5 g0 g1 g2 mc mi me => hapY 0 0 0 0 a r e cf tm false false s h1 h2 q1 hst q2 f0 f1 f2 f3 f4 f5 g0 g1 g2 mc mi me
    simp only at q3
    generalize (s || hasN l 7) = y at c q3
    generalize restA cf tm l r = x at c q3
    generalize ((n : Nat) : Int) = n' at c q3
    have gf1 := find_fired (32855, a, e) F
    have gf2 := put_fired (32855, a, e) F
    have gs1 := find_seen apart2 (n', x, y) Sn
    simp only [cV] at gf1 gf2
    rcases q3 with ⟨q4, rfl⟩ | ⟨q4, q5, rfl⟩
    · rw [if_pos q4] at gs1
      simp only [bV2] at gs1
      simp (maxSteps := 400000) -dsimp -implicitDefEqProofs (disch := first | exact TrueB.mk rfl | omega) only [go_sem, List.length_map, Bool.not_true, e9, e10, e16]
      first | refine wpAct_callS [144] (c _ _ _ _ _ _ _ _ _ _ _ _) rfl rfl rfl rfl rfl rfl rfl rfl rfl rfl ?_ | done
      simp (maxSteps := 400000) -dsimp -implicitDefEqProofs (disch := first | exact TrueB.mk rfl | omega) only [go_sem, gf1, gf2, gs1]
      refine again_mk ⟨(k, (addC F (32855, a, e), Sn, T), lim), ⟨by omega, s', hi, ho⟩, Nat.lt_succ_self k, ?_⟩
      simp only [hk']
      rfl
    · rw [if_neg q4] at gs1
      have gs2 := put_seen apart2 (n', x, y) Sn q4
      simp only [bV2] at gs1 gs2
      simp (maxSteps := 400000) -dsimp -implicitDefEqProofs (disch := first | exact TrueB.mk rfl | omega) only [go_sem, List.length_map, Bool.not_true, e9, e10, e16]
      first | refine wpAct_callS [144] (c _ _ _ _ _ _ _ _ _ _ _ _) rfl rfl rfl rfl rfl rfl rfl rfl rfl rfl ?_ | done
      simp (maxSteps := 400000) -dsimp -implicitDefEqProofs (disch := first | exact TrueB.mk rfl | omega) only [go_sem, gf1, gf2, gs1, gs2, List.length_map]
      refine again_mk ⟨(k, (addC F (32855, a, e), Sn ++ [(n', x, y)], T ++ [(n', x, y)]), T.length + 1), ⟨by omega, s', hi, ho⟩, Nat.lt_succ_self k, ?_⟩
      simp only [hk', List.map_append, List.map_cons, List.map_nil, List.length_append, List.length_cons, List.length_nil]
      rfl

end Go.Proofs.YticdhmcbooabaaaDoor
