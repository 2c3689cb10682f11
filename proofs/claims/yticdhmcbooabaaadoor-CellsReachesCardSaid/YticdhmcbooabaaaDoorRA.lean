/- YticdhmcbooabaaaDoorRA: the document searches the automata of one link. No claim. -/
import Derived.Test.YticdhmcbooabaaaDoorRO
import Derived.Test.YticdhmcbooabaaaDoorRD1
import Derived.Test.YticdhmcbooabaaaDoorRD2
set_option linter.unusedVariables false
set_option linter.unusedSimpArgs false
set_option maxRecDepth 100000
namespace Go.Proofs.YticdhmcbooabaaaDoor
open Go Go.Proofs.YticdhmcbooabaaaDoor.V


set_option maxHeartbeats 64000000 in
theorem refReach (cf tm : Int) (h1 : 1 ≤ cf ∧ cf ≤ 255) (h2 : 1 ≤ tm ∧ tm ≤ 255) (n : Nat) (F0 F1 F2 G : List C3) (hF0 : outs cf tm 0 49185 n ([], [(0, 0, false)], [(0, 0, false)]) = some F0) (hF1 : outs cf tm 1 32801 n ([], [(0, 0, false)], [(0, 0, false)]) = some F1) (hF2 : outs cf tm 2 32855 n ([], [(0, 0, false)], [(0, 0, false)]) = some F2) (hG : gridR F2 32855 10 (gridR F1 32801 10 (gridR F0 49185 10 [])) = G) (hB0 : F0.length ≤ 100000) (hB1 : F1.length ≤ 100000) (hB2 : F2.length ≤ 100000) (hne : G ≠ []) (hGl : G.length ≤ 100000) (hn : n ≤ 100000) (m : Bool) :
    Runs Tryd.prog env 20 [.pure m (confV cf tm 1)] [] (.row 0 G.length) [(0, .row true 3 0 (cellsV G))] := by
  unfold confV
  refine Runs.of Tryd.func20 rfl (by simp [Tryd.ntmps20]) ?_
  simp (maxSteps := 400000) -dsimp -implicitDefEqProofs (disch := first | exact TrueB.mk rfl | omega) only [go_sem, Tryd.ntmps20]
  refine wpLoop_ind (α := Nat × List C3 × Nat)
    (fun x => ⟨[(1, .ptr 1936 0), (3, .row 1937 x.2.1.length), (4, .pure true (.int .i64 (x.1 : Nat)))], [(1936, .box [.pure m (.int .i64 cf), .pure m (.int .i64 tm), .pure m (.int .i64 1), .pure m (.int .i64 0), .pure m (.str []), .pure m (.str []), .pure m (.int .i64 0), .pure m (.int .u32 0), .pure m (.bool false)]), (1937, .row true (zC x.2.1) x.2.2 (cellsV x.2.1))]⟩)
    (fun x => x.1 ≤ 3 ∧ match x.1 with
      | 0 => gridR F2 32855 10 (gridR F1 32801 10 (gridR F0 49185 10 x.2.1)) = G
      | 1 => gridR F2 32855 10 (gridR F1 32801 10 x.2.1) = G
      | 2 => gridR F2 32855 10 x.2.1 = G
      | _ => x.2.1 = G) (fun x => 3 - x.1) ?_ (0, [], 0) ⟨by omega, hG⟩ rfl
  clear hG
  rintro ⟨i, L, lim⟩ ⟨hi, hI⟩
  have hi4 : i = 0 ∨ i = 1 ∨ i = 2 ∨ i = 3 := by simp only at hi; omega
  rcases hi4 with rfl | rfl | rfl | rfl
  · simp only at hI ⊢
    simp (maxSteps := 400000) -dsimp -implicitDefEqProofs (disch := first | exact TrueB.mk rfl | omega) only [go_sem]
    refine wpLoop_ind (α := Nat × Nat × List C3 × List T3 × Nat × Nat)
      (fun x => ⟨[(1, .ptr 1936 0), (3, .row 1937 L.length), (4, .pure true (.int .i64 0)), (5, .row 1938 x.2.2.2.1.length), (6, .row 1939 x.2.2.1.length), (7, .pure true (.int .i64 (x.2.1 : Nat)))], [(1936, .box [.pure m (.int .i64 cf), .pure m (.int .i64 tm), .pure m (.int .i64 1), .pure m (.int .i64 0), .pure m (.str []), .pure m (.str []), .pure m (.int .i64 0), .pure m (.int .u32 0), .pure m (.bool false)]), (1937, .row true (zC L) lim (cellsV L)), (1938, .row true 9 x.2.2.2.2.1 (x.2.2.2.1.map bV0)), (1939, .row true (zC x.2.2.1) x.2.2.2.2.2 (cellsV x.2.2.1))]⟩)
      (fun x => x.1 + x.2.1 ≤ n ∧ x.2.1 ≤ x.2.2.2.1.length ∧ x.2.2.2.1.length ≤ x.2.1 + 100001 ∧ outs cf tm 0 49185 x.1 (x.2.2.1, x.2.2.2.1, x.2.2.2.1.drop x.2.1) = some F0) (fun x => x.1) ?_ (n, 0, [], [(0, 0, false)], 0, 0) ⟨by simp, by simp, by simp, hF0⟩ rfl
    rintro ⟨f, k, F, Sn, l2, l3⟩ ⟨hfk, hk, hSb, ho⟩
    simp only at hfk hk hSb ho ⊢
    have hSl : (Sn.map bV0).length = Sn.length := List.length_map ..
    cases f with
    | zero => cases ho
    | succ f =>
    rcases Classical.em (k < Sn.length) with hlt | hge
    · rw [List.drop_eq_getElem_cons hlt] at ho
      simp only [outs] at ho
      split at ho
      · cases ho
      rename_i s' hs'
      simp (maxSteps := 400000) -dsimp -implicitDefEqProofs (disch := first | exact TrueB.mk rfl | omega) only [go_sem, hSl]
      have hAl : (Sn.take (k + 1)).length = k + 1 := by rw [List.length_take]; omega
      have hAk : (Sn.take (k + 1))[k]? = some Sn[k] := by rw [List.getElem?_take_of_lt (by omega)]; exact List.getElem?_eq_getElem hlt
      have hTb : (Sn.drop (k + 1)).length ≤ 100001 := by rw [List.length_drop]; omega
      have hsp : Sn = Sn.take (k + 1) ++ Sn.drop (k + 1) := (List.take_append_drop (k + 1) Sn).symm
      generalize Sn[k] = b at *
      generalize Sn.drop (k + 1) = T at *
      generalize Sn.take (k + 1) = A at *
      subst hsp
      clear hSl hlt
      obtain ⟨a, r, s⟩ := b
      refine l11_0 rfl h1 h2 (f := f) (k := k) (by omega) hB0 hAl hAk (L := L) (lim := lim) (m := m) (x := (16, F, T, l2, l3)) rfl ⟨Nat.le_refl _, hTb, s', hs', ho⟩ rfl ?_
      clear hs' ho hk hSb hTb F T l2 l3
      intro F T l2 l3 hTb ho
      have hdr : (A ++ T).drop (k + 1) = T := by rw [← hAl, List.drop_left]
      simp (maxSteps := 400000) -dsimp -implicitDefEqProofs (disch := first | exact TrueB.mk rfl | omega) only [go_sem]
      exact again_mk ⟨(f, k + 1, F, A ++ T, l2, l3), ⟨(show f + (k + 1) ≤ n by omega), (show k + 1 ≤ (A ++ T).length by rw [List.length_append]; omega), (show (A ++ T).length ≤ k + 1 + 100001 by rw [List.length_append]; omega), (show outs cf tm 0 49185 f (F, A ++ T, (A ++ T).drop (k + 1)) = some F0 by rw [hdr]; exact ho)⟩, Nat.lt_succ_self f, (by simp only [List.length_append]; rfl)⟩
    · rw [List.drop_of_length_le (by omega)] at ho
      simp only [outs, Option.some.injEq] at ho
      subst ho
      simp (maxSteps := 400000) -dsimp -implicitDefEqProofs (disch := first | exact TrueB.mk rfl | omega) only [go_sem, hSl]
      have hFl := cellsV_length F
      have hFb : F.length ≤ 100000 := hB0
      refine wpLoop_ind (α := Nat × List C3 × Nat)
        (fun x => ⟨[(1, .ptr 1936 0), (3, .row 1937 x.2.1.length), (4, .pure true (.int .i64 0)), (6, .row 1938 F.length), (14, .pure true (.int .i64 (10 - (x.1 : Int))))], [(1936, .box [.pure m (.int .i64 cf), .pure m (.int .i64 tm), .pure m (.int .i64 1), .pure m (.int .i64 0), .pure m (.str []), .pure m (.str []), .pure m (.int .i64 0), .pure m (.int .u32 0), .pure m (.bool false)]), (1937, .row true (zC x.2.1) x.2.2 (cellsV x.2.1)), (1938, .row true (zC F) l3 (cellsV F))]⟩)
        (fun x => x.1 ≤ 10 ∧ gridR F2 32855 10 (gridR F1 32801 10 (gridR F 49185 x.1 x.2.1)) = G) (fun x => x.1) ?_ (10, L, lim) ⟨Nat.le_refl _, hI⟩ rfl
      clear hI
      rintro ⟨k, L, lim⟩ ⟨hk, hI⟩
      simp only at hk hI ⊢
      cases k with
      | zero =>
        have e0 : (10 : Int) - ((0 : Nat) : Int) = 10 := rfl
        have hI0 : gridR F2 32855 10 (gridR F1 32801 10 (L)) = G := hI
        simp (maxSteps := 400000) -dsimp -implicitDefEqProofs (disch := first | exact TrueB.mk rfl | omega) only [go_sem, e0]
        exact again_mk ⟨(1, L, lim), ⟨by omega, hI0⟩, (show 3 - (0 + 1) < 3 - 0 by decide), rfl⟩
      | succ k =>
      have e0 : (10 : Int) - ((k + 1 : Nat) : Int) = 9 - (k : Int) := by omega
      rw [e0]
      obtain ⟨s, hs⟩ : ∃ s : Int, s = 9 - (k : Int) := ⟨_, rfl⟩
      rw [← hs]
      have s1 : 0 ≤ s := by omega
      have s2 : s ≤ 9 := by omega
      have hk' : (10 : Int) - (k : Int) = s + 1 := by omega
      have hI1 : gridR F2 32855 10 (gridR F1 32801 10 (gridR F 49185 k (rowR F 49185 (9 - (k : Int)) 16 L))) = G := hI
      rw [← hs] at hI1
      simp (maxSteps := 400000) -dsimp -implicitDefEqProofs (disch := first | exact TrueB.mk rfl | omega) only [go_sem]
      refine wpLoop_ind (α := Nat × List C3 × Nat)
        (fun x => ⟨[(1, .ptr 1936 0), (3, .row 1937 x.2.1.length), (4, .pure true (.int .i64 0)), (6, .row 1938 F.length), (14, .pure true (.int .i64 (s))), (15, .pure true (.int .i64 (17 - (x.1 : Int))))], [(1936, .box [.pure m (.int .i64 cf), .pure m (.int .i64 tm), .pure m (.int .i64 1), .pure m (.int .i64 0), .pure m (.str []), .pure m (.str []), .pure m (.int .i64 0), .pure m (.int .u32 0), .pure m (.bool false)]), (1937, .row true (zC x.2.1) x.2.2 (cellsV x.2.1)), (1938, .row true (zC F) l3 (cellsV F))]⟩)
        (fun x => x.1 ≤ 16 ∧ gridR F2 32855 10 (gridR F1 32801 10 (gridR F 49185 k (rowR F 49185 s x.1 x.2.1))) = G) (fun x => x.1) ?_ (16, L, lim) ⟨Nat.le_refl _, hI1⟩ rfl
      clear hI hI1 e0
      rintro ⟨j, L, lim⟩ ⟨hj, hI⟩
      simp only at hj hI ⊢
      cases j with
      | zero =>
        have e0 : (17 : Int) - ((0 : Nat) : Int) = 17 := rfl
        have hI0 : gridR F2 32855 10 (gridR F1 32801 10 (gridR F 49185 k L)) = G := hI
        simp (maxSteps := 400000) -dsimp -implicitDefEqProofs (disch := first | exact TrueB.mk rfl | omega) only [go_sem, e0]
        refine again_mk ⟨(k, L, lim), ⟨by omega, hI0⟩, Nat.lt_succ_self k, ?_⟩
        simp only [hk']
        rfl
      | succ j =>
      have e0 : (17 : Int) - ((j + 1 : Nat) : Int) = 16 - (j : Int) := by omega
      rw [e0]
      obtain ⟨e, he⟩ : ∃ e : Int, e = 16 - (j : Int) := ⟨_, rfl⟩
      rw [← he]
      have b1 : 1 ≤ e := by omega
      have b2 : e ≤ 16 := by omega
      have hj' : (17 : Int) - (j : Int) = e + 1 := by omega
      have hI1 : gridR F2 32855 10 (gridR F1 32801 10 (gridR F 49185 k (rowR F 49185 s j (if ((49185, s, 16 - (j : Int)) : C3) ∈ F then L ++ [(49185, s, 16 - (j : Int))] else L)))) = G := hI
      rw [← he] at hI1
      clear hI
      have hd := has_any F (49185, s, e) hFb
      simp only at hd
      by_cases hm : ((49185, s, e) : C3) ∈ F
      · rw [decide_eq_true hm] at hd
        rw [if_pos hm] at hI1
        have hc := cellsV_length L
        have hz : zC L = 3 ∨ zC L = 0 := by cases L <;> simp [zC]
        have hll : (L ++ [((49185, s, e) : C3)]).length ≤ G.length := by
          rw [← hI1]
          exact Nat.le_trans (row_len _ _ _ _ _) (Nat.le_trans (grid_len _ _ _ _) (Nat.le_trans (grid_len _ _ _ _) (grid_len _ _ _ _)))
        rw [List.length_append, List.length_cons, List.length_nil] at hll
        have hz2 : zC (L ++ [((49185, s, e) : C3)]) = 3 := by cases L <;> rfl
        have sc3 : ∀ a b c : Int, PV.scalar.go [.int .i64 a, .int .i64 b, .int .i64 c] = true := fun _ _ _ => rfl
        generalize zC L = z at hz ⊢
        simp (maxSteps := 400000) -dsimp -implicitDefEqProofs (disch := first | exact TrueB.mk rfl | omega) only [go_sem]
        first | refine wpAct_call0 (proto_0 _) rfl rfl rfl rfl rfl rfl rfl rfl ?_ | done
        simp (maxSteps := 400000) -dsimp -implicitDefEqProofs (disch := first | exact TrueB.mk rfl | omega) only [go_sem]
        first | refine wpAct_callF (hd _ _) rfl rfl rfl rfl (argV_r rfl hFl.symm (argV_p rfl argV_nil)) rfl rfl rfl rfl ?_ | done
        simp (maxSteps := 400000) -dsimp -implicitDefEqProofs (disch := first | exact TrueB.mk rfl | omega) only [go_sem, hc, hz, sc3, Bool.or_true]
        refine again_mk ⟨(j, L ++ [(49185, s, e)], L.length), ⟨by omega, hI1⟩, Nat.lt_succ_self j, ?_⟩
        simp only [hj', hz2, cellsV, List.map_append, List.map_cons, List.map_nil, List.length_append, List.length_cons, List.length_nil]
        rfl
      · rw [decide_eq_false hm] at hd
        rw [if_neg hm] at hI1
        simp (maxSteps := 400000) -dsimp -implicitDefEqProofs (disch := first | exact TrueB.mk rfl | omega) only [go_sem]
        first | refine wpAct_call0 (proto_0 _) rfl rfl rfl rfl rfl rfl rfl rfl ?_ | done
        simp (maxSteps := 400000) -dsimp -implicitDefEqProofs (disch := first | exact TrueB.mk rfl | omega) only [go_sem]
        first | refine wpAct_callF (hd _ _) rfl rfl rfl rfl (argV_r rfl hFl.symm (argV_p rfl argV_nil)) rfl rfl rfl rfl ?_ | done
        simp (maxSteps := 400000) -dsimp -implicitDefEqProofs (disch := first | exact TrueB.mk rfl | omega) only [go_sem]
        refine again_mk ⟨(j, L, lim), ⟨by omega, hI1⟩, Nat.lt_succ_self j, ?_⟩
        simp only [hj']
        rfl
  · simp only at hI ⊢
    simp (maxSteps := 400000) -dsimp -implicitDefEqProofs (disch := first | exact TrueB.mk rfl | omega) only [go_sem]
    refine wpLoop_ind (α := Nat × Nat × List C3 × List T3 × Nat × Nat)
      (fun x => ⟨[(1, .ptr 1936 0), (3, .row 1937 L.length), (4, .pure true (.int .i64 1)), (5, .row 1938 x.2.2.2.1.length), (6, .row 1939 x.2.2.1.length), (7, .pure true (.int .i64 (x.2.1 : Nat)))], [(1936, .box [.pure m (.int .i64 cf), .pure m (.int .i64 tm), .pure m (.int .i64 1), .pure m (.int .i64 0), .pure m (.str []), .pure m (.str []), .pure m (.int .i64 0), .pure m (.int .u32 0), .pure m (.bool false)]), (1937, .row true (zC L) lim (cellsV L)), (1938, .row true 9 x.2.2.2.2.1 (x.2.2.2.1.map bV1)), (1939, .row true (zC x.2.2.1) x.2.2.2.2.2 (cellsV x.2.2.1))]⟩)
      (fun x => x.1 + x.2.1 ≤ n ∧ x.2.1 ≤ x.2.2.2.1.length ∧ x.2.2.2.1.length ≤ x.2.1 + 100001 ∧ outs cf tm 1 32801 x.1 (x.2.2.1, x.2.2.2.1, x.2.2.2.1.drop x.2.1) = some F1) (fun x => x.1) ?_ (n, 0, [], [(0, 0, false)], 0, 0) ⟨by simp, by simp, by simp, hF1⟩ rfl
    rintro ⟨f, k, F, Sn, l2, l3⟩ ⟨hfk, hk, hSb, ho⟩
    simp only at hfk hk hSb ho ⊢
    have hSl : (Sn.map bV1).length = Sn.length := List.length_map ..
    cases f with
    | zero => cases ho
    | succ f =>
    rcases Classical.em (k < Sn.length) with hlt | hge
    · rw [List.drop_eq_getElem_cons hlt] at ho
      simp only [outs] at ho
      split at ho
      · cases ho
      rename_i s' hs'
      simp (maxSteps := 400000) -dsimp -implicitDefEqProofs (disch := first | exact TrueB.mk rfl | omega) only [go_sem, hSl]
      have hAl : (Sn.take (k + 1)).length = k + 1 := by rw [List.length_take]; omega
      have hAk : (Sn.take (k + 1))[k]? = some Sn[k] := by rw [List.getElem?_take_of_lt (by omega)]; exact List.getElem?_eq_getElem hlt
      have hTb : (Sn.drop (k + 1)).length ≤ 100001 := by rw [List.length_drop]; omega
      have hsp : Sn = Sn.take (k + 1) ++ Sn.drop (k + 1) := (List.take_append_drop (k + 1) Sn).symm
      generalize Sn[k] = b at *
      generalize Sn.drop (k + 1) = T at *
      generalize Sn.take (k + 1) = A at *
      subst hsp
      clear hSl hlt
      obtain ⟨a, r, s⟩ := b
      refine l11_1 rfl h1 h2 (f := f) (k := k) (by omega) hB1 hAl hAk (L := L) (lim := lim) (m := m) (x := (16, F, T, l2, l3)) rfl ⟨Nat.le_refl _, hTb, s', hs', ho⟩ rfl ?_
      clear hs' ho hk hSb hTb F T l2 l3
      intro F T l2 l3 hTb ho
      have hdr : (A ++ T).drop (k + 1) = T := by rw [← hAl, List.drop_left]
      simp (maxSteps := 400000) -dsimp -implicitDefEqProofs (disch := first | exact TrueB.mk rfl | omega) only [go_sem]
      exact again_mk ⟨(f, k + 1, F, A ++ T, l2, l3), ⟨(show f + (k + 1) ≤ n by omega), (show k + 1 ≤ (A ++ T).length by rw [List.length_append]; omega), (show (A ++ T).length ≤ k + 1 + 100001 by rw [List.length_append]; omega), (show outs cf tm 1 32801 f (F, A ++ T, (A ++ T).drop (k + 1)) = some F1 by rw [hdr]; exact ho)⟩, Nat.lt_succ_self f, (by simp only [List.length_append]; rfl)⟩
    · rw [List.drop_of_length_le (by omega)] at ho
      simp only [outs, Option.some.injEq] at ho
      subst ho
      simp (maxSteps := 400000) -dsimp -implicitDefEqProofs (disch := first | exact TrueB.mk rfl | omega) only [go_sem, hSl]
      have hFl := cellsV_length F
      have hFb : F.length ≤ 100000 := hB1
      refine wpLoop_ind (α := Nat × List C3 × Nat)
        (fun x => ⟨[(1, .ptr 1936 0), (3, .row 1937 x.2.1.length), (4, .pure true (.int .i64 1)), (6, .row 1938 F.length), (14, .pure true (.int .i64 (10 - (x.1 : Int))))], [(1936, .box [.pure m (.int .i64 cf), .pure m (.int .i64 tm), .pure m (.int .i64 1), .pure m (.int .i64 0), .pure m (.str []), .pure m (.str []), .pure m (.int .i64 0), .pure m (.int .u32 0), .pure m (.bool false)]), (1937, .row true (zC x.2.1) x.2.2 (cellsV x.2.1)), (1938, .row true (zC F) l3 (cellsV F))]⟩)
        (fun x => x.1 ≤ 10 ∧ gridR F2 32855 10 (gridR F 32801 x.1 x.2.1) = G) (fun x => x.1) ?_ (10, L, lim) ⟨Nat.le_refl _, hI⟩ rfl
      clear hI
      rintro ⟨k, L, lim⟩ ⟨hk, hI⟩
      simp only at hk hI ⊢
      cases k with
      | zero =>
        have e0 : (10 : Int) - ((0 : Nat) : Int) = 10 := rfl
        have hI0 : gridR F2 32855 10 (L) = G := hI
        simp (maxSteps := 400000) -dsimp -implicitDefEqProofs (disch := first | exact TrueB.mk rfl | omega) only [go_sem, e0]
        exact again_mk ⟨(2, L, lim), ⟨by omega, hI0⟩, (show 3 - (1 + 1) < 3 - 1 by decide), rfl⟩
      | succ k =>
      have e0 : (10 : Int) - ((k + 1 : Nat) : Int) = 9 - (k : Int) := by omega
      rw [e0]
      obtain ⟨s, hs⟩ : ∃ s : Int, s = 9 - (k : Int) := ⟨_, rfl⟩
      rw [← hs]
      have s1 : 0 ≤ s := by omega
      have s2 : s ≤ 9 := by omega
      have hk' : (10 : Int) - (k : Int) = s + 1 := by omega
      have hI1 : gridR F2 32855 10 (gridR F 32801 k (rowR F 32801 (9 - (k : Int)) 16 L)) = G := hI
      rw [← hs] at hI1
      simp (maxSteps := 400000) -dsimp -implicitDefEqProofs (disch := first | exact TrueB.mk rfl | omega) only [go_sem]
      refine wpLoop_ind (α := Nat × List C3 × Nat)
        (fun x => ⟨[(1, .ptr 1936 0), (3, .row 1937 x.2.1.length), (4, .pure true (.int .i64 1)), (6, .row 1938 F.length), (14, .pure true (.int .i64 (s))), (15, .pure true (.int .i64 (17 - (x.1 : Int))))], [(1936, .box [.pure m (.int .i64 cf), .pure m (.int .i64 tm), .pure m (.int .i64 1), .pure m (.int .i64 0), .pure m (.str []), .pure m (.str []), .pure m (.int .i64 0), .pure m (.int .u32 0), .pure m (.bool false)]), (1937, .row true (zC x.2.1) x.2.2 (cellsV x.2.1)), (1938, .row true (zC F) l3 (cellsV F))]⟩)
        (fun x => x.1 ≤ 16 ∧ gridR F2 32855 10 (gridR F 32801 k (rowR F 32801 s x.1 x.2.1)) = G) (fun x => x.1) ?_ (16, L, lim) ⟨Nat.le_refl _, hI1⟩ rfl
      clear hI hI1 e0
      rintro ⟨j, L, lim⟩ ⟨hj, hI⟩
      simp only at hj hI ⊢
      cases j with
      | zero =>
        have e0 : (17 : Int) - ((0 : Nat) : Int) = 17 := rfl
        have hI0 : gridR F2 32855 10 (gridR F 32801 k L) = G := hI
        simp (maxSteps := 400000) -dsimp -implicitDefEqProofs (disch := first | exact TrueB.mk rfl | omega) only [go_sem, e0]
        refine again_mk ⟨(k, L, lim), ⟨by omega, hI0⟩, Nat.lt_succ_self k, ?_⟩
        simp only [hk']
        rfl
      | succ j =>
      have e0 : (17 : Int) - ((j + 1 : Nat) : Int) = 16 - (j : Int) := by omega
      rw [e0]
      obtain ⟨e, he⟩ : ∃ e : Int, e = 16 - (j : Int) := ⟨_, rfl⟩
      rw [← he]
      have b1 : 1 ≤ e := by omega
      have b2 : e ≤ 16 := by omega
      have hj' : (17 : Int) - (j : Int) = e + 1 := by omega
      have hI1 : gridR F2 32855 10 (gridR F 32801 k (rowR F 32801 s j (if ((32801, s, 16 - (j : Int)) : C3) ∈ F then L ++ [(32801, s, 16 - (j : Int))] else L))) = G := hI
      rw [← he] at hI1
      clear hI
      have hd := has_any F (32801, s, e) hFb
      simp only at hd
      by_cases hm : ((32801, s, e) : C3) ∈ F
      · rw [decide_eq_true hm] at hd
        rw [if_pos hm] at hI1
        have hc := cellsV_length L
        have hz : zC L = 3 ∨ zC L = 0 := by cases L <;> simp [zC]
        have hll : (L ++ [((32801, s, e) : C3)]).length ≤ G.length := by
          rw [← hI1]
          exact Nat.le_trans (row_len _ _ _ _ _) (Nat.le_trans (grid_len _ _ _ _) (grid_len _ _ _ _))
        rw [List.length_append, List.length_cons, List.length_nil] at hll
        have hz2 : zC (L ++ [((32801, s, e) : C3)]) = 3 := by cases L <;> rfl
        have sc3 : ∀ a b c : Int, PV.scalar.go [.int .i64 a, .int .i64 b, .int .i64 c] = true := fun _ _ _ => rfl
        generalize zC L = z at hz ⊢
        simp (maxSteps := 400000) -dsimp -implicitDefEqProofs (disch := first | exact TrueB.mk rfl | omega) only [go_sem]
        first | refine wpAct_call0 (proto_1 _) rfl rfl rfl rfl rfl rfl rfl rfl ?_ | done
        simp (maxSteps := 400000) -dsimp -implicitDefEqProofs (disch := first | exact TrueB.mk rfl | omega) only [go_sem]
        first | refine wpAct_callF (hd _ _) rfl rfl rfl rfl (argV_r rfl hFl.symm (argV_p rfl argV_nil)) rfl rfl rfl rfl ?_ | done
        simp (maxSteps := 400000) -dsimp -implicitDefEqProofs (disch := first | exact TrueB.mk rfl | omega) only [go_sem, hc, hz, sc3, Bool.or_true]
        refine again_mk ⟨(j, L ++ [(32801, s, e)], L.length), ⟨by omega, hI1⟩, Nat.lt_succ_self j, ?_⟩
        simp only [hj', hz2, cellsV, List.map_append, List.map_cons, List.map_nil, List.length_append, List.length_cons, List.length_nil]
        rfl
      · rw [decide_eq_false hm] at hd
        rw [if_neg hm] at hI1
        simp (maxSteps := 400000) -dsimp -implicitDefEqProofs (disch := first | exact TrueB.mk rfl | omega) only [go_sem]
        first | refine wpAct_call0 (proto_1 _) rfl rfl rfl rfl rfl rfl rfl rfl ?_ | done
        simp (maxSteps := 400000) -dsimp -implicitDefEqProofs (disch := first | exact TrueB.mk rfl | omega) only [go_sem]
        first | refine wpAct_callF (hd _ _) rfl rfl rfl rfl (argV_r rfl hFl.symm (argV_p rfl argV_nil)) rfl rfl rfl rfl ?_ | done
        simp (maxSteps := 400000) -dsimp -implicitDefEqProofs (disch := first | exact TrueB.mk rfl | omega) only [go_sem]
        refine again_mk ⟨(j, L, lim), ⟨by omega, hI1⟩, Nat.lt_succ_self j, ?_⟩
        simp only [hj']
        rfl
  · simp only at hI ⊢
    simp (maxSteps := 400000) -dsimp -implicitDefEqProofs (disch := first | exact TrueB.mk rfl | omega) only [go_sem]
    refine wpLoop_ind (α := Nat × Nat × List C3 × List T3 × Nat × Nat)
      (fun x => ⟨[(1, .ptr 1936 0), (3, .row 1937 L.length), (4, .pure true (.int .i64 2)), (5, .row 1938 x.2.2.2.1.length), (6, .row 1939 x.2.2.1.length), (7, .pure true (.int .i64 (x.2.1 : Nat)))], [(1936, .box [.pure m (.int .i64 cf), .pure m (.int .i64 tm), .pure m (.int .i64 1), .pure m (.int .i64 0), .pure m (.str []), .pure m (.str []), .pure m (.int .i64 0), .pure m (.int .u32 0), .pure m (.bool false)]), (1937, .row true (zC L) lim (cellsV L)), (1938, .row true 9 x.2.2.2.2.1 (x.2.2.2.1.map bV2)), (1939, .row true (zC x.2.2.1) x.2.2.2.2.2 (cellsV x.2.2.1))]⟩)
      (fun x => x.1 + x.2.1 ≤ n ∧ x.2.1 ≤ x.2.2.2.1.length ∧ x.2.2.2.1.length ≤ x.2.1 + 100001 ∧ outs cf tm 2 32855 x.1 (x.2.2.1, x.2.2.2.1, x.2.2.2.1.drop x.2.1) = some F2) (fun x => x.1) ?_ (n, 0, [], [(0, 0, false)], 0, 0) ⟨by simp, by simp, by simp, hF2⟩ rfl
    rintro ⟨f, k, F, Sn, l2, l3⟩ ⟨hfk, hk, hSb, ho⟩
    simp only at hfk hk hSb ho ⊢
    have hSl : (Sn.map bV2).length = Sn.length := List.length_map ..
    cases f with
    | zero => cases ho
    | succ f =>
    rcases Classical.em (k < Sn.length) with hlt | hge
    · rw [List.drop_eq_getElem_cons hlt] at ho
      simp only [outs] at ho
      split at ho
      · cases ho
      rename_i s' hs'
      simp (maxSteps := 400000) -dsimp -implicitDefEqProofs (disch := first | exact TrueB.mk rfl | omega) only [go_sem, hSl]
      have hAl : (Sn.take (k + 1)).length = k + 1 := by rw [List.length_take]; omega
      have hAk : (Sn.take (k + 1))[k]? = some Sn[k] := by rw [List.getElem?_take_of_lt (by omega)]; exact List.getElem?_eq_getElem hlt
      have hTb : (Sn.drop (k + 1)).length ≤ 100001 := by rw [List.length_drop]; omega
      have hsp : Sn = Sn.take (k + 1) ++ Sn.drop (k + 1) := (List.take_append_drop (k + 1) Sn).symm
      generalize Sn[k] = b at *
      generalize Sn.drop (k + 1) = T at *
      generalize Sn.take (k + 1) = A at *
      subst hsp
      clear hSl hlt
      obtain ⟨a, r, s⟩ := b
      refine l11_2 rfl h1 h2 (f := f) (k := k) (by omega) hB2 hAl hAk (L := L) (lim := lim) (m := m) (x := (16, F, T, l2, l3)) rfl ⟨Nat.le_refl _, hTb, s', hs', ho⟩ rfl ?_
      clear hs' ho hk hSb hTb F T l2 l3
      intro F T l2 l3 hTb ho
      have hdr : (A ++ T).drop (k + 1) = T := by rw [← hAl, List.drop_left]
      simp (maxSteps := 400000) -dsimp -implicitDefEqProofs (disch := first | exact TrueB.mk rfl | omega) only [go_sem]
      exact again_mk ⟨(f, k + 1, F, A ++ T, l2, l3), ⟨(show f + (k + 1) ≤ n by omega), (show k + 1 ≤ (A ++ T).length by rw [List.length_append]; omega), (show (A ++ T).length ≤ k + 1 + 100001 by rw [List.length_append]; omega), (show outs cf tm 2 32855 f (F, A ++ T, (A ++ T).drop (k + 1)) = some F2 by rw [hdr]; exact ho)⟩, Nat.lt_succ_self f, (by simp only [List.length_append]; rfl)⟩
    · rw [List.drop_of_length_le (by omega)] at ho
      simp only [outs, Option.some.injEq] at ho
      subst ho
      simp (maxSteps := 400000) -dsimp -implicitDefEqProofs (disch := first | exact TrueB.mk rfl | omega) only [go_sem, hSl]
      have hFl := cellsV_length F
      have hFb : F.length ≤ 100000 := hB2
      refine wpLoop_ind (α := Nat × List C3 × Nat)
        (fun x => ⟨[(1, .ptr 1936 0), (3, .row 1937 x.2.1.length), (4, .pure true (.int .i64 2)), (6, .row 1938 F.length), (14, .pure true (.int .i64 (10 - (x.1 : Int))))], [(1936, .box [.pure m (.int .i64 cf), .pure m (.int .i64 tm), .pure m (.int .i64 1), .pure m (.int .i64 0), .pure m (.str []), .pure m (.str []), .pure m (.int .i64 0), .pure m (.int .u32 0), .pure m (.bool false)]), (1937, .row true (zC x.2.1) x.2.2 (cellsV x.2.1)), (1938, .row true (zC F) l3 (cellsV F))]⟩)
        (fun x => x.1 ≤ 10 ∧ (gridR F 32855 x.1 x.2.1) = G) (fun x => x.1) ?_ (10, L, lim) ⟨Nat.le_refl _, hI⟩ rfl
      clear hI
      rintro ⟨k, L, lim⟩ ⟨hk, hI⟩
      simp only at hk hI ⊢
      cases k with
      | zero =>
        have e0 : (10 : Int) - ((0 : Nat) : Int) = 10 := rfl
        have hI0 : (L) = G := hI
        simp (maxSteps := 400000) -dsimp -implicitDefEqProofs (disch := first | exact TrueB.mk rfl | omega) only [go_sem, e0]
        exact again_mk ⟨(3, L, lim), ⟨by omega, hI0⟩, (show 3 - (2 + 1) < 3 - 2 by decide), rfl⟩
      | succ k =>
      have e0 : (10 : Int) - ((k + 1 : Nat) : Int) = 9 - (k : Int) := by omega
      rw [e0]
      obtain ⟨s, hs⟩ : ∃ s : Int, s = 9 - (k : Int) := ⟨_, rfl⟩
      rw [← hs]
      have s1 : 0 ≤ s := by omega
      have s2 : s ≤ 9 := by omega
      have hk' : (10 : Int) - (k : Int) = s + 1 := by omega
      have hI1 : (gridR F 32855 k (rowR F 32855 (9 - (k : Int)) 16 L)) = G := hI
      rw [← hs] at hI1
      simp (maxSteps := 400000) -dsimp -implicitDefEqProofs (disch := first | exact TrueB.mk rfl | omega) only [go_sem]
      refine wpLoop_ind (α := Nat × List C3 × Nat)
        (fun x => ⟨[(1, .ptr 1936 0), (3, .row 1937 x.2.1.length), (4, .pure true (.int .i64 2)), (6, .row 1938 F.length), (14, .pure true (.int .i64 (s))), (15, .pure true (.int .i64 (17 - (x.1 : Int))))], [(1936, .box [.pure m (.int .i64 cf), .pure m (.int .i64 tm), .pure m (.int .i64 1), .pure m (.int .i64 0), .pure m (.str []), .pure m (.str []), .pure m (.int .i64 0), .pure m (.int .u32 0), .pure m (.bool false)]), (1937, .row true (zC x.2.1) x.2.2 (cellsV x.2.1)), (1938, .row true (zC F) l3 (cellsV F))]⟩)
        (fun x => x.1 ≤ 16 ∧ (gridR F 32855 k (rowR F 32855 s x.1 x.2.1)) = G) (fun x => x.1) ?_ (16, L, lim) ⟨Nat.le_refl _, hI1⟩ rfl
      clear hI hI1 e0
      rintro ⟨j, L, lim⟩ ⟨hj, hI⟩
      simp only at hj hI ⊢
      cases j with
      | zero =>
        have e0 : (17 : Int) - ((0 : Nat) : Int) = 17 := rfl
        have hI0 : (gridR F 32855 k L) = G := hI
        simp (maxSteps := 400000) -dsimp -implicitDefEqProofs (disch := first | exact TrueB.mk rfl | omega) only [go_sem, e0]
        refine again_mk ⟨(k, L, lim), ⟨by omega, hI0⟩, Nat.lt_succ_self k, ?_⟩
        simp only [hk']
        rfl
      | succ j =>
      have e0 : (17 : Int) - ((j + 1 : Nat) : Int) = 16 - (j : Int) := by omega
      rw [e0]
      obtain ⟨e, he⟩ : ∃ e : Int, e = 16 - (j : Int) := ⟨_, rfl⟩
      rw [← he]
      have b1 : 1 ≤ e := by omega
      have b2 : e ≤ 16 := by omega
      have hj' : (17 : Int) - (j : Int) = e + 1 := by omega
      have hI1 : (gridR F 32855 k (rowR F 32855 s j (if ((32855, s, 16 - (j : Int)) : C3) ∈ F then L ++ [(32855, s, 16 - (j : Int))] else L))) = G := hI
      rw [← he] at hI1
      clear hI
      have hd := has_any F (32855, s, e) hFb
      simp only at hd
      by_cases hm : ((32855, s, e) : C3) ∈ F
      · rw [decide_eq_true hm] at hd
        rw [if_pos hm] at hI1
        have hc := cellsV_length L
        have hz : zC L = 3 ∨ zC L = 0 := by cases L <;> simp [zC]
        have hll : (L ++ [((32855, s, e) : C3)]).length ≤ G.length := by
          rw [← hI1]
          exact Nat.le_trans (row_len _ _ _ _ _) (grid_len _ _ _ _)
        rw [List.length_append, List.length_cons, List.length_nil] at hll
        have hz2 : zC (L ++ [((32855, s, e) : C3)]) = 3 := by cases L <;> rfl
        have sc3 : ∀ a b c : Int, PV.scalar.go [.int .i64 a, .int .i64 b, .int .i64 c] = true := fun _ _ _ => rfl
        generalize zC L = z at hz ⊢
        simp (maxSteps := 400000) -dsimp -implicitDefEqProofs (disch := first | exact TrueB.mk rfl | omega) only [go_sem]
        first | refine wpAct_call0 (proto_2 _) rfl rfl rfl rfl rfl rfl rfl rfl ?_ | done
        simp (maxSteps := 400000) -dsimp -implicitDefEqProofs (disch := first | exact TrueB.mk rfl | omega) only [go_sem]
        first | refine wpAct_callF (hd _ _) rfl rfl rfl rfl (argV_r rfl hFl.symm (argV_p rfl argV_nil)) rfl rfl rfl rfl ?_ | done
        simp (maxSteps := 400000) -dsimp -implicitDefEqProofs (disch := first | exact TrueB.mk rfl | omega) only [go_sem, hc, hz, sc3, Bool.or_true]
        refine again_mk ⟨(j, L ++ [(32855, s, e)], L.length), ⟨by omega, hI1⟩, Nat.lt_succ_self j, ?_⟩
        simp only [hj', hz2, cellsV, List.map_append, List.map_cons, List.map_nil, List.length_append, List.length_cons, List.length_nil]
        rfl
      · rw [decide_eq_false hm] at hd
        rw [if_neg hm] at hI1
        simp (maxSteps := 400000) -dsimp -implicitDefEqProofs (disch := first | exact TrueB.mk rfl | omega) only [go_sem]
        first | refine wpAct_call0 (proto_2 _) rfl rfl rfl rfl rfl rfl rfl rfl ?_ | done
        simp (maxSteps := 400000) -dsimp -implicitDefEqProofs (disch := first | exact TrueB.mk rfl | omega) only [go_sem]
        first | refine wpAct_callF (hd _ _) rfl rfl rfl rfl (argV_r rfl hFl.symm (argV_p rfl argV_nil)) rfl rfl rfl rfl ?_ | done
        simp (maxSteps := 400000) -dsimp -implicitDefEqProofs (disch := first | exact TrueB.mk rfl | omega) only [go_sem]
        refine again_mk ⟨(j, L, lim), ⟨by omega, hI1⟩, Nat.lt_succ_self j, ?_⟩
        simp only [hj']
        rfl
  · simp only at hI ⊢
    subst hI
    cases L with
    | nil => exact absurd rfl hne
    | cons c L =>
      simp (maxSteps := 400000) -dsimp -implicitDefEqProofs (disch := first | exact TrueB.mk rfl | omega) only [go_sem]
      exact end_rowC rfl rfl (cellsV_length (c :: L)).symm (allScalar_cells (c :: L))
end Go.Proofs.YticdhmcbooabaaaDoor
