/- YticdhmcbooabaaaU: the reachable cells, of whatever counts. No claim. -/
import Derived.Test.YticdhmcbooabaaaS0
import Derived.Test.YticdhmcbooabaaaS1
import Derived.Test.YticdhmcbooabaaaS2
set_option linter.unusedVariables false
set_option linter.unusedSimpArgs false
set_option maxRecDepth 100000
namespace Go.Proofs.Yticdhmcbooabaaa
open Go Go.Proofs.Yticdhmcbooabaaa.V

def rowR (F : List C3) (p s : Int) : Nat → List C3 → List C3
  | 0, L => L
  | k + 1, L => rowR F p s k (if ((p, s, 16 - (k : Int)) : C3) ∈ F then L ++ [(p, s, 16 - (k : Int))] else L)
def gridR (F : List C3) (p : Int) : Nat → List C3 → List C3
  | 0, L => L
  | k + 1, L => gridR F p k (rowR F p (9 - (k : Int)) 16 L)
theorem row_len (F : List C3) (p s : Int) : ∀ (k : Nat) (L : List C3), L.length ≤ (rowR F p s k L).length := by
  intro k
  induction k with
  | zero => exact fun L => Nat.le_refl _
  | succ k ih =>
    intro L
    refine Nat.le_trans ?_ (ih _)
    split
    · rw [List.length_append]; omega
    · exact Nat.le_refl _
theorem grid_len (F : List C3) (p : Int) : ∀ (k : Nat) (L : List C3), L.length ≤ (gridR F p k L).length := by
  intro k
  induction k with
  | zero => exact fun L => Nat.le_refl _
  | succ k ih => exact fun L => Nat.le_trans (row_len _ _ _ _ _) (ih _)
def fS (L : List C3) : SV := .row 625 L.length
def zC : List C3 → Nat
  | [] => 0
  | _ :: _ => 3
def fO (L : List C3) (lim : Nat) : Store := [(625, .row true (zC L) lim (cellsV L))]
def fK (L : List C3) : Nat := 626

theorem allScalar_cells (l : List C3) : allScalar (cellsV l) = true := by
  induction l with
  | nil => rfl
  | cons c t ih => exact ih
theorem end_rowC {P : Program} {sl : Slots} {S : Store} {t k n z lim : Nat} {xs : List PV} (hg : get sl t = some (.row k n)) (hk : get S k = some (.row true z lim xs)) (hn : n = xs.length) (hs : allScalar xs = true) : outV P 0 [.tmp t] sl S = some (.row 0 n, [(0, .row true z 0 xs)]) := by
  have := end_rowT (P := P) hg hk hn
  rwa [hs] at this

set_option maxHeartbeats 64000000 in
theorem reach_any (cf tm : Int) (h1 : 1 ≤ cf ∧ cf ≤ 255) (h2 : 1 ≤ tm ∧ tm ≤ 255) (n : Nat) (F0 F1 F2 G : List C3) (hF0 : outs cf tm 0 49185 n ([], [(0, 0, false)], [(0, 0, false)]) = some F0) (hF1 : outs cf tm 1 32801 n ([], [(0, 0, false)], [(0, 0, false)]) = some F1) (hF2 : outs cf tm 2 32855 n ([], [(0, 0, false)], [(0, 0, false)]) = some F2) (hG : gridR F2 32855 10 (gridR F1 32801 10 (gridR F0 49185 10 [])) = G) (hne : G ≠ []) (hGl : G.length ≤ 100000) (m : Bool) :
    Runs Try.prog env 8 [.pure m (confV cf tm 1)] [] (.row 0 G.length) [(0, .row true 3 0 (cellsV G))] := by
  unfold confV
  refine Runs.of Try.func8 rfl (by simp [Try.ntmps8]) ?_
  simp (maxSteps := 400000) -dsimp -implicitDefEqProofs (disch := first | exact TrueB.mk rfl | omega) only [go_sem, Nat.reduceMul, Nat.reduceAdd, Nat.reduceLT, Nat.reduceLeDiff, Nat.reducePow, Nat.reduceEqDiff, ↓reduceIte, reduceCtorEq, Int.reduceToNat, Try.ntmps8]
  first | refine wpAct_call0 (protos_any) rfl rfl rfl rfl rfl rfl rfl rfl ?_ | done
  simp (maxSteps := 400000) -dsimp -implicitDefEqProofs (disch := first | exact TrueB.mk rfl | omega) only [go_sem, Nat.reduceMul, Nat.reduceAdd, Nat.reduceLT, Nat.reduceLeDiff, Nat.reducePow, Nat.reduceEqDiff, ↓reduceIte, reduceCtorEq, Int.reduceToNat]
  refine wpLoop_ind (α := Nat × List C3 × Nat)
    (fun x => ⟨[(1, .ptr 624 0), (3, fS x.2.1), (10, .pure true (.agg [.int .i64 49185, .int .i64 32801, .int .i64 32855])), (11, .pure true (.int .i64 (x.1 : Int)))], (624, .box [.pure m (.int .i64 cf), .pure m (.int .i64 tm), .pure m (.int .i64 1), .pure m (.int .i64 0), .pure m (.str []), .pure m (.str []), .pure m (.int .i64 0), .pure m (.int .u32 0), .pure m (.bool false)]) :: fO x.2.1 x.2.2⟩)
    (fun x => x.1 ≤ 3 ∧ match x.1 with
      | 0 => gridR F2 32855 10 (gridR F1 32801 10 (gridR F0 49185 10 x.2.1)) = G
      | 1 => gridR F2 32855 10 (gridR F1 32801 10 x.2.1) = G
      | 2 => gridR F2 32855 10 x.2.1 = G
      | _ => x.2.1 = G) (fun x => 3 - x.1) ?_ (0, [], 0) ⟨by omega, hG⟩ rfl
  clear hG
  rintro ⟨i, L, lim⟩ ⟨hi, hI⟩
  have hi4 : i = 0 ∨ i = 1 ∨ i = 2 ∨ i = 3 := by simp only at hi; omega
  rcases hi4 with rfl | rfl | rfl | rfl
  · simp only at hI
    simp (maxSteps := 400000) -dsimp -implicitDefEqProofs (disch := first | exact TrueB.mk rfl | omega) only [go_sem, Nat.reduceMul, Nat.reduceAdd, Nat.reduceLT, Nat.reduceLeDiff, Nat.reducePow, Nat.reduceEqDiff, ↓reduceIte, reduceCtorEq, Int.reduceToNat]
    refine wpAct_callM (alone_0 cf tm h1 h2 n F0 hF0 _ _) rfl rfl rfl rfl rfl rfl rfl ?_
    simp (maxSteps := 400000) -dsimp -implicitDefEqProofs (disch := first | exact TrueB.mk rfl | omega) only [go_sem, Nat.reduceMul, Nat.reduceAdd, Nat.reduceLT, Nat.reduceLeDiff, Nat.reducePow, Nat.reduceEqDiff, ↓reduceIte, reduceCtorEq, Int.reduceToNat]
    refine wpLoop_ind (α := Nat × List C3 × Nat)
      (fun x => ⟨[(1, .ptr 624 0), (3, fS x.2.1), (5, .pure true (.int .i64 49185)), (6, .map (fK x.2.1)), (7, .pure true (.int .i64 (10 - (x.1 : Int)))), (10, .pure true (.agg [.int .i64 49185, .int .i64 32801, .int .i64 32855])), (11, .pure true (.int .i64 0))], (624, .box [.pure m (.int .i64 cf), .pure m (.int .i64 tm), .pure m (.int .i64 1), .pure m (.int .i64 0), .pure m (.str []), .pure m (.str []), .pure m (.int .i64 0), .pure m (.int .u32 0), .pure m (.bool false)]) :: (fO x.2.1 x.2.2 ++ [(fK x.2.1, .map true (firedM F0))])⟩)
      (fun x => x.1 ≤ 10 ∧ gridR F2 32855 10 (gridR F1 32801 10 (gridR F0 49185 x.1 x.2.1)) = G) (fun x => x.1) ?_ (10, L, lim) ⟨Nat.le_refl _, hI⟩ rfl
    clear hI
    rintro ⟨k, L, lim⟩ ⟨hk, hI⟩
    simp only at hk hI ⊢
    cases k with
    | zero =>
      have e0 : (10 : Int) - ((0 : Nat) : Int) = 10 := rfl
      simp (maxSteps := 400000) -dsimp -implicitDefEqProofs (disch := first | exact TrueB.mk rfl | omega) only [go_sem, Nat.reduceMul, Nat.reduceAdd, Nat.reduceLT, Nat.reduceLeDiff, Nat.reducePow, Nat.reduceEqDiff, ↓reduceIte, reduceCtorEq, Int.reduceToNat, e0]
      refine again_mk ⟨(1, L, lim), ⟨by omega, hI⟩, by omega, ?_⟩
      rfl
    | succ k =>
    have e0 : (10 : Int) - ((k + 1 : Nat) : Int) = 9 - (k : Int) := by omega
    rw [e0]
    obtain ⟨s, hs⟩ : ∃ s : Int, s = 9 - (k : Int) := ⟨_, rfl⟩
    rw [← hs]
    have s1 : 0 ≤ s := by omega
    have s2 : s ≤ 9 := by omega
    have hk' : (10 : Int) - (k : Int) = s + 1 := by omega
    simp only [gridR] at hI
    rw [← hs] at hI
    simp (maxSteps := 400000) -dsimp -implicitDefEqProofs (disch := first | exact TrueB.mk rfl | omega) only [go_sem, Nat.reduceMul, Nat.reduceAdd, Nat.reduceLT, Nat.reduceLeDiff, Nat.reducePow, Nat.reduceEqDiff, ↓reduceIte, reduceCtorEq, Int.reduceToNat]
    refine wpLoop_ind (α := Nat × List C3 × Nat)
      (fun x => ⟨[(1, .ptr 624 0), (3, fS x.2.1), (5, .pure true (.int .i64 49185)), (6, .map (fK x.2.1)), (7, .pure true (.int .i64 (s))), (8, .pure true (.int .i64 (17 - (x.1 : Int)))), (10, .pure true (.agg [.int .i64 49185, .int .i64 32801, .int .i64 32855])), (11, .pure true (.int .i64 0))], (624, .box [.pure m (.int .i64 cf), .pure m (.int .i64 tm), .pure m (.int .i64 1), .pure m (.int .i64 0), .pure m (.str []), .pure m (.str []), .pure m (.int .i64 0), .pure m (.int .u32 0), .pure m (.bool false)]) :: (fO x.2.1 x.2.2 ++ [(fK x.2.1, .map true (firedM F0))])⟩)
      (fun x => x.1 ≤ 16 ∧ gridR F2 32855 10 (gridR F1 32801 10 (gridR F0 49185 k (rowR F0 49185 s x.1 x.2.1))) = G) (fun x => x.1) ?_ (16, L, lim) ⟨Nat.le_refl _, hI⟩ rfl
    clear hI e0
    rintro ⟨j, L, lim⟩ ⟨hj, hI⟩
    simp only at hj hI ⊢
    cases j with
    | zero =>
      have e0 : (17 : Int) - ((0 : Nat) : Int) = 17 := rfl
      simp (maxSteps := 400000) -dsimp -implicitDefEqProofs (disch := first | exact TrueB.mk rfl | omega) only [go_sem, Nat.reduceMul, Nat.reduceAdd, Nat.reduceLT, Nat.reduceLeDiff, Nat.reducePow, Nat.reduceEqDiff, ↓reduceIte, reduceCtorEq, Int.reduceToNat, e0]
      refine again_mk ⟨(k, L, lim), ⟨by omega, hI⟩, Nat.lt_succ_self k, ?_⟩
      simp only [hk']
      rfl
    | succ j =>
    have e0 : (17 : Int) - ((j + 1 : Nat) : Int) = 16 - (j : Int) := by omega
    rw [e0]
    obtain ⟨e, he⟩ : ∃ e : Int, e = 16 - (j : Int) := ⟨_, rfl⟩
    rw [← he]
    have b1 : 1 ≤ e := by omega
    have b2 : e ≤ 16 := by omega
    have hj' : (17 : Int) - (j : Int) = e + 1 := by omega
    simp only [rowR] at hI
    rw [← he] at hI
    have gf1 := find_fired (49185, s, e) F0
    simp only [cV] at gf1
    by_cases hm : ((49185, s, e) : C3) ∈ F0
    · rw [if_pos hm] at gf1 hI
      simp only [fS, fO, fK, List.cons_append, List.nil_append]
      have hc := cellsV_length L
      have hz : zC L = 3 ∨ zC L = 0 := by cases L <;> simp [zC]
      have hll : (L ++ [((49185, s, e) : C3)]).length ≤ G.length := by
        rw [← hI]
        exact Nat.le_trans (row_len _ _ _ _ _) (Nat.le_trans (grid_len _ _ _ _) (Nat.le_trans (grid_len _ _ _ _) (grid_len _ _ _ _)))
      rw [List.length_append, List.length_cons, List.length_nil] at hll
      have hz2 : zC (L ++ [((49185, s, e) : C3)]) = 3 := by cases L <;> rfl
      generalize zC L = z at hz ⊢
      simp (maxSteps := 400000) -dsimp -implicitDefEqProofs (disch := first | exact TrueB.mk rfl | omega) only [go_sem, Nat.reduceMul, Nat.reduceAdd, Nat.reduceLT, Nat.reduceLeDiff, Nat.reducePow, Nat.reduceEqDiff, ↓reduceIte, reduceCtorEq, Int.reduceToNat, gf1, hc, hz]
      refine again_mk ⟨(j, L ++ [(49185, s, e)], L.length), ⟨by omega, hI⟩, Nat.lt_succ_self j, ?_⟩
      simp only [hj', hz2, fS, fO, fK, List.cons_append, cellsV, List.map_append, List.map_cons, List.map_nil, List.length_append, List.length_cons, List.length_nil]
      rfl
    · rw [if_neg hm] at gf1 hI
      simp only [fS, fO, fK, List.cons_append, List.nil_append]
      simp (maxSteps := 400000) -dsimp -implicitDefEqProofs (disch := first | exact TrueB.mk rfl | omega) only [go_sem, Nat.reduceMul, Nat.reduceAdd, Nat.reduceLT, Nat.reduceLeDiff, Nat.reducePow, Nat.reduceEqDiff, ↓reduceIte, reduceCtorEq, Int.reduceToNat, gf1]
      refine again_mk ⟨(j, L, lim), ⟨by omega, hI⟩, Nat.lt_succ_self j, ?_⟩
      simp only [hj']
      rfl
  · simp only at hI
    simp (maxSteps := 400000) -dsimp -implicitDefEqProofs (disch := first | exact TrueB.mk rfl | omega) only [go_sem, Nat.reduceMul, Nat.reduceAdd, Nat.reduceLT, Nat.reduceLeDiff, Nat.reducePow, Nat.reduceEqDiff, ↓reduceIte, reduceCtorEq, Int.reduceToNat]
    refine wpAct_callM (alone_1 cf tm h1 h2 n F1 hF1 _ _) rfl rfl rfl rfl rfl rfl rfl ?_
    simp (maxSteps := 400000) -dsimp -implicitDefEqProofs (disch := first | exact TrueB.mk rfl | omega) only [go_sem, Nat.reduceMul, Nat.reduceAdd, Nat.reduceLT, Nat.reduceLeDiff, Nat.reducePow, Nat.reduceEqDiff, ↓reduceIte, reduceCtorEq, Int.reduceToNat]
    refine wpLoop_ind (α := Nat × List C3 × Nat)
      (fun x => ⟨[(1, .ptr 624 0), (3, fS x.2.1), (5, .pure true (.int .i64 32801)), (6, .map (fK x.2.1)), (7, .pure true (.int .i64 (10 - (x.1 : Int)))), (10, .pure true (.agg [.int .i64 49185, .int .i64 32801, .int .i64 32855])), (11, .pure true (.int .i64 1))], (624, .box [.pure m (.int .i64 cf), .pure m (.int .i64 tm), .pure m (.int .i64 1), .pure m (.int .i64 0), .pure m (.str []), .pure m (.str []), .pure m (.int .i64 0), .pure m (.int .u32 0), .pure m (.bool false)]) :: (fO x.2.1 x.2.2 ++ [(fK x.2.1, .map true (firedM F1))])⟩)
      (fun x => x.1 ≤ 10 ∧ gridR F2 32855 10 (gridR F1 32801 x.1 x.2.1) = G) (fun x => x.1) ?_ (10, L, lim) ⟨Nat.le_refl _, hI⟩ rfl
    clear hI
    rintro ⟨k, L, lim⟩ ⟨hk, hI⟩
    simp only at hk hI ⊢
    cases k with
    | zero =>
      have e0 : (10 : Int) - ((0 : Nat) : Int) = 10 := rfl
      simp (maxSteps := 400000) -dsimp -implicitDefEqProofs (disch := first | exact TrueB.mk rfl | omega) only [go_sem, Nat.reduceMul, Nat.reduceAdd, Nat.reduceLT, Nat.reduceLeDiff, Nat.reducePow, Nat.reduceEqDiff, ↓reduceIte, reduceCtorEq, Int.reduceToNat, e0]
      refine again_mk ⟨(2, L, lim), ⟨by omega, hI⟩, by omega, ?_⟩
      rfl
    | succ k =>
    have e0 : (10 : Int) - ((k + 1 : Nat) : Int) = 9 - (k : Int) := by omega
    rw [e0]
    obtain ⟨s, hs⟩ : ∃ s : Int, s = 9 - (k : Int) := ⟨_, rfl⟩
    rw [← hs]
    have s1 : 0 ≤ s := by omega
    have s2 : s ≤ 9 := by omega
    have hk' : (10 : Int) - (k : Int) = s + 1 := by omega
    simp only [gridR] at hI
    rw [← hs] at hI
    simp (maxSteps := 400000) -dsimp -implicitDefEqProofs (disch := first | exact TrueB.mk rfl | omega) only [go_sem, Nat.reduceMul, Nat.reduceAdd, Nat.reduceLT, Nat.reduceLeDiff, Nat.reducePow, Nat.reduceEqDiff, ↓reduceIte, reduceCtorEq, Int.reduceToNat]
    refine wpLoop_ind (α := Nat × List C3 × Nat)
      (fun x => ⟨[(1, .ptr 624 0), (3, fS x.2.1), (5, .pure true (.int .i64 32801)), (6, .map (fK x.2.1)), (7, .pure true (.int .i64 (s))), (8, .pure true (.int .i64 (17 - (x.1 : Int)))), (10, .pure true (.agg [.int .i64 49185, .int .i64 32801, .int .i64 32855])), (11, .pure true (.int .i64 1))], (624, .box [.pure m (.int .i64 cf), .pure m (.int .i64 tm), .pure m (.int .i64 1), .pure m (.int .i64 0), .pure m (.str []), .pure m (.str []), .pure m (.int .i64 0), .pure m (.int .u32 0), .pure m (.bool false)]) :: (fO x.2.1 x.2.2 ++ [(fK x.2.1, .map true (firedM F1))])⟩)
      (fun x => x.1 ≤ 16 ∧ gridR F2 32855 10 (gridR F1 32801 k (rowR F1 32801 s x.1 x.2.1)) = G) (fun x => x.1) ?_ (16, L, lim) ⟨Nat.le_refl _, hI⟩ rfl
    clear hI e0
    rintro ⟨j, L, lim⟩ ⟨hj, hI⟩
    simp only at hj hI ⊢
    cases j with
    | zero =>
      have e0 : (17 : Int) - ((0 : Nat) : Int) = 17 := rfl
      simp (maxSteps := 400000) -dsimp -implicitDefEqProofs (disch := first | exact TrueB.mk rfl | omega) only [go_sem, Nat.reduceMul, Nat.reduceAdd, Nat.reduceLT, Nat.reduceLeDiff, Nat.reducePow, Nat.reduceEqDiff, ↓reduceIte, reduceCtorEq, Int.reduceToNat, e0]
      refine again_mk ⟨(k, L, lim), ⟨by omega, hI⟩, Nat.lt_succ_self k, ?_⟩
      simp only [hk']
      rfl
    | succ j =>
    have e0 : (17 : Int) - ((j + 1 : Nat) : Int) = 16 - (j : Int) := by omega
    rw [e0]
    obtain ⟨e, he⟩ : ∃ e : Int, e = 16 - (j : Int) := ⟨_, rfl⟩
    rw [← he]
    have b1 : 1 ≤ e := by omega
    have b2 : e ≤ 16 := by omega
    have hj' : (17 : Int) - (j : Int) = e + 1 := by omega
    simp only [rowR] at hI
    rw [← he] at hI
    have gf1 := find_fired (32801, s, e) F1
    simp only [cV] at gf1
    by_cases hm : ((32801, s, e) : C3) ∈ F1
    · rw [if_pos hm] at gf1 hI
      simp only [fS, fO, fK, List.cons_append, List.nil_append]
      have hc := cellsV_length L
      have hz : zC L = 3 ∨ zC L = 0 := by cases L <;> simp [zC]
      have hll : (L ++ [((32801, s, e) : C3)]).length ≤ G.length := by
        rw [← hI]
        exact Nat.le_trans (row_len _ _ _ _ _) (Nat.le_trans (grid_len _ _ _ _) (grid_len _ _ _ _))
      rw [List.length_append, List.length_cons, List.length_nil] at hll
      have hz2 : zC (L ++ [((32801, s, e) : C3)]) = 3 := by cases L <;> rfl
      generalize zC L = z at hz ⊢
      simp (maxSteps := 400000) -dsimp -implicitDefEqProofs (disch := first | exact TrueB.mk rfl | omega) only [go_sem, Nat.reduceMul, Nat.reduceAdd, Nat.reduceLT, Nat.reduceLeDiff, Nat.reducePow, Nat.reduceEqDiff, ↓reduceIte, reduceCtorEq, Int.reduceToNat, gf1, hc, hz]
      refine again_mk ⟨(j, L ++ [(32801, s, e)], L.length), ⟨by omega, hI⟩, Nat.lt_succ_self j, ?_⟩
      simp only [hj', hz2, fS, fO, fK, List.cons_append, cellsV, List.map_append, List.map_cons, List.map_nil, List.length_append, List.length_cons, List.length_nil]
      rfl
    · rw [if_neg hm] at gf1 hI
      simp only [fS, fO, fK, List.cons_append, List.nil_append]
      simp (maxSteps := 400000) -dsimp -implicitDefEqProofs (disch := first | exact TrueB.mk rfl | omega) only [go_sem, Nat.reduceMul, Nat.reduceAdd, Nat.reduceLT, Nat.reduceLeDiff, Nat.reducePow, Nat.reduceEqDiff, ↓reduceIte, reduceCtorEq, Int.reduceToNat, gf1]
      refine again_mk ⟨(j, L, lim), ⟨by omega, hI⟩, Nat.lt_succ_self j, ?_⟩
      simp only [hj']
      rfl
  · simp only at hI
    simp (maxSteps := 400000) -dsimp -implicitDefEqProofs (disch := first | exact TrueB.mk rfl | omega) only [go_sem, Nat.reduceMul, Nat.reduceAdd, Nat.reduceLT, Nat.reduceLeDiff, Nat.reducePow, Nat.reduceEqDiff, ↓reduceIte, reduceCtorEq, Int.reduceToNat]
    refine wpAct_callM (alone_2 cf tm h1 h2 n F2 hF2 _ _) rfl rfl rfl rfl rfl rfl rfl ?_
    simp (maxSteps := 400000) -dsimp -implicitDefEqProofs (disch := first | exact TrueB.mk rfl | omega) only [go_sem, Nat.reduceMul, Nat.reduceAdd, Nat.reduceLT, Nat.reduceLeDiff, Nat.reducePow, Nat.reduceEqDiff, ↓reduceIte, reduceCtorEq, Int.reduceToNat]
    refine wpLoop_ind (α := Nat × List C3 × Nat)
      (fun x => ⟨[(1, .ptr 624 0), (3, fS x.2.1), (5, .pure true (.int .i64 32855)), (6, .map (fK x.2.1)), (7, .pure true (.int .i64 (10 - (x.1 : Int)))), (10, .pure true (.agg [.int .i64 49185, .int .i64 32801, .int .i64 32855])), (11, .pure true (.int .i64 2))], (624, .box [.pure m (.int .i64 cf), .pure m (.int .i64 tm), .pure m (.int .i64 1), .pure m (.int .i64 0), .pure m (.str []), .pure m (.str []), .pure m (.int .i64 0), .pure m (.int .u32 0), .pure m (.bool false)]) :: (fO x.2.1 x.2.2 ++ [(fK x.2.1, .map true (firedM F2))])⟩)
      (fun x => x.1 ≤ 10 ∧ (gridR F2 32855 x.1 x.2.1) = G) (fun x => x.1) ?_ (10, L, lim) ⟨Nat.le_refl _, hI⟩ rfl
    clear hI
    rintro ⟨k, L, lim⟩ ⟨hk, hI⟩
    simp only at hk hI ⊢
    cases k with
    | zero =>
      have e0 : (10 : Int) - ((0 : Nat) : Int) = 10 := rfl
      simp (maxSteps := 400000) -dsimp -implicitDefEqProofs (disch := first | exact TrueB.mk rfl | omega) only [go_sem, Nat.reduceMul, Nat.reduceAdd, Nat.reduceLT, Nat.reduceLeDiff, Nat.reducePow, Nat.reduceEqDiff, ↓reduceIte, reduceCtorEq, Int.reduceToNat, e0]
      refine again_mk ⟨(3, L, lim), ⟨by omega, hI⟩, by omega, ?_⟩
      rfl
    | succ k =>
    have e0 : (10 : Int) - ((k + 1 : Nat) : Int) = 9 - (k : Int) := by omega
    rw [e0]
    obtain ⟨s, hs⟩ : ∃ s : Int, s = 9 - (k : Int) := ⟨_, rfl⟩
    rw [← hs]
    have s1 : 0 ≤ s := by omega
    have s2 : s ≤ 9 := by omega
    have hk' : (10 : Int) - (k : Int) = s + 1 := by omega
    simp only [gridR] at hI
    rw [← hs] at hI
    simp (maxSteps := 400000) -dsimp -implicitDefEqProofs (disch := first | exact TrueB.mk rfl | omega) only [go_sem, Nat.reduceMul, Nat.reduceAdd, Nat.reduceLT, Nat.reduceLeDiff, Nat.reducePow, Nat.reduceEqDiff, ↓reduceIte, reduceCtorEq, Int.reduceToNat]
    refine wpLoop_ind (α := Nat × List C3 × Nat)
      (fun x => ⟨[(1, .ptr 624 0), (3, fS x.2.1), (5, .pure true (.int .i64 32855)), (6, .map (fK x.2.1)), (7, .pure true (.int .i64 (s))), (8, .pure true (.int .i64 (17 - (x.1 : Int)))), (10, .pure true (.agg [.int .i64 49185, .int .i64 32801, .int .i64 32855])), (11, .pure true (.int .i64 2))], (624, .box [.pure m (.int .i64 cf), .pure m (.int .i64 tm), .pure m (.int .i64 1), .pure m (.int .i64 0), .pure m (.str []), .pure m (.str []), .pure m (.int .i64 0), .pure m (.int .u32 0), .pure m (.bool false)]) :: (fO x.2.1 x.2.2 ++ [(fK x.2.1, .map true (firedM F2))])⟩)
      (fun x => x.1 ≤ 16 ∧ (gridR F2 32855 k (rowR F2 32855 s x.1 x.2.1)) = G) (fun x => x.1) ?_ (16, L, lim) ⟨Nat.le_refl _, hI⟩ rfl
    clear hI e0
    rintro ⟨j, L, lim⟩ ⟨hj, hI⟩
    simp only at hj hI ⊢
    cases j with
    | zero =>
      have e0 : (17 : Int) - ((0 : Nat) : Int) = 17 := rfl
      simp (maxSteps := 400000) -dsimp -implicitDefEqProofs (disch := first | exact TrueB.mk rfl | omega) only [go_sem, Nat.reduceMul, Nat.reduceAdd, Nat.reduceLT, Nat.reduceLeDiff, Nat.reducePow, Nat.reduceEqDiff, ↓reduceIte, reduceCtorEq, Int.reduceToNat, e0]
      refine again_mk ⟨(k, L, lim), ⟨by omega, hI⟩, Nat.lt_succ_self k, ?_⟩
      simp only [hk']
      rfl
    | succ j =>
    have e0 : (17 : Int) - ((j + 1 : Nat) : Int) = 16 - (j : Int) := by omega
    rw [e0]
    obtain ⟨e, he⟩ : ∃ e : Int, e = 16 - (j : Int) := ⟨_, rfl⟩
    rw [← he]
    have b1 : 1 ≤ e := by omega
    have b2 : e ≤ 16 := by omega
    have hj' : (17 : Int) - (j : Int) = e + 1 := by omega
    simp only [rowR] at hI
    rw [← he] at hI
    have gf1 := find_fired (32855, s, e) F2
    simp only [cV] at gf1
    by_cases hm : ((32855, s, e) : C3) ∈ F2
    · rw [if_pos hm] at gf1 hI
      simp only [fS, fO, fK, List.cons_append, List.nil_append]
      have hc := cellsV_length L
      have hz : zC L = 3 ∨ zC L = 0 := by cases L <;> simp [zC]
      have hll : (L ++ [((32855, s, e) : C3)]).length ≤ G.length := by
        rw [← hI]
        exact Nat.le_trans (row_len _ _ _ _ _) (grid_len _ _ _ _)
      rw [List.length_append, List.length_cons, List.length_nil] at hll
      have hz2 : zC (L ++ [((32855, s, e) : C3)]) = 3 := by cases L <;> rfl
      generalize zC L = z at hz ⊢
      simp (maxSteps := 400000) -dsimp -implicitDefEqProofs (disch := first | exact TrueB.mk rfl | omega) only [go_sem, Nat.reduceMul, Nat.reduceAdd, Nat.reduceLT, Nat.reduceLeDiff, Nat.reducePow, Nat.reduceEqDiff, ↓reduceIte, reduceCtorEq, Int.reduceToNat, gf1, hc, hz]
      refine again_mk ⟨(j, L ++ [(32855, s, e)], L.length), ⟨by omega, hI⟩, Nat.lt_succ_self j, ?_⟩
      simp only [hj', hz2, fS, fO, fK, List.cons_append, cellsV, List.map_append, List.map_cons, List.map_nil, List.length_append, List.length_cons, List.length_nil]
      rfl
    · rw [if_neg hm] at gf1 hI
      simp only [fS, fO, fK, List.cons_append, List.nil_append]
      simp (maxSteps := 400000) -dsimp -implicitDefEqProofs (disch := first | exact TrueB.mk rfl | omega) only [go_sem, Nat.reduceMul, Nat.reduceAdd, Nat.reduceLT, Nat.reduceLeDiff, Nat.reducePow, Nat.reduceEqDiff, ↓reduceIte, reduceCtorEq, Int.reduceToNat, gf1]
      refine again_mk ⟨(j, L, lim), ⟨by omega, hI⟩, Nat.lt_succ_self j, ?_⟩
      simp only [hj']
      rfl
  · simp only at hI
    subst hI
    cases L with
    | nil => exact absurd rfl hne
    | cons c L =>
      simp only [fS, fO]
      simp (maxSteps := 400000) -dsimp -implicitDefEqProofs (disch := first | exact TrueB.mk rfl | omega) only [go_sem, Nat.reduceMul, Nat.reduceAdd, Nat.reduceLT, Nat.reduceLeDiff, Nat.reducePow, Nat.reduceEqDiff, ↓reduceIte, reduceCtorEq, Int.reduceToNat]
      have ha := allScalar_cells (c :: L)
      first | exact end_rowC rfl rfl (cellsV_length (c :: L)).symm ha | done
end Go.Proofs.Yticdhmcbooabaaa
