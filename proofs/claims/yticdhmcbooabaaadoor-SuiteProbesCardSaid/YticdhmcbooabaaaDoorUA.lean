/- YticdhmcbooabaaaDoorUA: parts of the proof of CellsKeeps. No claim. -/
import Derived.Test.YticdhmcbooabaaaDoorS0
import Derived.Test.YticdhmcbooabaaaDoorST
set_option linter.unusedVariables false
set_option linter.unusedSimpArgs false
set_option maxRecDepth 1000000
namespace Go.Proofs.YticdhmcbooabaaaDoor
open Go Go.Proofs.YticdhmcbooabaaaDoor.V

def rowR (F : List C3) (p s : Int) : Nat → List C3 → List C3
  | 0, L => L
  | k + 1, L => rowR F p s k (if ((p, s, 16 - (k : Int)) : C3) ∈ F then L ++ [(p, s, 16 - (k : Int))] else L)
def gridR (F : List C3) (p : Int) : Nat → List C3 → List C3
  | 0, L => L
  | k + 1, L => gridR F p k (rowR F p (9 - (k : Int)) 16 L)
theorem row_len (F : List C3) (p s : Int) : ∀ (k : Nat) (L : List C3), L.length ≤ (rowR F p s k L).length := by
  intro k
  induction k with
  | zero => exact fun L => Nat.le_refl _
  | succ k ih =>
    intro L
    refine Nat.le_trans ?_ (ih _)
    split
    · rw [List.length_append]; omega
    · exact Nat.le_refl _
theorem grid_len (F : List C3) (p : Int) : ∀ (k : Nat) (L : List C3), L.length ≤ (gridR F p k L).length := by
  intro k
  induction k with
  | zero => exact fun L => Nat.le_refl _
  | succ k ih => exact fun L => Nat.le_trans (row_len _ _ _ _ _) (ih _)
def fS (L : List C3) : SV := .row 625 L.length
def zC : List C3 → Nat
  | [] => 0
  | _ :: _ => 3
def fO (L : List C3) (lim : Nat) : Store := [(625, .row true (zC L) lim (cellsV L))]
def fK (L : List C3) : Nat := 626

theorem allScalar_cells (l : List C3) : allScalar (cellsV l) = true := by
  induction l with
  | nil => rfl
  | cons c t ih => exact ih
theorem end_rowC {P : Program} {sl : Slots} {S : Store} {t k n z lim : Nat} {xs : List PV} (hg : get sl t = some (.row k n)) (hk : get S k = some (.row true z lim xs)) (hn : n = xs.length) (hs : allScalar xs = true) : outV P 0 [.tmp t] sl S = some (.row 0 n, [(0, .row true z 0 xs)]) := by
  have := end_rowT (P := P) hg hk hn
  rwa [hs] at this

set_option maxHeartbeats 64000000 in
theorem reach_any (cf tm : Int) (h1 : 1 ≤ cf ∧ cf ≤ 255) (h2 : 1 ≤ tm ∧ tm ≤ 255) (n : Nat) (F0 F1 F2 G : List C3) (hF0 : outs cf tm 0 49185 n ([], [(0, 0, false)], [(0, 0, false)]) = some F0) (hF1 : outs cf tm 1 32801 n ([], [(0, 0, false)], [(0, 0, false)]) = some F1) (hF2 : outs cf tm 2 32855 n ([], [(0, 0, false)], [(0, 0, false)]) = some F2) (hG : gridR F2 32855 10 (gridR F1 32801 10 (gridR F0 49185 10 [])) = G) (hne : G ≠ []) (hGl : G.length ≤ 100000) (m : Bool) :
    Runs Tryd.prog env 19 [.pure m (confV cf tm 1)] [] (.row 0 G.length) [(0, .row true 3 0 (cellsV G))] := by
  unfold confV
  refine Runs.of Tryd.func19 rfl (by simp [Tryd.ntmps19]) ?_
  simp (maxSteps := 400000) -dsimp -implicitDefEqProofs (disch := first | exact TrueB.mk rfl | omega) only [go_sem, Tryd.ntmps19]
  first | refine wpAct_call0 (protos_any) rfl rfl rfl rfl rfl rfl rfl rfl ?_ | done
  simp (maxSteps := 400000) -dsimp -implicitDefEqProofs (disch := first | exact TrueB.mk rfl | omega) only [go_sem]
  refine wpLoop_ind (α := Nat × List C3 × Nat)
    (fun x => ⟨[(1, .ptr 624 0), (3, fS x.2.1), (10, .pure true (.agg [.int .i64 49185, .int .i64 32801, .int .i64 32855])), (11, .pure true (.int .i64 (x.1 : Int)))], (624, .box [.pure m (.int .i64 cf), .pure m (.int .i64 tm), .pure m (.int .i64 1), .pure m (.int .i64 0), .pure m (.str []), .pure m (.str []), .pure m (.int .i64 0), .pure m (.int .u32 0), .pure m (.bool false)]) :: fO x.2.1 x.2.2⟩)
    (fun x => x.1 ≤ 3 ∧ match x.1 with
      | 0 => gridR F2 32855 10 (gridR F1 32801 10 (gridR F0 49185 10 x.2.1)) = G
      | 1 => gridR F2 32855 10 (gridR F1 32801 10 x.2.1) = G
      | 2 => gridR F2 32855 10 x.2.1 = G
      | _ => x.2.1 = G) (fun x => 3 - x.1) ?_ (0, [], 0) ⟨by omega, hG⟩ rfl
  clear hG
  rintro ⟨i, L, lim⟩ ⟨hi, hI⟩
  have hi4 : i = 0 ∨ i = 1 ∨ i = 2 ∨ i = 3 := by simp only at hi; omega
  rcases hi4 with rfl | rfl | rfl | rfl
  · simp only at hI
    simp (maxSteps := 400000) -dsimp -implicitDefEqProofs (disch := first | exact TrueB.mk rfl | omega) only [go_sem]
    refine wpAct_callM (alone_0 cf tm h1 h2 n F0 hF0 _ _) rfl rfl rfl rfl rfl rfl rfl ?_
    simp (maxSteps := 400000) -dsimp -implicitDefEqProofs (disch := first | exact TrueB.mk rfl | omega) only [go_sem]
    refine wpLoop_ind (α := Nat × List C3 × Nat)
      (fun x => ⟨[(1, .ptr 624 0), (3, fS x.2.1), (5, .pure true (.int .i64 49185)), (6, .map (fK x.2.1)), (7, .pure true (.int .i64 (10 - (x.1 : Int)))), (10, .pure true (.agg [.int .i64 49185, .int .i64 32801, .int .i64 32855])), (11, .pure true (.int .i64 0))], (624, .box [.pure m (.int .i64 cf), .pure m (.int .i64 tm), .pure m (.int .i64 1), .pure m (.int .i64 0), .pure m (.str []), .pure m (.str []), .pure m (.int .i64 0), .pure m (.int .u32 0), .pure m (.bool false)]) :: (fO x.2.1 x.2.2 ++ [(fK x.2.1, .map true (firedM F0))])⟩)
      (fun x => x.1 ≤ 10 ∧ gridR F2 32855 10 (gridR F1 32801 10 (gridR F0 49185 x.1 x.2.1)) = G) (fun x => x.1) ?_ (10, L, lim) ⟨Nat.le_refl _, hI⟩ rfl
    clear hI
    rintro ⟨k, L, lim⟩ ⟨hk, hI⟩
    simp only at hk hI ⊢
    cases k with
    | zero =>
      have e0 : (10 : Int) - ((0 : Nat) : Int) = 10 := rfl
      simp (maxSteps := 400000) -dsimp -implicitDefEqProofs (disch := first | exact TrueB.mk rfl | omega) only [go_sem, e0]
      refine again_mk ⟨(1, L, lim), ⟨by omega, hI⟩, by omega, ?_⟩
      rfl
    | succ k =>
    have e0 : (10 : Int) - ((k + 1 : Nat) : Int) = 9 - (k : Int) := by omega
    rw [e0]
    obtain ⟨s, hs⟩ : ∃ s : Int, s = 9 - (k : Int) := ⟨_, rfl⟩
    rw [← hs]
    have s1 : 0 ≤ s := by omega
    have s2 : s ≤ 9 := by omega
    have hk' : (10 : Int) - (k : Int) = s + 1 := by omega
    simp only [gridR] at hI
    rw [← hs] at hI
    simp (maxSteps := 400000) -dsimp -implicitDefEqProofs (disch := first | exact TrueB.mk rfl | omega) only [go_sem]
    refine wpLoop_ind (α := Nat × List C3 × Nat)
      (fun x => ⟨[(1, .ptr 624 0), (3, fS x.2.1), (5, .pure true (.int .i64 49185)), (6, .map (fK x.2.1)), (7, .pure true (.int .i64 (s))), (8, .pure true (.int .i64 (17 - (x.1 : Int)))), (10, .pure true (.agg [.int .i64 49185, .int .i64 32801, .int .i64 32855])), (11, .pure true (.int .i64 0))], (624, .box [.pure m (.int .i64 cf), .pure m (.int .i64 tm), .pure m (.int .i64 1), .pure m (.int .i64 0), .pure m (.str []), .pure m (.str []), .pure m (.int .i64 0), .pure m (.int .u32 0), .pure m (.bool false)]) :: (fO x.2.1 x.2.2 ++ [(fK x.2.1, .map true (firedM F0))])⟩)
      (fun x => x.1 ≤ 16 ∧ gridR F2 32855 10 (gridR F1 32801 10 (gridR F0 49185 k (rowR F0 49185 s x.1 x.2.1))) = G) (fun x => x.1) ?_ (16, L, lim) ⟨Nat.le_refl _, hI⟩ rfl
    clear hI e0
    rintro ⟨j, L, lim⟩ ⟨hj, hI⟩
    simp only at hj hI ⊢
    cases j with
    | zero =>
      have e0 : (17 : Int) - ((0 : Nat) : Int) = 17 := rfl
      simp (maxSteps := 400000) -dsimp -implicitDefEqProofs (disch := first | exact TrueB.mk rfl | omega) only [go_sem, e0]
      refine again_mk ⟨(k, L, lim), ⟨by omega, hI⟩, Nat.lt_succ_self k, ?_⟩
      simp only [hk']
      rfl
    | succ j =>
    have e0 : (17 : Int) - ((j + 1 : Nat) : Int) = 16 - (j : Int) := by omega
    rw [e0]
    obtain ⟨e, he⟩ : ∃ e : Int, e = 16 - (j : Int) := ⟨_, rfl⟩
    rw [← he]
    have b1 : 1 ≤ e := by omega
    have b2 : e ≤ 16 := by omega
    have hj' : (17 : Int) - (j : Int) = e + 1 := by omega
    simp only [rowR] at hI
    rw [← he] at hI
    have gf1 := find_fired (49185, s, e) F0
    simp only [cV] at gf1
    by_cases hm : ((49185, s, e) : C3) ∈ F0
    · rw [if_pos hm] at gf1 hI
      simp only [fS, fO, fK, List.cons_append, List.nil_append]
      have hc := cellsV_length L
      have hz : zC L = 3 ∨ zC L = 0 := by cases L <;> simp [zC]
      have hll : (L ++ [((49185, s, e) : C3)]).length ≤ G.length := by
        rw [← hI]
        exact Nat.le_trans (row_len _ _ _ _ _) (Nat.le_trans (grid_len _ _ _ _) (Nat.le_trans (grid_len _ _ _ _) (grid_len _ _ _ _)))
      rw [List.length_append, List.length_cons, List.length_nil] at hll
      have hz2 : zC (L ++ [((49185, s, e) : C3)]) = 3 := by cases L <;> rfl
      generalize zC L = z at hz ⊢
      simp (maxSteps := 400000) -dsimp -implicitDefEqProofs (disch := first | exact TrueB.mk rfl | omega) only [go_sem, gf1, hc, hz]
      refine again_mk ⟨(j, L ++ [(49185, s, e)], L.length), ⟨by omega, hI⟩, Nat.lt_succ_self j, ?_⟩
      simp only [hj', hz2, fS, fO, fK, List.cons_append, cellsV, List.map_append, List.map_cons, List.map_nil, List.length_append, List.length_cons, List.length_nil]
      rfl
    · rw [if_neg hm] at gf1 hI
      simp only [fS, fO, fK, List.cons_append, List.nil_append]
      simp (maxSteps := 400000) -dsimp -implicitDefEqProofs (disch := first | exact TrueB.mk rfl | omega) only [go_sem, gf1]
      refine again_mk ⟨(j, L, lim), ⟨by omega, hI⟩, Nat.lt_succ_self j, ?_⟩
      simp only [hj']
      rfl
  · simp only at hI
    simp (maxSteps := 400000) -dsimp -implicitDefEqProofs (disch := first | exact TrueB.mk rfl | omega) only [go_sem]
    refine wpAct_callM (alone_1 cf tm h1 h2 n F1 hF1 _ _) rfl rfl rfl rfl rfl rfl rfl ?_
    simp (maxSteps := 400000) -dsimp -implicitDefEqProofs (disch := first | exact TrueB.mk rfl | omega) only [go_sem]
    refine wpLoop_ind (α := Nat × List C3 × Nat)
      (fun x => ⟨[(1, .ptr 624 0), (3, fS x.2.1), (5, .pure true (.int .i64 32801)), (6, .map (fK x.2.1)), (7, .pure true (.int .i64 (10 - (x.1 : Int)))), (10, .pure true (.agg [.int .i64 49185, .int .i64 32801, .int .i64 32855])), (11, .pure true (.int .i64 1))], (624, .box [.pure m (.int .i64 cf), .pure m (.int .i64 tm), .pure m (.int .i64 1), .pure m (.int .i64 0), .pure m (.str []), .pure m (.str []), .pure m (.int .i64 0), .pure m (.int .u32 0), .pure m (.bool false)]) :: (fO x.2.1 x.2.2 ++ [(fK x.2.1, .map true (firedM F1))])⟩)
      (fun x => x.1 ≤ 10 ∧ gridR F2 32855 10 (gridR F1 32801 x.1 x.2.1) = G) (fun x => x.1) ?_ (10, L, lim) ⟨Nat.le_refl _, hI⟩ rfl
    clear hI
    rintro ⟨k, L, lim⟩ ⟨hk, hI⟩
    simp only at hk hI ⊢
    cases k with
    | zero =>
      have e0 : (10 : Int) - ((0 : Nat) : Int) = 10 := rfl
      simp (maxSteps := 400000) -dsimp -implicitDefEqProofs (disch := first | exact TrueB.mk rfl | omega) only [go_sem, e0]
      refine again_mk ⟨(2, L, lim), ⟨by omega, hI⟩, by omega, ?_⟩
      rfl
    | succ k =>
    have e0 : (10 : Int) - ((k + 1 : Nat) : Int) = 9 - (k : Int) := by omega
    rw [e0]
    obtain ⟨s, hs⟩ : ∃ s : Int, s = 9 - (k : Int) := ⟨_, rfl⟩
    rw [← hs]
    have s1 : 0 ≤ s := by omega
    have s2 : s ≤ 9 := by omega
    have hk' : (10 : Int) - (k : Int) = s + 1 := by omega
    simp only [gridR] at hI
    rw [← hs] at hI
    simp (maxSteps := 400000) -dsimp -implicitDefEqProofs (disch := first | exact TrueB.mk rfl | omega) only [go_sem]
    refine wpLoop_ind (α := Nat × List C3 × Nat)
      (fun x => ⟨[(1, .ptr 624 0), (3, fS x.2.1), (5, .pure true (.int .i64 32801)), (6, .map (fK x.2.1)), (7, .pure true (.int .i64 (s))), (8, .pure true (.int .i64 (17 - (x.1 : Int)))), (10, .pure true (.agg [.int .i64 49185, .int .i64 32801, .int .i64 32855])), (11, .pure true (.int .i64 1))], (624, .box [.pure m (.int .i64 cf), .pure m (.int .i64 tm), .pure m (.int .i64 1), .pure m (.int .i64 0), .pure m (.str []), .pure m (.str []), .pure m (.int .i64 0), .pure m (.int .u32 0), .pure m (.bool false)]) :: (fO x.2.1 x.2.2 ++ [(fK x.2.1, .map true (firedM F1))])⟩)
      (fun x => x.1 ≤ 16 ∧ gridR F2 32855 10 (gridR F1 32801 k (rowR F1 32801 s x.1 x.2.1)) = G) (fun x => x.1) ?_ (16, L, lim) ⟨Nat.le_refl _, hI⟩ rfl
    clear hI e0
    rintro ⟨j, L, lim⟩ ⟨hj, hI⟩
    simp only at hj hI ⊢
    cases j with
    | zero =>
      have e0 : (17 : Int) - ((0 : Nat) : Int) = 17 := rfl
      simp (maxSteps := 400000) -dsimp -implicitDefEqProofs (disch := first | exact TrueB.mk rfl | omega) only [go_sem, e0]
      refine again_mk ⟨(k, L, lim), ⟨by omega, hI⟩, Nat.lt_succ_self k, ?_⟩
      simp only [hk']
      rfl
    | succ j =>
    have e0 : (17 : Int) - ((j + 1 : Nat) : Int) = 16 - (j : Int) := by omega
    rw [e0]
    obtain ⟨e, he⟩ : ∃ e : Int, e = 16 - (j : Int) := ⟨_, rfl⟩
    rw [← he]
    have b1 : 1 ≤ e := by omega
    have b2 : e ≤ 16 := by omega
    have hj' : (17 : Int) - (j : Int) = e + 1 := by omega
    simp only [rowR] at hI
    rw [← he] at hI
    have gf1 := find_fired (32801, s, e) F1
    simp only [cV] at gf1
    by_cases hm : ((32801, s, e) : C3) ∈ F1
    · rw [if_pos hm] at gf1 hI
      simp only [fS, fO, fK, List.cons_append, List.nil_append]
      have hc := cellsV_length L
      have hz : zC L = 3 ∨ zC L = 0 := by cases L <;> simp [zC]
      have hll : (L ++ [((32801, s, e) : C3)]).length ≤ G.length := by
        rw [← hI]
        exact Nat.le_trans (row_len _ _ _ _ _) (Nat.le_trans (grid_len _ _ _ _) (grid_len _ _ _ _))
      rw [List.length_append, List.length_cons, List.length_nil] at hll
      have hz2 : zC (L ++ [((32801, s, e) : C3)]) = 3 := by cases L <;> rfl
      generalize zC L = z at hz ⊢
      simp (maxSteps := 400000) -dsimp -implicitDefEqProofs (disch := first | exact TrueB.mk rfl | omega) only [go_sem, gf1, hc, hz]
      refine again_mk ⟨(j, L ++ [(32801, s, e)], L.length), ⟨by omega, hI⟩, Nat.lt_succ_self j, ?_⟩
      simp only [hj', hz2, fS, fO, fK, List.cons_append, cellsV, List.map_append, List.map_cons, List.map_nil, List.length_append, List.length_cons, List.length_nil]
      rfl
    · rw [if_neg hm] at gf1 hI
      simp only [fS, fO, fK, List.cons_append, List.nil_append]
      simp (maxSteps := 400000) -dsimp -implicitDefEqProofs (disch := first | exact TrueB.mk rfl | omega) only [go_sem, gf1]
      refine again_mk ⟨(j, L, lim), ⟨by omega, hI⟩, Nat.lt_succ_self j, ?_⟩
      simp only [hj']
      rfl
  · simp only at hI
    simp (maxSteps := 400000) -dsimp -implicitDefEqProofs (disch := first | exact TrueB.mk rfl | omega) only [go_sem]
    refine wpAct_callM (alone_2 cf tm h1 h2 n F2 hF2 _ _) rfl rfl rfl rfl rfl rfl rfl ?_
    simp (maxSteps := 400000) -dsimp -implicitDefEqProofs (disch := first | exact TrueB.mk rfl | omega) only [go_sem]
    refine wpLoop_ind (α := Nat × List C3 × Nat)
      (fun x => ⟨[(1, .ptr 624 0), (3, fS x.2.1), (5, .pure true (.int .i64 32855)), (6, .map (fK x.2.1)), (7, .pure true (.int .i64 (10 - (x.1 : Int)))), (10, .pure true (.agg [.int .i64 49185, .int .i64 32801, .int .i64 32855])), (11, .pure true (.int .i64 2))], (624, .box [.pure m (.int .i64 cf), .pure m (.int .i64 tm), .pure m (.int .i64 1), .pure m (.int .i64 0), .pure m (.str []), .pure m (.str []), .pure m (.int .i64 0), .pure m (.int .u32 0), .pure m (.bool false)]) :: (fO x.2.1 x.2.2 ++ [(fK x.2.1, .map true (firedM F2))])⟩)
      (fun x => x.1 ≤ 10 ∧ (gridR F2 32855 x.1 x.2.1) = G) (fun x => x.1) ?_ (10, L, lim) ⟨Nat.le_refl _, hI⟩ rfl
    clear hI
    rintro ⟨k, L, lim⟩ ⟨hk, hI⟩
    simp only at hk hI ⊢
    cases k with
    | zero =>
      have e0 : (10 : Int) - ((0 : Nat) : Int) = 10 := rfl
      simp (maxSteps := 400000) -dsimp -implicitDefEqProofs (disch := first | exact TrueB.mk rfl | omega) only [go_sem, e0]
      refine again_mk ⟨(3, L, lim), ⟨by omega, hI⟩, by omega, ?_⟩
      rfl
    | succ k =>
    have e0 : (10 : Int) - ((k + 1 : Nat) : Int) = 9 - (k : Int) := by omega
    rw [e0]
    obtain ⟨s, hs⟩ : ∃ s : Int, s = 9 - (k : Int) := ⟨_, rfl⟩
    rw [← hs]
    have s1 : 0 ≤ s := by omega
    have s2 : s ≤ 9 := by omega
    have hk' : (10 : Int) - (k : Int) = s + 1 := by omega
    simp only [gridR] at hI
    rw [← hs] at hI
    simp (maxSteps := 400000) -dsimp -implicitDefEqProofs (disch := first | exact TrueB.mk rfl | omega) only [go_sem]
    refine wpLoop_ind (α := Nat × List C3 × Nat)
      (fun x => ⟨[(1, .ptr 624 0), (3, fS x.2.1), (5, .pure true (.int .i64 32855)), (6, .map (fK x.2.1)), (7, .pure true (.int .i64 (s))), (8, .pure true (.int .i64 (17 - (x.1 : Int)))), (10, .pure true (.agg [.int .i64 49185, .int .i64 32801, .int .i64 32855])), (11, .pure true (.int .i64 2))], (624, .box [.pure m (.int .i64 cf), .pure m (.int .i64 tm), .pure m (.int .i64 1), .pure m (.int .i64 0), .pure m (.str []), .pure m (.str []), .pure m (.int .i64 0), .pure m (.int .u32 0), .pure m (.bool false)]) :: (fO x.2.1 x.2.2 ++ [(fK x.2.1, .map true (firedM F2))])⟩)
      (fun x => x.1 ≤ 16 ∧ (gridR F2 32855 k (rowR F2 32855 s x.1 x.2.1)) = G) (fun x => x.1) ?_ (16, L, lim) ⟨Nat.le_refl _, hI⟩ rfl
    clear hI e0
    rintro ⟨j, L, lim⟩ ⟨hj, hI⟩
    simp only at hj hI ⊢
    cases j with
    | zero =>
      have e0 : (17 : Int) - ((0 : Nat) : Int) = 17 := rfl
      simp (maxSteps := 400000) -dsimp -implicitDefEqProofs (disch := first | exact TrueB.mk rfl | omega) only [go_sem, e0]
      refine again_mk ⟨(k, L, lim), ⟨by omega, hI⟩, Nat.lt_succ_self k, ?_⟩
      simp only [hk']
      rfl
    | succ j =>
    have e0 : (17 : Int) - ((j + 1 : Nat) : Int) = 16 - (j : Int) := by omega
    rw [e0]
    obtain ⟨e, he⟩ : ∃ e : Int, e = 16 - (j : Int) := ⟨_, rfl⟩
    rw [← he]
    have b1 : 1 ≤ e := by omega
    have b2 : e ≤ 16 := by omega
    have hj' : (17 : Int) - (j : Int) = e + 1 := by omega
    simp only [rowR] at hI
    rw [← he] at hI
    have gf1 := find_fired (32855, s, e) F2
    simp only [cV] at gf1
    by_cases hm : ((32855, s, e) : C3) ∈ F2
    · rw [if_pos hm] at gf1 hI
      simp only [fS, fO, fK, List.cons_append, List.nil_append]
      have hc := cellsV_length L
      have hz : zC L = 3 ∨ zC L = 0 := by cases L <;> simp [zC]
      have hll : (L ++ [((32855, s, e) : C3)]).length ≤ G.length := by
        rw [← hI]
        exact Nat.le_trans (row_len _ _ _ _ _) (grid_len _ _ _ _)
      rw [List.length_append, List.length_cons, List.length_nil] at hll
      have hz2 : zC (L ++ [((32855, s, e) : C3)]) = 3 := by cases L <;> rfl
      generalize zC L = z at hz ⊢
      simp (maxSteps := 400000) -dsimp -implicitDefEqProofs (disch := first | exact TrueB.mk rfl | omega) only [go_sem, gf1, hc, hz]
      refine again_mk ⟨(j, L ++ [(32855, s, e)], L.length), ⟨by omega, hI⟩, Nat.lt_succ_self j, ?_⟩
      simp only [hj', hz2, fS, fO, fK, List.cons_append, cellsV, List.map_append, List.map_cons, List.map_nil, List.length_append, List.length_cons, List.length_nil]
      rfl
    · rw [if_neg hm] at gf1 hI
      simp only [fS, fO, fK, List.cons_append, List.nil_append]
      simp (maxSteps := 400000) -dsimp -implicitDefEqProofs (disch := first | exact TrueB.mk rfl | omega) only [go_sem, gf1]
      refine again_mk ⟨(j, L, lim), ⟨by omega, hI⟩, Nat.lt_succ_self j, ?_⟩
      simp only [hj']
      rfl
  · simp only at hI
    subst hI
    cases L with
    | nil => exact absurd rfl hne
    | cons c L =>
      simp only [fS, fO]
      simp (maxSteps := 400000) -dsimp -implicitDefEqProofs (disch := first | exact TrueB.mk rfl | omega) only [go_sem]
      have ha := allScalar_cells (c :: L)
      first | exact end_rowC rfl rfl (cellsV_length (c :: L)).symm ha | done

/-- Where one request to end may be sent. -/
def reach1 : List C3 := [
  (49185, 0, 1), (49185, 0, 3), (49185, 0, 4), (49185, 1, 1), (49185, 1, 3), (49185, 1, 4), (49185, 2, 2), (49185, 2, 3), (49185, 2, 4), (49185, 2, 7), (49185, 2, 8), (49185, 2, 9),
  (49185, 2, 10), (49185, 2, 11), (49185, 2, 12), (49185, 2, 13), (49185, 2, 14), (49185, 2, 15), (49185, 2, 16), (49185, 3, 2), (49185, 3, 3), (49185, 3, 4), (49185, 3, 7), (49185, 3, 8),
  (49185, 3, 9), (49185, 3, 10), (49185, 3, 11), (49185, 3, 12), (49185, 3, 13), (49185, 3, 14), (49185, 3, 15), (49185, 3, 16), (49185, 4, 2), (49185, 4, 3), (49185, 4, 4), (49185, 4, 6),
  (49185, 4, 7), (49185, 4, 8), (49185, 4, 9), (49185, 4, 10), (49185, 4, 11), (49185, 4, 12), (49185, 4, 13), (49185, 4, 14), (49185, 4, 15), (49185, 4, 16), (49185, 5, 2), (49185, 5, 3),
  (49185, 5, 4), (49185, 5, 6), (49185, 5, 7), (49185, 5, 8), (49185, 5, 9), (49185, 5, 10), (49185, 5, 11), (49185, 5, 12), (49185, 5, 13), (49185, 5, 14), (49185, 5, 15), (49185, 5, 16),
  (49185, 6, 2), (49185, 6, 3), (49185, 6, 4), (49185, 6, 5), (49185, 6, 6), (49185, 6, 7), (49185, 6, 8), (49185, 6, 9), (49185, 6, 10), (49185, 6, 11), (49185, 6, 12), (49185, 6, 13),
  (49185, 6, 14), (49185, 6, 15), (49185, 6, 16), (49185, 7, 2), (49185, 7, 3), (49185, 7, 4), (49185, 7, 5), (49185, 7, 7), (49185, 7, 8), (49185, 7, 9), (49185, 7, 10), (49185, 7, 11),
  (49185, 7, 12), (49185, 7, 13), (49185, 7, 14), (49185, 7, 15), (49185, 7, 16), (49185, 8, 2), (49185, 8, 3), (49185, 8, 4), (49185, 8, 5), (49185, 8, 6), (49185, 8, 7), (49185, 8, 8),
  (49185, 8, 9), (49185, 8, 10), (49185, 8, 11), (49185, 8, 12), (49185, 8, 13), (49185, 8, 14), (49185, 8, 15), (49185, 8, 16), (49185, 9, 2), (49185, 9, 3), (49185, 9, 4), (49185, 9, 7),
  (49185, 9, 8), (49185, 9, 9), (49185, 9, 10), (49185, 9, 11), (49185, 9, 12), (49185, 9, 13), (49185, 9, 14), (49185, 9, 15), (49185, 9, 16), (32801, 0, 1), (32801, 0, 3), (32801, 0, 4),
  (32801, 1, 1), (32801, 1, 3), (32801, 1, 4), (32801, 2, 2), (32801, 2, 3), (32801, 2, 4), (32801, 2, 7), (32801, 2, 8), (32801, 2, 9), (32801, 2, 10), (32801, 2, 11), (32801, 2, 12),
  (32801, 2, 13), (32801, 2, 14), (32801, 2, 15), (32801, 3, 2), (32801, 3, 3), (32801, 3, 4), (32801, 3, 7), (32801, 3, 8), (32801, 3, 9), (32801, 3, 10), (32801, 3, 11), (32801, 3, 12),
  (32801, 3, 13), (32801, 3, 14), (32801, 3, 15), (32801, 4, 2), (32801, 4, 3), (32801, 4, 4), (32801, 4, 6), (32801, 4, 7), (32801, 4, 8), (32801, 4, 9), (32801, 4, 10), (32801, 4, 11),
  (32801, 4, 12), (32801, 4, 13), (32801, 4, 14), (32801, 4, 15), (32801, 5, 2), (32801, 5, 3), (32801, 5, 4), (32801, 5, 6), (32801, 5, 7), (32801, 5, 8), (32801, 5, 9), (32801, 5, 10),
  (32801, 5, 11), (32801, 5, 12), (32801, 5, 13), (32801, 5, 14), (32801, 5, 15), (32801, 6, 2), (32801, 6, 3), (32801, 6, 4), (32801, 6, 5), (32801, 6, 6), (32801, 6, 7), (32801, 6, 8),
  (32801, 6, 9), (32801, 6, 10), (32801, 6, 11), (32801, 6, 12), (32801, 6, 13), (32801, 6, 14), (32801, 6, 15), (32801, 7, 2), (32801, 7, 3), (32801, 7, 4), (32801, 7, 5), (32801, 7, 7),
  (32801, 7, 8), (32801, 7, 9), (32801, 7, 10), (32801, 7, 11), (32801, 7, 12), (32801, 7, 13), (32801, 7, 14), (32801, 7, 15), (32801, 8, 2), (32801, 8, 3), (32801, 8, 4), (32801, 8, 5),
  (32801, 8, 6), (32801, 8, 7), (32801, 8, 8), (32801, 8, 9), (32801, 8, 10), (32801, 8, 11), (32801, 8, 12), (32801, 8, 13), (32801, 8, 14), (32801, 8, 15), (32801, 9, 2), (32801, 9, 3),
  (32801, 9, 4), (32801, 9, 7), (32801, 9, 8), (32801, 9, 9), (32801, 9, 10), (32801, 9, 11), (32801, 9, 12), (32801, 9, 13), (32801, 9, 14), (32801, 9, 15), (32855, 0, 1), (32855, 0, 3),
  (32855, 0, 4), (32855, 1, 1), (32855, 1, 3), (32855, 1, 4), (32855, 2, 2), (32855, 2, 3), (32855, 2, 4), (32855, 2, 7), (32855, 2, 8), (32855, 2, 9), (32855, 2, 10), (32855, 2, 11),
  (32855, 2, 12), (32855, 2, 13), (32855, 2, 14), (32855, 2, 15), (32855, 3, 2), (32855, 3, 3), (32855, 3, 4), (32855, 3, 7), (32855, 3, 8), (32855, 3, 9), (32855, 3, 10), (32855, 3, 11),
  (32855, 3, 12), (32855, 3, 13), (32855, 3, 14), (32855, 3, 15), (32855, 4, 2), (32855, 4, 3), (32855, 4, 4), (32855, 4, 6), (32855, 4, 7), (32855, 4, 8), (32855, 4, 9), (32855, 4, 10),
  (32855, 4, 11), (32855, 4, 12), (32855, 4, 13), (32855, 4, 14), (32855, 4, 15), (32855, 5, 2), (32855, 5, 3), (32855, 5, 4), (32855, 5, 6), (32855, 5, 7), (32855, 5, 8), (32855, 5, 9),
  (32855, 5, 10), (32855, 5, 11), (32855, 5, 12), (32855, 5, 13), (32855, 5, 14), (32855, 5, 15), (32855, 6, 2), (32855, 6, 3), (32855, 6, 4), (32855, 6, 5), (32855, 6, 6), (32855, 6, 7),
  (32855, 6, 8), (32855, 6, 9), (32855, 6, 10), (32855, 6, 11), (32855, 6, 12), (32855, 6, 13), (32855, 6, 14), (32855, 6, 15), (32855, 7, 2), (32855, 7, 3), (32855, 7, 4), (32855, 7, 5),
  (32855, 7, 7), (32855, 7, 8), (32855, 7, 9), (32855, 7, 10), (32855, 7, 11), (32855, 7, 12), (32855, 7, 13), (32855, 7, 14), (32855, 7, 15), (32855, 8, 2), (32855, 8, 3), (32855, 8, 4),
  (32855, 8, 5), (32855, 8, 6), (32855, 8, 7), (32855, 8, 8), (32855, 8, 9), (32855, 8, 10), (32855, 8, 11), (32855, 8, 12), (32855, 8, 13), (32855, 8, 14), (32855, 8, 15), (32855, 9, 2),
  (32855, 9, 3), (32855, 9, 4), (32855, 9, 7), (32855, 9, 8), (32855, 9, 9), (32855, 9, 10), (32855, 9, 11), (32855, 9, 12), (32855, 9, 13), (32855, 9, 14), (32855, 9, 15)]
/-- Where more may be. -/
def reach2 : List C3 := [
  (49185, 0, 1), (49185, 0, 3), (49185, 0, 4), (49185, 1, 1), (49185, 1, 3), (49185, 1, 4), (49185, 2, 2), (49185, 2, 3), (49185, 2, 4), (49185, 2, 7), (49185, 2, 8), (49185, 2, 9),
  (49185, 2, 10), (49185, 2, 11), (49185, 2, 12), (49185, 2, 13), (49185, 2, 14), (49185, 2, 15), (49185, 2, 16), (49185, 3, 2), (49185, 3, 3), (49185, 3, 4), (49185, 3, 7), (49185, 3, 8),
  (49185, 3, 9), (49185, 3, 10), (49185, 3, 11), (49185, 3, 12), (49185, 3, 13), (49185, 3, 14), (49185, 3, 15), (49185, 3, 16), (49185, 4, 2), (49185, 4, 3), (49185, 4, 4), (49185, 4, 5),
  (49185, 4, 6), (49185, 4, 7), (49185, 4, 8), (49185, 4, 9), (49185, 4, 10), (49185, 4, 11), (49185, 4, 12), (49185, 4, 13), (49185, 4, 14), (49185, 4, 15), (49185, 4, 16), (49185, 5, 2),
  (49185, 5, 3), (49185, 5, 4), (49185, 5, 5), (49185, 5, 6), (49185, 5, 7), (49185, 5, 8), (49185, 5, 9), (49185, 5, 10), (49185, 5, 11), (49185, 5, 12), (49185, 5, 13), (49185, 5, 14),
  (49185, 5, 15), (49185, 5, 16), (49185, 6, 2), (49185, 6, 3), (49185, 6, 4), (49185, 6, 5), (49185, 6, 6), (49185, 6, 7), (49185, 6, 8), (49185, 6, 9), (49185, 6, 10), (49185, 6, 11),
  (49185, 6, 12), (49185, 6, 13), (49185, 6, 14), (49185, 6, 15), (49185, 6, 16), (49185, 7, 2), (49185, 7, 3), (49185, 7, 4), (49185, 7, 5), (49185, 7, 7), (49185, 7, 8), (49185, 7, 9),
  (49185, 7, 10), (49185, 7, 11), (49185, 7, 12), (49185, 7, 13), (49185, 7, 14), (49185, 7, 15), (49185, 7, 16), (49185, 8, 2), (49185, 8, 3), (49185, 8, 4), (49185, 8, 5), (49185, 8, 6),
  (49185, 8, 7), (49185, 8, 8), (49185, 8, 9), (49185, 8, 10), (49185, 8, 11), (49185, 8, 12), (49185, 8, 13), (49185, 8, 14), (49185, 8, 15), (49185, 8, 16), (49185, 9, 2), (49185, 9, 3),
  (49185, 9, 4), (49185, 9, 7), (49185, 9, 8), (49185, 9, 9), (49185, 9, 10), (49185, 9, 11), (49185, 9, 12), (49185, 9, 13), (49185, 9, 14), (49185, 9, 15), (49185, 9, 16), (32801, 0, 1),
  (32801, 0, 3), (32801, 0, 4), (32801, 1, 1), (32801, 1, 3), (32801, 1, 4), (32801, 2, 2), (32801, 2, 3), (32801, 2, 4), (32801, 2, 7), (32801, 2, 8), (32801, 2, 9), (32801, 2, 10),
  (32801, 2, 11), (32801, 2, 12), (32801, 2, 13), (32801, 2, 14), (32801, 2, 15), (32801, 3, 2), (32801, 3, 3), (32801, 3, 4), (32801, 3, 7), (32801, 3, 8), (32801, 3, 9), (32801, 3, 10),
  (32801, 3, 11), (32801, 3, 12), (32801, 3, 13), (32801, 3, 14), (32801, 3, 15), (32801, 4, 2), (32801, 4, 3), (32801, 4, 4), (32801, 4, 5), (32801, 4, 6), (32801, 4, 7), (32801, 4, 8),
  (32801, 4, 9), (32801, 4, 10), (32801, 4, 11), (32801, 4, 12), (32801, 4, 13), (32801, 4, 14), (32801, 4, 15), (32801, 5, 2), (32801, 5, 3), (32801, 5, 4), (32801, 5, 5), (32801, 5, 6),
  (32801, 5, 7), (32801, 5, 8), (32801, 5, 9), (32801, 5, 10), (32801, 5, 11), (32801, 5, 12), (32801, 5, 13), (32801, 5, 14), (32801, 5, 15), (32801, 6, 2), (32801, 6, 3), (32801, 6, 4),
  (32801, 6, 5), (32801, 6, 6), (32801, 6, 7), (32801, 6, 8), (32801, 6, 9), (32801, 6, 10), (32801, 6, 11), (32801, 6, 12), (32801, 6, 13), (32801, 6, 14), (32801, 6, 15), (32801, 7, 2),
  (32801, 7, 3), (32801, 7, 4), (32801, 7, 5), (32801, 7, 7), (32801, 7, 8), (32801, 7, 9), (32801, 7, 10), (32801, 7, 11), (32801, 7, 12), (32801, 7, 13), (32801, 7, 14), (32801, 7, 15),
  (32801, 8, 2), (32801, 8, 3), (32801, 8, 4), (32801, 8, 5), (32801, 8, 6), (32801, 8, 7), (32801, 8, 8), (32801, 8, 9), (32801, 8, 10), (32801, 8, 11), (32801, 8, 12), (32801, 8, 13),
  (32801, 8, 14), (32801, 8, 15), (32801, 9, 2), (32801, 9, 3), (32801, 9, 4), (32801, 9, 7), (32801, 9, 8), (32801, 9, 9), (32801, 9, 10), (32801, 9, 11), (32801, 9, 12), (32801, 9, 13),
  (32801, 9, 14), (32801, 9, 15), (32855, 0, 1), (32855, 0, 3), (32855, 0, 4), (32855, 1, 1), (32855, 1, 3), (32855, 1, 4), (32855, 2, 2), (32855, 2, 3), (32855, 2, 4), (32855, 2, 7),
  (32855, 2, 8), (32855, 2, 9), (32855, 2, 10), (32855, 2, 11), (32855, 2, 12), (32855, 2, 13), (32855, 2, 14), (32855, 2, 15), (32855, 3, 2), (32855, 3, 3), (32855, 3, 4), (32855, 3, 7),
  (32855, 3, 8), (32855, 3, 9), (32855, 3, 10), (32855, 3, 11), (32855, 3, 12), (32855, 3, 13), (32855, 3, 14), (32855, 3, 15), (32855, 4, 2), (32855, 4, 3), (32855, 4, 4), (32855, 4, 5),
  (32855, 4, 6), (32855, 4, 7), (32855, 4, 8), (32855, 4, 9), (32855, 4, 10), (32855, 4, 11), (32855, 4, 12), (32855, 4, 13), (32855, 4, 14), (32855, 4, 15), (32855, 5, 2), (32855, 5, 3),
  (32855, 5, 4), (32855, 5, 5), (32855, 5, 6), (32855, 5, 7), (32855, 5, 8), (32855, 5, 9), (32855, 5, 10), (32855, 5, 11), (32855, 5, 12), (32855, 5, 13), (32855, 5, 14), (32855, 5, 15),
  (32855, 6, 2), (32855, 6, 3), (32855, 6, 4), (32855, 6, 5), (32855, 6, 6), (32855, 6, 7), (32855, 6, 8), (32855, 6, 9), (32855, 6, 10), (32855, 6, 11), (32855, 6, 12), (32855, 6, 13),
  (32855, 6, 14), (32855, 6, 15), (32855, 7, 2), (32855, 7, 3), (32855, 7, 4), (32855, 7, 5), (32855, 7, 7), (32855, 7, 8), (32855, 7, 9), (32855, 7, 10), (32855, 7, 11), (32855, 7, 12),
  (32855, 7, 13), (32855, 7, 14), (32855, 7, 15), (32855, 8, 2), (32855, 8, 3), (32855, 8, 4), (32855, 8, 5), (32855, 8, 6), (32855, 8, 7), (32855, 8, 8), (32855, 8, 9), (32855, 8, 10),
  (32855, 8, 11), (32855, 8, 12), (32855, 8, 13), (32855, 8, 14), (32855, 8, 15), (32855, 9, 2), (32855, 9, 3), (32855, 9, 4), (32855, 9, 7), (32855, 9, 8), (32855, 9, 9), (32855, 9, 10),
  (32855, 9, 11), (32855, 9, 12), (32855, 9, 13), (32855, 9, 14), (32855, 9, 15)]
def reachL (tm : Int) : List C3 := if tm = 1 then reach1 else reach2
abbrev I0 : S3 := ([], [(0, 0, false)], [(0, 0, false)])
def reachB (cf tm : Int) (G : List C3) : Bool := match outs cf tm 0 49185 400 I0 with
  | none => false
  | some F0 => match outs cf tm 1 32801 400 I0 with
    | none => false
    | some F1 => match outs cf tm 2 32855 400 I0 with
      | none => false
      | some F2 => decide (gridR F2 32855 10 (gridR F1 32801 10 (gridR F0 49185 10 [])) = G)
theorem reach_of {cf tm : Int} {G : List C3} (hb : reachB cf tm G = true) (h1 : 1 ≤ cf ∧ cf ≤ 255) (h2 : 1 ≤ tm ∧ tm ≤ 255) (hne : G ≠ []) (hl : G.length ≤ 100000) (m : Bool) :
    Runs Tryd.prog env 19 [.pure m (confV cf tm 1)] [] (.row 0 G.length) [(0, .row true 3 0 (cellsV G))] := by
  unfold reachB at hb
  split at hb
  · cases hb
  · rename_i F0 e0
    split at hb
    · cases hb
    · rename_i F1 e1
      split at hb
      · cases hb
      · rename_i F2 e2
        exact reach_any cf tm h1 h2 400 F0 F1 F2 G e0 e1 e2 (of_decide_eq_true hb) hne hl m

theorem r_2_2 : reachB 2 2 reach2 = true := by kernel_rfl
theorem reach_22 (m : Bool) : Runs Tryd.prog env 19 [.pure m (confV 2 2 1)] [] (.row 0 341) [(0, .row true 3 0 (cellsV reach2))] :=
  reach_of r_2_2 (by decide) (by decide) (by decide) (by decide) m

def hkR : CF := fun g a S => if g = 19 then match a, S with
    | [.pure m c], [] => if isConf 2 2 c then some (.row 0 341, [(0, .row true 3 0 (cellsV reach2))]) else none
    | _, _ => none
  else none
theorem hkR_ok : CfOk Tryd.prog env hkR := by
  intro g a S r h
  unfold hkR at h
  split at h
  · rename_i hg
    subst hg
    split at h
    · rename_i m c
      split at h
      · rename_i hc
        obtain rfl := isConf_eq hc
        cases h
        exact reach_22 m
      · cases h
    · cases h
  · cases h
def hkOr (a b : CF) : CF := fun g x S => match a g x S with
  | some r => some r
  | none => b g x S
theorem hkOr_ok {a b : CF} (ha : CfOk Tryd.prog env a) (hb : CfOk Tryd.prog env b) : CfOk Tryd.prog env (hkOr a b) := by
  intro g x S r h
  unfold hkOr at h
  split at h
  · rename_i hr
    cases h
    exact ha _ _ _ _ hr
  · exact hb _ _ _ _ h
theorem awake_ok : Runs Tryd.prog env 11 [] [] (.pure true (.bool true)) [] := runs_hook (hkOr_ok (hkH_ok (cf := 2) (tm := 2) (by decide) (by decide)) hkR_ok) 400 (by kernel_rfl)

end Go.Proofs.YticdhmcbooabaaaDoor
