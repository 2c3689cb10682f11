/- YtnhbmabikngmpaaF: the law TableReach, over the evaluator. No claim. -/
import Derived.Test.YtnhbmabikngmpaaC
set_option linter.unusedVariables false
set_option linter.unusedSimpArgs false
set_option maxRecDepth 100000
namespace Go.Proofs.Ytnhbmabikngmpaa
open Go Go.Proofs.Ytnhbmabikngmpaa.V

def reachOk (s e : Nat) : Bool := match cellT s e with
  | none => !(decide (2 ≤ s) && decide (7 ≤ e) && decide (e ≤ 16))
  | some (n, l) => decide (n ≤ 9)
theorem reach_cells : ∀ s : Fin 10, ∀ e : Fin 18, reachOk s e = true := by decide +kernel
def evSet (s e : Nat) (seen : List Bool) : List Bool := match cellT s e with
  | some (n, _) => seen.set n true
  | none => seen
def restE (s : Nat) : Nat → List Bool → List Bool
  | 0, seen => seen
  | k + 1, seen => if seen.getD s false = true then restE s k (evSet s (16 - k) seen) else seen
def restS : Nat → List Bool → List Bool
  | 0, seen => seen
  | k + 1, seen => restS k (restE (9 - k) 16 seen)
def restR : Nat → List Bool → List Bool
  | 0, seen => seen
  | k + 1, seen => restR k (restS 10 seen)
def allT : List Bool := [true, true, true, true, true, true, true, true, true, true]
theorem allT_at {n : Nat} (h : n < 10) : allT.getD n false = true := by
  have h2 : n = 0 ∨ n = 1 ∨ n = 2 ∨ n = 3 ∨ n = 4 ∨ n = 5 ∨ n = 6 ∨ n = 7 ∨ n = 8 ∨ n = 9 := by omega
  rcases h2 with rfl | rfl | rfl | rfl | rfl | rfl | rfl | rfl | rfl | rfl <;> rfl
theorem reach_all : restR 10 [true, false, false, false, false, false, false, false, false, false] = allT := by decide +kernel
def cellsB (seen : List Bool) : List SV := [.pure true (.bool (seen.getD 0 false)), .pure true (.bool (seen.getD 1 false)), .pure true (.bool (seen.getD 2 false)), .pure true (.bool (seen.getD 3 false)), .pure true (.bool (seen.getD 4 false)), .pure true (.bool (seen.getD 5 false)), .pure true (.bool (seen.getD 6 false)), .pure true (.bool (seen.getD 7 false)), .pure true (.bool (seen.getD 8 false)), .pure true (.bool (seen.getD 9 false))]
theorem cellsB_length (seen : List Bool) : (cellsB seen).length = 10 := rfl
theorem ten {n : Nat} (h : n < 10) : n = 0 ∨ n = 1 ∨ n = 2 ∨ n = 3 ∨ n = 4 ∨ n = 5 ∨ n = 6 ∨ n = 7 ∨ n = 8 ∨ n = 9 := by omega
theorem cellsB_at (seen : List Bool) {s : Nat} (h : s < 10) : List.take 1 (List.drop s (cellsB seen)) = [SV.pure true (.bool (seen.getD s false))] := by
  rcases ten h with rfl | rfl | rfl | rfl | rfl | rfl | rfl | rfl | rfl | rfl <;> rfl
theorem cellsB_set (seen : List Bool) (hl : seen.length = 10) {n : Nat} (h : n < 10) : (cellsB seen).set n (SV.pure true (.bool true)) = cellsB (seen.set n true) := by
  match seen, hl with
  | [a, b, c, d, e, f, g, k, i, j], _ => rcases ten h with rfl | rfl | rfl | rfl | rfl | rfl | rfl | rfl | rfl | rfl <;> rfl
theorem evSet_length (s e : Nat) (seen : List Bool) : (evSet s e seen).length = seen.length := by
  unfold evSet
  split <;> simp
theorem restE_length (s k : Nat) : ∀ seen : List Bool, (restE s k seen).length = seen.length := by
  induction k with
  | zero => intro seen; rfl
  | succ k ih =>
    intro seen
    unfold restE
    split
    · rw [ih, evSet_length]
    · rfl

set_option maxHeartbeats 16000000 in
theorem tableReach_runs (c : UInt8) : Runs Try.prog env 5 [.pure false (.int .u8 c.toNat)] [] (.pure true (.bool true)) [] := by
  refine Runs.of Try.func5 rfl (by simp [Try.ntmps5]) ?_
  simp (maxSteps := 400000) -dsimp -implicitDefEqProofs (disch := first | exact TrueB.mk rfl | omega) only [go_sem, Nat.reduceMul, Nat.reduceAdd, Nat.reduceLT, Nat.reduceLeDiff, Nat.reducePow, Nat.reduceEqDiff, ↓reduceIte, reduceCtorEq, Int.reduceToNat, Try.ntmps5]
  first | refine wpAct_call0 (awake19_any) rfl rfl rfl rfl rfl rfl rfl rfl ?_ | done
  simp (maxSteps := 400000) -dsimp -implicitDefEqProofs (disch := first | exact TrueB.mk rfl | omega) only [go_sem, Nat.reduceMul, Nat.reduceAdd, Nat.reduceLT, Nat.reduceLeDiff, Nat.reducePow, Nat.reduceEqDiff, ↓reduceIte, reduceCtorEq, Int.reduceToNat]
  refine wpLoop_ind (α := Nat × List Bool)
    (fun a => ⟨[(0, .pure false (.int .u8 c.toNat)), (3, .ptr 848 0), (4, .pure true (.int .i64 a.1))], [(848, .box (cellsB a.2))]⟩)
    (fun a => a.1 ≤ 10 ∧ a.2.length = 10 ∧ restR (10 - a.1) a.2 = allT) (fun a => 10 - a.1) ?_ (0, [true, false, false, false, false, false, false, false, false, false]) ⟨by simp, rfl, reach_all⟩ rfl
  rintro ⟨r, seen⟩ ⟨hr, hl, hs⟩
  simp only at hr hl hs
  simp (maxSteps := 400000) -dsimp -implicitDefEqProofs (disch := first | exact TrueB.mk rfl | omega) only [go_sem, Nat.reduceMul, Nat.reduceAdd, Nat.reduceLT, Nat.reduceLeDiff, Nat.reducePow, Nat.reduceEqDiff, ↓reduceIte, reduceCtorEq, Int.reduceToNat]
  first | refine condK_dec (fun h1 => ?_) (fun h1 => ?_) | refine condK_ndec (fun h1 => ?_) (fun h1 => ?_) | refine condK_beq (fun h1 => ?_) (fun h1 => ?_) | refine condK_bne (fun h1 => ?_) (fun h1 => ?_) | refine condK_nbeq (fun h1 => ?_) (fun h1 => ?_) | refine guardK_dec (fun h1 => ?_) (fun h1 => ?_) | refine guardK_ndec (fun h1 => ?_) (fun h1 => ?_) | refine guardK_beq (fun h1 => ?_) (fun h1 => ?_) | refine guardK_bne (fun h1 => ?_) (fun h1 => ?_) | refine guardK_nbeq (fun h1 => ?_) (fun h1 => ?_) | refine condK_not (fun h1 => ?_) (fun h1 => ?_) | refine guardK_not (fun h1 => ?_) (fun h1 => ?_) | refine condK_bool (fun h1 => ?_) (fun h1 => ?_) | refine guardK_bool (fun h1 => ?_) (fun h1 => ?_) | done
  rotate_left
  · have er : 10 - r = 0 := by omega
    rw [er] at hs
    have hs' : seen = allT := hs
    subst hs'
    have hx := c.toNat_lt
    have wx : IntKind.i64.wrap (c.toNat : Int) = (c.toNat : Int) := by rw [wrap_i64 (by omega) (by omega)]
    have g1 := cellsB_at allT (s := c.toNat % 10) (by omega)
    rw [allT_at (by omega)] at g1
    have g3 : allT.length = 10 := rfl
    simp (maxSteps := 400000) -dsimp -implicitDefEqProofs (disch := first | exact TrueB.mk rfl | omega) only [go_sem, Nat.reduceMul, Nat.reduceAdd, Nat.reduceLT, Nat.reduceLeDiff, Nat.reducePow, Nat.reduceEqDiff, ↓reduceIte, reduceCtorEq, Int.reduceToNat, wx, tmod_nat, g1, cellsB_length, g3]
    first | exact end_bool rfl rfl | done
  obtain ⟨k, hk⟩ : ∃ k, 10 - r = k + 1 := ⟨9 - r, by omega⟩
  rw [hk] at hs
  have hs1 : restR k (restS 10 seen) = allT := hs
  simp (maxSteps := 400000) -dsimp -implicitDefEqProofs (disch := first | exact TrueB.mk rfl | omega) only [go_sem, Nat.reduceMul, Nat.reduceAdd, Nat.reduceLT, Nat.reduceLeDiff, Nat.reducePow, Nat.reduceEqDiff, ↓reduceIte, reduceCtorEq, Int.reduceToNat]
  refine wpLoop_ind (α := Nat × List Bool)
    (fun a => ⟨[(0, .pure false (.int .u8 c.toNat)), (3, .ptr 848 0), (4, .pure true (.int .i64 r)), (5, .pure true (.int .i64 a.1))], [(848, .box (cellsB a.2))]⟩)
    (fun a => a.1 ≤ 10 ∧ a.2.length = 10 ∧ restR k (restS (10 - a.1) a.2) = allT) (fun a => 10 - a.1) ?_ (0, seen) ⟨by simp, hl, hs1⟩ rfl
  rintro ⟨s, seen1⟩ ⟨hs0, hl1, hs2⟩
  simp only at hs0 hl1 hs2
  simp (maxSteps := 400000) -dsimp -implicitDefEqProofs (disch := first | exact TrueB.mk rfl | omega) only [go_sem, Nat.reduceMul, Nat.reduceAdd, Nat.reduceLT, Nat.reduceLeDiff, Nat.reducePow, Nat.reduceEqDiff, ↓reduceIte, reduceCtorEq, Int.reduceToNat]
  first | refine condK_dec (fun h2 => ?_) (fun h2 => ?_) | refine condK_ndec (fun h2 => ?_) (fun h2 => ?_) | refine condK_beq (fun h2 => ?_) (fun h2 => ?_) | refine condK_bne (fun h2 => ?_) (fun h2 => ?_) | refine condK_nbeq (fun h2 => ?_) (fun h2 => ?_) | refine guardK_dec (fun h2 => ?_) (fun h2 => ?_) | refine guardK_ndec (fun h2 => ?_) (fun h2 => ?_) | refine guardK_beq (fun h2 => ?_) (fun h2 => ?_) | refine guardK_bne (fun h2 => ?_) (fun h2 => ?_) | refine guardK_nbeq (fun h2 => ?_) (fun h2 => ?_) | refine condK_not (fun h2 => ?_) (fun h2 => ?_) | refine guardK_not (fun h2 => ?_) (fun h2 => ?_) | refine condK_bool (fun h2 => ?_) (fun h2 => ?_) | refine guardK_bool (fun h2 => ?_) (fun h2 => ?_) | done
  rotate_left
  · have er : 10 - s = 0 := by omega
    rw [er] at hs2
    simp (maxSteps := 400000) -dsimp -implicitDefEqProofs (disch := first | exact TrueB.mk rfl | omega) only [go_sem, Nat.reduceMul, Nat.reduceAdd, Nat.reduceLT, Nat.reduceLeDiff, Nat.reducePow, Nat.reduceEqDiff, ↓reduceIte, reduceCtorEq, Int.reduceToNat]
    first | exact again_mk ⟨(r + 1, seen1), ⟨by show r + 1 ≤ _; omega, hl1, by rw [show 10 - (r + 1) = k by omega]; exact hs2⟩, by show _ - (r + 1) < _ - r; omega, rfl⟩ | done
  obtain ⟨j, hj⟩ : ∃ j, 10 - s = j + 1 := ⟨9 - s, by omega⟩
  rw [hj] at hs2
  have e9 : 9 - j = s := by omega
  have hs3 : restR k (restS j (restE (9 - j) 16 seen1)) = allT := hs2
  rw [e9] at hs3
  simp (maxSteps := 400000) -dsimp -implicitDefEqProofs (disch := first | exact TrueB.mk rfl | omega) only [go_sem, Nat.reduceMul, Nat.reduceAdd, Nat.reduceLT, Nat.reduceLeDiff, Nat.reducePow, Nat.reduceEqDiff, ↓reduceIte, reduceCtorEq, Int.reduceToNat]
  refine wpLoop_ind (α := Nat × List Bool)
    (fun a => ⟨[(0, .pure false (.int .u8 c.toNat)), (3, .ptr 848 0), (4, .pure true (.int .i64 r)), (5, .pure true (.int .i64 s)), (6, .pure true (.int .i64 a.1))], [(848, .box (cellsB a.2))]⟩)
    (fun a => 1 ≤ a.1 ∧ a.1 ≤ 17 ∧ a.2.length = 10 ∧ restR k (restS j (restE s (17 - a.1) a.2)) = allT) (fun a => 17 - a.1) ?_ (1, seen1) ⟨by simp, by simp, hl1, hs3⟩ rfl
  rintro ⟨e, seen2⟩ ⟨he0, he1, hl2, hs4⟩
  simp only at he0 he1 hl2 hs4
  have g1 := cellsB_at seen2 (s := s) (by omega)
  have done_ : ∀ (h : restE s (17 - e) seen2 = seen2), restR k (restS (10 - (s + 1)) seen2) = allT := fun h => by
    rw [h] at hs4
    rw [show 10 - (s + 1) = j by omega]
    exact hs4
  rcases Classical.em (e ≤ 16) with h3 | h3
  rotate_left
  · have h4 : restE s (17 - e) seen2 = seen2 := by rw [show 17 - e = 0 by omega]; rfl
    simp (maxSteps := 400000) -dsimp -implicitDefEqProofs (disch := first | exact TrueB.mk rfl | omega) only [go_sem, Nat.reduceMul, Nat.reduceAdd, Nat.reduceLT, Nat.reduceLeDiff, Nat.reducePow, Nat.reduceEqDiff, ↓reduceIte, reduceCtorEq, Int.reduceToNat]
    first | exact again_mk ⟨(s + 1, seen2), ⟨by show s + 1 ≤ _; omega, hl2, done_ h4⟩, by show _ - (s + 1) < _ - s; omega, rfl⟩ | done
  obtain ⟨i, hi⟩ : ∃ i, 17 - e = i + 1 := ⟨16 - e, by omega⟩
  have e16 : 16 - i = e := by omega
  cases hb : seen2.getD s false with
  | false =>
    have h4 : restE s (17 - e) seen2 = seen2 := by rw [hi]; unfold restE; rw [hb]; rfl
    rw [hb] at g1
    simp (maxSteps := 400000) -dsimp -implicitDefEqProofs (disch := first | exact TrueB.mk rfl | omega) only [go_sem, Nat.reduceMul, Nat.reduceAdd, Nat.reduceLT, Nat.reduceLeDiff, Nat.reducePow, Nat.reduceEqDiff, ↓reduceIte, reduceCtorEq, Int.reduceToNat, g1, cellsB_length]
    first | exact again_mk ⟨(s + 1, seen2), ⟨by show s + 1 ≤ _; omega, hl2, done_ h4⟩, by show _ - (s + 1) < _ - s; omega, rfl⟩ | done
  | true =>
    rw [hb] at g1
    have h4 : restE s (17 - e) seen2 = restE s i (evSet s e seen2) := by rw [hi]; show (if seen2.getD s false = true then restE s i (evSet s (16 - i) seen2) else seen2) = _; rw [hb, e16]; rfl
    rw [h4] at hs4
    have d := fun m m' => lookC s e (by omega) (by omega) m m'
    have hev : evSet s e seen2 = match cellT s e with
      | some (n, _) => seen2.set n true
      | none => seen2 := rfl
    have hw := reach_cells ⟨s, by omega⟩ ⟨e, by omega⟩
    unfold reachOk at hw
    simp only at hw
    have n1 : 17 - (e + 1) = i := by omega
    simp (maxSteps := 400000) -dsimp -implicitDefEqProofs (disch := first | exact TrueB.mk rfl | omega) only [go_sem, Nat.reduceMul, Nat.reduceAdd, Nat.reduceLT, Nat.reduceLeDiff, Nat.reducePow, Nat.reduceEqDiff, ↓reduceIte, reduceCtorEq, Int.reduceToNat, g1, cellsB_length]
    cases hD : cellT s e with
    | none =>
      rw [hD] at d hev
      unfold lookR at d
      first | refine wpAct_call0 (d _ _) rfl rfl rfl rfl rfl rfl rfl rfl ?_ | done
      simp (maxSteps := 400000) -dsimp -implicitDefEqProofs (disch := first | exact TrueB.mk rfl | omega) only [go_sem, Nat.reduceMul, Nat.reduceAdd, Nat.reduceLT, Nat.reduceLeDiff, Nat.reducePow, Nat.reduceEqDiff, ↓reduceIte, reduceCtorEq, Int.reduceToNat]
      rw [hev] at hs4
      first | exact again_mk ⟨(e + 1, seen2), ⟨by show 1 ≤ e + 1; omega, by show e + 1 ≤ _; omega, hl2, by rw [n1]; exact hs4⟩, by show _ - (e + 1) < _ - e; omega, rfl⟩ | done
    | some p =>
      obtain ⟨n, l⟩ := p
      rw [hD] at d hev hw
      have hn : n ≤ 9 := by simpa using hw
      unfold lookR at d
      first | refine wpAct_call0 (d _ _) rfl rfl rfl rfl rfl rfl rfl rfl ?_ | done
      have g5 := cellsB_set seen2 hl2 (n := n) (by omega)
      simp (maxSteps := 400000) -dsimp -implicitDefEqProofs (disch := first | exact TrueB.mk rfl | omega) only [go_sem, Nat.reduceMul, Nat.reduceAdd, Nat.reduceLT, Nat.reduceLeDiff, Nat.reducePow, Nat.reduceEqDiff, ↓reduceIte, reduceCtorEq, Int.reduceToNat, cellsB_length, g5]
      rw [hev] at hs4
      refine again_mk ⟨(e + 1, seen2.set n true), ⟨by show 1 ≤ e + 1; omega, by show e + 1 ≤ _; omega, by rw [List.length_set]; exact hl2, by rw [n1]; exact hs4⟩, by show _ - (e + 1) < _ - e; omega, ?_⟩
      rfl
end Go.Proofs.Ytnhbmabikngmpaa
