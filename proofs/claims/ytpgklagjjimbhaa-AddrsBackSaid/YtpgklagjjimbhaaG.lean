/- YtpgklagjjimbhaaG: lists within lists; Types that are there twice. No claim. -/
import Derived.Test.YtpgklagjjimbhaaD
set_option linter.unusedVariables false
set_option linter.unusedSimpArgs false
set_option maxRecDepth 100000
namespace Go.Proofs.Ytpgklagjjimbhaa
open Go Go.Proofs.Ytpgklagjjimbhaa.V

/-- Is a list within another, in its order? -/
def within (a b : List Opt) : Bool := a.isSublist b
theorem within_nil (b : List Opt) : within [] b = true := by unfold within; rw [List.isSublist]
theorem within_end (a : List Opt) : within a [] = decide ((a.length : Int) = 0) := by
  unfold within
  cases a with
  | nil => simp [List.isSublist]
  | cons o r =>
    have h : (o :: r).isSublist ([] : List Opt) = false := rfl
    rw [h]
    symm
    apply decide_eq_false
    simp only [List.length_cons]
    omega
theorem within_eq {a b : List Opt} {x y : Opt} (h : x = y) : within (x :: a) (y :: b) = within a b := by
  unfold within
  rw [List.isSublist, if_pos (by simp [h])]
theorem within_ne {a b : List Opt} {x y : Opt} (h : x ≠ y) : within (x :: a) (y :: b) = within (x :: a) b := by
  unfold within
  rw [List.isSublist, if_neg (by simpa using h)]
theorem drop_at {α : Type} {l : List α} {i : Nat} (h : i < l.length) : l.drop i = l[i] :: l.drop (i + 1) := List.drop_eq_getElem_cons h

set_option maxHeartbeats 8000000 in
theorem optWithin_any (a b : List Opt) (ha : a.length ≤ 100000) (hb : b.length ≤ 100000) (m m' : Bool) : Runs Try.prog env 37 [.pure m (.sl (optsV a)), .pure m' (.sl (optsV b))] [] (.pure true (.bool (within a b))) [] := by
  refine Runs.of Try.func37 rfl (by simp [Try.ntmps37]) ?_
  generalize hw : within a b = w
  simp (maxSteps := 400000) -dsimp -implicitDefEqProofs (disch := first | exact TrueB.mk rfl | omega) only [go_sem, Nat.reduceMul, Nat.reduceAdd, Nat.reduceLT, Nat.reduceLeDiff, Nat.reducePow, Nat.reduceEqDiff, ↓reduceIte, reduceCtorEq, Int.reduceToNat, Try.ntmps37]
  refine wpLoop_ind (α := Nat × List Opt)
    (fun a => ⟨[(0, .pure m (.sl (optsV a.2))), (7, .pure m' (.sl (optsV b))), (8, .pure true (.int .i64 b.length)), (9, .pure true (.int .i64 a.1))], []⟩)
    (fun a => a.1 ≤ b.length ∧ a.2.length ≤ 100000 ∧ within a.2 (b.drop a.1) = w) (fun a => b.length - a.1) ?_ (0, a) ⟨by simp, ha, by simpa using hw⟩ rfl
  rintro ⟨i, c⟩ ⟨hi, hc, hs⟩
  simp only at hi hc hs
  simp (maxSteps := 400000) -dsimp -implicitDefEqProofs (disch := first | exact TrueB.mk rfl | omega) only [go_sem, Nat.reduceMul, Nat.reduceAdd, Nat.reduceLT, Nat.reduceLeDiff, Nat.reducePow, Nat.reduceEqDiff, ↓reduceIte, reduceCtorEq, Int.reduceToNat]
  first | refine condK_dec (fun h1 => ?_) (fun h1 => ?_) | refine condK_ndec (fun h1 => ?_) (fun h1 => ?_) | refine condK_beq (fun h1 => ?_) (fun h1 => ?_) | refine condK_bne (fun h1 => ?_) (fun h1 => ?_) | refine condK_nbeq (fun h1 => ?_) (fun h1 => ?_) | refine guardK_dec (fun h1 => ?_) (fun h1 => ?_) | refine guardK_ndec (fun h1 => ?_) (fun h1 => ?_) | refine guardK_beq (fun h1 => ?_) (fun h1 => ?_) | refine guardK_bne (fun h1 => ?_) (fun h1 => ?_) | refine guardK_nbeq (fun h1 => ?_) (fun h1 => ?_) | refine condK_not (fun h1 => ?_) (fun h1 => ?_) | refine guardK_not (fun h1 => ?_) (fun h1 => ?_) | refine condK_bool (fun h1 => ?_) (fun h1 => ?_) | refine guardK_bool (fun h1 => ?_) (fun h1 => ?_) | done
  · have g1 := opts_at (l := b) (i := i) (by omega)
    rw [drop_at (by omega)] at hs
    cases c with
    | nil =>
      rw [within_nil] at hs
      simp (maxSteps := 400000) -dsimp -implicitDefEqProofs (disch := first | exact TrueB.mk rfl | omega) only [go_sem, Nat.reduceMul, Nat.reduceAdd, Nat.reduceLT, Nat.reduceLeDiff, Nat.reducePow, Nat.reduceEqDiff, ↓reduceIte, reduceCtorEq, Int.reduceToNat, g1, List.length_nil]
      first | exact again_mk ⟨(i + 1, []), ⟨by show i + 1 ≤ _; omega, by simp, by rw [within_nil]; exact hs⟩, by show _ - (i + 1) < _ - i; omega, rfl⟩ | done
    | cons x r =>
      have g2 : (optsV (x :: r))[0]? = some (.agg [.int .i64 x.1, .sl (bytesOf x.2)]) := rfl
      have g3 : (optsV (x :: r)).length = r.length + 1 := by rw [optsV_length]; rfl
      have g4 : ((optsV (x :: r)).drop 1).take (r.length + 1 - 1) = optsV r := by
        rw [optsV_drop]
        show (optsV r).take _ = _
        rw [optsV_take, List.take_of_length_le (by omega)]
      generalize hX : optsV (x :: r) = X at *
      simp only [List.length_cons] at hc
      have hw2 : allW 2 X = true := by rw [← hX]; exact allW_optsV _
      simp (maxSteps := 400000) -dsimp -implicitDefEqProofs (disch := first | exact TrueB.mk rfl | omega) only [go_sem, Nat.reduceMul, Nat.reduceAdd, Nat.reduceLT, Nat.reduceLeDiff, Nat.reducePow, Nat.reduceEqDiff, ↓reduceIte, reduceCtorEq, Int.reduceToNat, g1, g2, g3]
      first | refine wpAct_call0 (alike_any x b[i] _ _) rfl rfl rfl rfl rfl rfl rfl rfl ?_ | done
      simp (maxSteps := 400000) -dsimp -implicitDefEqProofs (disch := first | exact TrueB.mk rfl | omega) only [go_sem, Nat.reduceMul, Nat.reduceAdd, Nat.reduceLT, Nat.reduceLeDiff, Nat.reducePow, Nat.reduceEqDiff, ↓reduceIte, reduceCtorEq, Int.reduceToNat]
      first | refine condK_dec (fun h2 => ?_) (fun h2 => ?_) | refine condK_ndec (fun h2 => ?_) (fun h2 => ?_) | refine condK_beq (fun h2 => ?_) (fun h2 => ?_) | refine condK_bne (fun h2 => ?_) (fun h2 => ?_) | refine condK_nbeq (fun h2 => ?_) (fun h2 => ?_) | refine guardK_dec (fun h2 => ?_) (fun h2 => ?_) | refine guardK_ndec (fun h2 => ?_) (fun h2 => ?_) | refine guardK_beq (fun h2 => ?_) (fun h2 => ?_) | refine guardK_bne (fun h2 => ?_) (fun h2 => ?_) | refine guardK_nbeq (fun h2 => ?_) (fun h2 => ?_) | refine condK_not (fun h2 => ?_) (fun h2 => ?_) | refine guardK_not (fun h2 => ?_) (fun h2 => ?_) | refine condK_bool (fun h2 => ?_) (fun h2 => ?_) | refine guardK_bool (fun h2 => ?_) (fun h2 => ?_) | done
      · subst h2
        rw [within_eq rfl] at hs
        simp (maxSteps := 400000) -dsimp -implicitDefEqProofs (disch := first | exact TrueB.mk rfl | omega) only [go_sem, Nat.reduceMul, Nat.reduceAdd, Nat.reduceLT, Nat.reduceLeDiff, Nat.reducePow, Nat.reduceEqDiff, ↓reduceIte, reduceCtorEq, Int.reduceToNat, g3, g4, hw2]
        first | exact again_mk ⟨(i + 1, r), ⟨by show i + 1 ≤ _; omega, by show r.length ≤ _; omega, hs⟩, by show _ - (i + 1) < _ - i; omega, rfl⟩ | done
      · rw [within_ne h2] at hs
        simp (maxSteps := 400000) -dsimp -implicitDefEqProofs (disch := first | exact TrueB.mk rfl | omega) only [go_sem, Nat.reduceMul, Nat.reduceAdd, Nat.reduceLT, Nat.reduceLeDiff, Nat.reducePow, Nat.reduceEqDiff, ↓reduceIte, reduceCtorEq, Int.reduceToNat]
        refine again_mk ⟨(i + 1, x :: r), ⟨by show i + 1 ≤ _; omega, by show r.length + 1 ≤ _; omega, hs⟩, by show _ - (i + 1) < _ - i; omega, ?_⟩
        rw [← hX]
        rfl
  · simp (maxSteps := 400000) -dsimp -implicitDefEqProofs (disch := first | exact TrueB.mk rfl | omega) only [go_sem, Nat.reduceMul, Nat.reduceAdd, Nat.reduceLT, Nat.reduceLeDiff, Nat.reducePow, Nat.reduceEqDiff, ↓reduceIte, reduceCtorEq, Int.reduceToNat]
    rw [List.drop_eq_nil_of_le (by omega), within_end] at hs
    first | exact end_bool rfl (by rw [← hs]; rfl) | done

set_option maxHeartbeats 8000000 in
theorem refWithin_any (a b : List Opt) (ha : a.length ≤ 100000) (hb : b.length ≤ 100000) (m m' : Bool) : Runs Try.prog env 38 [.pure m (.sl (optsV a)), .pure m' (.sl (optsV b))] [] (.pure true (.bool (within a b))) [] := by
  refine Runs.of Try.func38 rfl (by simp [Try.ntmps38]) ?_
  generalize hw : within a b = w
  simp (maxSteps := 400000) -dsimp -implicitDefEqProofs (disch := first | exact TrueB.mk rfl | omega) only [go_sem, Nat.reduceMul, Nat.reduceAdd, Nat.reduceLT, Nat.reduceLeDiff, Nat.reducePow, Nat.reduceEqDiff, ↓reduceIte, reduceCtorEq, Int.reduceToNat, Try.ntmps38]
  refine wpLoop_ind (α := Nat × Nat)
    (fun q => ⟨[(0, .pure m (.sl (optsV a))), (1, .pure m' (.sl (optsV b))), (5, .pure true (.int .i64 q.2)), (6, .pure true (.int .i64 q.1))], []⟩)
    (fun q => q.1 ≤ a.length ∧ q.2 ≤ b.length ∧ within (a.drop q.1) (b.drop q.2) = w) (fun q => a.length - q.1) ?_ (0, 0) ⟨by simp, by simp, by simpa using hw⟩ rfl
  rintro ⟨i, k⟩ ⟨hi, hk, hs⟩
  simp only at hi hk hs
  simp (maxSteps := 400000) -dsimp -implicitDefEqProofs (disch := first | exact TrueB.mk rfl | omega) only [go_sem, Nat.reduceMul, Nat.reduceAdd, Nat.reduceLT, Nat.reduceLeDiff, Nat.reducePow, Nat.reduceEqDiff, ↓reduceIte, reduceCtorEq, Int.reduceToNat]
  first | refine condK_dec (fun h1 => ?_) (fun h1 => ?_) | refine condK_ndec (fun h1 => ?_) (fun h1 => ?_) | refine condK_beq (fun h1 => ?_) (fun h1 => ?_) | refine condK_bne (fun h1 => ?_) (fun h1 => ?_) | refine condK_nbeq (fun h1 => ?_) (fun h1 => ?_) | refine guardK_dec (fun h1 => ?_) (fun h1 => ?_) | refine guardK_ndec (fun h1 => ?_) (fun h1 => ?_) | refine guardK_beq (fun h1 => ?_) (fun h1 => ?_) | refine guardK_bne (fun h1 => ?_) (fun h1 => ?_) | refine guardK_nbeq (fun h1 => ?_) (fun h1 => ?_) | refine condK_not (fun h1 => ?_) (fun h1 => ?_) | refine guardK_not (fun h1 => ?_) (fun h1 => ?_) | refine condK_bool (fun h1 => ?_) (fun h1 => ?_) | refine guardK_bool (fun h1 => ?_) (fun h1 => ?_) | done
  · have g1 := opts_at (l := a) (i := i) (by omega)
    rw [drop_at (by omega)] at hs
    simp (maxSteps := 400000) -dsimp -implicitDefEqProofs (disch := first | exact TrueB.mk rfl | omega) only [go_sem, Nat.reduceMul, Nat.reduceAdd, Nat.reduceLT, Nat.reduceLeDiff, Nat.reducePow, Nat.reduceEqDiff, ↓reduceIte, reduceCtorEq, Int.reduceToNat]
    refine wpLoop_ind (α := Nat)
      (fun k => ⟨[(0, .pure m (.sl (optsV a))), (1, .pure m' (.sl (optsV b))), (5, .pure true (.int .i64 k)), (6, .pure true (.int .i64 i))], []⟩)
      (fun k => k ≤ b.length ∧ within (a[i] :: a.drop (i + 1)) (b.drop k) = w) (fun k => b.length - k) ?_ k ⟨hk, hs⟩ rfl
    clear hk hs
    rintro k ⟨hk, hs⟩
    simp (maxSteps := 400000) -dsimp -implicitDefEqProofs (disch := first | exact TrueB.mk rfl | omega) only [go_sem, Nat.reduceMul, Nat.reduceAdd, Nat.reduceLT, Nat.reduceLeDiff, Nat.reducePow, Nat.reduceEqDiff, ↓reduceIte, reduceCtorEq, Int.reduceToNat]
    first | refine condK_dec (fun h2 => ?_) (fun h2 => ?_) | refine condK_ndec (fun h2 => ?_) (fun h2 => ?_) | refine condK_beq (fun h2 => ?_) (fun h2 => ?_) | refine condK_bne (fun h2 => ?_) (fun h2 => ?_) | refine condK_nbeq (fun h2 => ?_) (fun h2 => ?_) | refine guardK_dec (fun h2 => ?_) (fun h2 => ?_) | refine guardK_ndec (fun h2 => ?_) (fun h2 => ?_) | refine guardK_beq (fun h2 => ?_) (fun h2 => ?_) | refine guardK_bne (fun h2 => ?_) (fun h2 => ?_) | refine guardK_nbeq (fun h2 => ?_) (fun h2 => ?_) | refine condK_not (fun h2 => ?_) (fun h2 => ?_) | refine guardK_not (fun h2 => ?_) (fun h2 => ?_) | refine condK_bool (fun h2 => ?_) (fun h2 => ?_) | refine guardK_bool (fun h2 => ?_) (fun h2 => ?_) | done
    · have g2 := opts_at (l := b) (i := k) (by omega)
      rw [drop_at (show k < b.length by omega)] at hs
      simp (maxSteps := 400000) -dsimp -implicitDefEqProofs (disch := first | exact TrueB.mk rfl | omega) only [go_sem, Nat.reduceMul, Nat.reduceAdd, Nat.reduceLT, Nat.reduceLeDiff, Nat.reducePow, Nat.reduceEqDiff, ↓reduceIte, reduceCtorEq, Int.reduceToNat, g1, g2]
      first | refine wpAct_call0 (one_any a[i] b[k] _ _) rfl rfl rfl rfl rfl rfl rfl rfl ?_ | done
      simp (maxSteps := 400000) -dsimp -implicitDefEqProofs (disch := first | exact TrueB.mk rfl | omega) only [go_sem, Nat.reduceMul, Nat.reduceAdd, Nat.reduceLT, Nat.reduceLeDiff, Nat.reducePow, Nat.reduceEqDiff, ↓reduceIte, reduceCtorEq, Int.reduceToNat]
      first | refine condK_dec (fun h3 => ?_) (fun h3 => ?_) | refine condK_ndec (fun h3 => ?_) (fun h3 => ?_) | refine condK_beq (fun h3 => ?_) (fun h3 => ?_) | refine condK_bne (fun h3 => ?_) (fun h3 => ?_) | refine condK_nbeq (fun h3 => ?_) (fun h3 => ?_) | refine guardK_dec (fun h3 => ?_) (fun h3 => ?_) | refine guardK_ndec (fun h3 => ?_) (fun h3 => ?_) | refine guardK_beq (fun h3 => ?_) (fun h3 => ?_) | refine guardK_bne (fun h3 => ?_) (fun h3 => ?_) | refine guardK_nbeq (fun h3 => ?_) (fun h3 => ?_) | refine condK_not (fun h3 => ?_) (fun h3 => ?_) | refine guardK_not (fun h3 => ?_) (fun h3 => ?_) | refine condK_bool (fun h3 => ?_) (fun h3 => ?_) | refine guardK_bool (fun h3 => ?_) (fun h3 => ?_) | done
      · rw [within_ne h3] at hs
        simp (maxSteps := 400000) -dsimp -implicitDefEqProofs (disch := first | exact TrueB.mk rfl | omega) only [go_sem, Nat.reduceMul, Nat.reduceAdd, Nat.reduceLT, Nat.reduceLeDiff, Nat.reducePow, Nat.reduceEqDiff, ↓reduceIte, reduceCtorEq, Int.reduceToNat]
        first | exact again_mk ⟨k + 1, ⟨by omega, hs⟩, by omega, rfl⟩ | done
      · rw [within_eq h3] at hs
        simp (maxSteps := 400000) -dsimp -implicitDefEqProofs (disch := first | exact TrueB.mk rfl | omega) only [go_sem, Nat.reduceMul, Nat.reduceAdd, Nat.reduceLT, Nat.reduceLeDiff, Nat.reducePow, Nat.reduceEqDiff, ↓reduceIte, reduceCtorEq, Int.reduceToNat]
        first | exact again_mk ⟨(i + 1, k + 1), ⟨by show i + 1 ≤ _; omega, by show k + 1 ≤ _; omega, hs⟩, by show _ - (i + 1) < _ - i; omega, rfl⟩ | done
    · simp (maxSteps := 400000) -dsimp -implicitDefEqProofs (disch := first | exact TrueB.mk rfl | omega) only [go_sem, Nat.reduceMul, Nat.reduceAdd, Nat.reduceLT, Nat.reduceLeDiff, Nat.reducePow, Nat.reduceEqDiff, ↓reduceIte, reduceCtorEq, Int.reduceToNat]
      rw [List.drop_eq_nil_of_le (show b.length ≤ k by omega), within_end] at hs
      first | exact end_bool rfl (by rw [← hs]; symm; apply decide_eq_false; simp only [List.length_cons]; omega) | done
  · simp (maxSteps := 400000) -dsimp -implicitDefEqProofs (disch := first | exact TrueB.mk rfl | omega) only [go_sem, Nat.reduceMul, Nat.reduceAdd, Nat.reduceLT, Nat.reduceLeDiff, Nat.reducePow, Nat.reduceEqDiff, ↓reduceIte, reduceCtorEq, Int.reduceToNat]
    rw [List.drop_eq_nil_of_le (by omega), within_nil] at hs
    first | exact end_bool rfl hs | done

/-- Has a Type two options? -/
def twice (l : List Opt) : Bool := !decide ((l.map (·.1)).Nodup)
theorem nodup_take {l : List Opt} {i : Nat} (hi : i < l.length) (h : ((l.take i).map (·.1)).Nodup) (hn : l[i].1 ∉ (l.take i).map (·.1)) : ((l.take (i + 1)).map (·.1)).Nodup := by
  rw [← List.take_append_getElem hi, List.map_append, List.nodup_append]
  refine ⟨h, by simp, ?_⟩
  intro x hx y hy e
  simp only [List.map_cons, List.map_nil, List.mem_singleton] at hy
  subst hy e
  exact hn hx
theorem twice_at {l : List Opt} {i : Nat} (hi : i < l.length) (hn : l[i].1 ∈ (l.take i).map (·.1)) : twice l = true := by
  unfold twice
  have : ¬ (l.map (·.1)).Nodup := fun h => by
    have h2 : ((l.take (i + 1)).map (·.1)).Nodup := h.sublist ((List.take_sublist _ _).map _)
    rw [← List.take_append_getElem hi, List.map_append, List.nodup_append] at h2
    exact h2.2.2 _ hn _ (by simp) rfl
  simp [this]
theorem twice_no {l : List Opt} {i : Nat} (hi : l.length ≤ i) (h : ((l.take i).map (·.1)).Nodup) : twice l = false := by
  rw [List.take_of_length_le hi] at h
  unfold twice
  simp [h]

def keysM (ts : List Int) : List (PV × PV) := ts.map fun t => (.int .i64 t, .bool true)
theorem mapFind_keys (t : Int) (ts : List Int) : mapFind (.int .i64 t) (keysM ts) = some (if t ∈ ts then some (.bool true) else none) := by
  induction ts with
  | nil => simp [keysM, mapFind]
  | cons u r ih =>
    have e : keysM (u :: r) = (.int .i64 u, .bool true) :: keysM r := rfl
    rw [e, mapFind]
    by_cases h : t = u
    · simp [PV.isAgg, PV.cells, eqCells, h]
    · simp [PV.isAgg, PV.cells, eqCells, h, ih]
theorem mapPut_keys (t : Int) (ts : List Int) (h : t ∉ ts) : mapPut (.int .i64 t) (.bool true) (keysM ts) = keysM (ts ++ [t]) := by
  induction ts with
  | nil => simp [keysM, mapPut]
  | cons u r ih =>
    simp only [List.mem_cons, not_or] at h
    have e : keysM (u :: r) = (.int .i64 u, .bool true) :: keysM r := rfl
    rw [e, mapPut]
    simp only [PV.cells, eqCells, if_true, decide_eq_false h.1, Bool.false_and]
    rw [ih h.2]
    rfl

set_option maxHeartbeats 8000000 in
theorem optTwice_any (l : List Opt) (hl : l.length ≤ 100000) (m : Bool) : Runs Try.prog env 39 [.pure m (.sl (optsV l))] [] (.pure true (.bool (twice l))) [] := by
  refine Runs.of Try.func39 rfl (by simp [Try.ntmps39]) ?_
  simp (maxSteps := 400000) -dsimp -implicitDefEqProofs (disch := first | exact TrueB.mk rfl | omega) only [go_sem, Nat.reduceMul, Nat.reduceAdd, Nat.reduceLT, Nat.reduceLeDiff, Nat.reducePow, Nat.reduceEqDiff, ↓reduceIte, reduceCtorEq, Int.reduceToNat, Try.ntmps39]
  refine wpLoop_ind (α := Nat)
    (fun i => ⟨[(3, .map 336), (7, .pure m (.sl (optsV l))), (8, .pure true (.int .i64 l.length)), (9, .pure true (.int .i64 i))], [(336, .map true (keysM ((l.take i).map (·.1))))]⟩)
    (fun i => i ≤ l.length ∧ ((l.take i).map (·.1)).Nodup) (fun i => l.length - i) ?_ 0 ⟨by simp, by simp⟩ rfl
  rintro i ⟨hi, hs⟩
  simp (maxSteps := 400000) -dsimp -implicitDefEqProofs (disch := first | exact TrueB.mk rfl | omega) only [go_sem, Nat.reduceMul, Nat.reduceAdd, Nat.reduceLT, Nat.reduceLeDiff, Nat.reducePow, Nat.reduceEqDiff, ↓reduceIte, reduceCtorEq, Int.reduceToNat]
  first | refine condK_dec (fun h1 => ?_) (fun h1 => ?_) | refine condK_ndec (fun h1 => ?_) (fun h1 => ?_) | refine condK_beq (fun h1 => ?_) (fun h1 => ?_) | refine condK_bne (fun h1 => ?_) (fun h1 => ?_) | refine condK_nbeq (fun h1 => ?_) (fun h1 => ?_) | refine guardK_dec (fun h1 => ?_) (fun h1 => ?_) | refine guardK_ndec (fun h1 => ?_) (fun h1 => ?_) | refine guardK_beq (fun h1 => ?_) (fun h1 => ?_) | refine guardK_bne (fun h1 => ?_) (fun h1 => ?_) | refine guardK_nbeq (fun h1 => ?_) (fun h1 => ?_) | refine condK_not (fun h1 => ?_) (fun h1 => ?_) | refine guardK_not (fun h1 => ?_) (fun h1 => ?_) | refine condK_bool (fun h1 => ?_) (fun h1 => ?_) | refine guardK_bool (fun h1 => ?_) (fun h1 => ?_) | done
  · have g1 := opts_at (l := l) (i := i) (by omega)
    by_cases h2 : l[i].1 ∈ (l.take i).map (·.1)
    · have g2 := mapFind_keys l[i].1 ((l.take i).map (·.1))
      rw [if_pos h2] at g2
      simp (maxSteps := 400000) -dsimp -implicitDefEqProofs (disch := first | exact TrueB.mk rfl | omega) only [go_sem, Nat.reduceMul, Nat.reduceAdd, Nat.reduceLT, Nat.reduceLeDiff, Nat.reducePow, Nat.reduceEqDiff, ↓reduceIte, reduceCtorEq, Int.reduceToNat, g1, g2]
      first | exact end_bool rfl (twice_at (by omega) h2).symm | done
    · have g2 := mapFind_keys l[i].1 ((l.take i).map (·.1))
      rw [if_neg h2] at g2
      have g3 := mapPut_keys l[i].1 ((l.take i).map (·.1)) h2
      simp (maxSteps := 400000) -dsimp -implicitDefEqProofs (disch := first | exact TrueB.mk rfl | omega) only [go_sem, Nat.reduceMul, Nat.reduceAdd, Nat.reduceLT, Nat.reduceLeDiff, Nat.reducePow, Nat.reduceEqDiff, ↓reduceIte, reduceCtorEq, Int.reduceToNat, g1, g2, g3]
      refine again_mk ⟨i + 1, ⟨by omega, nodup_take (by omega) hs h2⟩, by omega, ?_⟩
      simp only [← List.take_append_getElem (show i < l.length by omega), List.map_append, List.map_cons, List.map_nil]
      rfl
  · simp (maxSteps := 400000) -dsimp -implicitDefEqProofs (disch := first | exact TrueB.mk rfl | omega) only [go_sem, Nat.reduceMul, Nat.reduceAdd, Nat.reduceLT, Nat.reduceLeDiff, Nat.reducePow, Nat.reduceEqDiff, ↓reduceIte, reduceCtorEq, Int.reduceToNat]
    first | exact end_bool rfl (twice_no (by omega) hs).symm | done

theorem findO_mem (l : List Opt) (t : Int) : (findO l t).isSome = decide (t ∈ l.map (·.1)) := by
  unfold findO
  cases h : l.findIdx? fun o => o.1 == t with
  | none =>
    rw [List.findIdx?_eq_none_iff] at h
    symm
    apply decide_eq_false
    intro hm
    obtain ⟨o, ho, e⟩ := List.mem_map.1 hm
    have := h o ho
    simp [e] at this
  | some i =>
    rw [List.findIdx?_eq_some_iff_getElem] at h
    symm
    apply decide_eq_true
    exact List.mem_map.2 ⟨l[i]'h.1, List.getElem_mem h.1, by simpa using h.2.1⟩

set_option maxHeartbeats 8000000 in
theorem refTwice_any (l : List Opt) (hl : l.length ≤ 100000) (m : Bool) : Runs Try.prog env 40 [.pure m (.sl (optsV l))] [] (.pure true (.bool (twice l))) [] := by
  refine Runs.of Try.func40 rfl (by simp [Try.ntmps40]) ?_
  simp (maxSteps := 400000) -dsimp -implicitDefEqProofs (disch := first | exact TrueB.mk rfl | omega) only [go_sem, Nat.reduceMul, Nat.reduceAdd, Nat.reduceLT, Nat.reduceLeDiff, Nat.reducePow, Nat.reduceEqDiff, ↓reduceIte, reduceCtorEq, Int.reduceToNat, Try.ntmps40]
  refine wpLoop_ind (α := Nat)
    (fun i => ⟨[(0, .pure m (.sl (optsV l))), (3, .pure true (.int .i64 i))], []⟩)
    (fun i => i ≤ l.length ∧ ((l.take i).map (·.1)).Nodup) (fun i => l.length - i) ?_ 0 ⟨by simp, by simp⟩ rfl
  rintro i ⟨hi, hs⟩
  simp (maxSteps := 400000) -dsimp -implicitDefEqProofs (disch := first | exact TrueB.mk rfl | omega) only [go_sem, Nat.reduceMul, Nat.reduceAdd, Nat.reduceLT, Nat.reduceLeDiff, Nat.reducePow, Nat.reduceEqDiff, ↓reduceIte, reduceCtorEq, Int.reduceToNat]
  first | refine condK_dec (fun h1 => ?_) (fun h1 => ?_) | refine condK_ndec (fun h1 => ?_) (fun h1 => ?_) | refine condK_beq (fun h1 => ?_) (fun h1 => ?_) | refine condK_bne (fun h1 => ?_) (fun h1 => ?_) | refine condK_nbeq (fun h1 => ?_) (fun h1 => ?_) | refine guardK_dec (fun h1 => ?_) (fun h1 => ?_) | refine guardK_ndec (fun h1 => ?_) (fun h1 => ?_) | refine guardK_beq (fun h1 => ?_) (fun h1 => ?_) | refine guardK_bne (fun h1 => ?_) (fun h1 => ?_) | refine guardK_nbeq (fun h1 => ?_) (fun h1 => ?_) | refine condK_not (fun h1 => ?_) (fun h1 => ?_) | refine guardK_not (fun h1 => ?_) (fun h1 => ?_) | refine condK_bool (fun h1 => ?_) (fun h1 => ?_) | refine guardK_bool (fun h1 => ?_) (fun h1 => ?_) | done
  · have g1 := opts_at (l := l) (i := i) (by omega)
    have hlt : i < l.length := by omega
    have hfm := findO_mem (l.take i) l[i].1
    simp (maxSteps := 400000) -dsimp -implicitDefEqProofs (disch := first | exact TrueB.mk rfl | omega) only [go_sem, Nat.reduceMul, Nat.reduceAdd, Nat.reduceLT, Nat.reduceLeDiff, Nat.reducePow, Nat.reduceEqDiff, ↓reduceIte, reduceCtorEq, Int.reduceToNat, g1, optsV_take, allW_optsV, List.drop_zero, Nat.sub_zero]
    first | refine wpAct_call0 (refFind_any (l.take i) (l[i]'hlt).1 (by rw [List.length_take]; omega) _ _) rfl rfl rfl rfl rfl rfl rfl rfl ?_ | done
    cases hf : findO (l.take i) l[i].1 with
    | none =>
      have e2 : idxI none = -1 := rfl
      have h2 : l[i].1 ∉ (l.take i).map (·.1) := by rw [hf] at hfm; simpa using hfm.symm
      simp (maxSteps := 400000) -dsimp -implicitDefEqProofs (disch := first | exact TrueB.mk rfl | omega) only [go_sem, Nat.reduceMul, Nat.reduceAdd, Nat.reduceLT, Nat.reduceLeDiff, Nat.reducePow, Nat.reduceEqDiff, ↓reduceIte, reduceCtorEq, Int.reduceToNat, e2]
      first | exact again_mk ⟨i + 1, ⟨by omega, nodup_take (by omega) hs h2⟩, by omega, rfl⟩ | done
    | some j =>
      have e2 : idxI (some j) = j := rfl
      have h2 : l[i].1 ∈ (l.take i).map (·.1) := by rw [hf] at hfm; simpa using hfm.symm
      simp (maxSteps := 400000) -dsimp -implicitDefEqProofs (disch := first | exact TrueB.mk rfl | omega) only [go_sem, Nat.reduceMul, Nat.reduceAdd, Nat.reduceLT, Nat.reduceLeDiff, Nat.reducePow, Nat.reduceEqDiff, ↓reduceIte, reduceCtorEq, Int.reduceToNat, e2]
      first | exact end_bool rfl (twice_at (by omega) h2).symm | done
  · simp (maxSteps := 400000) -dsimp -implicitDefEqProofs (disch := first | exact TrueB.mk rfl | omega) only [go_sem, Nat.reduceMul, Nat.reduceAdd, Nat.reduceLT, Nat.reduceLeDiff, Nat.reducePow, Nat.reduceEqDiff, ↓reduceIte, reduceCtorEq, Int.reduceToNat]
    first | exact end_bool rfl (twice_no (by omega) hs).symm | done
end Go.Proofs.Ytpgklagjjimbhaa
