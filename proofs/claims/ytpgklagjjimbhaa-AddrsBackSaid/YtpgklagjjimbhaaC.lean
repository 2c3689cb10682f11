/- YtpgklagjjimbhaaC: option.Same, the first option of a Type. No claim. -/
import Derived.Test.YtpgklagjjimbhaaB
set_option linter.unusedVariables false
set_option linter.unusedSimpArgs false
set_option maxRecDepth 100000
namespace Go.Proofs.Ytpgklagjjimbhaa
open Go Go.Proofs.Ytpgklagjjimbhaa.V

set_option maxHeartbeats 4000000 in
theorem equalFunc_any (l k : List Opt) (hl : l.length ≤ 100000) (m m' : Bool) : Runs Try.prog env 82 [.pure m (.sl (optsV l)), .pure m' (.sl (optsV k)), .clo 83 []] [] (.pure true (.bool (l == k))) [] := by
  refine Runs.of Try.func82 rfl (by simp [Try.ntmps82]) ?_
  simp (maxSteps := 400000) -dsimp -implicitDefEqProofs (disch := first | exact TrueB.mk rfl | omega) only [go_sem, Nat.reduceMul, Nat.reduceAdd, Nat.reduceLT, Nat.reduceLeDiff, Nat.reducePow, Nat.reduceEqDiff, ↓reduceIte, reduceCtorEq, Int.reduceToNat, Try.ntmps82, optsV_length]
  first | refine condK_dec (fun h => ?_) (fun h => ?_) | refine condK_ndec (fun h => ?_) (fun h => ?_) | refine condK_beq (fun h => ?_) (fun h => ?_) | refine condK_bne (fun h => ?_) (fun h => ?_) | refine condK_nbeq (fun h => ?_) (fun h => ?_) | refine guardK_dec (fun h => ?_) (fun h => ?_) | refine guardK_ndec (fun h => ?_) (fun h => ?_) | refine guardK_beq (fun h => ?_) (fun h => ?_) | refine guardK_bne (fun h => ?_) (fun h => ?_) | refine guardK_nbeq (fun h => ?_) (fun h => ?_) | refine condK_not (fun h => ?_) (fun h => ?_) | refine guardK_not (fun h => ?_) (fun h => ?_) | refine condK_bool (fun h => ?_) (fun h => ?_) | refine guardK_bool (fun h => ?_) (fun h => ?_) | done
  · simp (maxSteps := 400000) -dsimp -implicitDefEqProofs (disch := first | exact TrueB.mk rfl | omega) only [go_sem, Nat.reduceMul, Nat.reduceAdd, Nat.reduceLT, Nat.reduceLeDiff, Nat.reducePow, Nat.reduceEqDiff, ↓reduceIte, reduceCtorEq, Int.reduceToNat]
    first | exact end_bool rfl (same_len (by omega)).symm | done
  simp (maxSteps := 400000) -dsimp -implicitDefEqProofs (disch := first | exact TrueB.mk rfl | omega) only [go_sem, Nat.reduceMul, Nat.reduceAdd, Nat.reduceLT, Nat.reduceLeDiff, Nat.reducePow, Nat.reduceEqDiff, ↓reduceIte, reduceCtorEq, Int.reduceToNat]
  refine wpLoop_ind (α := Nat)
    (fun i => ⟨[(1, .pure m' (.sl (optsV k))), (2, .clo 83 []), (15, .pure m (.sl (optsV l))), (16, .pure true (.int .i64 l.length)), (17, .pure true (.int .i64 i))], []⟩)
    (fun i => same l k i) (fun i => l.length - i) ?_ 0 (same_0 l k) rfl
  rintro i hi
  have hi' := hi.1
  simp (maxSteps := 400000) -dsimp -implicitDefEqProofs (disch := first | exact TrueB.mk rfl | omega) only [go_sem, Nat.reduceMul, Nat.reduceAdd, Nat.reduceLT, Nat.reduceLeDiff, Nat.reducePow, Nat.reduceEqDiff, ↓reduceIte, reduceCtorEq, Int.reduceToNat, optsV_length]
  first | refine condK_dec (fun h1 => ?_) (fun h1 => ?_) | refine condK_ndec (fun h1 => ?_) (fun h1 => ?_) | refine condK_beq (fun h1 => ?_) (fun h1 => ?_) | refine condK_bne (fun h1 => ?_) (fun h1 => ?_) | refine condK_nbeq (fun h1 => ?_) (fun h1 => ?_) | refine guardK_dec (fun h1 => ?_) (fun h1 => ?_) | refine guardK_ndec (fun h1 => ?_) (fun h1 => ?_) | refine guardK_beq (fun h1 => ?_) (fun h1 => ?_) | refine guardK_bne (fun h1 => ?_) (fun h1 => ?_) | refine guardK_nbeq (fun h1 => ?_) (fun h1 => ?_) | refine condK_not (fun h1 => ?_) (fun h1 => ?_) | refine guardK_not (fun h1 => ?_) (fun h1 => ?_) | refine condK_bool (fun h1 => ?_) (fun h1 => ?_) | refine guardK_bool (fun h1 => ?_) (fun h1 => ?_) | done
  · have g1 := opts_at (l := l) (i := i) (by omega)
    have g2 := opts_at (l := k) (i := i) (by omega)
    simp (maxSteps := 400000) -dsimp -implicitDefEqProofs (disch := first | exact TrueB.mk rfl | omega) only [go_sem, Nat.reduceMul, Nat.reduceAdd, Nat.reduceLT, Nat.reduceLeDiff, Nat.reducePow, Nat.reduceEqDiff, ↓reduceIte, reduceCtorEq, Int.reduceToNat, g1, g2, optsV_length]
    first | refine wpAct_call0 (alike_any l[i] k[i] _ _) rfl rfl rfl rfl rfl rfl rfl rfl ?_ | done
    simp (maxSteps := 400000) -dsimp -implicitDefEqProofs (disch := first | exact TrueB.mk rfl | omega) only [go_sem, Nat.reduceMul, Nat.reduceAdd, Nat.reduceLT, Nat.reduceLeDiff, Nat.reducePow, Nat.reduceEqDiff, ↓reduceIte, reduceCtorEq, Int.reduceToNat]
    first | refine condK_dec (fun h2 => ?_) (fun h2 => ?_) | refine condK_ndec (fun h2 => ?_) (fun h2 => ?_) | refine condK_beq (fun h2 => ?_) (fun h2 => ?_) | refine condK_bne (fun h2 => ?_) (fun h2 => ?_) | refine condK_nbeq (fun h2 => ?_) (fun h2 => ?_) | refine guardK_dec (fun h2 => ?_) (fun h2 => ?_) | refine guardK_ndec (fun h2 => ?_) (fun h2 => ?_) | refine guardK_beq (fun h2 => ?_) (fun h2 => ?_) | refine guardK_bne (fun h2 => ?_) (fun h2 => ?_) | refine guardK_nbeq (fun h2 => ?_) (fun h2 => ?_) | refine condK_not (fun h2 => ?_) (fun h2 => ?_) | refine guardK_not (fun h2 => ?_) (fun h2 => ?_) | refine condK_bool (fun h2 => ?_) (fun h2 => ?_) | refine guardK_bool (fun h2 => ?_) (fun h2 => ?_) | done
    · simp (maxSteps := 400000) -dsimp -implicitDefEqProofs (disch := first | exact TrueB.mk rfl | omega) only [go_sem, Nat.reduceMul, Nat.reduceAdd, Nat.reduceLT, Nat.reduceLeDiff, Nat.reducePow, Nat.reduceEqDiff, ↓reduceIte, reduceCtorEq, Int.reduceToNat]
      first | exact end_bool rfl (same_not (by omega) (by omega) h2).symm | done
    · simp (maxSteps := 400000) -dsimp -implicitDefEqProofs (disch := first | exact TrueB.mk rfl | omega) only [go_sem, Nat.reduceMul, Nat.reduceAdd, Nat.reduceLT, Nat.reduceLeDiff, Nat.reducePow, Nat.reduceEqDiff, ↓reduceIte, reduceCtorEq, Int.reduceToNat]
      have h3 := same_next hi (by omega) (by omega) h2
      first | exact again_mk ⟨i + 1, h3, by show _ - (i + 1) < _ - i; omega, rfl⟩ | done
  · simp (maxSteps := 400000) -dsimp -implicitDefEqProofs (disch := first | exact TrueB.mk rfl | omega) only [go_sem, Nat.reduceMul, Nat.reduceAdd, Nat.reduceLT, Nat.reduceLeDiff, Nat.reducePow, Nat.reduceEqDiff, ↓reduceIte, reduceCtorEq, Int.reduceToNat]
    first | exact end_bool rfl (same_all hi (by omega) (by omega)).symm | done

theorem optSame_any (l k : List Opt) (hl : l.length ≤ 100000) (m m' : Bool) : Runs Try.prog env 34 [.pure m (.sl (optsV l)), .pure m' (.sl (optsV k))] [] (.pure true (.bool (l == k))) [] := by
  refine Runs.of Try.func34 rfl (by simp [Try.ntmps34]) ?_
  simp (maxSteps := 400000) -dsimp -implicitDefEqProofs (disch := first | exact TrueB.mk rfl | omega) only [go_sem, Nat.reduceMul, Nat.reduceAdd, Nat.reduceLT, Nat.reduceLeDiff, Nat.reducePow, Nat.reduceEqDiff, ↓reduceIte, reduceCtorEq, Int.reduceToNat, Try.ntmps34]
  first | refine wpAct_call0 (equalFunc_any l k hl _ _) rfl rfl rfl rfl rfl rfl rfl rfl ?_ | done
  simp (maxSteps := 400000) -dsimp -implicitDefEqProofs (disch := first | exact TrueB.mk rfl | omega) only [go_sem, Nat.reduceMul, Nat.reduceAdd, Nat.reduceLT, Nat.reduceLeDiff, Nat.reducePow, Nat.reduceEqDiff, ↓reduceIte, reduceCtorEq, Int.reduceToNat]
  first | exact end_bool rfl rfl | done

/-- The place of the first option of a Type. -/
def findO (l : List Opt) (t : Int) : Option Nat := l.findIdx? fun o => o.1 == t
def noneTo (l : List Opt) (t : Int) (i : Nat) : Prop := i ≤ l.length ∧ ∀ j (h : j < l.length), j < i → l[j].1 ≠ t
theorem noneTo_0 (l : List Opt) (t : Int) : noneTo l t 0 := ⟨Nat.zero_le _, fun _ _ h => by omega⟩
theorem noneTo_next {l : List Opt} {t : Int} {i : Nat} (h : noneTo l t i) (h1 : i < l.length) (e : l[i].1 ≠ t) : noneTo l t (i + 1) :=
  ⟨h1, fun j hj hlt => by
    by_cases hji : j = i
    · subst hji; exact e
    · exact h.2 j hj (by omega)⟩
theorem findO_at {l : List Opt} {t : Int} {i : Nat} (h : noneTo l t i) (h1 : i < l.length) (e : l[i].1 = t) : findO l t = some i := by
  unfold findO
  rw [List.findIdx?_eq_some_iff_getElem]
  exact ⟨h1, by simpa using e, fun j hj => by simpa using h.2 j (by omega) hj⟩
theorem findO_none {l : List Opt} {t : Int} {i : Nat} (h : noneTo l t i) (h1 : l.length ≤ i) : findO l t = none := by
  unfold findO
  rw [List.findIdx?_eq_none_iff]
  intro x hx
  obtain ⟨j, hj, rfl⟩ := List.getElem_of_mem hx
  simpa using h.2 j hj (by omega)
theorem findO_lt {l : List Opt} {t : Int} {i : Nat} (h : findO l t = some i) : i < l.length := by
  unfold findO at h
  rw [List.findIdx?_eq_some_iff_getElem] at h
  exact h.1
def idxI (r : Option Nat) : Int := match r with | some i => i | none => -1

set_option maxHeartbeats 4000000 in
theorem refFind_any (l : List Opt) (t : Int) (hl : l.length ≤ 100000) (m m' : Bool) : Runs Try.prog env 36 [.pure m (.sl (optsV l)), .pure m' (.int .i64 t)] [] (.pure true (.int .i64 (idxI (findO l t)))) [] := by
  refine Runs.of Try.func36 rfl (by simp [Try.ntmps36]) ?_
  simp (maxSteps := 400000) -dsimp -implicitDefEqProofs (disch := first | exact TrueB.mk rfl | omega) only [go_sem, Nat.reduceMul, Nat.reduceAdd, Nat.reduceLT, Nat.reduceLeDiff, Nat.reducePow, Nat.reduceEqDiff, ↓reduceIte, reduceCtorEq, Int.reduceToNat, Try.ntmps36]
  refine wpLoop_ind (α := Nat)
    (fun i => ⟨[(0, .pure m (.sl (optsV l))), (1, .pure m' (.int .i64 t)), (5, .pure true (.int .i64 i))], []⟩)
    (fun i => noneTo l t i) (fun i => l.length - i) ?_ 0 (noneTo_0 l t) rfl
  rintro i hi
  have hi' := hi.1
  simp (maxSteps := 400000) -dsimp -implicitDefEqProofs (disch := first | exact TrueB.mk rfl | omega) only [go_sem, Nat.reduceMul, Nat.reduceAdd, Nat.reduceLT, Nat.reduceLeDiff, Nat.reducePow, Nat.reduceEqDiff, ↓reduceIte, reduceCtorEq, Int.reduceToNat, optsV_length]
  first | refine condK_dec (fun h1 => ?_) (fun h1 => ?_) | refine condK_ndec (fun h1 => ?_) (fun h1 => ?_) | refine condK_beq (fun h1 => ?_) (fun h1 => ?_) | refine condK_bne (fun h1 => ?_) (fun h1 => ?_) | refine condK_nbeq (fun h1 => ?_) (fun h1 => ?_) | refine guardK_dec (fun h1 => ?_) (fun h1 => ?_) | refine guardK_ndec (fun h1 => ?_) (fun h1 => ?_) | refine guardK_beq (fun h1 => ?_) (fun h1 => ?_) | refine guardK_bne (fun h1 => ?_) (fun h1 => ?_) | refine guardK_nbeq (fun h1 => ?_) (fun h1 => ?_) | refine condK_not (fun h1 => ?_) (fun h1 => ?_) | refine guardK_not (fun h1 => ?_) (fun h1 => ?_) | refine condK_bool (fun h1 => ?_) (fun h1 => ?_) | refine guardK_bool (fun h1 => ?_) (fun h1 => ?_) | done
  · have g1 := opts_at (l := l) (i := i) (by omega)
    simp (maxSteps := 400000) -dsimp -implicitDefEqProofs (disch := first | exact TrueB.mk rfl | omega) only [go_sem, Nat.reduceMul, Nat.reduceAdd, Nat.reduceLT, Nat.reduceLeDiff, Nat.reducePow, Nat.reduceEqDiff, ↓reduceIte, reduceCtorEq, Int.reduceToNat, g1]
    first | refine condK_dec (fun h2 => ?_) (fun h2 => ?_) | refine condK_ndec (fun h2 => ?_) (fun h2 => ?_) | refine condK_beq (fun h2 => ?_) (fun h2 => ?_) | refine condK_bne (fun h2 => ?_) (fun h2 => ?_) | refine condK_nbeq (fun h2 => ?_) (fun h2 => ?_) | refine guardK_dec (fun h2 => ?_) (fun h2 => ?_) | refine guardK_ndec (fun h2 => ?_) (fun h2 => ?_) | refine guardK_beq (fun h2 => ?_) (fun h2 => ?_) | refine guardK_bne (fun h2 => ?_) (fun h2 => ?_) | refine guardK_nbeq (fun h2 => ?_) (fun h2 => ?_) | refine condK_not (fun h2 => ?_) (fun h2 => ?_) | refine guardK_not (fun h2 => ?_) (fun h2 => ?_) | refine condK_bool (fun h2 => ?_) (fun h2 => ?_) | refine guardK_bool (fun h2 => ?_) (fun h2 => ?_) | done
    · simp (maxSteps := 400000) -dsimp -implicitDefEqProofs (disch := first | exact TrueB.mk rfl | omega) only [go_sem, Nat.reduceMul, Nat.reduceAdd, Nat.reduceLT, Nat.reduceLeDiff, Nat.reducePow, Nat.reduceEqDiff, ↓reduceIte, reduceCtorEq, Int.reduceToNat]
      rw [findO_at hi (by omega) h2]
      first | exact end_int rfl rfl | done
    · simp (maxSteps := 400000) -dsimp -implicitDefEqProofs (disch := first | exact TrueB.mk rfl | omega) only [go_sem, Nat.reduceMul, Nat.reduceAdd, Nat.reduceLT, Nat.reduceLeDiff, Nat.reducePow, Nat.reduceEqDiff, ↓reduceIte, reduceCtorEq, Int.reduceToNat]
      have h3 := noneTo_next hi (by omega) h2
      first | exact again_mk ⟨i + 1, h3, by show _ - (i + 1) < _ - i; omega, rfl⟩ | done
  · simp (maxSteps := 400000) -dsimp -implicitDefEqProofs (disch := first | exact TrueB.mk rfl | omega) only [go_sem, Nat.reduceMul, Nat.reduceAdd, Nat.reduceLT, Nat.reduceLeDiff, Nat.reducePow, Nat.reduceEqDiff, ↓reduceIte, reduceCtorEq, Int.reduceToNat]
    rw [findO_none hi (by omega)]
    first | exact end_int rfl rfl | done

theorem find1_any (o : Opt) (t : Int) (m m' : Bool) : Runs Try.prog env 85 [.pure m (optV o), .ptr 0 0] [(0, .box [.pure m' (.int .i64 t)])] (.pure true (.bool (o.1 == t))) [(0, .box [.pure m' (.int .i64 t)])] := by
  refine Runs.of Try.func85 rfl (by simp [Try.ntmps85]) ?_
  unfold optV
  simp (maxSteps := 400000) -dsimp -implicitDefEqProofs (disch := first | exact TrueB.mk rfl | omega) only [go_sem, Nat.reduceMul, Nat.reduceAdd, Nat.reduceLT, Nat.reduceLeDiff, Nat.reducePow, Nat.reduceEqDiff, ↓reduceIte, reduceCtorEq, Int.reduceToNat, Try.ntmps85]
  first | exact rfl | done

set_option maxHeartbeats 4000000 in
theorem indexFunc_any (l : List Opt) (t : Int) (hl : l.length ≤ 100000) (m m' : Bool) : Runs Try.prog env 84 [.pure m (.sl (optsV l)), .clo 85 [.ptr 0 0]] [(0, .box [.pure m' (.int .i64 t)])] (.pure true (.int .i64 (idxI (findO l t)))) [(0, .box [.pure m' (.int .i64 t)])] := by
  refine Runs.of Try.func84 rfl (by simp [Try.ntmps84]) ?_
  simp (maxSteps := 400000) -dsimp -implicitDefEqProofs (disch := first | exact TrueB.mk rfl | omega) only [go_sem, Nat.reduceMul, Nat.reduceAdd, Nat.reduceLT, Nat.reduceLeDiff, Nat.reducePow, Nat.reduceEqDiff, ↓reduceIte, reduceCtorEq, Int.reduceToNat, Try.ntmps84]
  refine wpLoop_ind (α := Nat)
    (fun i => ⟨[(0, .pure m (.sl (optsV l))), (1, .clo 85 [.ptr 0 0]), (7, .pure true (.int .i64 l.length)), (8, .pure true (.int .i64 i))], [(0, .box [.pure m' (.int .i64 t)])]⟩)
    (fun i => noneTo l t i) (fun i => l.length - i) ?_ 0 (noneTo_0 l t) rfl
  rintro i hi
  have hi' := hi.1
  simp (maxSteps := 400000) -dsimp -implicitDefEqProofs (disch := first | exact TrueB.mk rfl | omega) only [go_sem, Nat.reduceMul, Nat.reduceAdd, Nat.reduceLT, Nat.reduceLeDiff, Nat.reducePow, Nat.reduceEqDiff, ↓reduceIte, reduceCtorEq, Int.reduceToNat]
  first | refine condK_dec (fun h1 => ?_) (fun h1 => ?_) | refine condK_ndec (fun h1 => ?_) (fun h1 => ?_) | refine condK_beq (fun h1 => ?_) (fun h1 => ?_) | refine condK_bne (fun h1 => ?_) (fun h1 => ?_) | refine condK_nbeq (fun h1 => ?_) (fun h1 => ?_) | refine guardK_dec (fun h1 => ?_) (fun h1 => ?_) | refine guardK_ndec (fun h1 => ?_) (fun h1 => ?_) | refine guardK_beq (fun h1 => ?_) (fun h1 => ?_) | refine guardK_bne (fun h1 => ?_) (fun h1 => ?_) | refine guardK_nbeq (fun h1 => ?_) (fun h1 => ?_) | refine condK_not (fun h1 => ?_) (fun h1 => ?_) | refine guardK_not (fun h1 => ?_) (fun h1 => ?_) | refine condK_bool (fun h1 => ?_) (fun h1 => ?_) | refine guardK_bool (fun h1 => ?_) (fun h1 => ?_) | done
  · have g1 := opts_at (l := l) (i := i) (by omega)
    simp (maxSteps := 400000) -dsimp -implicitDefEqProofs (disch := first | exact TrueB.mk rfl | omega) only [go_sem, Nat.reduceMul, Nat.reduceAdd, Nat.reduceLT, Nat.reduceLeDiff, Nat.reducePow, Nat.reduceEqDiff, ↓reduceIte, reduceCtorEq, Int.reduceToNat, g1]
    first | refine wpAct_callS [0] (find1_any l[i] t _ _) rfl rfl rfl rfl rfl rfl rfl rfl rfl rfl ?_ | done
    simp (maxSteps := 400000) -dsimp -implicitDefEqProofs (disch := first | exact TrueB.mk rfl | omega) only [go_sem, Nat.reduceMul, Nat.reduceAdd, Nat.reduceLT, Nat.reduceLeDiff, Nat.reducePow, Nat.reduceEqDiff, ↓reduceIte, reduceCtorEq, Int.reduceToNat]
    first | refine condK_dec (fun h2 => ?_) (fun h2 => ?_) | refine condK_ndec (fun h2 => ?_) (fun h2 => ?_) | refine condK_beq (fun h2 => ?_) (fun h2 => ?_) | refine condK_bne (fun h2 => ?_) (fun h2 => ?_) | refine condK_nbeq (fun h2 => ?_) (fun h2 => ?_) | refine guardK_dec (fun h2 => ?_) (fun h2 => ?_) | refine guardK_ndec (fun h2 => ?_) (fun h2 => ?_) | refine guardK_beq (fun h2 => ?_) (fun h2 => ?_) | refine guardK_bne (fun h2 => ?_) (fun h2 => ?_) | refine guardK_nbeq (fun h2 => ?_) (fun h2 => ?_) | refine condK_not (fun h2 => ?_) (fun h2 => ?_) | refine guardK_not (fun h2 => ?_) (fun h2 => ?_) | refine condK_bool (fun h2 => ?_) (fun h2 => ?_) | refine guardK_bool (fun h2 => ?_) (fun h2 => ?_) | done
    · simp (maxSteps := 400000) -dsimp -implicitDefEqProofs (disch := first | exact TrueB.mk rfl | omega) only [go_sem, Nat.reduceMul, Nat.reduceAdd, Nat.reduceLT, Nat.reduceLeDiff, Nat.reducePow, Nat.reduceEqDiff, ↓reduceIte, reduceCtorEq, Int.reduceToNat]
      rw [findO_at hi (by omega) h2]
      first | exact rfl | done
    · simp (maxSteps := 400000) -dsimp -implicitDefEqProofs (disch := first | exact TrueB.mk rfl | omega) only [go_sem, Nat.reduceMul, Nat.reduceAdd, Nat.reduceLT, Nat.reduceLeDiff, Nat.reducePow, Nat.reduceEqDiff, ↓reduceIte, reduceCtorEq, Int.reduceToNat]
      have h3 := noneTo_next hi (by omega) h2
      first | exact again_mk ⟨i + 1, h3, by show _ - (i + 1) < _ - i; omega, rfl⟩ | done
  · simp (maxSteps := 400000) -dsimp -implicitDefEqProofs (disch := first | exact TrueB.mk rfl | omega) only [go_sem, Nat.reduceMul, Nat.reduceAdd, Nat.reduceLT, Nat.reduceLeDiff, Nat.reducePow, Nat.reduceEqDiff, ↓reduceIte, reduceCtorEq, Int.reduceToNat]
    rw [findO_none hi (by omega)]
    first | exact rfl | done

theorem findO_get {l : List Opt} {t : Int} {i : Nat} (h : findO l t = some i) : ∃ hi : i < l.length, l[i].1 = t := by
  unfold findO at h
  rw [List.findIdx?_eq_some_iff_getElem] at h
  exact ⟨h.1, by simpa using h.2.1⟩
def findD (l : List Opt) (t : Int) : List UInt8 := match findO l t with | some i => (l[i]?.getD (0, [])).2 | none => []

theorem findD_len {l : List Opt} {t : Int} {k : Nat} (h : ∀ o ∈ l, o.2.length ≤ k) : (findD l t).length ≤ k := by
  unfold findD
  cases hf : findO l t with
  | none => simp
  | some i =>
    obtain ⟨hi, _⟩ := findO_get hf
    simp only [List.getElem?_eq_getElem hi, Option.getD_some]
    exact h _ (List.getElem_mem hi)

set_option maxHeartbeats 4000000 in
theorem optFind_any (l : List Opt) (t : Int) (hl : l.length ≤ 100000) (hd : ∀ o ∈ l, o.2.length ≤ 100000000) (m m' : Bool) : ∃ z, (z = 1 ∨ findD l t = []) ∧
    Runs Try.prog env 35 [.pure m (.sl (optsV l)), .pure m' (.int .i64 t)] [] (.tuple [.row 0 (findD l t).length, .pure true (.bool (findO l t).isSome)]) [(0, .row true z 0 (bytesOf (findD l t)))] := by
  refine ⟨if (findO l t).isSome then 1 else 0, ?_, ?_⟩
  · unfold findD
    cases findO l t <;> simp
  refine Runs.of Try.func35 rfl (by simp [Try.ntmps35]) ?_
  simp (maxSteps := 400000) -dsimp -implicitDefEqProofs (disch := first | exact TrueB.mk rfl | omega) only [go_sem, Nat.reduceMul, Nat.reduceAdd, Nat.reduceLT, Nat.reduceLeDiff, Nat.reducePow, Nat.reduceEqDiff, ↓reduceIte, reduceCtorEq, Int.reduceToNat, Try.ntmps35]
  first | refine wpAct_callS [48] (indexFunc_any l t hl _ _) rfl rfl rfl rfl rfl rfl rfl rfl rfl rfl ?_ | done
  simp (maxSteps := 400000) -dsimp -implicitDefEqProofs (disch := first | exact TrueB.mk rfl | omega) only [go_sem, Nat.reduceMul, Nat.reduceAdd, Nat.reduceLT, Nat.reduceLeDiff, Nat.reducePow, Nat.reduceEqDiff, ↓reduceIte, reduceCtorEq, Int.reduceToNat]
  cases hf : findO l t with
  | none =>
    have e : findD l t = [] := by simp [findD, hf]
    rw [e]
    have e2 : idxI none = -1 := rfl
    simp (maxSteps := 400000) -dsimp -implicitDefEqProofs (disch := first | exact TrueB.mk rfl | omega) only [go_sem, Nat.reduceMul, Nat.reduceAdd, Nat.reduceLT, Nat.reduceLeDiff, Nat.reducePow, Nat.reduceEqDiff, ↓reduceIte, reduceCtorEq, Int.reduceToNat, e2]
    first | exact end_row2 rfl rfl rfl rfl rfl rfl rfl | done
  | some i =>
    obtain ⟨hi, hti⟩ := findO_get hf
    have e : findD l t = l[i].2 := by simp [findD, hf, hi]
    have e2 : idxI (some i) = i := rfl
    rw [e]
    have g1 := opts_at (l := l) (i := i) (by omega)
    have hd' := hd l[i] (List.getElem_mem hi)
    simp (maxSteps := 400000) -dsimp -implicitDefEqProofs (disch := first | exact TrueB.mk rfl | omega) only [go_sem, Nat.reduceMul, Nat.reduceAdd, Nat.reduceLT, Nat.reduceLeDiff, Nat.reducePow, Nat.reduceEqDiff, ↓reduceIte, reduceCtorEq, Int.reduceToNat, e2, g1]
    first | refine wpAct_intr rfl rfl rfl rfl (clone_bytes rfl (by omega)) ?_ | done
    simp (maxSteps := 400000) -dsimp -implicitDefEqProofs (disch := first | exact TrueB.mk rfl | omega) only [go_sem, Nat.reduceMul, Nat.reduceAdd, Nat.reduceLT, Nat.reduceLeDiff, Nat.reducePow, Nat.reduceEqDiff, ↓reduceIte, reduceCtorEq, Int.reduceToNat]
    first | exact end_row2 rfl rfl rfl (by rw [bytesOf_length]) (allScalar_bytesOf _) rfl rfl | done
end Go.Proofs.Ytpgklagjjimbhaa
