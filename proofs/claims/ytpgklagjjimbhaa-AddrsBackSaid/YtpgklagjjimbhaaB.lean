/- YtpgklagjjimbhaaB: lists of options that are alike. No claim. -/
import Derived.Test.YtpgklagjjimbhaaA
set_option linter.unusedVariables false
set_option linter.unusedSimpArgs false
set_option maxRecDepth 100000
namespace Go.Proofs.Ytpgklagjjimbhaa
open Go Go.Proofs.Ytpgklagjjimbhaa.V

theorem opts_at {l : List Opt} {i : Nat} (h : i < l.length) : (optsV l)[i]? = some (.agg [.int .i64 l[i].1, .sl (bytesOf l[i].2)]) := by
  rw [optsV_get, List.getElem?_eq_getElem h]; rfl

/-- As far as one has come they are alike. -/
def same (l k : List Opt) (i : Nat) : Prop := i ≤ l.length ∧ l.take i = k.take i
theorem same_0 (l k : List Opt) : same l k 0 := ⟨Nat.zero_le _, rfl⟩
theorem same_next {l k : List Opt} {i : Nat} (h : same l k i) (h1 : i < l.length) (h2 : i < k.length) (e : l[i] = k[i]) : same l k (i + 1) := by
  refine ⟨h1, ?_⟩
  rw [← List.take_append_getElem h1, ← List.take_append_getElem h2, h.2, e]
theorem same_all {l k : List Opt} {i : Nat} (h : same l k i) (h1 : l.length ≤ i) (h2 : l.length = k.length) : (l == k) = true := by
  have := h.2
  rw [List.take_of_length_le h1, List.take_of_length_le (by omega)] at this
  simp [this]
theorem same_not {l k : List Opt} {i : Nat} (h1 : i < l.length) (h2 : i < k.length) (e : l[i] ≠ k[i]) : (l == k) = false := by
  simp only [beq_eq_false_iff_ne, ne_eq]
  intro h
  subst h
  exact e rfl
theorem same_len {l k : List Opt} (h : l.length ≠ k.length) : (l == k) = false := by
  simp only [beq_eq_false_iff_ne, ne_eq]
  intro e
  exact h (by rw [e])

set_option maxHeartbeats 4000000 in
theorem refSame_any (l k : List Opt) (hl : l.length ≤ 100000) (m m' : Bool) : Runs Try.prog env 33 [.pure m (.sl (optsV l)), .pure m' (.sl (optsV k))] [] (.pure true (.bool (l == k))) [] := by
  refine Runs.of Try.func33 rfl (by simp [Try.ntmps33]) ?_
  simp (maxSteps := 400000) -dsimp -implicitDefEqProofs (disch := first | exact TrueB.mk rfl | omega) only [go_sem, Nat.reduceMul, Nat.reduceAdd, Nat.reduceLT, Nat.reduceLeDiff, Nat.reducePow, Nat.reduceEqDiff, ↓reduceIte, reduceCtorEq, Int.reduceToNat, Try.ntmps33, optsV_length]
  first | refine condK_dec (fun h => ?_) (fun h => ?_) | refine condK_ndec (fun h => ?_) (fun h => ?_) | refine condK_beq (fun h => ?_) (fun h => ?_) | refine condK_bne (fun h => ?_) (fun h => ?_) | refine condK_nbeq (fun h => ?_) (fun h => ?_) | refine guardK_dec (fun h => ?_) (fun h => ?_) | refine guardK_ndec (fun h => ?_) (fun h => ?_) | refine guardK_beq (fun h => ?_) (fun h => ?_) | refine guardK_bne (fun h => ?_) (fun h => ?_) | refine guardK_nbeq (fun h => ?_) (fun h => ?_) | refine condK_not (fun h => ?_) (fun h => ?_) | refine guardK_not (fun h => ?_) (fun h => ?_) | refine condK_bool (fun h => ?_) (fun h => ?_) | refine guardK_bool (fun h => ?_) (fun h => ?_) | done
  · simp (maxSteps := 400000) -dsimp -implicitDefEqProofs (disch := first | exact TrueB.mk rfl | omega) only [go_sem, Nat.reduceMul, Nat.reduceAdd, Nat.reduceLT, Nat.reduceLeDiff, Nat.reducePow, Nat.reduceEqDiff, ↓reduceIte, reduceCtorEq, Int.reduceToNat]
    exact end_bool rfl (same_len (by omega)).symm
  simp (maxSteps := 400000) -dsimp -implicitDefEqProofs (disch := first | exact TrueB.mk rfl | omega) only [go_sem, Nat.reduceMul, Nat.reduceAdd, Nat.reduceLT, Nat.reduceLeDiff, Nat.reducePow, Nat.reduceEqDiff, ↓reduceIte, reduceCtorEq, Int.reduceToNat]
  refine wpLoop_ind (α := Nat)
    (fun i => ⟨[(0, .pure m (.sl (optsV l))), (1, .pure m' (.sl (optsV k))), (5, .pure true (.int .i64 i))], []⟩)
    (fun i => same l k i) (fun i => l.length - i) ?_ 0 (same_0 l k) rfl
  rintro i hi
  have hi' := hi.1
  simp (maxSteps := 400000) -dsimp -implicitDefEqProofs (disch := first | exact TrueB.mk rfl | omega) only [go_sem, Nat.reduceMul, Nat.reduceAdd, Nat.reduceLT, Nat.reduceLeDiff, Nat.reducePow, Nat.reduceEqDiff, ↓reduceIte, reduceCtorEq, Int.reduceToNat, optsV_length]
  first | refine condK_dec (fun h1 => ?_) (fun h1 => ?_) | refine condK_ndec (fun h1 => ?_) (fun h1 => ?_) | refine condK_beq (fun h1 => ?_) (fun h1 => ?_) | refine condK_bne (fun h1 => ?_) (fun h1 => ?_) | refine condK_nbeq (fun h1 => ?_) (fun h1 => ?_) | refine guardK_dec (fun h1 => ?_) (fun h1 => ?_) | refine guardK_ndec (fun h1 => ?_) (fun h1 => ?_) | refine guardK_beq (fun h1 => ?_) (fun h1 => ?_) | refine guardK_bne (fun h1 => ?_) (fun h1 => ?_) | refine guardK_nbeq (fun h1 => ?_) (fun h1 => ?_) | refine condK_not (fun h1 => ?_) (fun h1 => ?_) | refine guardK_not (fun h1 => ?_) (fun h1 => ?_) | refine condK_bool (fun h1 => ?_) (fun h1 => ?_) | refine guardK_bool (fun h1 => ?_) (fun h1 => ?_) | done
  · have g1 := opts_at (l := l) (i := i) (by omega)
    have g2 := opts_at (l := k) (i := i) (by omega)
    simp (maxSteps := 400000) -dsimp -implicitDefEqProofs (disch := first | exact TrueB.mk rfl | omega) only [go_sem, Nat.reduceMul, Nat.reduceAdd, Nat.reduceLT, Nat.reduceLeDiff, Nat.reducePow, Nat.reduceEqDiff, ↓reduceIte, reduceCtorEq, Int.reduceToNat, g1, g2, optsV_length]
    first | refine wpAct_call0 (one_any l[i] k[i] _ _) rfl rfl rfl rfl rfl rfl rfl rfl ?_ | done
    simp (maxSteps := 400000) -dsimp -implicitDefEqProofs (disch := first | exact TrueB.mk rfl | omega) only [go_sem, Nat.reduceMul, Nat.reduceAdd, Nat.reduceLT, Nat.reduceLeDiff, Nat.reducePow, Nat.reduceEqDiff, ↓reduceIte, reduceCtorEq, Int.reduceToNat]
    first | refine condK_dec (fun h2 => ?_) (fun h2 => ?_) | refine condK_ndec (fun h2 => ?_) (fun h2 => ?_) | refine condK_beq (fun h2 => ?_) (fun h2 => ?_) | refine condK_bne (fun h2 => ?_) (fun h2 => ?_) | refine condK_nbeq (fun h2 => ?_) (fun h2 => ?_) | refine guardK_dec (fun h2 => ?_) (fun h2 => ?_) | refine guardK_ndec (fun h2 => ?_) (fun h2 => ?_) | refine guardK_beq (fun h2 => ?_) (fun h2 => ?_) | refine guardK_bne (fun h2 => ?_) (fun h2 => ?_) | refine guardK_nbeq (fun h2 => ?_) (fun h2 => ?_) | refine condK_not (fun h2 => ?_) (fun h2 => ?_) | refine guardK_not (fun h2 => ?_) (fun h2 => ?_) | refine condK_bool (fun h2 => ?_) (fun h2 => ?_) | refine guardK_bool (fun h2 => ?_) (fun h2 => ?_) | done
    · simp (maxSteps := 400000) -dsimp -implicitDefEqProofs (disch := first | exact TrueB.mk rfl | omega) only [go_sem, Nat.reduceMul, Nat.reduceAdd, Nat.reduceLT, Nat.reduceLeDiff, Nat.reducePow, Nat.reduceEqDiff, ↓reduceIte, reduceCtorEq, Int.reduceToNat]
      exact end_bool rfl (same_not (by omega) (by omega) h2).symm
    · simp (maxSteps := 400000) -dsimp -implicitDefEqProofs (disch := first | exact TrueB.mk rfl | omega) only [go_sem, Nat.reduceMul, Nat.reduceAdd, Nat.reduceLT, Nat.reduceLeDiff, Nat.reducePow, Nat.reduceEqDiff, ↓reduceIte, reduceCtorEq, Int.reduceToNat]
      have h3 := same_next hi (by omega) (by omega) h2
      exact again_mk ⟨i + 1, h3, by show _ - (i + 1) < _ - i; omega, rfl⟩
  · simp (maxSteps := 400000) -dsimp -implicitDefEqProofs (disch := first | exact TrueB.mk rfl | omega) only [go_sem, Nat.reduceMul, Nat.reduceAdd, Nat.reduceLT, Nat.reduceLeDiff, Nat.reducePow, Nat.reduceEqDiff, ↓reduceIte, reduceCtorEq, Int.reduceToNat]
    exact end_bool rfl (same_all hi (by omega) (by omega)).symm
end Go.Proofs.Ytpgklagjjimbhaa
