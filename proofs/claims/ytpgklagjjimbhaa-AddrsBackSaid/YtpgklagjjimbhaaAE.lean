/- YtpgklagjjimbhaaAE: addresses: what a list tells. No claim. -/
import Derived.Test.YtpgklagjjimbhaaAD
set_option linter.unusedVariables false
set_option linter.unusedSimpArgs false
set_option maxRecDepth 100000
namespace Go.Proofs.Ytpgklagjjimbhaa
open Go Go.Proofs.Ytpgklagjjimbhaa.V

def foldA (p : Int) (l : List Opt) : Adr := l.foldl (updA p) zeroA
def foldF (p : Int) (l : List Opt) (m : Bool) : Nat → Bool := l.foldl (fun f o => updF p f o m) (fun _ => true)
theorem foldA_next (p : Int) {l : List Opt} {i : Nat} (h : i < l.length) : foldA p (l.take (i + 1)) = updA p (foldA p (l.take i)) l[i] := by
  unfold foldA
  rw [← List.take_append_getElem h, List.foldl_append]
  rfl
theorem foldF_next (p : Int) {l : List Opt} {i : Nat} (h : i < l.length) (m : Bool) : foldF p (l.take (i + 1)) m = updF p (foldF p (l.take i) m) l[i] m := by
  unfold foldF
  rw [← List.take_append_getElem h, List.foldl_append]
  rfl
def allRight (p : Int) (l : List Opt) : Bool := l.all (rightP p)
def readA (p : Int) (l : List Opt) : Adr × Bool := if allRight p l = true ∧ twice l = false then (foldA p l, true) else (zeroA, false)
def flA (f : Nat → Bool) : Bool := match gather 0 (fun _ => none) (cellsA f zeroA) with
  | (.pure m _, _) => m
  | _ => false
theorem flA_eq (F : Nat → Bool) : flA F = (F 0 && (F 1 && (F 2 && (F 3 && (F 4 && (F 5 && (F 6 && (F 7 && (F 8 && (F 9 && (F 10 && (F 11 && (F 12 && (F 13 && (F 14 && (F 15 && (F 16 && (F 17 && (F 18 && (F 19 && (F 20 && (F 21 && (F 22 && (F 23 && (F 24 && (F 25 && (F 26 && (F 27 && (F 28 && (F 29 && (F 30 && (F 31 && (F 32 && (F 33 && (F 34 && (F 35 && (F 36))))))))))))))))))))))))))))))))))))) := by
  have e : flA F = (F 0 && (F 1 && (F 2 && (F 3 && (F 4 && (F 5 && (F 6 && (F 7 && (F 8 && (F 9 && (F 10 && (F 11 && (F 12 && (F 13 && (F 14 && (F 15 && (F 16 && (F 17 && (F 18 && (F 19 && (F 20 && (F 21 && (F 22 && (F 23 && (F 24 && (F 25 && (F 26 && (F 27 && (F 28 && (F 29 && (F 30 && (F 31 && (F 32 && (F 33 && (F 34 && (F 35 && (F 36 && true))))))))))))))))))))))))))))))))))))) := rfl
  rw [e, Bool.and_true]
theorem and_fun (F : Nat → Bool) : (fun j => F j && true) = F := funext fun j => Bool.and_true _
def flR (p : Int) (l : List Opt) : Bool := if allRight p l = true ∧ twice l = false then flA (foldF p l false) else true
def rightTo (p : Int) (l : List Opt) (i : Nat) : Prop := i ≤ l.length ∧ ∀ j (h : j < l.length), j < i → rightP p l[j] = true
theorem rightTo_0 (p : Int) (l : List Opt) : rightTo p l 0 := ⟨Nat.zero_le _, fun _ _ h => by omega⟩
theorem rightTo_next {p : Int} {l : List Opt} {i : Nat} (h : rightTo p l i) (h1 : i < l.length) (e : rightP p l[i] = true) : rightTo p l (i + 1) :=
  ⟨h1, fun j hj hlt => by
    by_cases hji : j = i
    · subst hji; exact e
    · exact h.2 j hj (by omega)⟩
theorem allRight_no {p : Int} {l : List Opt} {i : Nat} (h1 : i < l.length) (e : rightP p l[i] = false) : allRight p l = false := by
  unfold allRight
  rw [List.all_eq_false]
  exact ⟨_, List.getElem_mem h1, by simp [e]⟩
theorem allRight_yes {p : Int} {l : List Opt} {i : Nat} (h : rightTo p l i) (h1 : l.length ≤ i) : allRight p l = true := by
  unfold allRight
  rw [List.all_eq_true]
  intro x hx
  obtain ⟨j, hj, rfl⟩ := List.getElem_of_mem hx
  exact h.2 j hj (by omega)
theorem readA_no {p : Int} {l : List Opt} (h : ¬ (allRight p l = true ∧ twice l = false)) : readA p l = (zeroA, false) := if_neg h
theorem readA_yes {p : Int} {l : List Opt} (h : allRight p l = true ∧ twice l = false) : readA p l = (foldA p l, true) := if_pos h
theorem flR_no {p : Int} {l : List Opt} (h : ¬ (allRight p l = true ∧ twice l = false)) : flR p l = true := if_neg h
theorem flR_yes {p : Int} {l : List Opt} (h : allRight p l = true ∧ twice l = false) : flR p l = flA (foldF p l false) := if_pos h

set_option maxHeartbeats 8000000 in
theorem readA_any (p : Int) (l : List Opt) (hl : l.length ≤ 100000) (m m' : Bool) : Runs Try.prog env 59 [.pure m (.int .i64 p), .pure m' (.sl (optsV l))] [] (.tuple [.pure (flR p l) (adrV (readA p l).1), .pure true (.bool (readA p l).2)]) [] := by
  refine Runs.of Try.func59 rfl (by simp [Try.ntmps59]) ?_
  simp (maxSteps := 400000) -dsimp -implicitDefEqProofs (disch := first | exact TrueB.mk rfl | omega) only [go_sem, Nat.reduceMul, Nat.reduceAdd, Nat.reduceLT, Nat.reduceLeDiff, Nat.reducePow, Nat.reduceEqDiff, ↓reduceIte, reduceCtorEq, Int.reduceToNat, Try.ntmps59]
  refine wpLoop_ind (α := Nat)
    (fun i => ⟨[(0, .pure m (.int .i64 p)), (1, .pure m' (.sl (optsV l))), (4, .ptr 400 0), (6, .ptr 401 0), (9, .pure m' (.sl (optsV l))), (10, .pure true (.int .i64 l.length)), (11, .pure true (.int .i64 i))], [(400, .box (cellsA (fun _ => true) zeroA)), (401, .box (cellsA (foldF p (l.take i) false) (foldA p (l.take i))))]⟩)
    (fun i => rightTo p l i) (fun i => l.length - i) ?_ 0 (rightTo_0 p l) rfl
  rintro i hi
  have hi' := hi.1
  simp (maxSteps := 400000) -dsimp -implicitDefEqProofs (disch := first | exact TrueB.mk rfl | omega) only [go_sem, Nat.reduceMul, Nat.reduceAdd, Nat.reduceLT, Nat.reduceLeDiff, Nat.reducePow, Nat.reduceEqDiff, ↓reduceIte, reduceCtorEq, Int.reduceToNat]
  first | refine condK_dec (fun h1 => ?_) (fun h1 => ?_) | refine condK_ndec (fun h1 => ?_) (fun h1 => ?_) | refine condK_beq (fun h1 => ?_) (fun h1 => ?_) | refine condK_bne (fun h1 => ?_) (fun h1 => ?_) | refine condK_nbeq (fun h1 => ?_) (fun h1 => ?_) | refine guardK_dec (fun h1 => ?_) (fun h1 => ?_) | refine guardK_ndec (fun h1 => ?_) (fun h1 => ?_) | refine guardK_beq (fun h1 => ?_) (fun h1 => ?_) | refine guardK_bne (fun h1 => ?_) (fun h1 => ?_) | refine guardK_nbeq (fun h1 => ?_) (fun h1 => ?_) | refine condK_not (fun h1 => ?_) (fun h1 => ?_) | refine guardK_not (fun h1 => ?_) (fun h1 => ?_) | refine condK_bool (fun h1 => ?_) (fun h1 => ?_) | refine guardK_bool (fun h1 => ?_) (fun h1 => ?_) | done
  · have hlt : i < l.length := by omega
    have g1 := opts_at (l := l) (i := i) hlt
    have nF := foldF_next p hlt false
    have nA := foldA_next p hlt
    generalize foldF p (l.take i) false = F at *
    generalize foldA p (l.take i) = A at *
    obtain ⟨cs, c, hc, _⟩ := read_any p (l[i]'hlt) (fun j => F j && true) A (m && true) (m' && false)
    rw [and_fun, Bool.and_false] at hc
    unfold optV at c
    simp (maxSteps := 400000) -dsimp -implicitDefEqProofs (disch := first | exact TrueB.mk rfl | omega) only [go_sem, Nat.reduceMul, Nat.reduceAdd, Nat.reduceLT, Nat.reduceLeDiff, Nat.reducePow, Nat.reduceEqDiff, ↓reduceIte, reduceCtorEq, Int.reduceToNat, g1]
    first | refine wpAct_callS [401] (c) rfl rfl rfl rfl rfl rfl rfl rfl rfl rfl ?_ | done
    cases hr : rightP p (l[i]'hlt) with
    | false =>
      have hn : ¬ (allRight p l = true ∧ twice l = false) := fun h => by rw [allRight_no hlt hr] at h; cases h.1
      rw [readA_no hn, flR_no hn]
      unfold cellsA
      simp (maxSteps := 400000) -dsimp -implicitDefEqProofs (disch := first | exact TrueB.mk rfl | omega) only [go_sem, Nat.reduceMul, Nat.reduceAdd, Nat.reduceLT, Nat.reduceLeDiff, Nat.reducePow, Nat.reduceEqDiff, ↓reduceIte, reduceCtorEq, Int.reduceToNat]
      first | exact rfl | done
    | true =>
      simp (maxSteps := 400000) -dsimp -implicitDefEqProofs (disch := first | exact TrueB.mk rfl | omega) only [go_sem, Nat.reduceMul, Nat.reduceAdd, Nat.reduceLT, Nat.reduceLeDiff, Nat.reducePow, Nat.reduceEqDiff, ↓reduceIte, reduceCtorEq, Int.reduceToNat]
      rw [hc hr]
      refine again_mk ⟨i + 1, rightTo_next hi hlt hr, by show _ - (i + 1) < _ - i; omega, ?_⟩
      rw [nF, nA]
      rfl
  · have ha := allRight_yes hi (by omega)
    rw [List.take_of_length_le (by omega)]
    simp (maxSteps := 400000) -dsimp -implicitDefEqProofs (disch := first | exact TrueB.mk rfl | omega) only [go_sem, Nat.reduceMul, Nat.reduceAdd, Nat.reduceLT, Nat.reduceLeDiff, Nat.reducePow, Nat.reduceEqDiff, ↓reduceIte, reduceCtorEq, Int.reduceToNat]
    first | refine wpAct_call0 (optTwice_any l hl _) rfl rfl rfl rfl rfl rfl rfl rfl ?_ | done
    cases ht : twice l with
    | true =>
      have hn : ¬ (allRight p l = true ∧ twice l = false) := fun h => by rw [ht] at h; cases h.2
      rw [readA_no hn, flR_no hn]
      unfold cellsA
      simp (maxSteps := 400000) -dsimp -implicitDefEqProofs (disch := first | exact TrueB.mk rfl | omega) only [go_sem, Nat.reduceMul, Nat.reduceAdd, Nat.reduceLT, Nat.reduceLeDiff, Nat.reducePow, Nat.reduceEqDiff, ↓reduceIte, reduceCtorEq, Int.reduceToNat]
      first | exact rfl | done
    | false =>
      rw [readA_yes ⟨ha, ht⟩, flR_yes ⟨ha, ht⟩]
      generalize foldF p l false = F
      generalize foldA p l = A
      have hE := flA_eq F
      unfold cellsA
      cases hb : flA F with
      | true =>
        rw [hb] at hE
        simp (maxSteps := 400000) -dsimp -implicitDefEqProofs (disch := first | exact TrueB.mk rfl | omega) only [go_sem, Nat.reduceMul, Nat.reduceAdd, Nat.reduceLT, Nat.reduceLeDiff, Nat.reducePow, Nat.reduceEqDiff, ↓reduceIte, reduceCtorEq, Int.reduceToNat, hE.symm]
        first | exact rfl | done
      | false =>
        rw [hb] at hE
        simp (maxSteps := 400000) -dsimp -implicitDefEqProofs (disch := first | exact TrueB.mk rfl | omega) only [go_sem, Nat.reduceMul, Nat.reduceAdd, Nat.reduceLT, Nat.reduceLeDiff, Nat.reducePow, Nat.reduceEqDiff, ↓reduceIte, reduceCtorEq, Int.reduceToNat, hE.symm]
        first | exact rfl | done
end Go.Proofs.Ytpgklagjjimbhaa
