/- YtpgklagjjimbhaaAA: addresses: what is known; what is right, by the document. No claim. -/
import Derived.Test.YtpgklagjjimbhaaG
set_option linter.unusedVariables false
set_option linter.unusedSimpArgs false
set_option maxRecDepth 100000
namespace Go.Proofs.Ytpgklagjjimbhaa
open Go Go.Proofs.Ytpgklagjjimbhaa.V

set_option maxRecDepth 10000 in
theorem awake15_any : Runs Try.prog env 54 [] [] (.pure true (.bool true)) [] := ⟨60, by kernel_rfl⟩

def knownP (p t : Int) : Bool := if p = 32801 then decide (t = 2 ∨ t = 3 ∨ (129 ≤ t ∧ t ≤ 132)) else if p = 32855 then decide (t = 1) else false

set_option maxHeartbeats 4000000 in
theorem known_any (p t : Int) (m m' : Bool) : Runs Try.prog env 55 [.pure m (.int .i64 p), .pure m' (.int .i64 t)] [] (.pure true (.bool (knownP p t))) [] := by
  refine Runs.of Try.func55 rfl (by simp [Try.ntmps55]) ?_
  unfold knownP
  rcases Classical.em (p = 32801) with rfl | h1
  · rw [if_pos rfl]
    rcases Classical.em (t = 2) with rfl | h2
    · simp (maxSteps := 400000) -dsimp -implicitDefEqProofs (disch := first | exact TrueB.mk rfl | omega) only [go_sem, Nat.reduceMul, Nat.reduceAdd, Nat.reduceLT, Nat.reduceLeDiff, Nat.reducePow, Nat.reduceEqDiff, ↓reduceIte, reduceCtorEq, Int.reduceToNat, Try.ntmps55]
      first | exact end_bool rfl rfl | done
    · rcases Classical.em (t = 3) with rfl | h3
      · simp (maxSteps := 400000) -dsimp -implicitDefEqProofs (disch := first | exact TrueB.mk rfl | omega) only [go_sem, Nat.reduceMul, Nat.reduceAdd, Nat.reduceLT, Nat.reduceLeDiff, Nat.reducePow, Nat.reduceEqDiff, ↓reduceIte, reduceCtorEq, Int.reduceToNat, Try.ntmps55]
        first | exact end_bool rfl rfl | done
      · rcases Classical.em (129 ≤ t) with h4 | h4
        · simp (maxSteps := 400000) -dsimp -implicitDefEqProofs (disch := first | exact TrueB.mk rfl | omega) only [go_sem, Nat.reduceMul, Nat.reduceAdd, Nat.reduceLT, Nat.reduceLeDiff, Nat.reducePow, Nat.reduceEqDiff, ↓reduceIte, reduceCtorEq, Int.reduceToNat, Try.ntmps55]
          first | exact end_bool rfl (by simp [h2, h3, h4]) | done
        · simp (maxSteps := 400000) -dsimp -implicitDefEqProofs (disch := first | exact TrueB.mk rfl | omega) only [go_sem, Nat.reduceMul, Nat.reduceAdd, Nat.reduceLT, Nat.reduceLeDiff, Nat.reducePow, Nat.reduceEqDiff, ↓reduceIte, reduceCtorEq, Int.reduceToNat, Try.ntmps55]
          first | exact end_bool rfl (by simp [h2, h3, h4]) | done
  · rw [if_neg h1]
    rcases Classical.em (p = 32855) with rfl | h2
    · rw [if_pos rfl]
      simp (maxSteps := 400000) -dsimp -implicitDefEqProofs (disch := first | exact TrueB.mk rfl | omega) only [go_sem, Nat.reduceMul, Nat.reduceAdd, Nat.reduceLT, Nat.reduceLeDiff, Nat.reducePow, Nat.reduceEqDiff, ↓reduceIte, reduceCtorEq, Int.reduceToNat, Try.ntmps55]
      first | exact end_bool rfl rfl | done
    · rw [if_neg h2]
      simp (maxSteps := 400000) -dsimp -implicitDefEqProofs (disch := first | exact TrueB.mk rfl | omega) only [go_sem, Nat.reduceMul, Nat.reduceAdd, Nat.reduceLT, Nat.reduceLeDiff, Nat.reducePow, Nat.reduceEqDiff, ↓reduceIte, reduceCtorEq, Int.reduceToNat, Try.ntmps55]
      first | exact end_bool rfl rfl | done

set_option maxHeartbeats 4000000 in
theorem refKnown_any (p t : Int) (m m' : Bool) : Runs Try.prog env 56 [.pure m (.int .i64 p), .pure m' (.int .i64 t)] [] (.pure true (.bool (knownP p t))) [] := by
  refine Runs.of Try.func56 rfl (by simp [Try.ntmps56]) ?_
  unfold knownP
  rcases Classical.em (p = 32801) with rfl | h1
  · rw [if_pos rfl]
    rcases Classical.em (t = 2) with rfl | h2
    · simp (maxSteps := 400000) -dsimp -implicitDefEqProofs (disch := first | exact TrueB.mk rfl | omega) only [go_sem, Nat.reduceMul, Nat.reduceAdd, Nat.reduceLT, Nat.reduceLeDiff, Nat.reducePow, Nat.reduceEqDiff, ↓reduceIte, reduceCtorEq, Int.reduceToNat, Try.ntmps56]
      first | exact end_bool rfl rfl | done
    · rcases Classical.em (t = 3) with rfl | h3
      · simp (maxSteps := 400000) -dsimp -implicitDefEqProofs (disch := first | exact TrueB.mk rfl | omega) only [go_sem, Nat.reduceMul, Nat.reduceAdd, Nat.reduceLT, Nat.reduceLeDiff, Nat.reducePow, Nat.reduceEqDiff, ↓reduceIte, reduceCtorEq, Int.reduceToNat, Try.ntmps56]
        first | exact end_bool rfl rfl | done
      · rcases Classical.em (129 ≤ t) with h4 | h4
        · simp (maxSteps := 400000) -dsimp -implicitDefEqProofs (disch := first | exact TrueB.mk rfl | omega) only [go_sem, Nat.reduceMul, Nat.reduceAdd, Nat.reduceLT, Nat.reduceLeDiff, Nat.reducePow, Nat.reduceEqDiff, ↓reduceIte, reduceCtorEq, Int.reduceToNat, Try.ntmps56]
          first | exact end_bool rfl (by simp [h2, h3, h4]) | done
        · simp (maxSteps := 400000) -dsimp -implicitDefEqProofs (disch := first | exact TrueB.mk rfl | omega) only [go_sem, Nat.reduceMul, Nat.reduceAdd, Nat.reduceLT, Nat.reduceLeDiff, Nat.reducePow, Nat.reduceEqDiff, ↓reduceIte, reduceCtorEq, Int.reduceToNat, Try.ntmps56]
          first | exact end_bool rfl (by simp [h2, h3, h4]) | done
  · rw [if_neg h1]
    rcases Classical.em (p = 32855) with rfl | h2
    · rw [if_pos rfl]
      simp (maxSteps := 400000) -dsimp -implicitDefEqProofs (disch := first | exact TrueB.mk rfl | omega) only [go_sem, Nat.reduceMul, Nat.reduceAdd, Nat.reduceLT, Nat.reduceLeDiff, Nat.reducePow, Nat.reduceEqDiff, ↓reduceIte, reduceCtorEq, Int.reduceToNat, Try.ntmps56]
      first | exact end_bool rfl rfl | done
    · rw [if_neg h2]
      simp (maxSteps := 400000) -dsimp -implicitDefEqProofs (disch := first | exact TrueB.mk rfl | omega) only [go_sem, Nat.reduceMul, Nat.reduceAdd, Nat.reduceLT, Nat.reduceLeDiff, Nat.reducePow, Nat.reduceEqDiff, ↓reduceIte, reduceCtorEq, Int.reduceToNat, Try.ntmps56]
      first | exact end_bool rfl rfl | done

def someB (l : List UInt8) : Bool := l.any fun c => decide (¬ (c.toNat : Int) = 0)
def vjOk : List UInt8 → Bool
  | [a, b, _, d] => decide ((a.toNat : Int) = 0) && decide ((b.toNat : Int) = 45) && decide ((d.toNat : Int) < 2)
  | _ => false
def rightP (p : Int) (o : Opt) : Bool := knownP p o.1 && (if p = 32855 then decide ((o.2.length : Int) = 8) && someB o.2 else decide ((o.2.length : Int) = 4) && (decide (¬ o.1 = 2) || vjOk o.2))
theorem some_next {l : List UInt8} {i : Nat} (h : i < l.length) : someB (l.take (i + 1)) = (someB (l.take i) || decide (¬ (l[i].toNat : Int) = 0)) := by
  unfold someB
  rw [← List.take_append_getElem h, List.any_append]
  simp
theorem four_of {l : List UInt8} (h : (l.length : Int) = 4) : ∃ a b c d, l = [a, b, c, d] := by
  match l, h with
  | [a, b, c, d], _ => exact ⟨a, b, c, d, rfl⟩
  | [], h => simp at h
  | [_], h => simp at h
  | [_, _], h => simp at h
  | [_, _, _], h => simp at h
  | _ :: _ :: _ :: _ :: _ :: r, h => simp only [List.length_cons] at h; omega

set_option maxHeartbeats 8000000 in
theorem refRight_any (p : Int) (o : Opt) (ho : o.2.length ≤ 100000) (m m' : Bool) : Runs Try.prog env 58 [.pure m (.int .i64 p), .pure m' (optV o)] [] (.pure true (.bool (rightP p o))) [] := by
  have c1 := refKnown_any p o.1
  unfold rightP optV
  refine Runs.of Try.func58 rfl (by simp [Try.ntmps58]) ?_
  simp (maxSteps := 400000) -dsimp -implicitDefEqProofs (disch := first | exact TrueB.mk rfl | omega) only [go_sem, Nat.reduceMul, Nat.reduceAdd, Nat.reduceLT, Nat.reduceLeDiff, Nat.reducePow, Nat.reduceEqDiff, ↓reduceIte, reduceCtorEq, Int.reduceToNat, Try.ntmps58]
  first | refine wpAct_call0 (c1 _ _) rfl rfl rfl rfl rfl rfl rfl rfl ?_ | done
  cases hk : knownP p o.1 with
  | false =>
    simp (maxSteps := 400000) -dsimp -implicitDefEqProofs (disch := first | exact TrueB.mk rfl | omega) only [go_sem, Nat.reduceMul, Nat.reduceAdd, Nat.reduceLT, Nat.reduceLeDiff, Nat.reducePow, Nat.reduceEqDiff, ↓reduceIte, reduceCtorEq, Int.reduceToNat]
    first | exact end_bool rfl rfl | done
  | true =>
  rcases Classical.em (p = 32855) with rfl | h1
  · rw [if_pos rfl]
    simp (maxSteps := 400000) -dsimp -implicitDefEqProofs (disch := first | exact TrueB.mk rfl | omega) only [go_sem, Nat.reduceMul, Nat.reduceAdd, Nat.reduceLT, Nat.reduceLeDiff, Nat.reducePow, Nat.reduceEqDiff, ↓reduceIte, reduceCtorEq, Int.reduceToNat]
    refine wpLoop_ind (α := Nat)
      (fun i => ⟨[(3, .ptr 1040 0), (5, .pure true (.bool (someB (o.2.take i)))), (6, .pure true (.int .i64 i))], [(1040, .box [.pure m' (.int .i64 o.1), .pure m' (.sl (bytesOf o.2))])]⟩)
      (fun i => i ≤ o.2.length) (fun i => o.2.length - i) ?_ 0 (by simp) rfl
    rintro i hi
    simp (maxSteps := 400000) -dsimp -implicitDefEqProofs (disch := first | exact TrueB.mk rfl | omega) only [go_sem, Nat.reduceMul, Nat.reduceAdd, Nat.reduceLT, Nat.reduceLeDiff, Nat.reducePow, Nat.reduceEqDiff, ↓reduceIte, reduceCtorEq, Int.reduceToNat]
    first | refine condK_dec (fun h2 => ?_) (fun h2 => ?_) | refine condK_ndec (fun h2 => ?_) (fun h2 => ?_) | refine condK_beq (fun h2 => ?_) (fun h2 => ?_) | refine condK_bne (fun h2 => ?_) (fun h2 => ?_) | refine condK_nbeq (fun h2 => ?_) (fun h2 => ?_) | refine guardK_dec (fun h2 => ?_) (fun h2 => ?_) | refine guardK_ndec (fun h2 => ?_) (fun h2 => ?_) | refine guardK_beq (fun h2 => ?_) (fun h2 => ?_) | refine guardK_bne (fun h2 => ?_) (fun h2 => ?_) | refine guardK_nbeq (fun h2 => ?_) (fun h2 => ?_) | refine condK_not (fun h2 => ?_) (fun h2 => ?_) | refine guardK_not (fun h2 => ?_) (fun h2 => ?_) | refine condK_bool (fun h2 => ?_) (fun h2 => ?_) | refine guardK_bool (fun h2 => ?_) (fun h2 => ?_) | done
    · have hlt : i < o.2.length := by omega
      have g1 : (bytesOf o.2)[i]? = some (.int .u8 (o.2[i].toNat : Int)) := by rw [bytesOf_get, List.getElem?_eq_getElem hlt]; rfl
      have g2 := some_next hlt
      cases hs : someB (o.2.take i) with
      | true =>
        rw [hs] at g2
        simp (maxSteps := 400000) -dsimp -implicitDefEqProofs (disch := first | exact TrueB.mk rfl | omega) only [go_sem, Nat.reduceMul, Nat.reduceAdd, Nat.reduceLT, Nat.reduceLeDiff, Nat.reducePow, Nat.reduceEqDiff, ↓reduceIte, reduceCtorEq, Int.reduceToNat, hs]
        first | exact again_mk ⟨i + 1, by omega, by omega, by rw [g2]; rfl⟩ | done
      | false =>
        rw [hs] at g2
        rcases Classical.em ((o.2[i].toNat : Int) = 0) with h3 | h3
        · simp (maxSteps := 400000) -dsimp -implicitDefEqProofs (disch := first | exact TrueB.mk rfl | omega) only [go_sem, Nat.reduceMul, Nat.reduceAdd, Nat.reduceLT, Nat.reduceLeDiff, Nat.reducePow, Nat.reduceEqDiff, ↓reduceIte, reduceCtorEq, Int.reduceToNat, hs, g1, h3]
          first | exact again_mk ⟨i + 1, by omega, by omega, by rw [g2, decide_eq_false (by simpa using h3)]; rfl⟩ | done
        · simp (maxSteps := 400000) -dsimp -implicitDefEqProofs (disch := first | exact TrueB.mk rfl | omega) only [go_sem, Nat.reduceMul, Nat.reduceAdd, Nat.reduceLT, Nat.reduceLeDiff, Nat.reducePow, Nat.reduceEqDiff, ↓reduceIte, reduceCtorEq, Int.reduceToNat, hs, g1, h3]
          first | exact again_mk ⟨i + 1, by omega, by omega, by rw [g2, decide_eq_true h3]; rfl⟩ | done
    · rw [List.take_of_length_le (by omega)]
      rcases Classical.em ((o.2.length : Int) = 8) with h3 | h3
      · simp (maxSteps := 400000) -dsimp -implicitDefEqProofs (disch := first | exact TrueB.mk rfl | omega) only [go_sem, Nat.reduceMul, Nat.reduceAdd, Nat.reduceLT, Nat.reduceLeDiff, Nat.reducePow, Nat.reduceEqDiff, ↓reduceIte, reduceCtorEq, Int.reduceToNat, h3]
        first | exact end_bool rfl (by simp [h3]) | done
      · simp (maxSteps := 400000) -dsimp -implicitDefEqProofs (disch := first | exact TrueB.mk rfl | omega) only [go_sem, Nat.reduceMul, Nat.reduceAdd, Nat.reduceLT, Nat.reduceLeDiff, Nat.reducePow, Nat.reduceEqDiff, ↓reduceIte, reduceCtorEq, Int.reduceToNat, h3]
        first | exact end_bool rfl (by simp [h3]) | done
  · rw [if_neg h1]
    rcases Classical.em ((o.2.length : Int) = 4) with h2 | h2
    rotate_left
    · simp (maxSteps := 400000) -dsimp -implicitDefEqProofs (disch := first | exact TrueB.mk rfl | omega) only [go_sem, Nat.reduceMul, Nat.reduceAdd, Nat.reduceLT, Nat.reduceLeDiff, Nat.reducePow, Nat.reduceEqDiff, ↓reduceIte, reduceCtorEq, Int.reduceToNat, h2]
      first | exact end_bool rfl (by simp [h2]) | done
    obtain ⟨a, b, c, d, e⟩ := four_of h2
    rcases Classical.em (o.1 = 2) with h3 | h3
    rotate_left
    · simp (maxSteps := 400000) -dsimp -implicitDefEqProofs (disch := first | exact TrueB.mk rfl | omega) only [go_sem, Nat.reduceMul, Nat.reduceAdd, Nat.reduceLT, Nat.reduceLeDiff, Nat.reducePow, Nat.reduceEqDiff, ↓reduceIte, reduceCtorEq, Int.reduceToNat, h2]
      first | exact end_bool rfl (by simp [h2, h3]) | done
    rw [e]
    have q0 : (bytesOf [a, b, c, d])[0]? = some (.int .u8 (a.toNat : Int)) := rfl
    have q1 : (bytesOf [a, b, c, d])[1]? = some (.int .u8 (b.toNat : Int)) := rfl
    have q3 : (bytesOf [a, b, c, d])[3]? = some (.int .u8 (d.toNat : Int)) := rfl
    rw [e] at h2
    rcases Classical.em ((a.toNat : Int) = 0) with h4 | h4
    rotate_left
    · simp (maxSteps := 400000) -dsimp -implicitDefEqProofs (disch := first | exact TrueB.mk rfl | omega) only [go_sem, Nat.reduceMul, Nat.reduceAdd, Nat.reduceLT, Nat.reduceLeDiff, Nat.reducePow, Nat.reduceEqDiff, ↓reduceIte, reduceCtorEq, Int.reduceToNat, h2, q0, q1, q3]
      first | exact end_bool rfl (by simp only [vjOk, decide_eq_false h4]; simp [h3]) | done
    rcases Classical.em ((b.toNat : Int) = 45) with h5 | h5
    rotate_left
    · simp (maxSteps := 400000) -dsimp -implicitDefEqProofs (disch := first | exact TrueB.mk rfl | omega) only [go_sem, Nat.reduceMul, Nat.reduceAdd, Nat.reduceLT, Nat.reduceLeDiff, Nat.reducePow, Nat.reduceEqDiff, ↓reduceIte, reduceCtorEq, Int.reduceToNat, h2, q0, q1, q3]
      first | exact end_bool rfl (by simp only [vjOk, decide_eq_true h4, decide_eq_false h5]; simp [h3]) | done
    simp (maxSteps := 400000) -dsimp -implicitDefEqProofs (disch := first | exact TrueB.mk rfl | omega) only [go_sem, Nat.reduceMul, Nat.reduceAdd, Nat.reduceLT, Nat.reduceLeDiff, Nat.reducePow, Nat.reduceEqDiff, ↓reduceIte, reduceCtorEq, Int.reduceToNat, h2, q0, q1, q3]
    first | exact end_bool rfl (by simp only [vjOk, decide_eq_true h4, decide_eq_true h5]; simp [h3]) | done
end Go.Proofs.Ytpgklagjjimbhaa
