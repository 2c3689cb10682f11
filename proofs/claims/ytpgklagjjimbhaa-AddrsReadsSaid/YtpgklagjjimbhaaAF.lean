/- YtpgklagjjimbhaaAF: addresses: what a list tells, by the document. No claim. -/
import Derived.Test.YtpgklagjjimbhaaAE
set_option linter.unusedVariables false
set_option linter.unusedSimpArgs false
set_option maxRecDepth 100000
namespace Go.Proofs.Ytpgklagjjimbhaa
open Go Go.Proofs.Ytpgklagjjimbhaa.V

theorem right_eight {o : Opt} (h : rightP 32855 o = true) : ∃ x0 x1 x2 x3 x4 x5 x6 x7, o.2 = [x0, x1, x2, x3, x4, x5, x6, x7] := by
  unfold rightP at h
  rw [if_pos rfl, Bool.and_eq_true, Bool.and_eq_true] at h
  have hl := of_decide_eq_true h.2.1
  rcases len_cases o.2 with h | ⟨x0, h⟩ | ⟨x0, x1, h⟩ | ⟨x0, x1, x2, h⟩ | ⟨x0, x1, x2, x3, h⟩ | ⟨x0, x1, x2, x3, x4, h⟩ | ⟨x0, x1, x2, x3, x4, x5, h⟩ | ⟨x0, x1, x2, x3, x4, x5, x6, h⟩ | ⟨x0, x1, x2, x3, x4, x5, x6, x7, h⟩ | ⟨x0, x1, x2, x3, x4, x5, x6, x7, r, hr, h⟩
  · rw [h] at hl; simp at hl
  · rw [h] at hl; simp at hl
  · rw [h] at hl; simp at hl
  · rw [h] at hl; simp at hl
  · rw [h] at hl; simp at hl
  · rw [h] at hl; simp at hl
  · rw [h] at hl; simp at hl
  · rw [h] at hl; simp at hl
  · exact ⟨_, _, _, _, _, _, _, _, h⟩
  · rw [h] at hl; simp only [List.length_cons] at hl; omega
theorem right_four {p : Int} {o : Opt} (h1 : ¬ p = 32855) (h : rightP p o = true) : (∃ x0 x1 x2 x3, o.2 = [x0, x1, x2, x3]) ∧ (o.1 = 2 ∨ o.1 = 3 ∨ o.1 = 129 ∨ o.1 = 130 ∨ o.1 = 131 ∨ o.1 = 132) := by
  unfold rightP at h
  rw [if_neg h1, Bool.and_eq_true, Bool.and_eq_true] at h
  obtain ⟨_, h4⟩ := knownP_ipc h1 h.1
  exact ⟨four_of (of_decide_eq_true h.2.1), by omega⟩
def idA (A : Adr) (x0 x1 x2 x3 x4 x5 x6 x7 : UInt8) (k : Nat) : Adr := { A with hasId := true, id := ⟨if 0 < k then x0 else A.id.a, if 1 < k then x1 else A.id.b, if 2 < k then x2 else A.id.c, if 3 < k then x3 else A.id.d, if 4 < k then x4 else A.id.e, if 5 < k then x5 else A.id.f, if 6 < k then x6 else A.id.g, if 7 < k then x7 else A.id.h⟩ }
def idF (F : Nat → Bool) (k : Nat) : Nat → Bool := fun j => match j with | 28 => true | 29 => if 0 < k then false else F 29 | 30 => if 1 < k then false else F 30 | 31 => if 2 < k then false else F 31 | 32 => if 3 < k then false else F 32 | 33 => if 4 < k then false else F 33 | 34 => if 5 < k then false else F 34 | 35 => if 6 < k then false else F 35 | 36 => if 7 < k then false else F 36 | j => F j

set_option maxHeartbeats 16000000 in
theorem refReadA_any (p : Int) (l : List Opt) (hl : l.length ≤ 100000) (hd : ∀ o ∈ l, o.2.length ≤ 100000) (m : Bool) : Runs Try.prog env 60 [.pure m (.int .i64 p), .pure false (.sl (optsV l))] [] (.tuple [.pure (flR p l) (adrV (readA p l).1), .pure true (.bool (readA p l).2)]) [] := by
  refine Runs.of Try.func60 rfl (by simp [Try.ntmps60]) ?_
  simp (maxSteps := 400000) -dsimp -implicitDefEqProofs (disch := first | exact TrueB.mk rfl | omega) only [go_sem, Nat.reduceMul, Nat.reduceAdd, Nat.reduceLT, Nat.reduceLeDiff, Nat.reducePow, Nat.reduceEqDiff, ↓reduceIte, reduceCtorEq, Int.reduceToNat, Try.ntmps60]
  refine wpLoop_ind (α := Nat)
    (fun i => ⟨[(0, .pure m (.int .i64 p)), (1, .pure false (.sl (optsV l))), (4, .ptr 1568 0), (6, .ptr 1569 0), (7, .pure true (.int .i64 i))], [(1568, .box (cellsA (fun _ => true) zeroA)), (1569, .box (cellsA (foldF p (l.take i) false) (foldA p (l.take i))))]⟩)
    (fun i => rightTo p l i ∧ ((l.take i).map (·.1)).Nodup) (fun i => l.length - i) ?_ 0 ⟨rightTo_0 p l, by simp⟩ rfl
  rintro i ⟨hi, hnd⟩
  have hi' := hi.1
  simp (maxSteps := 400000) -dsimp -implicitDefEqProofs (disch := first | exact TrueB.mk rfl | omega) only [go_sem, Nat.reduceMul, Nat.reduceAdd, Nat.reduceLT, Nat.reduceLeDiff, Nat.reducePow, Nat.reduceEqDiff, ↓reduceIte, reduceCtorEq, Int.reduceToNat]
  first | refine condK_dec (fun h1 => ?_) (fun h1 => ?_) | refine condK_ndec (fun h1 => ?_) (fun h1 => ?_) | refine condK_beq (fun h1 => ?_) (fun h1 => ?_) | refine condK_bne (fun h1 => ?_) (fun h1 => ?_) | refine condK_nbeq (fun h1 => ?_) (fun h1 => ?_) | refine guardK_dec (fun h1 => ?_) (fun h1 => ?_) | refine guardK_ndec (fun h1 => ?_) (fun h1 => ?_) | refine guardK_beq (fun h1 => ?_) (fun h1 => ?_) | refine guardK_bne (fun h1 => ?_) (fun h1 => ?_) | refine guardK_nbeq (fun h1 => ?_) (fun h1 => ?_) | refine condK_not (fun h1 => ?_) (fun h1 => ?_) | refine guardK_not (fun h1 => ?_) (fun h1 => ?_) | refine condK_bool (fun h1 => ?_) (fun h1 => ?_) | refine guardK_bool (fun h1 => ?_) (fun h1 => ?_) | done
  rotate_left
  · have ha := allRight_yes hi (by omega)
    have ht := twice_no (l := l) (i := i) (by omega) hnd
    rw [List.take_of_length_le (by omega)]
    rw [readA_yes ⟨ha, ht⟩, flR_yes ⟨ha, ht⟩]
    generalize foldF p l false = F
    generalize foldA p l = A
    have hE := flA_eq F
    unfold cellsA
    cases hb : flA F with
    | true =>
      rw [hb] at hE
      simp (maxSteps := 400000) -dsimp -implicitDefEqProofs (disch := first | exact TrueB.mk rfl | omega) only [go_sem, Nat.reduceMul, Nat.reduceAdd, Nat.reduceLT, Nat.reduceLeDiff, Nat.reducePow, Nat.reduceEqDiff, ↓reduceIte, reduceCtorEq, Int.reduceToNat, hE.symm]
      first | exact rfl | done
    | false =>
      rw [hb] at hE
      simp (maxSteps := 400000) -dsimp -implicitDefEqProofs (disch := first | exact TrueB.mk rfl | omega) only [go_sem, Nat.reduceMul, Nat.reduceAdd, Nat.reduceLT, Nat.reduceLeDiff, Nat.reducePow, Nat.reduceEqDiff, ↓reduceIte, reduceCtorEq, Int.reduceToNat, hE.symm]
      first | exact rfl | done
  have hlt : i < l.length := by omega
  have g1 := opts_at (l := l) (i := i) hlt
  have nF := foldF_next p hlt false
  have nA := foldA_next p hlt
  generalize foldF p (l.take i) false = F at *
  generalize foldA p (l.take i) = A at *
  have c1 := refRight_any p (l[i]'hlt) (hd _ (List.getElem_mem hlt))
  unfold optV at c1
  simp (maxSteps := 400000) -dsimp -implicitDefEqProofs (disch := first | exact TrueB.mk rfl | omega) only [go_sem, Nat.reduceMul, Nat.reduceAdd, Nat.reduceLT, Nat.reduceLeDiff, Nat.reducePow, Nat.reduceEqDiff, ↓reduceIte, reduceCtorEq, Int.reduceToNat, g1]
  first | refine wpAct_call0 (c1 _ _) rfl rfl rfl rfl rfl rfl rfl rfl ?_ | done
  cases hr : rightP p (l[i]'hlt) with
  | false =>
    have hn : ¬ (allRight p l = true ∧ twice l = false) := fun h => by rw [allRight_no hlt hr] at h; cases h.1
    rw [readA_no hn, flR_no hn]
    unfold cellsA
    simp (maxSteps := 400000) -dsimp -implicitDefEqProofs (disch := first | exact TrueB.mk rfl | omega) only [go_sem, Nat.reduceMul, Nat.reduceAdd, Nat.reduceLT, Nat.reduceLeDiff, Nat.reducePow, Nat.reduceEqDiff, ↓reduceIte, reduceCtorEq, Int.reduceToNat]
    first | exact rfl | done
  | true =>
  have hfm := findO_mem (l.take i) (l[i]'hlt).1
  simp (maxSteps := 400000) -dsimp -implicitDefEqProofs (disch := first | exact TrueB.mk rfl | omega) only [go_sem, Nat.reduceMul, Nat.reduceAdd, Nat.reduceLT, Nat.reduceLeDiff, Nat.reducePow, Nat.reduceEqDiff, ↓reduceIte, reduceCtorEq, Int.reduceToNat, optsV_take, allW_optsV, List.drop_zero, Nat.sub_zero]
  first | refine wpAct_call0 (refFind_any (l.take i) (l[i]'hlt).1 (by rw [List.length_take]; omega) _ _) rfl rfl rfl rfl rfl rfl rfl rfl ?_ | done
  cases hf : findO (l.take i) (l[i]'hlt).1 with
  | some j =>
    have e2 : idxI (some j) = j := rfl
    have h2 : (l[i]'hlt).1 ∈ (l.take i).map (·.1) := by rw [hf] at hfm; simpa using hfm.symm
    have hn : ¬ (allRight p l = true ∧ twice l = false) := fun h => by rw [twice_at hlt h2] at h; cases h.2
    rw [readA_no hn, flR_no hn]
    unfold cellsA
    simp (maxSteps := 400000) -dsimp -implicitDefEqProofs (disch := first | exact TrueB.mk rfl | omega) only [go_sem, Nat.reduceMul, Nat.reduceAdd, Nat.reduceLT, Nat.reduceLeDiff, Nat.reducePow, Nat.reduceEqDiff, ↓reduceIte, reduceCtorEq, Int.reduceToNat, e2]
    first | exact rfl | done
  | none =>
  have e2 : idxI none = -1 := rfl
  have hmem : (l[i]'hlt).1 ∉ (l.take i).map (·.1) := by rw [hf] at hfm; simpa using hfm.symm
  rcases Classical.em (p = 32855) with h3 | h3
  · subst h3
    obtain ⟨x0, x1, x2, x3, x4, x5, x6, x7, e⟩ := right_eight hr
    unfold updF at nF
    rw [if_pos rfl] at nF
    unfold updA at nA
    rw [if_pos rfl, e] at nA
    unfold cellsA
    simp (maxSteps := 400000) -dsimp -implicitDefEqProofs (disch := first | exact TrueB.mk rfl | omega) only [go_sem, Nat.reduceMul, Nat.reduceAdd, Nat.reduceLT, Nat.reduceLeDiff, Nat.reducePow, Nat.reduceEqDiff, ↓reduceIte, reduceCtorEq, Int.reduceToNat, e2, e]
    refine wpLoop_ind (α := Nat)
      (fun k => ⟨[(0, .pure m (.int .i64 32855)), (1, .pure false (.sl (optsV l))), (4, .ptr 1568 0), (6, .ptr 1569 0), (7, .pure true (.int .i64 i)), (8, .ptr 1570 0), (9, .pure true (.int .i64 k))], [(1568, .box (cellsA (fun _ => true) zeroA)), (1569, .box (cellsA (idF F k) (idA A x0 x1 x2 x3 x4 x5 x6 x7 k))), (1570, .box [.pure false (.int .i64 (l[i]'hlt).1), .pure false (.sl (bytesOf [x0, x1, x2, x3, x4, x5, x6, x7]))])]⟩)
      (fun k => k ≤ 8) (fun k => 8 - k) ?_ 0 (by omega) rfl
    rintro k hk
    have hkk : k = 0 ∨ k = 1 ∨ k = 2 ∨ k = 3 ∨ k = 4 ∨ k = 5 ∨ k = 6 ∨ k = 7 ∨ k = 8 := by omega
    unfold cellsA
    rcases hkk with rfl | rfl | rfl | rfl | rfl | rfl | rfl | rfl | rfl
    · have gk : (bytesOf [x0, x1, x2, x3, x4, x5, x6, x7])[0]? = some (.int .u8 (x0.toNat : Int)) := rfl
      simp (maxSteps := 400000) -dsimp -implicitDefEqProofs (disch := first | exact TrueB.mk rfl | omega) only [go_sem, Nat.reduceMul, Nat.reduceAdd, Nat.reduceLT, Nat.reduceLeDiff, Nat.reducePow, Nat.reduceEqDiff, ↓reduceIte, reduceCtorEq, Int.reduceToNat, gk, e]
      first | exact again_mk ⟨1, by omega, by omega, rfl⟩ | done
    · have gk : (bytesOf [x0, x1, x2, x3, x4, x5, x6, x7])[1]? = some (.int .u8 (x1.toNat : Int)) := rfl
      simp (maxSteps := 400000) -dsimp -implicitDefEqProofs (disch := first | exact TrueB.mk rfl | omega) only [go_sem, Nat.reduceMul, Nat.reduceAdd, Nat.reduceLT, Nat.reduceLeDiff, Nat.reducePow, Nat.reduceEqDiff, ↓reduceIte, reduceCtorEq, Int.reduceToNat, gk, e]
      first | exact again_mk ⟨2, by omega, by omega, rfl⟩ | done
    · have gk : (bytesOf [x0, x1, x2, x3, x4, x5, x6, x7])[2]? = some (.int .u8 (x2.toNat : Int)) := rfl
      simp (maxSteps := 400000) -dsimp -implicitDefEqProofs (disch := first | exact TrueB.mk rfl | omega) only [go_sem, Nat.reduceMul, Nat.reduceAdd, Nat.reduceLT, Nat.reduceLeDiff, Nat.reducePow, Nat.reduceEqDiff, ↓reduceIte, reduceCtorEq, Int.reduceToNat, gk, e]
      first | exact again_mk ⟨3, by omega, by omega, rfl⟩ | done
    · have gk : (bytesOf [x0, x1, x2, x3, x4, x5, x6, x7])[3]? = some (.int .u8 (x3.toNat : Int)) := rfl
      simp (maxSteps := 400000) -dsimp -implicitDefEqProofs (disch := first | exact TrueB.mk rfl | omega) only [go_sem, Nat.reduceMul, Nat.reduceAdd, Nat.reduceLT, Nat.reduceLeDiff, Nat.reducePow, Nat.reduceEqDiff, ↓reduceIte, reduceCtorEq, Int.reduceToNat, gk, e]
      first | exact again_mk ⟨4, by omega, by omega, rfl⟩ | done
    · have gk : (bytesOf [x0, x1, x2, x3, x4, x5, x6, x7])[4]? = some (.int .u8 (x4.toNat : Int)) := rfl
      simp (maxSteps := 400000) -dsimp -implicitDefEqProofs (disch := first | exact TrueB.mk rfl | omega) only [go_sem, Nat.reduceMul, Nat.reduceAdd, Nat.reduceLT, Nat.reduceLeDiff, Nat.reducePow, Nat.reduceEqDiff, ↓reduceIte, reduceCtorEq, Int.reduceToNat, gk, e]
      first | exact again_mk ⟨5, by omega, by omega, rfl⟩ | done
    · have gk : (bytesOf [x0, x1, x2, x3, x4, x5, x6, x7])[5]? = some (.int .u8 (x5.toNat : Int)) := rfl
      simp (maxSteps := 400000) -dsimp -implicitDefEqProofs (disch := first | exact TrueB.mk rfl | omega) only [go_sem, Nat.reduceMul, Nat.reduceAdd, Nat.reduceLT, Nat.reduceLeDiff, Nat.reducePow, Nat.reduceEqDiff, ↓reduceIte, reduceCtorEq, Int.reduceToNat, gk, e]
      first | exact again_mk ⟨6, by omega, by omega, rfl⟩ | done
    · have gk : (bytesOf [x0, x1, x2, x3, x4, x5, x6, x7])[6]? = some (.int .u8 (x6.toNat : Int)) := rfl
      simp (maxSteps := 400000) -dsimp -implicitDefEqProofs (disch := first | exact TrueB.mk rfl | omega) only [go_sem, Nat.reduceMul, Nat.reduceAdd, Nat.reduceLT, Nat.reduceLeDiff, Nat.reducePow, Nat.reduceEqDiff, ↓reduceIte, reduceCtorEq, Int.reduceToNat, gk, e]
      first | exact again_mk ⟨7, by omega, by omega, rfl⟩ | done
    · have gk : (bytesOf [x0, x1, x2, x3, x4, x5, x6, x7])[7]? = some (.int .u8 (x7.toNat : Int)) := rfl
      simp (maxSteps := 400000) -dsimp -implicitDefEqProofs (disch := first | exact TrueB.mk rfl | omega) only [go_sem, Nat.reduceMul, Nat.reduceAdd, Nat.reduceLT, Nat.reduceLeDiff, Nat.reducePow, Nat.reduceEqDiff, ↓reduceIte, reduceCtorEq, Int.reduceToNat, gk, e]
      first | exact again_mk ⟨8, by omega, by omega, rfl⟩ | done
    · simp (maxSteps := 400000) -dsimp -implicitDefEqProofs (disch := first | exact TrueB.mk rfl | omega) only [go_sem, Nat.reduceMul, Nat.reduceAdd, Nat.reduceLT, Nat.reduceLeDiff, Nat.reducePow, Nat.reduceEqDiff, ↓reduceIte, reduceCtorEq, Int.reduceToNat]
      refine again_mk ⟨i + 1, ⟨rightTo_next hi hlt hr, nodup_take hlt hnd hmem⟩, by show _ - (i + 1) < _ - i; omega, ?_⟩
      rw [nF, nA]
      rfl
  · obtain ⟨⟨x0, x1, x2, x3, e⟩, ht⟩ := right_four h3 hr
    have q0 : (bytesOf [x0, x1, x2, x3])[0]? = some (.int .u8 (x0.toNat : Int)) := rfl
    have q1 : (bytesOf [x0, x1, x2, x3])[1]? = some (.int .u8 (x1.toNat : Int)) := rfl
    have q2 : (bytesOf [x0, x1, x2, x3])[2]? = some (.int .u8 (x2.toNat : Int)) := rfl
    have q3 : (bytesOf [x0, x1, x2, x3])[3]? = some (.int .u8 (x3.toNat : Int)) := rfl
    simp (maxSteps := 400000) -dsimp -implicitDefEqProofs (disch := first | exact TrueB.mk rfl | omega) only [go_sem, Nat.reduceMul, Nat.reduceAdd, Nat.reduceLT, Nat.reduceLeDiff, Nat.reducePow, Nat.reduceEqDiff, ↓reduceIte, reduceCtorEq, Int.reduceToNat, e2, e, q0, q1, q2, q3]
    rcases ht with e1 | e1 | e1 | e1 | e1 | e1
    · unfold updF at nF
      rw [if_neg h3, if_pos e1] at nF
      unfold updA at nA
      rw [if_neg h3, if_pos e1, e] at nA
      have wz : IntKind.i64.wrap (x2.toNat : Int) = (x2.toNat : Int) := by
        have := x2.toNat_lt
        rw [wrap_i64 (by omega) (by omega)]
      unfold cellsA
      simp (maxSteps := 400000) -dsimp -implicitDefEqProofs (disch := first | exact TrueB.mk rfl | omega) only [go_sem, Nat.reduceMul, Nat.reduceAdd, Nat.reduceLT, Nat.reduceLeDiff, Nat.reducePow, Nat.reduceEqDiff, ↓reduceIte, reduceCtorEq, Int.reduceToNat, q0, q1, q2, q3, e, e1, wz]
      refine again_mk ⟨i + 1, ⟨rightTo_next hi hlt hr, nodup_take hlt hnd hmem⟩, by show _ - (i + 1) < _ - i; omega, ?_⟩
      rw [nF, nA]
      rfl
    · unfold updF at nF
      rw [if_neg h3, if_neg (show ¬ (l[i]'hlt).1 = 2 by omega), if_pos e1] at nF
      unfold updA at nA
      rw [if_neg h3, if_neg (show ¬ (l[i]'hlt).1 = 2 by omega), if_pos e1, e] at nA
      unfold cellsA
      simp (maxSteps := 400000) -dsimp -implicitDefEqProofs (disch := first | exact TrueB.mk rfl | omega) only [go_sem, Nat.reduceMul, Nat.reduceAdd, Nat.reduceLT, Nat.reduceLeDiff, Nat.reducePow, Nat.reduceEqDiff, ↓reduceIte, reduceCtorEq, Int.reduceToNat, q0, q1, q2, q3, e, e1]
      refine again_mk ⟨i + 1, ⟨rightTo_next hi hlt hr, nodup_take hlt hnd hmem⟩, by show _ - (i + 1) < _ - i; omega, ?_⟩
      rw [nF, nA]
      rfl
    · unfold updF at nF
      rw [if_neg h3, if_neg (show ¬ (l[i]'hlt).1 = 2 by omega), if_neg (show ¬ (l[i]'hlt).1 = 3 by omega), if_pos e1] at nF
      unfold updA at nA
      rw [if_neg h3, if_neg (show ¬ (l[i]'hlt).1 = 2 by omega), if_neg (show ¬ (l[i]'hlt).1 = 3 by omega), if_pos e1, e] at nA
      have qi : ((129 : Int) - 129).toNat = 0 := rfl
      unfold cellsA
      simp (maxSteps := 400000) -dsimp -implicitDefEqProofs (disch := first | exact TrueB.mk rfl | omega) only [go_sem, Nat.reduceMul, Nat.reduceAdd, Nat.reduceLT, Nat.reduceLeDiff, Nat.reducePow, Nat.reduceEqDiff, ↓reduceIte, reduceCtorEq, Int.reduceToNat, q0, q1, q2, q3, e, e1, qi]
      refine again_mk ⟨i + 1, ⟨rightTo_next hi hlt hr, nodup_take hlt hnd hmem⟩, by show _ - (i + 1) < _ - i; omega, ?_⟩
      rw [nF, nA]
      rfl
    · unfold updF at nF
      rw [if_neg h3, if_neg (show ¬ (l[i]'hlt).1 = 2 by omega), if_neg (show ¬ (l[i]'hlt).1 = 3 by omega), if_neg (show ¬ (l[i]'hlt).1 = 129 by omega), if_pos e1] at nF
      unfold updA at nA
      rw [if_neg h3, if_neg (show ¬ (l[i]'hlt).1 = 2 by omega), if_neg (show ¬ (l[i]'hlt).1 = 3 by omega), if_neg (show ¬ (l[i]'hlt).1 = 129 by omega), if_pos e1, e] at nA
      have qi : ((130 : Int) - 129).toNat = 1 := rfl
      unfold cellsA
      simp (maxSteps := 400000) -dsimp -implicitDefEqProofs (disch := first | exact TrueB.mk rfl | omega) only [go_sem, Nat.reduceMul, Nat.reduceAdd, Nat.reduceLT, Nat.reduceLeDiff, Nat.reducePow, Nat.reduceEqDiff, ↓reduceIte, reduceCtorEq, Int.reduceToNat, q0, q1, q2, q3, e, e1, qi]
      refine again_mk ⟨i + 1, ⟨rightTo_next hi hlt hr, nodup_take hlt hnd hmem⟩, by show _ - (i + 1) < _ - i; omega, ?_⟩
      rw [nF, nA]
      rfl
    · unfold updF at nF
      rw [if_neg h3, if_neg (show ¬ (l[i]'hlt).1 = 2 by omega), if_neg (show ¬ (l[i]'hlt).1 = 3 by omega), if_neg (show ¬ (l[i]'hlt).1 = 129 by omega), if_neg (show ¬ (l[i]'hlt).1 = 130 by omega), if_pos e1] at nF
      unfold updA at nA
      rw [if_neg h3, if_neg (show ¬ (l[i]'hlt).1 = 2 by omega), if_neg (show ¬ (l[i]'hlt).1 = 3 by omega), if_neg (show ¬ (l[i]'hlt).1 = 129 by omega), if_neg (show ¬ (l[i]'hlt).1 = 130 by omega), if_pos e1, e] at nA
      have qi : ((131 : Int) - 129).toNat = 2 := rfl
      unfold cellsA
      simp (maxSteps := 400000) -dsimp -implicitDefEqProofs (disch := first | exact TrueB.mk rfl | omega) only [go_sem, Nat.reduceMul, Nat.reduceAdd, Nat.reduceLT, Nat.reduceLeDiff, Nat.reducePow, Nat.reduceEqDiff, ↓reduceIte, reduceCtorEq, Int.reduceToNat, q0, q1, q2, q3, e, e1, qi]
      refine again_mk ⟨i + 1, ⟨rightTo_next hi hlt hr, nodup_take hlt hnd hmem⟩, by show _ - (i + 1) < _ - i; omega, ?_⟩
      rw [nF, nA]
      rfl
    · unfold updF at nF
      rw [if_neg h3, if_neg (show ¬ (l[i]'hlt).1 = 2 by omega), if_neg (show ¬ (l[i]'hlt).1 = 3 by omega), if_neg (show ¬ (l[i]'hlt).1 = 129 by omega), if_neg (show ¬ (l[i]'hlt).1 = 130 by omega), if_neg (show ¬ (l[i]'hlt).1 = 131 by omega)] at nF
      unfold updA at nA
      rw [if_neg h3, if_neg (show ¬ (l[i]'hlt).1 = 2 by omega), if_neg (show ¬ (l[i]'hlt).1 = 3 by omega), if_neg (show ¬ (l[i]'hlt).1 = 129 by omega), if_neg (show ¬ (l[i]'hlt).1 = 130 by omega), if_neg (show ¬ (l[i]'hlt).1 = 131 by omega), e] at nA
      have qi : ((132 : Int) - 129).toNat = 3 := rfl
      unfold cellsA
      simp (maxSteps := 400000) -dsimp -implicitDefEqProofs (disch := first | exact TrueB.mk rfl | omega) only [go_sem, Nat.reduceMul, Nat.reduceAdd, Nat.reduceLT, Nat.reduceLeDiff, Nat.reducePow, Nat.reduceEqDiff, ↓reduceIte, reduceCtorEq, Int.reduceToNat, q0, q1, q2, q3, e, e1, qi]
      refine again_mk ⟨i + 1, ⟨rightTo_next hi hlt hr, nodup_take hlt hnd hmem⟩, by show _ - (i + 1) < _ - i; omega, ?_⟩
      rw [nF, nA]
      rfl
end Go.Proofs.Ytpgklagjjimbhaa
