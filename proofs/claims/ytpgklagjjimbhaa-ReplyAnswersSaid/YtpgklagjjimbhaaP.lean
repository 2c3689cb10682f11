/- YtpgklagjjimbhaaP: an Echo's number, a protocol that is rejected. No claim. -/
import Derived.Test.YtpgklagjjimbhaaO
set_option linter.unusedVariables false
set_option linter.unusedSimpArgs false
set_option maxRecDepth 100000
namespace Go.Proofs.Ytpgklagjjimbhaa
open Go Go.Proofs.Ytpgklagjjimbhaa.V

def magP (p : Pkt) : Nat × List UInt8 × Bool := if 9 ≤ p.1 ∧ p.1 ≤ 11 then begP p.2.2 4 else (0, [], false)
def rejP (p : Pkt) : Nat × List UInt8 × Bool := if p.1 = 8 then begP p.2.2 2 else (0, [], false)
theorem begP_lt (d : List UInt8) (k : Nat) : (begP d k).1 < 256 ^ k ∧ (begP d k).2.1.length ≤ d.length := by
  unfold begP
  split
  · have := numB_lt (d.take k)
    rename_i h
    rw [List.length_take, Nat.min_eq_left h] at this
    exact ⟨this, by rw [List.length_drop]; omega⟩
  · exact ⟨Nat.pow_pos (by omega), Nat.zero_le _⟩
theorem numB_two {d : List UInt8} (h : 2 ≤ d.length) : numB (d.take 2) = d[0].toNat * 256 + d[1].toNat := by
  match d, h with
  | a :: b :: r, _ => simp [numB]
theorem end_vrv' {P : Program} {sl : Slots} {S : Store} {m m' : Bool} {t1 t2 t3 k n z : Nat} {b : List UInt8} {x y x' y' : PV} (h1 : get sl t1 = some (.pure m x)) (h2 : get sl t2 = some (.row k n)) (h3 : get sl t3 = some (.pure m' y)) (hk : get S k = some (.row true z 0 (bytesOf b))) (hn : n = b.length) (hx : norm x = x') (hy : norm y = y') (hxs : x'.scalar = true) (hys : y'.scalar = true) :
    outV P 0 [.tmp t1, .tmp t2, .tmp t3] sl S = some (.tuple [.pure m x', .row 0 n, .pure m' y'], [(0, .row true z 0 (bytesOf b))]) := by
  have := end_vrv (P := P) h1 h2 h3 hk (by rw [bytesOf_length]; exact hn) hx hy hxs hys
  rw [allScalar_bytesOf] at this
  exact this

set_option maxHeartbeats 8000000 in
theorem magic_any (p : Pkt) (hp : p.2.2.length ≤ 1000000) (m : Bool) : ∃ z, (z = 1 ∨ (magP p).2.1 = []) ∧
    Runs Try.prog env 50 [.pure m (pktV p)] [] (.tuple [.pure true (.int .u32 ((magP p).1 : Nat)), .row 0 (magP p).2.1.length, .pure true (.bool (magP p).2.2)]) [(0, .row true z 0 (bytesOf (magP p).2.1))] := by
  obtain ⟨z, hz, c⟩ := begins_any p hp 4 (by omega) (by omega) (m && false) true
  obtain ⟨hn, _⟩ := begP_lt p.2.2 4
  have hn' : (begP p.2.2 4).1 < 4294967296 := hn
  by_cases h : 9 ≤ p.1 ∧ p.1 ≤ 11
  · have e : magP p = begP p.2.2 4 := if_pos h
    rw [e]
    refine ⟨z, hz, ?_⟩
    refine Runs.of Try.func50 rfl (by simp [Try.ntmps50]) ?_
    generalize begP p.2.2 4 = R at *
    unfold pktV at c ⊢
    rcases (by omega : p.1 = 9 ∨ p.1 = 10 ∨ p.1 = 11) with h1 | h1 | h1
    · simp (maxSteps := 400000) -dsimp -implicitDefEqProofs (disch := first | exact TrueB.mk rfl | omega) only [go_sem, Nat.reduceMul, Nat.reduceAdd, Nat.reduceLT, Nat.reduceLeDiff, Nat.reducePow, Nat.reduceEqDiff, ↓reduceIte, reduceCtorEq, Int.reduceToNat, Try.ntmps50]
      first | refine wpAct_callG (c) rfl rfl rfl rfl rfl rfl rfl rfl rfl ?_ | done
      simp (maxSteps := 400000) -dsimp -implicitDefEqProofs (disch := first | exact TrueB.mk rfl | omega) only [go_sem, Nat.reduceMul, Nat.reduceAdd, Nat.reduceLT, Nat.reduceLeDiff, Nat.reducePow, Nat.reduceEqDiff, ↓reduceIte, reduceCtorEq, Int.reduceToNat]
      first | exact end_vrv' rfl rfl rfl rfl rfl rfl rfl rfl rfl | done
    · simp (maxSteps := 400000) -dsimp -implicitDefEqProofs (disch := first | exact TrueB.mk rfl | omega) only [go_sem, Nat.reduceMul, Nat.reduceAdd, Nat.reduceLT, Nat.reduceLeDiff, Nat.reducePow, Nat.reduceEqDiff, ↓reduceIte, reduceCtorEq, Int.reduceToNat, Try.ntmps50]
      first | refine wpAct_callG (c) rfl rfl rfl rfl rfl rfl rfl rfl rfl ?_ | done
      simp (maxSteps := 400000) -dsimp -implicitDefEqProofs (disch := first | exact TrueB.mk rfl | omega) only [go_sem, Nat.reduceMul, Nat.reduceAdd, Nat.reduceLT, Nat.reduceLeDiff, Nat.reducePow, Nat.reduceEqDiff, ↓reduceIte, reduceCtorEq, Int.reduceToNat]
      first | exact end_vrv' rfl rfl rfl rfl rfl rfl rfl rfl rfl | done
    · simp (maxSteps := 400000) -dsimp -implicitDefEqProofs (disch := first | exact TrueB.mk rfl | omega) only [go_sem, Nat.reduceMul, Nat.reduceAdd, Nat.reduceLT, Nat.reduceLeDiff, Nat.reducePow, Nat.reduceEqDiff, ↓reduceIte, reduceCtorEq, Int.reduceToNat, Try.ntmps50]
      first | refine wpAct_callG (c) rfl rfl rfl rfl rfl rfl rfl rfl rfl ?_ | done
      simp (maxSteps := 400000) -dsimp -implicitDefEqProofs (disch := first | exact TrueB.mk rfl | omega) only [go_sem, Nat.reduceMul, Nat.reduceAdd, Nat.reduceLT, Nat.reduceLeDiff, Nat.reducePow, Nat.reduceEqDiff, ↓reduceIte, reduceCtorEq, Int.reduceToNat]
      first | exact end_vrv' rfl rfl rfl rfl rfl rfl rfl rfl rfl | done
  · have e : magP p = (0, [], false) := if_neg h
    rw [e]
    refine ⟨0, .inr rfl, ?_⟩
    refine Runs.of Try.func50 rfl (by simp [Try.ntmps50]) ?_
    unfold pktV
    have h1 : p.1 ≠ 9 := by omega
    have h2 : p.1 ≠ 10 := by omega
    have h3 : p.1 ≠ 11 := by omega
    simp (maxSteps := 400000) -dsimp -implicitDefEqProofs (disch := first | exact TrueB.mk rfl | omega) only [go_sem, Nat.reduceMul, Nat.reduceAdd, Nat.reduceLT, Nat.reduceLeDiff, Nat.reducePow, Nat.reduceEqDiff, ↓reduceIte, reduceCtorEq, Int.reduceToNat, Try.ntmps50]
    first | exact end_vrv' (b := []) rfl rfl rfl rfl rfl rfl rfl rfl rfl | done

set_option maxHeartbeats 8000000 in
theorem rejected_any (p : Pkt) (hp : p.2.2.length ≤ 1000000) (m : Bool) : ∃ z, (z = 1 ∨ (rejP p).2.1 = []) ∧
    Runs Try.prog env 52 [.pure m (pktV p)] [] (.tuple [.pure true (.int .i64 ((rejP p).1 : Nat)), .row 0 (rejP p).2.1.length, .pure true (.bool (rejP p).2.2)]) [(0, .row true z 0 (bytesOf (rejP p).2.1))] := by
  obtain ⟨z, hz, c⟩ := begins_any p hp 2 (by omega) (by omega) (m && false) true
  obtain ⟨hn, _⟩ := begP_lt p.2.2 2
  have hn' : (begP p.2.2 2).1 < 65536 := hn
  by_cases h : p.1 = 8
  · have e : rejP p = begP p.2.2 2 := if_pos h
    rw [e]
    refine ⟨z, hz, ?_⟩
    refine Runs.of Try.func52 rfl (by simp [Try.ntmps52]) ?_
    generalize begP p.2.2 2 = R at *
    unfold pktV at c ⊢
    simp (maxSteps := 400000) -dsimp -implicitDefEqProofs (disch := first | exact TrueB.mk rfl | omega) only [go_sem, Nat.reduceMul, Nat.reduceAdd, Nat.reduceLT, Nat.reduceLeDiff, Nat.reducePow, Nat.reduceEqDiff, ↓reduceIte, reduceCtorEq, Int.reduceToNat, Try.ntmps52]
    first | refine wpAct_callG (c) rfl rfl rfl rfl rfl rfl rfl rfl rfl ?_ | done
    simp (maxSteps := 400000) -dsimp -implicitDefEqProofs (disch := first | exact TrueB.mk rfl | omega) only [go_sem, Nat.reduceMul, Nat.reduceAdd, Nat.reduceLT, Nat.reduceLeDiff, Nat.reducePow, Nat.reduceEqDiff, ↓reduceIte, reduceCtorEq, Int.reduceToNat]
    first | exact end_vrv' rfl rfl rfl rfl rfl rfl rfl rfl rfl | done
  · have e : rejP p = (0, [], false) := if_neg h
    rw [e]
    refine ⟨0, .inr rfl, ?_⟩
    refine Runs.of Try.func52 rfl (by simp [Try.ntmps52]) ?_
    unfold pktV
    simp (maxSteps := 400000) -dsimp -implicitDefEqProofs (disch := first | exact TrueB.mk rfl | omega) only [go_sem, Nat.reduceMul, Nat.reduceAdd, Nat.reduceLT, Nat.reduceLeDiff, Nat.reducePow, Nat.reduceEqDiff, ↓reduceIte, reduceCtorEq, Int.reduceToNat, Try.ntmps52]
    first | exact end_vrv' (b := []) rfl rfl rfl rfl rfl rfl rfl rfl rfl | done

set_option maxHeartbeats 8000000 in
theorem refMagic_any (p : Pkt) (hp : p.2.2.length ≤ 1000000) (m : Bool) : ∃ z, (z = 1 ∨ (magP p).2.1 = []) ∧
    Runs Try.prog env 51 [.pure m (pktV p)] [] (.tuple [.pure true (.int .u32 ((magP p).1 : Nat)), .row 0 (magP p).2.1.length, .pure true (.bool (magP p).2.2)]) [(0, .row true z 0 (bytesOf (magP p).2.1))] := by
  by_cases h : 9 ≤ p.1 ∧ p.1 ≤ 11
  · have e : magP p = begP p.2.2 4 := if_pos h
    rw [e]
    by_cases h4 : 4 ≤ p.2.2.length
    · have e2 : begP p.2.2 4 = (numB (p.2.2.take 4), p.2.2.drop 4, true) := if_pos h4
      rw [e2]
      refine ⟨1, .inl rfl, ?_⟩
      refine Runs.of Try.func51 rfl (by simp [Try.ntmps51]) ?_
      unfold pktV
      simp (maxSteps := 400000) -dsimp -implicitDefEqProofs (disch := first | exact TrueB.mk rfl | omega) only [go_sem, Nat.reduceMul, Nat.reduceAdd, Nat.reduceLT, Nat.reduceLeDiff, Nat.reducePow, Nat.reduceEqDiff, ↓reduceIte, reduceCtorEq, Int.reduceToNat, Try.ntmps51]
      refine wpLoop_ind (α := Nat)
        (fun i => ⟨[(1, .ptr 640 0), (5, .pure true (.int .u32 (numB (p.2.2.take i) : Nat))), (6, .pure true (.int .i64 i))], [(640, .box [.pure m (.int .i64 p.1), .pure m (.int .i64 p.2.1), .pure m (.sl (bytesOf p.2.2))])]⟩)
        (fun i => i ≤ 4) (fun i => 4 - i) ?_ 0 (by omega) rfl
      rintro i hi
      simp (maxSteps := 400000) -dsimp -implicitDefEqProofs (disch := first | exact TrueB.mk rfl | omega) only [go_sem, Nat.reduceMul, Nat.reduceAdd, Nat.reduceLT, Nat.reduceLeDiff, Nat.reducePow, Nat.reduceEqDiff, ↓reduceIte, reduceCtorEq, Int.reduceToNat]
      first | refine condK_dec (fun h2 => ?_) (fun h2 => ?_) | refine condK_ndec (fun h2 => ?_) (fun h2 => ?_) | refine condK_beq (fun h2 => ?_) (fun h2 => ?_) | refine condK_bne (fun h2 => ?_) (fun h2 => ?_) | refine condK_nbeq (fun h2 => ?_) (fun h2 => ?_) | refine guardK_dec (fun h2 => ?_) (fun h2 => ?_) | refine guardK_ndec (fun h2 => ?_) (fun h2 => ?_) | refine guardK_beq (fun h2 => ?_) (fun h2 => ?_) | refine guardK_bne (fun h2 => ?_) (fun h2 => ?_) | refine guardK_nbeq (fun h2 => ?_) (fun h2 => ?_) | refine condK_not (fun h2 => ?_) (fun h2 => ?_) | refine guardK_not (fun h2 => ?_) (fun h2 => ?_) | refine condK_bool (fun h2 => ?_) (fun h2 => ?_) | refine guardK_bool (fun h2 => ?_) (fun h2 => ?_) | done
      · have hlt : i < p.2.2.length := by omega
        have g1 : (bytesOf p.2.2)[i]? = some (.int .u8 p.2.2[i].toNat) := by rw [bytesOf_get, List.getElem?_eq_getElem hlt]; rfl
        have hc := p.2.2[i].toNat_lt
        have hn := numB_lt (p.2.2.take i)
        rw [List.length_take] at hn
        have hn' : numB (p.2.2.take i) < 256 ^ 3 := Nat.lt_of_lt_of_le hn (Nat.pow_le_pow_right (by omega) (by omega))
        have hs : numB (p.2.2.take (i + 1)) = numB (p.2.2.take i) * 256 + p.2.2[i].toNat := by rw [← List.take_append_getElem hlt, numB_snoc]
        have a1 : (256 : Int) * (numB (p.2.2.take i) : Int) = ((numB (p.2.2.take i) * 256 : Nat) : Int) := by omega
        have a2 : ((numB (p.2.2.take i) * 256 : Nat) : Int) + (p.2.2[i].toNat : Int) = ((numB (p.2.2.take i) * 256 + p.2.2[i].toNat : Nat) : Int) := by omega
        simp (maxSteps := 400000) -dsimp -implicitDefEqProofs (disch := first | exact TrueB.mk rfl | omega) only [go_sem, Nat.reduceMul, Nat.reduceAdd, Nat.reduceLT, Nat.reduceLeDiff, Nat.reducePow, Nat.reduceEqDiff, ↓reduceIte, reduceCtorEq, Int.reduceToNat, g1, a1, a2]
        refine again_mk ⟨i + 1, by omega, by omega, ?_⟩
        rw [hs]
        rfl
      · have hi4 : i = 4 := by omega
        subst hi4
        have htk : (p.2.2.drop 4).take (p.2.2.length - 4) = p.2.2.drop 4 := List.take_of_length_le (by rw [List.length_drop]; omega)
        have hdl : (p.2.2.drop 4).length ≤ 1000000 := by rw [List.length_drop]; omega
        simp (maxSteps := 400000) -dsimp -implicitDefEqProofs (disch := first | exact TrueB.mk rfl | omega) only [go_sem, Nat.reduceMul, Nat.reduceAdd, Nat.reduceLT, Nat.reduceLeDiff, Nat.reducePow, Nat.reduceEqDiff, ↓reduceIte, reduceCtorEq, Int.reduceToNat, htk]
        first | exact end_vrv' rfl rfl rfl rfl rfl rfl rfl rfl rfl | done
    · have e2 : begP p.2.2 4 = (0, [], false) := if_neg h4
      rw [e2]
      refine ⟨0, .inr rfl, ?_⟩
      refine Runs.of Try.func51 rfl (by simp [Try.ntmps51]) ?_
      unfold pktV
      simp (maxSteps := 400000) -dsimp -implicitDefEqProofs (disch := first | exact TrueB.mk rfl | omega) only [go_sem, Nat.reduceMul, Nat.reduceAdd, Nat.reduceLT, Nat.reduceLeDiff, Nat.reducePow, Nat.reduceEqDiff, ↓reduceIte, reduceCtorEq, Int.reduceToNat, Try.ntmps51]
      first | exact end_vrv' (b := []) rfl rfl rfl rfl rfl rfl rfl rfl rfl | done
  · have e : magP p = (0, [], false) := if_neg h
    rw [e]
    refine ⟨0, .inr rfl, ?_⟩
    refine Runs.of Try.func51 rfl (by simp [Try.ntmps51]) ?_
    unfold pktV
    rcases Classical.em (p.1 < 9) with h1 | h1
    · simp (maxSteps := 400000) -dsimp -implicitDefEqProofs (disch := first | exact TrueB.mk rfl | omega) only [go_sem, Nat.reduceMul, Nat.reduceAdd, Nat.reduceLT, Nat.reduceLeDiff, Nat.reducePow, Nat.reduceEqDiff, ↓reduceIte, reduceCtorEq, Int.reduceToNat, Try.ntmps51]
      first | exact end_vrv' (b := []) rfl rfl rfl rfl rfl rfl rfl rfl rfl | done
    · simp (maxSteps := 400000) -dsimp -implicitDefEqProofs (disch := first | exact TrueB.mk rfl | omega) only [go_sem, Nat.reduceMul, Nat.reduceAdd, Nat.reduceLT, Nat.reduceLeDiff, Nat.reducePow, Nat.reduceEqDiff, ↓reduceIte, reduceCtorEq, Int.reduceToNat, Try.ntmps51]
      first | exact end_vrv' (b := []) rfl rfl rfl rfl rfl rfl rfl rfl rfl | done

set_option maxHeartbeats 8000000 in
theorem refRejected_any (p : Pkt) (hp : p.2.2.length ≤ 1000000) (m : Bool) : ∃ z, (z = 1 ∨ (rejP p).2.1 = []) ∧
    Runs Try.prog env 53 [.pure m (pktV p)] [] (.tuple [.pure true (.int .i64 ((rejP p).1 : Nat)), .row 0 (rejP p).2.1.length, .pure true (.bool (rejP p).2.2)]) [(0, .row true z 0 (bytesOf (rejP p).2.1))] := by
  by_cases h : p.1 = 8
  · have e : rejP p = begP p.2.2 2 := if_pos h
    rw [e]
    by_cases h2 : 2 ≤ p.2.2.length
    · have e2 : begP p.2.2 2 = (numB (p.2.2.take 2), p.2.2.drop 2, true) := if_pos h2
      rw [e2]
      refine ⟨1, .inl rfl, ?_⟩
      refine Runs.of Try.func53 rfl (by simp [Try.ntmps53]) ?_
      unfold pktV
      have g0 : (bytesOf p.2.2)[0]? = some (.int .u8 p.2.2[0].toNat) := by rw [bytesOf_get, List.getElem?_eq_getElem (by omega)]; rfl
      have g1 : (bytesOf p.2.2)[1]? = some (.int .u8 p.2.2[1].toNat) := by rw [bytesOf_get, List.getElem?_eq_getElem (by omega)]; rfl
      have hc := p.2.2[0].toNat_lt
      have hc1 := p.2.2[1].toNat_lt
      have hs : numB (p.2.2.take 2) = p.2.2[0].toNat * 256 + p.2.2[1].toNat := numB_two h2
      have a1 : (256 : Int) * (p.2.2[0].toNat : Int) = ((p.2.2[0].toNat * 256 : Nat) : Int) := by omega
      have a2 : ((p.2.2[0].toNat * 256 : Nat) : Int) + (p.2.2[1].toNat : Int) = ((p.2.2[0].toNat * 256 + p.2.2[1].toNat : Nat) : Int) := by omega
      have htk : (p.2.2.drop 2).take (p.2.2.length - 2) = p.2.2.drop 2 := List.take_of_length_le (by rw [List.length_drop]; omega)
      have hdl : (p.2.2.drop 2).length ≤ 1000000 := by rw [List.length_drop]; omega
      rw [hs]
      simp (maxSteps := 400000) -dsimp -implicitDefEqProofs (disch := first | exact TrueB.mk rfl | omega) only [go_sem, Nat.reduceMul, Nat.reduceAdd, Nat.reduceLT, Nat.reduceLeDiff, Nat.reducePow, Nat.reduceEqDiff, ↓reduceIte, reduceCtorEq, Int.reduceToNat, Try.ntmps53, g0, g1, a1, a2, htk]
      first | exact end_vrv' rfl rfl rfl rfl rfl rfl rfl rfl rfl | done
    · have e2 : begP p.2.2 2 = (0, [], false) := if_neg h2
      rw [e2]
      refine ⟨0, .inr rfl, ?_⟩
      refine Runs.of Try.func53 rfl (by simp [Try.ntmps53]) ?_
      unfold pktV
      simp (maxSteps := 400000) -dsimp -implicitDefEqProofs (disch := first | exact TrueB.mk rfl | omega) only [go_sem, Nat.reduceMul, Nat.reduceAdd, Nat.reduceLT, Nat.reduceLeDiff, Nat.reducePow, Nat.reduceEqDiff, ↓reduceIte, reduceCtorEq, Int.reduceToNat, Try.ntmps53]
      first | exact end_vrv' (b := []) rfl rfl rfl rfl rfl rfl rfl rfl rfl | done
  · have e : rejP p = (0, [], false) := if_neg h
    rw [e]
    refine ⟨0, .inr rfl, ?_⟩
    refine Runs.of Try.func53 rfl (by simp [Try.ntmps53]) ?_
    unfold pktV
    simp (maxSteps := 400000) -dsimp -implicitDefEqProofs (disch := first | exact TrueB.mk rfl | omega) only [go_sem, Nat.reduceMul, Nat.reduceAdd, Nat.reduceLT, Nat.reduceLeDiff, Nat.reducePow, Nat.reduceEqDiff, ↓reduceIte, reduceCtorEq, Int.reduceToNat, Try.ntmps53]
    first | exact end_vrv' (b := []) rfl rfl rfl rfl rfl rfl rfl rfl rfl | done
end Go.Proofs.Ytpgklagjjimbhaa
