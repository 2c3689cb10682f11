/- YtpgklagjjimbhaaD: options that may be, and their bytes. No claim. -/
import Derived.Test.YtpgklagjjimbhaaC
set_option linter.unusedVariables false
set_option linter.unusedSimpArgs false
set_option maxRecDepth 100000
namespace Go.Proofs.Ytpgklagjjimbhaa
open Go Go.Proofs.Ytpgklagjjimbhaa.V

def few (l : List Opt) : Bool := decide (l.length ≤ 50 ∧ ∀ o ∈ l.take 100, o.2.length ≤ 1000)
theorem few_len {l : List Opt} (h : few l = true) : l.length ≤ 50 := (of_decide_eq_true h).1
theorem few_data {l : List Opt} (h : few l = true) : ∀ o ∈ l, o.2.length ≤ 1000 := by
  have h1 := of_decide_eq_true h
  have h2 := h1.2
  rw [List.take_of_length_le (by omega)] at h2
  exact h2
def smallTo (l : List Opt) (i : Nat) : Prop := i ≤ l.length ∧ i ≤ 100 ∧ ∀ j (h : j < l.length), j < i → l[j].2.length ≤ 1000

set_option maxHeartbeats 4000000 in
theorem few_any (l : List Opt) (m : Bool) : Runs Try.prog env 27 [.pure m (.sl (optsV l))] [] (.pure true (.bool (few l))) [] := by
  refine Runs.of Try.func27 rfl (by simp [Try.ntmps27]) ?_
  simp (maxSteps := 400000) -dsimp -implicitDefEqProofs (disch := first | exact TrueB.mk rfl | omega) only [go_sem, Nat.reduceMul, Nat.reduceAdd, Nat.reduceLT, Nat.reduceLeDiff, Nat.reducePow, Nat.reduceEqDiff, ↓reduceIte, reduceCtorEq, Int.reduceToNat, Try.ntmps27]
  refine wpLoop_ind (α := Nat)
    (fun i => ⟨[(0, .pure m (.sl (optsV l))), (3, .pure true (.int .i64 i))], []⟩)
    (fun i => smallTo l i) (fun i => 100 - i) ?_ 0 ⟨by omega, by omega, fun _ _ h => by omega⟩ rfl
  rintro i ⟨hi, hi2, hs⟩
  have hall : l.length ≤ i → few l = decide ((l.length : Int) ≤ 50) := fun h => by
    unfold few
    congr 1
    apply propext
    constructor
    · rintro ⟨h1, _⟩; omega
    · intro h1
      refine ⟨by omega, fun o ho => ?_⟩
      obtain ⟨j, hj, rfl⟩ := List.getElem_of_mem (List.mem_of_mem_take ho)
      exact hs j hj (by omega)
  simp (maxSteps := 400000) -dsimp -implicitDefEqProofs (disch := first | exact TrueB.mk rfl | omega) only [go_sem, Nat.reduceMul, Nat.reduceAdd, Nat.reduceLT, Nat.reduceLeDiff, Nat.reducePow, Nat.reduceEqDiff, ↓reduceIte, reduceCtorEq, Int.reduceToNat]
  first | refine condK_dec (fun h1 => ?_) (fun h1 => ?_) | refine condK_ndec (fun h1 => ?_) (fun h1 => ?_) | refine condK_beq (fun h1 => ?_) (fun h1 => ?_) | refine condK_bne (fun h1 => ?_) (fun h1 => ?_) | refine condK_nbeq (fun h1 => ?_) (fun h1 => ?_) | refine guardK_dec (fun h1 => ?_) (fun h1 => ?_) | refine guardK_ndec (fun h1 => ?_) (fun h1 => ?_) | refine guardK_beq (fun h1 => ?_) (fun h1 => ?_) | refine guardK_bne (fun h1 => ?_) (fun h1 => ?_) | refine guardK_nbeq (fun h1 => ?_) (fun h1 => ?_) | refine condK_not (fun h1 => ?_) (fun h1 => ?_) | refine guardK_not (fun h1 => ?_) (fun h1 => ?_) | refine condK_bool (fun h1 => ?_) (fun h1 => ?_) | refine guardK_bool (fun h1 => ?_) (fun h1 => ?_) | done
  · simp (maxSteps := 400000) -dsimp -implicitDefEqProofs (disch := first | exact TrueB.mk rfl | omega) only [go_sem, Nat.reduceMul, Nat.reduceAdd, Nat.reduceLT, Nat.reduceLeDiff, Nat.reducePow, Nat.reduceEqDiff, ↓reduceIte, reduceCtorEq, Int.reduceToNat]
    first | refine condK_dec (fun h2 => ?_) (fun h2 => ?_) | refine condK_ndec (fun h2 => ?_) (fun h2 => ?_) | refine condK_beq (fun h2 => ?_) (fun h2 => ?_) | refine condK_bne (fun h2 => ?_) (fun h2 => ?_) | refine condK_nbeq (fun h2 => ?_) (fun h2 => ?_) | refine guardK_dec (fun h2 => ?_) (fun h2 => ?_) | refine guardK_ndec (fun h2 => ?_) (fun h2 => ?_) | refine guardK_beq (fun h2 => ?_) (fun h2 => ?_) | refine guardK_bne (fun h2 => ?_) (fun h2 => ?_) | refine guardK_nbeq (fun h2 => ?_) (fun h2 => ?_) | refine condK_not (fun h2 => ?_) (fun h2 => ?_) | refine guardK_not (fun h2 => ?_) (fun h2 => ?_) | refine condK_bool (fun h2 => ?_) (fun h2 => ?_) | refine guardK_bool (fun h2 => ?_) (fun h2 => ?_) | done
    · have g1 := opts_at (l := l) (i := i) (by omega)
      simp (maxSteps := 400000) -dsimp -implicitDefEqProofs (disch := first | exact TrueB.mk rfl | omega) only [go_sem, Nat.reduceMul, Nat.reduceAdd, Nat.reduceLT, Nat.reduceLeDiff, Nat.reducePow, Nat.reduceEqDiff, ↓reduceIte, reduceCtorEq, Int.reduceToNat, g1]
      first | refine condK_dec (fun h3 => ?_) (fun h3 => ?_) | refine condK_ndec (fun h3 => ?_) (fun h3 => ?_) | refine condK_beq (fun h3 => ?_) (fun h3 => ?_) | refine condK_bne (fun h3 => ?_) (fun h3 => ?_) | refine condK_nbeq (fun h3 => ?_) (fun h3 => ?_) | refine guardK_dec (fun h3 => ?_) (fun h3 => ?_) | refine guardK_ndec (fun h3 => ?_) (fun h3 => ?_) | refine guardK_beq (fun h3 => ?_) (fun h3 => ?_) | refine guardK_bne (fun h3 => ?_) (fun h3 => ?_) | refine guardK_nbeq (fun h3 => ?_) (fun h3 => ?_) | refine condK_not (fun h3 => ?_) (fun h3 => ?_) | refine guardK_not (fun h3 => ?_) (fun h3 => ?_) | refine condK_bool (fun h3 => ?_) (fun h3 => ?_) | refine guardK_bool (fun h3 => ?_) (fun h3 => ?_) | done
      · simp (maxSteps := 400000) -dsimp -implicitDefEqProofs (disch := first | exact TrueB.mk rfl | omega) only [go_sem, Nat.reduceMul, Nat.reduceAdd, Nat.reduceLT, Nat.reduceLeDiff, Nat.reducePow, Nat.reduceEqDiff, ↓reduceIte, reduceCtorEq, Int.reduceToNat]
        have : few l = false := by
          unfold few
          rw [decide_eq_false_iff_not]
          rintro ⟨_, h⟩
          have := h l[i] (List.mem_take_iff_getElem.2 ⟨i, by omega, rfl⟩)
          omega
        first | exact end_bool rfl this.symm | done
      · simp (maxSteps := 400000) -dsimp -implicitDefEqProofs (disch := first | exact TrueB.mk rfl | omega) only [go_sem, Nat.reduceMul, Nat.reduceAdd, Nat.reduceLT, Nat.reduceLeDiff, Nat.reducePow, Nat.reduceEqDiff, ↓reduceIte, reduceCtorEq, Int.reduceToNat]
        first | exact again_mk ⟨i + 1, ⟨by omega, by omega, fun j hj hlt => by
          by_cases e : j = i
          · subst e; omega
          · exact hs j hj (by omega)⟩, by show _ - (i + 1) < _ - i; omega, rfl⟩ | done
    · simp (maxSteps := 400000) -dsimp -implicitDefEqProofs (disch := first | exact TrueB.mk rfl | omega) only [go_sem, Nat.reduceMul, Nat.reduceAdd, Nat.reduceLT, Nat.reduceLeDiff, Nat.reducePow, Nat.reduceEqDiff, ↓reduceIte, reduceCtorEq, Int.reduceToNat]
      have : few l = false := decide_eq_false (by rintro ⟨h1, _⟩; omega)
      first | exact end_bool rfl this.symm | done
  · simp (maxSteps := 400000) -dsimp -implicitDefEqProofs (disch := first | exact TrueB.mk rfl | omega) only [go_sem, Nat.reduceMul, Nat.reduceAdd, Nat.reduceLT, Nat.reduceLeDiff, Nat.reducePow, Nat.reduceEqDiff, ↓reduceIte, reduceCtorEq, Int.reduceToNat]
    first | exact end_bool rfl (hall (by omega)).symm | done

/-- Why an option may not be (0: it may). -/
def bad1 (o : Opt) : Nat := if o.1 < 0 ∨ 255 < o.1 then 1 else if 253 < o.2.length then 4 else 0
def wrongO : List Opt → Nat
  | [] => 0
  | o :: r => if bad1 o = 0 then wrongO r else bad1 o
theorem wrong_next {l : List Opt} {i w : Nat} (h : wrongO (l.drop i) = w) (hi : i < l.length) (hb : bad1 l[i] = 0) : wrongO (l.drop (i + 1)) = w := by
  rw [List.drop_eq_getElem_cons hi, wrongO, if_pos hb] at h
  exact h
theorem wrong_at {l : List Opt} {i w : Nat} (h : wrongO (l.drop i) = w) (hi : i < l.length) (hb : bad1 l[i] ≠ 0) : bad1 l[i] = w := by
  rw [List.drop_eq_getElem_cons hi, wrongO, if_neg hb] at h
  exact h
theorem wrong_end {l : List Opt} {i w : Nat} (h : wrongO (l.drop i) = w) (hi : l.length ≤ i) : 0 = w := by
  rw [List.drop_eq_nil_of_le hi] at h
  exact h

set_option maxHeartbeats 4000000 in
theorem wrong_any (l : List Opt) (hl : l.length ≤ 100000) (m : Bool) : Runs Try.prog env 29 [.pure m (.sl (optsV l))] [] (.pure true (.int .i64 (wrongO l : Nat))) [] := by
  refine Runs.of Try.func29 rfl (by simp [Try.ntmps29]) ?_
  generalize hw : wrongO l = w
  simp (maxSteps := 400000) -dsimp -implicitDefEqProofs (disch := first | exact TrueB.mk rfl | omega) only [go_sem, Nat.reduceMul, Nat.reduceAdd, Nat.reduceLT, Nat.reduceLeDiff, Nat.reducePow, Nat.reduceEqDiff, ↓reduceIte, reduceCtorEq, Int.reduceToNat, Try.ntmps29]
  refine wpLoop_ind (α := Nat)
    (fun i => ⟨[(0, .pure m (.sl (optsV l))), (3, .pure true (.int .i64 i))], []⟩)
    (fun i => i ≤ l.length ∧ wrongO (l.drop i) = w) (fun i => l.length - i) ?_ 0 ⟨by omega, by simpa using hw⟩ rfl
  rintro i ⟨hi, hs⟩
  simp (maxSteps := 400000) -dsimp -implicitDefEqProofs (disch := first | exact TrueB.mk rfl | omega) only [go_sem, Nat.reduceMul, Nat.reduceAdd, Nat.reduceLT, Nat.reduceLeDiff, Nat.reducePow, Nat.reduceEqDiff, ↓reduceIte, reduceCtorEq, Int.reduceToNat]
  first | refine condK_dec (fun h1 => ?_) (fun h1 => ?_) | refine condK_ndec (fun h1 => ?_) (fun h1 => ?_) | refine condK_beq (fun h1 => ?_) (fun h1 => ?_) | refine condK_bne (fun h1 => ?_) (fun h1 => ?_) | refine condK_nbeq (fun h1 => ?_) (fun h1 => ?_) | refine guardK_dec (fun h1 => ?_) (fun h1 => ?_) | refine guardK_ndec (fun h1 => ?_) (fun h1 => ?_) | refine guardK_beq (fun h1 => ?_) (fun h1 => ?_) | refine guardK_bne (fun h1 => ?_) (fun h1 => ?_) | refine guardK_nbeq (fun h1 => ?_) (fun h1 => ?_) | refine condK_not (fun h1 => ?_) (fun h1 => ?_) | refine guardK_not (fun h1 => ?_) (fun h1 => ?_) | refine condK_bool (fun h1 => ?_) (fun h1 => ?_) | refine guardK_bool (fun h1 => ?_) (fun h1 => ?_) | done
  · have g1 := opts_at (l := l) (i := i) (by omega)
    have hbad : bad1 l[i] = if l[i].1 < 0 ∨ 255 < l[i].1 then 1 else if 253 < l[i].2.length then 4 else 0 := rfl
    simp (maxSteps := 400000) -dsimp -implicitDefEqProofs (disch := first | exact TrueB.mk rfl | omega) only [go_sem, Nat.reduceMul, Nat.reduceAdd, Nat.reduceLT, Nat.reduceLeDiff, Nat.reducePow, Nat.reduceEqDiff, ↓reduceIte, reduceCtorEq, Int.reduceToNat, g1]
    first | refine condK_dec (fun h2 => ?_) (fun h2 => ?_) | refine condK_ndec (fun h2 => ?_) (fun h2 => ?_) | refine condK_beq (fun h2 => ?_) (fun h2 => ?_) | refine condK_bne (fun h2 => ?_) (fun h2 => ?_) | refine condK_nbeq (fun h2 => ?_) (fun h2 => ?_) | refine guardK_dec (fun h2 => ?_) (fun h2 => ?_) | refine guardK_ndec (fun h2 => ?_) (fun h2 => ?_) | refine guardK_beq (fun h2 => ?_) (fun h2 => ?_) | refine guardK_bne (fun h2 => ?_) (fun h2 => ?_) | refine guardK_nbeq (fun h2 => ?_) (fun h2 => ?_) | refine condK_not (fun h2 => ?_) (fun h2 => ?_) | refine guardK_not (fun h2 => ?_) (fun h2 => ?_) | refine condK_bool (fun h2 => ?_) (fun h2 => ?_) | refine guardK_bool (fun h2 => ?_) (fun h2 => ?_) | done
    · simp (maxSteps := 400000) -dsimp -implicitDefEqProofs (disch := first | exact TrueB.mk rfl | omega) only [go_sem, Nat.reduceMul, Nat.reduceAdd, Nat.reduceLT, Nat.reduceLeDiff, Nat.reducePow, Nat.reduceEqDiff, ↓reduceIte, reduceCtorEq, Int.reduceToNat, g1]
      first | refine condK_dec (fun h3 => ?_) (fun h3 => ?_) | refine condK_ndec (fun h3 => ?_) (fun h3 => ?_) | refine condK_beq (fun h3 => ?_) (fun h3 => ?_) | refine condK_bne (fun h3 => ?_) (fun h3 => ?_) | refine condK_nbeq (fun h3 => ?_) (fun h3 => ?_) | refine guardK_dec (fun h3 => ?_) (fun h3 => ?_) | refine guardK_ndec (fun h3 => ?_) (fun h3 => ?_) | refine guardK_beq (fun h3 => ?_) (fun h3 => ?_) | refine guardK_bne (fun h3 => ?_) (fun h3 => ?_) | refine guardK_nbeq (fun h3 => ?_) (fun h3 => ?_) | refine condK_not (fun h3 => ?_) (fun h3 => ?_) | refine guardK_not (fun h3 => ?_) (fun h3 => ?_) | refine condK_bool (fun h3 => ?_) (fun h3 => ?_) | refine guardK_bool (fun h3 => ?_) (fun h3 => ?_) | done
      · simp (maxSteps := 400000) -dsimp -implicitDefEqProofs (disch := first | exact TrueB.mk rfl | omega) only [go_sem, Nat.reduceMul, Nat.reduceAdd, Nat.reduceLT, Nat.reduceLeDiff, Nat.reducePow, Nat.reduceEqDiff, ↓reduceIte, reduceCtorEq, Int.reduceToNat]
        rw [if_pos (by omega)] at hbad
        have := wrong_at hs (by omega) (by omega)
        first | exact end_int rfl (by omega) | done
      · simp (maxSteps := 400000) -dsimp -implicitDefEqProofs (disch := first | exact TrueB.mk rfl | omega) only [go_sem, Nat.reduceMul, Nat.reduceAdd, Nat.reduceLT, Nat.reduceLeDiff, Nat.reducePow, Nat.reduceEqDiff, ↓reduceIte, reduceCtorEq, Int.reduceToNat, g1]
        rw [if_neg (by omega)] at hbad
        first | refine condK_dec (fun h4 => ?_) (fun h4 => ?_) | refine condK_ndec (fun h4 => ?_) (fun h4 => ?_) | refine condK_beq (fun h4 => ?_) (fun h4 => ?_) | refine condK_bne (fun h4 => ?_) (fun h4 => ?_) | refine condK_nbeq (fun h4 => ?_) (fun h4 => ?_) | refine guardK_dec (fun h4 => ?_) (fun h4 => ?_) | refine guardK_ndec (fun h4 => ?_) (fun h4 => ?_) | refine guardK_beq (fun h4 => ?_) (fun h4 => ?_) | refine guardK_bne (fun h4 => ?_) (fun h4 => ?_) | refine guardK_nbeq (fun h4 => ?_) (fun h4 => ?_) | refine condK_not (fun h4 => ?_) (fun h4 => ?_) | refine guardK_not (fun h4 => ?_) (fun h4 => ?_) | refine condK_bool (fun h4 => ?_) (fun h4 => ?_) | refine guardK_bool (fun h4 => ?_) (fun h4 => ?_) | done
        · simp (maxSteps := 400000) -dsimp -implicitDefEqProofs (disch := first | exact TrueB.mk rfl | omega) only [go_sem, Nat.reduceMul, Nat.reduceAdd, Nat.reduceLT, Nat.reduceLeDiff, Nat.reducePow, Nat.reduceEqDiff, ↓reduceIte, reduceCtorEq, Int.reduceToNat]
          rw [if_pos (by omega)] at hbad
          have := wrong_at hs (by omega) (by omega)
          first | exact end_int rfl (by omega) | done
        · simp (maxSteps := 400000) -dsimp -implicitDefEqProofs (disch := first | exact TrueB.mk rfl | omega) only [go_sem, Nat.reduceMul, Nat.reduceAdd, Nat.reduceLT, Nat.reduceLeDiff, Nat.reducePow, Nat.reduceEqDiff, ↓reduceIte, reduceCtorEq, Int.reduceToNat]
          rw [if_neg (by omega)] at hbad
          first | exact again_mk ⟨i + 1, ⟨by omega, wrong_next hs (by omega) hbad⟩, by show _ - (i + 1) < _ - i; omega, rfl⟩ | done
    · simp (maxSteps := 400000) -dsimp -implicitDefEqProofs (disch := first | exact TrueB.mk rfl | omega) only [go_sem, Nat.reduceMul, Nat.reduceAdd, Nat.reduceLT, Nat.reduceLeDiff, Nat.reducePow, Nat.reduceEqDiff, ↓reduceIte, reduceCtorEq, Int.reduceToNat]
      rw [if_pos (by omega)] at hbad
      have := wrong_at hs (by omega) (by omega)
      first | exact end_int rfl (by omega) | done
  · simp (maxSteps := 400000) -dsimp -implicitDefEqProofs (disch := first | exact TrueB.mk rfl | omega) only [go_sem, Nat.reduceMul, Nat.reduceAdd, Nat.reduceLT, Nat.reduceLeDiff, Nat.reducePow, Nat.reduceEqDiff, ↓reduceIte, reduceCtorEq, Int.reduceToNat]
    have := wrong_end hs (by omega)
    first | exact end_int rfl (by omega) | done
/-- The bytes of options that may be. -/
def put1 (o : Opt) : List UInt8 := UInt8.ofNat o.1.toNat :: UInt8.ofNat (o.2.length + 2) :: o.2
def putO (l : List Opt) : List UInt8 := l.flatMap put1
theorem putO_next {l : List Opt} {i : Nat} (hi : i < l.length) : putO (l.take (i + 1)) = putO (l.take i) ++ put1 l[i] := by
  rw [← List.take_append_getElem hi]
  unfold putO
  rw [List.flatMap_append]
  simp
theorem good_opt {o : Opt} (h : bad1 o = 0) : ∃ c n : UInt8, o.1 = c.toNat ∧ o.2.length + 2 = n.toNat ∧ put1 o = [c, n] ++ o.2 ∧ o.2.length ≤ 253 := by
  have hbad : bad1 o = if o.1 < 0 ∨ 255 < o.1 then 1 else if 253 < o.2.length then 4 else 0 := rfl
  rw [h] at hbad
  split at hbad
  · cases hbad
  · split at hbad
    · cases hbad
    · refine ⟨UInt8.ofNat o.1.toNat, UInt8.ofNat (o.2.length + 2), ?_, ?_, rfl, by omega⟩
      · rw [UInt8.toNat_ofNat_of_lt' (by show _ < 256; omega)]; omega
      · rw [UInt8.toNat_ofNat_of_lt' (by show _ < 256; omega)]
theorem putO_len (l : List Opt) (h : ∀ o ∈ l, o.2.length ≤ 253) : (putO l).length ≤ 255 * l.length := by
  induction l with
  | nil => simp [putO]
  | cons o r ih =>
    have h1 := h o (by simp)
    have h2 := ih fun x hx => h x (by simp [hx])
    have e : putO (o :: r) = put1 o ++ putO r := by simp [putO]
    rw [e, List.length_append, List.length_cons]
    have : (put1 o).length = o.2.length + 2 := by simp [put1]
    omega
theorem good_all {l : List Opt} (h : wrongO l = 0) : ∀ o ∈ l, bad1 o = 0 := by
  induction l with
  | nil => simp
  | cons o r ih =>
    rw [wrongO] at h
    split at h
    · rename_i h1
      intro x hx
      rcases List.mem_cons.1 hx with rfl | hx
      · exact h1
      · exact ih h x hx
    · rename_i h1; exact absurd h h1
theorem putO_lt {l : List Opt} {i : Nat} (h : ∀ o ∈ l, bad1 o = 0) : (putO (l.take i)).length ≤ 255 * l.length := by
  have h1 := putO_len (l.take i) fun o ho => by
    obtain ⟨_, _, _, _, _, h2⟩ := good_opt (h o (List.mem_of_mem_take ho))
    exact h2
  rw [List.length_take] at h1
  omega

set_option maxHeartbeats 4000000 in
theorem refPut_any (l : List Opt) (hl : l.length ≤ 100000) (hw : wrongO l = 0) (m : Bool) : ∃ z, (z = 1 ∨ putO l = []) ∧ Runs Try.prog env 30 [.pure m (.sl (optsV l))] [] (.row 0 (putO l).length) [(0, .row true z 0 (bytesOf (putO l)))] := by
  have hgood := good_all hw
  refine ⟨if l.length = 0 then 0 else 1, ?_, ?_⟩
  · split
    · rename_i h
      have : l = [] := List.length_eq_zero_iff.1 h
      subst this
      exact .inr rfl
    · exact .inl rfl
  refine Runs.of Try.func30 rfl (by simp [Try.ntmps30]) ?_
  simp (maxSteps := 400000) -dsimp -implicitDefEqProofs (disch := first | exact TrueB.mk rfl | omega) only [go_sem, Nat.reduceMul, Nat.reduceAdd, Nat.reduceLT, Nat.reduceLeDiff, Nat.reducePow, Nat.reduceEqDiff, ↓reduceIte, reduceCtorEq, Int.reduceToNat, Try.ntmps30]
  refine wpLoop_ind (α := Nat × Nat)
    (fun a => ⟨[(0, .pure m (.sl (optsV l))), (3, .row 576 (putO (l.take a.1)).length), (4, .pure true (.int .i64 a.1))], [(576, .row true (if a.1 = 0 then 0 else 1) a.2 (bytesOf (putO (l.take a.1))))]⟩)
    (fun a => a.1 ≤ l.length) (fun a => l.length - a.1) ?_ (0, 0) (by simp) rfl
  rintro ⟨i, lim⟩ hi
  simp only at hi
  have hlen := putO_lt (i := i) hgood
  have hz : (if i = 0 then 0 else 1) = 1 ∨ (if i = 0 then 0 else 1) = 0 := by split <;> simp
  simp (maxSteps := 400000) -dsimp -implicitDefEqProofs (disch := first | exact TrueB.mk rfl | omega) only [go_sem, Nat.reduceMul, Nat.reduceAdd, Nat.reduceLT, Nat.reduceLeDiff, Nat.reducePow, Nat.reduceEqDiff, ↓reduceIte, reduceCtorEq, Int.reduceToNat]
  first | refine condK_dec (fun h1 => ?_) (fun h1 => ?_) | refine condK_ndec (fun h1 => ?_) (fun h1 => ?_) | refine condK_beq (fun h1 => ?_) (fun h1 => ?_) | refine condK_bne (fun h1 => ?_) (fun h1 => ?_) | refine condK_nbeq (fun h1 => ?_) (fun h1 => ?_) | refine guardK_dec (fun h1 => ?_) (fun h1 => ?_) | refine guardK_ndec (fun h1 => ?_) (fun h1 => ?_) | refine guardK_beq (fun h1 => ?_) (fun h1 => ?_) | refine guardK_bne (fun h1 => ?_) (fun h1 => ?_) | refine guardK_nbeq (fun h1 => ?_) (fun h1 => ?_) | refine condK_not (fun h1 => ?_) (fun h1 => ?_) | refine guardK_not (fun h1 => ?_) (fun h1 => ?_) | refine condK_bool (fun h1 => ?_) (fun h1 => ?_) | refine guardK_bool (fun h1 => ?_) (fun h1 => ?_) | done
  · obtain ⟨c, n, e1, e2, e3, e4⟩ := good_opt (hgood l[i] (List.getElem_mem (by omega)))
    have g1 := opts_at (l := l) (i := i) (by omega)
    rw [e1] at g1
    have hn := putO_next (l := l) (i := i) (by omega)
    rw [e3] at hn
    have hc := c.toNat_lt
    have hn2 := n.toNat_lt
    have e5 : (l[i].2.length : Int) + 2 = (n.toNat : Int) := by omega
    rw [← List.append_assoc] at hn
    simp (maxSteps := 400000) -dsimp -implicitDefEqProofs (disch := first | exact TrueB.mk rfl | omega) only [go_sem, Nat.reduceMul, Nat.reduceAdd, Nat.reduceLT, Nat.reduceLeDiff, Nat.reducePow, Nat.reduceEqDiff, ↓reduceIte, reduceCtorEq, Int.reduceToNat, g1, e5, hz]
    refine again_mk ⟨(i + 1, (putO (l.take i)).length + 2), by show i + 1 ≤ _; omega, by show _ - (i + 1) < _ - i; omega, ?_⟩
    simp only [hn, List.length_append, List.length_cons, List.length_nil, Nat.add_one_ne_zero, if_false]
    rfl
  · simp (maxSteps := 400000) -dsimp -implicitDefEqProofs (disch := first | exact TrueB.mk rfl | omega) only [go_sem, Nat.reduceMul, Nat.reduceAdd, Nat.reduceLT, Nat.reduceLeDiff, Nat.reducePow, Nat.reduceEqDiff, ↓reduceIte, reduceCtorEq, Int.reduceToNat]
    have he : i = l.length := by omega
    subst he
    rw [List.take_length]
    first | exact end_row rfl rfl (by rw [bytesOf_length]) (allScalar_bytesOf _) | done

def putL1 (l : List Opt) : List UInt8 := if wrongO l = 0 then putO l else []

theorem putL1_len (l : List Opt) : (putL1 l).length ≤ 255 * l.length := by
  unfold putL1
  split
  · rename_i h
    exact putO_len l fun o ho => by
      obtain ⟨_, _, _, _, _, h2⟩ := good_opt (good_all h o ho)
      exact h2
  · simp

set_option maxHeartbeats 4000000 in
theorem optPut_any (l : List Opt) (hl : l.length ≤ 100000) (m : Bool) : ∃ z, (z = 1 ∨ putL1 l = []) ∧ Runs Try.prog env 28 [.pure m (.sl (optsV l))] [] (.tuple [.row 0 (putL1 l).length, .pure true (.int .i64 (wrongO l : Nat))]) [(0, .row true z 0 (bytesOf (putL1 l)))] := by
  refine ⟨if wrongO l = 0 then (if l.length = 0 then 0 else 1) else 0, ?_, ?_⟩
  · unfold putL1
    by_cases h0 : wrongO l = 0
    · rw [if_pos h0, if_pos h0]
      by_cases h : l.length = 0
      · have : l = [] := List.length_eq_zero_iff.1 h
        subst this
        exact .inr rfl
      · rw [if_neg h]; exact .inl rfl
    · rw [if_neg h0, if_neg h0]; exact .inr rfl
  refine Runs.of Try.func28 rfl (by simp [Try.ntmps28]) ?_
  generalize hw : wrongO l = w
  simp (maxSteps := 400000) -dsimp -implicitDefEqProofs (disch := first | exact TrueB.mk rfl | omega) only [go_sem, Nat.reduceMul, Nat.reduceAdd, Nat.reduceLT, Nat.reduceLeDiff, Nat.reducePow, Nat.reduceEqDiff, ↓reduceIte, reduceCtorEq, Int.reduceToNat, Try.ntmps28]
  refine wpLoop_ind (α := Nat × Nat)
    (fun a => ⟨[(4, .row 704 (putO (l.take a.1)).length), (7, .pure m (.sl (optsV l))), (8, .pure true (.int .i64 l.length)), (9, .pure true (.int .i64 a.1))], [(704, .row true (if a.1 = 0 then 0 else 1) a.2 (bytesOf (putO (l.take a.1))))]⟩)
    (fun a => a.1 ≤ l.length ∧ (∀ o ∈ l.take a.1, bad1 o = 0) ∧ wrongO (l.drop a.1) = w) (fun a => l.length - a.1) ?_ (0, 0) ⟨by simp, by simp, by simpa using hw⟩ rfl
  rintro ⟨i, lim⟩ ⟨hi, hg, hs⟩
  simp only at hi hg hs
  have hlen : (putO (l.take i)).length ≤ 255 * 100000 := by
    have := putO_len (l.take i) fun o ho => by
      obtain ⟨_, _, _, _, _, h2⟩ := good_opt (hg o ho)
      exact h2
    rw [List.length_take] at this
    omega
  have hz : (if i = 0 then 0 else 1) = 1 ∨ (if i = 0 then 0 else 1) = 0 := by split <;> simp
  simp (maxSteps := 400000) -dsimp -implicitDefEqProofs (disch := first | exact TrueB.mk rfl | omega) only [go_sem, Nat.reduceMul, Nat.reduceAdd, Nat.reduceLT, Nat.reduceLeDiff, Nat.reducePow, Nat.reduceEqDiff, ↓reduceIte, reduceCtorEq, Int.reduceToNat]
  first | refine condK_dec (fun h1 => ?_) (fun h1 => ?_) | refine condK_ndec (fun h1 => ?_) (fun h1 => ?_) | refine condK_beq (fun h1 => ?_) (fun h1 => ?_) | refine condK_bne (fun h1 => ?_) (fun h1 => ?_) | refine condK_nbeq (fun h1 => ?_) (fun h1 => ?_) | refine guardK_dec (fun h1 => ?_) (fun h1 => ?_) | refine guardK_ndec (fun h1 => ?_) (fun h1 => ?_) | refine guardK_beq (fun h1 => ?_) (fun h1 => ?_) | refine guardK_bne (fun h1 => ?_) (fun h1 => ?_) | refine guardK_nbeq (fun h1 => ?_) (fun h1 => ?_) | refine condK_not (fun h1 => ?_) (fun h1 => ?_) | refine guardK_not (fun h1 => ?_) (fun h1 => ?_) | refine condK_bool (fun h1 => ?_) (fun h1 => ?_) | refine guardK_bool (fun h1 => ?_) (fun h1 => ?_) | done
  · have g1 := opts_at (l := l) (i := i) (by omega)
    have hbad : bad1 l[i] = if l[i].1 < 0 ∨ 255 < l[i].1 then 1 else if 253 < l[i].2.length then 4 else 0 := rfl
    by_cases hb : bad1 l[i] = 0
    · obtain ⟨c, n, e1, e2, e3, e4⟩ := good_opt hb
      rw [e1] at g1
      have hn := putO_next (l := l) (i := i) (by omega)
      rw [e3, ← List.append_assoc] at hn
      have hc := c.toNat_lt
      have hn2 := n.toNat_lt
      have e5 : 2 + (l[i].2.length : Int) = (n.toNat : Int) := by omega
      simp (maxSteps := 400000) -dsimp -implicitDefEqProofs (disch := first | exact TrueB.mk rfl | omega) only [go_sem, Nat.reduceMul, Nat.reduceAdd, Nat.reduceLT, Nat.reduceLeDiff, Nat.reducePow, Nat.reduceEqDiff, ↓reduceIte, reduceCtorEq, Int.reduceToNat, g1, e5, hz]
      refine again_mk ⟨(i + 1, (putO (l.take i)).length + 2), ⟨by show i + 1 ≤ _; omega, ?_, wrong_next hs (by omega) hb⟩, by show _ - (i + 1) < _ - i; omega, ?_⟩
      · show ∀ o ∈ l.take (i + 1), bad1 o = 0
        rw [← List.take_append_getElem (show i < l.length by omega)]
        intro o ho
        rcases List.mem_append.1 ho with ho | ho
        · exact hg o ho
        · rw [List.mem_singleton.1 ho]; exact hb
      · simp only [hn, List.length_append, List.length_cons, List.length_nil, Nat.add_one_ne_zero, if_false]
        rfl
    · have hw' := wrong_at hs (by omega) hb
      have hp : putL1 l = [] := by unfold putL1; rw [if_neg (by omega)]
      rw [hp, if_neg (show ¬ w = 0 by omega)]
      by_cases h2 : l[i].1 < 0
      · simp (maxSteps := 400000) -dsimp -implicitDefEqProofs (disch := first | exact TrueB.mk rfl | omega) only [go_sem, Nat.reduceMul, Nat.reduceAdd, Nat.reduceLT, Nat.reduceLeDiff, Nat.reducePow, Nat.reduceEqDiff, ↓reduceIte, reduceCtorEq, Int.reduceToNat, g1]
        rw [if_pos (by omega)] at hbad
        first | exact end_row2 rfl rfl rfl rfl rfl (by rw [← hw', hbad]; rfl) rfl | done
      · by_cases h3 : 255 < l[i].1
        · simp (maxSteps := 400000) -dsimp -implicitDefEqProofs (disch := first | exact TrueB.mk rfl | omega) only [go_sem, Nat.reduceMul, Nat.reduceAdd, Nat.reduceLT, Nat.reduceLeDiff, Nat.reducePow, Nat.reduceEqDiff, ↓reduceIte, reduceCtorEq, Int.reduceToNat, g1]
          rw [if_pos (by omega)] at hbad
          first | exact end_row2 rfl rfl rfl rfl rfl (by rw [← hw', hbad]; rfl) rfl | done
        · rw [if_neg (by omega)] at hbad
          have h4 : 253 < l[i].2.length := by
            rcases Nat.lt_or_ge 253 l[i].2.length with h | h
            · exact h
            · rw [if_neg (by omega)] at hbad; exact absurd hbad hb
          rw [if_pos h4] at hbad
          simp (maxSteps := 400000) -dsimp -implicitDefEqProofs (disch := first | exact TrueB.mk rfl | omega) only [go_sem, Nat.reduceMul, Nat.reduceAdd, Nat.reduceLT, Nat.reduceLeDiff, Nat.reducePow, Nat.reduceEqDiff, ↓reduceIte, reduceCtorEq, Int.reduceToNat, g1]
          first | exact end_row2 rfl rfl rfl rfl rfl (by rw [← hw', hbad]; rfl) rfl | done
  · have he : i = l.length := by omega
    subst he
    have hw0 := wrong_end hs (by omega)
    have hp : putL1 l = putO l := by unfold putL1; rw [if_pos (by omega)]
    rw [hp, if_pos (show w = 0 by omega)]
    simp (maxSteps := 400000) -dsimp -implicitDefEqProofs (disch := first | exact TrueB.mk rfl | omega) only [go_sem, Nat.reduceMul, Nat.reduceAdd, Nat.reduceLT, Nat.reduceLeDiff, Nat.reducePow, Nat.reduceEqDiff, ↓reduceIte, reduceCtorEq, Int.reduceToNat, List.take_length]
    first | exact end_row2 rfl rfl rfl (by rw [bytesOf_length]) (allScalar_bytesOf _) (by rw [← hw0]; rfl) rfl | done
end Go.Proofs.Ytpgklagjjimbhaa
