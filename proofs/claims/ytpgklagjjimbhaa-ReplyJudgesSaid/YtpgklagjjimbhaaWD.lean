/- YtpgklagjjimbhaaWD: what naks: the two functions. No claim. -/
import Derived.Test.YtpgklagjjimbhaaWC
set_option linter.unusedVariables false
set_option linter.unusedSimpArgs false
set_option maxRecDepth 100000
namespace Go.Proofs.Ytpgklagjjimbhaa
open Go Go.Proofs.Ytpgklagjjimbhaa.V

/-- A call that hands back a new map. -/
theorem wpAct_callM {P : Program} {E : Env} {base : Nat} {o : Oper} {ev : Operand → SV} {look : Nat → Option Ob} {K : Eff → Prop} {c : Call} {f : Operand} {g : FuncId} {caps av : List SV} {δ : Store} {es : List (PV × PV)} {mm : Bool}
    (hr : Runs P E g av [] (.map 0) [(0, .map mm es)]) (ho : o.op = .call c) (hc : c.callee = .value f) (hf : ev f = .clo g caps) (hi : E.intr g = none) (ha : argV base (E.byRef g) look (c.args.toList.map ev ++ caps) = some (av, δ)) (hn : refsL av = [])
    (hk : freshKeys look (base + 16 * (o.dst.getD 0)) 16 = true)
    (h : K { res := .map (base + 16 * (o.dst.getD 0)), wr := (base + 16 * (o.dst.getD 0), .map mm es) :: δ, rd := some ((List.range 16).map (base + 16 * (o.dst.getD 0) + ·) ++ refsL (c.args.toList.map ev ++ caps)) }) : wpAct P E base o ev look K := by
  refine wpAct_call hr ho hc hf hi ha hn (by simp [hk]) ?_
  simpa [backAll, newO, V.get, renO, List.range_succ, newV, ren] using h

def naksP (q p : Pkt) : Bool := (bothP q p 3).2.2 && (!twice (bothP q p 3).2.1) && naksO (bothP q p 3).1 (bothP q p 3).2.1

set_option maxHeartbeats 8000000 in
theorem naks_any (q p : Pkt) (hq : q.2.2.length ≤ 100000) (hp : p.2.2.length ≤ 100000) (m m' : Bool) : Runs Try.prog env 72 [.pure m (pktV q), .pure m' (pktV p)] [] (.pure true (.bool (naksP q p))) [] := by
  obtain ⟨z1, l1, z2, l2, c⟩ := both_any q p 3 hq hp (m && false) (m' && false) true
  obtain ⟨n1, n2⟩ := bothP_len q p 3
  unfold naksP
  refine Runs.of Try.func72 rfl (by simp [Try.ntmps72]) ?_
  generalize bothP q p 3 = R at *
  unfold pktV at c ⊢
  simp (maxSteps := 400000) -dsimp -implicitDefEqProofs (disch := first | exact TrueB.mk rfl | omega) only [go_sem, Nat.reduceMul, Nat.reduceAdd, Nat.reduceLT, Nat.reduceLeDiff, Nat.reducePow, Nat.reduceEqDiff, ↓reduceIte, reduceCtorEq, Int.reduceToNat, Try.ntmps72]
  refine wpAct_callGG c rfl rfl rfl rfl rfl rfl rfl rfl rfl ?_
  cases h : R.2.2 with
  | false =>
    simp (maxSteps := 400000) -dsimp -implicitDefEqProofs (disch := first | exact TrueB.mk rfl | omega) only [go_sem, Nat.reduceMul, Nat.reduceAdd, Nat.reduceLT, Nat.reduceLeDiff, Nat.reducePow, Nat.reduceEqDiff, ↓reduceIte, reduceCtorEq, Int.reduceToNat, h]
    first | exact end_bool rfl rfl | done
  | true =>
  simp (maxSteps := 400000) -dsimp -implicitDefEqProofs (disch := first | exact TrueB.mk rfl | omega) only [go_sem, Nat.reduceMul, Nat.reduceAdd, Nat.reduceLT, Nat.reduceLeDiff, Nat.reducePow, Nat.reduceEqDiff, ↓reduceIte, reduceCtorEq, Int.reduceToNat, h]
  first | refine wpAct_callF (optTwice_any R.2.1 (by omega) _) rfl rfl rfl rfl (argV_r rfl (optsV_length _).symm argV_nil) rfl rfl rfl rfl ?_ | done
  cases h2 : twice R.2.1 with
  | true =>
    simp (maxSteps := 400000) -dsimp -implicitDefEqProofs (disch := first | exact TrueB.mk rfl | omega) only [go_sem, Nat.reduceMul, Nat.reduceAdd, Nat.reduceLT, Nat.reduceLeDiff, Nat.reducePow, Nat.reduceEqDiff, ↓reduceIte, reduceCtorEq, Int.reduceToNat, h2]
    first | exact end_bool rfl rfl | done
  | false =>
  simp (maxSteps := 400000) -dsimp -implicitDefEqProofs (disch := first | exact TrueB.mk rfl | omega) only [go_sem, Nat.reduceMul, Nat.reduceAdd, Nat.reduceLT, Nat.reduceLeDiff, Nat.reducePow, Nat.reduceEqDiff, ↓reduceIte, reduceCtorEq, Int.reduceToNat, h2]
  refine wpAct_callM (places_any R.1 (by omega) _) rfl rfl rfl rfl (argV_r rfl (optsV_length _).symm argV_nil) rfl rfl ?_
  simp (maxSteps := 400000) -dsimp -implicitDefEqProofs (disch := first | exact TrueB.mk rfl | omega) only [go_sem, Nat.reduceMul, Nat.reduceAdd, Nat.reduceLT, Nat.reduceLeDiff, Nat.reducePow, Nat.reduceEqDiff, ↓reduceIte, reduceCtorEq, Int.reduceToNat]
  refine wpAct_callS [128, 384, 80, 208, 144] (contNak_any R.1 R.2.1 (by omega) (by omega) (placesK R.1 R.1.length) (places_all R.1) z1 (max l1 R.1.length) (Nat.le_max_right ..) _) rfl rfl rfl rfl (argV_r rfl (optsV_length _).symm (argV_p rfl argV_nil)) rfl rfl rfl rfl rfl ?_
  simp (maxSteps := 400000) -dsimp -implicitDefEqProofs (disch := first | exact TrueB.mk rfl | omega) only [go_sem, Nat.reduceMul, Nat.reduceAdd, Nat.reduceLT, Nat.reduceLeDiff, Nat.reducePow, Nat.reduceEqDiff, ↓reduceIte, reduceCtorEq, Int.reduceToNat]
  first | exact end_bool rfl (by simp) | done

theorem zOf_pos {l : List Opt} (h : 0 < l.length) : zOf l = 2 := by
  unfold zOf
  rw [if_neg (by rintro rfl; simp at h)]
/-- Stands an option behind one that is asked for later? -/
def late (a : List Opt) (o p : Opt) : Prop := 0 ≤ idxI (findO a o.1) ∧ (idxI (findO a p.1) < 0 ∨ idxI (findO a o.1) < idxI (findO a p.1))
theorem late_iff (a : List Opt) (o p : Opt) : late a o p ↔ ((findO a o.1).isSome = true ∧ placeO a o < placeO a p) := by
  unfold late placeO
  cases h1 : findO a o.1 with
  | none => simp [idxI]
  | some i =>
    have := findO_lt h1
    cases h2 : findO a p.1 with
    | none => simp [idxI]; omega
    | some j => simp [idxI]; omega
def noLate (a b : List Opt) (o : Opt) (i j : Nat) : Prop := j ≤ i ∧ ∀ k (h : k < b.length), k < j → ¬ late a o b[k]
theorem noLate_0 (a b : List Opt) (o : Opt) (i : Nat) : noLate a b o i 0 := ⟨Nat.zero_le _, fun _ _ h => by omega⟩
theorem noLate_next {a b : List Opt} {o : Opt} {i j : Nat} (h : noLate a b o i j) (h1 : j < i) (hb : j < b.length) (e : ¬ late a o b[j]) : noLate a b o i (j + 1) :=
  ⟨h1, fun k hk hlt => by
    by_cases hkj : k = j
    · subst hkj; exact e
    · exact h.2 k hk (by omega)⟩
theorem badO_has {a pre : List Opt} {o : Opt} {k : Nat} (hk : k < a.length) (e : (a[k] == o) = true) : badO a pre o = true := by
  unfold badO
  have e' : a[k] = o := by simpa using e
  rw [show a.contains o = true from by rw [List.contains_iff_mem]; exact e' ▸ List.getElem_mem hk, Bool.or_true]
theorem badO_late {a b : List Opt} {i j : Nat} (hi : i < b.length) (hj : j < i) (h : late a b[i] (b[j]'(by omega))) : badO a (b.take i) b[i] = true := by
  unfold badO
  obtain ⟨h1, h2⟩ := (late_iff ..).1 h
  rw [h1, decide_eq_true ((lastL_lt a (b.take i) _).2 ⟨b[j], ?_, h2⟩)]
  · rfl
  · rw [List.mem_take_iff_getElem]
    exact ⟨j, by omega, rfl⟩
theorem badO_no {a b : List Opt} {i : Nat} (hi : i < b.length) {n j : Nat} (h1 : noneP (fun x => x == b[i]) a n) (hn : a.length ≤ n) (h2 : noLate a b b[i] i j) (hj : i ≤ j) : badO a (b.take i) b[i] = false := by
  unfold badO
  have e1 : a.contains b[i] = false := by
    rw [Bool.eq_false_iff]
    intro hc
    rw [List.contains_iff_mem] at hc
    obtain ⟨k, hk, e⟩ := List.getElem_of_mem hc
    have := h1.2 k hk (by omega)
    simp [e] at this
  rw [e1, Bool.or_false]
  cases h3 : (findO a b[i].1).isSome with
  | false => rfl
  | true =>
    rw [Bool.true_and]
    apply decide_eq_false
    rw [lastL_lt]
    rintro ⟨p, hp, hlt⟩
    rw [List.mem_take_iff_getElem] at hp
    obtain ⟨k, hk, rfl⟩ := hp
    exact h2.2 k (by omega) (by omega) ((late_iff ..).2 ⟨h3, hlt⟩)

set_option maxHeartbeats 16000000 in
theorem refNaks_any (q p : Pkt) (hq : q.2.2.length ≤ 100000) (hp : p.2.2.length ≤ 100000) (m m' : Bool) : Runs Try.prog env 73 [.pure m (pktV q), .pure m' (pktV p)] [] (.pure true (.bool (naksP q p))) [] := by
  have c1 := fun m => refPktOptions_any q hq m
  have c2 := fun m => refPktOptions_any p hp m
  have hr : naksP q p = (fitsP q p 3 && ((optsP q).2 && (optsP p).2 && decide ((0 : Int) < ((optsP p).1.length : Int))) && !twice (optsP p).1 && naksO (optsP q).1 (optsP p).1) := by
    unfold naksP bothP
    cases fitsP q p 3 <;> simp
  rw [hr]
  have n1 := optsP_len q
  have n2 := optsP_len p
  have hfit : fitsP q p 3 = decide (q.1 = 1 ∧ p.1 = 3 ∧ p.2.1 = q.2.1) := rfl
  generalize optsP q = A at *
  generalize optsP p = B at *
  clear hr
  unfold pktV at c1 c2 ⊢
  refine Runs.of Try.func73 rfl (by simp [Try.ntmps73]) ?_
  simp (maxSteps := 400000) -dsimp -implicitDefEqProofs (disch := first | exact TrueB.mk rfl | omega) only [go_sem, Nat.reduceMul, Nat.reduceAdd, Nat.reduceLT, Nat.reduceLeDiff, Nat.reducePow, Nat.reduceEqDiff, ↓reduceIte, reduceCtorEq, Int.reduceToNat, Try.ntmps73]
  first | refine wpAct_callG (c1 _) rfl rfl rfl rfl rfl rfl rfl rfl rfl ?_ | done
  simp (maxSteps := 400000) -dsimp -implicitDefEqProofs (disch := first | exact TrueB.mk rfl | omega) only [go_sem, Nat.reduceMul, Nat.reduceAdd, Nat.reduceLT, Nat.reduceLeDiff, Nat.reducePow, Nat.reduceEqDiff, ↓reduceIte, reduceCtorEq, Int.reduceToNat]
  first | refine wpAct_callG (c2 _) rfl rfl rfl rfl rfl rfl rfl rfl rfl ?_ | done
  rcases Classical.em (q.1 = 1) with h1 | h1
  rotate_left
  · have : fitsP q p 3 = false := by rw [hfit]; simp [h1]
    rw [this]
    simp (maxSteps := 400000) -dsimp -implicitDefEqProofs (disch := first | exact TrueB.mk rfl | omega) only [go_sem, Nat.reduceMul, Nat.reduceAdd, Nat.reduceLT, Nat.reduceLeDiff, Nat.reducePow, Nat.reduceEqDiff, ↓reduceIte, reduceCtorEq, Int.reduceToNat]
    first | exact end_bool rfl rfl | done
  rcases Classical.em (p.1 = 3) with h2 | h2
  rotate_left
  · have : fitsP q p 3 = false := by rw [hfit]; simp [h2]
    rw [this]
    simp (maxSteps := 400000) -dsimp -implicitDefEqProofs (disch := first | exact TrueB.mk rfl | omega) only [go_sem, Nat.reduceMul, Nat.reduceAdd, Nat.reduceLT, Nat.reduceLeDiff, Nat.reducePow, Nat.reduceEqDiff, ↓reduceIte, reduceCtorEq, Int.reduceToNat]
    first | exact end_bool rfl rfl | done
  rcases Classical.em (p.2.1 = q.2.1) with h3 | h3
  rotate_left
  · have : fitsP q p 3 = false := by rw [hfit]; simp [h3]
    rw [this]
    simp (maxSteps := 400000) -dsimp -implicitDefEqProofs (disch := first | exact TrueB.mk rfl | omega) only [go_sem, Nat.reduceMul, Nat.reduceAdd, Nat.reduceLT, Nat.reduceLeDiff, Nat.reducePow, Nat.reduceEqDiff, ↓reduceIte, reduceCtorEq, Int.reduceToNat]
    first | exact end_bool rfl rfl | done
  have : fitsP q p 3 = true := by rw [hfit]; simp [h1, h2, h3]
  rw [this]
  cases ha : A.2 with
  | false =>
    simp (maxSteps := 400000) -dsimp -implicitDefEqProofs (disch := first | exact TrueB.mk rfl | omega) only [go_sem, Nat.reduceMul, Nat.reduceAdd, Nat.reduceLT, Nat.reduceLeDiff, Nat.reducePow, Nat.reduceEqDiff, ↓reduceIte, reduceCtorEq, Int.reduceToNat, ha]
    first | exact end_bool rfl rfl | done
  | true =>
  cases hb : B.2 with
  | false =>
    simp (maxSteps := 400000) -dsimp -implicitDefEqProofs (disch := first | exact TrueB.mk rfl | omega) only [go_sem, Nat.reduceMul, Nat.reduceAdd, Nat.reduceLT, Nat.reduceLeDiff, Nat.reducePow, Nat.reduceEqDiff, ↓reduceIte, reduceCtorEq, Int.reduceToNat, ha, hb]
    first | exact end_bool rfl rfl | done
  | true =>
  rcases Classical.em ((B.1.length : Int) = 0) with h4 | h4
  · have e0 : decide ((0 : Int) < (B.1.length : Int)) = false := decide_eq_false (by omega)
    simp (maxSteps := 400000) -dsimp -implicitDefEqProofs (disch := first | exact TrueB.mk rfl | omega) only [go_sem, Nat.reduceMul, Nat.reduceAdd, Nat.reduceLT, Nat.reduceLeDiff, Nat.reducePow, Nat.reduceEqDiff, ↓reduceIte, reduceCtorEq, Int.reduceToNat, ha, hb]
    first | exact end_bool rfl (by simp [e0]) | done
  simp (maxSteps := 400000) -dsimp -implicitDefEqProofs (disch := first | exact TrueB.mk rfl | omega) only [go_sem, Nat.reduceMul, Nat.reduceAdd, Nat.reduceLT, Nat.reduceLeDiff, Nat.reducePow, Nat.reduceEqDiff, ↓reduceIte, reduceCtorEq, Int.reduceToNat, ha, hb]
  first | refine wpAct_callF (refTwice_any B.1 (by omega) _) rfl rfl rfl rfl (argV_r rfl (optsV_length _).symm argV_nil) rfl rfl rfl rfl ?_ | done
  cases h5 : twice B.1 with
  | true =>
    simp (maxSteps := 400000) -dsimp -implicitDefEqProofs (disch := first | exact TrueB.mk rfl | omega) only [go_sem, Nat.reduceMul, Nat.reduceAdd, Nat.reduceLT, Nat.reduceLeDiff, Nat.reducePow, Nat.reduceEqDiff, ↓reduceIte, reduceCtorEq, Int.reduceToNat, h5]
    first | exact end_bool rfl (by simp) | done
  | false =>
  simp (maxSteps := 400000) -dsimp -implicitDefEqProofs (disch := first | exact TrueB.mk rfl | omega) only [go_sem, Nat.reduceMul, Nat.reduceAdd, Nat.reduceLT, Nat.reduceLeDiff, Nat.reducePow, Nat.reduceEqDiff, ↓reduceIte, reduceCtorEq, Int.reduceToNat, h5]
  have hpos : decide ((0 : Int) < (B.1.length : Int)) = true := decide_eq_true (by omega)
  refine wpLoop_ind (α := Nat × Nat)
    (fun a => ⟨[(5, .row 1712 A.1.length), (7, .row 1713 B.1.length), (9, .pure true (.int .i64 a.1))], [(1712, .row true (zOf A.1) a.2 (optsV A.1)), (1713, .row true (zOf B.1) (B.1.length - 1) (optsV B.1))]⟩)
    (fun a => noneBad A.1 B.1 a.1) (fun a => B.1.length - a.1) ?_ (0, A.1.length - 1) (noneBad_0 _ _) rfl
  rintro ⟨i, lim⟩ hi
  simp only at hi
  have hi' := hi.1
  simp (maxSteps := 400000) -dsimp -implicitDefEqProofs (disch := first | exact TrueB.mk rfl | omega) only [go_sem, Nat.reduceMul, Nat.reduceAdd, Nat.reduceLT, Nat.reduceLeDiff, Nat.reducePow, Nat.reduceEqDiff, ↓reduceIte, reduceCtorEq, Int.reduceToNat]
  first | refine condK_dec (fun h6 => ?_) (fun h6 => ?_) | refine condK_ndec (fun h6 => ?_) (fun h6 => ?_) | refine condK_beq (fun h6 => ?_) (fun h6 => ?_) | refine condK_bne (fun h6 => ?_) (fun h6 => ?_) | refine condK_nbeq (fun h6 => ?_) (fun h6 => ?_) | refine guardK_dec (fun h6 => ?_) (fun h6 => ?_) | refine guardK_ndec (fun h6 => ?_) (fun h6 => ?_) | refine guardK_beq (fun h6 => ?_) (fun h6 => ?_) | refine guardK_bne (fun h6 => ?_) (fun h6 => ?_) | refine guardK_nbeq (fun h6 => ?_) (fun h6 => ?_) | refine condK_not (fun h6 => ?_) (fun h6 => ?_) | refine guardK_not (fun h6 => ?_) (fun h6 => ?_) | refine condK_bool (fun h6 => ?_) (fun h6 => ?_) | refine guardK_bool (fun h6 => ?_) (fun h6 => ?_) | done
  rotate_left
  · simp (maxSteps := 400000) -dsimp -implicitDefEqProofs (disch := first | exact TrueB.mk rfl | omega) only [go_sem, Nat.reduceMul, Nat.reduceAdd, Nat.reduceLT, Nat.reduceLeDiff, Nat.reducePow, Nat.reduceEqDiff, ↓reduceIte, reduceCtorEq, Int.reduceToNat]
    have e1 := naksO_good hi (by omega)
    first | exact end_bool rfl (by simp [e1, hpos]) | done
  have hlt : i < B.1.length := by omega
  have g1 := opts_at (l := B.1) (i := i) hlt
  simp (maxSteps := 400000) -dsimp -implicitDefEqProofs (disch := first | exact TrueB.mk rfl | omega) only [go_sem, Nat.reduceMul, Nat.reduceAdd, Nat.reduceLT, Nat.reduceLeDiff, Nat.reducePow, Nat.reduceEqDiff, ↓reduceIte, reduceCtorEq, Int.reduceToNat]
  refine wpLoop_ind (α := Nat × Nat)
    (fun a => ⟨[(5, .row 1712 A.1.length), (7, .row 1713 B.1.length), (9, .pure true (.int .i64 i)), (10, .pure true (.int .i64 a.1))], [(1712, .row true (zOf A.1) a.2 (optsV A.1)), (1713, .row true (zOf B.1) (B.1.length - 1) (optsV B.1))]⟩)
    (fun a => noneP (fun x => x == B.1[i]) A.1 a.1) (fun a => A.1.length - a.1) ?_ (0, lim) (noneP_0 _ _) rfl
  rintro ⟨k, lim2⟩ hk
  simp only at hk
  have hk' := hk.1
  simp (maxSteps := 400000) -dsimp -implicitDefEqProofs (disch := first | exact TrueB.mk rfl | omega) only [go_sem, Nat.reduceMul, Nat.reduceAdd, Nat.reduceLT, Nat.reduceLeDiff, Nat.reducePow, Nat.reduceEqDiff, ↓reduceIte, reduceCtorEq, Int.reduceToNat]
  first | refine condK_dec (fun h7 => ?_) (fun h7 => ?_) | refine condK_ndec (fun h7 => ?_) (fun h7 => ?_) | refine condK_beq (fun h7 => ?_) (fun h7 => ?_) | refine condK_bne (fun h7 => ?_) (fun h7 => ?_) | refine condK_nbeq (fun h7 => ?_) (fun h7 => ?_) | refine guardK_dec (fun h7 => ?_) (fun h7 => ?_) | refine guardK_ndec (fun h7 => ?_) (fun h7 => ?_) | refine guardK_beq (fun h7 => ?_) (fun h7 => ?_) | refine guardK_bne (fun h7 => ?_) (fun h7 => ?_) | refine guardK_nbeq (fun h7 => ?_) (fun h7 => ?_) | refine condK_not (fun h7 => ?_) (fun h7 => ?_) | refine guardK_not (fun h7 => ?_) (fun h7 => ?_) | refine condK_bool (fun h7 => ?_) (fun h7 => ?_) | refine guardK_bool (fun h7 => ?_) (fun h7 => ?_) | done
  · have hkt : k < A.1.length := by omega
    have g2 := opts_at (l := A.1) (i := k) hkt
    have z1 : zOf A.1 = 2 := zOf_pos (by omega)
    have z2 : zOf B.1 = 2 := zOf_pos (by omega)
    simp (maxSteps := 400000) -dsimp -implicitDefEqProofs (disch := first | exact TrueB.mk rfl | omega) only [go_sem, Nat.reduceMul, Nat.reduceAdd, Nat.reduceLT, Nat.reduceLeDiff, Nat.reducePow, Nat.reduceEqDiff, ↓reduceIte, reduceCtorEq, Int.reduceToNat, g1, g2, z1, z2]
    first | refine wpAct_call0 (one_any (A.1[k]'hkt) (B.1[i]'hlt) _ _) rfl rfl rfl rfl rfl rfl rfl rfl ?_ | done
    cases h8 : (A.1[k]'hkt == B.1[i]'hlt) with
    | true =>
      simp (maxSteps := 400000) -dsimp -implicitDefEqProofs (disch := first | exact TrueB.mk rfl | omega) only [go_sem, Nat.reduceMul, Nat.reduceAdd, Nat.reduceLT, Nat.reduceLeDiff, Nat.reducePow, Nat.reduceEqDiff, ↓reduceIte, reduceCtorEq, Int.reduceToNat, h8]
      have e1 := naksO_bad hlt (badO_has (pre := B.1.take i) hkt h8)
      first | exact end_bool rfl (by simp [e1]) | done
    | false =>
      simp (maxSteps := 400000) -dsimp -implicitDefEqProofs (disch := first | exact TrueB.mk rfl | omega) only [go_sem, Nat.reduceMul, Nat.reduceAdd, Nat.reduceLT, Nat.reduceLeDiff, Nat.reducePow, Nat.reduceEqDiff, ↓reduceIte, reduceCtorEq, Int.reduceToNat, h8]
      first | exact again_mk ⟨(k + 1, lim2), noneP_next hk hkt h8, by show _ - (k + 1) < _ - k; omega, by rw [z1, z2]; rfl⟩ | done
  simp (maxSteps := 400000) -dsimp -implicitDefEqProofs (disch := first | exact TrueB.mk rfl | omega) only [go_sem, Nat.reduceMul, Nat.reduceAdd, Nat.reduceLT, Nat.reduceLeDiff, Nat.reducePow, Nat.reduceEqDiff, ↓reduceIte, reduceCtorEq, Int.reduceToNat]
  refine wpLoop_ind (α := Nat × Nat)
    (fun a => ⟨[(5, .row 1712 A.1.length), (7, .row 1713 B.1.length), (9, .pure true (.int .i64 i)), (11, .pure true (.int .i64 a.1))], [(1712, .row true (zOf A.1) a.2 (optsV A.1)), (1713, .row true (zOf B.1) (B.1.length - 1) (optsV B.1))]⟩)
    (fun a => noLate A.1 B.1 B.1[i] i a.1) (fun a => i - a.1) ?_ (0, lim2) (noLate_0 ..) rfl
  rintro ⟨j, lim3⟩ hj
  simp only at hj
  have hj' := hj.1
  simp (maxSteps := 400000) -dsimp -implicitDefEqProofs (disch := first | exact TrueB.mk rfl | omega) only [go_sem, Nat.reduceMul, Nat.reduceAdd, Nat.reduceLT, Nat.reduceLeDiff, Nat.reducePow, Nat.reduceEqDiff, ↓reduceIte, reduceCtorEq, Int.reduceToNat]
  first | refine condK_dec (fun h9 => ?_) (fun h9 => ?_) | refine condK_ndec (fun h9 => ?_) (fun h9 => ?_) | refine condK_beq (fun h9 => ?_) (fun h9 => ?_) | refine condK_bne (fun h9 => ?_) (fun h9 => ?_) | refine condK_nbeq (fun h9 => ?_) (fun h9 => ?_) | refine guardK_dec (fun h9 => ?_) (fun h9 => ?_) | refine guardK_ndec (fun h9 => ?_) (fun h9 => ?_) | refine guardK_beq (fun h9 => ?_) (fun h9 => ?_) | refine guardK_bne (fun h9 => ?_) (fun h9 => ?_) | refine guardK_nbeq (fun h9 => ?_) (fun h9 => ?_) | refine condK_not (fun h9 => ?_) (fun h9 => ?_) | refine guardK_not (fun h9 => ?_) (fun h9 => ?_) | refine condK_bool (fun h9 => ?_) (fun h9 => ?_) | refine guardK_bool (fun h9 => ?_) (fun h9 => ?_) | done
  · have hjt : j < B.1.length := by omega
    have g3 := opts_at (l := B.1) (i := j) hjt
    have z2 : zOf B.1 = 2 := zOf_pos (by omega)
    simp (maxSteps := 400000) -dsimp -implicitDefEqProofs (disch := first | exact TrueB.mk rfl | omega) only [go_sem, Nat.reduceMul, Nat.reduceAdd, Nat.reduceLT, Nat.reduceLeDiff, Nat.reducePow, Nat.reduceEqDiff, ↓reduceIte, reduceCtorEq, Int.reduceToNat, g1, z2]
    first | refine wpAct_callF (refFind_any A.1 (B.1[i]'hlt).1 (by omega) _ _) rfl rfl rfl rfl (argV_r rfl (optsV_length _).symm (argV_p rfl argV_nil)) rfl rfl rfl rfl ?_ | done
    simp (maxSteps := 400000) -dsimp -implicitDefEqProofs (disch := first | exact TrueB.mk rfl | omega) only [go_sem, Nat.reduceMul, Nat.reduceAdd, Nat.reduceLT, Nat.reduceLeDiff, Nat.reducePow, Nat.reduceEqDiff, ↓reduceIte, reduceCtorEq, Int.reduceToNat, g3, z2]
    first | refine wpAct_callF (refFind_any A.1 (B.1[j]'hjt).1 (by omega) _ _) rfl rfl rfl rfl (argV_r rfl (optsV_length _).symm (argV_p rfl argV_nil)) rfl rfl rfl rfl ?_ | done
    by_cases h10 : 0 ≤ idxI (findO A.1 (B.1[i]'hlt).1)
    · by_cases h11 : idxI (findO A.1 (B.1[j]'hjt).1) < 0
      · simp (maxSteps := 400000) -dsimp -implicitDefEqProofs (disch := first | exact TrueB.mk rfl | omega) only [go_sem, Nat.reduceMul, Nat.reduceAdd, Nat.reduceLT, Nat.reduceLeDiff, Nat.reducePow, Nat.reduceEqDiff, ↓reduceIte, reduceCtorEq, Int.reduceToNat, h10, h11]
        have e1 := naksO_bad hlt (badO_late hlt (show j < i by omega) ⟨h10, .inl h11⟩)
        first | exact end_bool rfl (by simp [e1]) | done
      · by_cases h12 : idxI (findO A.1 (B.1[i]'hlt).1) < idxI (findO A.1 (B.1[j]'hjt).1)
        · simp (maxSteps := 400000) -dsimp -implicitDefEqProofs (disch := first | exact TrueB.mk rfl | omega) only [go_sem, Nat.reduceMul, Nat.reduceAdd, Nat.reduceLT, Nat.reduceLeDiff, Nat.reducePow, Nat.reduceEqDiff, ↓reduceIte, reduceCtorEq, Int.reduceToNat, h10, h11, h12]
          have e1 := naksO_bad hlt (badO_late hlt (show j < i by omega) ⟨h10, .inr h12⟩)
          first | exact end_bool rfl (by simp [e1]) | done
        · simp (maxSteps := 400000) -dsimp -implicitDefEqProofs (disch := first | exact TrueB.mk rfl | omega) only [go_sem, Nat.reduceMul, Nat.reduceAdd, Nat.reduceLT, Nat.reduceLeDiff, Nat.reducePow, Nat.reduceEqDiff, ↓reduceIte, reduceCtorEq, Int.reduceToNat, h10, h11, h12]
          first | exact again_mk ⟨(j + 1, lim3), noLate_next hj (by omega) hjt (fun h => h.2.elim h11 h12), by show _ - (j + 1) < _ - j; omega, by rw [z2]; rfl⟩ | done
    · simp (maxSteps := 400000) -dsimp -implicitDefEqProofs (disch := first | exact TrueB.mk rfl | omega) only [go_sem, Nat.reduceMul, Nat.reduceAdd, Nat.reduceLT, Nat.reduceLeDiff, Nat.reducePow, Nat.reduceEqDiff, ↓reduceIte, reduceCtorEq, Int.reduceToNat, h10]
      first | exact again_mk ⟨(j + 1, lim3), noLate_next hj (by omega) hjt (fun h => h10 h.1), by show _ - (j + 1) < _ - j; omega, by rw [z2]; rfl⟩ | done
  simp (maxSteps := 400000) -dsimp -implicitDefEqProofs (disch := first | exact TrueB.mk rfl | omega) only [go_sem, Nat.reduceMul, Nat.reduceAdd, Nat.reduceLT, Nat.reduceLeDiff, Nat.reducePow, Nat.reduceEqDiff, ↓reduceIte, reduceCtorEq, Int.reduceToNat]
  first | exact again_mk ⟨(i + 1, lim3), noneBad_next hi hlt (badO_no hlt hk (by omega) hj (by omega)), by show _ - (i + 1) < _ - i; omega, rfl⟩ | done
end Go.Proofs.Ytpgklagjjimbhaa
