/- YtpgklagjjimbhaaK: the laws OptionTaken and OptionKeeps, over the evaluator. No claim. -/
import Derived.Test.YtpgklagjjimbhaaH
set_option linter.unusedVariables false
set_option linter.unusedSimpArgs false
set_option maxRecDepth 100000
namespace Go.Proofs.Ytpgklagjjimbhaa
open Go Go.Proofs.Ytpgklagjjimbhaa.V

theorem within_iff {a b : List Opt} : within a b = true ↔ a.Sublist b := List.isSublist_iff_sublist
theorem within_sub {a b : List Opt} (h : a.Sublist b) : within a b = true := within_iff.2 h
theorem within_back {a b : List Opt} (h : a.Sublist b) (hn : a.length ≠ b.length) : within b a = false := by
  cases hw : within b a with
  | false => rfl
  | true =>
    have h2 := (within_iff.1 hw).length_le
    have h3 := h.length_le
    omega

def takenI (l : List Opt) (a : Nat × List Opt × Bool × Nat × Nat) : Prop := a.1 ≤ l.length ∧ a.2.1.Sublist (l.take a.1) ∧ (a.2.2.2.1 = 2 ∨ a.2.2.2.1 = 0)

set_option maxHeartbeats 8000000 in
theorem optionTaken_runs (l : List Opt) (n : Nat) (hn : n < 18446744073709551616) : Runs Try.prog env 7 [.pure false (.sl (optsV l)), .pure false (.int .u64 n)] [] (.pure true (.bool true)) [] := by
  refine Runs.of Try.func7 rfl (by simp [Try.ntmps7]) ?_
  simp (maxSteps := 400000) -dsimp -implicitDefEqProofs (disch := first | exact TrueB.mk rfl | omega) only [go_sem, Nat.reduceMul, Nat.reduceAdd, Nat.reduceLT, Nat.reduceLeDiff, Nat.reducePow, Nat.reduceEqDiff, ↓reduceIte, reduceCtorEq, Int.reduceToNat, Try.ntmps7]
  first | refine wpAct_call0 (awake12_any) rfl rfl rfl rfl rfl rfl rfl rfl ?_ | done
  simp (maxSteps := 400000) -dsimp -implicitDefEqProofs (disch := first | exact TrueB.mk rfl | omega) only [go_sem, Nat.reduceMul, Nat.reduceAdd, Nat.reduceLT, Nat.reduceLeDiff, Nat.reducePow, Nat.reduceEqDiff, ↓reduceIte, reduceCtorEq, Int.reduceToNat]
  first | refine wpAct_call0 (few_any l false) rfl rfl rfl rfl rfl rfl rfl rfl ?_ | done
  simp (maxSteps := 400000) -dsimp -implicitDefEqProofs (disch := first | exact TrueB.mk rfl | omega) only [go_sem, Nat.reduceMul, Nat.reduceAdd, Nat.reduceLT, Nat.reduceLeDiff, Nat.reducePow, Nat.reduceEqDiff, ↓reduceIte, reduceCtorEq, Int.reduceToNat]
  cases hf : few l with
  | false =>
    simp (maxSteps := 400000) -dsimp -implicitDefEqProofs (disch := first | exact TrueB.mk rfl | omega) only [go_sem, Nat.reduceMul, Nat.reduceAdd, Nat.reduceLT, Nat.reduceLeDiff, Nat.reducePow, Nat.reduceEqDiff, ↓reduceIte, reduceCtorEq, Int.reduceToNat]
    first | refine wpAct_call0 (awake12_any) rfl rfl rfl rfl rfl rfl rfl rfl ?_ | done
    simp (maxSteps := 400000) -dsimp -implicitDefEqProofs (disch := first | exact TrueB.mk rfl | omega) only [go_sem, Nat.reduceMul, Nat.reduceAdd, Nat.reduceLT, Nat.reduceLeDiff, Nat.reducePow, Nat.reduceEqDiff, ↓reduceIte, reduceCtorEq, Int.reduceToNat]
    first | exact end_bool rfl rfl | done
  | true =>
  have hl := few_len hf
  simp (maxSteps := 400000) -dsimp -implicitDefEqProofs (disch := first | exact TrueB.mk rfl | omega) only [go_sem, Nat.reduceMul, Nat.reduceAdd, Nat.reduceLT, Nat.reduceLeDiff, Nat.reducePow, Nat.reduceEqDiff, ↓reduceIte, reduceCtorEq, Int.reduceToNat]
  refine wpLoop_ind (α := Nat × List Opt × Bool × Nat × Nat)
    (fun a => ⟨[(0, .pure false (.sl (optsV l))), (1, .pure false (.int .u64 n)), (5, .row 1024 a.2.1.length), (6, .pure true (.int .i64 a.1))], [(1024, .row a.2.2.1 a.2.2.2.1 a.2.2.2.2 (optsV a.2.1))]⟩)
    (takenI l) (fun a => l.length - a.1) ?_ (0, [], true, 0, 0) ⟨by simp, by simp, .inr rfl⟩ rfl
  rintro ⟨i, out, mm, z, lim⟩ ⟨hi, hs, hz⟩
  simp only at hi hs hz
  have ho : out.length ≤ 50 := by
    have := hs.length_le
    rw [List.length_take] at this
    omega
  simp (maxSteps := 400000) -dsimp -implicitDefEqProofs (disch := first | exact TrueB.mk rfl | omega) only [go_sem, Nat.reduceMul, Nat.reduceAdd, Nat.reduceLT, Nat.reduceLeDiff, Nat.reducePow, Nat.reduceEqDiff, ↓reduceIte, reduceCtorEq, Int.reduceToNat]
  first | refine condK_dec (fun h1 => ?_) (fun h1 => ?_) | refine condK_ndec (fun h1 => ?_) (fun h1 => ?_) | refine condK_beq (fun h1 => ?_) (fun h1 => ?_) | refine condK_bne (fun h1 => ?_) (fun h1 => ?_) | refine condK_nbeq (fun h1 => ?_) (fun h1 => ?_) | refine guardK_dec (fun h1 => ?_) (fun h1 => ?_) | refine guardK_ndec (fun h1 => ?_) (fun h1 => ?_) | refine guardK_beq (fun h1 => ?_) (fun h1 => ?_) | refine guardK_bne (fun h1 => ?_) (fun h1 => ?_) | refine guardK_nbeq (fun h1 => ?_) (fun h1 => ?_) | refine condK_not (fun h1 => ?_) (fun h1 => ?_) | refine guardK_not (fun h1 => ?_) (fun h1 => ?_) | refine condK_bool (fun h1 => ?_) (fun h1 => ?_) | refine guardK_bool (fun h1 => ?_) (fun h1 => ?_) | done
  · have g1 := opts_at (l := l) (i := i) (by omega)
    have hlt : i < l.length := by omega
    simp (maxSteps := 400000) -dsimp -implicitDefEqProofs (disch := first | exact TrueB.mk rfl | omega) only [go_sem, Nat.reduceMul, Nat.reduceAdd, Nat.reduceLT, Nat.reduceLeDiff, Nat.reducePow, Nat.reduceEqDiff, ↓reduceIte, reduceCtorEq, Int.reduceToNat]
    first | refine condK_dec (fun h2 => ?_) (fun h2 => ?_) | refine condK_ndec (fun h2 => ?_) (fun h2 => ?_) | refine condK_beq (fun h2 => ?_) (fun h2 => ?_) | refine condK_bne (fun h2 => ?_) (fun h2 => ?_) | refine condK_nbeq (fun h2 => ?_) (fun h2 => ?_) | refine guardK_dec (fun h2 => ?_) (fun h2 => ?_) | refine guardK_ndec (fun h2 => ?_) (fun h2 => ?_) | refine guardK_beq (fun h2 => ?_) (fun h2 => ?_) | refine guardK_bne (fun h2 => ?_) (fun h2 => ?_) | refine guardK_nbeq (fun h2 => ?_) (fun h2 => ?_) | refine condK_not (fun h2 => ?_) (fun h2 => ?_) | refine guardK_not (fun h2 => ?_) (fun h2 => ?_) | refine condK_bool (fun h2 => ?_) (fun h2 => ?_) | refine guardK_bool (fun h2 => ?_) (fun h2 => ?_) | done
    · simp (maxSteps := 400000) -dsimp -implicitDefEqProofs (disch := first | exact TrueB.mk rfl | omega) only [go_sem, Nat.reduceMul, Nat.reduceAdd, Nat.reduceLT, Nat.reduceLeDiff, Nat.reducePow, Nat.reduceEqDiff, ↓reduceIte, reduceCtorEq, Int.reduceToNat, g1, hz, opts_snoc, allScalar]
      refine again_mk ⟨(i + 1, out ++ [l[i]], false, 2, out.length), ⟨by show i + 1 ≤ _; omega, ?_, .inl rfl⟩, by show _ - (i + 1) < _ - i; omega, ?_⟩
      · show (out ++ [l[i]]).Sublist (l.take (i + 1))
        rw [← List.take_append_getElem hlt]
        exact hs.append (List.Sublist.refl _)
      · cases mm <;> simp only [List.length_append, List.length_cons, List.length_nil] <;> rfl
    · simp (maxSteps := 400000) -dsimp -implicitDefEqProofs (disch := first | exact TrueB.mk rfl | omega) only [go_sem, Nat.reduceMul, Nat.reduceAdd, Nat.reduceLT, Nat.reduceLeDiff, Nat.reducePow, Nat.reduceEqDiff, ↓reduceIte, reduceCtorEq, Int.reduceToNat]
      refine again_mk ⟨(i + 1, out, mm, z, lim), ⟨by show i + 1 ≤ _; omega, ?_, hz⟩, by show _ - (i + 1) < _ - i; omega, rfl⟩
      show out.Sublist (l.take (i + 1))
      rw [← List.take_append_getElem hlt]
      exact hs.trans (List.sublist_append_left _ _)
  · rw [List.take_of_length_le (by omega)] at hs
    have w1 := within_sub hs
    have w3 : within [] l = true := within_nil l
    simp (maxSteps := 400000) -dsimp -implicitDefEqProofs (disch := first | exact TrueB.mk rfl | omega) only [go_sem, Nat.reduceMul, Nat.reduceAdd, Nat.reduceLT, Nat.reduceLeDiff, Nat.reducePow, Nat.reduceEqDiff, ↓reduceIte, reduceCtorEq, Int.reduceToNat]
    first | refine wpAct_callF (optWithin_any out l (by omega) (by omega) _ _) rfl rfl rfl rfl (argV_r rfl (optsV_length _).symm (argV_p rfl argV_nil)) rfl rfl rfl rfl ?_ | done
    simp (maxSteps := 400000) -dsimp -implicitDefEqProofs (disch := first | exact TrueB.mk rfl | omega) only [go_sem, Nat.reduceMul, Nat.reduceAdd, Nat.reduceLT, Nat.reduceLeDiff, Nat.reducePow, Nat.reduceEqDiff, ↓reduceIte, reduceCtorEq, Int.reduceToNat, w1]
    first | refine wpAct_callF (optWithin_any l out (by omega) (by omega) _ _) rfl rfl rfl rfl (argV_p rfl (argV_r rfl (optsV_length _).symm argV_nil)) rfl rfl rfl rfl ?_ | done
    by_cases he : out.length = l.length
    · have := hs.eq_of_length he
      subst this
      simp (maxSteps := 400000) -dsimp -implicitDefEqProofs (disch := first | exact TrueB.mk rfl | omega) only [go_sem, Nat.reduceMul, Nat.reduceAdd, Nat.reduceLT, Nat.reduceLeDiff, Nat.reducePow, Nat.reduceEqDiff, ↓reduceIte, reduceCtorEq, Int.reduceToNat, w1]
      first | refine wpAct_call0 (optWithin_any [] out (by simp) (by omega) _ _) rfl rfl rfl rfl rfl rfl rfl rfl ?_ | done
      simp (maxSteps := 400000) -dsimp -implicitDefEqProofs (disch := first | exact TrueB.mk rfl | omega) only [go_sem, Nat.reduceMul, Nat.reduceAdd, Nat.reduceLT, Nat.reduceLeDiff, Nat.reducePow, Nat.reduceEqDiff, ↓reduceIte, reduceCtorEq, Int.reduceToNat, w3]
      first | refine wpAct_callF (optSame_any out out (by omega) _ _) rfl rfl rfl rfl (argV_r rfl (optsV_length _).symm (argV_p rfl argV_nil)) rfl rfl rfl rfl ?_ | done
      simp (maxSteps := 400000) -dsimp -implicitDefEqProofs (disch := first | exact TrueB.mk rfl | omega) only [go_sem, Nat.reduceMul, Nat.reduceAdd, Nat.reduceLT, Nat.reduceLeDiff, Nat.reducePow, Nat.reduceEqDiff, ↓reduceIte, reduceCtorEq, Int.reduceToNat]
      first | exact end_bool rfl rfl | done
    · have w2 := within_back hs he
      have w4 : (out == l) = false := same_len he
      simp (maxSteps := 400000) -dsimp -implicitDefEqProofs (disch := first | exact TrueB.mk rfl | omega) only [go_sem, Nat.reduceMul, Nat.reduceAdd, Nat.reduceLT, Nat.reduceLeDiff, Nat.reducePow, Nat.reduceEqDiff, ↓reduceIte, reduceCtorEq, Int.reduceToNat, w2]
      first | refine wpAct_call0 (optWithin_any [] l (by simp) (by omega) _ _) rfl rfl rfl rfl rfl rfl rfl rfl ?_ | done
      simp (maxSteps := 400000) -dsimp -implicitDefEqProofs (disch := first | exact TrueB.mk rfl | omega) only [go_sem, Nat.reduceMul, Nat.reduceAdd, Nat.reduceLT, Nat.reduceLeDiff, Nat.reducePow, Nat.reduceEqDiff, ↓reduceIte, reduceCtorEq, Int.reduceToNat, w3]
      first | refine wpAct_callF (optSame_any out l (by omega) _ _) rfl rfl rfl rfl (argV_r rfl (optsV_length _).symm (argV_p rfl argV_nil)) rfl rfl rfl rfl ?_ | done
      simp (maxSteps := 400000) -dsimp -implicitDefEqProofs (disch := first | exact TrueB.mk rfl | omega) only [go_sem, Nat.reduceMul, Nat.reduceAdd, Nat.reduceLT, Nat.reduceLeDiff, Nat.reducePow, Nat.reduceEqDiff, ↓reduceIte, reduceCtorEq, Int.reduceToNat, w4]
      first | exact end_bool rfl rfl | done

theorem u8_step (c : UInt8) : IntKind.u8.wrap ((c.toNat : Int) + 1) = ((c + 1).toNat : Int) := by
  have h := c.toNat_lt
  rw [UInt8.toNat_add]
  simp only [IntKind.wrap, IntKind.bits, IntKind.signed]
  show (_ : Int) = (((c.toNat + 1) % 2 ^ 8 : Nat) : Int)
  simp
theorem bytes_set (s : List UInt8) (i : Nat) (c : UInt8) : (bytesOf s).set i (.int .u8 (c.toNat : Int)) = bytesOf (s.set i c) := by
  simp [bytesOf, List.map_set]
theorem bytes_at {s : List UInt8} {i : Nat} (h : i < s.length) : (bytesOf s)[i]? = some (.int .u8 (s[i].toNat : Int)) := by
  rw [bytesOf_get, List.getElem?_eq_getElem h]; rfl

set_option maxHeartbeats 8000000 in
theorem optionKeeps_runs (b : List UInt8) (t : Int) : Runs Try.prog env 8 [.pure false (.sl (bytesOf b)), .pure false (.int .i64 t)] [] (.pure true (.bool true)) [] := by
  refine Runs.of Try.func8 rfl (by simp [Try.ntmps8]) ?_
  simp (maxSteps := 400000) -dsimp -implicitDefEqProofs (disch := first | exact TrueB.mk rfl | omega) only [go_sem, Nat.reduceMul, Nat.reduceAdd, Nat.reduceLT, Nat.reduceLeDiff, Nat.reducePow, Nat.reduceEqDiff, ↓reduceIte, reduceCtorEq, Int.reduceToNat, Try.ntmps8]
  first | refine wpAct_call0 (awake12_any) rfl rfl rfl rfl rfl rfl rfl rfl ?_ | done
  simp (maxSteps := 400000) -dsimp -implicitDefEqProofs (disch := first | exact TrueB.mk rfl | omega) only [go_sem, Nat.reduceMul, Nat.reduceAdd, Nat.reduceLT, Nat.reduceLeDiff, Nat.reducePow, Nat.reduceEqDiff, ↓reduceIte, reduceCtorEq, Int.reduceToNat]
  first | refine condK_dec (fun hb => ?_) (fun hb => ?_) | refine condK_ndec (fun hb => ?_) (fun hb => ?_) | refine condK_beq (fun hb => ?_) (fun hb => ?_) | refine condK_bne (fun hb => ?_) (fun hb => ?_) | refine condK_nbeq (fun hb => ?_) (fun hb => ?_) | refine guardK_dec (fun hb => ?_) (fun hb => ?_) | refine guardK_ndec (fun hb => ?_) (fun hb => ?_) | refine guardK_beq (fun hb => ?_) (fun hb => ?_) | refine guardK_bne (fun hb => ?_) (fun hb => ?_) | refine guardK_nbeq (fun hb => ?_) (fun hb => ?_) | refine condK_not (fun hb => ?_) (fun hb => ?_) | refine guardK_not (fun hb => ?_) (fun hb => ?_) | refine condK_bool (fun hb => ?_) (fun hb => ?_) | refine guardK_bool (fun hb => ?_) (fun hb => ?_) | done
  · simp (maxSteps := 400000) -dsimp -implicitDefEqProofs (disch := first | exact TrueB.mk rfl | omega) only [go_sem, Nat.reduceMul, Nat.reduceAdd, Nat.reduceLT, Nat.reduceLeDiff, Nat.reducePow, Nat.reduceEqDiff, ↓reduceIte, reduceCtorEq, Int.reduceToNat]
    first | refine wpAct_call0 (awake12_any) rfl rfl rfl rfl rfl rfl rfl rfl ?_ | done
    simp (maxSteps := 400000) -dsimp -implicitDefEqProofs (disch := first | exact TrueB.mk rfl | omega) only [go_sem, Nat.reduceMul, Nat.reduceAdd, Nat.reduceLT, Nat.reduceLeDiff, Nat.reducePow, Nat.reduceEqDiff, ↓reduceIte, reduceCtorEq, Int.reduceToNat]
    first | exact end_bool rfl rfl | done
  have hlen := readO_len b
  have hdat := readO_data b
  have c1 := optRead_any b (by omega) false
  have c2 := refRead_any b (by omega) false
  generalize hL : (readO b).1 = L at *
  generalize hz : zOf L = zL at *
  generalize hlm : L.length - 1 = lmL at *
  obtain ⟨zx, hzx, c3⟩ := optPut_any L (by omega) false
  obtain ⟨zd, hzd, c4⟩ := optFind_any L t (by omega) (fun o ho => by have := hdat o ho; omega) false false
  have hXl := putL1_len L
  have hDl := findD_len (t := t) hdat
  generalize hX : putL1 L = X at *
  generalize hD : findD L t = D at *
  simp (maxSteps := 400000) -dsimp -implicitDefEqProofs (disch := first | exact TrueB.mk rfl | omega) only [go_sem, Nat.reduceMul, Nat.reduceAdd, Nat.reduceLT, Nat.reduceLeDiff, Nat.reducePow, Nat.reduceEqDiff, ↓reduceIte, reduceCtorEq, Int.reduceToNat]
  first | refine wpAct_callG (c1) rfl rfl rfl rfl (argV_r rfl (bytesOf_length _).symm argV_nil) rfl rfl rfl rfl ?_ | done
  simp (maxSteps := 400000) -dsimp -implicitDefEqProofs (disch := first | exact TrueB.mk rfl | omega) only [go_sem, Nat.reduceMul, Nat.reduceAdd, Nat.reduceLT, Nat.reduceLeDiff, Nat.reducePow, Nat.reduceEqDiff, ↓reduceIte, reduceCtorEq, Int.reduceToNat, beq_same]
  refine wpLoop_ind (α := Nat × List UInt8)
    (fun a => ⟨[(0, .pure false (.sl (bytesOf b))), (1, .pure false (.int .i64 t)), (5, .row 1648 b.length), (6, .row 1649 L.length), (8, .pure true (.int .i64 a.1))], [(1648, .row true 1 0 (bytesOf a.2)), (1649, .row true zL lmL (optsV L))]⟩)
    (fun a => a.1 ≤ b.length ∧ a.2.length = b.length) (fun a => b.length - a.1) ?_ (0, b) ⟨by simp, rfl⟩ rfl
  rintro ⟨i, own⟩ ⟨hi, ho⟩
  simp only at hi ho
  simp (maxSteps := 400000) -dsimp -implicitDefEqProofs (disch := first | exact TrueB.mk rfl | omega) only [go_sem, Nat.reduceMul, Nat.reduceAdd, Nat.reduceLT, Nat.reduceLeDiff, Nat.reducePow, Nat.reduceEqDiff, ↓reduceIte, reduceCtorEq, Int.reduceToNat]
  first | refine condK_dec (fun h1 => ?_) (fun h1 => ?_) | refine condK_ndec (fun h1 => ?_) (fun h1 => ?_) | refine condK_beq (fun h1 => ?_) (fun h1 => ?_) | refine condK_bne (fun h1 => ?_) (fun h1 => ?_) | refine condK_nbeq (fun h1 => ?_) (fun h1 => ?_) | refine guardK_dec (fun h1 => ?_) (fun h1 => ?_) | refine guardK_ndec (fun h1 => ?_) (fun h1 => ?_) | refine guardK_beq (fun h1 => ?_) (fun h1 => ?_) | refine guardK_bne (fun h1 => ?_) (fun h1 => ?_) | refine guardK_nbeq (fun h1 => ?_) (fun h1 => ?_) | refine condK_not (fun h1 => ?_) (fun h1 => ?_) | refine guardK_not (fun h1 => ?_) (fun h1 => ?_) | refine condK_bool (fun h1 => ?_) (fun h1 => ?_) | refine guardK_bool (fun h1 => ?_) (fun h1 => ?_) | done
  · have hlt : i < own.length := by omega
    have g1 := bytes_at hlt
    simp (maxSteps := 400000) -dsimp -implicitDefEqProofs (disch := first | exact TrueB.mk rfl | omega) only [go_sem, Nat.reduceMul, Nat.reduceAdd, Nat.reduceLT, Nat.reduceLeDiff, Nat.reducePow, Nat.reduceEqDiff, ↓reduceIte, reduceCtorEq, Int.reduceToNat, g1, ho, u8_step, bytes_set, Nat.zero_le, eq_self]
    refine again_mk ⟨(i + 1, own.set i (own[i] + 1)), ⟨by show i + 1 ≤ _; omega, by show (own.set i (own[i] + 1)).length = _; rw [List.length_set]; exact ho⟩, by show _ - (i + 1) < _ - i; omega, rfl⟩
  simp (maxSteps := 400000) -dsimp -implicitDefEqProofs (disch := first | exact TrueB.mk rfl | omega) only [go_sem, Nat.reduceMul, Nat.reduceAdd, Nat.reduceLT, Nat.reduceLeDiff, Nat.reducePow, Nat.reduceEqDiff, ↓reduceIte, reduceCtorEq, Int.reduceToNat]
  first | refine wpAct_callG (c2) rfl rfl rfl rfl rfl rfl rfl rfl rfl ?_ | done
  simp (maxSteps := 400000) -dsimp -implicitDefEqProofs (disch := first | exact TrueB.mk rfl | omega) only [go_sem, Nat.reduceMul, Nat.reduceAdd, Nat.reduceLT, Nat.reduceLeDiff, Nat.reducePow, Nat.reduceEqDiff, ↓reduceIte, reduceCtorEq, Int.reduceToNat]
  first | refine wpAct_callF (refSame_any L L (by omega) _ _) rfl rfl rfl rfl (argV_r rfl (optsV_length _).symm (argV_r rfl (optsV_length _).symm argV_nil)) rfl rfl rfl rfl ?_ | done
  simp (maxSteps := 400000) -dsimp -implicitDefEqProofs (disch := first | exact TrueB.mk rfl | omega) only [go_sem, Nat.reduceMul, Nat.reduceAdd, Nat.reduceLT, Nat.reduceLeDiff, Nat.reducePow, Nat.reduceEqDiff, ↓reduceIte, reduceCtorEq, Int.reduceToNat]
  first | refine wpAct_callG (c3) rfl rfl rfl rfl (argV_r rfl (optsV_length _).symm argV_nil) rfl rfl rfl rfl ?_ | done
  simp (maxSteps := 400000) -dsimp -implicitDefEqProofs (disch := first | exact TrueB.mk rfl | omega) only [go_sem, Nat.reduceMul, Nat.reduceAdd, Nat.reduceLT, Nat.reduceLeDiff, Nat.reducePow, Nat.reduceEqDiff, ↓reduceIte, reduceCtorEq, Int.reduceToNat]
  first | refine wpAct_callG (c4) rfl rfl rfl rfl (argV_r rfl (optsV_length _).symm (argV_p rfl argV_nil)) rfl rfl rfl rfl ?_ | done
  simp (maxSteps := 400000) -dsimp -implicitDefEqProofs (disch := first | exact TrueB.mk rfl | omega) only [go_sem, Nat.reduceMul, Nat.reduceAdd, Nat.reduceLT, Nat.reduceLeDiff, Nat.reducePow, Nat.reduceEqDiff, ↓reduceIte, reduceCtorEq, Int.reduceToNat]
  refine wpLoop_ind (α := Nat × List UInt8)
    (fun a => ⟨[(6, .row 1648 L.length), (9, .row 1649 L.length), (11, .row 1650 X.length), (13, .row 1651 D.length), (15, .pure true (.int .i64 a.1))], [(1648, .row true zL lmL (optsV L)), (1649, .row true zL lmL (optsV L)), (1650, .row true zx 0 (bytesOf a.2)), (1651, .row true zd 0 (bytesOf D))]⟩)
    (fun a => a.1 ≤ X.length ∧ a.2.length = X.length) (fun a => X.length - a.1) ?_ (0, X) ⟨by simp, rfl⟩ rfl
  rintro ⟨j, x⟩ ⟨hj, hx⟩
  simp only at hj hx
  simp (maxSteps := 400000) -dsimp -implicitDefEqProofs (disch := first | exact TrueB.mk rfl | omega) only [go_sem, Nat.reduceMul, Nat.reduceAdd, Nat.reduceLT, Nat.reduceLeDiff, Nat.reducePow, Nat.reduceEqDiff, ↓reduceIte, reduceCtorEq, Int.reduceToNat]
  first | refine condK_dec (fun h2 => ?_) (fun h2 => ?_) | refine condK_ndec (fun h2 => ?_) (fun h2 => ?_) | refine condK_beq (fun h2 => ?_) (fun h2 => ?_) | refine condK_bne (fun h2 => ?_) (fun h2 => ?_) | refine condK_nbeq (fun h2 => ?_) (fun h2 => ?_) | refine guardK_dec (fun h2 => ?_) (fun h2 => ?_) | refine guardK_ndec (fun h2 => ?_) (fun h2 => ?_) | refine guardK_beq (fun h2 => ?_) (fun h2 => ?_) | refine guardK_bne (fun h2 => ?_) (fun h2 => ?_) | refine guardK_nbeq (fun h2 => ?_) (fun h2 => ?_) | refine condK_not (fun h2 => ?_) (fun h2 => ?_) | refine guardK_not (fun h2 => ?_) (fun h2 => ?_) | refine condK_bool (fun h2 => ?_) (fun h2 => ?_) | refine guardK_bool (fun h2 => ?_) (fun h2 => ?_) | done
  · have hlt : j < x.length := by omega
    have g1 := bytes_at hlt
    have hz1 : zx = 1 := hzx.resolve_right fun e => by rw [e, List.length_nil] at hx; omega
    simp (maxSteps := 400000) -dsimp -implicitDefEqProofs (disch := first | exact TrueB.mk rfl | omega) only [go_sem, Nat.reduceMul, Nat.reduceAdd, Nat.reduceLT, Nat.reduceLeDiff, Nat.reducePow, Nat.reduceEqDiff, ↓reduceIte, reduceCtorEq, Int.reduceToNat, g1, hx, hz1, u8_step, bytes_set, Nat.zero_le, eq_self]
    refine again_mk ⟨(j + 1, x.set j (x[j] + 1)), ⟨by show j + 1 ≤ _; omega, by show (x.set j (x[j] + 1)).length = _; rw [List.length_set]; exact hx⟩, by show _ - (j + 1) < _ - j; omega, by rw [hz1]; rfl⟩
  simp (maxSteps := 400000) -dsimp -implicitDefEqProofs (disch := first | exact TrueB.mk rfl | omega) only [go_sem, Nat.reduceMul, Nat.reduceAdd, Nat.reduceLT, Nat.reduceLeDiff, Nat.reducePow, Nat.reduceEqDiff, ↓reduceIte, reduceCtorEq, Int.reduceToNat]
  refine wpLoop_ind (α := Nat × List UInt8)
    (fun a => ⟨[(6, .row 1648 L.length), (9, .row 1649 L.length), (13, .row 1650 D.length), (16, .pure true (.int .i64 a.1))], [(1648, .row true zL lmL (optsV L)), (1649, .row true zL lmL (optsV L)), (1650, .row true zd 0 (bytesOf a.2))]⟩)
    (fun a => a.1 ≤ D.length ∧ a.2.length = D.length) (fun a => D.length - a.1) ?_ (0, D) ⟨by simp, rfl⟩ rfl
  rintro ⟨r, d⟩ ⟨hr, hd⟩
  simp only at hr hd
  simp (maxSteps := 400000) -dsimp -implicitDefEqProofs (disch := first | exact TrueB.mk rfl | omega) only [go_sem, Nat.reduceMul, Nat.reduceAdd, Nat.reduceLT, Nat.reduceLeDiff, Nat.reducePow, Nat.reduceEqDiff, ↓reduceIte, reduceCtorEq, Int.reduceToNat]
  first | refine condK_dec (fun h3 => ?_) (fun h3 => ?_) | refine condK_ndec (fun h3 => ?_) (fun h3 => ?_) | refine condK_beq (fun h3 => ?_) (fun h3 => ?_) | refine condK_bne (fun h3 => ?_) (fun h3 => ?_) | refine condK_nbeq (fun h3 => ?_) (fun h3 => ?_) | refine guardK_dec (fun h3 => ?_) (fun h3 => ?_) | refine guardK_ndec (fun h3 => ?_) (fun h3 => ?_) | refine guardK_beq (fun h3 => ?_) (fun h3 => ?_) | refine guardK_bne (fun h3 => ?_) (fun h3 => ?_) | refine guardK_nbeq (fun h3 => ?_) (fun h3 => ?_) | refine condK_not (fun h3 => ?_) (fun h3 => ?_) | refine guardK_not (fun h3 => ?_) (fun h3 => ?_) | refine condK_bool (fun h3 => ?_) (fun h3 => ?_) | refine guardK_bool (fun h3 => ?_) (fun h3 => ?_) | done
  · have hlt : r < d.length := by omega
    have g1 := bytes_at hlt
    have hz1 : zd = 1 := hzd.resolve_right fun e => by rw [e, List.length_nil] at hd; omega
    simp (maxSteps := 400000) -dsimp -implicitDefEqProofs (disch := first | exact TrueB.mk rfl | omega) only [go_sem, Nat.reduceMul, Nat.reduceAdd, Nat.reduceLT, Nat.reduceLeDiff, Nat.reducePow, Nat.reduceEqDiff, ↓reduceIte, reduceCtorEq, Int.reduceToNat, g1, hd, hz1, u8_step, bytes_set, Nat.zero_le, eq_self]
    refine again_mk ⟨(r + 1, d.set r (d[r] + 1)), ⟨by show r + 1 ≤ _; omega, by show (d.set r (d[r] + 1)).length = _; rw [List.length_set]; exact hd⟩, by show _ - (r + 1) < _ - r; omega, by rw [hz1]; rfl⟩
  simp (maxSteps := 400000) -dsimp -implicitDefEqProofs (disch := first | exact TrueB.mk rfl | omega) only [go_sem, Nat.reduceMul, Nat.reduceAdd, Nat.reduceLT, Nat.reduceLeDiff, Nat.reducePow, Nat.reduceEqDiff, ↓reduceIte, reduceCtorEq, Int.reduceToNat]
  first | refine wpAct_callF (refSame_any L L (by omega) _ _) rfl rfl rfl rfl (argV_r rfl (optsV_length _).symm (argV_r rfl (optsV_length _).symm argV_nil)) rfl rfl rfl rfl ?_ | done
  simp (maxSteps := 400000) -dsimp -implicitDefEqProofs (disch := first | exact TrueB.mk rfl | omega) only [go_sem, Nat.reduceMul, Nat.reduceAdd, Nat.reduceLT, Nat.reduceLeDiff, Nat.reducePow, Nat.reduceEqDiff, ↓reduceIte, reduceCtorEq, Int.reduceToNat]
  first | exact end_bool rfl (by simp) | done
end Go.Proofs.Ytpgklagjjimbhaa
