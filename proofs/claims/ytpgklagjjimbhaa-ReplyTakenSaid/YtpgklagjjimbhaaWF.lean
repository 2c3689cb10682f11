/- YtpgklagjjimbhaaWF: the law ReplyTaken, over the evaluator. No claim. -/
import Derived.Test.YtpgklagjjimbhaaWE
import Derived.Test.YtpgklagjjimbhaaK
set_option linter.unusedVariables false
set_option linter.unusedSimpArgs false
set_option maxRecDepth 100000
namespace Go.Proofs.Ytpgklagjjimbhaa
open Go Go.Proofs.Ytpgklagjjimbhaa.V

theorem putO_small {l : List Opt} (h : wrongO l = 0) : (putO l).length ≤ 255 * l.length := by
  have := putL1_len l
  unfold putL1 at this
  rwa [if_pos h] at this
theorem wrong_sub {s l : List Opt} (h : s.Sublist l) (hl : wrongO l = 0) : wrongO s = 0 := all_good fun o ho => good_all hl o (h.subset ho)
theorem optsP_put {l : List Opt} (h : wrongO l = 0) {c : Int} (h1 : 1 ≤ c) (h2 : c ≤ 4) (i : Int) : optsP (c, i, putO l) = (l, true) := by
  unfold optsP
  rw [if_pos ⟨h1, h2⟩, readO_put h]
  rfl
theorem rejs_taken {s l : List Opt} (hs : s.Sublist l) (hl : wrongO l = 0) (i : Int) : rejsP (1, i, putO l) (4, i, putO s) = decide ((0 : Int) < (s.length : Int)) := by
  unfold rejsP bothP
  rw [optsP_put hl (by omega) (by omega), optsP_put (wrong_sub hs hl) (by omega) (by omega)]
  rw [if_pos (by unfold fitsP; simp)]
  simp only [Bool.true_and]
  rw [within_sub hs, Bool.and_true]
theorem naks_more {l : List Opt} {o : Opt} (hl : wrongO l = 0) (ho : wrongO [o] = 0) (hf : findO l o.1 = none) (i : Int) : naksP (1, i, putO l) (3, i, putO [o]) = true := by
  unfold naksP bothP
  rw [optsP_put hl (by omega) (by omega), optsP_put ho (by omega) (by omega)]
  rw [if_pos (by unfold fitsP; simp)]
  have h1 : twice [o] = false := by simp [twice]
  have h2 : o ∉ l := by
    intro hc
    unfold findO at hf
    rw [List.findIdx?_eq_none_iff] at hf
    have := hf o hc
    simp at this
  have h3 : naksO l [o] = true := by
    unfold naksO
    simp [List.range_succ, badO, hf, h2]
  simp [h1, h3]
theorem naks_other {q p : Pkt} (h : ¬ p.2.1 = q.2.1) : naksP q p = false := by
  unfold naksP bothP
  rw [if_neg (by unfold fitsP; simp [h])]
  rfl

theorem xor_ne (id : UInt8) : ¬ IntKind.i64.wrap ((BitVec.ofInt IntKind.i64.bits (id.toNat : Int) ^^^ BitVec.ofInt IntKind.i64.bits 1).toNat : Int) = (id.toNat : Int) := by
  have key : ∀ n : Fin 256, ¬ IntKind.i64.wrap ((BitVec.ofInt IntKind.i64.bits (n.val : Int) ^^^ BitVec.ofInt IntKind.i64.bits 1).toNat : Int) = (n.val : Int) := by decide +kernel
  exact key ⟨id.toNat, id.toNat_lt⟩

set_option maxHeartbeats 16000000 in
theorem replyTaken_runs (l : List Opt) (n : Nat) (hn : n < 18446744073709551616) (id : UInt8) (more : Opt) : Runs Try.prog env 24 [.pure false (.sl (optsV l)), .pure false (.int .u64 n), .pure false (.int .u8 id.toNat), .pure false (optV more)] [] (.pure true (.bool true)) [] := by
  refine Runs.of Try.func24 rfl (by simp [Try.ntmps24]) ?_
  have cw := fun m => wrong_any [more] (by simp) m
  have g2 : [PV.agg [.int .i64 more.1, .sl (bytesOf more.2)]] = optsV [more] := rfl
  unfold optV
  simp (maxSteps := 400000) -dsimp -implicitDefEqProofs (disch := first | exact TrueB.mk rfl | omega) only [go_sem, Nat.reduceMul, Nat.reduceAdd, Nat.reduceLT, Nat.reduceLeDiff, Nat.reducePow, Nat.reduceEqDiff, ↓reduceIte, reduceCtorEq, Int.reduceToNat, Try.ntmps24]
  first | refine wpAct_call0 (awake18_any) rfl rfl rfl rfl rfl rfl rfl rfl ?_ | done
  simp (maxSteps := 400000) -dsimp -implicitDefEqProofs (disch := first | exact TrueB.mk rfl | omega) only [go_sem, Nat.reduceMul, Nat.reduceAdd, Nat.reduceLT, Nat.reduceLeDiff, Nat.reducePow, Nat.reduceEqDiff, ↓reduceIte, reduceCtorEq, Int.reduceToNat]
  first | refine wpAct_call0 (few_any l _) rfl rfl rfl rfl rfl rfl rfl rfl ?_ | done
  cases hf : few l with
  | false =>
    simp (maxSteps := 400000) -dsimp -implicitDefEqProofs (disch := first | exact TrueB.mk rfl | omega) only [go_sem, Nat.reduceMul, Nat.reduceAdd, Nat.reduceLT, Nat.reduceLeDiff, Nat.reducePow, Nat.reduceEqDiff, ↓reduceIte, reduceCtorEq, Int.reduceToNat]
    first | refine wpAct_call0 (awake18_any) rfl rfl rfl rfl rfl rfl rfl rfl ?_ | done
    simp (maxSteps := 400000) -dsimp -implicitDefEqProofs (disch := first | exact TrueB.mk rfl | omega) only [go_sem, Nat.reduceMul, Nat.reduceAdd, Nat.reduceLT, Nat.reduceLeDiff, Nat.reducePow, Nat.reduceEqDiff, ↓reduceIte, reduceCtorEq, Int.reduceToNat]
    first | exact end_bool rfl rfl | done
  | true =>
  have hl := few_len hf
  simp (maxSteps := 400000) -dsimp -implicitDefEqProofs (disch := first | exact TrueB.mk rfl | omega) only [go_sem, Nat.reduceMul, Nat.reduceAdd, Nat.reduceLT, Nat.reduceLeDiff, Nat.reducePow, Nat.reduceEqDiff, ↓reduceIte, reduceCtorEq, Int.reduceToNat]
  first | refine wpAct_call0 (wrong_any l (by omega) _) rfl rfl rfl rfl rfl rfl rfl rfl ?_ | done
  by_cases hw : wrongO l = 0
  rotate_left
  · simp (maxSteps := 400000) -dsimp -implicitDefEqProofs (disch := first | exact TrueB.mk rfl | omega) only [go_sem, Nat.reduceMul, Nat.reduceAdd, Nat.reduceLT, Nat.reduceLeDiff, Nat.reducePow, Nat.reduceEqDiff, ↓reduceIte, reduceCtorEq, Int.reduceToNat, hw]
    first | refine wpAct_call0 (awake18_any) rfl rfl rfl rfl rfl rfl rfl rfl ?_ | done
    simp (maxSteps := 400000) -dsimp -implicitDefEqProofs (disch := first | exact TrueB.mk rfl | omega) only [go_sem, Nat.reduceMul, Nat.reduceAdd, Nat.reduceLT, Nat.reduceLeDiff, Nat.reducePow, Nat.reduceEqDiff, ↓reduceIte, reduceCtorEq, Int.reduceToNat]
    first | exact end_bool rfl rfl | done
  simp (maxSteps := 400000) -dsimp -implicitDefEqProofs (disch := first | exact TrueB.mk rfl | omega) only [go_sem, Nat.reduceMul, Nat.reduceAdd, Nat.reduceLT, Nat.reduceLeDiff, Nat.reducePow, Nat.reduceEqDiff, ↓reduceIte, reduceCtorEq, Int.reduceToNat, hw]
  first | refine wpAct_callF (cw _) rfl rfl rfl rfl (argV_r rfl rfl argV_nil) rfl rfl rfl rfl ?_ | done
  by_cases hm : wrongO [more] = 0
  rotate_left
  · simp (maxSteps := 400000) -dsimp -implicitDefEqProofs (disch := first | exact TrueB.mk rfl | omega) only [go_sem, Nat.reduceMul, Nat.reduceAdd, Nat.reduceLT, Nat.reduceLeDiff, Nat.reducePow, Nat.reduceEqDiff, ↓reduceIte, reduceCtorEq, Int.reduceToNat, hm]
    first | refine wpAct_call0 (awake18_any) rfl rfl rfl rfl rfl rfl rfl rfl ?_ | done
    simp (maxSteps := 400000) -dsimp -implicitDefEqProofs (disch := first | exact TrueB.mk rfl | omega) only [go_sem, Nat.reduceMul, Nat.reduceAdd, Nat.reduceLT, Nat.reduceLeDiff, Nat.reducePow, Nat.reduceEqDiff, ↓reduceIte, reduceCtorEq, Int.reduceToNat]
    first | exact end_bool rfl rfl | done
  obtain ⟨z1, hz1, c1⟩ := refPut_any l (by omega) hw false
  have hz1' : z1 = 1 ∨ bytesOf (putO l) = [] := hz1.imp_right fun e => by rw [e]; rfl
  simp (maxSteps := 400000) -dsimp -implicitDefEqProofs (disch := first | exact TrueB.mk rfl | omega) only [go_sem, Nat.reduceMul, Nat.reduceAdd, Nat.reduceLT, Nat.reduceLeDiff, Nat.reducePow, Nat.reduceEqDiff, ↓reduceIte, reduceCtorEq, Int.reduceToNat, hm]
  first | refine wpAct_callG (c1) rfl rfl rfl rfl rfl rfl rfl rfl rfl ?_ | done
  have wi : IntKind.i64.wrap (id.toNat : Int) = (id.toNat : Int) := by
    have := id.toNat_lt
    rw [wrap_i64 (by omega) (by omega)]
  simp (maxSteps := 400000) -dsimp -implicitDefEqProofs (disch := first | exact TrueB.mk rfl | omega) only [go_sem, Nat.reduceMul, Nat.reduceAdd, Nat.reduceLT, Nat.reduceLeDiff, Nat.reducePow, Nat.reduceEqDiff, ↓reduceIte, reduceCtorEq, Int.reduceToNat, wi]
  refine wpLoop_ind (α := Nat × List Opt × Bool × Nat × Nat)
    (fun a => ⟨[(0, .pure false (.sl (optsV l))), (1, .pure false (.int .u64 n)), (2, .pure false (.int .u8 id.toNat)), (7, .ptr 1520 0), (9, .ptr 1521 0), (10, .row 1522 a.2.1.length), (11, .pure true (.int .i64 a.1))], [(1520, .box [.pure false (.int .i64 more.1), .pure false (.sl (bytesOf more.2))]), (1521, .box [.pure true (.int .i64 1), .pure true (.int .i64 id.toNat), .pure true (.sl (bytesOf (putO l)))]), (1522, .row a.2.2.1 a.2.2.2.1 a.2.2.2.2 (optsV a.2.1))]⟩)
    (takenI l) (fun a => l.length - a.1) ?_ (0, [], true, 0, 0) ⟨by simp, by simp, .inr rfl⟩ rfl
  rintro ⟨i, out, mm, z, lim⟩ ⟨hi, hs, hz⟩
  simp only at hi hs hz
  have ho : out.length ≤ 50 := by
    have := hs.length_le
    rw [List.length_take] at this
    omega
  simp (maxSteps := 400000) -dsimp -implicitDefEqProofs (disch := first | exact TrueB.mk rfl | omega) only [go_sem, Nat.reduceMul, Nat.reduceAdd, Nat.reduceLT, Nat.reduceLeDiff, Nat.reducePow, Nat.reduceEqDiff, ↓reduceIte, reduceCtorEq, Int.reduceToNat]
  first | refine condK_dec (fun h1 => ?_) (fun h1 => ?_) | refine condK_ndec (fun h1 => ?_) (fun h1 => ?_) | refine condK_beq (fun h1 => ?_) (fun h1 => ?_) | refine condK_bne (fun h1 => ?_) (fun h1 => ?_) | refine condK_nbeq (fun h1 => ?_) (fun h1 => ?_) | refine guardK_dec (fun h1 => ?_) (fun h1 => ?_) | refine guardK_ndec (fun h1 => ?_) (fun h1 => ?_) | refine guardK_beq (fun h1 => ?_) (fun h1 => ?_) | refine guardK_bne (fun h1 => ?_) (fun h1 => ?_) | refine guardK_nbeq (fun h1 => ?_) (fun h1 => ?_) | refine condK_not (fun h1 => ?_) (fun h1 => ?_) | refine guardK_not (fun h1 => ?_) (fun h1 => ?_) | refine condK_bool (fun h1 => ?_) (fun h1 => ?_) | refine guardK_bool (fun h1 => ?_) (fun h1 => ?_) | done
  · have g1 := opts_at (l := l) (i := i) (by omega)
    have hlt : i < l.length := by omega
    simp (maxSteps := 400000) -dsimp -implicitDefEqProofs (disch := first | exact TrueB.mk rfl | omega) only [go_sem, Nat.reduceMul, Nat.reduceAdd, Nat.reduceLT, Nat.reduceLeDiff, Nat.reducePow, Nat.reduceEqDiff, ↓reduceIte, reduceCtorEq, Int.reduceToNat]
    first | refine condK_dec (fun h2 => ?_) (fun h2 => ?_) | refine condK_ndec (fun h2 => ?_) (fun h2 => ?_) | refine condK_beq (fun h2 => ?_) (fun h2 => ?_) | refine condK_bne (fun h2 => ?_) (fun h2 => ?_) | refine condK_nbeq (fun h2 => ?_) (fun h2 => ?_) | refine guardK_dec (fun h2 => ?_) (fun h2 => ?_) | refine guardK_ndec (fun h2 => ?_) (fun h2 => ?_) | refine guardK_beq (fun h2 => ?_) (fun h2 => ?_) | refine guardK_bne (fun h2 => ?_) (fun h2 => ?_) | refine guardK_nbeq (fun h2 => ?_) (fun h2 => ?_) | refine condK_not (fun h2 => ?_) (fun h2 => ?_) | refine guardK_not (fun h2 => ?_) (fun h2 => ?_) | refine condK_bool (fun h2 => ?_) (fun h2 => ?_) | refine guardK_bool (fun h2 => ?_) (fun h2 => ?_) | done
    · simp (maxSteps := 400000) -dsimp -implicitDefEqProofs (disch := first | exact TrueB.mk rfl | omega) only [go_sem, Nat.reduceMul, Nat.reduceAdd, Nat.reduceLT, Nat.reduceLeDiff, Nat.reducePow, Nat.reduceEqDiff, ↓reduceIte, reduceCtorEq, Int.reduceToNat, g1, hz, opts_snoc, allScalar]
      refine again_mk ⟨(i + 1, out ++ [l[i]], false, 2, out.length), ⟨by show i + 1 ≤ _; omega, ?_, .inl rfl⟩, by show _ - (i + 1) < _ - i; omega, ?_⟩
      · show (out ++ [l[i]]).Sublist (l.take (i + 1))
        rw [← List.take_append_getElem hlt]
        exact hs.append (List.Sublist.refl _)
      · cases mm <;> simp only [List.length_append, List.length_cons, List.length_nil] <;> rfl
    · simp (maxSteps := 400000) -dsimp -implicitDefEqProofs (disch := first | exact TrueB.mk rfl | omega) only [go_sem, Nat.reduceMul, Nat.reduceAdd, Nat.reduceLT, Nat.reduceLeDiff, Nat.reducePow, Nat.reduceEqDiff, ↓reduceIte, reduceCtorEq, Int.reduceToNat]
      refine again_mk ⟨(i + 1, out, mm, z, lim), ⟨by show i + 1 ≤ _; omega, ?_, hz⟩, by show _ - (i + 1) < _ - i; omega, rfl⟩
      show out.Sublist (l.take (i + 1))
      rw [← List.take_append_getElem hlt]
      exact hs.trans (List.sublist_append_left _ _)
  rw [List.take_of_length_le (by omega)] at hs
  have hwo := wrong_sub hs hw
  obtain ⟨z2, hz2, c2⟩ := refPut_any out (by omega) hwo false
  have hz2' : z2 = 1 ∨ bytesOf (putO out) = [] := hz2.imp_right fun e => by rw [e]; rfl
  have n1 := putO_small hw
  have n2 := putO_small hwo
  have n3 := putO_small hm
  have c3 := rejects_any (1, (id.toNat : Int), putO l) (4, (id.toNat : Int), putO out) (by simp only; omega) (by simp only; omega)
  rw [rejs_taken hs hw] at c3
  have f1 := fun hf => naks_more hw hm hf (id.toNat : Int)
  have c4 := fun m m' => naks_any (1, (id.toNat : Int), putO l) (3, (id.toNat : Int), putO [more]) (by simp only; omega) (by simp only [List.length_cons, List.length_nil] at n3 ⊢; omega) m m'
  have c5 := fun x m m' => naks_any (1, (id.toNat : Int), putO l) (3, x, putO [more]) (by simp only; omega) (by simp only [List.length_cons, List.length_nil] at n3 ⊢; omega) m m'
  have f2 := fun x (h : ¬ x = (id.toNat : Int)) => naks_other (q := (1, (id.toNat : Int), putO l)) (p := (3, x, putO [more])) h
  obtain ⟨z3, hz3, c6⟩ := refPut_any [more] (by simp) hm false
  have hz3' : z3 = 1 ∨ bytesOf (putO [more]) = [] := hz3.imp_right fun e => by rw [e]; rfl
  unfold pktV at c3 c4 c5
  simp (maxSteps := 400000) -dsimp -implicitDefEqProofs (disch := first | exact TrueB.mk rfl | omega) only [go_sem, Nat.reduceMul, Nat.reduceAdd, Nat.reduceLT, Nat.reduceLeDiff, Nat.reducePow, Nat.reduceEqDiff, ↓reduceIte, reduceCtorEq, Int.reduceToNat]
  first | refine wpAct_callG (c2) rfl rfl rfl rfl (argV_r rfl (optsV_length _).symm argV_nil) rfl rfl rfl rfl ?_ | done
  simp (maxSteps := 400000) -dsimp -implicitDefEqProofs (disch := first | exact TrueB.mk rfl | omega) only [go_sem, Nat.reduceMul, Nat.reduceAdd, Nat.reduceLT, Nat.reduceLeDiff, Nat.reducePow, Nat.reduceEqDiff, ↓reduceIte, reduceCtorEq, Int.reduceToNat, wi]
  first | refine wpAct_call0 (c3 _ _) rfl rfl rfl rfl rfl rfl rfl rfl ?_ | done
  simp (maxSteps := 400000) -dsimp -implicitDefEqProofs (disch := first | exact TrueB.mk rfl | omega) only [go_sem, Nat.reduceMul, Nat.reduceAdd, Nat.reduceLT, Nat.reduceLeDiff, Nat.reducePow, Nat.reduceEqDiff, ↓reduceIte, reduceCtorEq, Int.reduceToNat, beq_same, wi]
  first | refine wpAct_callG (c6) rfl rfl rfl rfl (argV_r rfl rfl argV_nil) rfl rfl rfl rfl ?_ | done
  simp (maxSteps := 400000) -dsimp -implicitDefEqProofs (disch := first | exact TrueB.mk rfl | omega) only [go_sem, Nat.reduceMul, Nat.reduceAdd, Nat.reduceLT, Nat.reduceLeDiff, Nat.reducePow, Nat.reduceEqDiff, ↓reduceIte, reduceCtorEq, Int.reduceToNat, wi]
  first | refine wpAct_call0 (refFind_any l more.1 (by omega) _ _) rfl rfl rfl rfl rfl rfl rfl rfl ?_ | done
  cases hfo : findO l more.1 with
  | none =>
    have e2 : idxI none = -1 := rfl
    rw [f1 hfo] at c4
    simp (maxSteps := 400000) -dsimp -implicitDefEqProofs (disch := first | exact TrueB.mk rfl | omega) only [go_sem, Nat.reduceMul, Nat.reduceAdd, Nat.reduceLT, Nat.reduceLeDiff, Nat.reducePow, Nat.reduceEqDiff, ↓reduceIte, reduceCtorEq, Int.reduceToNat, e2]
    first | refine wpAct_call0 (c4 _ _) rfl rfl rfl rfl rfl rfl rfl rfl ?_ | done
    simp (maxSteps := 400000) -dsimp -implicitDefEqProofs (disch := first | exact TrueB.mk rfl | omega) only [go_sem, Nat.reduceMul, Nat.reduceAdd, Nat.reduceLT, Nat.reduceLeDiff, Nat.reducePow, Nat.reduceEqDiff, ↓reduceIte, reduceCtorEq, Int.reduceToNat, wi]
    have c7 := c5 (IntKind.i64.wrap ((BitVec.ofInt IntKind.i64.bits (id.toNat : Int) ^^^ BitVec.ofInt IntKind.i64.bits 1).toNat : Int))
    rw [f2 _ (xor_ne id)] at c7
    first | refine wpAct_call0 (c7 _ _) rfl rfl rfl rfl rfl rfl rfl rfl ?_ | done
    simp (maxSteps := 400000) -dsimp -implicitDefEqProofs (disch := first | exact TrueB.mk rfl | omega) only [go_sem, Nat.reduceMul, Nat.reduceAdd, Nat.reduceLT, Nat.reduceLeDiff, Nat.reducePow, Nat.reduceEqDiff, ↓reduceIte, reduceCtorEq, Int.reduceToNat]
    first | exact end_bool rfl rfl | done
  | some j =>
    have e2 : idxI (some j) = (j : Int) := rfl
    simp (maxSteps := 400000) -dsimp -implicitDefEqProofs (disch := first | exact TrueB.mk rfl | omega) only [go_sem, Nat.reduceMul, Nat.reduceAdd, Nat.reduceLT, Nat.reduceLeDiff, Nat.reducePow, Nat.reduceEqDiff, ↓reduceIte, reduceCtorEq, Int.reduceToNat, e2, wi]
    have c7 := c5 (IntKind.i64.wrap ((BitVec.ofInt IntKind.i64.bits (id.toNat : Int) ^^^ BitVec.ofInt IntKind.i64.bits 1).toNat : Int))
    rw [f2 _ (xor_ne id)] at c7
    first | refine wpAct_call0 (c7 _ _) rfl rfl rfl rfl rfl rfl rfl rfl ?_ | done
    simp (maxSteps := 400000) -dsimp -implicitDefEqProofs (disch := first | exact TrueB.mk rfl | omega) only [go_sem, Nat.reduceMul, Nat.reduceAdd, Nat.reduceLT, Nat.reduceLeDiff, Nat.reducePow, Nat.reduceEqDiff, ↓reduceIte, reduceCtorEq, Int.reduceToNat]
    first | exact end_bool rfl rfl | done
end Go.Proofs.Ytpgklagjjimbhaa
