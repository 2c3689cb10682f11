/- YtpgklagjjimbhaaR: the laws PacketBack and PacketKeeps, over the evaluator. No claim. -/
import Derived.Test.YtpgklagjjimbhaaQ
import Derived.Test.YtpgklagjjimbhaaK
set_option linter.unusedVariables false
set_option linter.unusedSimpArgs false
set_option maxRecDepth 100000
namespace Go.Proofs.Ytpgklagjjimbhaa
open Go Go.Proofs.Ytpgklagjjimbhaa.V

theorem getP_put {p : Pkt} (h : badP p = 0) (more : List UInt8) : getP (putP p ++ more) = (p, 0) := by
  obtain ⟨c, i, u, l, e1, e2, e3, e4, e5, e6⟩ := good_pkt h
  rw [e5]
  show getP (c :: i :: u :: l :: (p.2.2 ++ more)) = _
  have hn : u.toNat * 256 + l.toNat = 4 + p.2.2.length := by omega
  unfold getP
  simp only [hn]
  rw [if_neg (by omega), if_neg (by rw [List.length_append]; omega)]
  have : 4 + p.2.2.length - 4 = p.2.2.length := by omega
  rw [this, List.take_left, ← e1, ← e2]
theorem getP_cut {p : Pkt} (h : badP p = 0) (k : Nat) (hk : k < (putP p).length) : (getP ((putP p).take k)).2 = 2 := by
  obtain ⟨c, i, u, l, e1, e2, e3, e4, e5, e6⟩ := good_pkt h
  rw [e5] at hk ⊢
  by_cases h4 : k < 4
  · rw [getP_short (by rw [List.length_take]; omega)]
  · obtain ⟨j, rfl⟩ : ∃ j, k = j + 4 := ⟨k - 4, by omega⟩
    show (getP (c :: i :: u :: l :: p.2.2.take j)).2 = 2
    have hn : u.toNat * 256 + l.toNat = 4 + p.2.2.length := by omega
    have hj : j < p.2.2.length := by
      rw [List.length_append] at hk
      simp only [List.length_cons, List.length_nil] at hk
      omega
    unfold getP
    simp only [hn]
    rw [if_neg (by omega), if_pos (by rw [List.length_take]; omega)]
theorem getP_cases (b : List UInt8) : (∃ q, getP b = (q, 0) ∧ badP q = 0 ∧ (putP q).length ≤ b.length ∧ b.take (putP q).length = putP q) ∨ (∃ e, getP b = ((0, 0, []), e) ∧ (e = 2 ∨ e = 3)) := by
  match b with
  | [] => exact .inr ⟨2, rfl, .inl rfl⟩
  | [_] => exact .inr ⟨2, rfl, .inl rfl⟩
  | [_, _] => exact .inr ⟨2, rfl, .inl rfl⟩
  | [_, _, _] => exact .inr ⟨2, rfl, .inl rfl⟩
  | c :: i :: u :: l :: r =>
    have hc := c.toNat_lt
    have hi := i.toNat_lt
    have hu := u.toNat_lt
    have hl := l.toNat_lt
    by_cases h1 : u.toNat * 256 + l.toNat < 4
    · exact .inr ⟨3, by unfold getP; simp only; rw [if_pos h1], .inr rfl⟩
    · by_cases h2 : r.length + 4 < u.toNat * 256 + l.toNat
      · exact .inr ⟨2, by unfold getP; simp only; rw [if_neg h1, if_pos h2], .inl rfl⟩
      · left
        refine ⟨((c.toNat : Int), (i.toNat : Int), r.take (u.toNat * 256 + l.toNat - 4)), by unfold getP; simp only; rw [if_neg h1, if_neg h2], ?_⟩
        generalize hn : u.toNat * 256 + l.toNat = n at *
        have hlen : (r.take (n - 4)).length = n - 4 := by rw [List.length_take]; omega
        have hbad : badP ((c.toNat : Int), (i.toNat : Int), r.take (n - 4)) = 0 := by
          unfold badP
          simp only [hlen]
          rw [if_neg (by omega), if_neg (by omega)]
        have hput : putP ((c.toNat : Int), (i.toNat : Int), r.take (n - 4)) = c :: i :: u :: l :: r.take (n - 4) := by
          unfold putP
          rw [if_pos hbad]
          simp only [hlen, Int.toNat_natCast]
          rw [show (4 + (n - 4)) / 256 = u.toNat by omega, show (4 + (n - 4)) % 256 = l.toNat by omega]
          simp
        refine ⟨hbad, ?_, ?_⟩
        · rw [hput]
          simp only [List.length_cons, hlen]
          omega
        · rw [hput]
          simp only [List.length_cons, hlen, List.take_succ_cons]

set_option maxHeartbeats 16000000 in
theorem packetBack_runs (p : Pkt) (more : List UInt8) (k : Nat) (hk : k < 65536) (b : List UInt8) : Runs Try.prog env 11 [.pure false (pktV p), .pure false (.sl (bytesOf more)), .pure false (.int .u16 k), .pure false (.sl (bytesOf b))] [] (.pure true (.bool true)) [] := by
  refine Runs.of Try.func11 rfl (by simp [Try.ntmps11]) ?_
  unfold pktV
  simp (maxSteps := 400000) -dsimp -implicitDefEqProofs (disch := first | exact TrueB.mk rfl | omega) only [go_sem, Nat.reduceMul, Nat.reduceAdd, Nat.reduceLT, Nat.reduceLeDiff, Nat.reducePow, Nat.reduceEqDiff, ↓reduceIte, reduceCtorEq, Int.reduceToNat, Try.ntmps11]
  first | refine wpAct_call0 (awake13_any) rfl rfl rfl rfl rfl rfl rfl rfl ?_ | done
  simp (maxSteps := 400000) -dsimp -implicitDefEqProofs (disch := first | exact TrueB.mk rfl | omega) only [go_sem, Nat.reduceMul, Nat.reduceAdd, Nat.reduceLT, Nat.reduceLeDiff, Nat.reducePow, Nat.reduceEqDiff, ↓reduceIte, reduceCtorEq, Int.reduceToNat]
  first | refine condK_dec (fun hb => ?_) (fun hb => ?_) | refine condK_ndec (fun hb => ?_) (fun hb => ?_) | refine condK_beq (fun hb => ?_) (fun hb => ?_) | refine condK_bne (fun hb => ?_) (fun hb => ?_) | refine condK_nbeq (fun hb => ?_) (fun hb => ?_) | refine guardK_dec (fun hb => ?_) (fun hb => ?_) | refine guardK_ndec (fun hb => ?_) (fun hb => ?_) | refine guardK_beq (fun hb => ?_) (fun hb => ?_) | refine guardK_bne (fun hb => ?_) (fun hb => ?_) | refine guardK_nbeq (fun hb => ?_) (fun hb => ?_) | refine condK_not (fun hb => ?_) (fun hb => ?_) | refine guardK_not (fun hb => ?_) (fun hb => ?_) | refine condK_bool (fun hb => ?_) (fun hb => ?_) | refine guardK_bool (fun hb => ?_) (fun hb => ?_) | done
  rotate_left
  · simp (maxSteps := 400000) -dsimp -implicitDefEqProofs (disch := first | exact TrueB.mk rfl | omega) only [go_sem, Nat.reduceMul, Nat.reduceAdd, Nat.reduceLT, Nat.reduceLeDiff, Nat.reducePow, Nat.reduceEqDiff, ↓reduceIte, reduceCtorEq, Int.reduceToNat]
    first | refine wpAct_call0 (awake13_any) rfl rfl rfl rfl rfl rfl rfl rfl ?_ | done
    simp (maxSteps := 400000) -dsimp -implicitDefEqProofs (disch := first | exact TrueB.mk rfl | omega) only [go_sem, Nat.reduceMul, Nat.reduceAdd, Nat.reduceLT, Nat.reduceLeDiff, Nat.reducePow, Nat.reduceEqDiff, ↓reduceIte, reduceCtorEq, Int.reduceToNat]
    first | exact end_bool rfl rfl | done
  simp (maxSteps := 400000) -dsimp -implicitDefEqProofs (disch := first | exact TrueB.mk rfl | omega) only [go_sem, Nat.reduceMul, Nat.reduceAdd, Nat.reduceLT, Nat.reduceLeDiff, Nat.reducePow, Nat.reduceEqDiff, ↓reduceIte, reduceCtorEq, Int.reduceToNat]
  first | refine condK_dec (fun hb2 => ?_) (fun hb2 => ?_) | refine condK_ndec (fun hb2 => ?_) (fun hb2 => ?_) | refine condK_beq (fun hb2 => ?_) (fun hb2 => ?_) | refine condK_bne (fun hb2 => ?_) (fun hb2 => ?_) | refine condK_nbeq (fun hb2 => ?_) (fun hb2 => ?_) | refine guardK_dec (fun hb2 => ?_) (fun hb2 => ?_) | refine guardK_ndec (fun hb2 => ?_) (fun hb2 => ?_) | refine guardK_beq (fun hb2 => ?_) (fun hb2 => ?_) | refine guardK_bne (fun hb2 => ?_) (fun hb2 => ?_) | refine guardK_nbeq (fun hb2 => ?_) (fun hb2 => ?_) | refine condK_not (fun hb2 => ?_) (fun hb2 => ?_) | refine guardK_not (fun hb2 => ?_) (fun hb2 => ?_) | refine condK_bool (fun hb2 => ?_) (fun hb2 => ?_) | refine guardK_bool (fun hb2 => ?_) (fun hb2 => ?_) | done
  rotate_left
  · simp (maxSteps := 400000) -dsimp -implicitDefEqProofs (disch := first | exact TrueB.mk rfl | omega) only [go_sem, Nat.reduceMul, Nat.reduceAdd, Nat.reduceLT, Nat.reduceLeDiff, Nat.reducePow, Nat.reduceEqDiff, ↓reduceIte, reduceCtorEq, Int.reduceToNat]
    first | refine wpAct_call0 (awake13_any) rfl rfl rfl rfl rfl rfl rfl rfl ?_ | done
    simp (maxSteps := 400000) -dsimp -implicitDefEqProofs (disch := first | exact TrueB.mk rfl | omega) only [go_sem, Nat.reduceMul, Nat.reduceAdd, Nat.reduceLT, Nat.reduceLeDiff, Nat.reducePow, Nat.reduceEqDiff, ↓reduceIte, reduceCtorEq, Int.reduceToNat]
    first | exact end_bool rfl rfl | done
  simp (maxSteps := 400000) -dsimp -implicitDefEqProofs (disch := first | exact TrueB.mk rfl | omega) only [go_sem, Nat.reduceMul, Nat.reduceAdd, Nat.reduceLT, Nat.reduceLeDiff, Nat.reducePow, Nat.reduceEqDiff, ↓reduceIte, reduceCtorEq, Int.reduceToNat]
  first | refine condK_dec (fun hb3 => ?_) (fun hb3 => ?_) | refine condK_ndec (fun hb3 => ?_) (fun hb3 => ?_) | refine condK_beq (fun hb3 => ?_) (fun hb3 => ?_) | refine condK_bne (fun hb3 => ?_) (fun hb3 => ?_) | refine condK_nbeq (fun hb3 => ?_) (fun hb3 => ?_) | refine guardK_dec (fun hb3 => ?_) (fun hb3 => ?_) | refine guardK_ndec (fun hb3 => ?_) (fun hb3 => ?_) | refine guardK_beq (fun hb3 => ?_) (fun hb3 => ?_) | refine guardK_bne (fun hb3 => ?_) (fun hb3 => ?_) | refine guardK_nbeq (fun hb3 => ?_) (fun hb3 => ?_) | refine condK_not (fun hb3 => ?_) (fun hb3 => ?_) | refine guardK_not (fun hb3 => ?_) (fun hb3 => ?_) | refine condK_bool (fun hb3 => ?_) (fun hb3 => ?_) | refine guardK_bool (fun hb3 => ?_) (fun hb3 => ?_) | done
  · simp (maxSteps := 400000) -dsimp -implicitDefEqProofs (disch := first | exact TrueB.mk rfl | omega) only [go_sem, Nat.reduceMul, Nat.reduceAdd, Nat.reduceLT, Nat.reduceLeDiff, Nat.reducePow, Nat.reduceEqDiff, ↓reduceIte, reduceCtorEq, Int.reduceToNat]
    first | refine wpAct_call0 (awake13_any) rfl rfl rfl rfl rfl rfl rfl rfl ?_ | done
    simp (maxSteps := 400000) -dsimp -implicitDefEqProofs (disch := first | exact TrueB.mk rfl | omega) only [go_sem, Nat.reduceMul, Nat.reduceAdd, Nat.reduceLT, Nat.reduceLeDiff, Nat.reducePow, Nat.reduceEqDiff, ↓reduceIte, reduceCtorEq, Int.reduceToNat]
    first | exact end_bool rfl rfl | done
  obtain ⟨z, hz, c1⟩ := pktPut_any p (by omega) false
  have hz' : z = 1 ∨ bytesOf (putP p) = [] := hz.imp_right fun e => by rw [e]; rfl
  simp (maxSteps := 400000) -dsimp -implicitDefEqProofs (disch := first | exact TrueB.mk rfl | omega) only [go_sem, Nat.reduceMul, Nat.reduceAdd, Nat.reduceLT, Nat.reduceLeDiff, Nat.reducePow, Nat.reduceEqDiff, ↓reduceIte, reduceCtorEq, Int.reduceToNat]
  first | refine wpAct_callG (c1) rfl rfl rfl rfl rfl rfl rfl rfl rfl ?_ | done
  by_cases hbad : badP p = 0
  · obtain ⟨c0, i0, u0, l0, _, _, _, _, e5, e6⟩ := good_pkt hbad
    have hpl : 4 ≤ (putP p).length ∧ (putP p).length ≤ 70010 := by
      rw [e5, List.length_append]
      simp only [List.length_cons, List.length_nil]
      omega
    clear e5
    have hg := getP_put hbad more
    have hg2 := getP_cut hbad (k % (putP p).length) (Nat.mod_lt _ (by omega))
    have c2 := pktGet_any (putP p ++ more) (by rw [List.length_append]; omega)
    have c3 := pktGet_any ((putP p).take (k % (putP p).length)) (by rw [List.length_take]; omega)
    rw [hg] at c2
    rw [hg2] at c3
    have hml : k % (putP p).length ≤ (putP p).length := Nat.le_of_lt (Nat.mod_lt _ (by omega))
    generalize (getP ((putP p).take (k % (putP p).length))).1 = q2 at *
    generalize hP : putP p = X at *
    simp (maxSteps := 400000) -dsimp -implicitDefEqProofs (disch := first | exact TrueB.mk rfl | omega) only [go_sem, Nat.reduceMul, Nat.reduceAdd, Nat.reduceLT, Nat.reduceLeDiff, Nat.reducePow, Nat.reduceEqDiff, ↓reduceIte, reduceCtorEq, Int.reduceToNat, hbad, hz']
    first | refine wpAct_callF (c2 _) rfl rfl rfl rfl (argV_r rfl (by rw [bytesOf_length, List.length_append]) argV_nil) rfl rfl rfl rfl ?_ | done
    simp (maxSteps := 400000) -dsimp -implicitDefEqProofs (disch := first | exact TrueB.mk rfl | omega) only [go_sem, Nat.reduceMul, Nat.reduceAdd, Nat.reduceLT, Nat.reduceLeDiff, Nat.reducePow, Nat.reduceEqDiff, ↓reduceIte, reduceCtorEq, Int.reduceToNat, pktV, tmod_nat, hml, Nat.sub_zero]
    first | refine wpAct_call0 (c3 _) rfl rfl rfl rfl rfl rfl rfl rfl ?_ | done
    simp (maxSteps := 400000) -dsimp -implicitDefEqProofs (disch := first | exact TrueB.mk rfl | omega) only [go_sem, Nat.reduceMul, Nat.reduceAdd, Nat.reduceLT, Nat.reduceLeDiff, Nat.reducePow, Nat.reduceEqDiff, ↓reduceIte, reduceCtorEq, Int.reduceToNat, pktV]
    first | refine wpAct_call0 (pktSame_any p p _ _) rfl rfl rfl rfl rfl rfl rfl rfl ?_ | done
    simp (maxSteps := 400000) -dsimp -implicitDefEqProofs (disch := first | exact TrueB.mk rfl | omega) only [go_sem, Nat.reduceMul, Nat.reduceAdd, Nat.reduceLT, Nat.reduceLeDiff, Nat.reducePow, Nat.reduceEqDiff, ↓reduceIte, reduceCtorEq, Int.reduceToNat]
    rcases getP_cases b with ⟨q, hq, hq1, hq2, hq3⟩ | ⟨e, hq, he⟩
    · have c4 := pktGet_any b (by omega)
      rw [hq] at c4
      obtain ⟨y, hy, c5⟩ := pktPut_any q (by unfold badP at hq1; split at hq1 <;> (try split at hq1) <;> omega) false
      rw [hq1] at c5
      generalize hQ : putP q = Y at *
      have hy' : y = 1 ∨ bytesOf Y = [] := hy.imp_right fun e => by rw [e]; rfl
      first | refine wpAct_call0 (c4 _) rfl rfl rfl rfl rfl rfl rfl rfl ?_ | done
      simp (maxSteps := 400000) -dsimp -implicitDefEqProofs (disch := first | exact TrueB.mk rfl | omega) only [go_sem, Nat.reduceMul, Nat.reduceAdd, Nat.reduceLT, Nat.reduceLeDiff, Nat.reducePow, Nat.reduceEqDiff, ↓reduceIte, reduceCtorEq, Int.reduceToNat, pktV]
      first | refine wpAct_callG (c5) rfl rfl rfl rfl rfl rfl rfl rfl rfl ?_ | done
      simp (maxSteps := 400000) -dsimp -implicitDefEqProofs (disch := first | exact TrueB.mk rfl | omega) only [go_sem, Nat.reduceMul, Nat.reduceAdd, Nat.reduceLT, Nat.reduceLeDiff, Nat.reducePow, Nat.reduceEqDiff, ↓reduceIte, reduceCtorEq, Int.reduceToNat, hy', hq2, hq3, Nat.sub_zero]
      first | exact end_bool rfl rfl | done
    · have c4 := pktGet_any b (by omega)
      rw [hq] at c4
      have he0 : (e : Int) ≠ 0 := by omega
      first | refine wpAct_call0 (c4 _) rfl rfl rfl rfl rfl rfl rfl rfl ?_ | done
      simp (maxSteps := 400000) -dsimp -implicitDefEqProofs (disch := first | exact TrueB.mk rfl | omega) only [go_sem, Nat.reduceMul, Nat.reduceAdd, Nat.reduceLT, Nat.reduceLeDiff, Nat.reducePow, Nat.reduceEqDiff, ↓reduceIte, reduceCtorEq, Int.reduceToNat, pktV, bytesOf_nil]
      first | refine wpAct_call0 (pktSame_any (0, 0, []) (0, 0, []) _ _) rfl rfl rfl rfl rfl rfl rfl rfl ?_ | done
      simp (maxSteps := 400000) -dsimp -implicitDefEqProofs (disch := first | exact TrueB.mk rfl | omega) only [go_sem, Nat.reduceMul, Nat.reduceAdd, Nat.reduceLT, Nat.reduceLeDiff, Nat.reducePow, Nat.reduceEqDiff, ↓reduceIte, reduceCtorEq, Int.reduceToNat]
      first | exact end_bool rfl rfl | done
  · simp (maxSteps := 400000) -dsimp -implicitDefEqProofs (disch := first | exact TrueB.mk rfl | omega) only [go_sem, Nat.reduceMul, Nat.reduceAdd, Nat.reduceLT, Nat.reduceLeDiff, Nat.reducePow, Nat.reduceEqDiff, ↓reduceIte, reduceCtorEq, Int.reduceToNat]
    rcases getP_cases b with ⟨q, hq, hq1, hq2, hq3⟩ | ⟨e, hq, he⟩
    · have c4 := pktGet_any b (by omega)
      rw [hq] at c4
      obtain ⟨y, hy, c5⟩ := pktPut_any q (by unfold badP at hq1; split at hq1 <;> (try split at hq1) <;> omega) false
      rw [hq1] at c5
      generalize hQ : putP q = Y at *
      have hy' : y = 1 ∨ bytesOf Y = [] := hy.imp_right fun e => by rw [e]; rfl
      first | refine wpAct_call0 (c4 _) rfl rfl rfl rfl rfl rfl rfl rfl ?_ | done
      simp (maxSteps := 400000) -dsimp -implicitDefEqProofs (disch := first | exact TrueB.mk rfl | omega) only [go_sem, Nat.reduceMul, Nat.reduceAdd, Nat.reduceLT, Nat.reduceLeDiff, Nat.reducePow, Nat.reduceEqDiff, ↓reduceIte, reduceCtorEq, Int.reduceToNat, pktV]
      first | refine wpAct_callG (c5) rfl rfl rfl rfl rfl rfl rfl rfl rfl ?_ | done
      simp (maxSteps := 400000) -dsimp -implicitDefEqProofs (disch := first | exact TrueB.mk rfl | omega) only [go_sem, Nat.reduceMul, Nat.reduceAdd, Nat.reduceLT, Nat.reduceLeDiff, Nat.reducePow, Nat.reduceEqDiff, ↓reduceIte, reduceCtorEq, Int.reduceToNat, hy', hq2, hq3, Nat.sub_zero]
      first | exact end_bool rfl rfl | done
    · have c4 := pktGet_any b (by omega)
      rw [hq] at c4
      have he0 : (e : Int) ≠ 0 := by omega
      first | refine wpAct_call0 (c4 _) rfl rfl rfl rfl rfl rfl rfl rfl ?_ | done
      simp (maxSteps := 400000) -dsimp -implicitDefEqProofs (disch := first | exact TrueB.mk rfl | omega) only [go_sem, Nat.reduceMul, Nat.reduceAdd, Nat.reduceLT, Nat.reduceLeDiff, Nat.reducePow, Nat.reduceEqDiff, ↓reduceIte, reduceCtorEq, Int.reduceToNat, pktV, bytesOf_nil]
      first | refine wpAct_call0 (pktSame_any (0, 0, []) (0, 0, []) _ _) rfl rfl rfl rfl rfl rfl rfl rfl ?_ | done
      simp (maxSteps := 400000) -dsimp -implicitDefEqProofs (disch := first | exact TrueB.mk rfl | omega) only [go_sem, Nat.reduceMul, Nat.reduceAdd, Nat.reduceLT, Nat.reduceLeDiff, Nat.reducePow, Nat.reduceEqDiff, ↓reduceIte, reduceCtorEq, Int.reduceToNat]
      first | exact end_bool rfl rfl | done

set_option maxHeartbeats 16000000 in
theorem packetKeeps_runs (b : List UInt8) : Runs Try.prog env 13 [.pure false (.sl (bytesOf b))] [] (.pure true (.bool true)) [] := by
  refine Runs.of Try.func13 rfl (by simp [Try.ntmps13]) ?_
  simp (maxSteps := 400000) -dsimp -implicitDefEqProofs (disch := first | exact TrueB.mk rfl | omega) only [go_sem, Nat.reduceMul, Nat.reduceAdd, Nat.reduceLT, Nat.reduceLeDiff, Nat.reducePow, Nat.reduceEqDiff, ↓reduceIte, reduceCtorEq, Int.reduceToNat, Try.ntmps13]
  first | refine wpAct_call0 (awake13_any) rfl rfl rfl rfl rfl rfl rfl rfl ?_ | done
  simp (maxSteps := 400000) -dsimp -implicitDefEqProofs (disch := first | exact TrueB.mk rfl | omega) only [go_sem, Nat.reduceMul, Nat.reduceAdd, Nat.reduceLT, Nat.reduceLeDiff, Nat.reducePow, Nat.reduceEqDiff, ↓reduceIte, reduceCtorEq, Int.reduceToNat]
  first | refine condK_dec (fun hb => ?_) (fun hb => ?_) | refine condK_ndec (fun hb => ?_) (fun hb => ?_) | refine condK_beq (fun hb => ?_) (fun hb => ?_) | refine condK_bne (fun hb => ?_) (fun hb => ?_) | refine condK_nbeq (fun hb => ?_) (fun hb => ?_) | refine guardK_dec (fun hb => ?_) (fun hb => ?_) | refine guardK_ndec (fun hb => ?_) (fun hb => ?_) | refine guardK_beq (fun hb => ?_) (fun hb => ?_) | refine guardK_bne (fun hb => ?_) (fun hb => ?_) | refine guardK_nbeq (fun hb => ?_) (fun hb => ?_) | refine condK_not (fun hb => ?_) (fun hb => ?_) | refine guardK_not (fun hb => ?_) (fun hb => ?_) | refine condK_bool (fun hb => ?_) (fun hb => ?_) | refine guardK_bool (fun hb => ?_) (fun hb => ?_) | done
  · simp (maxSteps := 400000) -dsimp -implicitDefEqProofs (disch := first | exact TrueB.mk rfl | omega) only [go_sem, Nat.reduceMul, Nat.reduceAdd, Nat.reduceLT, Nat.reduceLeDiff, Nat.reducePow, Nat.reduceEqDiff, ↓reduceIte, reduceCtorEq, Int.reduceToNat]
    first | refine wpAct_call0 (awake13_any) rfl rfl rfl rfl rfl rfl rfl rfl ?_ | done
    simp (maxSteps := 400000) -dsimp -implicitDefEqProofs (disch := first | exact TrueB.mk rfl | omega) only [go_sem, Nat.reduceMul, Nat.reduceAdd, Nat.reduceLT, Nat.reduceLeDiff, Nat.reducePow, Nat.reduceEqDiff, ↓reduceIte, reduceCtorEq, Int.reduceToNat]
    first | exact end_bool rfl rfl | done
  have c1 := pktGet_any b (by omega)
  have c2 := refPktGet_any b (by omega)
  have hql : (getP b).1.2.2.length ≤ 1000000 := by
    rcases getP_cases b with ⟨q, hq, hq1, _⟩ | ⟨e, hq, he⟩
    · rw [hq]; unfold badP at hq1; split at hq1 <;> (try split at hq1) <;> simp only <;> omega
    · rw [hq]; simp
  generalize (getP b).2 = er at *
  generalize (getP b).1 = q at *
  obtain ⟨zx, hzx, c3⟩ := pktPut_any q (by omega) false
  obtain ⟨zy, hzy, c4⟩ := magic_any q (by omega) false
  obtain ⟨zz, hzz, c5⟩ := rejected_any q (by omega) false
  have lx : (putP q).length ≤ 2000000 := by
    unfold putP
    split
    · simp only [List.length_cons]; omega
    · simp
  have ly : (magP q).2.1.length ≤ 1000000 := by
    unfold magP
    split
    · have := (begP_lt q.2.2 4).2; omega
    · simp
  have lz : (rejP q).2.1.length ≤ 1000000 := by
    unfold rejP
    split
    · have := (begP_lt q.2.2 2).2; omega
    · simp
  generalize putP q = X at *
  generalize magP q = Y at *
  generalize rejP q = Z at *
  simp (maxSteps := 400000) -dsimp -implicitDefEqProofs (disch := first | exact TrueB.mk rfl | omega) only [go_sem, Nat.reduceMul, Nat.reduceAdd, Nat.reduceLT, Nat.reduceLeDiff, Nat.reducePow, Nat.reduceEqDiff, ↓reduceIte, reduceCtorEq, Int.reduceToNat]
  first | refine wpAct_callF (c1 _) rfl rfl rfl rfl (argV_r rfl (bytesOf_length _).symm argV_nil) rfl rfl rfl rfl ?_ | done
  simp (maxSteps := 400000) -dsimp -implicitDefEqProofs (disch := first | exact TrueB.mk rfl | omega) only [go_sem, Nat.reduceMul, Nat.reduceAdd, Nat.reduceLT, Nat.reduceLeDiff, Nat.reducePow, Nat.reduceEqDiff, ↓reduceIte, reduceCtorEq, Int.reduceToNat, pktV, beq_same]
  refine wpLoop_ind (α := Nat × List UInt8)
    (fun a => ⟨[(0, .pure false (.sl (bytesOf b))), (3, .row 2016 b.length), (4, .ptr 2017 0), (6, .pure true (.int .i64 a.1))], [(2016, .row true 1 0 (bytesOf a.2)), (2017, .box [.pure true (.int .i64 q.1), .pure true (.int .i64 q.2.1), .pure true (.sl (bytesOf q.2.2))])]⟩)
    (fun a => a.1 ≤ b.length ∧ a.2.length = b.length) (fun a => b.length - a.1) ?_ (0, b) ⟨by simp, rfl⟩ rfl
  rintro ⟨i, own⟩ ⟨hi, ho⟩
  simp only at hi ho
  simp (maxSteps := 400000) -dsimp -implicitDefEqProofs (disch := first | exact TrueB.mk rfl | omega) only [go_sem, Nat.reduceMul, Nat.reduceAdd, Nat.reduceLT, Nat.reduceLeDiff, Nat.reducePow, Nat.reduceEqDiff, ↓reduceIte, reduceCtorEq, Int.reduceToNat]
  first | refine condK_dec (fun h1 => ?_) (fun h1 => ?_) | refine condK_ndec (fun h1 => ?_) (fun h1 => ?_) | refine condK_beq (fun h1 => ?_) (fun h1 => ?_) | refine condK_bne (fun h1 => ?_) (fun h1 => ?_) | refine condK_nbeq (fun h1 => ?_) (fun h1 => ?_) | refine guardK_dec (fun h1 => ?_) (fun h1 => ?_) | refine guardK_ndec (fun h1 => ?_) (fun h1 => ?_) | refine guardK_beq (fun h1 => ?_) (fun h1 => ?_) | refine guardK_bne (fun h1 => ?_) (fun h1 => ?_) | refine guardK_nbeq (fun h1 => ?_) (fun h1 => ?_) | refine condK_not (fun h1 => ?_) (fun h1 => ?_) | refine guardK_not (fun h1 => ?_) (fun h1 => ?_) | refine condK_bool (fun h1 => ?_) (fun h1 => ?_) | refine guardK_bool (fun h1 => ?_) (fun h1 => ?_) | done
  · have hlt : i < own.length := by omega
    have g1 := bytes_at hlt
    simp (maxSteps := 400000) -dsimp -implicitDefEqProofs (disch := first | exact TrueB.mk rfl | omega) only [go_sem, Nat.reduceMul, Nat.reduceAdd, Nat.reduceLT, Nat.reduceLeDiff, Nat.reducePow, Nat.reduceEqDiff, ↓reduceIte, reduceCtorEq, Int.reduceToNat, g1, ho, u8_step, bytes_set, Nat.zero_le, eq_self]
    refine again_mk ⟨(i + 1, own.set i (own[i] + 1)), ⟨by show i + 1 ≤ _; omega, by show (own.set i (own[i] + 1)).length = _; rw [List.length_set]; exact ho⟩, by show _ - (i + 1) < _ - i; omega, rfl⟩
  simp (maxSteps := 400000) -dsimp -implicitDefEqProofs (disch := first | exact TrueB.mk rfl | omega) only [go_sem, Nat.reduceMul, Nat.reduceAdd, Nat.reduceLT, Nat.reduceLeDiff, Nat.reducePow, Nat.reduceEqDiff, ↓reduceIte, reduceCtorEq, Int.reduceToNat]
  first | refine wpAct_call0 (c2 _) rfl rfl rfl rfl rfl rfl rfl rfl ?_ | done
  simp (maxSteps := 400000) -dsimp -implicitDefEqProofs (disch := first | exact TrueB.mk rfl | omega) only [go_sem, Nat.reduceMul, Nat.reduceAdd, Nat.reduceLT, Nat.reduceLeDiff, Nat.reducePow, Nat.reduceEqDiff, ↓reduceIte, reduceCtorEq, Int.reduceToNat, pktV]
  first | refine wpAct_call0 (refPktSame_any q q _ _) rfl rfl rfl rfl rfl rfl rfl rfl ?_ | done
  simp (maxSteps := 400000) -dsimp -implicitDefEqProofs (disch := first | exact TrueB.mk rfl | omega) only [go_sem, Nat.reduceMul, Nat.reduceAdd, Nat.reduceLT, Nat.reduceLeDiff, Nat.reducePow, Nat.reduceEqDiff, ↓reduceIte, reduceCtorEq, Int.reduceToNat]
  first | refine wpAct_callG (c3) rfl rfl rfl rfl rfl rfl rfl rfl rfl ?_ | done
  simp (maxSteps := 400000) -dsimp -implicitDefEqProofs (disch := first | exact TrueB.mk rfl | omega) only [go_sem, Nat.reduceMul, Nat.reduceAdd, Nat.reduceLT, Nat.reduceLeDiff, Nat.reducePow, Nat.reduceEqDiff, ↓reduceIte, reduceCtorEq, Int.reduceToNat]
  first | refine wpAct_callG (c4) rfl rfl rfl rfl rfl rfl rfl rfl rfl ?_ | done
  simp (maxSteps := 400000) -dsimp -implicitDefEqProofs (disch := first | exact TrueB.mk rfl | omega) only [go_sem, Nat.reduceMul, Nat.reduceAdd, Nat.reduceLT, Nat.reduceLeDiff, Nat.reducePow, Nat.reduceEqDiff, ↓reduceIte, reduceCtorEq, Int.reduceToNat]
  first | refine wpAct_callG (c5) rfl rfl rfl rfl rfl rfl rfl rfl rfl ?_ | done
  simp (maxSteps := 400000) -dsimp -implicitDefEqProofs (disch := first | exact TrueB.mk rfl | omega) only [go_sem, Nat.reduceMul, Nat.reduceAdd, Nat.reduceLT, Nat.reduceLeDiff, Nat.reducePow, Nat.reduceEqDiff, ↓reduceIte, reduceCtorEq, Int.reduceToNat]
  refine wpLoop_ind (α := Nat × List UInt8)
    (fun a => ⟨[(4, .ptr 2016 0), (7, .ptr 2017 0), (9, .row 2018 X.length), (12, .row 2019 Y.2.1.length), (15, .row 2020 Z.2.1.length), (17, .pure true (.int .i64 a.1))], [(2016, .box [.pure true (.int .i64 q.1), .pure true (.int .i64 q.2.1), .pure true (.sl (bytesOf q.2.2))]), (2017, .box [.pure true (.int .i64 q.1), .pure true (.int .i64 q.2.1), .pure true (.sl (bytesOf q.2.2))]), (2018, .row true zx 0 (bytesOf a.2)), (2019, .row true zy 0 (bytesOf Y.2.1)), (2020, .row true zz 0 (bytesOf Z.2.1))]⟩)
    (fun a => a.1 ≤ X.length ∧ a.2.length = X.length) (fun a => X.length - a.1) ?_ (0, X) ⟨by simp, rfl⟩ rfl
  rintro ⟨j1, w1⟩ ⟨hj1, hw1⟩
  simp only at hj1 hw1
  simp (maxSteps := 400000) -dsimp -implicitDefEqProofs (disch := first | exact TrueB.mk rfl | omega) only [go_sem, Nat.reduceMul, Nat.reduceAdd, Nat.reduceLT, Nat.reduceLeDiff, Nat.reducePow, Nat.reduceEqDiff, ↓reduceIte, reduceCtorEq, Int.reduceToNat]
  first | refine condK_dec (fun h2 => ?_) (fun h2 => ?_) | refine condK_ndec (fun h2 => ?_) (fun h2 => ?_) | refine condK_beq (fun h2 => ?_) (fun h2 => ?_) | refine condK_bne (fun h2 => ?_) (fun h2 => ?_) | refine condK_nbeq (fun h2 => ?_) (fun h2 => ?_) | refine guardK_dec (fun h2 => ?_) (fun h2 => ?_) | refine guardK_ndec (fun h2 => ?_) (fun h2 => ?_) | refine guardK_beq (fun h2 => ?_) (fun h2 => ?_) | refine guardK_bne (fun h2 => ?_) (fun h2 => ?_) | refine guardK_nbeq (fun h2 => ?_) (fun h2 => ?_) | refine condK_not (fun h2 => ?_) (fun h2 => ?_) | refine guardK_not (fun h2 => ?_) (fun h2 => ?_) | refine condK_bool (fun h2 => ?_) (fun h2 => ?_) | refine guardK_bool (fun h2 => ?_) (fun h2 => ?_) | done
  · have hlt : j1 < w1.length := by omega
    have g1 := bytes_at hlt
    have hz1 : zx = 1 := hzx.resolve_right fun e => by rw [e, List.length_nil] at hw1; omega
    simp (maxSteps := 400000) -dsimp -implicitDefEqProofs (disch := first | exact TrueB.mk rfl | omega) only [go_sem, Nat.reduceMul, Nat.reduceAdd, Nat.reduceLT, Nat.reduceLeDiff, Nat.reducePow, Nat.reduceEqDiff, ↓reduceIte, reduceCtorEq, Int.reduceToNat, g1, hw1, hz1, u8_step, bytes_set, Nat.zero_le, eq_self]
    refine again_mk ⟨(j1 + 1, w1.set j1 (w1[j1] + 1)), ⟨by show j1 + 1 ≤ _; omega, by show (w1.set j1 (w1[j1] + 1)).length = _; rw [List.length_set]; exact hw1⟩, by show _ - (j1 + 1) < _ - j1; omega, by rw [hz1]; rfl⟩
  simp (maxSteps := 400000) -dsimp -implicitDefEqProofs (disch := first | exact TrueB.mk rfl | omega) only [go_sem, Nat.reduceMul, Nat.reduceAdd, Nat.reduceLT, Nat.reduceLeDiff, Nat.reducePow, Nat.reduceEqDiff, ↓reduceIte, reduceCtorEq, Int.reduceToNat]
  refine wpLoop_ind (α := Nat × List UInt8)
    (fun a => ⟨[(4, .ptr 2016 0), (7, .ptr 2017 0), (12, .row 2018 Y.2.1.length), (15, .row 2019 Z.2.1.length), (18, .pure true (.int .i64 a.1))], [(2016, .box [.pure true (.int .i64 q.1), .pure true (.int .i64 q.2.1), .pure true (.sl (bytesOf q.2.2))]), (2017, .box [.pure true (.int .i64 q.1), .pure true (.int .i64 q.2.1), .pure true (.sl (bytesOf q.2.2))]), (2018, .row true zy 0 (bytesOf a.2)), (2019, .row true zz 0 (bytesOf Z.2.1))]⟩)
    (fun a => a.1 ≤ Y.2.1.length ∧ a.2.length = Y.2.1.length) (fun a => Y.2.1.length - a.1) ?_ (0, Y.2.1) ⟨by simp, rfl⟩ rfl
  rintro ⟨j2, w2⟩ ⟨hj2, hw2⟩
  simp only at hj2 hw2
  simp (maxSteps := 400000) -dsimp -implicitDefEqProofs (disch := first | exact TrueB.mk rfl | omega) only [go_sem, Nat.reduceMul, Nat.reduceAdd, Nat.reduceLT, Nat.reduceLeDiff, Nat.reducePow, Nat.reduceEqDiff, ↓reduceIte, reduceCtorEq, Int.reduceToNat]
  first | refine condK_dec (fun h3 => ?_) (fun h3 => ?_) | refine condK_ndec (fun h3 => ?_) (fun h3 => ?_) | refine condK_beq (fun h3 => ?_) (fun h3 => ?_) | refine condK_bne (fun h3 => ?_) (fun h3 => ?_) | refine condK_nbeq (fun h3 => ?_) (fun h3 => ?_) | refine guardK_dec (fun h3 => ?_) (fun h3 => ?_) | refine guardK_ndec (fun h3 => ?_) (fun h3 => ?_) | refine guardK_beq (fun h3 => ?_) (fun h3 => ?_) | refine guardK_bne (fun h3 => ?_) (fun h3 => ?_) | refine guardK_nbeq (fun h3 => ?_) (fun h3 => ?_) | refine condK_not (fun h3 => ?_) (fun h3 => ?_) | refine guardK_not (fun h3 => ?_) (fun h3 => ?_) | refine condK_bool (fun h3 => ?_) (fun h3 => ?_) | refine guardK_bool (fun h3 => ?_) (fun h3 => ?_) | done
  · have hlt : j2 < w2.length := by omega
    have g1 := bytes_at hlt
    have hz1 : zy = 1 := hzy.resolve_right fun e => by rw [e, List.length_nil] at hw2; omega
    simp (maxSteps := 400000) -dsimp -implicitDefEqProofs (disch := first | exact TrueB.mk rfl | omega) only [go_sem, Nat.reduceMul, Nat.reduceAdd, Nat.reduceLT, Nat.reduceLeDiff, Nat.reducePow, Nat.reduceEqDiff, ↓reduceIte, reduceCtorEq, Int.reduceToNat, g1, hw2, hz1, u8_step, bytes_set, Nat.zero_le, eq_self]
    refine again_mk ⟨(j2 + 1, w2.set j2 (w2[j2] + 1)), ⟨by show j2 + 1 ≤ _; omega, by show (w2.set j2 (w2[j2] + 1)).length = _; rw [List.length_set]; exact hw2⟩, by show _ - (j2 + 1) < _ - j2; omega, by rw [hz1]; rfl⟩
  simp (maxSteps := 400000) -dsimp -implicitDefEqProofs (disch := first | exact TrueB.mk rfl | omega) only [go_sem, Nat.reduceMul, Nat.reduceAdd, Nat.reduceLT, Nat.reduceLeDiff, Nat.reducePow, Nat.reduceEqDiff, ↓reduceIte, reduceCtorEq, Int.reduceToNat]
  refine wpLoop_ind (α := Nat × List UInt8)
    (fun a => ⟨[(4, .ptr 2016 0), (7, .ptr 2017 0), (15, .row 2018 Z.2.1.length), (19, .pure true (.int .i64 a.1))], [(2016, .box [.pure true (.int .i64 q.1), .pure true (.int .i64 q.2.1), .pure true (.sl (bytesOf q.2.2))]), (2017, .box [.pure true (.int .i64 q.1), .pure true (.int .i64 q.2.1), .pure true (.sl (bytesOf q.2.2))]), (2018, .row true zz 0 (bytesOf a.2))]⟩)
    (fun a => a.1 ≤ Z.2.1.length ∧ a.2.length = Z.2.1.length) (fun a => Z.2.1.length - a.1) ?_ (0, Z.2.1) ⟨by simp, rfl⟩ rfl
  rintro ⟨j3, w3⟩ ⟨hj3, hw3⟩
  simp only at hj3 hw3
  simp (maxSteps := 400000) -dsimp -implicitDefEqProofs (disch := first | exact TrueB.mk rfl | omega) only [go_sem, Nat.reduceMul, Nat.reduceAdd, Nat.reduceLT, Nat.reduceLeDiff, Nat.reducePow, Nat.reduceEqDiff, ↓reduceIte, reduceCtorEq, Int.reduceToNat]
  first | refine condK_dec (fun h4 => ?_) (fun h4 => ?_) | refine condK_ndec (fun h4 => ?_) (fun h4 => ?_) | refine condK_beq (fun h4 => ?_) (fun h4 => ?_) | refine condK_bne (fun h4 => ?_) (fun h4 => ?_) | refine condK_nbeq (fun h4 => ?_) (fun h4 => ?_) | refine guardK_dec (fun h4 => ?_) (fun h4 => ?_) | refine guardK_ndec (fun h4 => ?_) (fun h4 => ?_) | refine guardK_beq (fun h4 => ?_) (fun h4 => ?_) | refine guardK_bne (fun h4 => ?_) (fun h4 => ?_) | refine guardK_nbeq (fun h4 => ?_) (fun h4 => ?_) | refine condK_not (fun h4 => ?_) (fun h4 => ?_) | refine guardK_not (fun h4 => ?_) (fun h4 => ?_) | refine condK_bool (fun h4 => ?_) (fun h4 => ?_) | refine guardK_bool (fun h4 => ?_) (fun h4 => ?_) | done
  · have hlt : j3 < w3.length := by omega
    have g1 := bytes_at hlt
    have hz1 : zz = 1 := hzz.resolve_right fun e => by rw [e, List.length_nil] at hw3; omega
    simp (maxSteps := 400000) -dsimp -implicitDefEqProofs (disch := first | exact TrueB.mk rfl | omega) only [go_sem, Nat.reduceMul, Nat.reduceAdd, Nat.reduceLT, Nat.reduceLeDiff, Nat.reducePow, Nat.reduceEqDiff, ↓reduceIte, reduceCtorEq, Int.reduceToNat, g1, hw3, hz1, u8_step, bytes_set, Nat.zero_le, eq_self]
    refine again_mk ⟨(j3 + 1, w3.set j3 (w3[j3] + 1)), ⟨by show j3 + 1 ≤ _; omega, by show (w3.set j3 (w3[j3] + 1)).length = _; rw [List.length_set]; exact hw3⟩, by show _ - (j3 + 1) < _ - j3; omega, by rw [hz1]; rfl⟩
  simp (maxSteps := 400000) -dsimp -implicitDefEqProofs (disch := first | exact TrueB.mk rfl | omega) only [go_sem, Nat.reduceMul, Nat.reduceAdd, Nat.reduceLT, Nat.reduceLeDiff, Nat.reducePow, Nat.reduceEqDiff, ↓reduceIte, reduceCtorEq, Int.reduceToNat]
  first | refine wpAct_call0 (refPktSame_any q q _ _) rfl rfl rfl rfl rfl rfl rfl rfl ?_ | done
  simp (maxSteps := 400000) -dsimp -implicitDefEqProofs (disch := first | exact TrueB.mk rfl | omega) only [go_sem, Nat.reduceMul, Nat.reduceAdd, Nat.reduceLT, Nat.reduceLeDiff, Nat.reducePow, Nat.reduceEqDiff, ↓reduceIte, reduceCtorEq, Int.reduceToNat]
  first | exact end_bool rfl (by simp) | done
end Go.Proofs.Ytpgklagjjimbhaa
