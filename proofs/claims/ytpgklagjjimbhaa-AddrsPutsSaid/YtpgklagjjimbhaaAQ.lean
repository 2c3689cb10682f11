/- YtpgklagjjimbhaaAQ: the law AddrsPuts, over the evaluator. No claim. -/
import Derived.Test.YtpgklagjjimbhaaAO
import Derived.Test.YtpgklagjjimbhaaAP
import Derived.Test.YtpgklagjjimbhaaAR
set_option linter.unusedVariables false
set_option linter.unusedSimpArgs false
set_option maxRecDepth 100000
namespace Go.Proofs.Ytpgklagjjimbhaa
open Go Go.Proofs.Ytpgklagjjimbhaa.V

def onlyX (b : Bool) (x : W8) : Adr := { zeroA with hasId := b, id := x }
theorem u8z (x : UInt8) : x.toNat = 0 ↔ x = 0 := ⟨fun h => UInt8.toNat_inj.1 h, fun h => by rw [h]; rfl⟩
theorem sixZ_iff (a : Adr) : sixZ a = true ↔ onlyX a.hasId a.id = a := by
  obtain ⟨hip, ⟨i0, i1, i2, i3⟩, hvj, s, v, h0, h1, h2, h3, ⟨a0, a1, a2, a3⟩, ⟨b0, b1, b2, b3⟩, ⟨c0, c1, c2, c3⟩, ⟨d0, d1, d2, d3⟩, hid, idd⟩ := a
  have hz (x : UInt8) : 0 = x ↔ x = 0 := eq_comm
  have hs : (0 : Int) = s ↔ s = 0 := eq_comm
  simp [sixZ, onlyX, zeroA, u8z, hz, hs, and_assoc]
theorem someB_l8 (x : W8) : someB (l8 x) = !w8z x := by
  simp [someB, l8, w8z]
theorem right_l8 (x : W8) : rightP 32855 (1, l8 x) = !w8z x := by
  unfold rightP
  rw [if_pos rfl, someB_l8]
  rfl
theorem putOk_six (a : Adr) : putOk 32855 a (outX a) = (sixZ a && (a.hasId == !w8z a.id)) := by
  unfold putOk
  have hd : (decide ((32855 : Int) = 32801) || decide ((32855 : Int) = 32855)) = true := rfl
  rw [hd, Bool.and_true]
  cases h : a.hasId with
  | true =>
    have eo : outX a = [(1, l8 a.id)] := by unfold outX; rw [h]; rfl
    rw [eo]
    cases hz : w8z a.id with
    | true =>
      have : readA 32855 [(1, l8 a.id)] = (zeroA, false) := readA_no (by
        rintro ⟨h1, _⟩
        unfold allRight at h1
        simp only [List.all_cons, List.all_nil, Bool.and_true] at h1
        rw [right_l8, hz] at h1
        cases h1)
      rw [this]
      simp
    | false =>
      have : readA 32855 [(1, l8 a.id)] = (foldA 32855 [(1, l8 a.id)], true) := readA_yes ⟨by
        unfold allRight
        simp only [List.all_cons, List.all_nil, Bool.and_true]
        rw [right_l8, hz]
        rfl, by simp [twice]⟩
      rw [this]
      have ef : foldA 32855 [(1, l8 a.id)] = onlyX a.hasId a.id := by rw [h]; rfl
      rw [ef]
      have : adrEq (onlyX a.hasId a.id) a = sixZ a := by rw [Bool.eq_iff_iff, adrEq_iff, sixZ_iff]
      rw [this]
      simp
  | false =>
    have eo : outX a = [] := by unfold outX; rw [h]; rfl
    rw [eo]
    have : readA 32855 [] = (zeroA, true) := rfl
    rw [this]
    have : adrEq zeroA a = (sixZ a && w8z a.id) := by
      rw [Bool.eq_iff_iff, adrEq_iff, Bool.and_eq_true, sixZ_iff, w8z_iff, h]
      constructor
      · intro e
        rw [← e]
        exact ⟨rfl, rfl⟩
      · rintro ⟨e1, e2⟩
        rw [← e1, e2]
        rfl
    rw [this]
    simp
theorem putOk_ipc (a : Adr) (s0 : 0 ≤ a.slots) (s1 : a.slots ≤ 255) : putOk 32801 a (outI a) = mayI a := by
  unfold putOk
  rw [readA_yes ⟨outI_right a, outI_once a⟩]
  simp only
  rw [outI_fold, maskA_eq a s0 s1]
  simp
theorem putOk_out (a : Adr) (h : ¬ (0 ≤ a.slots ∧ a.slots ≤ 255)) : putOk 32801 a [] = mayI a := by
  unfold putOk
  have : readA 32801 [] = (zeroA, true) := rfl
  rw [this]
  obtain ⟨h1, h2⟩ := zero_not a h
  rw [h1, h2]
  rfl
theorem putOk_no (p : Int) (a : Adr) (h1 : ¬ p = 32855) (h2 : ¬ p = 32801) (o : List Opt) : putOk p a o = false := by
  unfold putOk
  rw [decide_eq_false h1, decide_eq_false h2]
  simp
/-- The list that addresses are put to. -/
def outP (p : Int) (a : Adr) : List Opt := if p = 32855 then outX a else if p = 32801 then (if 0 ≤ a.slots ∧ a.slots ≤ 255 then outI a else []) else []
theorem putOk_all (p : Int) (a : Adr) : putOk p a (outP p a) = mayA p a := by
  unfold outP mayA
  by_cases h1 : p = 32855
  · subst h1; rw [if_pos rfl, if_pos rfl]; exact putOk_six a
  · rw [if_neg h1, if_neg h1]
    by_cases h2 : p = 32801
    · subst h2
      rw [if_pos rfl]
      simp only [decide_true, Bool.true_and]
      by_cases h3 : 0 ≤ a.slots ∧ a.slots ≤ 255
      · rw [if_pos h3]; exact putOk_ipc a h3.1 h3.2
      · rw [if_neg h3]; exact putOk_out a h3
    · rw [if_neg h2, decide_eq_false h2]; exact putOk_no p a h1 h2 []
theorem put_any (p : Int) (a : Adr) (m : Bool) : putS p a (outP p a) m := by
  unfold outP
  by_cases h1 : p = 32855
  · subst h1; rw [if_pos rfl]; exact put_six m
  · rw [if_neg h1]
    by_cases h2 : p = 32801
    · subst h2
      rw [if_pos rfl]
      by_cases h3 : 0 ≤ a.slots ∧ a.slots ≤ 255
      · rw [if_pos h3]
        cases hv : a.vjId with
        | true =>
          have e : outI a = dnsO a (([] ++ optB a.hasVj 2 [0, 45, UInt8.ofNat a.slots.toNat, 1]) ++ optB a.hasIp 3 (l4 a.ip)) 4 := by unfold outI; rw [hv]; rfl
          rw [e]; exact put_ipcp1 h3.1 h3.2 hv m
        | false =>
          have e : outI a = dnsO a (([] ++ optB a.hasVj 2 [0, 45, UInt8.ofNat a.slots.toNat, 0]) ++ optB a.hasIp 3 (l4 a.ip)) 4 := by unfold outI; rw [hv]; rfl
          rw [e]; exact put_ipcp0 h3.1 h3.2 hv m
      · rw [if_neg h3]
        by_cases h4 : 0 ≤ a.slots
        · exact put_high (fun h => h3 ⟨h4, h⟩) m
        · exact put_low h4 m
    · rw [if_neg h2]; exact put_no h1 h2 m
theorem mayAny (p : Int) (a : Adr) (m : Bool) : Runs Try.prog env 62 [.pure m (.int .i64 p), .pure false (adrV a)] [] (.pure true (.bool (mayA p a))) [] := by
  unfold mayA
  by_cases h1 : p = 32855
  · subst h1; rw [if_pos rfl]; exact may_six a m
  · rw [if_neg h1]
    by_cases h2 : p = 32801
    · subst h2; simp only [decide_true, Bool.true_and]; exact may_ipc a m
    · rw [decide_eq_false h2]; exact may_none p a h1 h2 m
theorem refPut_any' (p : Int) (a : Adr) (h : mayA p a = true) (m : Bool) : Runs Try.prog env 63 [.pure m (.int .i64 p), .pure false (adrV a)] [] (.row 0 (outP p a).length) [(0, .row true (zOf (outP p a)) ((outP p a).length - 1) (optsV (outP p a)))] := by
  unfold mayA at h
  unfold outP
  by_cases h1 : p = 32855
  · rw [if_pos h1] at h ⊢
    rw [Bool.and_eq_true] at h
    have hs := (sixZ_iff a).1 h.1
    have e1 : a.hasVj = false := by rw [← hs]; rfl
    have e2 : a.hasIp = false := by rw [← hs]; rfl
    have e3 : a.h0 = false := by rw [← hs]; rfl
    have e4 : a.h1 = false := by rw [← hs]; rfl
    have e5 : a.h2 = false := by rw [← hs]; rfl
    have e6 : a.h3 = false := by rw [← hs]; rfl
    have ed (o : List Opt) : dnsO a o 4 = o := by
      show (((o ++ optB a.h0 _ _) ++ optB a.h1 _ _) ++ optB a.h2 _ _) ++ optB a.h3 _ _ = o
      rw [e3, e4, e5, e6]
      simp [optB]
    cases hi : a.hasId with
    | true =>
      have eo : outX a = dnsO a [(1, l8 a.id)] 4 := by rw [ed]; unfold outX; rw [hi]; rfl
      rw [eo]; exact refPut_six1 hi e1 e2 m
    | false =>
      have eo : outX a = dnsO a [] 4 := by rw [ed]; unfold outX; rw [hi]; rfl
      rw [eo]; exact refPut_six0 hi e1 e2 m
  · rw [if_neg h1] at h ⊢
    rw [Bool.and_eq_true] at h
    have h2 : p = 32801 := of_decide_eq_true h.1
    rw [if_pos h2]
    have hm := h.2
    by_cases h3 : 0 ≤ a.slots ∧ a.slots ≤ 255
    · rw [if_pos h3]
      have hI : a.hasId = false := by
        cases hi : a.hasId with
        | false => rfl
        | true => simp [mayI, hi] at hm
      obtain ⟨s0, s1⟩ := h3
      unfold outI
      cases hv : a.hasVj with
      | false => cases hi : a.hasIp with
        | false => exact refPut_n0 hI hv hi m
        | true => exact refPut_n1 hI hv hi m
      | true => cases hj : a.vjId with
        | false => cases hi : a.hasIp with
          | false => exact refPut_00 hI hv hi hj s0 s1 m
          | true => exact refPut_01 hI hv hi hj s0 s1 m
        | true => cases hi : a.hasIp with
          | false => exact refPut_10 hI hv hi hj s0 s1 m
          | true => exact refPut_11 hI hv hi hj s0 s1 m
    · rw [(zero_not a h3).2] at hm; cases hm

/-- A call that hands back a row, old or new. -/
theorem wpAct_callO {P : Program} {E : Env} {base : Nat} {o : Oper} {ev : Operand → SV} {look : Nat → Option Ob} {K : Eff → Prop} {c : Call} {f : Operand} {g : FuncId} {caps av : List SV} {m0 : Bool} {z lim : Nat} {xs : List PV} {res res' : SV}
    (hr : Runs P E g av [] res [(0, .row m0 z lim xs)]) (ho : o.op = .call c) (hc : c.callee = .value f) (hf : ev f = .clo g caps) (hi : E.intr g = none) (ha : argV base (E.byRef g) look (c.args.toList.map ev ++ caps) = some (av, [])) (hn : refsL av = [])
    (hren : ren (fun i => if i = 0 then some (base + 16 * (o.dst.getD 0)) else none) res = res')
    (hk : freshKeys look (base + 16 * (o.dst.getD 0)) 16 = true)
    (h : K { res := res', wr := [(base + 16 * (o.dst.getD 0), .row m0 z lim xs)], rd := some ((List.range 16).map (base + 16 * (o.dst.getD 0) + ·) ++ refsL (c.args.toList.map ev ++ caps)) }) : wpAct P E base o ev look K := by
  refine wpAct_call hr ho hc hf hi ha hn (by simp [hk]) ?_
  have e1 : (fun i => ((List.range ([(0, Ob.row m0 z lim xs)] : Store).length).map (base + 16 * (o.dst.getD 0) + ·))[i]?) = fun i => if i = 0 then some (base + 16 * (o.dst.getD 0)) else none := by
    funext i
    cases i with
    | zero => simp [List.range_succ]
    | succ i => simp [List.range_succ]
  rw [e1, hren]
  simpa [backAll, V.get, renO, List.range_succ] using h

set_option maxHeartbeats 16000000 in
theorem addrsPuts_runs (p : Int) (a : Adr) : Runs Try.prog env 16 [.pure false (.int .i64 p), .pure false (adrV a)] [] (.pure true (.bool true)) [] := by
  have c1 := fun m => put_any p a m
  have c2 := fun m => mayAny p a m
  have c3 := fun h m => refPut_any' p a h m
  have hok := putOk_all p a
  have hR : mayA p a = true → putR p a (outP p a) = outP p a := fun h => by unfold putR; rw [hok, if_pos h]
  have hN : mayA p a = false → putR p a (outP p a) = [] := fun h => by unfold putR; rw [hok, h]; rfl
  unfold putS at c1
  rw [hok] at c1
  have nl : (outP p a).length ≤ 6 := by
    unfold outP outX outI
    have := optB_len a.hasId 1 (l8 a.id)
    have l1 := dns_len a (([] ++ optB a.hasVj 2 [0, 45, UInt8.ofNat a.slots.toNat, if a.vjId then 1 else 0]) ++ optB a.hasIp 3 (l4 a.ip)) 4
    have l2 := optB_len a.hasVj 2 [0, 45, UInt8.ofNat a.slots.toNat, if a.vjId then 1 else 0]
    have l3 := optB_len a.hasIp 3 (l4 a.ip)
    simp only [List.length_append, List.length_nil] at l1
    split
    · simp only [List.length_append, List.length_nil]; omega
    · split
      · split
        · omega
        · simp
      · simp
  generalize putR p a (outP p a) = PR at *
  generalize outP p a = O at *
  unfold adrV at *
  refine Runs.of Try.func16 rfl (by simp [Try.ntmps16]) ?_
  simp (maxSteps := 400000) -dsimp -implicitDefEqProofs (disch := first | exact TrueB.mk rfl | omega) only [go_sem, Nat.reduceMul, Nat.reduceAdd, Nat.reduceLT, Nat.reduceLeDiff, Nat.reducePow, Nat.reduceEqDiff, ↓reduceIte, reduceCtorEq, Int.reduceToNat, Try.ntmps16]
  first | refine wpAct_call0 (awake15_any) rfl rfl rfl rfl rfl rfl rfl rfl ?_ | done
  simp (maxSteps := 400000) -dsimp -implicitDefEqProofs (disch := first | exact TrueB.mk rfl | omega) only [go_sem, Nat.reduceMul, Nat.reduceAdd, Nat.reduceLT, Nat.reduceLeDiff, Nat.reducePow, Nat.reduceEqDiff, ↓reduceIte, reduceCtorEq, Int.reduceToNat]
  cases hm : mayA p a with
  | true =>
    have e := hR hm
    subst e
    rw [hm] at c1 c2
    refine wpAct_callO (c1 _) rfl rfl rfl rfl rfl rfl rfl rfl ?_
    simp (maxSteps := 400000) -dsimp -implicitDefEqProofs (disch := first | exact TrueB.mk rfl | omega) only [go_sem, Nat.reduceMul, Nat.reduceAdd, Nat.reduceLT, Nat.reduceLeDiff, Nat.reducePow, Nat.reduceEqDiff, ↓reduceIte, reduceCtorEq, Int.reduceToNat]
    first | refine wpAct_call0 (c2 _) rfl rfl rfl rfl rfl rfl rfl rfl ?_ | done
    simp (maxSteps := 400000) -dsimp -implicitDefEqProofs (disch := first | exact TrueB.mk rfl | omega) only [go_sem, Nat.reduceMul, Nat.reduceAdd, Nat.reduceLT, Nat.reduceLeDiff, Nat.reducePow, Nat.reduceEqDiff, ↓reduceIte, reduceCtorEq, Int.reduceToNat]
    first | refine wpAct_callG (c3 hm _) rfl rfl rfl rfl rfl rfl rfl rfl rfl ?_ | done
    simp (maxSteps := 400000) -dsimp -implicitDefEqProofs (disch := first | exact TrueB.mk rfl | omega) only [go_sem, Nat.reduceMul, Nat.reduceAdd, Nat.reduceLT, Nat.reduceLeDiff, Nat.reducePow, Nat.reduceEqDiff, ↓reduceIte, reduceCtorEq, Int.reduceToNat]
    first | refine wpAct_callF (refSame_any PR PR (by omega) _ _) rfl rfl rfl rfl (argV_r rfl (optsV_length _).symm (argV_r rfl (optsV_length _).symm argV_nil)) rfl rfl rfl rfl ?_ | done
    simp (maxSteps := 400000) -dsimp -implicitDefEqProofs (disch := first | exact TrueB.mk rfl | omega) only [go_sem, Nat.reduceMul, Nat.reduceAdd, Nat.reduceLT, Nat.reduceLeDiff, Nat.reducePow, Nat.reduceEqDiff, ↓reduceIte, reduceCtorEq, Int.reduceToNat, beq_same]
    first | exact end_bool rfl (by simp) | done
  | false =>
    have e := hN hm
    subst e
    rw [hm] at c1 c2
    refine wpAct_callO (c1 _) rfl rfl rfl rfl rfl rfl rfl rfl ?_
    simp (maxSteps := 400000) -dsimp -implicitDefEqProofs (disch := first | exact TrueB.mk rfl | omega) only [go_sem, Nat.reduceMul, Nat.reduceAdd, Nat.reduceLT, Nat.reduceLeDiff, Nat.reducePow, Nat.reduceEqDiff, ↓reduceIte, reduceCtorEq, Int.reduceToNat]
    first | refine wpAct_call0 (c2 _) rfl rfl rfl rfl rfl rfl rfl rfl ?_ | done
    simp (maxSteps := 400000) -dsimp -implicitDefEqProofs (disch := first | exact TrueB.mk rfl | omega) only [go_sem, Nat.reduceMul, Nat.reduceAdd, Nat.reduceLT, Nat.reduceLeDiff, Nat.reducePow, Nat.reduceEqDiff, ↓reduceIte, reduceCtorEq, Int.reduceToNat]
    first | exact end_bool rfl (by simp) | done
end Go.Proofs.Ytpgklagjjimbhaa
