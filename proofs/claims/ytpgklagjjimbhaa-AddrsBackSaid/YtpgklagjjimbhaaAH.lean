/- YtpgklagjjimbhaaAH: addresses: what is bad. No claim. -/
import Derived.Test.YtpgklagjjimbhaaAE
import Derived.Test.YtpgklagjjimbhaaF
import Derived.Test.YtpgklagjjimbhaaM
set_option linter.unusedVariables false
set_option linter.unusedSimpArgs false
set_option maxRecDepth 100000
namespace Go.Proofs.Ytpgklagjjimbhaa
open Go Go.Proofs.Ytpgklagjjimbhaa.V

/-- A call that hands back two rows, old or new. -/
theorem wpAct_callRR {P : Program} {E : Env} {base : Nat} {o : Oper} {ev : Operand → SV} {look : Nat → Option Ob} {K : Eff → Prop} {c : Call} {f : Operand} {g : FuncId} {caps av : List SV} {m0 m1 : Bool} {z lim z1 lim1 : Nat} {xs xs1 : List PV} {res res' : SV}
    (hr : Runs P E g av [] res [(0, .row m0 z lim xs), (1, .row m1 z1 lim1 xs1)]) (ho : o.op = .call c) (hc : c.callee = .value f) (hf : ev f = .clo g caps) (hi : E.intr g = none) (ha : argV base (E.byRef g) look (c.args.toList.map ev ++ caps) = some (av, [])) (hn : refsL av = [])
    (hren : ren (fun i => if i = 0 then some (base + 16 * (o.dst.getD 0)) else if i = 1 then some (base + 16 * (o.dst.getD 0) + 1) else none) res = res')
    (hk : freshKeys look (base + 16 * (o.dst.getD 0)) 16 = true)
    (h : K { res := res', wr := [(base + 16 * (o.dst.getD 0), .row m0 z lim xs), (base + 16 * (o.dst.getD 0) + 1, .row m1 z1 lim1 xs1)], rd := some ((List.range 16).map (base + 16 * (o.dst.getD 0) + ·) ++ refsL (c.args.toList.map ev ++ caps)) }) : wpAct P E base o ev look K := by
  refine wpAct_call hr ho hc hf hi ha hn (by simp [hk]) ?_
  have e1 : (fun i => ((List.range ([(0, Ob.row m0 z lim xs), (1, Ob.row m1 z1 lim1 xs1)] : Store).length).map (base + 16 * (o.dst.getD 0) + ·))[i]?) = fun i => if i = 0 then some (base + 16 * (o.dst.getD 0)) else if i = 1 then some (base + 16 * (o.dst.getD 0) + 1) else none := by
    funext i
    match i with
    | 0 => simp [List.range_succ]
    | 1 => simp [List.range_succ]
    | i + 2 => simp [List.range_succ]
  rw [e1, hren]
  simpa [backAll, V.get, renO, List.range_succ] using h
/-- Two rows are handed back. -/
theorem end_rr {P : Program} {sl : Slots} {S : Store} {m1 m2 : Bool} {t1 t2 k1 k2 n1 n2 z1 z2 l1 l2 : Nat} {xs1 xs2 : List PV} (h1 : V.get sl t1 = some (.row k1 n1)) (h2 : V.get sl t2 = some (.row k2 n2))
    (hk1 : V.get S k1 = some (.row m1 z1 l1 xs1)) (hk2 : V.get S k2 = some (.row m2 z2 l2 xs2)) (hne : k1 ≠ k2) :
    outV P 0 [.tmp t1, .tmp t2] sl S = some (.tuple [.row 0 n1, .row 1 n2], [(0, .row m1 z1 l1 xs1), (1, .row m2 z2 l2 xs2)]) := by
  have hr : reach (V.get S) 256 [k1, k2] [] = [k1, k2] := by
    have : ¬ k2 = k1 := fun e => hne e.symm
    simp [reach, hk1, hk2, refsO, this]
  simp only [outV, resAll, resOne, h1, h2, back, single, leave, List.range_zero, refs, refsL, List.nil_append, List.cons_append, List.append_nil, hr]
  have : ¬ k1 = k2 := hne
  simp [takeAll, idx, ren, renL, hk1, hk2, renO, reset, rowOf, this]

def insteadD (p t : Int) : List UInt8 := if p = 32855 then [0, 0, 0, 0, 0, 0, 0, 1] else if t = 2 then [0, 45, 15, 0] else [10, 0, 0, 1]
def isAway (p : Int) (pre : List Opt) (o : Opt) : Bool := !knownP p o.1 || (findO pre o.1).isSome
def awayO (p : Int) (l : List Opt) : Nat → List Opt
  | 0 => []
  | i + 1 => match l[i]? with
    | some o => if isAway p (l.take i) o = true then awayO p l i ++ [o] else awayO p l i
    | none => awayO p l i
def changedO (p : Int) (l : List Opt) : Nat → List Opt
  | 0 => []
  | i + 1 => match l[i]? with
    | some o => if isAway p (l.take i) o = true ∨ rightP p o = true then changedO p l i else changedO p l i ++ [(o.1, insteadD p o.1)]
    | none => changedO p l i
theorem away_yes {p : Int} {l : List Opt} {i : Nat} (h : i < l.length) (e : isAway p (l.take i) l[i] = true) : awayO p l (i + 1) = awayO p l i ++ [l[i]] ∧ changedO p l (i + 1) = changedO p l i := by
  simp [awayO, changedO, h, e]
theorem away_no {p : Int} {l : List Opt} {i : Nat} (h : i < l.length) (e : isAway p (l.take i) l[i] = false) (hr : rightP p l[i] = true) : awayO p l (i + 1) = awayO p l i ∧ changedO p l (i + 1) = changedO p l i := by
  simp [awayO, changedO, h, e, hr]
theorem away_bad {p : Int} {l : List Opt} {i : Nat} (h : i < l.length) (e : isAway p (l.take i) l[i] = false) (hr : rightP p l[i] = false) : awayO p l (i + 1) = awayO p l i ∧ changedO p l (i + 1) = changedO p l i ++ [(l[i].1, insteadD p l[i].1)] := by
  simp [awayO, changedO, h, e, hr]
theorem away_len (p : Int) (l : List Opt) (i : Nat) : (awayO p l i).length ≤ i ∧ (changedO p l i).length ≤ i := by
  induction i with
  | zero => exact ⟨Nat.zero_le _, Nat.zero_le _⟩
  | succ i ih =>
    unfold awayO changedO
    cases l[i]? with
    | none => exact ⟨by simp only; omega, by simp only; omega⟩
    | some o =>
      simp only
      constructor
      · split
        · rw [List.length_append]; simp only [List.length_cons, List.length_nil]; omega
        · omega
      · split
        · omega
        · rw [List.length_append]; simp only [List.length_cons, List.length_nil]; omega

set_option maxHeartbeats 4000000 in
theorem instead_any (p t : Int) (m m' : Bool) : Runs Try.prog env 93 [.pure m (.int .i64 p), .pure m' (.int .i64 t)] [] (.pure m' (optV (t, insteadD p t))) [] := by
  unfold optV insteadD
  refine Runs.of Try.func93 rfl (by simp [Try.ntmps93]) ?_
  rcases Classical.em (p = 32855) with rfl | h1
  · rw [if_pos rfl]
    simp (maxSteps := 400000) -dsimp -implicitDefEqProofs (disch := first | exact TrueB.mk rfl | omega) only [go_sem, Nat.reduceMul, Nat.reduceAdd, Nat.reduceLT, Nat.reduceLeDiff, Nat.reducePow, Nat.reduceEqDiff, ↓reduceIte, reduceCtorEq, Int.reduceToNat, Try.ntmps93]
    cases m'
    all_goals first | exact rfl | done
  · rw [if_neg h1]
    rcases Classical.em (t = 2) with rfl | h2
    · rw [if_pos rfl]
      simp (maxSteps := 400000) -dsimp -implicitDefEqProofs (disch := first | exact TrueB.mk rfl | omega) only [go_sem, Nat.reduceMul, Nat.reduceAdd, Nat.reduceLT, Nat.reduceLeDiff, Nat.reducePow, Nat.reduceEqDiff, ↓reduceIte, reduceCtorEq, Int.reduceToNat, Try.ntmps93]
      cases m'
      all_goals first | exact rfl | done
    · rw [if_neg h2]
      simp (maxSteps := 400000) -dsimp -implicitDefEqProofs (disch := first | exact TrueB.mk rfl | omega) only [go_sem, Nat.reduceMul, Nat.reduceAdd, Nat.reduceLT, Nat.reduceLeDiff, Nat.reducePow, Nat.reduceEqDiff, ↓reduceIte, reduceCtorEq, Int.reduceToNat, Try.ntmps93]
      cases m'
      all_goals first | exact rfl | done
def fE (l : List Opt) : Bool := l.isEmpty
theorem fE_snoc (l : List Opt) (o : Opt) : fE (l ++ [o]) = false := by simp [fE]

set_option maxHeartbeats 16000000 in
theorem bad_any (p : Int) (l : List Opt) (hl : l.length ≤ 100000) (hd : ∀ o ∈ l, o.2.length ≤ 100000) (m : Bool) : Runs Try.prog env 64 [.pure m (.int .i64 p), .pure false (.sl (optsV l))] []
    (.tuple [.row 0 (awayO p l l.length).length, .row 1 (changedO p l l.length).length]) [(0, .row (fE (awayO p l l.length)) (zOf (awayO p l l.length)) ((awayO p l l.length).length - 1) (optsV (awayO p l l.length))), (1, .row (fE (changedO p l l.length)) (zOf (changedO p l l.length)) ((changedO p l l.length).length - 1) (optsV (changedO p l l.length)))] := by
  refine Runs.of Try.func64 rfl (by simp [Try.ntmps64]) ?_
  simp (maxSteps := 400000) -dsimp -implicitDefEqProofs (disch := first | exact TrueB.mk rfl | omega) only [go_sem, Nat.reduceMul, Nat.reduceAdd, Nat.reduceLT, Nat.reduceLeDiff, Nat.reducePow, Nat.reduceEqDiff, ↓reduceIte, reduceCtorEq, Int.reduceToNat, Try.ntmps64]
  refine wpLoop_ind (α := Nat)
    (fun i => ⟨[(0, .pure m (.int .i64 p)), (1, .pure false (.sl (optsV l))), (6, .row 976 (awayO p l i).length), (7, .row 977 (changedO p l i).length), (12, .pure false (.sl (optsV l))), (13, .pure true (.int .i64 l.length)), (14, .pure true (.int .i64 i))], [(976, .row (fE (awayO p l i)) (zOf (awayO p l i)) ((awayO p l i).length - 1) (optsV (awayO p l i))), (977, .row (fE (changedO p l i)) (zOf (changedO p l i)) ((changedO p l i).length - 1) (optsV (changedO p l i)))]⟩)
    (fun i => i ≤ l.length) (fun i => l.length - i) ?_ 0 (by simp) rfl
  rintro i hi
  obtain ⟨n1, n2⟩ := away_len p l i
  simp (maxSteps := 400000) -dsimp -implicitDefEqProofs (disch := first | exact TrueB.mk rfl | omega) only [go_sem, Nat.reduceMul, Nat.reduceAdd, Nat.reduceLT, Nat.reduceLeDiff, Nat.reducePow, Nat.reduceEqDiff, ↓reduceIte, reduceCtorEq, Int.reduceToNat]
  first | refine condK_dec (fun h1 => ?_) (fun h1 => ?_) | refine condK_ndec (fun h1 => ?_) (fun h1 => ?_) | refine condK_beq (fun h1 => ?_) (fun h1 => ?_) | refine condK_bne (fun h1 => ?_) (fun h1 => ?_) | refine condK_nbeq (fun h1 => ?_) (fun h1 => ?_) | refine guardK_dec (fun h1 => ?_) (fun h1 => ?_) | refine guardK_ndec (fun h1 => ?_) (fun h1 => ?_) | refine guardK_beq (fun h1 => ?_) (fun h1 => ?_) | refine guardK_bne (fun h1 => ?_) (fun h1 => ?_) | refine guardK_nbeq (fun h1 => ?_) (fun h1 => ?_) | refine condK_not (fun h1 => ?_) (fun h1 => ?_) | refine guardK_not (fun h1 => ?_) (fun h1 => ?_) | refine condK_bool (fun h1 => ?_) (fun h1 => ?_) | refine guardK_bool (fun h1 => ?_) (fun h1 => ?_) | done
  · have hlt : i < l.length := by omega
    have g1 := opts_at (l := l) (i := i) hlt
    obtain ⟨z, hz, c1⟩ := optFind_any (l.take i) (l[i]'hlt).1 (by rw [List.length_take]; omega) (fun o ho => by have := hd o (List.mem_of_mem_take ho); omega) false (false && true)
    simp (maxSteps := 400000) -dsimp -implicitDefEqProofs (disch := first | exact TrueB.mk rfl | omega) only [go_sem, Nat.reduceMul, Nat.reduceAdd, Nat.reduceLT, Nat.reduceLeDiff, Nat.reducePow, Nat.reduceEqDiff, ↓reduceIte, reduceCtorEq, Int.reduceToNat, g1, optsV_take, allW_optsV, List.drop_zero, Nat.sub_zero]
    first | refine wpAct_callG (c1) rfl rfl rfl rfl rfl rfl rfl rfl rfl ?_ | done
    simp (maxSteps := 400000) -dsimp -implicitDefEqProofs (disch := first | exact TrueB.mk rfl | omega) only [go_sem, Nat.reduceMul, Nat.reduceAdd, Nat.reduceLT, Nat.reduceLeDiff, Nat.reducePow, Nat.reduceEqDiff, ↓reduceIte, reduceCtorEq, Int.reduceToNat]
    first | refine wpAct_call0 (known_any p (l[i]'hlt).1 _ _) rfl rfl rfl rfl rfl rfl rfl rfl ?_ | done
    have hzA := zOf_or (awayO p l i)
    have hzC := zOf_or (changedO p l i)
    have hisA : isAway p (l.take i) (l[i]'hlt) = (!knownP p (l[i]'hlt).1 || (findO (l.take i) (l[i]'hlt).1).isSome) := rfl
    have hdi := hd _ (List.getElem_mem hlt)
    have h0 : (l[i]'hlt).2.drop 0 = (l[i]'hlt).2 := rfl
    have c2 := behind_any (l[i]'hlt).2 (by omega) 0 (by omega)
    rw [h0] at c2
    cases hA : isAway p (l.take i) (l[i]'hlt) with
    | true =>
      obtain ⟨e1, e2⟩ := away_yes hlt hA
      generalize awayO p l i = WA at *
      generalize changedO p l i = WC at *
      rw [hA] at hisA
      cases hk : knownP p (l[i]'hlt).1 with
      | false =>
        simp (maxSteps := 400000) -dsimp -implicitDefEqProofs (disch := first | exact TrueB.mk rfl | omega) only [go_sem, Nat.reduceMul, Nat.reduceAdd, Nat.reduceLT, Nat.reduceLeDiff, Nat.reducePow, Nat.reduceEqDiff, ↓reduceIte, reduceCtorEq, Int.reduceToNat, hk]
        first | refine wpAct_callG (c2 _ _) rfl rfl rfl rfl rfl rfl rfl rfl rfl ?_ | done
        simp (maxSteps := 400000) -dsimp -implicitDefEqProofs (disch := first | exact TrueB.mk rfl | omega) only [go_sem, Nat.reduceMul, Nat.reduceAdd, Nat.reduceLT, Nat.reduceLeDiff, Nat.reducePow, Nat.reduceEqDiff, ↓reduceIte, reduceCtorEq, Int.reduceToNat, hzA, opts_snoc, allScalar]
        refine again_mk ⟨i + 1, by omega, by omega, ?_⟩
        rw [e1, e2, zOf_snoc, fE_snoc]
        simp only [List.length_append, List.length_cons, List.length_nil]
        generalize fE WA = q
        cases q <;> rfl
      | true =>
        rw [hk] at hisA
        have hf : (findO (l.take i) (l[i]'hlt).1).isSome = true := hisA.symm
        simp (maxSteps := 400000) -dsimp -implicitDefEqProofs (disch := first | exact TrueB.mk rfl | omega) only [go_sem, Nat.reduceMul, Nat.reduceAdd, Nat.reduceLT, Nat.reduceLeDiff, Nat.reducePow, Nat.reduceEqDiff, ↓reduceIte, reduceCtorEq, Int.reduceToNat, hk, hf]
        first | refine wpAct_callG (c2 _ _) rfl rfl rfl rfl rfl rfl rfl rfl rfl ?_ | done
        simp (maxSteps := 400000) -dsimp -implicitDefEqProofs (disch := first | exact TrueB.mk rfl | omega) only [go_sem, Nat.reduceMul, Nat.reduceAdd, Nat.reduceLT, Nat.reduceLeDiff, Nat.reducePow, Nat.reduceEqDiff, ↓reduceIte, reduceCtorEq, Int.reduceToNat, hzA, opts_snoc, allScalar]
        refine again_mk ⟨i + 1, by omega, by omega, ?_⟩
        rw [e1, e2, zOf_snoc, fE_snoc]
        simp only [List.length_append, List.length_cons, List.length_nil]
        generalize fE WA = q
        cases q <;> rfl
    | false =>
      rw [hA] at hisA
      have hk : knownP p (l[i]'hlt).1 = true := by cases h : knownP p (l[i]'hlt).1 with | true => rfl | false => rw [h] at hisA; cases hisA
      rw [hk] at hisA
      have hf : (findO (l.take i) (l[i]'hlt).1).isSome = false := hisA.symm
      have c3 := fun m m' => right_any p (l[i]'hlt) m m'
      have c4 := fun m m' => instead_any p (l[i]'hlt).1 m m'
      unfold optV at c3 c4
      cases hr : rightP p (l[i]'hlt) with
      | true =>
        obtain ⟨e1, e2⟩ := away_no hlt hA hr
        simp (maxSteps := 400000) -dsimp -implicitDefEqProofs (disch := first | exact TrueB.mk rfl | omega) only [go_sem, Nat.reduceMul, Nat.reduceAdd, Nat.reduceLT, Nat.reduceLeDiff, Nat.reducePow, Nat.reduceEqDiff, ↓reduceIte, reduceCtorEq, Int.reduceToNat, hk, hf]
        first | refine wpAct_call0 (c3 _ _) rfl rfl rfl rfl rfl rfl rfl rfl ?_ | done
        simp (maxSteps := 400000) -dsimp -implicitDefEqProofs (disch := first | exact TrueB.mk rfl | omega) only [go_sem, Nat.reduceMul, Nat.reduceAdd, Nat.reduceLT, Nat.reduceLeDiff, Nat.reducePow, Nat.reduceEqDiff, ↓reduceIte, reduceCtorEq, Int.reduceToNat, hr]
        refine again_mk ⟨i + 1, by omega, by omega, ?_⟩
        rw [e1, e2]
        rfl
      | false =>
        obtain ⟨e1, e2⟩ := away_bad hlt hA hr
        generalize awayO p l i = WA at *
        generalize changedO p l i = WC at *
        simp (maxSteps := 400000) -dsimp -implicitDefEqProofs (disch := first | exact TrueB.mk rfl | omega) only [go_sem, Nat.reduceMul, Nat.reduceAdd, Nat.reduceLT, Nat.reduceLeDiff, Nat.reducePow, Nat.reduceEqDiff, ↓reduceIte, reduceCtorEq, Int.reduceToNat, hk, hf]
        first | refine wpAct_call0 (c3 _ _) rfl rfl rfl rfl rfl rfl rfl rfl ?_ | done
        simp (maxSteps := 400000) -dsimp -implicitDefEqProofs (disch := first | exact TrueB.mk rfl | omega) only [go_sem, Nat.reduceMul, Nat.reduceAdd, Nat.reduceLT, Nat.reduceLeDiff, Nat.reducePow, Nat.reduceEqDiff, ↓reduceIte, reduceCtorEq, Int.reduceToNat, hr]
        first | refine wpAct_call0 (c4 _ _) rfl rfl rfl rfl rfl rfl rfl rfl ?_ | done
        simp (maxSteps := 400000) -dsimp -implicitDefEqProofs (disch := first | exact TrueB.mk rfl | omega) only [go_sem, Nat.reduceMul, Nat.reduceAdd, Nat.reduceLT, Nat.reduceLeDiff, Nat.reducePow, Nat.reduceEqDiff, ↓reduceIte, reduceCtorEq, Int.reduceToNat, hzC, opts_snoc, allScalar]
        refine again_mk ⟨i + 1, by omega, by omega, ?_⟩
        rw [e1, e2, zOf_snoc, fE_snoc]
        simp only [List.length_append, List.length_cons, List.length_nil]
        generalize fE WC = q
        cases q <;> rfl
  · simp (maxSteps := 400000) -dsimp -implicitDefEqProofs (disch := first | exact TrueB.mk rfl | omega) only [go_sem, Nat.reduceMul, Nat.reduceAdd, Nat.reduceLT, Nat.reduceLeDiff, Nat.reducePow, Nat.reduceEqDiff, ↓reduceIte, reduceCtorEq, Int.reduceToNat]
    obtain rfl : i = l.length := by omega
    first | exact end_rr rfl rfl rfl rfl (by decide) | done
end Go.Proofs.Ytpgklagjjimbhaa
